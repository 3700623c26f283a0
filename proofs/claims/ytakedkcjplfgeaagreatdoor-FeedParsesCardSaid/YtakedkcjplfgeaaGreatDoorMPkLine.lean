/- Contracts, proved. Conditions: theirs. -/
import Derived.Test.YtakedkcjplfgeaaGreatDoorMPkRecA
import Derived.Test.YtakedkcjplfgeaaGreatDoorMPkRecB
import Derived.Test.YtakedkcjplfgeaaGreatDoorMPkRecC
import Derived.Test.YtakedkcjplfgeaaGreatDoorMPkRecD
import Derived.Test.YtakedkcjplfgeaaGreatDoorMPkRecE
import Derived.Test.YtakedkcjplfgeaaGreatDoorMPkRecF
set_option maxRecDepth 1000000
set_option maxHeartbeats 32000000
open Go.Proofs.Tryz
namespace Go.Proofs.YtakedkcjplfgeaaGreatDoor
open Go.RowKit
open Frq Thr Tt Num Clk Dat Fld
def Ym (B g rb:Nat) (m E:Int) (mb own:Nat->Nat) (s':St) (o:Bool) (w w':World):Prop:= ∃ (vs':Nat->Value) (ts':List TripD) (own':Nat->Nat) (ids':Nat->List Ψ),kN B g rb m E vs' ts' mb own' s' ids' o [] w'/\(∀ j,j<4->ids' j=yX s'.t j)/\Mv own w own' w'
theorem QP (g:Nat) (kw:Ψ) (n:Int) (h0:(kw==[115,116,111,112])=false) (h1:(kw==[114,111,117,116,101])=false) (h2:(kw==[99,97,108,101,110,100,97,114])=false) (h3:(kw==[101,120,99,101,112,116,105,111,110])=false) (h4:(kw==[116,114,105,112])=false) (h10:(kw==[99,97,108,108])=false) (P:World->Prop) (w:World)
  (hc:Calls prog 118 #[(g,0),qP kw,n] w λq w'=>q=.returned (.tuple #[])/\P w'):
  Calls prog 41 #[(g,0),qP kw,n] w λq w'=>q=.returned (.tuple #[])/\P w':=by
 go_enter func41,ntmps41
 go_wp2_with (go_at_call 118;refine hc.mono ?_)
 rintro y1 w1 ⟨rfl,p1⟩;go_wp2;go_end0;exact⟨rfl,p1⟩
theorem Y5 (B g rb N:Nat) (m:Int) (vs:Nat->Value) (ts:List TripD) (mb own:Nat->Nat) (s:St) (ids:Nat->List Ψ) (o:Bool) (f0:Ψ) (fs:List Ψ) (n:Int) (s':St) (E:Int) (k:Nat) (hk:ZM f0=some k) (hlen:fs.length+1=wM k) (hcall:k=10->ts≠[])
  (HF:Hid (qy s k (f0::fs) n=(s',E))) (hl: ∀ x∈fs,x.length<=131072) (hN:ww N s) (hN2:N<=1000000) (hid: ∀ j,j<4->ids j=yX s.t j) (w:World) (h:kN B g rb m 0 vs ts mb own s ids o fs w):
  Calls prog 41 #[(g,0),qP f0,n] w λq w'=>q=.returned (.tuple #[])/\Ym B g rb m E mb own s' o w w':=by
 rcases Xk f0 with rfl|rfl|rfl|rfl|rfl|rfl|rfl|rfl|rfl|rfl|rfl|rfl|⟨n0,n1,n2,n3,n4,n5,n6,n7,n8,n9,n10,n11,hk0⟩
 ·
  obtain rfl:0=k:=qAB (show some 0=some k by rw[<-hk];decide);obtain⟨f1,f2,f3,f4,rfl⟩: ∃ f1 f2 f3 f4,fs=[f1,f2,f3,f4]:=by
   match fs,hlen with
   |[f1,f2,f3,f4],_=>exact⟨f1,f2,f3,f4,rfl⟩
  exact LP B g rb N m vs ts mb own s ids o f1 f2 f3 f4 n s' E HF (hl f1 σ) (hl f2 σ) (hl f4 σ) hN hN2 hid w h
 ·
  obtain rfl:1=k:=qAB (show some 1=some k by rw[<-hk];decide);obtain⟨f1,f2,f3,rfl⟩: ∃ f1 f2 f3,fs=[f1,f2,f3]:=by
   match fs,hlen with
   |[f1,f2,f3],_=>exact⟨f1,f2,f3,rfl⟩
  exact LQ B g rb N m vs ts mb own s ids o f1 f2 f3 n s' E HF (hl f1 σ) hN hN2 hid w h
 ·
  obtain rfl:2=k:=qAB (show some 2=some k by rw[<-hk];decide);obtain⟨f1,f2,f3,f4,rfl⟩: ∃ f1 f2 f3 f4,fs=[f1,f2,f3,f4]:=by
   match fs,hlen with
   |[f1,f2,f3,f4],_=>exact⟨f1,f2,f3,f4,rfl⟩
  exact LU B g rb N m vs ts mb own s ids o f1 f2 f3 f4 n s' E HF (hl f1 σ) hN hN2 hid w h
 ·
  obtain rfl:3=k:=qAB (show some 3=some k by rw[<-hk];decide);obtain⟨f1,f2,f3,rfl⟩: ∃ f1 f2 f3,fs=[f1,f2,f3]:=by
   match fs,hlen with
   |[f1,f2,f3],_=>exact⟨f1,f2,f3,rfl⟩
  exact LV B g rb N m vs ts mb own s ids o f1 f2 f3 n s' E HF (hl f1 σ) hN hN2 hid w h
 ·
  obtain rfl:4=k:=qAB (show some 4=some k by rw[<-hk];decide);obtain⟨f1,f2,f3,f4,rfl⟩: ∃ f1 f2 f3 f4,fs=[f1,f2,f3,f4]:=by
   match fs,hlen with
   |[f1,f2,f3,f4],_=>exact⟨f1,f2,f3,f4,rfl⟩
  exact LW B g rb N m vs ts mb own s ids o f1 f2 f3 f4 n s' E HF (hl f1 σ) (hl f2 σ) (hl f3 σ) hN hN2 hid w h
 ·
  obtain rfl:5=k:=qAB (show some 5=some k by rw[<-hk];decide);obtain⟨f1,f2,f3,f4,rfl⟩: ∃ f1 f2 f3 f4,fs=[f1,f2,f3,f4]:=by
   match fs,hlen with
   |[f1,f2,f3,f4],_=>exact⟨f1,f2,f3,f4,rfl⟩
  exact QP g _ n δ δ δ δ δ δ _ w (LD B g rb N m vs ts mb own s ids o f1 f2 f3 f4 n s' E HF (hl f1 σ) (hl f4 σ) hN hN2 hid w h)
 ·
  obtain rfl:6=k:=qAB (show some 6=some k by rw[<-hk];decide);obtain⟨f1,f2,rfl⟩: ∃ f1 f2,fs=[f1,f2]:=by
   match fs,hlen with
   |[f1,f2],_=>exact⟨f1,f2,rfl⟩
  exact QP g _ n δ δ δ δ δ δ _ w (LG B g rb N m vs ts mb own s ids o f1 f2 n s' E HF (hl f1 σ) (hl f2 σ) hN hN2 hid w h)
 ·
  obtain rfl:7=k:=qAB (show some 7=some k by rw[<-hk];decide);obtain⟨f1,f2,f3,rfl⟩: ∃ f1 f2 f3,fs=[f1,f2,f3]:=by
   match fs,hlen with
   |[f1,f2,f3],_=>exact⟨f1,f2,f3,rfl⟩
  exact QP g _ n δ δ δ δ δ δ _ w (LH B g rb N m vs ts mb own s ids o f1 f2 f3 n s' E HF (hl f1 σ) (hl f2 σ) (hl f3 σ) hN hN2 hid w h)
 ·
  obtain rfl:8=k:=qAB (show some 8=some k by rw[<-hk];decide);obtain⟨f1,f2,f3,f4,rfl⟩: ∃ f1 f2 f3 f4,fs=[f1,f2,f3,f4]:=by
   match fs,hlen with
   |[f1,f2,f3,f4],_=>exact⟨f1,f2,f3,f4,rfl⟩
  exact QP g _ n δ δ δ δ δ δ _ w (LJ B g rb N m vs ts mb own s ids o f1 f2 f3 f4 n s' E HF (hl f1 σ) (hl f2 σ) (hl f3 σ) hN hN2 hid w h)
 ·
  obtain rfl:9=k:=qAB (show some 9=some k by rw[<-hk];decide);obtain⟨f1,f2,f3,f4,f5,f6,rfl⟩: ∃ f1 f2 f3 f4 f5 f6,fs=[f1,f2,f3,f4,f5,f6]:=by
   match fs,hlen with
   |[f1,f2,f3,f4,f5,f6],_=>exact⟨f1,f2,f3,f4,f5,f6,rfl⟩
  exact QP g _ n δ δ δ δ δ δ _ w (LK B g rb N m vs ts mb own s ids o f1 f2 f3 f4 f5 f6 n s' E HF (hl f2 σ) (hl f3 σ) (hl f4 σ) (hl f5 σ) (hl f6 σ) hN hN2 hid w h)
 ·
  obtain rfl:10=k:=qAB (show some 10=some k by rw[<-hk];decide);obtain⟨f1,f2,f3,f4,rfl⟩: ∃ f1 f2 f3 f4,fs=[f1,f2,f3,f4]:=by
   match fs,hlen with
   |[f1,f2,f3,f4],_=>exact⟨f1,f2,f3,f4,rfl⟩
  obtain⟨pre,x,rfl⟩: ∃ pre x,ts=pre++[x]:=⟨ts.dropLast,ts.getLast (hcall rfl),(List.dropLast_concat_getLast (hcall rfl)).symm⟩;exact Fh B g rb N m vs pre x mb own s ids o f1 f2 f3 f4 n s' E HF (hl f1 σ) hN hN2 hid w h
 ·
  obtain rfl:11=k:=qAB (show some 11=some k by rw[<-hk];decide);obtain⟨f1,f2,f3,rfl⟩: ∃ f1 f2 f3,fs=[f1,f2,f3]:=by
   match fs,hlen with
   |[f1,f2,f3],_=>exact⟨f1,f2,f3,rfl⟩
  exact QP g _ n δ δ δ δ δ δ _ w (Fg B g rb m vs ts mb own s ids o f1 f2 f3 n s' E HF (hl f1 σ) (hl f2 σ) (hl f3 σ) hid w h)
 rw[hk0]at hk;cases hk
structure Eb (B g N:Nat) (m:Int) (mb own:Nat->Nat) (s:St) (w:World):Prop where
 small:ww N s
 ok:ZZ s.t
 opn:s.opened=true->s.t.trips≠[]
 mem: ∃ (u:Value) (e:Int) (vs:Nat->Value) (ts:List TripD) (ids:Nat->List Ψ),Ih g u e ⟨vs,s.t.fares,mb,s.rules,s.opened⟩ w/\kT B w vs ts mb own s ids/\(∀ j,j<4->ids j=yX s.t j)
 env:ah m w
 lg:own g=99
 l1:own 1=97
 l2:own 0=97
theorem Eb.mv {B g N:Nat} {m:Int} {mb own:Nat->Nat} {s:St} {w w':World} (h:Eb B g N m mb own s w) (hb:Bl w w'):Eb B g N m mb own s w':=by
 obtain⟨u,e,vs,ts,ids,h1,h2,h3⟩:=h.mem;exact⟨h.small,h.ok,h.opn,⟨u,e,vs,ts,ids,qX h1 hb,h2.bl hb,h3⟩,h.env.bl hb,h.lg,h.l1,h.l2⟩
theorem Eb.more {B g N M:Nat} {m:Int} {mb own:Nat->Nat} {s:St} {w:World} (h:Eb B g N m mb own s w) (hm:N<=M):Eb B g M m mb own s w:=⟨h.small.mono hm,h.ok,h.opn,h.mem,h.env,h.lg,h.l1,h.l2⟩
theorem I9 (B g N:Nat) (m:Int) (mb own:Nat->Nat) (s:St) (x:Ψ) (hx:x.length<=131072) (n:Int) (s':St) (E:Int) (H:Hid (vN s x n=(s',E))) (hN2:N<=999999) (w:World) (h:Eb B g N m mb own s w):
  Calls prog 20 #[(g,0),qP x,n] w λq w'=>q=.returned (E:Z)/\ ∃ own',Eb B g (N+1) m mb own' s' w'/\Mv own w own' w':=by
 have HF:=qA h;cases x with
 |nil=>
  have hq:(s,(0:Int))=(s',E):=by rw[<-H.o];rfl
  obtain⟨e1,e2⟩:=qAE hq;subst e1 e2;clear H hq;go_enter func20,ntmps20
  go_wp2;go_ret;exact⟨rfl,own,HF.o.more ω,Mv.refl own w⟩
 |cons b r=>
  have y0: ∀ w:World,(Instr.index 9 (qP (b::r)) (.int .i64 0)).run prog w=.ok (.int .u8 (b.toNat:Int)) w:=λw=>Nu.KI ⟨(b::r).toArray⟩ 0 0 rfl (by show 0<(b::r).toArray.size;simp) w
  by_cases h35:b=35
  ·
   have hq:(s,(0:Int))=(s',E):=by rw[<-H.o];unfold vN;rw[U6 (.inr (by rw[h35];rfl))]
   obtain⟨e1,e2⟩:=qAE hq;subst e1 e2;obtain⟨u1,-⟩:=ZX (n:=35) (k:=35) ω rfl h35;clear H hq;go_enter func20,ntmps20
   go_wp2;go_ret;exact⟨rfl,own,HF.o.more ω,Mv.refl own w⟩
  obtain⟨u1,-⟩:=xY (n:=35) (k:=35) rfl h35;have hno: ¬ ((b::r)=[]∨(b::r).head?=some 35):=by rintro(k|k);(cases k);(exact h35 (qAB k))
  have HNO:=qA hno;obtain⟨⟨l,e⟩,hs⟩: ∃ p,yM (b::r)=p:=⟨_,rfl⟩;have hsp:=λw=>NE ⟨(b::r).toArray⟩ (VO (b::r) ω) l e hs w
  have HSP:=qA hs;clear hs hno h35;go_enter func20,ntmps20
  go_wp2_with (go_at_call 39;refine(hsp _).mono ?_)
  intro y1 w1;first
   |(intro v1 hy1 o1 b1;subst hy1)
   |rintro⟨v1,rfl,o1,b1⟩
  have B1:=qA b1;by_cases he:e=0
  rotate_left
  ·
   have hq:=(DJ (s:=s) (n:=n) HNO.o HSP.o he).symm.trans H.o;obtain⟨e1,e2⟩:=qAE hq;subst e1 e2;have hee:(e != 0)=true:=by rw[bne_iff_ne];exact he
   clear H hq he;go_wp2;go_ret;exact⟨rfl,own,(HF.o.mv B1.o).more ω,yJ B1.o⟩
  subst he;have hne:=D6 HSP.o σ;obtain⟨f0,fs,rfl⟩: ∃ f0 fs,l=f0::fs:=by cases l with
   |nil=>exact absurd rfl hne
   |cons f0 fs=>exact⟨f0,fs,rfl⟩
  have hlen:=ZU HSP.o;have HL0:Hid (∀ y∈fs,y.length<=131072):=λy hy=>Ux (hlen y (List.mem_cons_of_mem _ hy)) hx
  obtain⟨pb,po,pc,rfl,k1,k2,k3,hc⟩:=(Qz o1).open σ;have hp:w.heap.size<=pb:=(qAG o1 pb rfl).1;have x0:w1.cell? (pb,po)=some (qP f0):=hc 0 _ rfl 0 _ rfl;have hpos:(0:Int)<((fs.length:Int)+1):=ω
  have HC:=qA (show ∀ (i:Nat) (y:Ψ),fs[i]? =some y->w1.cell? (pb,po+1+i)=some (qP y) from λi y hy=>by
   have h:=hc (i+1) y (by rw[List.getElem?_cons_succ];exact hy) 0 _ rfl;rw[show po+1+i=po+(i+1)*1+0 by omega];exact h)
  simp only[U7]at k1 ⊢;have k2x:pc<=9223372036854775807:=by first|exact k2|(unfold maxLen at k2;omega)|omega
  have k1':(1:Int)<=(fs.length:Int)+1:=ω
  have k2':(fs.length:Int)+1<=(pc:Int):=ω
  clear hne hlen hc o1;cases hk:ZM f0 with
  |none=>
   have hq:(s,(41:Int))=(s',E):=(tq HNO.o HSP.o hk).symm.trans H.o;obtain⟨e1,e2⟩:=qAE hq;subst e1 e2;have hsz:=λw=>BB f0 0 (by show eX f0=0;unfold eX;rw[hk]) w
   clear H HNO hq hk b1;go_wp2_with (go_at_call 40;refine(hsz _).mono ?_;rintro y2 w2 ⟨rfl,hw2⟩;obtain rfl:=hw2.symm)
   go_ret;exact⟨rfl,own,(HF.o.mv B1.o).more ω,yJ B1.o⟩
  |some k=>
   have HL:=qA ((tu (s:=s) (n:=n) HNO.o HSP.o (k:=k) hk).symm.trans H.o);have hsz:=λw=>BB f0 (wM k) (by show eX f0=wM k;unfold eX;rw[hk]) w
   have hk12:k<12:=(Uw.1 (yw hk)).1;have hc0:3<=wM k:=by
    rcases k with _|_|_|_|_|_|_|_|_|_|_|_|k
    all_goals first
     |decide
     |omega
   have cz:((wM k:Int)==0)=false:=π
   obtain⟨cn,hcn⟩:=ε (wM k);have HCN:=qA hcn;rw[hcn]at hsz cz hc0;clear H HNO hcn;by_cases hlen:fs.length+1=cn
   rotate_left
   ·
    have ce:((cn:Int) != (fs.length:Int)+1)=true:=by rw[bne_iff_ne];omega
    have hq:(s,(1:Int))=(s',E):=by rw[<-HL.o,U6 (by rw[HCN.o];simpa using hlen)]
    obtain⟨e1,e2⟩:=qAE hq;subst e1 e2;clear HL hq hlen hk b1;go_wp2_with (go_at_call 40;refine(hsz _).mono ?_;rintro y2 w2 ⟨rfl,hw2⟩;obtain rfl:=hw2.symm)
    go_ret;exact⟨rfl,own,(HF.o.mv B1.o).more ω,yJ B1.o⟩
   have ce:((cn:Int) != (fs.length:Int)+1)=false:=by rw[bne_eq_false_iff_eq];omega
   have HLEN:=qA hlen;have HL2:=qA (show(if k=10/\s.opened=false then(s,(8:Int))else if k=11/\0<s.rules then(s,6)else qy s k (f0::fs) n)=(s',E) by rw[<-HL.o,U5 (c:=(f0::fs).length≠wM k) (λh=>h (by rw[HCN.o];exact hlen))]);clear HL hlen;obtain⟨u,e0,vs,ts,ids,fa,pts,hid⟩:=HF.o.mem;have hgl:=lt_of_block fa;have hpg:pb≠g:=ω
   have FA:=qA (qX fa b1);have PT:=qA pts;have d30:w1.cell? (g,30)=some (s.opened:Z):=qC FA.o 30 _ rfl;have d29:w1.cell? (g,29)=some (s.rules:Z):=qC FA.o 29 _ rfl;clear fa pts;by_cases hbad1:k=10/\s.opened=false
   ·
    obtain⟨rfl,hb2⟩:=hbad1;obtain rfl:[99,97,108,108]=f0:=qAB (show some [99,97,108,108]=some f0 from(yw hk));have hq:(s,(8:Int))=(s',E):=by rw[<-HL2.o];rw[U6 ⟨rfl,hb2⟩]
    obtain⟨e1,e2⟩:=qAE hq;subst e1 e2;rw[hb2]at d30;clear HL2 hq b1 hk;go_wp2_with (go_at_call 40;refine(hsz _).mono ?_;rintro y2 w2 ⟨rfl,hw2⟩;obtain rfl:=hw2.symm)
    go_ret;exact⟨rfl,own,(HF.o.mv B1.o).more ω,yJ B1.o⟩
   by_cases hbad2:k=11/\0<s.rules
   ·
    obtain⟨rfl,hb2⟩:=hbad2;obtain rfl:[102,97,114,101,115]=f0:=qAB (show some [102,97,114,101,115]=some f0 from(yw hk));have hq:(s,(6:Int))=(s',E):=by rw[<-HL2.o];rw[U5 (by rintro⟨h,-⟩;exact absurd h δ),U6 ⟨rfl,hb2⟩]
    obtain⟨e1,e2⟩:=qAE hq;subst e1 e2;clear HL2 hq b1 hk;go_wp2_with (go_at_call 40;refine(hsz _).mono ?_;rintro y2 w2 ⟨rfl,hw2⟩;obtain rfl:=hw2.symm)
    go_ret;exact⟨rfl,own,(HF.o.mv B1.o).more ω,yJ B1.o⟩
   have HL3:=qA (show qy s k (f0::fs) n=(s',E) by rw[<-HL2.o,U5 hbad1,U5 hbad2]);have HES:=qA (show(qy s k (f0::fs) n).1=s' by rw[HL3.o]);have h10:k=10->s.opened=true:=λe=>by cases h:s.opened with|true=>rfl|false=>exact absurd ⟨e,h⟩ hbad1
   have hru:k=11-> ¬ 0<s.rules:=λe h=>hbad2 ⟨e,h⟩
   obtain⟨o',ho'⟩:=ε ((k==4||k==10));have HOPK:=qA (show s'.opened=o' by rw[<-HES.o,Wn,ho']);have HNEW:=qA (show Eb B g N m mb own s w->ww (N+1) s'/\ZZ s'.t/\(s'.opened=true->s'.t.trips≠[]) from λh=>by
    rw[<-HES.o];refine⟨YL h.small _ _ _,VQ h.ok h.small ω _ _ (λy hy=>Ux (ZU HSP.o y hy) hx) _,λho=>fE s k _ n ?_⟩;rw[Wn,Bool.or_eq_true,beq_iff_eq,beq_iff_eq]at ho;rcases ho with rfl|rfl
    · exact .inl rfl
    exact .inr ⟨rfl,h.opn (h10 rfl)⟩)
   have HREC:Hid (∀ (u2:Value) (W:World),JU pb w1 u2 fs->W=((w1.setCell (g,30) (o':Z)).setCell (g,0) u2).setCell (g,1) (.int .i64 0)->Calls prog 41 #[(g,0),qP f0,n] W λq w'=>q=.returned (.tuple #[])/\Ym B g pb m E mb (wO own pb 98) s' o' W w'):=λu2 W hf hW=>by
    have gs:Gr g w1 W:=by rw[hW];exact qJ (qJ (zH g w1 30 _) (zH g _ 0 _)) (zH g _ 1 _)
    have hb1:=b1.size;have fa2:Ih g u2 0 ⟨vs,s.t.fares,mb,s.rules,o'⟩ W:=by rw[hW];exact qQ (qQ (qQ FA.o 30 (o':Z)) 0 u2) 1 (.int .i64 0)
    have lgg:wO own pb 98 g=99:=(kC own ω 98).trans HF.o.lg;have le:=HF.o.env.lt;have n1:1≠g:=λe=>by have h1:=HF.o.l1;have h2:=HF.o.lg;rw[e]at h1;omega
    have n2:0≠g:=λe=>by have h1:=HF.o.l2;have h2:=HF.o.lg;rw[e]at h1;omega
    exact Y5 B g pb N m vs ts mb (wO own pb 98) s ids o' f0 fs n s' E k hk (by rw[HCN.o];exact HLEN.o) (λe h0=>by have h1:=PT.o.same;rw[h0]at h1;exact HF.o.opn (h10 e) h1) HL3 HL0.o HF.o.small ω hid W
     ⟨⟨⟨u2,fa2,hf.kept (qg gs k3 hpg)⟩,hpg,Nat.lt_of_lt_of_le k3 gs.size,(HF.o.env.bl b1).kept (qg gs ω n1) (qg gs ω n2),⟨n1,n2⟩⟩,
      ((PT.o.relabel hp 98).bl b1).kept gs (λb hb=>by simp only[qAA]at hb;rw[<-hb,lgg];omega),lgg,Zm own pb 98,(kC own ω 98).trans HF.o.l1,(kC own ω 98).trans HF.o.l2⟩
   have q0:w1.cell? (g,0)=some u:=qC FA.o 0 _ rfl;have q1:w1.cell? (g,1)=some (e0:Z):=qC FA.o 1 _ rfl;have fr0:=U8 FA.o 0;have fr1:=U8 FA.o 1;have fr30:=U8 FA.o 30;have hw: ∀ j w,Vj[j]? =some w->k≠j->ZM w=some j->(f0==w)=false:=λj w _ hj hw=>by
    rw[U0];intro e;rw[e,hw]at hk;exact hj (qAB hk).symm
   have hf0:Vj[k]? =some f0:=yw hk;clear hbad1 hbad2 HL2 b1;by_cases hkk:k=10
   ·
    subst hkk;obtain rfl:[99,97,108,108]=f0:=qAB hf0;obtain rfl:true=o':=ho';have ho:=h10 rfl;rw[ho]at d30;clear h10 hru hw hf0 hk hk12;go_wp2_with (first
     |(go_at_call 40;refine(hsz _).mono ?_;rintro y2 w2 ⟨rfl,hw2⟩;obtain rfl:=hw2.symm)
     |(go_at_call 41;refine Calls.mono (HREC.o _ _ ?_ rfl) ?_;(first|exact⟨_,_,rfl,ω,ζ,λh0=>ω⟩|exact⟨_,_,rfl,ω,ζ,λh0=>⟨po+1,rfl,HC.o⟩⟩);rintro y3 w3 ⟨rfl,vs3,ts3,own3,ids3,R3,hid3,M3⟩;obtain⟨u3,fa3,-⟩:=R3.rat.at';have e3:w3.cell? (g,1)=some (E:Z):=qC fa3 1 _ rfl))
    all_goals
     go_ret;exact⟨rfl,own3,⟨(HNEW.o HF.o).1,(HNEW.o HF.o).2.1,(HNEW.o HF.o).2.2,⟨u3,E,vs3,ts3,ids3,by rw[HOPK.o];exact fa3,R3.parts,hid3⟩,R3.rat.env,R3.lg,R3.l1,R3.l2⟩,(VB B1.o hp 98).trans ((QK (qJ (qJ (zH g w1 30 _) (zH g _ 0 _)) (zH g _ 1 _)) ((kC own ω 98).trans HF.o.lg)).trans M3)⟩
   by_cases hkk:k=11
   ·
    subst hkk;obtain rfl:[102,97,114,101,115]=f0:=qAB hf0;obtain rfl:false=o':=ho';have hru:=hru rfl;clear h10 hw hf0 hk hk12;go_wp2_with (first
     |(go_at_call 40;refine(hsz _).mono ?_;rintro y2 w2 ⟨rfl,hw2⟩;obtain rfl:=hw2.symm)
     |(go_at_call 41;refine Calls.mono (HREC.o _ _ ?_ rfl) ?_;(first|exact⟨_,_,rfl,ω,ζ,λh0=>ω⟩|exact⟨_,_,rfl,ω,ζ,λh0=>⟨po+1,rfl,HC.o⟩⟩);rintro y3 w3 ⟨rfl,vs3,ts3,own3,ids3,R3,hid3,M3⟩;obtain⟨u3,fa3,-⟩:=R3.rat.at';have e3:w3.cell? (g,1)=some (E:Z):=qC fa3 1 _ rfl))
    all_goals
     go_ret;exact⟨rfl,own3,⟨(HNEW.o HF.o).1,(HNEW.o HF.o).2.1,(HNEW.o HF.o).2.2,⟨u3,E,vs3,ts3,ids3,by rw[HOPK.o];exact fa3,R3.parts,hid3⟩,R3.rat.env,R3.lg,R3.l1,R3.l2⟩,(VB B1.o hp 98).trans ((QK (qJ (qJ (zH g w1 30 _) (zH g _ 0 _)) (zH g _ 1 _)) ((kC own ω 98).trans HF.o.lg)).trans M3)⟩
   have t10:=hw 10 [99,97,108,108] rfl (by assumption) δ;have t11:=hw 11 [102,97,114,101,115] rfl (by assumption) δ;by_cases hkk:k=4
   ·
    subst hkk;obtain rfl:[116,114,105,112]=f0:=qAB hf0;obtain rfl:true=o':=ho';clear h10 hru hw hf0 hk hk12;go_wp2_with (first
     |(go_at_call 40;refine(hsz _).mono ?_;rintro y2 w2 ⟨rfl,hw2⟩;obtain rfl:=hw2.symm)
     |(go_at_call 41;refine Calls.mono (HREC.o _ _ ?_ rfl) ?_;(first|exact⟨_,_,rfl,ω,ζ,λh0=>ω⟩|exact⟨_,_,rfl,ω,ζ,λh0=>⟨po+1,rfl,HC.o⟩⟩);rintro y3 w3 ⟨rfl,vs3,ts3,own3,ids3,R3,hid3,M3⟩;obtain⟨u3,fa3,-⟩:=R3.rat.at';have e3:w3.cell? (g,1)=some (E:Z):=qC fa3 1 _ rfl))
    all_goals
     go_ret;exact⟨rfl,own3,⟨(HNEW.o HF.o).1,(HNEW.o HF.o).2.1,(HNEW.o HF.o).2.2,⟨u3,E,vs3,ts3,ids3,by rw[HOPK.o];exact fa3,R3.parts,hid3⟩,R3.rat.env,R3.lg,R3.l1,R3.l2⟩,(VB B1.o hp 98).trans ((QK (qJ (qJ (zH g w1 30 _) (zH g _ 0 _)) (zH g _ 1 _)) ((kC own ω 98).trans HF.o.lg)).trans M3)⟩
   have t4:=hw 4 [116,114,105,112] rfl hkk δ;obtain rfl:false=o':=by rw[<-ho',U0.2 hkk,U0.2 (show k≠10 by assumption)];rfl
   clear h10 hru hw hf0 hk hk12 ho';go_wp2_with (first
    |(go_at_call 40;refine(hsz _).mono ?_;rintro y2 w2 ⟨rfl,hw2⟩;obtain rfl:=hw2.symm)
    |(go_at_call 41;refine Calls.mono (HREC.o _ _ ?_ rfl) ?_;(first|exact⟨_,_,rfl,ω,ζ,λh0=>ω⟩|exact⟨_,_,rfl,ω,ζ,λh0=>⟨po+1,rfl,HC.o⟩⟩);rintro y3 w3 ⟨rfl,vs3,ts3,own3,ids3,R3,hid3,M3⟩;obtain⟨u3,fa3,-⟩:=R3.rat.at';have e3:w3.cell? (g,1)=some (E:Z):=qC fa3 1 _ rfl))
   all_goals
    go_ret;exact⟨rfl,own3,⟨(HNEW.o HF.o).1,(HNEW.o HF.o).2.1,(HNEW.o HF.o).2.2,⟨u3,E,vs3,ts3,ids3,by rw[HOPK.o];exact fa3,R3.parts,hid3⟩,R3.rat.env,R3.lg,R3.l1,R3.l2⟩,(VB B1.o hp 98).trans ((QK (qJ (qJ (zH g w1 30 _) (zH g _ 0 _)) (zH g _ 1 _)) ((kC own ω 98).trans HF.o.lg)).trans M3)⟩
def uM (g:Nat) (mb:Nat->Nat):Nat->Nat:=λb=>if b=g then 99 else if b=mb 0 then 50 else if b=mb 1 then 51 else if b=mb 2 then 52 else if b=mb 3 then 53 else 97
theorem Xv {g B:Nat} {mb:Nat->Nat} (hg:B<=g) (hm: ∀ j,j<4->B<=mb j) {b:Nat} (hb:b<B):uM g mb b=97:=by
 have h0:=hm 0 ω;have h1:=hm 1 ω;have h2:=hm 2 ω;have h3:=hm 3 ω;unfold uM;rw[U5 ω,U5 ω,U5 ω,U5 ω,U5 ω]
theorem Gv {g:Nat} {mb:Nat->Nat} (hg: ∀ j,j<4->mb j≠g) (hd: ∀ i j,i<4->j<4->mb i=mb j->i=j) {j:Nat} (hj:j<4):uM g mb (mb j)=50+j:=by
 have hn: ∀ i,i<4->i≠j->mb j≠mb i:=λi hi hne e=>hne (hd i j hi hj e.symm)
 unfold uM;rw[U5 (hg j hj)];rcases j with _|_|_|_|j
 · rw[U6 rfl]
 · rw[U5 (hn 0 ω ω),U6 rfl]
 · rw[U5 (hn 0 ω ω),U5 (hn 1 ω ω),U6 rfl]
 · rw[U5 (hn 0 ω ω),U5 (hn 1 ω ω),U5 (hn 2 ω ω),U6 rfl]
 omega
theorem Cf (B g:Nat) (m:Int) (mb:Nat->Nat) (w:World) (fa:Ih g (.slice none 0 0) 0 ⟨λ_=> .slice none 0 0,emptyT.fares,mb,0,false⟩ w) (hm: ∀ j,j<4->qx w (mb j) 0 []/\B<=mb j/\mb j≠g) (hd: ∀ i j,i<4->j<4->mb i=mb j->i=j) (env:ah m w) (hg:B<=g)
  (he:1<B/\0<B):Eb B g 0 m mb (uM g mb) Tt.start w where
 small:=oW
 ok:=aW
 opn h:=by cases h
 mem:=⟨_,_,_,_,_,fa,nz (U3 4) B mb _ w (λj hj=>⟨(hm j hj).1,(hm j hj).2.1⟩) (λj hj=>Gv (λj hj=>(hm j hj).2.2) hd hj),λj hj=>by
  rcases j with _|_|_|_|j
  all_goals first
   |rfl
   |omega⟩
 env:=env
 lg:=U6 rfl
 l1:=Xv hg (λj hj=>(hm j hj).2.1) he.1
 l2:=Xv hg (λj hj=>(hm j hj).2.1) he.2
def mb4 (a b c d:Nat):Nat->Nat
 |0=>a
 |1=>b
 |2=>c
 |_=>d
theorem Ce {w:World} {n:Nat} (h:w.heap.size=n) (B:Nat) (hB:B<=n) (C:Array Value) (T:TypeId): ∀ j,j<4->qx (((((w.alloc (.map #[] 0)).alloc (.map #[] 0)).alloc (.map #[] 0)).alloc (.map #[] 0)).alloc (.cells C T (0,0))) (mb4 n (n+1) (n+2) (n+3) j) 0 []/\B<=mb4 n (n+1) (n+2) (n+3) j/\mb4 n (n+1) (n+2) (n+3) j≠n+4:=λj hj=>by
 subst h;have e1:(w.alloc (.map #[] 0)).heap.size=w.heap.size+1:=σ
 have e2:((w.alloc (.map #[] 0)).alloc (.map #[] 0)).heap.size=w.heap.size+2:=σ
 have e3:(((w.alloc (.map #[] 0)).alloc (.map #[] 0)).alloc (.map #[] 0)).heap.size=w.heap.size+3:=σ
 have m0:=Q3 w;have m1:=Q3 (w.alloc (.map #[] 0));have m2:=Q3 ((w.alloc (.map #[] 0)).alloc (.map #[] 0));have m3:=Q3 (((w.alloc (.map #[] 0)).alloc (.map #[] 0)).alloc (.map #[] 0));have G: ∀ {w w':World} {b:Nat},qx w b 0 []->Bl w w'->qx w' b 0 []:=λh hb=>h.grown (J4 hb) σ
 rcases j with _|_|_|_|j
 · exact⟨G m0 (qE (qE (qE (qE (qB _) _) _) _) _),hB,by show w.heap.size≠_;omega⟩
 ·
  rw[e1]at m1;exact⟨G m1 (qE (qE (qE (qB _) _) _) _),by show B<=w.heap.size+1;omega,by show w.heap.size+1≠_;omega⟩
 ·
  rw[e2]at m2;exact⟨G m2 (qE (qE (qB _) _) _),by show B<=w.heap.size+2;omega,by show w.heap.size+2≠_;omega⟩
 ·
  rw[e3]at m3;exact⟨G m3 (qE (qB _) _),by show B<=w.heap.size+3;omega,by show w.heap.size+3≠_;omega⟩
 omega
theorem Oo (n:Nat): ∀ i j,i<4->j<4->mb4 n (n+1) (n+2) (n+3) i=mb4 n (n+1) (n+2) (n+3) j->i=j:=λi j hi hj h=>by
 have e: ∀ k,k<4->mb4 n (n+1) (n+2) (n+3) k=n+k:=λk hk=>by
  rcases k with _|_|_|_|k
  all_goals first
   |rfl
   |omega
 rw[e i hi,e j hj]at h;omega
