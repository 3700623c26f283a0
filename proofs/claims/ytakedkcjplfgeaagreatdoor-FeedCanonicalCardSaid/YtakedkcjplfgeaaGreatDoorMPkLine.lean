/- Contracts of the feed, proved. Conditions: those of each contract. -/
import Derived.Test.YtakedkcjplfgeaaGreatDoorMPkRecB
import Derived.Test.YtakedkcjplfgeaaGreatDoorMPkRecC
import Derived.Test.YtakedkcjplfgeaaGreatDoorMPkRecD
import Derived.Test.YtakedkcjplfgeaaGreatDoorMPkRecE
import Derived.Test.YtakedkcjplfgeaaGreatDoorMPkRecF
set_option maxRecDepth 1000000
set_option maxHeartbeats 32000000
namespace Go.Proofs.YtakedkcjplfgeaaGreatDoor
open Go.RowKit
open Frq Thr Tt Num Clk Dat Fld
def Ym (B g rb:Nat) (m E:Int) (mb own:Nat->Nat) (s':St) (o:Bool) (w w':World):Prop:= ∃ (vs':Nat->Value) (ts':List TripD) (own':Nat->Nat) (ids':Nat->List (List UInt8)),kN B g rb m E vs' ts' mb own' s' ids' o [] w'/\(∀ j,j<4->ids' j=yX s'.t j)/\Mv own w own' w'
theorem QP (g:Nat) (kw:List UInt8) (n:Int) (h0:(kw==[115,116,111,112])=false) (h1:(kw==[114,111,117,116,101])=false) (h2:(kw==[99,97,108,101,110,100,97,114])=false) (h3:(kw==[101,120,99,101,112,116,105,111,110])=false) (h4:(kw==[116,114,105,112])=false) (h10:(kw==[99,97,108,108])=false) (P:World->Prop) (w:World)
  (hc:Calls Tryz.prog 118 #[.pointer (some ⟨g,0,none⟩),qP kw, .int .i64 n] w fun q w'=>q= .returned (.tuple #[])/\P w'):
  Calls Tryz.prog 41 #[.pointer (some ⟨g,0,none⟩),qP kw, .int .i64 n] w fun q w'=>q= .returned (.tuple #[])/\P w':=by
 go_enter Tryz.func41,Tryz.ntmps41
 go_wp2_with (go_at_call 118;refine hc.mono ?_)
 rintro y1 w1 ⟨rfl,p1⟩;go_wp2;go_end0;exact⟨rfl,p1⟩
theorem Y5 (B g rb N:Nat) (m:Int) (vs:Nat->Value) (ts:List TripD) (mb own:Nat->Nat) (s:St) (ids:Nat->List (List UInt8)) (o:Bool) (f0:List UInt8) (fs:List (List UInt8)) (n:Int) (s':St) (E:Int) (k:Nat) (hk:ZM f0=some k) (hlen:fs.length+1=wM k) (hcall:k=10->ts≠[])
  (HF:Hid (qy s k (f0::fs) n=(s',E))) (hl: ∀ x∈fs,x.length<=131072) (hN:ww N s) (hN2:N<=1000000) (hid: ∀ j,j<4->ids j=yX s.t j) (w:World) (h:kN B g rb m 0 vs ts mb own s ids o fs w):
  Calls Tryz.prog 41 #[.pointer (some ⟨g,0,none⟩),qP f0, .int .i64 n] w fun q w'=>q= .returned (.tuple #[])/\Ym B g rb m E mb own s' o w w':=by
 rcases Xk f0 with rfl|rfl|rfl|rfl|rfl|rfl|rfl|rfl|rfl|rfl|rfl|rfl|⟨n0,n1,n2,n3,n4,n5,n6,n7,n8,n9,n10,n11,hk0⟩
 ·
  obtain rfl:0=k:=Option.some.inj (show some 0=some k by rw[<-hk];decide);obtain⟨f1,f2,f3,f4,rfl⟩: ∃ f1 f2 f3 f4,fs=[f1,f2,f3,f4]:=by
   match fs,hlen with
   |[f1,f2,f3,f4],_=>exact⟨f1,f2,f3,f4,rfl⟩
  exact LP B g rb N m vs ts mb own s ids o f1 f2 f3 f4 n s' E HF (hl f1 (by simp)) (hl f2 (by simp)) (hl f4 (by simp)) hN hN2 hid w h
 ·
  obtain rfl:1=k:=Option.some.inj (show some 1=some k by rw[<-hk];decide);obtain⟨f1,f2,f3,rfl⟩: ∃ f1 f2 f3,fs=[f1,f2,f3]:=by
   match fs,hlen with
   |[f1,f2,f3],_=>exact⟨f1,f2,f3,rfl⟩
  exact LQ B g rb N m vs ts mb own s ids o f1 f2 f3 n s' E HF (hl f1 (by simp)) hN hN2 hid w h
 ·
  obtain rfl:2=k:=Option.some.inj (show some 2=some k by rw[<-hk];decide);obtain⟨f1,f2,f3,f4,rfl⟩: ∃ f1 f2 f3 f4,fs=[f1,f2,f3,f4]:=by
   match fs,hlen with
   |[f1,f2,f3,f4],_=>exact⟨f1,f2,f3,f4,rfl⟩
  exact LU B g rb N m vs ts mb own s ids o f1 f2 f3 f4 n s' E HF (hl f1 (by simp)) hN hN2 hid w h
 ·
  obtain rfl:3=k:=Option.some.inj (show some 3=some k by rw[<-hk];decide);obtain⟨f1,f2,f3,rfl⟩: ∃ f1 f2 f3,fs=[f1,f2,f3]:=by
   match fs,hlen with
   |[f1,f2,f3],_=>exact⟨f1,f2,f3,rfl⟩
  exact LV B g rb N m vs ts mb own s ids o f1 f2 f3 n s' E HF (hl f1 (by simp)) hN hN2 hid w h
 ·
  obtain rfl:4=k:=Option.some.inj (show some 4=some k by rw[<-hk];decide);obtain⟨f1,f2,f3,f4,rfl⟩: ∃ f1 f2 f3 f4,fs=[f1,f2,f3,f4]:=by
   match fs,hlen with
   |[f1,f2,f3,f4],_=>exact⟨f1,f2,f3,f4,rfl⟩
  exact LW B g rb N m vs ts mb own s ids o f1 f2 f3 f4 n s' E HF (hl f1 (by simp)) (hl f2 (by simp)) (hl f3 (by simp)) hN hN2 hid w h
 ·
  obtain rfl:5=k:=Option.some.inj (show some 5=some k by rw[<-hk];decide);obtain⟨f1,f2,f3,f4,rfl⟩: ∃ f1 f2 f3 f4,fs=[f1,f2,f3,f4]:=by
   match fs,hlen with
   |[f1,f2,f3,f4],_=>exact⟨f1,f2,f3,f4,rfl⟩
  exact QP g _ n (by decide) (by decide) (by decide) (by decide) (by decide) (by decide) _ w (LD B g rb N m vs ts mb own s ids o f1 f2 f3 f4 n s' E HF (hl f1 (by simp)) (hl f4 (by simp)) hN hN2 hid w h)
 ·
  obtain rfl:6=k:=Option.some.inj (show some 6=some k by rw[<-hk];decide);obtain⟨f1,f2,rfl⟩: ∃ f1 f2,fs=[f1,f2]:=by
   match fs,hlen with
   |[f1,f2],_=>exact⟨f1,f2,rfl⟩
  exact QP g _ n (by decide) (by decide) (by decide) (by decide) (by decide) (by decide) _ w (LG B g rb N m vs ts mb own s ids o f1 f2 n s' E HF (hl f1 (by simp)) (hl f2 (by simp)) hN hN2 hid w h)
 ·
  obtain rfl:7=k:=Option.some.inj (show some 7=some k by rw[<-hk];decide);obtain⟨f1,f2,f3,rfl⟩: ∃ f1 f2 f3,fs=[f1,f2,f3]:=by
   match fs,hlen with
   |[f1,f2,f3],_=>exact⟨f1,f2,f3,rfl⟩
  exact QP g _ n (by decide) (by decide) (by decide) (by decide) (by decide) (by decide) _ w (LH B g rb N m vs ts mb own s ids o f1 f2 f3 n s' E HF (hl f1 (by simp)) (hl f2 (by simp)) (hl f3 (by simp)) hN hN2 hid w h)
 ·
  obtain rfl:8=k:=Option.some.inj (show some 8=some k by rw[<-hk];decide);obtain⟨f1,f2,f3,f4,rfl⟩: ∃ f1 f2 f3 f4,fs=[f1,f2,f3,f4]:=by
   match fs,hlen with
   |[f1,f2,f3,f4],_=>exact⟨f1,f2,f3,f4,rfl⟩
  exact QP g _ n (by decide) (by decide) (by decide) (by decide) (by decide) (by decide) _ w (LJ B g rb N m vs ts mb own s ids o f1 f2 f3 f4 n s' E HF (hl f1 (by simp)) (hl f2 (by simp)) (hl f3 (by simp)) hN hN2 hid w h)
 ·
  obtain rfl:9=k:=Option.some.inj (show some 9=some k by rw[<-hk];decide);obtain⟨f1,f2,f3,f4,f5,f6,rfl⟩: ∃ f1 f2 f3 f4 f5 f6,fs=[f1,f2,f3,f4,f5,f6]:=by
   match fs,hlen with
   |[f1,f2,f3,f4,f5,f6],_=>exact⟨f1,f2,f3,f4,f5,f6,rfl⟩
  exact QP g _ n (by decide) (by decide) (by decide) (by decide) (by decide) (by decide) _ w (LK B g rb N m vs ts mb own s ids o f1 f2 f3 f4 f5 f6 n s' E HF (hl f2 (by simp)) (hl f3 (by simp)) (hl f4 (by simp)) (hl f5 (by simp)) (hl f6 (by simp)) hN hN2 hid w h)
 ·
  obtain rfl:10=k:=Option.some.inj (show some 10=some k by rw[<-hk];decide);obtain⟨f1,f2,f3,f4,rfl⟩: ∃ f1 f2 f3 f4,fs=[f1,f2,f3,f4]:=by
   match fs,hlen with
   |[f1,f2,f3,f4],_=>exact⟨f1,f2,f3,f4,rfl⟩
  obtain⟨pre,x,rfl⟩: ∃ pre x,ts=pre++[x]:=⟨ts.dropLast,ts.getLast (hcall rfl),(List.dropLast_concat_getLast (hcall rfl)).symm⟩;exact Fh B g rb N m vs pre x mb own s ids o f1 f2 f3 f4 n s' E HF (hl f1 (by simp)) hN hN2 hid w h
 ·
  obtain rfl:11=k:=Option.some.inj (show some 11=some k by rw[<-hk];decide);obtain⟨f1,f2,f3,rfl⟩: ∃ f1 f2 f3,fs=[f1,f2,f3]:=by
   match fs,hlen with
   |[f1,f2,f3],_=>exact⟨f1,f2,f3,rfl⟩
  exact QP g _ n (by decide) (by decide) (by decide) (by decide) (by decide) (by decide) _ w (Fg B g rb m vs ts mb own s ids o f1 f2 f3 n s' E HF (hl f1 (by simp)) (hl f2 (by simp)) (hl f3 (by simp)) hid w h)
 ·
  rw[hk0]at hk;cases hk
structure Eb (B g N:Nat) (m:Int) (mb own:Nat->Nat) (s:St) (w:World):Prop where
 small:ww N s
 ok:ZZ s.t
 opn:s.opened=true->s.t.trips≠[]
 mem: ∃ (u:Value) (e:Int) (vs:Nat->Value) (ts:List TripD) (ids:Nat->List (List UInt8)),Ih g u e ⟨vs,s.t.fares,mb,s.rules,s.opened⟩ w/\kT B w vs ts mb own s ids/\(∀ j,j<4->ids j=yX s.t j)
 env:ah m w
 lg:own g=99
 l1:own 1=97
 l2:own 0=97
theorem Eb.mv {B g N:Nat} {m:Int} {mb own:Nat->Nat} {s:St} {w w':World} (h:Eb B g N m mb own s w) (hb:Bl w w'):Eb B g N m mb own s w':=by
 obtain⟨u,e,vs,ts,ids,h1,h2,h3⟩:=h.mem;exact⟨h.small,h.ok,h.opn,⟨u,e,vs,ts,ids,qX h1 hb,h2.bl hb,h3⟩,h.env.bl hb,h.lg,h.l1,h.l2⟩
theorem Eb.more {B g N M:Nat} {m:Int} {mb own:Nat->Nat} {s:St} {w:World} (h:Eb B g N m mb own s w) (hm:N<=M):Eb B g M m mb own s w:=⟨h.small.mono hm,h.ok,h.opn,h.mem,h.env,h.lg,h.l1,h.l2⟩
theorem kT.relabel {B:Nat} {w:World} {vs:Nat->Value} {ts:List TripD} {mb own:Nat->Nat} {s:St} {ids:Nat->List (List UInt8)} (h:kT B w vs ts mb own s ids) {pb:Nat} (hp:w.heap.size<=pb) (k:Nat):kT B w vs ts mb (wO own pb k) s ids:=
 ⟨h.same,h.lines,h.row,fun i hi b hb=>by rw[kC own (by have:=(World.ownsRow.lt (h.row i hi) b hb).2;omega)];exact h.lab i hi b hb,h.calls,h.ok,fun i x hx b hb=>by rw[kC own (by have:=(World.ownsRow.lt (h.calls i x hx) b hb).2;omega)];exact h.labc i x hx b hb,h.maps,fun j hj=>by rw[kC own (by have:=(h.maps j hj).lt;omega)];exact h.labm j hj⟩
theorem VB {own:Nat->Nat} {w w':World} (hb:Bl w w') {pb:Nat} (hp:w.heap.size<=pb) (k:Nat):Mv own w (wO own pb k) w':=
 ⟨hb.os,hb.tape,hb.output,hb.size,fun b hlt=>kC own (by omega) k,fun b hlt _=>hb.block b hlt⟩
theorem D6 {s:List UInt8} {l:List (List UInt8)} (h:yM s=(l,0)) (hs:s≠[]):l≠[]:=fun e=>by
 subst e;have h2:=tX h;rw[show zL []=([],0) from rfl]at h2;exact hs (Prod.mk.inj h2).1.symm
theorem Wn (s:St) (k:Nat) (f:List (List UInt8)) (n:Int):(qy s k f n).1.opened=(k==4||k==10):=by
 unfold qy;split
 all_goals first
  |rfl
  |(rename_i h0 h1 h2 h3 h4 h5 h6 h7 h8 h9 h10;show(_==4||_==10)=_;rfl)
theorem rP {l:List TripX} {c:CallD} (h:l≠[]):kH l c≠[]:=fun e=>by
 have:=Za l c;rw[e]at this;exact h (List.length_eq_zero_iff.1 this.symm)
theorem fE (s:St) (k:Nat) (f:List (List UInt8)) (n:Int) (hk:k=4∨(k=10/\s.t.trips≠[])):(qy s k f n).1.t.trips≠[]:=by
 rcases hk with rfl|⟨rfl,h⟩
 ·
  show s.t.trips++[_]≠[]
  simp
 · exact rP h
theorem tq {s:St} {x:List UInt8} {n:Int} {l:List (List UInt8)} (h1: ¬ (x=[]∨x.head?=some 35)) (hs:yM x=(l,0)) (hk:ZM (yK l 0)=none):vN s x n=(s,41):=by
 unfold vN;rw[if_neg h1,hs];simp only;rw[if_neg (by simp),hk]
theorem tu {s:St} {x:List UInt8} {n:Int} {l:List (List UInt8)} {k:Nat} (h1: ¬ (x=[]∨x.head?=some 35)) (hs:yM x=(l,0)) (hk:ZM (yK l 0)=some k):vN s x n=if l.length≠wM k then(s,1)
   else if k=10/\s.opened=false then(s,8)
   else if k=11/\0<s.rules then(s,6)
   else qy s k l n:=by
 unfold vN;rw[if_neg h1,hs];simp only;rw[if_neg (by simp),hk]
theorem DJ {s:St} {x:List UInt8} {n:Int} {l:List (List UInt8)} {e:Int} (h1: ¬ (x=[]∨x.head?=some 35)) (hs:yM x=(l,e)) (he:e≠0):vN s x n=(s,e):=by
 unfold vN;rw[if_neg h1,hs];simp only;rw[if_pos he]
theorem I9 (B g N:Nat) (m:Int) (mb own:Nat->Nat) (s:St) (x:List UInt8) (hx:x.length<=131072) (n:Int) (s':St) (E:Int) (H:Hid (vN s x n=(s',E))) (hN2:N<=999999) (w:World) (h:Eb B g N m mb own s w):
  Calls Tryz.prog 20 #[.pointer (some ⟨g,0,none⟩),qP x, .int .i64 n] w fun q w'=>q= .returned (.int .i64 E)/\ ∃ own',Eb B g (N+1) m mb own' s' w'/\Mv own w own' w':=by
 have HF:=qA h;cases x with
 |nil=>
  have hq:(s,(0:Int))=(s',E):=by rw[<-H.out];rfl
  obtain⟨e1,e2⟩:=Prod.mk.inj hq;subst e1 e2;clear H hq;go_enter Tryz.func20,Tryz.ntmps20
  go_wp2;go_ret;exact⟨rfl,own,HF.out.more (by omega),Mv.refl own w⟩
 |cons b r=>
  have y0: ∀ w:World,(Instr.index 9 (qP (b::r)) (.int .i64 0)).run Tryz.prog w= .ok (.int .u8 (b.toNat:Int)) w:=fun w=>Nu.KI ⟨(b::r).toArray⟩ 0 0 rfl (by show 0<(b::r).toArray.size;simp) w
  by_cases h35:b=35
  ·
   have hq:(s,(0:Int))=(s',E):=by rw[<-H.out];unfold vN;rw[if_pos (.inr (by rw[h35];rfl))]
   obtain⟨e1,e2⟩:=Prod.mk.inj hq;subst e1 e2;obtain⟨u1,-⟩:=ZX (n:=35) (k:=35) (by omega) rfl h35;clear H hq;go_enter Tryz.func20,Tryz.ntmps20
   go_wp2;go_ret;exact⟨rfl,own,HF.out.more (by omega),Mv.refl own w⟩
  ·
   obtain⟨u1,-⟩:=xY (n:=35) (k:=35) rfl h35;have hno: ¬ ((b::r)=[]∨(b::r).head?=some 35):=by rintro(k|k);(cases k);(exact h35 (Option.some.inj k))
   have HNO:=qA hno;obtain⟨⟨l,e⟩,hs⟩: ∃ p,yM (b::r)=p:=⟨_,rfl⟩;have hsp:=fun w=>NE ⟨(b::r).toArray⟩ (VO (b::r) (by omega)) l e hs w
   have HSP:=qA hs;clear hs hno h35;by_cases he:e=0
   ·
    subst he;have hne:=D6 HSP.out (by simp);obtain⟨f0,fs,rfl⟩: ∃ f0 fs,l=f0::fs:=by cases l with
     |nil=>exact absurd rfl hne
     |cons f0 fs=>exact⟨f0,fs,rfl⟩
    have hlen:=ZU HSP.out;have hl0: ∀ y∈fs,y.length<=131072:=fun y hy=>Nat.le_trans (hlen y (List.mem_cons_of_mem _ hy)) hx
    have HL0:=qA hl0;clear hne hlen hl0;cases hk:ZM f0 with
    |none=>
     have hq:(s,(41:Int))=(s',E):=(tq HNO.out HSP.out hk).symm.trans H.out;obtain⟨e1,e2⟩:=Prod.mk.inj hq;subst e1 e2;have hsz:=fun w=>BB f0 0 (by show eX f0=0;unfold eX;rw[hk]) w
     clear H HNO hq hk;go_enter Tryz.func20,Tryz.ntmps20
     go_wp2_with (go_at_call 39;refine(hsp _).mono ?_)
     intro y1 w1;first
      |(intro v1 hy1 o1 b1;subst hy1)
      |rintro⟨v1,rfl,o1,b1⟩
     obtain⟨pb,po,pc,rfl,k1,k2,k3,hc⟩:=(Qz o1).open (by simp);have x0:w1.cell? ⟨pb,po,none⟩=some (qP f0):=hc 0 _ rfl 0 _ rfl;have B1:=qA b1;have hpos:(0:Int)<((fs.length:Int)+1):=by omega
     simp only[List.length_cons]at k1 ⊢;clear hc b1 o1;go_wp2_with (go_at_call 40;refine(hsz _).mono ?_;rintro y2 w2 ⟨rfl,hw2⟩;obtain rfl:=hw2.symm)
     go_ret;exact⟨rfl,own,(HF.out.mv B1.out).more (by omega),yJ B1.out⟩
    |some k=>
     have HL:=qA ((tu (s:=s) (n:=n) HNO.out HSP.out (k:=k) hk).symm.trans H.out);have hsz:=fun w=>BB f0 (wM k) (by show eX f0=wM k;unfold eX;rw[hk]) w
     have hk12:k<12:=(List.getElem?_eq_some_iff.1 (yw hk)).1;have hc0:3<=wM k/\wM k<=7:=by
      rcases k with _|_|_|_|_|_|_|_|_|_|_|_|k
      all_goals first
       |exact⟨by decide,by decide⟩
       |omega
     have cz:((wM k:Int)==0)=false:=by rw[beq_eq_false_iff_ne];omega
     obtain⟨cn,hcn⟩: ∃ cn,wM k=cn:=⟨_,rfl⟩;have HCN:=qA hcn;rw[hcn]at hsz cz hc0;clear H HNO hcn;by_cases hlen:fs.length+1=cn
     ·
      have ce:((cn:Int) != (fs.length:Int)+1)=false:=by rw[bne_eq_false_iff_eq];omega
      have HLEN:=qA hlen;have HL2:=qA (show(if k=10/\s.opened=false then(s,(8:Int))else if k=11/\0<s.rules then(s,6)else qy s k (f0::fs) n)=(s',E) by rw[<-HL.out,if_neg (c:=(f0::fs).length≠wM k) (fun h=>h (by rw[HCN.out];exact hlen))]);clear HL hlen;obtain⟨u,e0,vs,ts,ids,fa,pts,hid⟩:=HF.out.mem;have c30:w.cell? ⟨g,30,none⟩=some (.bool s.opened):=qC fa 30 _ rfl;have c29:w.cell? ⟨g,29,none⟩=some (.int .i64 s.rules):=qC fa 29 _ rfl;have hgl:=lt_of_block fa;have FA:=qA fa;have PT:=qA pts;clear fa pts;by_cases hbad1:k=10/\s.opened=false
      ·
       obtain⟨rfl,hb2⟩:=hbad1;obtain rfl:[99,97,108,108]=f0:=Option.some.inj (show some [99,97,108,108]=some f0 from(yw hk));have hq:(s,(8:Int))=(s',E):=by rw[<-HL2.out];rw[if_pos ⟨rfl,hb2⟩]
       obtain⟨e1,e2⟩:=Prod.mk.inj hq;subst e1 e2;rw[hb2]at c30;clear HL2 hq;go_enter Tryz.func20,Tryz.ntmps20
       go_wp2_with (go_at_call 39;refine(hsp _).mono ?_)
       intro y1 w1;first
        |(intro v1 hy1 o1 b1;subst hy1)
        |rintro⟨v1,rfl,o1,b1⟩
       obtain⟨pb,po,pc,rfl,k1,k2,k3,hc⟩:=(Qz o1).open (by simp);have x0:w1.cell? ⟨pb,po,none⟩=some (qP [99,97,108,108]):=hc 0 _ rfl 0 _ rfl;have hpos:(0:Int)<((fs.length:Int)+1):=by omega
       have d30:w1.cell? ⟨g,30,none⟩=some (.bool false):=((qG b1).1 _ _ hgl).trans c30;have d29:w1.cell? ⟨g,29,none⟩=some (.int .i64 s.rules):=((qG b1).1 _ _ hgl).trans c29;have B1:=qA b1;simp only[List.length_cons]at k1 ⊢;clear hc b1 o1;go_wp2_with (go_at_call 40;refine(hsz _).mono ?_;rintro y2 w2 ⟨rfl,hw2⟩;obtain rfl:=hw2.symm)
       go_ret;exact⟨rfl,own,(HF.out.mv B1.out).more (by omega),yJ B1.out⟩
      ·
       by_cases hbad2:k=11/\0<s.rules
       ·
        obtain⟨rfl,hb2⟩:=hbad2;obtain rfl:[102,97,114,101,115]=f0:=Option.some.inj (show some [102,97,114,101,115]=some f0 from(yw hk));have hq:(s,(6:Int))=(s',E):=by rw[<-HL2.out];rw[if_neg (by rintro⟨h,-⟩;exact absurd h (by decide)),if_pos ⟨rfl,hb2⟩]
        obtain⟨e1,e2⟩:=Prod.mk.inj hq;subst e1 e2;clear HL2 hq;go_enter Tryz.func20,Tryz.ntmps20
        go_wp2_with (go_at_call 39;refine(hsp _).mono ?_)
        intro y1 w1;first
         |(intro v1 hy1 o1 b1;subst hy1)
         |rintro⟨v1,rfl,o1,b1⟩
        obtain⟨pb,po,pc,rfl,k1,k2,k3,hc⟩:=(Qz o1).open (by simp);have x0:w1.cell? ⟨pb,po,none⟩=some (qP [102,97,114,101,115]):=hc 0 _ rfl 0 _ rfl;have hpos:(0:Int)<((fs.length:Int)+1):=by omega
        have d30:w1.cell? ⟨g,30,none⟩=some (.bool s.opened):=((qG b1).1 _ _ hgl).trans c30;have d29:w1.cell? ⟨g,29,none⟩=some (.int .i64 s.rules):=((qG b1).1 _ _ hgl).trans c29;have B1:=qA b1;simp only[List.length_cons]at k1 ⊢;clear hc b1 o1;go_wp2_with (go_at_call 40;refine(hsz _).mono ?_;rintro y2 w2 ⟨rfl,hw2⟩;obtain rfl:=hw2.symm)
        go_ret;exact⟨rfl,own,(HF.out.mv B1.out).more (by omega),yJ B1.out⟩
       ·
        have HL3:=qA (show qy s k (f0::fs) n=(s',E) by rw[<-HL2.out,if_neg hbad1,if_neg hbad2]);have HES:=qA (show(qy s k (f0::fs) n).1=s' by rw[HL3.out]);by_cases hkk:k=10
        ·
         subst hkk;obtain rfl:[99,97,108,108]=f0:=Option.some.inj (show some [99,97,108,108]=some f0 from(yw hk));have hop:s.opened=true:=by cases h:s.opened with|true=>rfl|false=>exact absurd ⟨rfl,h⟩ hbad1
         have htr:=qA (HF.out.opn hop);rw[hop]at c30;clear hbad1 hbad2;have hopk:s'.opened=true:=by rw[<-HES.out,Wn];rfl
         have HK:=qA hk;have HOPK:=qA hopk;clear hk hopk hk12;go_enter Tryz.func20,Tryz.ntmps20
         go_wp2_with (go_at_call 39;refine(hsp _).mono ?_)
         intro y1 w1;first
          |(intro v1 hy1 o1 b1;subst hy1)
          |rintro⟨v1,rfl,o1,b1⟩
         obtain⟨pb,po,pc,rfl,k1,k2,k3,hc⟩:=(Qz o1).open (by simp);have x0:w1.cell? ⟨pb,po,none⟩=some (qP [99,97,108,108]):=hc 0 _ rfl 0 _ rfl;have hpos:(0:Int)<((fs.length:Int)+1):=by omega
         have d30:w1.cell? ⟨g,30,none⟩=some (.bool true):=((qG b1).1 _ _ hgl).trans c30;have d29:w1.cell? ⟨g,29,none⟩=some (.int .i64 s.rules):=((qG b1).1 _ _ hgl).trans c29;have q0:w1.cell? ⟨g,0,none⟩=some u:=((qG b1).1 _ _ hgl).trans (qC FA.out 0 _ rfl);have q1:w1.cell? ⟨g,1,none⟩=some (.int .i64 e0):=((qG b1).1 _ _ hgl).trans (qC FA.out 1 _ rfl);have fr0:w1.frozen? ⟨g,0,none⟩=false:=((qG b1).2 _ _ hgl).trans (Lib.frozen_of_heap FA.out 0);have fr1:w1.frozen? ⟨g,1,none⟩=false:=((qG b1).2 _ _ hgl).trans (Lib.frozen_of_heap FA.out 1);have fr30:w1.frozen? ⟨g,30,none⟩=false:=((qG b1).2 _ _ hgl).trans (Lib.frozen_of_heap FA.out 30);have hp:w.heap.size<=pb:=(World.ownsRow.lt o1 pb rfl).1;have hpg:pb≠g:=by omega
         have HC:=qA (show ∀ (i:Nat) (y:List UInt8),fs[i]? =some y->w1.cell? ⟨pb,po+1+i,none⟩=some (qP y) from fun i y hy=>by
          have h:=hc (i+1) y (by rw[List.getElem?_cons_succ];exact hy) 0 _ rfl;rw[show po+1+i=po+(i+1)*1+0 by omega];exact h)
         have HREC: ∀ (u2:Value) (W:World),JU pb w1 u2 fs->W=((w1.setCell ⟨g,30,none⟩ (.bool true)).setCell ⟨g,0,none⟩ u2).setCell ⟨g,1,none⟩ (.int .i64 0)->Calls Tryz.prog 41 #[.pointer (some ⟨g,0,none⟩),qP [99,97,108,108], .int .i64 n] W fun q w'=>q= .returned (.tuple #[])/\Ym B g pb m E mb (wO own pb 98) s' true W w':=fun u2 W hf hW=>by
          have gs:Gr g w1 W:=by rw[hW];exact qJ (qJ (zH g w1 30 _) (zH g _ 0 _)) (zH g _ 1 _)
          have hb1:=b1.size;have fa2:Ih g u2 0 ⟨vs,s.t.fares,mb,s.rules,true⟩ W:=by rw[hW];exact qQ (qQ (qQ (qX FA.out b1) 30 (.bool true)) 0 u2) 1 (.int .i64 0)
          have lgg:wO own pb 98 g=99:=(kC own (by omega) 98).trans HF.out.lg;have le:=HF.out.env.lt;exact Y5 B g pb N m vs ts mb (wO own pb 98) s ids true [99,97,108,108] fs n s' E 10 HK.out (by rw[HCN.out];exact HLEN.out) (fun _=>by have e:=PT.out.same;intro h0;rw[h0]at e;exact htr.out e) HL3 HL0.out HF.out.small (by omega) hid W
           ⟨⟨⟨u2,fa2,hf.kept (qg gs k3 hpg)⟩,hpg,Nat.lt_of_lt_of_le k3 gs.size,(HF.out.env.bl b1).kept (qg gs (by omega) (fun e=>by have h1:=HF.out.l1;have h2:=HF.out.lg;rw[e]at h1;omega)) (qg gs (by omega) (fun e=>by have h1:=HF.out.l2;have h2:=HF.out.lg;rw[e]at h1;omega)),⟨fun e=>by have h1:=HF.out.l1;have h2:=HF.out.lg;rw[e]at h1;omega,fun e=>by have h1:=HF.out.l2;have h2:=HF.out.lg;rw[e]at h1;omega⟩⟩,
            ((PT.out.relabel hp 98).bl b1).kept gs (fun b hb=>by simp only[Option.some.injEq]at hb;rw[<-hb,lgg];omega),lgg,Zm own pb 98,(kC own (by omega) 98).trans HF.out.l1,(kC own (by omega) 98).trans HF.out.l2⟩
         have B1:=qA b1;have HREC':=qA HREC;simp only[List.length_cons]at k1 ⊢;have k2x:pc<=9223372036854775807:=by first|exact k2|(unfold maxLen at k2;omega)|omega
         have k1':(1:Int)<=(fs.length:Int)+1:=by omega
         have k2':(fs.length:Int)+1<=(pc:Int):=by omega
         clear hc b1 o1 HREC;go_wp2_with (first
          |(go_at_call 40;refine(hsz _).mono ?_;rintro y2 w2 ⟨rfl,hw2⟩;obtain rfl:=hw2.symm)
          |(go_at_call 41;refine Calls.mono (HREC'.out _ _ ?_ rfl) ?_;(first|exact⟨_,_,rfl,by omega,by unfold maxLen;omega,fun h0=>by omega⟩|exact⟨_,_,rfl,by omega,by unfold maxLen;omega,fun h0=>⟨po+1,rfl,HC.out⟩⟩);rintro y3 w3 ⟨rfl,vs3,ts3,own3,ids3,R3,hid3,M3⟩;obtain⟨u3,fa3,-⟩:=R3.rat.at';have e3:w3.cell? ⟨g,1,none⟩=some (.int .i64 E):=qC fa3 1 _ rfl))
         all_goals
          go_ret;refine⟨rfl,own3,⟨?_, ?_, ?_,⟨u3,E,vs3,ts3,ids3,by rw[HOPK.out];exact fa3,R3.parts,hid3⟩,R3.rat.env,R3.lg,R3.l1,R3.l2⟩,(VB B1.out hp 98).trans ((QK (qJ (qJ (zH g w1 30 _) (zH g _ 0 _)) (zH g _ 1 _)) ((kC own (by omega) 98).trans HF.out.lg)).trans M3)⟩
          · rw[<-HES.out];exact YL HF.out.small _ _ _
          · rw[<-HES.out];exact VQ HF.out.ok HF.out.small (by omega) _ _ (fun y hy=>by rcases List.mem_cons.1 hy with rfl|hy;(exact Nat.le_trans (ZU HSP.out _ (by simp)) hx);(exact HL0.out y hy)) _
          ·
           intro ho;rw[<-HES.out];exact fE s _ _ _ (.inr ⟨rfl,htr.out⟩)
        ·
         by_cases hkk:k=11
         ·
          subst hkk;obtain rfl:[102,97,114,101,115]=f0:=Option.some.inj (show some [102,97,114,101,115]=some f0 from(yw hk));have hru: ¬ 0<s.rules:=fun h=>hbad2 ⟨rfl,h⟩
          clear hbad1 hbad2;have hopk:s'.opened=false:=by rw[<-HES.out,Wn];rfl
          have HK:=qA hk;have HOPK:=qA hopk;clear hk hopk hk12;go_enter Tryz.func20,Tryz.ntmps20
          go_wp2_with (go_at_call 39;refine(hsp _).mono ?_)
          intro y1 w1;first
           |(intro v1 hy1 o1 b1;subst hy1)
           |rintro⟨v1,rfl,o1,b1⟩
          obtain⟨pb,po,pc,rfl,k1,k2,k3,hc⟩:=(Qz o1).open (by simp);have x0:w1.cell? ⟨pb,po,none⟩=some (qP [102,97,114,101,115]):=hc 0 _ rfl 0 _ rfl;have hpos:(0:Int)<((fs.length:Int)+1):=by omega
          have d30:w1.cell? ⟨g,30,none⟩=some (.bool s.opened):=((qG b1).1 _ _ hgl).trans c30;have d29:w1.cell? ⟨g,29,none⟩=some (.int .i64 s.rules):=((qG b1).1 _ _ hgl).trans c29;have q0:w1.cell? ⟨g,0,none⟩=some u:=((qG b1).1 _ _ hgl).trans (qC FA.out 0 _ rfl);have q1:w1.cell? ⟨g,1,none⟩=some (.int .i64 e0):=((qG b1).1 _ _ hgl).trans (qC FA.out 1 _ rfl);have fr0:w1.frozen? ⟨g,0,none⟩=false:=((qG b1).2 _ _ hgl).trans (Lib.frozen_of_heap FA.out 0);have fr1:w1.frozen? ⟨g,1,none⟩=false:=((qG b1).2 _ _ hgl).trans (Lib.frozen_of_heap FA.out 1);have fr30:w1.frozen? ⟨g,30,none⟩=false:=((qG b1).2 _ _ hgl).trans (Lib.frozen_of_heap FA.out 30);have hp:w.heap.size<=pb:=(World.ownsRow.lt o1 pb rfl).1;have hpg:pb≠g:=by omega
          have HC:=qA (show ∀ (i:Nat) (y:List UInt8),fs[i]? =some y->w1.cell? ⟨pb,po+1+i,none⟩=some (qP y) from fun i y hy=>by
           have h:=hc (i+1) y (by rw[List.getElem?_cons_succ];exact hy) 0 _ rfl;rw[show po+1+i=po+(i+1)*1+0 by omega];exact h)
          have HREC: ∀ (u2:Value) (W:World),JU pb w1 u2 fs->W=((w1.setCell ⟨g,30,none⟩ (.bool false)).setCell ⟨g,0,none⟩ u2).setCell ⟨g,1,none⟩ (.int .i64 0)->Calls Tryz.prog 41 #[.pointer (some ⟨g,0,none⟩),qP [102,97,114,101,115], .int .i64 n] W fun q w'=>q= .returned (.tuple #[])/\Ym B g pb m E mb (wO own pb 98) s' false W w':=fun u2 W hf hW=>by
           have gs:Gr g w1 W:=by rw[hW];exact qJ (qJ (zH g w1 30 _) (zH g _ 0 _)) (zH g _ 1 _)
           have hb1:=b1.size;have fa2:Ih g u2 0 ⟨vs,s.t.fares,mb,s.rules,false⟩ W:=by rw[hW];exact qQ (qQ (qQ (qX FA.out b1) 30 (.bool false)) 0 u2) 1 (.int .i64 0)
           have lgg:wO own pb 98 g=99:=(kC own (by omega) 98).trans HF.out.lg;have le:=HF.out.env.lt;exact Y5 B g pb N m vs ts mb (wO own pb 98) s ids false [102,97,114,101,115] fs n s' E 11 HK.out (by rw[HCN.out];exact HLEN.out) (fun h=>absurd h (by decide)) HL3 HL0.out HF.out.small (by omega) hid W
            ⟨⟨⟨u2,fa2,hf.kept (qg gs k3 hpg)⟩,hpg,Nat.lt_of_lt_of_le k3 gs.size,(HF.out.env.bl b1).kept (qg gs (by omega) (fun e=>by have h1:=HF.out.l1;have h2:=HF.out.lg;rw[e]at h1;omega)) (qg gs (by omega) (fun e=>by have h1:=HF.out.l2;have h2:=HF.out.lg;rw[e]at h1;omega)),⟨fun e=>by have h1:=HF.out.l1;have h2:=HF.out.lg;rw[e]at h1;omega,fun e=>by have h1:=HF.out.l2;have h2:=HF.out.lg;rw[e]at h1;omega⟩⟩,
             ((PT.out.relabel hp 98).bl b1).kept gs (fun b hb=>by simp only[Option.some.injEq]at hb;rw[<-hb,lgg];omega),lgg,Zm own pb 98,(kC own (by omega) 98).trans HF.out.l1,(kC own (by omega) 98).trans HF.out.l2⟩
          have B1:=qA b1;have HREC':=qA HREC;simp only[List.length_cons]at k1 ⊢;have k2x:pc<=9223372036854775807:=by first|exact k2|(unfold maxLen at k2;omega)|omega
          have k1':(1:Int)<=(fs.length:Int)+1:=by omega
          have k2':(fs.length:Int)+1<=(pc:Int):=by omega
          clear hc b1 o1 HREC;go_wp2_with (first
           |(go_at_call 40;refine(hsz _).mono ?_;rintro y2 w2 ⟨rfl,hw2⟩;obtain rfl:=hw2.symm)
           |(go_at_call 41;refine Calls.mono (HREC'.out _ _ ?_ rfl) ?_;(first|exact⟨_,_,rfl,by omega,by unfold maxLen;omega,fun h0=>by omega⟩|exact⟨_,_,rfl,by omega,by unfold maxLen;omega,fun h0=>⟨po+1,rfl,HC.out⟩⟩);rintro y3 w3 ⟨rfl,vs3,ts3,own3,ids3,R3,hid3,M3⟩;obtain⟨u3,fa3,-⟩:=R3.rat.at';have e3:w3.cell? ⟨g,1,none⟩=some (.int .i64 E):=qC fa3 1 _ rfl))
          all_goals
           go_ret;refine⟨rfl,own3,⟨?_, ?_, ?_,⟨u3,E,vs3,ts3,ids3,by rw[HOPK.out];exact fa3,R3.parts,hid3⟩,R3.rat.env,R3.lg,R3.l1,R3.l2⟩,(VB B1.out hp 98).trans ((QK (qJ (qJ (zH g w1 30 _) (zH g _ 0 _)) (zH g _ 1 _)) ((kC own (by omega) 98).trans HF.out.lg)).trans M3)⟩
           · rw[<-HES.out];exact YL HF.out.small _ _ _
           · rw[<-HES.out];exact VQ HF.out.ok HF.out.small (by omega) _ _ (fun y hy=>by rcases List.mem_cons.1 hy with rfl|hy;(exact Nat.le_trans (ZU HSP.out _ (by simp)) hx);(exact HL0.out y hy)) _
           ·
            intro ho;rw[<-HES.out];rw[HOPK.out]at ho;cases ho
         ·
          by_cases hkk:k=4
          ·
           subst hkk;obtain rfl:[116,114,105,112]=f0:=Option.some.inj (show some [116,114,105,112]=some f0 from(yw hk));clear hbad1 hbad2;have hopk:s'.opened=true:=by rw[<-HES.out,Wn];rfl
           have HK:=qA hk;have HOPK:=qA hopk;clear hk hopk hk12;go_enter Tryz.func20,Tryz.ntmps20
           go_wp2_with (go_at_call 39;refine(hsp _).mono ?_)
           intro y1 w1;first
            |(intro v1 hy1 o1 b1;subst hy1)
            |rintro⟨v1,rfl,o1,b1⟩
           obtain⟨pb,po,pc,rfl,k1,k2,k3,hc⟩:=(Qz o1).open (by simp);have x0:w1.cell? ⟨pb,po,none⟩=some (qP [116,114,105,112]):=hc 0 _ rfl 0 _ rfl;have hpos:(0:Int)<((fs.length:Int)+1):=by omega
           have d30:w1.cell? ⟨g,30,none⟩=some (.bool s.opened):=((qG b1).1 _ _ hgl).trans c30;have d29:w1.cell? ⟨g,29,none⟩=some (.int .i64 s.rules):=((qG b1).1 _ _ hgl).trans c29;have q0:w1.cell? ⟨g,0,none⟩=some u:=((qG b1).1 _ _ hgl).trans (qC FA.out 0 _ rfl);have q1:w1.cell? ⟨g,1,none⟩=some (.int .i64 e0):=((qG b1).1 _ _ hgl).trans (qC FA.out 1 _ rfl);have fr0:w1.frozen? ⟨g,0,none⟩=false:=((qG b1).2 _ _ hgl).trans (Lib.frozen_of_heap FA.out 0);have fr1:w1.frozen? ⟨g,1,none⟩=false:=((qG b1).2 _ _ hgl).trans (Lib.frozen_of_heap FA.out 1);have fr30:w1.frozen? ⟨g,30,none⟩=false:=((qG b1).2 _ _ hgl).trans (Lib.frozen_of_heap FA.out 30);have hp:w.heap.size<=pb:=(World.ownsRow.lt o1 pb rfl).1;have hpg:pb≠g:=by omega
           have HC:=qA (show ∀ (i:Nat) (y:List UInt8),fs[i]? =some y->w1.cell? ⟨pb,po+1+i,none⟩=some (qP y) from fun i y hy=>by
            have h:=hc (i+1) y (by rw[List.getElem?_cons_succ];exact hy) 0 _ rfl;rw[show po+1+i=po+(i+1)*1+0 by omega];exact h)
           have HREC: ∀ (u2:Value) (W:World),JU pb w1 u2 fs->W=((w1.setCell ⟨g,30,none⟩ (.bool true)).setCell ⟨g,0,none⟩ u2).setCell ⟨g,1,none⟩ (.int .i64 0)->Calls Tryz.prog 41 #[.pointer (some ⟨g,0,none⟩),qP [116,114,105,112], .int .i64 n] W fun q w'=>q= .returned (.tuple #[])/\Ym B g pb m E mb (wO own pb 98) s' true W w':=fun u2 W hf hW=>by
            have gs:Gr g w1 W:=by rw[hW];exact qJ (qJ (zH g w1 30 _) (zH g _ 0 _)) (zH g _ 1 _)
            have hb1:=b1.size;have fa2:Ih g u2 0 ⟨vs,s.t.fares,mb,s.rules,true⟩ W:=by rw[hW];exact qQ (qQ (qQ (qX FA.out b1) 30 (.bool true)) 0 u2) 1 (.int .i64 0)
            have lgg:wO own pb 98 g=99:=(kC own (by omega) 98).trans HF.out.lg;have le:=HF.out.env.lt;exact Y5 B g pb N m vs ts mb (wO own pb 98) s ids true [116,114,105,112] fs n s' E 4 HK.out (by rw[HCN.out];exact HLEN.out) (fun h=>absurd h (by decide)) HL3 HL0.out HF.out.small (by omega) hid W
             ⟨⟨⟨u2,fa2,hf.kept (qg gs k3 hpg)⟩,hpg,Nat.lt_of_lt_of_le k3 gs.size,(HF.out.env.bl b1).kept (qg gs (by omega) (fun e=>by have h1:=HF.out.l1;have h2:=HF.out.lg;rw[e]at h1;omega)) (qg gs (by omega) (fun e=>by have h1:=HF.out.l2;have h2:=HF.out.lg;rw[e]at h1;omega)),⟨fun e=>by have h1:=HF.out.l1;have h2:=HF.out.lg;rw[e]at h1;omega,fun e=>by have h1:=HF.out.l2;have h2:=HF.out.lg;rw[e]at h1;omega⟩⟩,
              ((PT.out.relabel hp 98).bl b1).kept gs (fun b hb=>by simp only[Option.some.injEq]at hb;rw[<-hb,lgg];omega),lgg,Zm own pb 98,(kC own (by omega) 98).trans HF.out.l1,(kC own (by omega) 98).trans HF.out.l2⟩
           have B1:=qA b1;have HREC':=qA HREC;simp only[List.length_cons]at k1 ⊢;have k2x:pc<=9223372036854775807:=by first|exact k2|(unfold maxLen at k2;omega)|omega
           have k1':(1:Int)<=(fs.length:Int)+1:=by omega
           have k2':(fs.length:Int)+1<=(pc:Int):=by omega
           clear hc b1 o1 HREC;go_wp2_with (first
            |(go_at_call 40;refine(hsz _).mono ?_;rintro y2 w2 ⟨rfl,hw2⟩;obtain rfl:=hw2.symm)
            |(go_at_call 41;refine Calls.mono (HREC'.out _ _ ?_ rfl) ?_;(first|exact⟨_,_,rfl,by omega,by unfold maxLen;omega,fun h0=>by omega⟩|exact⟨_,_,rfl,by omega,by unfold maxLen;omega,fun h0=>⟨po+1,rfl,HC.out⟩⟩);rintro y3 w3 ⟨rfl,vs3,ts3,own3,ids3,R3,hid3,M3⟩;obtain⟨u3,fa3,-⟩:=R3.rat.at';have e3:w3.cell? ⟨g,1,none⟩=some (.int .i64 E):=qC fa3 1 _ rfl))
           all_goals
            go_ret;refine⟨rfl,own3,⟨?_, ?_, ?_,⟨u3,E,vs3,ts3,ids3,by rw[HOPK.out];exact fa3,R3.parts,hid3⟩,R3.rat.env,R3.lg,R3.l1,R3.l2⟩,(VB B1.out hp 98).trans ((QK (qJ (qJ (zH g w1 30 _) (zH g _ 0 _)) (zH g _ 1 _)) ((kC own (by omega) 98).trans HF.out.lg)).trans M3)⟩
            · rw[<-HES.out];exact YL HF.out.small _ _ _
            · rw[<-HES.out];exact VQ HF.out.ok HF.out.small (by omega) _ _ (fun y hy=>by rcases List.mem_cons.1 hy with rfl|hy;(exact Nat.le_trans (ZU HSP.out _ (by simp)) hx);(exact HL0.out y hy)) _
            ·
             intro ho;rw[<-HES.out];exact fE s _ _ _ (.inl rfl)
          ·
           rename_i h10 h11;have h4:=hkk;have t10:(f0==[99,97,108,108])=false:=by rw[beq_eq_false_iff_ne];intro e;subst e;exact h10 (Option.some.inj (show some 10=some k by rw[<-hk];decide)).symm
           have t11:(f0==[102,97,114,101,115])=false:=by rw[beq_eq_false_iff_ne];intro e;subst e;exact h11 (Option.some.inj (show some 11=some k by rw[<-hk];decide)).symm
           have t4:(f0==[116,114,105,112])=false:=by rw[beq_eq_false_iff_ne];intro e;subst e;exact h4 (Option.some.inj (show some 4=some k by rw[<-hk];decide)).symm
           clear hbad1 hbad2;have hopk:s'.opened=false:=by rw[<-HES.out,Wn];rw[show(k==4)=false by rw[beq_eq_false_iff_ne];exact h4,show(k==10)=false by rw[beq_eq_false_iff_ne];exact h10];rfl
           have HK:=qA hk;have HOPK:=qA hopk;clear hk hopk hk12;go_enter Tryz.func20,Tryz.ntmps20
           go_wp2_with (go_at_call 39;refine(hsp _).mono ?_)
           intro y1 w1;first
            |(intro v1 hy1 o1 b1;subst hy1)
            |rintro⟨v1,rfl,o1,b1⟩
           obtain⟨pb,po,pc,rfl,k1,k2,k3,hc⟩:=(Qz o1).open (by simp);have x0:w1.cell? ⟨pb,po,none⟩=some (qP f0):=hc 0 _ rfl 0 _ rfl;have hpos:(0:Int)<((fs.length:Int)+1):=by omega
           have d30:w1.cell? ⟨g,30,none⟩=some (.bool s.opened):=((qG b1).1 _ _ hgl).trans c30;have d29:w1.cell? ⟨g,29,none⟩=some (.int .i64 s.rules):=((qG b1).1 _ _ hgl).trans c29;have q0:w1.cell? ⟨g,0,none⟩=some u:=((qG b1).1 _ _ hgl).trans (qC FA.out 0 _ rfl);have q1:w1.cell? ⟨g,1,none⟩=some (.int .i64 e0):=((qG b1).1 _ _ hgl).trans (qC FA.out 1 _ rfl);have fr0:w1.frozen? ⟨g,0,none⟩=false:=((qG b1).2 _ _ hgl).trans (Lib.frozen_of_heap FA.out 0);have fr1:w1.frozen? ⟨g,1,none⟩=false:=((qG b1).2 _ _ hgl).trans (Lib.frozen_of_heap FA.out 1);have fr30:w1.frozen? ⟨g,30,none⟩=false:=((qG b1).2 _ _ hgl).trans (Lib.frozen_of_heap FA.out 30);have hp:w.heap.size<=pb:=(World.ownsRow.lt o1 pb rfl).1;have hpg:pb≠g:=by omega
           have HC:=qA (show ∀ (i:Nat) (y:List UInt8),fs[i]? =some y->w1.cell? ⟨pb,po+1+i,none⟩=some (qP y) from fun i y hy=>by
            have h:=hc (i+1) y (by rw[List.getElem?_cons_succ];exact hy) 0 _ rfl;rw[show po+1+i=po+(i+1)*1+0 by omega];exact h)
           have HREC: ∀ (u2:Value) (W:World),JU pb w1 u2 fs->W=((w1.setCell ⟨g,30,none⟩ (.bool false)).setCell ⟨g,0,none⟩ u2).setCell ⟨g,1,none⟩ (.int .i64 0)->Calls Tryz.prog 41 #[.pointer (some ⟨g,0,none⟩),qP f0, .int .i64 n] W fun q w'=>q= .returned (.tuple #[])/\Ym B g pb m E mb (wO own pb 98) s' false W w':=fun u2 W hf hW=>by
            have gs:Gr g w1 W:=by rw[hW];exact qJ (qJ (zH g w1 30 _) (zH g _ 0 _)) (zH g _ 1 _)
            have hb1:=b1.size;have fa2:Ih g u2 0 ⟨vs,s.t.fares,mb,s.rules,false⟩ W:=by rw[hW];exact qQ (qQ (qQ (qX FA.out b1) 30 (.bool false)) 0 u2) 1 (.int .i64 0)
            have lgg:wO own pb 98 g=99:=(kC own (by omega) 98).trans HF.out.lg;have le:=HF.out.env.lt;exact Y5 B g pb N m vs ts mb (wO own pb 98) s ids false f0 fs n s' E k HK.out (by rw[HCN.out];exact HLEN.out) (fun h=>absurd h h10) HL3 HL0.out HF.out.small (by omega) hid W
             ⟨⟨⟨u2,fa2,hf.kept (qg gs k3 hpg)⟩,hpg,Nat.lt_of_lt_of_le k3 gs.size,(HF.out.env.bl b1).kept (qg gs (by omega) (fun e=>by have h1:=HF.out.l1;have h2:=HF.out.lg;rw[e]at h1;omega)) (qg gs (by omega) (fun e=>by have h1:=HF.out.l2;have h2:=HF.out.lg;rw[e]at h1;omega)),⟨fun e=>by have h1:=HF.out.l1;have h2:=HF.out.lg;rw[e]at h1;omega,fun e=>by have h1:=HF.out.l2;have h2:=HF.out.lg;rw[e]at h1;omega⟩⟩,
              ((PT.out.relabel hp 98).bl b1).kept gs (fun b hb=>by simp only[Option.some.injEq]at hb;rw[<-hb,lgg];omega),lgg,Zm own pb 98,(kC own (by omega) 98).trans HF.out.l1,(kC own (by omega) 98).trans HF.out.l2⟩
           have B1:=qA b1;have HREC':=qA HREC;simp only[List.length_cons]at k1 ⊢;have k2x:pc<=9223372036854775807:=by first|exact k2|(unfold maxLen at k2;omega)|omega
           have k1':(1:Int)<=(fs.length:Int)+1:=by omega
           have k2':(fs.length:Int)+1<=(pc:Int):=by omega
           clear hc b1 o1 HREC;go_wp2_with (first
            |(go_at_call 40;refine(hsz _).mono ?_;rintro y2 w2 ⟨rfl,hw2⟩;obtain rfl:=hw2.symm)
            |(go_at_call 41;refine Calls.mono (HREC'.out _ _ ?_ rfl) ?_;(first|exact⟨_,_,rfl,by omega,by unfold maxLen;omega,fun h0=>by omega⟩|exact⟨_,_,rfl,by omega,by unfold maxLen;omega,fun h0=>⟨po+1,rfl,HC.out⟩⟩);rintro y3 w3 ⟨rfl,vs3,ts3,own3,ids3,R3,hid3,M3⟩;obtain⟨u3,fa3,-⟩:=R3.rat.at';have e3:w3.cell? ⟨g,1,none⟩=some (.int .i64 E):=qC fa3 1 _ rfl))
           all_goals
            go_ret;refine⟨rfl,own3,⟨?_, ?_, ?_,⟨u3,E,vs3,ts3,ids3,by rw[HOPK.out];exact fa3,R3.parts,hid3⟩,R3.rat.env,R3.lg,R3.l1,R3.l2⟩,(VB B1.out hp 98).trans ((QK (qJ (qJ (zH g w1 30 _) (zH g _ 0 _)) (zH g _ 1 _)) ((kC own (by omega) 98).trans HF.out.lg)).trans M3)⟩
            · rw[<-HES.out];exact YL HF.out.small _ _ _
            · rw[<-HES.out];exact VQ HF.out.ok HF.out.small (by omega) _ _ (fun y hy=>by rcases List.mem_cons.1 hy with rfl|hy;(exact Nat.le_trans (ZU HSP.out _ (by simp)) hx);(exact HL0.out y hy)) _
            ·
             intro ho;rw[<-HES.out];rw[HOPK.out]at ho;cases ho
     ·
      have ce:((cn:Int) != (fs.length:Int)+1)=true:=by rw[bne_iff_ne];omega
      have hq:(s,(1:Int))=(s',E):=by rw[<-HL.out,if_pos (by rw[HCN.out];simpa using hlen)]
      obtain⟨e1,e2⟩:=Prod.mk.inj hq;subst e1 e2;clear HL hq hlen;go_enter Tryz.func20,Tryz.ntmps20
      go_wp2_with (go_at_call 39;refine(hsp _).mono ?_)
      intro y1 w1;first
       |(intro v1 hy1 o1 b1;subst hy1)
       |rintro⟨v1,rfl,o1,b1⟩
      obtain⟨pb,po,pc,rfl,k1,k2,k3,hc⟩:=(Qz o1).open (by simp);have x0:w1.cell? ⟨pb,po,none⟩=some (qP f0):=hc 0 _ rfl 0 _ rfl;have B1:=qA b1;have hpos:(0:Int)<((fs.length:Int)+1):=by omega
      simp only[List.length_cons]at k1 ⊢;clear hc b1 o1;go_wp2_with (go_at_call 40;refine(hsz _).mono ?_;rintro y2 w2 ⟨rfl,hw2⟩;obtain rfl:=hw2.symm)
      go_ret;exact⟨rfl,own,(HF.out.mv B1.out).more (by omega),yJ B1.out⟩
   ·
    have hq:=(DJ (s:=s) (n:=n) HNO.out HSP.out he).symm.trans H.out;obtain⟨e1,e2⟩:=Prod.mk.inj hq;subst e1 e2;have hee:(e != 0)=true:=by rw[bne_iff_ne];exact he
    clear H hq HNO;go_enter Tryz.func20,Tryz.ntmps20
    go_wp2_with (go_at_call 39;refine(hsp _).mono ?_)
    intro y1 w1;first
     |(intro v1 hy1 o1 b1;subst hy1)
     |rintro⟨v1,rfl,o1,b1⟩
    go_wp2;go_ret;exact⟨rfl,own,(HF.out.mv b1).more (by omega),yJ b1⟩
def uM (g:Nat) (mb:Nat->Nat):Nat->Nat:=fun b=>if b=g then 99 else if b=mb 0 then 50 else if b=mb 1 then 51 else if b=mb 2 then 52 else if b=mb 3 then 53 else 97
theorem Xv {g B:Nat} {mb:Nat->Nat} (hg:B<=g) (hm: ∀ j,j<4->B<=mb j) {b:Nat} (hb:b<B):uM g mb b=97:=by
 have h0:=hm 0 (by omega);have h1:=hm 1 (by omega);have h2:=hm 2 (by omega);have h3:=hm 3 (by omega);unfold uM;rw[if_neg (by omega),if_neg (by omega),if_neg (by omega),if_neg (by omega),if_neg (by omega)]
theorem Gv {g:Nat} {mb:Nat->Nat} (hg: ∀ j,j<4->mb j≠g) (hd: ∀ i j,i<4->j<4->mb i=mb j->i=j) {j:Nat} (hj:j<4):uM g mb (mb j)=50+j:=by
 have hn: ∀ i,i<4->i≠j->mb j≠mb i:=fun i hi hne e=>hne (hd i j hi hj e.symm)
 unfold uM;rw[if_neg (hg j hj)];rcases j with _|_|_|_|j
 · rw[if_pos rfl]
 · rw[if_neg (hn 0 (by omega) (by omega)),if_pos rfl]
 · rw[if_neg (hn 0 (by omega) (by omega)),if_neg (hn 1 (by omega) (by omega)),if_pos rfl]
 · rw[if_neg (hn 0 (by omega) (by omega)),if_neg (hn 1 (by omega) (by omega)),if_neg (hn 2 (by omega) (by omega)),if_pos rfl]
 · omega
theorem nz (B:Nat) (mb own:Nat->Nat) (w:World) (hm: ∀ j,j<4->qx w (mb j) 0 []/\B<=mb j) (hl: ∀ j,j<4->own (mb j)=50+j):kT B w (fun _=> .slice none 0 0) [] mb own Tt.start (fun _=>[]) where
 same:=rfl
 lines:=rfl
 row k hk:=by
  rcases k with _|_|_|_|_|_|_|_|_|_|_|_|_|_|_|_|_|_|_|_|k
  all_goals first
   |exact World.ownsRow_nil w B _ _
   |omega
 lab k _ b hb:=by cases hb
 calls i x hx:=by cases hx
 ok x hx:=by cases hx
 labc i x hx:=by cases hx
 maps j hj:=(hm j hj).1
 labm j hj:=⟨hl j hj,(hm j hj).2⟩
theorem Cf (B g:Nat) (m:Int) (mb:Nat->Nat) (w:World) (fa:Ih g (.slice none 0 0) 0 ⟨fun _=> .slice none 0 0,emptyT.fares,mb,0,false⟩ w) (hm: ∀ j,j<4->qx w (mb j) 0 []/\B<=mb j/\mb j≠g) (hd: ∀ i j,i<4->j<4->mb i=mb j->i=j) (env:ah m w) (hg:B<=g)
  (he:1<B/\0<B):Eb B g 0 m mb (uM g mb) Tt.start w where
 small:=oW
 ok:=aW
 opn h:=by cases h
 mem:=⟨_,_,_,_,_,fa,nz B mb _ w (fun j hj=>⟨(hm j hj).1,(hm j hj).2.1⟩) (fun j hj=>Gv (fun j hj=>(hm j hj).2.2) hd hj),fun j hj=>by
  rcases j with _|_|_|_|j
  all_goals first
   |rfl
   |omega⟩
 env:=env
 lg:=if_pos rfl
 l1:=Xv hg (fun j hj=>(hm j hj).2.1) he.1
 l2:=Xv hg (fun j hj=>(hm j hj).2.1) he.2
def BP (a b c d:Nat):Nat->Nat
 |0=>a
 |1=>b
 |2=>c
 |_=>d
theorem Ce {w:World} {n:Nat} (h:w.heap.size=n) (B:Nat) (hB:B<=n) (C:Array Value) (T:TypeId): ∀ j,j<4->qx (((((w.alloc (.map #[] 0)).alloc (.map #[] 0)).alloc (.map #[] 0)).alloc (.map #[] 0)).alloc (.cells C T (0,0))) (BP n (n+1) (n+2) (n+3) j) 0 []/\B<=BP n (n+1) (n+2) (n+3) j/\BP n (n+1) (n+2) (n+3) j≠n+4:=fun j hj=>by
 subst h;have e1:(w.alloc (.map #[] 0)).heap.size=w.heap.size+1:=by simp
 have e2:((w.alloc (.map #[] 0)).alloc (.map #[] 0)).heap.size=w.heap.size+2:=by simp
 have e3:(((w.alloc (.map #[] 0)).alloc (.map #[] 0)).alloc (.map #[] 0)).heap.size=w.heap.size+3:=by simp
 have m0:=Q3 w;have m1:=Q3 (w.alloc (.map #[] 0));have m2:=Q3 ((w.alloc (.map #[] 0)).alloc (.map #[] 0));have m3:=Q3 (((w.alloc (.map #[] 0)).alloc (.map #[] 0)).alloc (.map #[] 0));have G: ∀ {w w':World} {b:Nat},qx w b 0 []->Bl w w'->qx w' b 0 []:=fun h hb=>h.grown (J4 hb) (by simp)
 rcases j with _|_|_|_|j
 · exact⟨G m0 (qE (qE (qE (qE (qB _) _) _) _) _),hB,by show w.heap.size≠_;omega⟩
 ·
  rw[e1]at m1;exact⟨G m1 (qE (qE (qE (qB _) _) _) _),by show B<=w.heap.size+1;omega,by show w.heap.size+1≠_;omega⟩
 ·
  rw[e2]at m2;exact⟨G m2 (qE (qE (qB _) _) _),by show B<=w.heap.size+2;omega,by show w.heap.size+2≠_;omega⟩
 ·
  rw[e3]at m3;exact⟨G m3 (qE (qB _) _),by show B<=w.heap.size+3;omega,by show w.heap.size+3≠_;omega⟩
 · omega
theorem Oo (n:Nat): ∀ i j,i<4->j<4->BP n (n+1) (n+2) (n+3) i=BP n (n+1) (n+2) (n+3) j->i=j:=fun i j hi hj h=>by
 have e: ∀ k,k<4->BP n (n+1) (n+2) (n+3) k=n+k:=fun k hk=>by
  rcases k with _|_|_|_|k
  all_goals first
   |rfl
   |omega
 rw[e i hi,e j hj]at h;omega
def YV:TtV:=⟨.slice none 0 0, .slice none 0 0, .slice none 0 0, .slice none 0 0, .slice none 0 0, .slice none 0 0, .slice none 0 0, .slice none 0 0, .slice none 0 0, .slice none 0 0⟩
theorem Jm (B:Nat) (w:World):yA B w YV [] emptyT:=
 ⟨zJ,zJ,zJ,zJ,⟨zJ,fun x hx=>by cases hx⟩,rfl,zJ,zJ,zJ,zJ,zJ⟩
theorem Jl:ZZ emptyT:=aW
end Go.Proofs.YtakedkcjplfgeaaGreatDoor
