/- Contracts, proved. Conditions: theirs. -/
import Derived.Test.YtakedkcjplfgeaaGreatDoorMPkRdA
set_option maxRecDepth 1000000
set_option maxHeartbeats 32000000
open Go.Proofs.Tryz
namespace Go.Proofs.YtakedkcjplfgeaaGreatDoor
open Go.RowKit
open Frq Thr Tt Num Clk Dat Fld
theorem yE: ∀ {ids:List Ψ} {x:Ψ} {k:Nat},(∀ j,j<k->ids[j]? ≠some x)->ids[k]? =some x->qm x ids=some k
 |[],_,_,_,h=>by simp at h
 |y::r,x,0,_,h=>by
  have e:y=x:=η
  unfold qm;rw[U6 e]
 |y::r,x,k+1,hn,h=>by
  have e: ¬ y=x:=λe=>hn 0 ω (by rw[e];rfl)
  have h2:r[k]? =some x:=by rw[List.getElem?_cons_succ]at h;exact h
  unfold qm;rw[U5 e,yE (λj hj=>by have:=hn (j+1) ω;rw[List.getElem?_cons_succ]at this;exact this) h2];rfl
theorem Jc: ∀ {ids:List Ψ} {x:Ψ},(∀ j,j<ids.length->ids[j]? ≠some x)->qm x ids=none
 |[],_,_=>rfl
 |y::r,x,hn=>by
  have e: ¬ y=x:=λe=>hn 0 σ (by rw[e];rfl)
  unfold qm;rw[U5 e,Jc (λj hj=>by have:=hn (j+1) τ;rw[List.getElem?_cons_succ]at this;exact this)];rfl
def Zn (o:Option Nat):Int×Bool:=match o with
 |some i=>((i:Int),true)
 |none=>(0,false)
theorem Ls (x:Ψ):KL x=((Zn (qm x modeWords)).1,if(Zn (qm x modeWords)).2=true then 0 else 3):=by
 unfold KL Zn;cases qm x modeWords<;>rfl
abbrev yS (w:World):Prop:= ∀ (i:Nat) (x:Ψ),modeWords[i]? =some x->w.cell? (0,i)=some (qP x)
theorem VH (x:Ψ) (n:Int) (ok:Bool) (H:Hid (Zn (qm x modeWords)=(n,ok))) (w:World) (nm:yS w):
  Calls prog 187 #[qP x] w λq w'=>q=.returned (.tuple #[n,ok])/\w'=w:=by
 have g0:w.cell? (0,0)=some (qP [98,117,115]):=nm 0 _ rfl;have g1:w.cell? (0,1)=some (qP [116,114,97,109]):=nm 1 _ rfl;have g2:w.cell? (0,2)=some (qP [109,101,116,114,111]):=nm 2 _ rfl;have g3:w.cell? (0,3)=some (qP [114,97,105,108]):=nm 3 _ rfl;have g4:w.cell? (0,4)=some (qP [102,101,114,114,121]):=nm 4 _ rfl;have g5:w.cell? (0,5)=some (qP [99,111,97,99,104]):=nm 5 _ rfl;have g6:w.cell? (0,6)=some (qP [99,97,98,108,101]):=nm 6 _ rfl;have g7:w.cell? (0,7)=some (qP [102,117,110,105,99,117,108,97,114]):=nm 7 _ rfl;have y0: ∀ w:World,(Instr.index 190 (.agg #[qP [98,117,115],qP [116,114,97,109],qP [109,101,116,114,111],qP [114,97,105,108],qP [102,101,114,114,121],qP [99,111,97,99,104],qP [99,97,98,108,101],qP [102,117,110,105,99,117,108,97,114]]) "").run prog w=.ok (qP [98,117,115]) w:=λ_=>by kernel_rfl
 have y1: ∀ w:World,(Instr.index 190 (.agg #[qP [98,117,115],qP [116,114,97,109],qP [109,101,116,114,111],qP [114,97,105,108],qP [102,101,114,114,121],qP [99,111,97,99,104],qP [99,97,98,108,101],qP [102,117,110,105,99,117,108,97,114]]) (.int .i64 1)).run prog w=.ok (qP [116,114,97,109]) w:=λ_=>by kernel_rfl
 have y2: ∀ w:World,(Instr.index 190 (.agg #[qP [98,117,115],qP [116,114,97,109],qP [109,101,116,114,111],qP [114,97,105,108],qP [102,101,114,114,121],qP [99,111,97,99,104],qP [99,97,98,108,101],qP [102,117,110,105,99,117,108,97,114]]) (.int .i64 2)).run prog w=.ok (qP [109,101,116,114,111]) w:=λ_=>by kernel_rfl
 have y3: ∀ w:World,(Instr.index 190 (.agg #[qP [98,117,115],qP [116,114,97,109],qP [109,101,116,114,111],qP [114,97,105,108],qP [102,101,114,114,121],qP [99,111,97,99,104],qP [99,97,98,108,101],qP [102,117,110,105,99,117,108,97,114]]) (.int .i64 3)).run prog w=.ok (qP [114,97,105,108]) w:=λ_=>by kernel_rfl
 have y4: ∀ w:World,(Instr.index 190 (.agg #[qP [98,117,115],qP [116,114,97,109],qP [109,101,116,114,111],qP [114,97,105,108],qP [102,101,114,114,121],qP [99,111,97,99,104],qP [99,97,98,108,101],qP [102,117,110,105,99,117,108,97,114]]) (.int .i64 4)).run prog w=.ok (qP [102,101,114,114,121]) w:=λ_=>by kernel_rfl
 have y5: ∀ w:World,(Instr.index 190 (.agg #[qP [98,117,115],qP [116,114,97,109],qP [109,101,116,114,111],qP [114,97,105,108],qP [102,101,114,114,121],qP [99,111,97,99,104],qP [99,97,98,108,101],qP [102,117,110,105,99,117,108,97,114]]) (.int .i64 5)).run prog w=.ok (qP [99,111,97,99,104]) w:=λ_=>by kernel_rfl
 have y6: ∀ w:World,(Instr.index 190 (.agg #[qP [98,117,115],qP [116,114,97,109],qP [109,101,116,114,111],qP [114,97,105,108],qP [102,101,114,114,121],qP [99,111,97,99,104],qP [99,97,98,108,101],qP [102,117,110,105,99,117,108,97,114]]) (.int .i64 6)).run prog w=.ok (qP [99,97,98,108,101]) w:=λ_=>by kernel_rfl
 have y7: ∀ w:World,(Instr.index 190 (.agg #[qP [98,117,115],qP [116,114,97,109],qP [109,101,116,114,111],qP [114,97,105,108],qP [102,101,114,114,121],qP [99,111,97,99,104],qP [99,97,98,108,101],qP [102,117,110,105,99,117,108,97,114]]) (.int .i64 7)).run prog w=.ok (qP [102,117,110,105,99,117,108,97,114]) w:=λ_=>by kernel_rfl
 clear nm;go_enter func187,ntmps187
 go_wp2_with fail;clear g0 g1 g2 g3 g4 g5 g6 g7;go_loop [7] (λs7=> ∃ k:Nat,k<=8/\s7=k/\Hid (∀ j,j<k->modeWords[j]? ≠some x)) (λi=>8-(intOf i).toNat)
 case atStart=>exact⟨0,ω,rfl,λj hj=>absurd hj (Nat.not_lt_zero j)⟩
 obtain⟨k,hk,rfl,HN⟩:=hrel;by_cases hlt:k<8
 ·
  obtain rfl|rfl|rfl|rfl|rfl|rfl|rfl|rfl:k=0∨k=1∨k=2∨k=3∨k=4∨k=5∨k=6∨k=7:=ω
  ·
   by_cases hx:[98,117,115]=x
   ·
    have HM:=qA (show Zn (some 0)=(n,ok) by rw[<-H.o,yE HN.o (show modeWords[0]? =some x by rw[<-hx];rfl)]);obtain⟨e1,e2⟩:=qAE HM.o;clear HM H;subst e1 e2 hx;go_wp2;go_ret2;exact⟨rfl,rfl⟩
   have hb:([98,117,115]==x)=false:=by rw[U0];exact hx
   have HX:=qA hx;clear hx;go_wp2;refine⟨⟨1,ω,rfl,λj hj=>?_⟩,by simp[intOf]⟩;rcases Nat.lt_succ_iff_lt_or_eq.1 hj with h|rfl
   · exact HN.o j h
   exact λe=>HX.o (qAB e)
  ·
   by_cases hx:[116,114,97,109]=x
   ·
    have HM:=qA (show Zn (some 1)=(n,ok) by rw[<-H.o,yE HN.o (show modeWords[1]? =some x by rw[<-hx];rfl)]);obtain⟨e1,e2⟩:=qAE HM.o;clear HM H;subst e1 e2 hx;go_wp2;go_ret2;exact⟨rfl,rfl⟩
   have hb:([116,114,97,109]==x)=false:=by rw[U0];exact hx
   have HX:=qA hx;clear hx;go_wp2;refine⟨⟨2,ω,rfl,λj hj=>?_⟩,by simp[intOf]⟩;rcases Nat.lt_succ_iff_lt_or_eq.1 hj with h|rfl
   · exact HN.o j h
   exact λe=>HX.o (qAB e)
  ·
   by_cases hx:[109,101,116,114,111]=x
   ·
    have HM:=qA (show Zn (some 2)=(n,ok) by rw[<-H.o,yE HN.o (show modeWords[2]? =some x by rw[<-hx];rfl)]);obtain⟨e1,e2⟩:=qAE HM.o;clear HM H;subst e1 e2 hx;go_wp2;go_ret2;exact⟨rfl,rfl⟩
   have hb:([109,101,116,114,111]==x)=false:=by rw[U0];exact hx
   have HX:=qA hx;clear hx;go_wp2;refine⟨⟨3,ω,rfl,λj hj=>?_⟩,by simp[intOf]⟩;rcases Nat.lt_succ_iff_lt_or_eq.1 hj with h|rfl
   · exact HN.o j h
   exact λe=>HX.o (qAB e)
  ·
   by_cases hx:[114,97,105,108]=x
   ·
    have HM:=qA (show Zn (some 3)=(n,ok) by rw[<-H.o,yE HN.o (show modeWords[3]? =some x by rw[<-hx];rfl)]);obtain⟨e1,e2⟩:=qAE HM.o;clear HM H;subst e1 e2 hx;go_wp2;go_ret2;exact⟨rfl,rfl⟩
   have hb:([114,97,105,108]==x)=false:=by rw[U0];exact hx
   have HX:=qA hx;clear hx;go_wp2;refine⟨⟨4,ω,rfl,λj hj=>?_⟩,by simp[intOf]⟩;rcases Nat.lt_succ_iff_lt_or_eq.1 hj with h|rfl
   · exact HN.o j h
   exact λe=>HX.o (qAB e)
  ·
   by_cases hx:[102,101,114,114,121]=x
   ·
    have HM:=qA (show Zn (some 4)=(n,ok) by rw[<-H.o,yE HN.o (show modeWords[4]? =some x by rw[<-hx];rfl)]);obtain⟨e1,e2⟩:=qAE HM.o;clear HM H;subst e1 e2 hx;go_wp2;go_ret2;exact⟨rfl,rfl⟩
   have hb:([102,101,114,114,121]==x)=false:=by rw[U0];exact hx
   have HX:=qA hx;clear hx;go_wp2;refine⟨⟨5,ω,rfl,λj hj=>?_⟩,by simp[intOf]⟩;rcases Nat.lt_succ_iff_lt_or_eq.1 hj with h|rfl
   · exact HN.o j h
   exact λe=>HX.o (qAB e)
  ·
   by_cases hx:[99,111,97,99,104]=x
   ·
    have HM:=qA (show Zn (some 5)=(n,ok) by rw[<-H.o,yE HN.o (show modeWords[5]? =some x by rw[<-hx];rfl)]);obtain⟨e1,e2⟩:=qAE HM.o;clear HM H;subst e1 e2 hx;go_wp2;go_ret2;exact⟨rfl,rfl⟩
   have hb:([99,111,97,99,104]==x)=false:=by rw[U0];exact hx
   have HX:=qA hx;clear hx;go_wp2;refine⟨⟨6,ω,rfl,λj hj=>?_⟩,by simp[intOf]⟩;rcases Nat.lt_succ_iff_lt_or_eq.1 hj with h|rfl
   · exact HN.o j h
   exact λe=>HX.o (qAB e)
  ·
   by_cases hx:[99,97,98,108,101]=x
   ·
    have HM:=qA (show Zn (some 6)=(n,ok) by rw[<-H.o,yE HN.o (show modeWords[6]? =some x by rw[<-hx];rfl)]);obtain⟨e1,e2⟩:=qAE HM.o;clear HM H;subst e1 e2 hx;go_wp2;go_ret2;exact⟨rfl,rfl⟩
   have hb:([99,97,98,108,101]==x)=false:=by rw[U0];exact hx
   have HX:=qA hx;clear hx;go_wp2;refine⟨⟨7,ω,rfl,λj hj=>?_⟩,by simp[intOf]⟩;rcases Nat.lt_succ_iff_lt_or_eq.1 hj with h|rfl
   · exact HN.o j h
   exact λe=>HX.o (qAB e)
  by_cases hx:[102,117,110,105,99,117,108,97,114]=x
  ·
   have HM:=qA (show Zn (some 7)=(n,ok) by rw[<-H.o,yE HN.o (show modeWords[7]? =some x by rw[<-hx];rfl)]);obtain⟨e1,e2⟩:=qAE HM.o;clear HM H;subst e1 e2 hx;go_wp2;go_ret2;exact⟨rfl,rfl⟩
  have hb:([102,117,110,105,99,117,108,97,114]==x)=false:=by rw[U0];exact hx
  have HX:=qA hx;clear hx;go_wp2;refine⟨⟨8,ω,rfl,λj hj=>?_⟩,by simp[intOf]⟩;rcases Nat.lt_succ_iff_lt_or_eq.1 hj with h|rfl
  · exact HN.o j h
  exact λe=>HX.o (qAB e)
 obtain rfl:k=8:=ω
 have HM:=qA (show Zn none=(n,ok) by rw[<-H.o,Jc (ids:=modeWords) (x:=x) (λj hj=>HN.o j hj)]);obtain⟨e1,e2⟩:=qAE HM.o;clear HM H;subst e1 e2;go_wp2;go_ret2;exact⟨rfl,rfl⟩
theorem LC (g rb:Nat) (m e e2 E n:Int) (X:PX) (x:Ψ) (r:List Ψ) (HX:Hid (KL x=(n,e2))) (H:Hid (fe e e2=E)) (w:World) (h:wR g rb m e X (x::r) w):
  Calls prog 111 #[(g,0)] w λq w'=>q=.returned (n:Z)/\wR g rb m E X r w'/\Gr g w w':=by
 have HR:=qA h;clear h;obtain⟨⟨n',ok⟩,HP⟩: ∃ p,Hid (Zn (qm x modeWords)=p):=⟨_,rfl⟩;have hq:(n',if ok=true then(0:Int)else 3)=(n,e2):=by rw[<-HX.o,Ls,HP.o]
 simp only[qAF]at hq;obtain⟨e1,e3⟩:=hq;subst e1;clear HX;have hp:=λw hw=>VH x n' ok HP w hw
 cases ok with
 |true=>
  have HE:=qA (show e=E by rw[<-H.o,<-e3,U6 rfl,ji]);clear H e3;go_enter func111,ntmps111
  go_wp2_with (first
   |(go_at_call 107;refine(zy g rb m e X x r w HR.o).mono ?_;rintro y0 w0 ⟨rfl,r0,g0⟩;have nm0:=r0.env.nm)
   |(go_at_call 187;refine(hp _ nm0).mono ?_;rintro y1 w1 ⟨rfl,rfl⟩))
  go_ret;exact⟨rfl,by rw[<-HE.o];exact r0,g0⟩
 |false=>
  have HE:Hid (fe e 3=E):=by rw[U5 δ]at e3;rw[<-e3]at H;exact H
  clear H e3;go_enter func111,ntmps111
  go_wp2_with (first
   |(go_at_call 107;refine(zy g rb m e X x r w HR.o).mono ?_;rintro y0 w0 ⟨rfl,r0,g0⟩;have nm0:=r0.env.nm)
   |(go_at_call 187;refine(hp _ nm0).mono ?_;rintro y1 w1 ⟨rfl,rfl⟩)
   |(go_at_call 186;refine(yH g rb m e 3 E HE X r _ r0).mono ?_;rintro y2 w2 ⟨rfl,r2,g2⟩))
  go_ret;exact⟨rfl,r2,qJ g0 g2⟩
structure kN (B g rb:Nat) (m e:Int) (vs:Nat->Value) (ts:List TripD) (mb own:Nat->Nat) (s:St) (ids:Nat->List Ψ) (o:Bool) (l:List Ψ) (w:World):Prop where
 rat:wR g rb m e ⟨vs,s.t.fares,mb,s.rules,o⟩ l w
 parts:kT B w vs ts mb own s ids
 lg:own g=99
 lrb:own rb=98
 l1:own 1=97
 l2:own 0=97
theorem zX {g:Nat} {w a:World} (h:Gr g w a) {c:Nat} (hc:w.heap.size<=c) (i:Nat) (v:Value):Gr g w (a.setCell (c,i) v):=
 ⟨h.os,h.tape,h.output,by have:=h.size;simp;exact this,λk hk hne=>(Below.heap_setCell a (c,i) v k τ).trans (h.block k hk hne)⟩
theorem wR.far {g rb:Nat} {m e:Int} {X:PX} {l:List Ψ} {w:World} (h:wR g rb m e X l w) {p:Addr} (v:Value) (h1:p.block≠g) (h2:p.block≠rb) (h3:p.block≠1) (h4:p.block≠0):wR g rb m e X l (w.setCell p v):=by
 obtain⟨u,k1,k2⟩:=h.at';have hb: ∀ k,k≠p.block->(w.setCell p v).heap[k]? =w.heap[k]? :=λk hk=>Below.heap_setCell w p v k hk
 exact⟨⟨u,(hb g (Ne.symm h1)).trans k1,k2.kept (hb rb (Ne.symm h2))⟩,h.ne,by simpa using h.lt,h.env.kept (hb _ (Ne.symm h3)) (hb _ (Ne.symm h4)),h.gl⟩
theorem QK {own:Nat->Nat} {g:Nat} {w w':World} (h:Gr g w w') (hg:own g=99):Mv own w own w':=Mv.grown h (λb hb=>by simp only[qAA]at hb;rw[<-hb];omega)
theorem yJ {own:Nat->Nat} {w w':World} (h:Bl w w'):Mv own w own w':=Mv.grown (row:=none) (J4 h) (λb hb=>by cases hb)
section
variable {B g rb:Nat} {m e:Int} {vs:Nat->Value} {ts:List TripD} {mb own:Nat->Nat} {s:St} {ids:Nat->List (List UInt8)} {o:Bool} {l:List (List UInt8)} {w w':World}
theorem qAK.bl {M:Nat} (h:qAK M B w vs ts mb own s ids) (hb:Bl w w'):qAK M B w' vs ts mb own s ids:=h.kept (row:=none) (J4 hb) (λb hb=>by cases hb)
theorem kN.gr (h:kN B g rb m e vs ts mb own s ids o l w) {e':Int} {l':List Ψ} (hr:wR g rb m e' ⟨vs,s.t.fares,mb,s.rules,o⟩ l' w') (hg:Gr g w w'):kN B g rb m e' vs ts mb own s ids o l' w':=
 ⟨hr,h.parts.kept hg (λb hb=>by simp only[qAA]at hb;rw[<-hb,h.lg];omega),h.lg,h.lrb,h.l1,h.l2⟩
theorem kN.bl (h:kN B g rb m e vs ts mb own s ids o l w) (hb:Bl w w'):kN B g rb m e vs ts mb own s ids o l w':=⟨h.rat.bl hb,h.parts.bl hb,h.lg,h.lrb,h.l1,h.l2⟩
theorem kN.noted (h:kN B g rb m e vs ts mb own s ids o l w) {j:Nat} {q:List Ψ} (hj:j<4) (hg:w.grownBy w' (some (mb j))) (ho:qx w' (mb j) q.length q):kN B g rb m e vs ts mb own s (rE ids j q) o l w':=by
 have hl:=(h.parts.labm j hj).1;refine⟨h.rat.row hg ?_ ?_ ?_ ?_,h.parts.note hj hg ho,h.lg,h.lrb,h.l1,h.l2⟩;all_goals
  intro e;simp only[qAA]at e;rw[e]at hl
 · rw[h.lg]at hl;omega
 · rw[h.lrb]at hl;omega
 · rw[h.l1]at hl;omega
 rw[h.l2]at hl;omega
theorem qAK.st {M:Nat} (h:qAK M B w vs ts mb own s ids) {s':St} (h1:s'.t.trips=s.t.trips) (h2:s'.lines=s.lines) (h3: ∀ k,k<20->jf s' ts k=jf s ts k):qAK M B w vs ts mb own s' ids:=
 ⟨h1.trans h.same,by rw[h2];exact h.lines,λk hk=>by rw[h3 k hk];exact h.row k hk,h.lab,h.calls,h.ok,h.labc,h.maps,h.labm,h.four⟩
def KR (k:Nat):Nat:=if k<10 then k+2 else k+9
theorem Gy (u:Value) (e:Int) (vs:Nat->Value) (f:Jp) (mb:Nat->Nat) (r:Int) (o:Bool) {k:Nat} (hk:k<20) (v:Value):(pC u e vs f mb r o).setIfInBounds (KR k) v=pC u e (Nv vs k v) f mb r o:=by
 rcases k with _|_|_|_|_|_|_|_|_|_|_|_|_|_|_|_|_|_|_|_|k
 all_goals first
  |rfl
  |omega
theorem uN (u:Value) (e:Int) (vs:Nat->Value) (f:Jp) (mb:Nat->Nat) (r:Int) (o:Bool) {k:Nat} (hk:k<20):(pC u e vs f mb r o)[KR k]? =some (vs k):=by
 rcases k with _|_|_|_|_|_|_|_|_|_|_|_|_|_|_|_|_|_|_|_|k
 all_goals first
  |rfl
  |omega
theorem kN.row (h:kN B g rb m e vs ts mb own s ids o l w) {k:Nat} (hk:k<20):w.cell? (g,KR k)=some (vs k):=by
 obtain⟨u,h1,-⟩:=h.rat.at';exact qC h1 (KR k) _ (uN u e vs _ mb _ o hk)
theorem kN.free (h:kN B g rb m e vs ts mb own s ids o l w) (k:Nat):w.frozen? (g,k)=false:=by
 obtain⟨u,h1,-⟩:=h.rat.at';exact U8 h1 k
theorem kN.mapc (h:kN B g rb m e vs ts mb own s ids o l w) {j:Nat} (hj:j<4):w.cell? (g,15+j)=some (.map (some (mb j))):=by
 obtain⟨u,h1,-⟩:=h.rat.at';refine qC h1 (15+j) _ ?_;rcases j with _|_|_|_|j
 all_goals first
  |rfl
  |omega
theorem wR.mapc {X:PX} (h:wR g rb m e X l w) {j:Nat} (hj:j<4):w.cell? (g,15+j)=some (.map (some (X.mb j))):=by
 obtain⟨u,h1,-⟩:=h.at';refine qC h1 (15+j) _ ?_;rcases j with _|_|_|_|j
 all_goals first
  |rfl
  |omega
theorem wR.rowc {X:PX} (h:wR g rb m e X l w) {k:Nat} (hk:k<20):w.cell? (g,KR k)=some (X.vs k):=by
 obtain⟨u,h1,-⟩:=h.at';exact qC h1 (KR k) _ (uN u e X.vs _ X.mb _ X.o hk)
theorem kN.glt (h:kN B g rb m e vs ts mb own s ids o l w):g<w.heap.size:=h.rat.glt
theorem kN.far (h:kN B g rb m e vs ts mb own s ids o l w) {k:Nat} (hk:k<20) {b:Nat} (hb:own b=97∨own b=98∨own b=99):(vs k).ownBlock≠some b:=λe=>by
 have:=h.parts.lab k hk b e;omega
theorem kN.form (h:kN B g rb m e vs ts mb own s ids o l w) {k:Nat} (hk:k<20): ∃ a c,vs k=.slice a (jf s ts k).n c:=by
 rcases(h.parts.row k hk).2 with⟨h1,h0⟩|⟨gg,cap,cur,h1,_⟩
 · exact⟨_,_,by rw[h1,h0]⟩
 exact⟨_,_,h1⟩
theorem kN.push (h:kN B g rb m e vs ts mb own s ids o l w) {k gg cap:Nat} {s':St} {v':Value} (hk:k<20) (hg:w.grownBy w' (vs k).ownBlock) (hv:v'=.slice (some (gg,0)) (jf s' ts k).n cap) (ho:vO B (jf s' ts k) v' w') (hgg:(vs k).ownBlock=some gg∨gg=w.heap.size)
  (hsame:s'.t.trips=s.t.trips) (hlines:s'.lines.length=10) (hslot: ∀ i,i<20->i≠k->jf s' ts i=jf s ts i) (hf:s'.t.fares.disc=s.t.fares.disc/\s'.t.fares.within=s.t.fares.within/\s'.t.fares.cap=s.t.fares.cap) (hr:s'.rules=s.rules):
  kN B g rb m e (Nv vs k v') ts mb (wO own gg k) s' ids o l (w'.setCell (g,KR k) v')/\Mv own w (wO own gg k) (w'.setCell (g,KR k) v'):=by
 have hlab: ∀ b,b<w.heap.size->wO own gg k b=own b:=λb hb=>vw hgg (h.parts.lab k hk) hb
 have p1:=h.parts.push hk hg hv ho hgg hsame hlines hslot;have r1:=h.rat.row hg (h.far hk (.inr (.inr h.lg))) (h.far hk (.inr (.inl h.lrb))) (h.far hk (.inl h.l1)) (h.far hk (.inl h.l2));have lg':wO own gg k g=99:=(hlab g h.glt).trans h.lg;have gs:=zH g w' (KR k) v';obtain⟨u,q1,q2⟩:=r1.at';refine⟨⟨r1.turn gs ⟨u, ?_,q2⟩,p1.kept gs (λb hb=>by simp only[qAA]at hb;rw[<-hb,lg'];omega),lg',(hlab rb h.rat.lt).trans h.lrb,(hlab _ h.rat.env.lt.1).trans h.l1,(hlab _ h.rat.env.lt.2).trans h.l2⟩, ?_⟩
 ·
  have e1:Ih g u e ⟨Nv vs k v',s.t.fares,mb,s.rules,o⟩ (w'.setCell (g,KR k) v'):=by
   have:=qQ q1 (KR k) v';rw[Gy u e vs _ mb _ o hk v']at this;exact this
  unfold Ih at e1 ⊢;rw[e1];unfold pC;rw[hf.1,hf.2.1,hf.2.2,hr]
 have m1:Mv own w (wO own gg k) w':=by
  refine⟨hg.os,hg.tape,hg.output,hg.size,hlab,λb hb hl=>hg.block b hb (λe2=>?_)⟩;have:=h.parts.lab k hk b e2.symm;omega
 exact m1.trans (QK gs lg')
end
theorem Gx {B:Nat} {v':Value} {w:World} {ty:TypeId} {sz n:Nat} {xs ys:List Value} {S:Yn} (h:w.ownsRow B ty sz v' (n+1) (xs++ys)) (h1:S.ty=ty) (h2:S.sz=sz) (h3:S.n=n+1) (h4:S.cells=xs++ys):vO B S v' w:=by
 unfold vO;rw[h1,h2,h3,h4];exact h
theorem Lj {s s':St} {k:Nat} {n:Int} (hl:s'.lines=jm s k n) (hk:k<s.lines.length):qN s' k=qN s k++[n]:=by
 unfold qN;rw[hl];unfold jm;rw[List.getD_eq_getElem?_getD,List.getD_eq_getElem?_getD,List.getElem?_modify,U2 hk];simp
theorem Ll {s s':St} {k j:Nat} {n:Int} (hl:s'.lines=jm s k n) (hne:j≠k):qN s' j=qN s j:=by
 unfold qN;rw[hl];unfold jm;rw[List.getD_eq_getElem?_getD,List.getD_eq_getElem?_getD,List.getElem?_modify];simp[Ne.symm hne]
theorem YK (s:St) (ts:List TripD) (j:Nat) (hj:j<10):jf s ts (j+10)=⟨3,1,(qN s j).length,(qN s j).flatMap qi⟩:=by
 rcases j with _|_|_|_|_|_|_|_|_|_|j
 all_goals first
  |rfl
  |omega
theorem O6 {s s':St} (ts:List TripD) (ht:s'.t=s.t) {i:Nat} (hi:i<10):jf s' ts i=jf s ts i:=by
 rcases i with _|_|_|_|_|_|_|_|_|_|i
 all_goals first
  |(unfold jf;rw[ht];rfl)
  |rfl
  |omega
section
variable {B g rb:Nat} {m e:Int} {vs:Nat->Value} {ts:List TripD} {mb own:Nat->Nat} {s:St} {ids:Nat->List (List UInt8)} {o:Bool} {l:List (List UInt8)} {w w':World}
theorem kN.lined (h:kN B g rb m e vs ts mb own s ids o l w) {k gg cap:Nat} {n:Int} {s':St} (hk:k<10) (hg:w.grownBy w' (vs (k+10)).ownBlock)
  (ho:w'.ownsRow B 3 1 (.slice (some ⟨gg,0,none⟩) ((qN s k).length+1) cap) ((qN s k).length+1) ((qN s k).flatMap qi++[.int .i64 n])) (hgg:(vs (k+10)).ownBlock=some gg∨gg=w.heap.size) (ht:s'.t=s.t) (hl:s'.lines=jm s k n) (hr:s'.rules=s.rules):
  kN B g rb m e (Nv vs (k+10) (.slice (some ⟨gg,0,none⟩) ((qN s k).length+1) cap)) ts mb (wO own gg (k+10)) s' ids o l (w'.setCell ⟨g,k+19,none⟩ (.slice (some ⟨gg,0,none⟩) ((qN s k).length+1) cap))/\Mv own w (wO own gg (k+10)) (w'.setCell ⟨g,k+19,none⟩ (.slice (some ⟨gg,0,none⟩) ((qN s k).length+1) cap)):=by
 have hk':k<s.lines.length:=by rw[h.parts.lines];exact hk
 have e1:=Lj hl hk';have hp:KR (k+10)=k+19:=by unfold KR;rw[U5 ω]
 have:=h.push (k:=k+10) (gg:=gg) (cap:=cap) (s':=s') (v':= .slice (some ⟨gg,0,none⟩) ((qN s k).length+1) cap) ω hg
  (by rw[YK s' ts k hk];show Value.slice _ _ _=Value.slice _ (qN s' k).length _;rw[e1,U1];rfl)
  (by rw[YK s' ts k hk];refine Gx ho rfl rfl ?_ ?_;(show(qN s' k).length=_;rw[e1,U1];rfl);(show(qN s' k).flatMap qi=_;rw[e1,List.flatMap_append];rfl))
  hgg (by rw[ht]) (by rw[hl];unfold jm;rw[List.length_modify];exact h.parts.lines)
  (λi hi hne=>by
   rcases Nat.lt_or_ge i 10 with h10|h10
   · exact O6 ts ht h10
   obtain⟨j,rfl⟩: ∃ j,i=j+10:=⟨i-10,ω⟩;rw[YK s' ts j ω,YK s ts j ω,Ll hl ω])
  (by rw[ht];exact⟨rfl,rfl,rfl⟩) hr
 rw[hp]at this;exact this
end
theorem BA (l:List Int) (e:Int):l.foldl fe e=if e=0 then zT l else e:=by
 induction l generalizing e with
 |nil=>
  show e=if e=0 then 0 else e
  split<;>simp_all
 |cons x r ih=>
  show r.foldl fe (fe e x)=_
  rw[ih];unfold fe;by_cases he:e=0
  ·
   simp only[he,if_true];rfl
  simp only[he,if_false]
theorem vY (l:List Int):l.foldl fe 0=zT l:=(BA l 0).trans (U6 rfl)
