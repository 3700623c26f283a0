/- Contracts, proved. Conditions: theirs. -/
import Derived.Test.YtakedkcjplfgeaaGreatDoorMPsD
import Derived.Test.YtakedkcjplfgeaaGreatDoorMPsE
import Derived.Test.YtakedkcjplfgeaaGreatDoorMPsF
set_option maxRecDepth 1000000
set_option maxHeartbeats 32000000
open Go.Proofs.Tryz
namespace Go.Proofs.YtakedkcjplfgeaaGreatDoor
open Go.RowKit
open Frq Thr Tt Num Clk Dat Fld
def qBd (s:St) (f:List Ψ) (n:Int):St×Int:=match ZM (yK f 0)with
 |none=>(s,41)
 |some k=>if f.length≠wM k then(s,1)else if k=10/\s.opened=false then(s,8)else if k=11/\0<s.rules then(s,6)else qy s k f n
theorem qCG {s:St} {x:Ψ} {n:Int} {l:List Ψ} (h1: ¬ (x=[]∨x.head?=some 35)) (hs:yM x=(l,0)):vN s x n=qBd s l n:=by
 unfold vN qBd;rw[U5 h1,hs];simp only;rw[U5 σ];cases ZM (yK l 0)<;>rfl
theorem qAg (s:St) (r:Int) (o:Bool) (ts:List TripD): ∀ k,k<20->jf ⟨s.t,s.lines,r,o⟩ ts k=jf s ts k:=λk hk=>by
 rcases k with _|_|_|_|_|_|_|_|_|_|_|_|_|_|_|_|_|_|_|_|k
 all_goals first
  |rfl
  |omega
theorem qCO (w:World):Calls prog 64 #[] w λq w'=> ∃ b,q= .returned (.slice (some ⟨b,0,none⟩) 12 12)/\qAj Vj b w'/\Bl w w':=by
 go_enter func64,ntmps64
 go_wp2;go_ret;exact⟨w.heap.size,rfl,qAj.new Vj w _ _ rfl,qE (qB _) _⟩
theorem qAd (k:Nat) (hk:k<12) (w:World):Calls prog 65 #[.int .i64 k] w λq w'=>q= .returned (.int .i64 (wM k))/\Bl w w':=by
 rcases k with _|_|_|_|_|_|_|_|_|_|_|_|k
 all_goals first
  |(
   go_enter func65,ntmps65
   go_wp2;go_ret;exact⟨rfl,qE (qB _) _⟩)
  |omega
theorem qCX (B g fb fo cp N:Nat) (vs:Nat->Value) (ts:List TripD) (own:Nat->Nat) (s:St) (k:Nat) (hk:0<=k/\k<5) (f:List Ψ) (hc:f.length=wM k) (n:Int) (s':St) (E:Int) (HF:Hid (qy s k f n=(s',E))) (hlen: ∀ x∈f,x.length<=131072) (hN:ww N s) (hN2:N<=1000000) (w:World)
  (h:qAN B g 0 vs ts own ⟨s.t,jm s k n,s.rules,k==4⟩ (k==4) w) (lf:own fb=98) (hfb:fb<w.heap.size) (hfc: ∀ (i:Nat) (x:Ψ),f[i]? =some x->w.cell? ⟨fb,fo+i,none⟩=some (qP x)):
  Calls prog 66 #[.pointer (some ⟨g,0,none⟩), .int .i64 k, .slice (some ⟨fb,fo,none⟩) f.length cp] w λq w'=>q= .returned (.tuple #[])/\qAT B g E own s' (k==4) w w':=by
 rcases k with _|_|_|_|_|k
 all_goals try(exfalso;omega)
 ·
  obtain⟨f0,f1,f2,f3,f4,rfl⟩: ∃ f0 f1 f2 f3 f4,f=[f0,f1,f2,f3,f4]:=by
   match f,hc with
   |[f0,f1,f2,f3,f4],_=>exact⟨_,_,_,_,_,rfl⟩
  exact qB9 B g fb fo cp N vs ts own s f0 f1 f2 f3 f4 n s' E HF hlen hN hN2 w h lf hfb hfc
 ·
  obtain⟨f0,f1,f2,f3,rfl⟩: ∃ f0 f1 f2 f3,f=[f0,f1,f2,f3]:=by
   match f,hc with
   |[f0,f1,f2,f3],_=>exact⟨_,_,_,_,rfl⟩
  exact qCA B g fb fo cp N vs ts own s f0 f1 f2 f3 n s' E HF hlen hN hN2 w h lf hfb hfc
 ·
  obtain⟨f0,f1,f2,f3,f4,rfl⟩: ∃ f0 f1 f2 f3 f4,f=[f0,f1,f2,f3,f4]:=by
   match f,hc with
   |[f0,f1,f2,f3,f4],_=>exact⟨_,_,_,_,_,rfl⟩
  exact qCB B g fb fo cp N vs ts own s f0 f1 f2 f3 f4 n s' E HF hlen hN hN2 w h lf hfb hfc
 ·
  obtain⟨f0,f1,f2,f3,rfl⟩: ∃ f0 f1 f2 f3,f=[f0,f1,f2,f3]:=by
   match f,hc with
   |[f0,f1,f2,f3],_=>exact⟨_,_,_,_,rfl⟩
  exact qCC B g fb fo cp N vs ts own s f0 f1 f2 f3 n s' E HF hlen hN hN2 w h lf hfb hfc
 obtain⟨f0,f1,f2,f3,f4,rfl⟩: ∃ f0 f1 f2 f3 f4,f=[f0,f1,f2,f3,f4]:=by
  match f,hc with
  |[f0,f1,f2,f3,f4],_=>exact⟨_,_,_,_,_,rfl⟩
 exact qCD B g fb fo cp N vs ts own s f0 f1 f2 f3 f4 n s' E HF hlen hN hN2 w h lf hfb hfc
theorem qCo (B g fb fo cp N:Nat) (vs:Nat->Value) (ts:List TripD) (own:Nat->Nat) (s:St) (k:Nat) (hk:5<=k/\k<10) (f:List Ψ) (hc:f.length=wM k) (n:Int) (s':St) (E:Int) (HF:Hid (qy s k f n=(s',E))) (hlen: ∀ x∈f,x.length<=131072) (hN:ww N s) (hN2:N<=1000000) (w:World)
  (h:qAN B g 0 vs ts own ⟨s.t,jm s k n,s.rules,k==4⟩ (k==4) w) (lf:own fb=98) (hfb:fb<w.heap.size) (hfc: ∀ (i:Nat) (x:Ψ),f[i]? =some x->w.cell? ⟨fb,fo+i,none⟩=some (qP x)):
  Calls prog 67 #[.pointer (some ⟨g,0,none⟩), .int .i64 k, .slice (some ⟨fb,fo,none⟩) f.length cp] w λq w'=>q= .returned (.tuple #[])/\qAT B g E own s' (k==4) w w':=by
 rcases k with _|_|_|_|_|_|_|_|_|_|k
 all_goals try(exfalso;omega)
 ·
  obtain⟨f0,f1,f2,f3,f4,rfl⟩: ∃ f0 f1 f2 f3 f4,f=[f0,f1,f2,f3,f4]:=by
   match f,hc with
   |[f0,f1,f2,f3,f4],_=>exact⟨_,_,_,_,_,rfl⟩
  exact qCR B g fb fo cp N vs ts own s f0 f1 f2 f3 f4 n s' E HF hlen hN hN2 w h lf hfb hfc
 ·
  obtain⟨f0,f1,f2,rfl⟩: ∃ f0 f1 f2,f=[f0,f1,f2]:=by
   match f,hc with
   |[f0,f1,f2],_=>exact⟨_,_,_,rfl⟩
  exact qCS B g fb fo cp N vs ts own s f0 f1 f2 n s' E HF hlen hN hN2 w h lf hfb hfc
 ·
  obtain⟨f0,f1,f2,f3,rfl⟩: ∃ f0 f1 f2 f3,f=[f0,f1,f2,f3]:=by
   match f,hc with
   |[f0,f1,f2,f3],_=>exact⟨_,_,_,_,rfl⟩
  exact qCT B g fb fo cp N vs ts own s f0 f1 f2 f3 n s' E HF hlen hN hN2 w h lf hfb hfc
 ·
  obtain⟨f0,f1,f2,f3,f4,rfl⟩: ∃ f0 f1 f2 f3 f4,f=[f0,f1,f2,f3,f4]:=by
   match f,hc with
   |[f0,f1,f2,f3,f4],_=>exact⟨_,_,_,_,_,rfl⟩
  exact qCU B g fb fo cp N vs ts own s f0 f1 f2 f3 f4 n s' E HF hlen hN hN2 w h lf hfb hfc
 obtain⟨f0,f1,f2,f3,f4,f5,f6,rfl⟩: ∃ f0 f1 f2 f3 f4 f5 f6,f=[f0,f1,f2,f3,f4,f5,f6]:=by
  match f,hc with
  |[f0,f1,f2,f3,f4,f5,f6],_=>exact⟨_,_,_,_,_,_,_,rfl⟩
 exact qCV B g fb fo cp N vs ts own s f0 f1 f2 f3 f4 f5 f6 n s' E HF hlen hN hN2 w h lf hfb hfc
def qA5 (x:Ψ) (k:Nat):Int:=match ZM x with
 |some j=>if j<k then j else -1
 |none=> -1
theorem qBU: ∀ {ws:List Ψ} {x:Ψ} {i:Nat},qm x ws=some i->ws[i]? =some x
 |[],x,i,h=>by cases h
 |y::r,x,i,h=>by
  unfold qm at h;split at h
  ·
   rename_i e;obtain rfl:=qAB h;rw[e];rfl
  cases hr:qm x r with
  |none=>rw[hr]at h;cases h
  |some j=>
   rw[hr]at h;obtain rfl:=qAB h;have h2:=qBU hr;show(y::r)[j+1]? =some x
   rw[List.getElem?_cons_succ];exact h2
theorem qCw {x:Ψ} {k:Nat} (h:Vj[k]? =some x):qA5 x (k+1)=k:=by
 have hk:k<12:=(Uw.1 h).1;have e:ZM x=some k:=by
  rcases k with _|_|_|_|_|_|_|_|_|_|_|_|k
  all_goals first
   |(obtain rfl:=qAB h;decide)
   |omega
 unfold qA5;rw[e];simp
theorem qC4 {x y:Ψ} {k:Nat} (h:Vj[k]? =some y) (hne:(x==y)=false):qA5 x (k+1)=qA5 x k:=by
 unfold qA5;cases e:ZM x with
 |none=>rfl
 |some j=>
  have h1:j≠k:=λe2=>by
   have h2:=qBU e;rw[e2,h]at h2;rw[qAB h2,beq_self_eq_true]at hne;cases hne
  simp only;by_cases h3:j<k
  · rw[U6 h3,U6 ω]
  rw[U5 h3,U5 ω]
theorem qB6 (B g fb fo cp N:Nat) (vs:Nat->Value) (ts:List TripD) (own:Nat->Nat) (s:St) (f0:Ψ) (fs:List Ψ) (n:Int) (s':St) (E:Int) (HF:Hid (qBd s (f0::fs) n=(s',E))) (hlen: ∀ x∈(f0::fs),x.length<=131072) (hN:ww N s) (hN2:N<=1000000) (hop:s.opened=true->s.t.trips≠[]) (w:World)
  (h:qAN B g 0 vs ts own s s.opened w) (lf:own fb=98) (hfb:fb<w.heap.size) (hfc: ∀ (i:Nat) (x:Ψ),(f0::fs)[i]? =some x->w.cell? ⟨fb,fo+i,none⟩=some (qP x)) (hcp:fs.length+1<=cp/\cp<=9223372036854775807):
  Calls prog 25 #[.pointer (some ⟨g,0,none⟩), .slice (some ⟨fb,fo,none⟩) (fs.length+1) cp, .int .i64 n] w λq w'=>q= .returned (.tuple #[])/\qAT B g E own s' s'.opened w w':=by
 have H:=qA h;have HC:=qA hfc;have HLEN:=qA hlen;have x0:w.cell? ⟨fb,fo,none⟩=some (qP f0):=hfc 0 _ rfl;have hgl:=h.glt;have hfg:fb≠g:=λe=>by have:=h.lg;rw[<-e]at this;omega
 have hpos:(0:Int)<((fs.length:Int)+1):=ω
 clear h hfc hlen;go_enter func25,ntmps25
 go_wp2_with fail;go_loopw [7,6] (λi kd wr=> ∃ k:Nat,(k<=12/\i= .int .i64 k/\kd= .int .i64 (qA5 f0 k))/\Hid (Bl w wr)) (λi _ _=>12-(intOf i).toNat)
 case atStart=>exact⟨0,⟨qAD _,rfl,by rw[show qA5 f0 0= -1 by unfold qA5;split<;>simp]⟩,qB _⟩
 obtain⟨k,⟨hk,rfl,rfl⟩,HBL⟩:=hrel;have d0:wr.cell? ⟨fb,fo,none⟩=some (qP f0):=((qG HBL.o).1 _ _ hfb).trans x0;by_cases hlt:k<12
 ·
  obtain⟨y,hy⟩: ∃ y,Vj[k]? =some y:=⟨_,U2 (show k<Vj.length from hlt)⟩;have HY:=qA hy;have hkI:(k:Int)<12:=ω
  clear hy;cases hq:f0==y
  all_goals
   go_wp2_with fail;refine wp_region_held_drew (S:=λw'=>w'.cell? ⟨fb,fo,none⟩=some (qP f0)) κ (((qG (qH (qB wr))).1 _ _ (Nat.lt_of_lt_of_le hfb HBL.o.size)).trans d0) (λhHeld=>?_);refine qI 0 ?_;refine qI 1 ?_;refine qI 2 ?_;refine qI 4 ?_;refine zh 3 (λKK hKK=>?_);go_simp;go_at_call 64
   refine(qCO _).mono ?_;rintro y1 w1 ⟨b,rfl,wd,b1⟩;have m0:w1.cell? ⟨b,k,none⟩=some (qP y):=wd.2 k y HY.o;have B1:=qA (qF HBL.o (qF (qH (qB wr)) b1));have d1:w1.cell? ⟨fb,fo,none⟩=some (qP f0):=((qG B1.o).1 _ _ hfb).trans x0;clear hHeld wd b1;refine hKK.o _ _ d1 (λhHeld=>?_);refine qI 5 ?_;refine zh 6 (λKK hKK=>?_);go_simp;refine hKK.o _ _ hHeld (λhHeld=>?_);refine qI 7 ?_;refine wpAnyH_done κ ?_ _;try change Exit.then _ _ .normal _ w1
   clear hHeld d1 m0;go_wp2;go_roundw;case rel=>exact⟨k+1,⟨ω,by go_num,by first|rw[qC4 HY.o hq]|rw[beq_iff_eq.1 hq,qCw HY.o]⟩,B1⟩
   simp[intOf];omega
 obtain rfl:k=12:=ω
 have H1:=qA (H.o.bl HBL.o);cases hk:ZM f0 with
 |none=>
  have hkd:qA5 f0 12= -1:=by unfold qA5;rw[hk]
  have hq:(s,(41:Int))=(s',E):=by rw[<-HF.o];unfold qBd;rw[show yK (f0::fs) 0=f0 from rfl,hk]
  obtain⟨e1,e2⟩:=qAE hq;clear hq HF;subst e1 e2;rw[hkd];go_wp2_with (go_at_call 24;refine(qAO g vs s.t.fares s.rules s.opened 0 41 41 (qA rfl) wr H1.o.rat).mono ?_)
  rintro y2 w2 ⟨rfl,r2,g2⟩;go_wp2;refine bodyPost_ret (results_none rfl _ _ _) rfl ?_;exact⟨rfl,vs,ts,own,H1.o.gr r2 g2,(yJ HBL.o).trans (QK g2 H.o.lg)⟩
 |some j=>
  have hj12:j<12:=(Uw.1 (qBU hk)).1;have hkd:qA5 f0 12=j:=by unfold qA5;rw[hk];simp only;rw[U6 hj12]
  have hq0:(if(f0::fs).length≠wM j then(s,(1:Int))else if j=10/\s.opened=false then(s,8)else if j=11/\0<s.rules then(s,6)else qy s j (f0::fs) n)=(s',E):=by rw[<-HF.o];unfold qBd;rw[show yK (f0::fs) 0=f0 from rfl,hk]
  have j0: ¬ ((j:Int)<0):=ω
  rw[hkd];clear hkd hk HF;by_cases hl:fs.length+1=wM j
  rotate_left
  ·
   have hq:(s,(1:Int))=(s',E):=by rw[<-hq0,U6 (show(f0::fs).length≠wM j from hl)]
   have ce:(((fs.length:Int)+1) != (wM j:Int))=true:=by rw[bne_iff_ne];omega
   obtain⟨e1,e2⟩:=qAE hq;clear hq hq0;subst e1 e2;go_wp2_with (first
    |(go_at_call 65;refine(qAd j hj12 _).mono ?_;rintro y1 w1 ⟨rfl,b1⟩)
    |(go_at_call 24;refine(qAO g vs s.t.fares s.rules s.opened 0 1 1 (qA rfl) w1 (H1.o.rat.bl b1)).mono ?_;rintro y2 w2 ⟨rfl,r2,g2⟩))
   go_wp2;refine bodyPost_ret (results_none rfl _ _ _) rfl ?_;exact⟨rfl,vs,ts,own,(H1.o.bl b1).gr r2 g2,(yJ (qF HBL.o b1)).trans (QK g2 H.o.lg)⟩
  rw[U5 (show ¬ (f0::fs).length≠wM j from λh=>h hl)]at hq0;have ce:(((fs.length:Int)+1) != (wM j:Int))=false:=by rw[bne_eq_false_iff_eq];omega
  have HL:=qA hl;clear hl;by_cases hbad1:j=10/\s.opened=false
  ·
   obtain⟨rfl,ho⟩:=hbad1;rw[U6 ⟨rfl,ho⟩]at hq0;obtain⟨e1,e2⟩:=qAE hq0;clear hq0;subst e1 e2;go_wp2_with (first
    |(go_at_call 65;refine(qAd 10 hj12 _).mono ?_;rintro y1 w1 ⟨rfl,b1⟩;have c24:w1.cell? ⟨g,24,none⟩=some (.bool s.opened):=qC (H1.o.rat.bl b1) 24 _ rfl;rw[ho]at c24)
    |(go_at_call 24;refine(qAO g vs s.t.fares s.rules s.opened 0 8 8 (qA rfl) w1 (H1.o.rat.bl b1)).mono ?_;rintro y2 w2 ⟨rfl,r2,g2⟩))
   go_wp2;refine bodyPost_ret (results_none rfl _ _ _) rfl ?_;exact⟨rfl,vs,ts,own,(H1.o.bl b1).gr r2 g2,(yJ (qF HBL.o b1)).trans (QK g2 H.o.lg)⟩
  rw[U5 hbad1]at hq0;by_cases hbad2:j=11/\0<s.rules
  ·
   obtain⟨rfl,ho⟩:=hbad2;rw[U6 ⟨rfl,ho⟩]at hq0;obtain⟨e1,e2⟩:=qAE hq0;clear hq0;subst e1 e2;go_wp2_with (first
    |(go_at_call 65;refine(qAd 11 hj12 _).mono ?_;rintro y1 w1 ⟨rfl,b1⟩;have c23:w1.cell? ⟨g,23,none⟩=some (.int .i64 s.rules):=qC (H1.o.rat.bl b1) 23 _ rfl)
    |(go_at_call 24;refine(qAO g vs s.t.fares s.rules s.opened 0 6 6 (qA rfl) w1 (H1.o.rat.bl b1)).mono ?_;rintro y2 w2 ⟨rfl,r2,g2⟩))
   go_wp2;refine bodyPost_ret (results_none rfl _ _ _) rfl ?_;exact⟨rfl,vs,ts,own,(H1.o.bl b1).gr r2 g2,(yJ (qF HBL.o b1)).trans (QK g2 H.o.lg)⟩
  rw[U5 hbad2]at hq0;have HR:=qA hq0;have HOP:=qA (show s'.opened=(j==4||j==10) by rw[<-Wn s j (f0::fs) n,hq0]);clear hq0;by_cases hj:j<10
  ·
   have q10:((j:Int)==10)=false:=π
   have q11:((j:Int)==11)=false:=π
   have lt10:(j:Int)<10:=ω
   have HOQ:=qA (show s'.opened=(j==4) by rw[HOP.o,show(j==10)=false from U0.2 ω,Bool.or_false]);obtain⟨a1,k1,hv1⟩: ∃ a c,vs (j+10)= .slice a (qN s j).length c:=by
    have h:=H.o.form (k:=j+10) ω;rw[YK s ts j hj]at h;exact h
   have hln:=hN.lens j;go_upto_region 14 with(go_at_call 65;refine(qAd j hj12 _).mono ?_;rintro y1 w1 ⟨rfl,b1⟩;have H2:=qA (H1.o.bl b1);have HB2:=qA (qF HBL.o b1);have c24:w1.cell? ⟨g,24,none⟩=some (.bool s.opened):=qC H2.o.rat 24 _ rfl;have c23:w1.cell? ⟨g,23,none⟩=some (.int .i64 s.rules):=qC H2.o.rat 23 _ rfl;have f24:=U8 H2.o.rat 24)
   go_cut [6] from 54 to 62 (λsv wx=>sv= .int .i64 (j:Int)/\wx=w1.setCell ⟨g,24,none⟩ (.bool (j==4)))
   case first=>
    by_cases h4:j=4
    ·
     subst h4;go_wp2;go_meet
     exact⟨rfl,rfl⟩
    have q4:((j:Int)==4)=false:=π
    have q4':(j==4)=false:=U0.2 h4;go_wp2;go_meet
    exact⟨rfl,by rw[q4']⟩
   obtain⟨rfl,rfl⟩:=hcut;obtain⟨j1,m1⟩:=H2.o.set (s':=⟨s.t,s.lines,s.rules,j==4⟩) (o':=j==4) (c:=24) (v:= .bool (j==4)) rfl rfl rfl (qAg s s.rules (j==4) ts);generalize w1.setCell ⟨g,24,none⟩ (.bool (j==4))=w2 at j1 m1 ⊢
   have M1:Mv own w own w2:=(yJ HB2.o).trans (QK m1 H.o.lg);have J2:=qA (j1.bl (qH (qB w2)));have M2:=qA (M1.trans (yJ (qH (qB w2))));have hrow: ∀ {w},qAN B g 0 vs ts own ⟨s.t,s.lines,s.rules,j==4⟩ (j==4) w->w.cell? ⟨g,13+j,none⟩=some (.slice a1 (qN s j).length k1):=λh=>by
    have h:=h.row (k:=j+10) ω;rw[show qAw (j+10)=13+j by unfold qAw;rw[U5 ω];omega,hv1]at h;exact h
   clear j1 m1 M1 c24 c23 f24 d0;go_wp2_with fail;refine qAP (λw'=>w'.cell? ⟨g,13+j,none⟩=some (.slice a1 (qN s j).length k1)) 14 (hrow J2.o) (λhHeld=>?_);generalize w2.drew=w3 at J2 M2 hHeld ⊢
   refine SG 0 ?_;refine SG 1 ?_;refine SG 2 ?_;refine SG 3 ?_;refine SG 4 ?_;refine SG 5 ?_;refine SG 6 ?_;refine SG 7 ?_;refine SG 8 ?_;refine SG 11 ?_ (ps:=[12,13]);refine SG 12 ?_ (ps:=[13]);refine qAI 9 (λKK hKK=>?_);go_simp;have ba:=qE (qB w3) (.cells #[.int .i64 n] 3);refine hKK.o _ _ (hrow (J2.o.bl ba)) (λhHeld=>?_);refine qAI 10 (λKK hKK=>?_);have OD:(w3.alloc (.cells #[.int .i64 n] 3)).ownsRow B 3 1 (.slice a1 (qN s j).length k1) (qN s j).length ((qN s j).flatMap qi):=by
    have h1:=(J2.o.bl ba).parts.row (j+10) ω;rw[YK _ ts j hj]at h1;unfold vO at h1;rw[hv1]at h1;exact h1
   obtain⟨i7,hi7,hz70,hz71,hz72⟩:=info_parts yD;have hB7:=J2.o.base;have far7:some g≠(Value.slice a1 (qN s j).length k1).ownBlock:=λe=>by rw[<-hv1]at e;exact J2.o.far (k:=j+10) ω (.inr (.inr J2.o.lg)) e.symm
   have gl7:=J2.o.glt;refine step_append_lies _ ρ _ _ _ ρ B 3 i7 _ 1 8 underlying73 hi7 hz70 hz71 hz72 rfl ω (.slice a1 (qN s j).length k1) (qN s j).length ((qN s j).flatMap qi) ρ OD ⟨w3.heap.size,0,none⟩ 1 1 [.int .i64 n] ρ ρ (World.news_of_block (cs:= #[.int .i64 n]) (heap_alloc_new w3 _)) (by simp[Value.oneCell']) ω ζ ω τ (w3.heap.size+1) σ ?_;intro gg7 cap7 w9 hown7 hgrow7 hat7 hlt7;have P1:qAT B g 0 own ⟨s.t,jm s j n,s.rules,j==4⟩ (j==4) (w3.alloc (.cells #[.int .i64 n] 3)) (w9.setCell ⟨g,j+13,none⟩ (.slice (some ⟨gg7,0,none⟩) ((qN s j).length+1) cap7)):=(J2.o.bl ba).lined (k:=j) (n:=n) (s':=⟨s.t,jm s j n,s.rules,j==4⟩) (cap:=cap7) hj (by rw[hv1];exact hgrow7) hown7 (by rw[hv1];simpa using hat7) rfl rfl rfl;rw[Nat.add_comm j 13]at P1;have mf:=(hgrow7.frozen_far ⟨g,13+j,none⟩ τ far7).trans (U8 (J2.o.bl ba).rat (13+j));refine hKK.o _ _ ((hgrow7.cell_far ⟨g,13+j,none⟩ τ far7).trans (hrow (J2.o.bl ba))) (λhHeld=>?_);refine qAJ 13 ?_;refine qAQ (λKK hKK=>?_);go_simp;refine hKK.o _ _ ?_;obtain⟨vs1,ts1,own1,r1,m3⟩:=P1;have R1:=qA r1;have M4:=qA ((M2.o.trans (yJ ba)).trans m3);clear r1 m3 ba hHeld hown7 hgrow7 hat7 hlt7 mf far7 OD gl7;generalize w9.setCell ⟨g,13+j,none⟩ (.slice (some ⟨gg7,0,none⟩) ((qN s j).length+1) cap7)=w10 at R1 M4 ⊢
   have lf1:own1 fb=98:=(M4.o.lab fb hfb).trans lf;have hfb1:fb<w10.heap.size:=Nat.lt_of_lt_of_le hfb M4.o.size;have HC1:Hid (∀ (i:Nat) (x:Ψ),(f0::fs)[i]? =some x->w10.cell? ⟨fb,fo+i,none⟩=some (qP x)):=λi x hx=>(World.cell?_of_block (M4.o.block fb hfb (.inr lf))).trans (HC.o i x hx)
   by_cases h5:j<5
   ·
    have l5:(j:Int)<5:=ω
    go_wp2_with (go_at_call 66;refine(qCX B g fb fo cp N vs1 ts1 own1 s j ⟨qAD _,h5⟩ (f0::fs) HL.o n s' E HR HLEN.o hN hN2 w10 R1.o lf1 hfb1 HC1.o).mono ?_)
    first|rintro y4 w4 rfl hq4|rintro y4 w4 ⟨rfl,hq4⟩
    obtain⟨vs4,ts4,own4,R4,M5⟩:=hq4;go_wp2;go_end0;exact⟨rfl,vs4,ts4,own4,by rw[HOQ.o];exact R4,M4.o.trans M5⟩
   have l5: ¬ (j:Int)<5:=ω
   go_wp2_with (go_at_call 67;refine(qCo B g fb fo cp N vs1 ts1 own1 s j ⟨ω,hj⟩ (f0::fs) HL.o n s' E HR HLEN.o hN hN2 w10 R1.o lf1 hfb1 HC1.o).mono ?_)
   first|rintro y4 w4 rfl hq4|rintro y4 w4 ⟨rfl,hq4⟩
   obtain⟨vs4,ts4,own4,R4,M5⟩:=hq4;go_wp2;go_end0;exact⟨rfl,vs4,ts4,own4,by rw[HOQ.o];exact R4,M4.o.trans M5⟩
  by_cases h10:j=10
  ·
   subst h10;have ho:s.opened=true:=by cases h:s.opened with
    |true=>rfl
    |false=>exact absurd ⟨rfl,h⟩ hbad1
   have hts:ts≠[]:=λe=>by have h1:=H.o.parts.same;rw[e]at h1;exact hop ho h1
   obtain⟨pre,x,rfl⟩: ∃ pre x,ts=pre++[x]:=⟨ts.dropLast,ts.getLast hts,(List.dropLast_concat_getLast hts).symm⟩;obtain⟨f1,f2,f3,f4,rfl⟩: ∃ f1 f2 f3 f4,fs=[f1,f2,f3,f4]:=by
    match fs,HL.o with
    |[f1,f2,f3,f4],_=>exact⟨f1,f2,f3,f4,rfl⟩
   have HCALL:Hid (∀ W,qAN B g 0 vs (pre++[x]) own ⟨s.t,s.lines,s.rules,true⟩ true W->Mv own w own W->Calls prog 67 #[.pointer (some ⟨g,0,none⟩), .int .i64 10, .slice (some ⟨fb,fo,none⟩) 5 cp] W λq w'=>q= .returned (.tuple #[])/\ ∃ (vs':Nat->Value) (ts':List TripD) (own':Nat->Nat),qAN B g E vs' ts' own' s' s'.opened w'/\Mv own w own' w'):=λW hW mW=>by
    refine(qB7 B g fb fo cp N vs pre x own s f0 f1 f2 f3 f4 n s' E HR HLEN.o hN hN2 W hW lf (Nat.lt_of_lt_of_le hfb mW.size) (λi x hx=>(World.cell?_of_block (mW.block fb hfb (.inr lf))).trans (HC.o i x hx))).mono ?_;rintro q w' ⟨rfl,vs',ts',own',R,M⟩;exact⟨rfl,vs',ts',own',by rw[HOP.o];exact R,mW.trans M⟩
   clear d0 x0;go_wp2_with (first
    |(go_at_call 65;refine(qAd 10 hj12 _).mono ?_;rintro y1 w1 ⟨rfl,b1⟩;have H2:=qA (H1.o.bl b1);have c24:w1.cell? ⟨g,24,none⟩=some (.bool s.opened):=qC H2.o.rat 24 _ rfl;rw[ho]at c24;have f24:=U8 H2.o.rat 24)
    |(go_at_call 67;refine(HCALL.o _ (H2.o.set (s':=⟨s.t,s.lines,s.rules,true⟩) (o':=true) (c:=24) (v:= .bool true) rfl rfl rfl (qAg s s.rules true _)).1 ((yJ (qF HBL.o b1)).trans (QK (zH g w1 24 (.bool true)) H.o.lg))).mono ?_;rintro y4 w4 ⟨rfl,vs4,ts4,own4,R4,M5⟩))
   go_wp2;go_end0;exact⟨rfl,vs4,ts4,own4,R4,M5⟩
  obtain rfl:j=11:=ω
  obtain⟨f1,f2,f3,rfl⟩: ∃ f1 f2 f3,fs=[f1,f2,f3]:=by
   match fs,HL.o with
   |[f1,f2,f3],_=>exact⟨f1,f2,f3,rfl⟩
  have hru: ¬ (0:Int)<s.rules:=λh=>hbad2 ⟨rfl,h⟩
  have HCALL:Hid (∀ W,qAN B g 0 vs ts own ⟨s.t,s.lines,n,false⟩ false W->Mv own w own W->Calls prog 67 #[.pointer (some ⟨g,0,none⟩), .int .i64 11, .slice (some ⟨fb,fo,none⟩) 4 cp] W λq w'=>q= .returned (.tuple #[])/\ ∃ (vs':Nat->Value) (ts':List TripD) (own':Nat->Nat),qAN B g E vs' ts' own' s' s'.opened w'/\Mv own w own' w'):=λW hW mW=>by
   refine(qB8 B g fb fo cp N vs ts own s f0 f1 f2 f3 n s' E HR HLEN.o hN hN2 W hW lf (Nat.lt_of_lt_of_le hfb mW.size) (λi x hx=>(World.cell?_of_block (mW.block fb hfb (.inr lf))).trans (HC.o i x hx))).mono ?_;rintro q w' ⟨rfl,vs',ts',own',R,M⟩;exact⟨rfl,vs',ts',own',by rw[HOP.o];exact R,mW.trans M⟩
  clear d0 x0;go_wp2_with (first
   |(go_at_call 65;refine(qAd 11 hj12 _).mono ?_;rintro y1 w1 ⟨rfl,b1⟩;have H2:=qA (H1.o.bl b1);have c24:w1.cell? ⟨g,24,none⟩=some (.bool s.opened):=qC H2.o.rat 24 _ rfl;have f24:=U8 H2.o.rat 24;have c23:w1.cell? ⟨g,23,none⟩=some (.int .i64 s.rules):=qC H2.o.rat 23 _ rfl;have f23:=U8 H2.o.rat 23)
   |(go_at_call 67;refine(HCALL.o _ ((H2.o.set (s':=⟨s.t,s.lines,s.rules,false⟩) (o':=false) (c:=24) (v:= .bool false) rfl rfl rfl (qAg s s.rules false _)).1.set (s':=⟨s.t,s.lines,n,false⟩) (o':=false) (c:=23) (v:= .int .i64 n) rfl rfl rfl (λk hk=>(qAg s n false _ k hk).trans (qAg s s.rules false _ k hk).symm)).1 ((yJ (qF HBL.o b1)).trans (QK (qJ (zH g w1 24 (.bool false)) (zH g _ 23 (.int .i64 n))) H.o.lg))).mono ?_;rintro y4 w4 ⟨rfl,vs4,ts4,own4,R4,M5⟩))
  go_wp2;go_end0;exact⟨rfl,vs4,ts4,own4,R4,M5⟩
