/- Contracts, proved. Conditions: theirs. -/
import Derived.Test.YtakedkcjplfgeaaGreatDoorMPkRdC
import Derived.Deep.DrawnRows
set_option maxRecDepth 1000000
set_option maxHeartbeats 32000000
open Go.Proofs.Tryz
namespace Go.Proofs.YtakedkcjplfgeaaGreatDoor
open Go.RowKit
open Frq Thr Tt Num Clk Dat Fld
attribute [local go_sem ↓] Go.wp_at_zero Go.wp_at_succ
theorem EU {w:World} {b:Nat} {C:Array Value} {T:TypeId} (h:w.heap[b]? =some (.cells C T (0,0))):w.there b 0 C.size:=λj hj=>by
 rw[Nat.zero_add];exact⟨by rw[qC h j C[j] (by rw[Array.getElem?_eq_getElem hj])];rfl,U8 h j⟩
theorem aA (b:Nat): ∀ (L:List Value) (i:Nat) (w:World),Hm w b i L=w.setCells b i L
 |[],_,_=>rfl
 |v::L,i,w=>aA b L (i+1) (w.setCell (b,i) v)
theorem LU (B g rb N:Nat) (m:Int) (vs:Nat->Value) (ts:List TripD) (mb own:Nat->Nat) (s:St) (ids:Nat->List Ψ) (o:Bool) (f1 f2 f3 f4:Ψ) (n:Int) (s':St) (E:Int)
  (HF:Hid (qy s 2 [[99,97,108,101,110,100,97,114],f1,f2,f3,f4] n=(s',E))) (l1:f1.length<=131072) (hN:ww N s) (hN2:N<=1000000) (hid: ∀ j,j<4->ids j=yX s.t j) (w:World) (h:kN B g rb m 0 vs ts mb own s ids o [f1,f2,f3,f4] w):
  Calls prog 41 #[.pointer (some ⟨g,0,none⟩),qP [99,97,108,101,110,100,97,114], .int .i64 n] w λq w'=>q= .returned (.tuple #[])/\ ∃ vs' ts' own' ids',kN B g rb m E vs' ts' mb own' s' ids' o [] w'/\(∀ j,j<4->ids' j=yX s'.t j)/\Mv own w own' w':=by
 obtain⟨⟨n2,e2⟩,HP2⟩: ∃ p,Hid (JR f2=p):=⟨_,rfl⟩;obtain⟨⟨n3,e3⟩,HP3⟩: ∃ p,Hid (wB f3=p):=⟨_,rfl⟩;obtain⟨⟨n4,e4⟩,HP4⟩: ∃ p,Hid (wB f4=p):=⟨_,rfl⟩;have hF:qy s 2 [[99,97,108,101,110,100,97,114],f1,f2,f3,f4] n=(⟨{ s.t with cals:=s.t.cals++[⟨f1,(JR f2).1,(wB f3).1,(wB f4).1⟩] },jm s 2 n,s.rules,false⟩,zT [(JR f2).2,(wB f3).2,(wB f4).2]):=rfl;rw[HP2.o,HP3.o,HP4.o]at hF;have hq:=hF.symm.trans HF.o;simp only[qAF]at hq;obtain⟨hs1,hE1⟩:=hq;have HE:=qA (show(fe (fe (fe 0 e2) e3) e4)=E by rw[<-hE1];exact vY [e2,e3,e4]);have HS:=qA hs1;clear hF hE1 hs1 HF;have H:=qA h;have hR:=h.rat.bl (qH (qB w));have hg:=h.glt;have hrb:=h.rat.lt;obtain⟨hm1,hm2⟩:=h.rat.env.lt;clear h;go_enter func41,ntmps41
 go_wp2_with fail;go_cut [8] from 338 (λsv wx=> ∃ b:Nat,sv= .pointer (some ⟨b,0,none⟩)/\w.heap.size<=b/\Hid (wR g rb m (fe (fe (fe 0 e2) e3) e4) ⟨vs,s.t.fares,mb,s.rules,o⟩ [] wx)/\Hid (Gr g w wx)/\Hid (wx.heap[b]? =some (.cells #[qP f1, .bool n2.d0, .bool n2.d1, .bool n2.d2, .bool n2.d3, .bool n2.d4, .bool n2.d5, .bool n2.d6, .int .i64 n3, .int .i64 n4] 61 (0,0))))
 case first=>
  rename_i J0 K0 hJ0 hK0;have G9:Gr g w w.drew:=jH (qH (qB w));refine wp_region_held_drew (S:=(λw'=>True)) κ (trivial) (λhHeld=>?_);refine qI 0 ?_;refine qI 1 ?_;refine qI 2 ?_;refine qI 4 ?_;refine qI 5 ?_;refine qI 6 ?_;refine qI 8 ?_;refine qI 9 ?_;refine qI 10 ?_;refine qI 12 ?_;refine qI 13 ?_;refine qI 14 ?_;have mN0:=True.intro;all_goals first
   |(
     clear mN0;refine wpAnyH_ready (rs:=[3,17]) κ σ ?_;refine(AllReadyH.cons rfl (λKK hKK=>?_) (AllReadyH.cons rfl (λKK hKK=>?_) AllReadyH.nil));go_simp;go_at_call 107
     refine(zy g rb m 0 ⟨vs,s.t.fares,mb,s.rules,o⟩ f1 [f2,f3,f4] _ hR).mono ?_;rintro y1 w1 ⟨rfl,r1,g1⟩;have g1x:Gr g w w1:=qJ G9 g1;refine hKK.o _ _ (trivial) (λhHeld=>?_);have mN1:=True.intro;rotate_left;go_simp;refine hKK.o _ _ (trivial) (λhHeld=>?_);have rA:=hR.bl (qE (qB w.drew) (.cells #[.string ⟨#[]⟩, .bool false, .bool false, .bool false, .bool false, .bool false, .bool false, .bool false, .int .i64 0, .int .i64 0] 61));have gA:=qJ G9 (jH (qE (qB w.drew) (.cells #[.string ⟨#[]⟩, .bool false, .bool false, .bool false, .bool false, .bool false, .bool false, .bool false, .int .i64 0, .int .i64 0] 61)));have BK:(w.drew.alloc (.cells #[.string ⟨#[]⟩, .bool false, .bool false, .bool false, .bool false, .bool false, .bool false, .bool false, .int .i64 0, .int .i64 0] 61)).heap[w.heap.size]? =some (.cells #[.string ⟨#[]⟩, .bool false, .bool false, .bool false, .bool false, .bool false, .bool false, .bool false, .int .i64 0, .int .i64 0] 61 (0,0)):=heap_alloc_new w.drew _;have bkne:w.heap.size≠g:=by have:=hR.glt;omega
     generalize hbk:w.heap.size=bk at BK bkne ⊢
     have hwbk:w.heap.size<=bk:=Nat.le_of_eq hbk;clear hbk;rw[World.alloc_drew]at rA gA BK;generalize (w.alloc (.cells #[.string ⟨#[]⟩, .bool false, .bool false, .bool false, .bool false, .bool false, .bool false, .bool false, .int .i64 0, .int .i64 0] 61)).drew=wA at rA gA BK hHeld ⊢
     have mA0:=True.intro)
   |skip
  all_goals first
   |(
     clear mN1;refine wpAnyH_ready (rs:=[7,17]) κ σ ?_;refine(AllReadyH.cons rfl (λKK hKK=>?_) (AllReadyH.cons rfl (λKK hKK=>?_) AllReadyH.nil));go_simp;go_at_call 112
     refine(BD g rb m 0 e2 (fe 0 e2) n2 ⟨vs,s.t.fares,mb,s.rules,o⟩ f2 [f3,f4] HP2 (qA rfl) _ r1).mono ?_;rintro y2 w2 ⟨rfl,r2,g2⟩;have g2x:Gr g w w2:=qJ g1x g2;refine hKK.o _ _ (trivial) (λhHeld=>?_);have mN2:=True.intro;rotate_left;go_simp;refine hKK.o _ _ (trivial) (λhHeld=>?_);have rA:=r1.bl (qE (qB w1) (.cells #[.string ⟨#[]⟩, .bool false, .bool false, .bool false, .bool false, .bool false, .bool false, .bool false, .int .i64 0, .int .i64 0] 61));have gA:=qJ g1x (jH (qE (qB w1) (.cells #[.string ⟨#[]⟩, .bool false, .bool false, .bool false, .bool false, .bool false, .bool false, .bool false, .int .i64 0, .int .i64 0] 61)));have BK:(w1.alloc (.cells #[.string ⟨#[]⟩, .bool false, .bool false, .bool false, .bool false, .bool false, .bool false, .bool false, .int .i64 0, .int .i64 0] 61)).heap[w1.heap.size]? =some (.cells #[.string ⟨#[]⟩, .bool false, .bool false, .bool false, .bool false, .bool false, .bool false, .bool false, .int .i64 0, .int .i64 0] 61 (0,0)):=heap_alloc_new w1 _;have bkne:w1.heap.size≠g:=by have:=r1.glt;have:=g1x.size;omega
     have hwbk:w.heap.size<=w1.heap.size:=g1x.size;generalize w1.heap.size=bk at BK bkne hwbk ⊢
     generalize w1.alloc (.cells #[.string ⟨#[]⟩, .bool false, .bool false, .bool false, .bool false, .bool false, .bool false, .bool false, .int .i64 0, .int .i64 0] 61)=wA at rA gA BK hHeld ⊢
     have mA1:=True.intro)
   |skip
  all_goals first
   |(
     clear mN2;refine wpAnyH_ready (rs:=[11,17]) κ σ ?_;refine(AllReadyH.cons rfl (λKK hKK=>?_) (AllReadyH.cons rfl (λKK hKK=>?_) AllReadyH.nil));go_simp;go_at_call 113
     refine(Ve g rb m (fe 0 e2) e3 (fe (fe 0 e2) e3) n3 ⟨vs,s.t.fares,mb,s.rules,o⟩ f3 [f4] HP3 (qA rfl) _ r2).mono ?_;rintro y3 w3 ⟨rfl,r3,g3⟩;have g3x:Gr g w w3:=qJ g2x g3;refine hKK.o _ _ (trivial) (λhHeld=>?_);have mN3:=True.intro;rotate_left;go_simp;refine hKK.o _ _ (trivial) (λhHeld=>?_);have rA:=r2.bl (qE (qB w2) (.cells #[.string ⟨#[]⟩, .bool false, .bool false, .bool false, .bool false, .bool false, .bool false, .bool false, .int .i64 0, .int .i64 0] 61));have gA:=qJ g2x (jH (qE (qB w2) (.cells #[.string ⟨#[]⟩, .bool false, .bool false, .bool false, .bool false, .bool false, .bool false, .bool false, .int .i64 0, .int .i64 0] 61)));have BK:(w2.alloc (.cells #[.string ⟨#[]⟩, .bool false, .bool false, .bool false, .bool false, .bool false, .bool false, .bool false, .int .i64 0, .int .i64 0] 61)).heap[w2.heap.size]? =some (.cells #[.string ⟨#[]⟩, .bool false, .bool false, .bool false, .bool false, .bool false, .bool false, .bool false, .int .i64 0, .int .i64 0] 61 (0,0)):=heap_alloc_new w2 _;have bkne:w2.heap.size≠g:=by have:=r2.glt;have:=g2x.size;omega
     have hwbk:w.heap.size<=w2.heap.size:=g2x.size;generalize w2.heap.size=bk at BK bkne hwbk ⊢
     generalize w2.alloc (.cells #[.string ⟨#[]⟩, .bool false, .bool false, .bool false, .bool false, .bool false, .bool false, .bool false, .int .i64 0, .int .i64 0] 61)=wA at rA gA BK hHeld ⊢
     have mA2:=True.intro)
   |skip
  all_goals first
   |(
     clear mN3;refine wpAnyH_ready (rs:=[15,17]) κ σ ?_;refine(AllReadyH.cons rfl (λKK hKK=>?_) (AllReadyH.cons rfl (λKK hKK=>?_) AllReadyH.nil));go_simp;go_at_call 113
     refine(Ve g rb m (fe (fe 0 e2) e3) e4 (fe (fe (fe 0 e2) e3) e4) n4 ⟨vs,s.t.fares,mb,s.rules,o⟩ f4 [] HP4 (qA rfl) _ r3).mono ?_;rintro y4 w4 ⟨rfl,r4,g4⟩;have g4x:Gr g w w4:=qJ g3x g4;refine hKK.o _ _ (trivial) (λhHeld=>?_);refine qI 16 ?_;have mN4:=True.intro;rotate_left;go_simp;refine hKK.o _ _ (trivial) (λhHeld=>?_);have rA:=r3.bl (qE (qB w3) (.cells #[.string ⟨#[]⟩, .bool false, .bool false, .bool false, .bool false, .bool false, .bool false, .bool false, .int .i64 0, .int .i64 0] 61));have gA:=qJ g3x (jH (qE (qB w3) (.cells #[.string ⟨#[]⟩, .bool false, .bool false, .bool false, .bool false, .bool false, .bool false, .bool false, .int .i64 0, .int .i64 0] 61)));have BK:(w3.alloc (.cells #[.string ⟨#[]⟩, .bool false, .bool false, .bool false, .bool false, .bool false, .bool false, .bool false, .int .i64 0, .int .i64 0] 61)).heap[w3.heap.size]? =some (.cells #[.string ⟨#[]⟩, .bool false, .bool false, .bool false, .bool false, .bool false, .bool false, .bool false, .int .i64 0, .int .i64 0] 61 (0,0)):=heap_alloc_new w3 _;have bkne:w3.heap.size≠g:=by have:=r3.glt;have:=g3x.size;omega
     have hwbk:w.heap.size<=w3.heap.size:=g3x.size;generalize w3.heap.size=bk at BK bkne hwbk ⊢
     generalize w3.alloc (.cells #[.string ⟨#[]⟩, .bool false, .bool false, .bool false, .bool false, .bool false, .bool false, .bool false, .int .i64 0, .int .i64 0] 61)=wA at rA gA BK hHeld ⊢
     have mA3:=True.intro)
   |skip
  all_goals first
   |(
     clear mN4;refine wpAnyH_ready (rs:=[17]) κ σ ?_;refine(AllReadyH.cons rfl (λKK hKK=>?_) AllReadyH.nil);go_simp;refine hKK.o _ _ (trivial) (λhHeld=>?_);have rA:=r4.bl (qE (qB w4) (.cells #[.string ⟨#[]⟩, .bool false, .bool false, .bool false, .bool false, .bool false, .bool false, .bool false, .int .i64 0, .int .i64 0] 61));have gA:=qJ g4x (jH (qE (qB w4) (.cells #[.string ⟨#[]⟩, .bool false, .bool false, .bool false, .bool false, .bool false, .bool false, .bool false, .int .i64 0, .int .i64 0] 61)));have BK:(w4.alloc (.cells #[.string ⟨#[]⟩, .bool false, .bool false, .bool false, .bool false, .bool false, .bool false, .bool false, .int .i64 0, .int .i64 0] 61)).heap[w4.heap.size]? =some (.cells #[.string ⟨#[]⟩, .bool false, .bool false, .bool false, .bool false, .bool false, .bool false, .bool false, .int .i64 0, .int .i64 0] 61 (0,0)):=heap_alloc_new w4 _;have bkne:w4.heap.size≠g:=by have:=r4.glt;have:=g4x.size;omega
     have hwbk:w.heap.size<=w4.heap.size:=g4x.size;generalize w4.heap.size=bk at BK bkne hwbk ⊢
     generalize w4.alloc (.cells #[.string ⟨#[]⟩, .bool false, .bool false, .bool false, .bool false, .bool false, .bool false, .bool false, .int .i64 0, .int .i64 0] 61)=wA at rA gA BK hHeld ⊢
     have mA4:=True.intro)
   |skip
  all_goals first
   |(
     clear mA0;refine wpAnyH_ready (rs:=[3]) κ σ ?_;refine(AllReadyH.cons rfl (λKK hKK=>?_) AllReadyH.nil);go_simp;go_at_call 107
     refine(zy g rb m 0 ⟨vs,s.t.fares,mb,s.rules,o⟩ f1 [f2,f3,f4] _ rA).mono ?_;rintro y1 w1 ⟨rfl,r1,g1⟩;have gA:Gr g w w1:=qJ gA g1;have BK:=(qg g1 (lt_of_block BK) bkne).trans BK;have rA:=r1;refine hKK.o _ _ (trivial) (λhHeld=>?_);have mA1:=True.intro)
   |skip
  all_goals first
   |(
     clear mA1;refine wpAnyH_ready (rs:=[7]) κ σ ?_;refine(AllReadyH.cons rfl (λKK hKK=>?_) AllReadyH.nil);go_simp;go_at_call 112
     refine(BD g rb m 0 e2 (fe 0 e2) n2 ⟨vs,s.t.fares,mb,s.rules,o⟩ f2 [f3,f4] HP2 (qA rfl) _ rA).mono ?_;rintro y2 w2 ⟨rfl,r2,g2⟩;have gA:Gr g w w2:=qJ gA g2;have BK:=(qg g2 (lt_of_block BK) bkne).trans BK;have rA:=r2;refine hKK.o _ _ (trivial) (λhHeld=>?_);have mA2:=True.intro)
   |skip
  all_goals first
   |(
     clear mA2;refine wpAnyH_ready (rs:=[11]) κ σ ?_;refine(AllReadyH.cons rfl (λKK hKK=>?_) AllReadyH.nil);go_simp;go_at_call 113
     refine(Ve g rb m (fe 0 e2) e3 (fe (fe 0 e2) e3) n3 ⟨vs,s.t.fares,mb,s.rules,o⟩ f3 [f4] HP3 (qA rfl) _ rA).mono ?_;rintro y3 w3 ⟨rfl,r3,g3⟩;have gA:Gr g w w3:=qJ gA g3;have BK:=(qg g3 (lt_of_block BK) bkne).trans BK;have rA:=r3;refine hKK.o _ _ (trivial) (λhHeld=>?_);have mA3:=True.intro)
   |skip
  all_goals first
   |(
     clear mA3;refine wpAnyH_ready (rs:=[15]) κ σ ?_;refine(AllReadyH.cons rfl (λKK hKK=>?_) AllReadyH.nil);go_simp;go_at_call 113
     refine(Ve g rb m (fe (fe 0 e2) e3) e4 (fe (fe (fe 0 e2) e3) e4) n4 ⟨vs,s.t.fares,mb,s.rules,o⟩ f4 [] HP4 (qA rfl) _ rA).mono ?_;rintro y4 w4 ⟨rfl,r4,g4⟩;have gA:Gr g w w4:=qJ gA g4;have BK:=(qg g4 (lt_of_block BK) bkne).trans BK;have rA:=r4;refine hKK.o _ _ (trivial) (λhHeld=>?_);refine qI 16 ?_;have mA4:=True.intro)
   |skip
  all_goals
   clear mA4;have Q:=Jd (b:=bk) hwbk hg hrb hm1 hm2 [qP f1, .bool n2.d0, .bool n2.d1, .bool n2.d2, .bool n2.d3, .bool n2.d4, .bool n2.d5, .bool n2.d6, .int .i64 n3, .int .i64 n4] 0 rA gA BK;have HQ:=qA Q;clear Q;have hC:O4 #[.string ⟨#[]⟩, .bool false, .bool false, .bool false, .bool false, .bool false, .bool false, .bool false, .int .i64 0, .int .i64 0] 0 [qP f1, .bool n2.d0, .bool n2.d1, .bool n2.d2, .bool n2.d3, .bool n2.d4, .bool n2.d5, .bool n2.d6, .int .i64 n3, .int .i64 n4]= #[qP f1, .bool n2.d0, .bool n2.d1, .bool n2.d2, .bool n2.d3, .bool n2.d4, .bool n2.d5, .bool n2.d6, .int .i64 n3, .int .i64 n4]:=κ
   have HQ2:=HQ.o;rw[aA,hC]at HQ2;clear hC;clear HQ;have HQ:=qA HQ2;clear HQ2;have hth:=EU BK;have hinf:(prog.info? 61).map (·.size)=some 10:=κ
   have hone: ∀ v∈[qP f1, .bool n2.d0, .bool n2.d1, .bool n2.d2, .bool n2.d3, .bool n2.d4, .bool n2.d5, .bool n2.d6, .int .i64 n3, .int .i64 n4],v.oneCell'=true:=by simp[Value.oneCell']
   refine wpAnyH_ready (rs:=[18]) κ σ ?_;refine(AllReadyH.cons rfl (λKK hKK=>?_) AllReadyH.nil);rw[U6 ρ];refine wp_store_mid _ _ _ rfl _ _ (List.toArray _) rfl rfl hth hinf (all_oneCell_toArray hone) ?_;simp only[Act.put];refine hKK.o _ _ (trivial) (λhHeld=>?_);refine wpAnyH_done κ ?_ _;refine hK0 _ _ (Met.intro (hJ0 _ _ ?_));repeat apply Exists.intro
   refine⟨?rel,rfl⟩;case rel=>exact⟨_,rfl,hwbk,HQ.o.1,HQ.o.2.1,HQ.o.2.2⟩
 case rest=>
  obtain⟨b,rfl,hwb,HR1,HG1,HB1⟩:=hcut;have H1:=qA (H.o.gr HR1.o HG1.o);have M1:=qA (QK HG1.o H.o.lg);have hb:=lt_of_block HB1.o;have hbg:b≠g:=ω
  obtain⟨a0,k0,hv0⟩: ∃ a c,vs 2= .slice a s.t.cals.length c:=H1.o.form (k:=2) ω;have hcnt:s.t.cals.length<=N:=hN.cals;have hids:(ids 2).length=s.t.cals.length:=by rw[hid 2 ω];show(s.t.cals.map (·.id)).length=_;rw[U4]
  have hnote: ∀ w,qx w (mb 2) (ids 2).length (ids 2)->Calls prog 110 #[.map (some (mb 2)),qP f1, .int .i64 (s.t.cals.length:Int)] w λq w'=>q= .returned (.tuple #[])/\qx w' (mb 2) ((ids 2).length+1) (ids 2++[f1])/\w.grownBy w' (some (mb 2)):=λw ho=>by rw[<-hids];exact Wi (mb 2) (ids 2).length f1 (ids 2) l1 ζ ω w ho
  have hmbg:mb 2≠g:=λe=>by have h1:=(H.o.parts.labm 2 ω).1;have h2:=H.o.lg;rw[e]at h1;omega
  have hmbl:mb 2<w.heap.size:=(H.o.parts.maps 2 ω).lt;have c17:wc.cell? ⟨g,17,none⟩=some (.map (some (mb 2))):=H1.o.mapc (j:=2) ω;have ck:wc.cell? ⟨g,4,none⟩=some (.slice a0 s.t.cals.length k0):=by rw[<-hv0];exact H1.o.row (k:=2) ω
  have cb0:wc.cell? ⟨b,0,none⟩=some (qP f1):=qC HB1.o 0 _ rfl;have hown:qx wc.drew (mb 2) (ids 2).length (ids 2):=(H1.o.parts.bl (qH (qB _))).maps 2 ω;go_wp2_with fail;go_region_held3 (λw'=>w'.cell? ⟨g,17,none⟩=some (.map (some (mb 2)))/\w'.cell? ⟨g,4,none⟩=some (.slice a0 s.t.cals.length k0)/\w'.cell? ⟨b,0,none⟩=some (qP f1))
   (first|exact⟨c17,ck,cb0⟩|exact⟨(g5.cell_far ⟨g,17,none⟩ H1.o.glt (by simp only[ne_eq,qAA];omega)).trans c17,(g5.cell_far ⟨g,4,none⟩ H1.o.glt (by simp only[ne_eq,qAA];omega)).trans ck,(g5.cell_far ⟨b,0,none⟩ hb (by simp only[ne_eq,qAA];omega)).trans cb0⟩)
   ((go_at_call 110;refine(hnote _ hown).mono ?_;rintro y5 w5 ⟨rfl,o5,g5⟩))
  have H5:=qA ((H1.o.bl (qH (qB wc))).noted (j:=2) (q:=ids 2++[f1]) ω g5 (by simpa using o5));have M5:=qA (M1.o.trans ((yJ (qH (qB wc))).trans (Mv.grown g5 (λb hb=>by simp only[qAA]at hb;have h1:=(H.o.parts.labm 2 ω).1;rw[<-hb,h1];omega))));have HB5:=qA (show w5.heap[b]? =_ from(qg g5 hb ω).trans HB1.o);have hb5:=lt_of_block HB5.o;clear H1 M1 HR1 HG1 HB1 ck cb0 hown hnote g5 o5 c17;have hv6:=hv0;obtain⟨i6,hi6,hz60,hz61,hz62⟩:=info_parts OX;have ck6:w5.cell? ⟨g,4,none⟩=some (.slice a0 s.t.cals.length k0):=by rw[<-hv6];exact H5.o.row (k:=2) ω
  have fk6:=H5.o.free 4;have xb0:w5.cell? ⟨b,0,none⟩=some (qP f1):=qC HB5.o 0 _ rfl;have xb1:w5.cell? ⟨b,1,none⟩=some (.bool n2.d0):=qC HB5.o 1 _ rfl;have xb2:w5.cell? ⟨b,2,none⟩=some (.bool n2.d1):=qC HB5.o 2 _ rfl;have xb3:w5.cell? ⟨b,3,none⟩=some (.bool n2.d2):=qC HB5.o 3 _ rfl;have xb4:w5.cell? ⟨b,4,none⟩=some (.bool n2.d3):=qC HB5.o 4 _ rfl;have xb5:w5.cell? ⟨b,5,none⟩=some (.bool n2.d4):=qC HB5.o 5 _ rfl;have xb6:w5.cell? ⟨b,6,none⟩=some (.bool n2.d5):=qC HB5.o 6 _ rfl;have xb7:w5.cell? ⟨b,7,none⟩=some (.bool n2.d6):=qC HB5.o 7 _ rfl;have xb8:w5.cell? ⟨b,8,none⟩=some (.int .i64 n3):=qC HB5.o 8 _ rfl;have xb9:w5.cell? ⟨b,9,none⟩=some (.int .i64 n4):=qC HB5.o 9 _ rfl;have al6:=qG (qE (qH (qB w5)) (.cells #[qP f1, .bool n2.d0, .bool n2.d1, .bool n2.d2, .bool n2.d3, .bool n2.d4, .bool n2.d5, .bool n2.d6, .int .i64 n3, .int .i64 n4] 61));have far6: ∀ x,x=g∨x=b->some x≠(Value.slice a0 s.t.cals.length k0).ownBlock:=λx hx e=>by rw[<-hv0]at e;rcases hx with hx|hx;exact H.o.far (k:=2) ω (.inr (.inr H.o.lg)) (by rw[<-e,hx]);(have h:=(qAG (H.o.parts.row 2 ω) x e.symm).2;omega)
  have R6:Hid ((w5.drew).ownsRow B 61 10 (.slice a0 s.t.cals.length k0) s.t.cals.length (s.t.cals.flatMap kD)):=by have h:=(H5.o.bl (qH (qB w5))).parts.row 2 ω;unfold vO at h;rw[hv6]at h;exact h
  have hB6:B<=w5.heap.size:=by have h1:=(H5.o.parts.labm 0 ω).2;have h2:=(H5.o.parts.maps 0 ω).lt;omega
  have gl6:=H5.o.glt;go_wp2_with fail;go_cut [8] from 338 (λ_ wx=> ∃ (vs1:Nat->Value) (own1:Nat->Nat),Hid (kN B g rb m (fe (fe (fe 0 e2) e3) e4) vs1 ts mb own1 (RJ s ⟨f1,n2,n3,n4⟩) (rE ids 2 (ids 2++[f1])) o [] wx)/\Hid (Mv own w own1 wx))
  case first=>
   rename_i J0 K0 hJ0 hK0;go_region_law ((refine step_append_lies _ ρ _ _ _ ρ B 61 i6 _ 10 40 underlying25 hi6 hz60 hz61 hz62 rfl ω (.slice a0 s.t.cals.length k0) s.t.cals.length (s.t.cals.flatMap kD) ρ (World.ownsRow.alloc R6.o _) ⟨w5.heap.size,0,none⟩ 1 1 (kD ⟨f1,n2,n3,n4⟩) ρ ρ (World.news_of_block (cs:= #[qP f1, .bool n2.d0, .bool n2.d1, .bool n2.d2, .bool n2.d3, .bool n2.d4, .bool n2.d5, .bool n2.d6, .int .i64 n3, .int .i64 n4]) (heap_alloc_new w5.drew _)) (by simp[kD,Value.oneCell']) ω ζ ω τ (w5.heap.size+1) σ ?_;intro gg6 cap6 w6 hown6 hgrow6 hat6 hlt6;have mk6:=(hgrow6.cell_far ⟨g,4,none⟩ τ (far6 g (.inl rfl))).trans ((al6.1 _ _ ω).trans ck6);have mf6:=(hgrow6.frozen_far ⟨g,4,none⟩ τ (far6 g (.inl rfl))).trans ((al6.2 _ _ ω).trans fk6)))
   all_goals
    refine hK0 _ _ (Met.intro (hJ0 _ _ ?_));repeat apply Exists.intro
    refine⟨?rel,rfl⟩;case rel=>
     obtain⟨vs9,own9,P1,P2⟩:=(H5.o.bl (qE (qH (qB w5)) (.cells #[qP f1, .bool n2.d0, .bool n2.d1, .bool n2.d2, .bool n2.d3, .bool n2.d4, .bool n2.d5, .bool n2.d6, .int .i64 n3, .int .i64 n4] 61))).push2 (gg:=gg6) (cap:=cap6) (x:=⟨f1,n2,n3,n4⟩) (by rw[hv0];exact hgrow6) hown6 (by rw[hv0];simpa using hat6);exact⟨_,_,P1,M5.o.trans ((yJ (qE (qH (qB w5)) _)).trans P2)⟩
  case rest=>
   obtain⟨vs1,own1,H8,M8⟩:=hcut;obtain⟨a1,k1,hv7⟩: ∃ a c,vs1 12= .slice a (qN s 2).length c:=H8.o.form (k:=12) ω;have hln:=hN.lens 2;obtain⟨i7,hi7,hz70,hz71,hz72⟩:=info_parts yD;have ck7:wc.cell? ⟨g,21,none⟩=some (.slice a1 (qN s 2).length k1):=by rw[<-hv7];exact H8.o.row (k:=12) ω
   have fk7:=H8.o.free 21;have al7:=qG (qE (qH (qB wc)) (.cells #[.int .i64 n] 3));have far7:some g≠(Value.slice a1 (qN s 2).length k1).ownBlock:=λe=>by rw[<-hv7]at e;exact H8.o.far (k:=12) ω (.inr (.inr H8.o.lg)) e.symm
   have R7:Hid ((wc.drew).ownsRow B 3 1 (.slice a1 (qN s 2).length k1) (qN s 2).length ((qN s 2).flatMap qi)):=by have h:=(H8.o.bl (qH (qB wc))).parts.row 12 ω;unfold vO at h;rw[hv7]at h;exact h
   have hB7:B<=wc.heap.size:=by have h1:=(H8.o.parts.labm 0 ω).2;have h2:=(H8.o.parts.maps 0 ω).lt;omega
   have gl7:=H8.o.glt;go_wp2_with fail;go_region_law ((refine step_append_lies _ ρ _ _ _ ρ B 3 i7 _ 1 8 underlying73 hi7 hz70 hz71 hz72 rfl ω (.slice a1 (qN s 2).length k1) (qN s 2).length ((qN s 2).flatMap qi) ρ (World.ownsRow.alloc R7.o _) ⟨wc.heap.size,0,none⟩ 1 1 [.int .i64 n] ρ ρ (World.news_of_block (cs:= #[.int .i64 n]) (heap_alloc_new wc.drew _)) (by simp[Value.oneCell']) ω ζ ω τ (wc.heap.size+1) σ ?_;intro gg7 cap7 w7 hown7 hgrow7 hat7 hlt7;have mk7:=(hgrow7.cell_far ⟨g,21,none⟩ τ far7).trans ((al7.1 _ _ ω).trans ck7);have mf7:=(hgrow7.frozen_far ⟨g,21,none⟩ τ far7).trans ((al7.2 _ _ ω).trans fk7)))
   all_goals
    obtain⟨vs9,own9,P1,P2⟩:=(H8.o.bl (qE (qH (qB wc)) (.cells #[.int .i64 n] 3))).line' (k:=2) (gg:=gg7) (cap:=cap7) (n:=n) (s':=s') ω (by rw[hv7];exact hgrow7) hown7 (by rw[hv7];simpa using hat7) (by rw[<-HS.o];rfl) (by rw[<-HS.o];rfl) (by rw[<-HS.o];rfl);go_wp2;go_end0;refine⟨rfl,_,_,_,_,by rw[<-HE.o];exact P1,λj hj=>?_,M8.o.trans ((yJ (qE (qH (qB wc)) _)).trans P2)⟩;rw[<-HS.o];rcases j with _|_|_|_|j
    · rw[wQ _ ω];exact hid 0 ω
    · rw[wQ _ ω];exact hid 1 ω
    · rw[VR,hid 2 ω];show _=List.map _ (_++[_]);rw[List.map_append];rfl
    · rw[wQ _ ω];exact hid 3 ω
    · omega
