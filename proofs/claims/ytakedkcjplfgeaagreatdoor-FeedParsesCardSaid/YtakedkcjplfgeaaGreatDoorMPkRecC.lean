/- Contracts, proved. Conditions: theirs. -/
import Derived.Test.YtakedkcjplfgeaaGreatDoorMPkRdC
import Derived.Deep.DrawnRows
set_option maxRecDepth 1000000
set_option maxHeartbeats 32000000
open Go.Proofs.Tryz
namespace Go.Proofs.YtakedkcjplfgeaaGreatDoor
open Go.RowKit
open Frq Thr Tt Num Clk Dat Fld
attribute [local go_sem ↓] Go.wp_at_zero Go.wp_at_succ
theorem LV (B g rb N:Nat) (m:Int) (vs:Nat->Value) (ts:List TripD) (mb own:Nat->Nat) (s:St) (ids:Nat->List Ψ) (o:Bool) (f1 f2 f3:Ψ) (n:Int) (s':St) (E:Int)
  (HF:Hid (qy s 3 [[101,120,99,101,112,116,105,111,110],f1,f2,f3] n=(s',E))) (l1:f1.length<=131072) (hN:ww N s) (hN2:N<=1000000) (hid: ∀ j,j<4->ids j=yX s.t j) (w:World) (h:kN B g rb m 0 vs ts mb own s ids o [f1,f2,f3] w):
  Calls prog 41 #[.pointer (some ⟨g,0,none⟩),qP [101,120,99,101,112,116,105,111,110], .int .i64 n] w λq w'=>q= .returned (.tuple #[])/\ ∃ vs' ts' own' ids',kN B g rb m E vs' ts' mb own' s' ids' o [] w'/\(∀ j,j<4->ids' j=yX s'.t j)/\Mv own w own' w':=by
 obtain⟨⟨n1,e1⟩,HP1⟩: ∃ p,Hid (zW (s.t.cals.map (·.id)) f1=p):=⟨_,rfl⟩;obtain⟨⟨n2,e2⟩,HP2⟩: ∃ p,Hid (wB f2=p):=⟨_,rfl⟩;obtain⟨⟨n3,e3⟩,HP3⟩: ∃ p,Hid (Qu yN jM f3=p):=⟨_,rfl⟩;have hF:qy s 3 [[101,120,99,101,112,116,105,111,110],f1,f2,f3] n=(⟨{ s.t with excs:=s.t.excs++[⟨(zW (s.t.cals.map (·.id)) f1).1,(wB f2).1,(Qu yN jM f3).1⟩] },jm s 3 n,s.rules,false⟩,zT [(zW (s.t.cals.map (·.id)) f1).2,(wB f2).2,(Qu yN jM f3).2]):=rfl;rw[HP1.o,HP2.o,HP3.o]at hF;have hq:=hF.symm.trans HF.o;simp only[qAF]at hq;obtain⟨hs1,hE1⟩:=hq;have HE:=qA (show(fe (fe (fe 0 e1) e2) e3)=E by rw[<-hE1];exact vY [e1,e2,e3]);have HS:=qA hs1;clear hF hE1 hs1 HF;have H:=qA h;have hR:=h.rat.bl (qH (qB w));have hg:=h.glt;have hrb:=h.rat.lt;obtain⟨hm1,hm2⟩:=h.rat.env.lt;have hmb: ∀ j,j<4->mb j≠g:=λj hj e=>by have h1:=(h.parts.labm j hj).1;have h2:=h.lg;rw[e]at h1;omega
 have hmo: ∀ j (hj:j<4),qx w (mb j) (ids j).length (ids j):=λj hj=>h.parts.maps j hj
 obtain⟨a0,k0,hv0⟩: ∃ a c,vs 3= .slice a s.t.excs.length c:=h.form (k:=3) ω;have hcnt:s.t.excs.length<=N:=hN.excs;have hln:=hN.lens 3;obtain⟨i6,hi6,hz60,hz61,hz62⟩:=info_parts OY;have R0:Hid (w.ownsRow B 124 3 (.slice a0 s.t.excs.length k0) s.t.excs.length (s.t.excs.flatMap kE)):=by have h1:=h.parts.row 3 ω;unfold vO at h1;rw[hv0]at h1;exact h1
 have hB6:B<=w.heap.size:=by have h1:=(h.parts.labm 0 ω).2;have h2:=(h.parts.maps 0 ω).lt;omega
 have far6:some g≠(Value.slice a0 s.t.excs.length k0).ownBlock:=λe=>by rw[<-hv0]at e;exact h.far (k:=3) ω (.inr (.inr h.lg)) e.symm
 have hrow: ∀ {e l w},wR g rb m e ⟨vs,s.t.fares,mb,s.rules,o⟩ l w->w.cell? ⟨g,5,none⟩=some (.slice a0 s.t.excs.length k0):=λh=>by rw[<-hv0];exact h.rowc (k:=3) ω
 have G9:Gr g w w.drew:=jH (qH (qB w));have ck0:=hrow hR;have c17:w.drew.cell? ⟨g,17,none⟩=some (.map (some (mb 2))):=hR.mapc (j:=2) ω;clear h;go_enter func41,ntmps41
 go_wp2_with fail;refine qAP (λw'=>w'.cell? ⟨g,5,none⟩=some (.slice a0 s.t.excs.length k0)/\w'.cell? ⟨g,17,none⟩=some (.map (some (mb 2)))) 28 (⟨hrow hR,hR.mapc (j:=2) ω⟩) (λhHeld=>?_);refine SG 0 ?_;refine SG 1 ?_;refine SG 2 ?_;refine SG 3 ?_;refine SG 4 ?_;refine SG 5 ?_;refine SG 6 ?_;refine SG 7 ?_;refine SG 8 ?_;refine SG 9 ?_;refine SG 10 ?_;refine SG 11 ?_;refine SG 12 ?_;refine SG 14 ?_;refine SG 15 ?_;refine SG 16 ?_;refine SG 18 ?_;refine SG 19 ?_;refine SG 20 ?_;refine qAI 13 (λKK hKK=>?_);go_simp;go_at_call 114
 refine(kX g rb (mb 2) (ids 2).length m 0 e1 (fe 0 e1) n1 ⟨vs,s.t.fares,mb,s.rules,o⟩ f1 [f2,f3] (ids 2) (by rw[hid 2 ω];exact HP1) l1 (qA rfl) (hmb 2 ω) _ hR ((hmo 2 ω).grown G9 (by simpa using hmb 2 ω))).mono ?_;rintro y1 w1 ⟨rfl,r1,g1⟩;have g1x:Gr g w w1:=qJ G9 g1;refine hKK.o _ _ (⟨hrow r1,r1.mapc (j:=2) ω⟩) (λhHeld=>?_);refine qAI 17 (λKK hKK=>?_);go_simp;go_at_call 113
 refine(Ve g rb m (fe 0 e1) e2 (fe (fe 0 e1) e2) n2 ⟨vs,s.t.fares,mb,s.rules,o⟩ f2 [f3] HP2 (qA rfl) _ r1).mono ?_;rintro y2 w2 ⟨rfl,r2,g2⟩;have g2x:Gr g w w2:=qJ g1x g2;refine hKK.o _ _ (⟨hrow r2,r2.mapc (j:=2) ω⟩) (λhHeld=>?_);refine qAI 21 (λKK hKK=>?_);go_simp;go_at_call 115
 refine(Vf g rb m (fe (fe 0 e1) e2) (fe (fe (fe 0 e1) e2) e3) n3 ⟨vs,s.t.fares,mb,s.rules,o⟩ f3 [97,100,100,101,100] [114,101,109,111,118,101,100] [] (qAE HP3.o).1 (qA (by rw[<-(qAE HP3.o).2];rfl)) _ r2).mono ?_;rintro y3 w3 ⟨rfl,r3,g3⟩;have g3x:Gr g w w3:=qJ g2x g3;refine hKK.o _ _ (⟨hrow r3,r3.mapc (j:=2) ω⟩) (λhHeld=>?_);refine SG 22 ?_;refine qAI 23 (λKK hKK=>?_);go_simp;have ba:=qE (qB w3) (.cells #[.int .i64 n1, .int .i64 n2, .bool n3] 124);refine hKK.o _ _ (⟨hrow (r3.bl ba),(r3.bl ba).mapc (j:=2) ω⟩) (λhHeld=>?_);refine qAI 24 (λKK hKK=>?_);have OD:(w3.alloc (.cells #[.int .i64 n1, .int .i64 n2, .bool n3] 124)).ownsRow B 124 3 (.slice a0 s.t.excs.length k0) s.t.excs.length (s.t.excs.flatMap kE):=by have h1:=((H.o.gr r3 g3x).bl ba).parts.row 3 ω;unfold vO at h1;rw[hv0]at h1;exact h1
 have zn:=g3x.size;refine step_append_lies _ ρ _ _ _ ρ B 124 i6 _ 3 24 underlying26 hi6 hz60 hz61 hz62 rfl ω (.slice a0 s.t.excs.length k0) s.t.excs.length (s.t.excs.flatMap kE) ρ OD ⟨w3.heap.size,0,none⟩ 1 1 (kE ⟨n1,n2,n3⟩) ρ ρ (World.news_of_block (cs:= #[.int .i64 n1, .int .i64 n2, .bool n3]) (heap_alloc_new w3 _)) (by simp[kE,Value.oneCell']) ω ζ ω τ (w3.heap.size+1) σ ?_;intro gg6 cap6 w9 hown6 hgrow6 hat6 hlt6;obtain⟨vs1,own1,P1,P2⟩:=((H.o.gr r3 g3x).bl ba).push3 (gg:=gg6) (cap:=cap6) (x:=⟨n1,n2,n3⟩) (by rw[hv0];exact hgrow6) hown6 (by rw[hv0];simpa using hat6);have mf:=(hgrow6.frozen_far ⟨g,5,none⟩ τ far6).trans (((H.o.gr r3 g3x).bl ba).free 5);refine hKK.o _ _ (⟨(hgrow6.cell_far ⟨g,5,none⟩ τ far6).trans (hrow (r3.bl ba)),(hgrow6.cell_far ⟨g,17,none⟩ τ far6).trans ((r3.bl ba).mapc (j:=2) ω)⟩) (λhHeld=>?_);refine qAJ 25 ?_;refine qAJ 26 ?_;refine qAJ 27 ?_;refine qAQ (λKK hKK=>?_);go_simp;refine hKK.o _ _ ?_;have H8:=qA P1;have M8:=qA ((QK g3x H.o.lg).trans ((yJ ba).trans P2));generalize w9.setCell ⟨g,5,none⟩ (.slice (some ⟨gg6,0,none⟩) (s.t.excs.length+1) cap6)=wc at H8 M8 ⊢
 clear P1 P2 hHeld hown6 hgrow6 hat6 hlt6 mf far6 OD zn ba hrow;obtain⟨a1,k1,hv7⟩: ∃ a c,vs1 13= .slice a (qN s 3).length c:=H8.o.form (k:=13) ω;obtain⟨i7,hi7,hz70,hz71,hz72⟩:=info_parts yD;have ck7:wc.cell? ⟨g,22,none⟩=some (.slice a1 (qN s 3).length k1):=by rw[<-hv7];exact H8.o.row (k:=13) ω
 have fk7:=H8.o.free 22;have al7:=qG (qE (qH (qB wc)) (.cells #[.int .i64 n] 3));have far7:some g≠(Value.slice a1 (qN s 3).length k1).ownBlock:=λe=>by rw[<-hv7]at e;exact H8.o.far (k:=13) ω (.inr (.inr H8.o.lg)) e.symm
 have R7:Hid ((wc.drew).ownsRow B 3 1 (.slice a1 (qN s 3).length k1) (qN s 3).length ((qN s 3).flatMap qi)):=by have h:=(H8.o.bl (qH (qB wc))).parts.row 13 ω;unfold vO at h;rw[hv7]at h;exact h
 have hB7:B<=wc.heap.size:=by have h1:=(H8.o.parts.labm 0 ω).2;have h2:=(H8.o.parts.maps 0 ω).lt;omega
 have gl7:=H8.o.glt;go_wp2_with fail;go_region_law ((refine step_append_lies _ ρ _ _ _ ρ B 3 i7 _ 1 8 underlying73 hi7 hz70 hz71 hz72 rfl ω (.slice a1 (qN s 3).length k1) (qN s 3).length ((qN s 3).flatMap qi) ρ (World.ownsRow.alloc R7.o _) ⟨wc.heap.size,0,none⟩ 1 1 [.int .i64 n] ρ ρ (World.news_of_block (cs:= #[.int .i64 n]) (heap_alloc_new wc.drew _)) (by simp[Value.oneCell']) ω ζ ω τ (wc.heap.size+1) σ ?_;intro gg7 cap7 w7 hown7 hgrow7 hat7 hlt7;have mk7:=(hgrow7.cell_far ⟨g,22,none⟩ τ far7).trans ((al7.1 _ _ ω).trans ck7);have mf7:=(hgrow7.frozen_far ⟨g,22,none⟩ τ far7).trans ((al7.2 _ _ ω).trans fk7)))
 all_goals
  obtain⟨vs9,own9,P1,P2⟩:=(H8.o.bl (qE (qH (qB wc)) (.cells #[.int .i64 n] 3))).line' (k:=3) (gg:=gg7) (cap:=cap7) (n:=n) (s':=s') ω (by rw[hv7];exact hgrow7) hown7 (by rw[hv7];simpa using hat7) (by rw[<-HS.o];rfl) (by rw[<-HS.o];rfl) (by rw[<-HS.o];rfl);go_wp2;go_end0;exact⟨rfl,_,_,_,_,by rw[<-HE.o];exact P1,λj hj=>by rw[<-HS.o];exact hid j hj,M8.o.trans ((yJ (qE (qH (qB wc)) _)).trans P2)⟩
end Go.Proofs.YtakedkcjplfgeaaGreatDoor
namespace Go.Proofs.YtakedkcjplfgeaaGreatDoor
open Go.RowKit
open Frq Thr Tt Num Clk Dat Fld
attribute [local go_sem ↓] Go.wp_at_zero Go.wp_at_succ
theorem LW (B g rb N:Nat) (m:Int) (vs:Nat->Value) (ts:List TripD) (mb own:Nat->Nat) (s:St) (ids:Nat->List Ψ) (o:Bool) (f1 f2 f3 f4:Ψ) (n:Int) (s':St) (E:Int)
  (HF:Hid (qy s 4 [[116,114,105,112],f1,f2,f3,f4] n=(s',E))) (l1:f1.length<=131072) (l2:f2.length<=131072) (l3:f3.length<=131072) (hN:ww N s) (hN2:N<=1000000) (hid: ∀ j,j<4->ids j=yX s.t j) (w:World) (h:kN B g rb m 0 vs ts mb own s ids o [f1,f2,f3,f4] w):
  Calls prog 41 #[.pointer (some ⟨g,0,none⟩),qP [116,114,105,112], .int .i64 n] w λq w'=>q= .returned (.tuple #[])/\ ∃ vs' ts' own' ids',kN B g rb m E vs' ts' mb own' s' ids' o [] w'/\(∀ j,j<4->ids' j=yX s'.t j)/\Mv own w own' w':=by
 obtain⟨⟨n2,e2⟩,HP2⟩: ∃ p,Hid (zW (s.t.routes.map (·.id)) f2=p):=⟨_,rfl⟩;obtain⟨⟨n3,e3⟩,HP3⟩: ∃ p,Hid (zW (s.t.cals.map (·.id)) f3=p):=⟨_,rfl⟩;obtain⟨⟨n4,e4⟩,HP4⟩: ∃ p,Hid (yI f4=p):=⟨_,rfl⟩;have hF:qy s 4 [[116,114,105,112],f1,f2,f3,f4] n=(⟨{ s.t with trips:=s.t.trips++[⟨f1,(zW (s.t.routes.map (·.id)) f2).1,(zW (s.t.cals.map (·.id)) f3).1,(yI f4).1,[]⟩] },jm s 4 n,s.rules,true⟩,zT [(zW (s.t.routes.map (·.id)) f2).2,(zW (s.t.cals.map (·.id)) f3).2,(yI f4).2]):=rfl;rw[HP2.o,HP3.o,HP4.o]at hF;have hq:=hF.symm.trans HF.o;simp only[qAF]at hq;obtain⟨hs1,hE1⟩:=hq;have HE:=qA (show(fe (fe (fe 0 e2) e3) e4)=E by rw[<-hE1];exact vY [e2,e3,e4]);have HS:=qA hs1;clear hF hE1 hs1 HF;have H:=qA h;have hR:=h.rat.bl (qH (qB w));have hg:=h.glt;have hrb:=h.rat.lt;obtain⟨hm1,hm2⟩:=h.rat.env.lt;have c16:w.cell? ⟨g,16,none⟩=some (.map (some (mb 1))):=h.mapc (j:=1) ω;have c17:w.cell? ⟨g,17,none⟩=some (.map (some (mb 2))):=h.mapc (j:=2) ω;have hmb: ∀ j,j<4->mb j≠g:=λj hj e=>by have h1:=(h.parts.labm j hj).1;have h2:=h.lg;rw[e]at h1;omega
 have hms: ∀ j,j<4->some (mb j)≠some g:=λj hj e=>hmb j hj (qAB e)
 have hx2:Hid (zW (ids 1) f2=(n2,e2)):=by rw[hid 1 ω];exact HP2
 have hx3:Hid (zW (ids 2) f3=(n3,e3)):=by rw[hid 2 ω];exact HP3
 have hmo: ∀ j (hj:j<4),qx w (mb j) (ids j).length (ids j):=λj hj=>h.parts.maps j hj
 clear h;go_enter func41,ntmps41
 go_wp2_with fail;go_cut [9] from 338 (λsv wx=> ∃ b:Nat,sv= .pointer (some ⟨b,0,none⟩)/\w.heap.size<=b/\Hid (wR g rb m (fe (fe (fe 0 e2) e3) e4) ⟨vs,s.t.fares,mb,s.rules,o⟩ [] wx)/\Hid (Gr g w wx)/\Hid (wx.heap[b]? =some (.cells #[qP f1, .int .i64 n2, .int .i64 n3, .bool n4, .slice none 0 0] 56 (0,0))))
 case first=>
  rename_i J0 K0 hJ0 hK0;have G9:Gr g w w.drew:=jH (qH (qB w));refine wp_region_held_drew (S:=(λw'=>w'.cell? ⟨g,16,none⟩=some (.map (some (mb 1)))/\w'.cell? ⟨g,17,none⟩=some (.map (some (mb 2))))) κ (⟨hR.mapc (j:=1) ω,hR.mapc (j:=2) ω⟩) (λhHeld=>?_);refine qI 0 ?_;refine qI 1 ?_;refine qI 2 ?_;refine qI 4 ?_;refine qI 5 ?_;refine qI 6 ?_;refine qI 7 ?_;refine qI 8 ?_;refine qI 9 ?_;refine qI 10 ?_;refine qI 12 ?_;refine qI 13 ?_;refine qI 14 ?_;refine qI 15 ?_;refine qI 16 ?_;refine qI 17 ?_;refine qI 18 ?_;refine qI 20 ?_;refine qI 21 ?_;refine qI 22 ?_;have mN0:=True.intro;all_goals first
   |(
     clear mN0;refine wpAnyH_ready (rs:=[3,25]) κ σ ?_;refine(AllReadyH.cons rfl (λKK hKK=>?_) (AllReadyH.cons rfl (λKK hKK=>?_) AllReadyH.nil));go_simp;go_at_call 107
     refine(zy g rb m 0 ⟨vs,s.t.fares,mb,s.rules,o⟩ f1 [f2,f3,f4] _ hR).mono ?_;rintro y1 w1 ⟨rfl,r1,g1⟩;have g1x:Gr g w w1:=qJ G9 g1;refine hKK.o _ _ (⟨(r1).mapc (j:=1) ω,(r1).mapc (j:=2) ω⟩) (λhHeld=>?_);have mN1:=True.intro;rotate_left;go_simp;refine hKK.o _ _ (⟨(hR.bl (qE (qB w.drew) (.cells #[.string ⟨#[]⟩, .int .i64 0, .int .i64 0, .bool false, .slice none 0 0] 56))).mapc (j:=1) ω,(hR.bl (qE (qB w.drew) (.cells #[.string ⟨#[]⟩, .int .i64 0, .int .i64 0, .bool false, .slice none 0 0] 56))).mapc (j:=2) ω⟩) (λhHeld=>?_);have rA:=hR.bl (qE (qB w.drew) (.cells #[.string ⟨#[]⟩, .int .i64 0, .int .i64 0, .bool false, .slice none 0 0] 56));have gA:=qJ G9 (jH (qE (qB w.drew) (.cells #[.string ⟨#[]⟩, .int .i64 0, .int .i64 0, .bool false, .slice none 0 0] 56)));have BK:(w.drew.alloc (.cells #[.string ⟨#[]⟩, .int .i64 0, .int .i64 0, .bool false, .slice none 0 0] 56)).heap[w.heap.size]? =some (.cells #[.string ⟨#[]⟩, .int .i64 0, .int .i64 0, .bool false, .slice none 0 0] 56 (0,0)):=heap_alloc_new w.drew _;have bkne:w.heap.size≠g:=by have:=hR.glt;omega
     generalize hbk:w.heap.size=bk at BK bkne ⊢
     have hwbk:w.heap.size<=bk:=Nat.le_of_eq hbk;clear hbk;rw[World.alloc_drew]at rA gA BK;generalize (w.alloc (.cells #[.string ⟨#[]⟩, .int .i64 0, .int .i64 0, .bool false, .slice none 0 0] 56)).drew=wA at rA gA BK hHeld ⊢
     have mA0:=True.intro)
   |skip
  all_goals first
   |(
     clear mN1;refine wpAnyH_ready (rs:=[11,25]) κ σ ?_;refine(AllReadyH.cons rfl (λKK hKK=>?_) (AllReadyH.cons rfl (λKK hKK=>?_) AllReadyH.nil));go_simp;go_at_call 114
     refine(kX g rb (mb 1) (ids 1).length m 0 e2 (fe 0 e2) n2 ⟨vs,s.t.fares,mb,s.rules,o⟩ f2 [f3,f4] (ids 1) hx2 l2 (qA rfl) (hmb 1 ω) _ r1 ((hmo 1 ω).grown g1x (hms 1 ω))).mono ?_;rintro y2 w2 ⟨rfl,r2,g2⟩;have g2x:Gr g w w2:=qJ g1x g2;refine hKK.o _ _ (⟨(r2).mapc (j:=1) ω,(r2).mapc (j:=2) ω⟩) (λhHeld=>?_);have mN2:=True.intro;rotate_left;go_simp;refine hKK.o _ _ (⟨(r1.bl (qE (qB w1) (.cells #[.string ⟨#[]⟩, .int .i64 0, .int .i64 0, .bool false, .slice none 0 0] 56))).mapc (j:=1) ω,(r1.bl (qE (qB w1) (.cells #[.string ⟨#[]⟩, .int .i64 0, .int .i64 0, .bool false, .slice none 0 0] 56))).mapc (j:=2) ω⟩) (λhHeld=>?_);have rA:=r1.bl (qE (qB w1) (.cells #[.string ⟨#[]⟩, .int .i64 0, .int .i64 0, .bool false, .slice none 0 0] 56));have gA:=qJ g1x (jH (qE (qB w1) (.cells #[.string ⟨#[]⟩, .int .i64 0, .int .i64 0, .bool false, .slice none 0 0] 56)));have BK:(w1.alloc (.cells #[.string ⟨#[]⟩, .int .i64 0, .int .i64 0, .bool false, .slice none 0 0] 56)).heap[w1.heap.size]? =some (.cells #[.string ⟨#[]⟩, .int .i64 0, .int .i64 0, .bool false, .slice none 0 0] 56 (0,0)):=heap_alloc_new w1 _;have bkne:w1.heap.size≠g:=by have:=r1.glt;have:=g1x.size;omega
     have hwbk:w.heap.size<=w1.heap.size:=g1x.size;generalize w1.heap.size=bk at BK bkne hwbk ⊢
     generalize w1.alloc (.cells #[.string ⟨#[]⟩, .int .i64 0, .int .i64 0, .bool false, .slice none 0 0] 56)=wA at rA gA BK hHeld ⊢
     have mA1:=True.intro)
   |skip
  all_goals first
   |(
     clear mN2;refine wpAnyH_ready (rs:=[19,25]) κ σ ?_;refine(AllReadyH.cons rfl (λKK hKK=>?_) (AllReadyH.cons rfl (λKK hKK=>?_) AllReadyH.nil));go_simp;go_at_call 114
     refine(kX g rb (mb 2) (ids 2).length m (fe 0 e2) e3 (fe (fe 0 e2) e3) n3 ⟨vs,s.t.fares,mb,s.rules,o⟩ f3 [f4] (ids 2) hx3 l3 (qA rfl) (hmb 2 ω) _ r2 ((hmo 2 ω).grown g2x (hms 2 ω))).mono ?_;rintro y3 w3 ⟨rfl,r3,g3⟩;have g3x:Gr g w w3:=qJ g2x g3;refine hKK.o _ _ (⟨(r3).mapc (j:=1) ω,(r3).mapc (j:=2) ω⟩) (λhHeld=>?_);have mN3:=True.intro;rotate_left;go_simp;refine hKK.o _ _ (⟨(r2.bl (qE (qB w2) (.cells #[.string ⟨#[]⟩, .int .i64 0, .int .i64 0, .bool false, .slice none 0 0] 56))).mapc (j:=1) ω,(r2.bl (qE (qB w2) (.cells #[.string ⟨#[]⟩, .int .i64 0, .int .i64 0, .bool false, .slice none 0 0] 56))).mapc (j:=2) ω⟩) (λhHeld=>?_);have rA:=r2.bl (qE (qB w2) (.cells #[.string ⟨#[]⟩, .int .i64 0, .int .i64 0, .bool false, .slice none 0 0] 56));have gA:=qJ g2x (jH (qE (qB w2) (.cells #[.string ⟨#[]⟩, .int .i64 0, .int .i64 0, .bool false, .slice none 0 0] 56)));have BK:(w2.alloc (.cells #[.string ⟨#[]⟩, .int .i64 0, .int .i64 0, .bool false, .slice none 0 0] 56)).heap[w2.heap.size]? =some (.cells #[.string ⟨#[]⟩, .int .i64 0, .int .i64 0, .bool false, .slice none 0 0] 56 (0,0)):=heap_alloc_new w2 _;have bkne:w2.heap.size≠g:=by have:=r2.glt;have:=g2x.size;omega
     have hwbk:w.heap.size<=w2.heap.size:=g2x.size;generalize w2.heap.size=bk at BK bkne hwbk ⊢
     generalize w2.alloc (.cells #[.string ⟨#[]⟩, .int .i64 0, .int .i64 0, .bool false, .slice none 0 0] 56)=wA at rA gA BK hHeld ⊢
     have mA2:=True.intro)
   |skip
  all_goals first
   |(
     clear mN3;refine wpAnyH_ready (rs:=[23,25]) κ σ ?_;refine(AllReadyH.cons rfl (λKK hKK=>?_) (AllReadyH.cons rfl (λKK hKK=>?_) AllReadyH.nil));go_simp;go_at_call 109
     refine(Kw g rb m (fe (fe 0 e2) e3) e4 (fe (fe (fe 0 e2) e3) e4) n4 ⟨vs,s.t.fares,mb,s.rules,o⟩ f4 [] HP4 (qA rfl) _ r3).mono ?_;rintro y4 w4 ⟨rfl,r4,g4⟩;have g4x:Gr g w w4:=qJ g3x g4;refine hKK.o _ _ (⟨(r4).mapc (j:=1) ω,(r4).mapc (j:=2) ω⟩) (λhHeld=>?_);refine qI 24 ?_;have mN4:=True.intro;rotate_left;go_simp;refine hKK.o _ _ (⟨(r3.bl (qE (qB w3) (.cells #[.string ⟨#[]⟩, .int .i64 0, .int .i64 0, .bool false, .slice none 0 0] 56))).mapc (j:=1) ω,(r3.bl (qE (qB w3) (.cells #[.string ⟨#[]⟩, .int .i64 0, .int .i64 0, .bool false, .slice none 0 0] 56))).mapc (j:=2) ω⟩) (λhHeld=>?_);have rA:=r3.bl (qE (qB w3) (.cells #[.string ⟨#[]⟩, .int .i64 0, .int .i64 0, .bool false, .slice none 0 0] 56));have gA:=qJ g3x (jH (qE (qB w3) (.cells #[.string ⟨#[]⟩, .int .i64 0, .int .i64 0, .bool false, .slice none 0 0] 56)));have BK:(w3.alloc (.cells #[.string ⟨#[]⟩, .int .i64 0, .int .i64 0, .bool false, .slice none 0 0] 56)).heap[w3.heap.size]? =some (.cells #[.string ⟨#[]⟩, .int .i64 0, .int .i64 0, .bool false, .slice none 0 0] 56 (0,0)):=heap_alloc_new w3 _;have bkne:w3.heap.size≠g:=by have:=r3.glt;have:=g3x.size;omega
     have hwbk:w.heap.size<=w3.heap.size:=g3x.size;generalize w3.heap.size=bk at BK bkne hwbk ⊢
     generalize w3.alloc (.cells #[.string ⟨#[]⟩, .int .i64 0, .int .i64 0, .bool false, .slice none 0 0] 56)=wA at rA gA BK hHeld ⊢
     have mA3:=True.intro)
   |skip
  all_goals first
   |(
     clear mN4;refine wpAnyH_ready (rs:=[25]) κ σ ?_;refine(AllReadyH.cons rfl (λKK hKK=>?_) AllReadyH.nil);go_simp;refine hKK.o _ _ (⟨(r4.bl (qE (qB w4) (.cells #[.string ⟨#[]⟩, .int .i64 0, .int .i64 0, .bool false, .slice none 0 0] 56))).mapc (j:=1) ω,(r4.bl (qE (qB w4) (.cells #[.string ⟨#[]⟩, .int .i64 0, .int .i64 0, .bool false, .slice none 0 0] 56))).mapc (j:=2) ω⟩) (λhHeld=>?_);have rA:=r4.bl (qE (qB w4) (.cells #[.string ⟨#[]⟩, .int .i64 0, .int .i64 0, .bool false, .slice none 0 0] 56));have gA:=qJ g4x (jH (qE (qB w4) (.cells #[.string ⟨#[]⟩, .int .i64 0, .int .i64 0, .bool false, .slice none 0 0] 56)));have BK:(w4.alloc (.cells #[.string ⟨#[]⟩, .int .i64 0, .int .i64 0, .bool false, .slice none 0 0] 56)).heap[w4.heap.size]? =some (.cells #[.string ⟨#[]⟩, .int .i64 0, .int .i64 0, .bool false, .slice none 0 0] 56 (0,0)):=heap_alloc_new w4 _;have bkne:w4.heap.size≠g:=by have:=r4.glt;have:=g4x.size;omega
     have hwbk:w.heap.size<=w4.heap.size:=g4x.size;generalize w4.heap.size=bk at BK bkne hwbk ⊢
     generalize w4.alloc (.cells #[.string ⟨#[]⟩, .int .i64 0, .int .i64 0, .bool false, .slice none 0 0] 56)=wA at rA gA BK hHeld ⊢
     have mA4:=True.intro)
   |skip
  all_goals first
   |(
     clear mA0;refine wpAnyH_ready (rs:=[3]) κ σ ?_;refine(AllReadyH.cons rfl (λKK hKK=>?_) AllReadyH.nil);go_simp;go_at_call 107
     refine(zy g rb m 0 ⟨vs,s.t.fares,mb,s.rules,o⟩ f1 [f2,f3,f4] _ rA).mono ?_;rintro y1 w1 ⟨rfl,r1,g1⟩;have gA:Gr g w w1:=qJ gA g1;have BK:=(qg g1 (lt_of_block BK) bkne).trans BK;have rA:=r1;refine hKK.o _ _ (⟨(rA).mapc (j:=1) ω,(rA).mapc (j:=2) ω⟩) (λhHeld=>?_);have mA1:=True.intro)
   |skip
  all_goals first
   |(
     clear mA1;refine wpAnyH_ready (rs:=[11]) κ σ ?_;refine(AllReadyH.cons rfl (λKK hKK=>?_) AllReadyH.nil);go_simp;go_at_call 114
     refine(kX g rb (mb 1) (ids 1).length m 0 e2 (fe 0 e2) n2 ⟨vs,s.t.fares,mb,s.rules,o⟩ f2 [f3,f4] (ids 1) hx2 l2 (qA rfl) (hmb 1 ω) _ rA ((hmo 1 ω).grown gA (hms 1 ω))).mono ?_;rintro y2 w2 ⟨rfl,r2,g2⟩;have gA:Gr g w w2:=qJ gA g2;have BK:=(qg g2 (lt_of_block BK) bkne).trans BK;have rA:=r2;refine hKK.o _ _ (⟨(rA).mapc (j:=1) ω,(rA).mapc (j:=2) ω⟩) (λhHeld=>?_);have mA2:=True.intro)
   |skip
  all_goals first
   |(
     clear mA2;refine wpAnyH_ready (rs:=[19]) κ σ ?_;refine(AllReadyH.cons rfl (λKK hKK=>?_) AllReadyH.nil);go_simp;go_at_call 114
     refine(kX g rb (mb 2) (ids 2).length m (fe 0 e2) e3 (fe (fe 0 e2) e3) n3 ⟨vs,s.t.fares,mb,s.rules,o⟩ f3 [f4] (ids 2) hx3 l3 (qA rfl) (hmb 2 ω) _ rA ((hmo 2 ω).grown gA (hms 2 ω))).mono ?_;rintro y3 w3 ⟨rfl,r3,g3⟩;have gA:Gr g w w3:=qJ gA g3;have BK:=(qg g3 (lt_of_block BK) bkne).trans BK;have rA:=r3;refine hKK.o _ _ (⟨(rA).mapc (j:=1) ω,(rA).mapc (j:=2) ω⟩) (λhHeld=>?_);have mA3:=True.intro)
   |skip
  all_goals first
   |(
     clear mA3;refine wpAnyH_ready (rs:=[23]) κ σ ?_;refine(AllReadyH.cons rfl (λKK hKK=>?_) AllReadyH.nil);go_simp;go_at_call 109
     refine(Kw g rb m (fe (fe 0 e2) e3) e4 (fe (fe (fe 0 e2) e3) e4) n4 ⟨vs,s.t.fares,mb,s.rules,o⟩ f4 [] HP4 (qA rfl) _ rA).mono ?_;rintro y4 w4 ⟨rfl,r4,g4⟩;have gA:Gr g w w4:=qJ gA g4;have BK:=(qg g4 (lt_of_block BK) bkne).trans BK;have rA:=r4;refine hKK.o _ _ (⟨(rA).mapc (j:=1) ω,(rA).mapc (j:=2) ω⟩) (λhHeld=>?_);refine qI 24 ?_;have mA4:=True.intro)
   |skip
  all_goals
   clear mA4;have Q:=Jd (b:=bk) hwbk hg hrb hm1 hm2 [qP f1, .int .i64 n2, .int .i64 n3, .bool n4, .slice none 0 0] 0 rA gA BK;have HQ:=qA Q;clear Q;have q0:=qC BK 0 (.string ⟨#[]⟩) rfl;have fr0:=U8 BK 0;have q1:=qC BK 1 (.int .i64 0) rfl;have fr1:=U8 BK 1;have q2:=qC BK 2 (.int .i64 0) rfl;have fr2:=U8 BK 2;have q3:=qC BK 3 (.bool false) rfl;have fr3:=U8 BK 3;have q4:=qC BK 4 (.slice none 0 0) rfl;have fr4:=U8 BK 4;refine wpAnyH_ready (rs:=[26]) κ σ ?_;refine(AllReadyH.cons rfl (λKK hKK=>?_) AllReadyH.nil);go_simp;refine hKK.o _ _ (⟨HQ.o.1.mapc (j:=1) ω,HQ.o.1.mapc (j:=2) ω⟩) (λhHeld=>?_);refine wpAnyH_done κ ?_ _;refine hK0 _ _ (Met.intro (hJ0 _ _ ?_));repeat apply Exists.intro
   refine⟨?rel,rfl⟩;case rel=>exact⟨_,rfl,hwbk,HQ.o.1,HQ.o.2.1,HQ.o.2.2⟩
 case rest=>
  obtain⟨b,rfl,hwb,HR1,HG1,HB1⟩:=hcut;have H1:=qA (H.o.gr HR1.o HG1.o);have M1:=qA (QK HG1.o H.o.lg);have hb:=lt_of_block HB1.o;have hbg:b≠g:=ω
  obtain⟨a0,k0,hv0⟩: ∃ a c,vs 4= .slice a ts.length c:=H1.o.form (k:=4) ω;have hcnt:ts.length<=N:=by have e:=H.o.parts.same;have h:=hN.trips;rw[e,U4]at h;exact h
  have hids:(ids 3).length=ts.length:=by rw[hid 3 ω];show(s.t.trips.map (·.id)).length=_;rw[H.o.parts.same,U4,U4]
  have hnote: ∀ w,qx w (mb 3) (ids 3).length (ids 3)->Calls prog 110 #[.map (some (mb 3)),qP f1, .int .i64 (ts.length:Int)] w λq w'=>q= .returned (.tuple #[])/\qx w' (mb 3) ((ids 3).length+1) (ids 3++[f1])/\w.grownBy w' (some (mb 3)):=λw ho=>by rw[<-hids];exact Wi (mb 3) (ids 3).length f1 (ids 3) l1 ζ ω w ho
  have hmbg:mb 3≠g:=λe=>by have h1:=(H.o.parts.labm 3 ω).1;have h2:=H.o.lg;rw[e]at h1;omega
  have hmbl:mb 3<w.heap.size:=(H.o.parts.maps 3 ω).lt;have c18:wc.cell? ⟨g,18,none⟩=some (.map (some (mb 3))):=H1.o.mapc (j:=3) ω;have ck:wc.cell? ⟨g,6,none⟩=some (.slice a0 ts.length k0):=by rw[<-hv0];exact H1.o.row (k:=4) ω
  have cb0:wc.cell? ⟨b,0,none⟩=some (qP f1):=qC HB1.o 0 _ rfl;have hown:qx wc.drew (mb 3) (ids 3).length (ids 3):=(H1.o.parts.bl (qH (qB _))).maps 3 ω;go_wp2_with fail;go_region_held3 (λw'=>w'.cell? ⟨g,18,none⟩=some (.map (some (mb 3)))/\w'.cell? ⟨g,6,none⟩=some (.slice a0 ts.length k0)/\w'.cell? ⟨b,0,none⟩=some (qP f1))
   (first|exact⟨c18,ck,cb0⟩|exact⟨(g5.cell_far ⟨g,18,none⟩ H1.o.glt (by simp only[ne_eq,qAA];omega)).trans c18,(g5.cell_far ⟨g,6,none⟩ H1.o.glt (by simp only[ne_eq,qAA];omega)).trans ck,(g5.cell_far ⟨b,0,none⟩ hb (by simp only[ne_eq,qAA];omega)).trans cb0⟩)
   ((go_at_call 110;refine(hnote _ hown).mono ?_;rintro y5 w5 ⟨rfl,o5,g5⟩))
  have H5:=qA ((H1.o.bl (qH (qB wc))).noted (j:=3) (q:=ids 3++[f1]) ω g5 (by simpa using o5));have M5:=qA (M1.o.trans ((yJ (qH (qB wc))).trans (Mv.grown g5 (λb hb=>by simp only[qAA]at hb;have h1:=(H.o.parts.labm 3 ω).1;rw[<-hb,h1];omega))));have HB5:=qA (show w5.heap[b]? =_ from(qg g5 hb ω).trans HB1.o);have hb5:=lt_of_block HB5.o;clear H1 M1 HR1 HG1 HB1 ck cb0 hown hnote g5 o5 c18;have hv6:=hv0;obtain⟨i6,hi6,hz60,hz61,hz62⟩:=info_parts OZ;have ck6:w5.cell? ⟨g,6,none⟩=some (.slice a0 ts.length k0):=by rw[<-hv6];exact H5.o.row (k:=4) ω
  have fk6:=H5.o.free 6;have xb0:w5.cell? ⟨b,0,none⟩=some (qP f1):=qC HB5.o 0 _ rfl;have xb1:w5.cell? ⟨b,1,none⟩=some (.int .i64 n2):=qC HB5.o 1 _ rfl;have xb2:w5.cell? ⟨b,2,none⟩=some (.int .i64 n3):=qC HB5.o 2 _ rfl;have xb3:w5.cell? ⟨b,3,none⟩=some (.bool n4):=qC HB5.o 3 _ rfl;have xb4:w5.cell? ⟨b,4,none⟩=some (.slice none 0 0):=qC HB5.o 4 _ rfl;have al6:=qG (qE (qH (qB w5)) (.cells #[qP f1, .int .i64 n2, .int .i64 n3, .bool n4, .slice none 0 0] 56));have far6: ∀ x,x=g∨x=b->some x≠(Value.slice a0 ts.length k0).ownBlock:=λx hx e=>by rw[<-hv0]at e;rcases hx with hx|hx;exact H.o.far (k:=4) ω (.inr (.inr H.o.lg)) (by rw[<-e,hx]);(have h:=(qAG (H.o.parts.row 4 ω) x e.symm).2;omega)
  have R6:Hid ((w5.drew).ownsRow B 56 5 (.slice a0 ts.length k0) ts.length (ts.flatMap tripCells)):=by have h:=(H5.o.bl (qH (qB w5))).parts.row 4 ω;unfold vO at h;rw[hv6]at h;exact h
  have hB6:B<=w5.heap.size:=by have h1:=(H5.o.parts.labm 0 ω).2;have h2:=(H5.o.parts.maps 0 ω).lt;omega
  have gl6:=H5.o.glt;go_wp2_with fail;go_cut [9] from 338 (λ_ wx=> ∃ (vs1:Nat->Value) (own1:Nat->Nat),Hid (kN B g rb m (fe (fe (fe 0 e2) e3) e4) vs1 (ts++[PV f1 n2 n3 n4]) mb own1 (Ri s ⟨f1,n2,n3,n4,[]⟩) (rE ids 3 (ids 3++[f1])) o [] wx)/\Hid (Mv own w own1 wx))
  case first=>
   rename_i J0 K0 hJ0 hK0;go_region_law ((refine step_append_lies _ ρ _ _ _ ρ B 56 i6 _ 5 64 underlying27 hi6 hz60 hz61 hz62 rfl ω (.slice a0 ts.length k0) ts.length (ts.flatMap tripCells) ρ (World.ownsRow.alloc R6.o _) ⟨w5.heap.size,0,none⟩ 1 1 (tripCells (PV f1 n2 n3 n4)) ρ ρ (World.news_of_block (cs:= #[qP f1, .int .i64 n2, .int .i64 n3, .bool n4, .slice none 0 0]) (heap_alloc_new w5.drew _)) (by simp[tripCells,PV,Value.oneCell']) ω ζ ω τ (w5.heap.size+1) σ ?_;intro gg6 cap6 w6 hown6 hgrow6 hat6 hlt6;have mk6:=(hgrow6.cell_far ⟨g,6,none⟩ τ (far6 g (.inl rfl))).trans ((al6.1 _ _ ω).trans ck6);have mf6:=(hgrow6.frozen_far ⟨g,6,none⟩ τ (far6 g (.inl rfl))).trans ((al6.2 _ _ ω).trans fk6)))
   all_goals
    refine hK0 _ _ (Met.intro (hJ0 _ _ ?_));repeat apply Exists.intro
    refine⟨?rel,rfl⟩;case rel=>
     obtain⟨vs9,own9,P1,P2⟩:=(H5.o.bl (qE (qH (qB w5)) (.cells #[qP f1, .int .i64 n2, .int .i64 n3, .bool n4, .slice none 0 0] 56))).push4 (gg:=gg6) (cap:=cap6) (f1:=f1) (n2:=n2) (n3:=n3) (n4:=n4) (by rw[hv0];exact hgrow6) hown6 (by rw[hv0];simpa using hat6);exact⟨_,_,P1,M5.o.trans ((yJ (qE (qH (qB w5)) _)).trans P2)⟩
  case rest=>
   obtain⟨vs1,own1,H8,M8⟩:=hcut;obtain⟨a1,k1,hv7⟩: ∃ a c,vs1 14= .slice a (qN s 4).length c:=H8.o.form (k:=14) ω;have hln:=hN.lens 4;obtain⟨i7,hi7,hz70,hz71,hz72⟩:=info_parts yD;have ck7:wc.cell? ⟨g,23,none⟩=some (.slice a1 (qN s 4).length k1):=by rw[<-hv7];exact H8.o.row (k:=14) ω
   have fk7:=H8.o.free 23;have al7:=qG (qE (qH (qB wc)) (.cells #[.int .i64 n] 3));have far7:some g≠(Value.slice a1 (qN s 4).length k1).ownBlock:=λe=>by rw[<-hv7]at e;exact H8.o.far (k:=14) ω (.inr (.inr H8.o.lg)) e.symm
   have R7:Hid ((wc.drew).ownsRow B 3 1 (.slice a1 (qN s 4).length k1) (qN s 4).length ((qN s 4).flatMap qi)):=by have h:=(H8.o.bl (qH (qB wc))).parts.row 14 ω;unfold vO at h;rw[hv7]at h;exact h
   have hB7:B<=wc.heap.size:=by have h1:=(H8.o.parts.labm 0 ω).2;have h2:=(H8.o.parts.maps 0 ω).lt;omega
   have gl7:=H8.o.glt;go_wp2_with fail;go_region_law ((refine step_append_lies _ ρ _ _ _ ρ B 3 i7 _ 1 8 underlying73 hi7 hz70 hz71 hz72 rfl ω (.slice a1 (qN s 4).length k1) (qN s 4).length ((qN s 4).flatMap qi) ρ (World.ownsRow.alloc R7.o _) ⟨wc.heap.size,0,none⟩ 1 1 [.int .i64 n] ρ ρ (World.news_of_block (cs:= #[.int .i64 n]) (heap_alloc_new wc.drew _)) (by simp[Value.oneCell']) ω ζ ω τ (wc.heap.size+1) σ ?_;intro gg7 cap7 w7 hown7 hgrow7 hat7 hlt7;have mk7:=(hgrow7.cell_far ⟨g,23,none⟩ τ far7).trans ((al7.1 _ _ ω).trans ck7);have mf7:=(hgrow7.frozen_far ⟨g,23,none⟩ τ far7).trans ((al7.2 _ _ ω).trans fk7)))
   all_goals
    obtain⟨vs9,own9,P1,P2⟩:=(H8.o.bl (qE (qH (qB wc)) (.cells #[.int .i64 n] 3))).line' (k:=4) (gg:=gg7) (cap:=cap7) (n:=n) (s':=s') ω (by rw[hv7];exact hgrow7) hown7 (by rw[hv7];simpa using hat7) (by rw[<-HS.o];rfl) (by rw[<-HS.o];rfl) (by rw[<-HS.o];rfl);go_wp2;go_end0;refine⟨rfl,_,_,_,_,by rw[<-HE.o];exact P1,λj hj=>?_,M8.o.trans ((yJ (qE (qH (qB wc)) _)).trans P2)⟩;rw[<-HS.o];rcases j with _|_|_|_|j
    · rw[wQ _ ω];exact hid 0 ω
    · rw[wQ _ ω];exact hid 1 ω
    · rw[wQ _ ω];exact hid 2 ω
    · rw[VR,hid 3 ω];show _=List.map _ (_++[_]);rw[List.map_append];rfl
    · omega
