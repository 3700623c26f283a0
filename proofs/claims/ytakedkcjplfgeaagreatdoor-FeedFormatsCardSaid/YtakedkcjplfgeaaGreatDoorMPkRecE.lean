/- Contracts, proved. Conditions: each contract's own. -/
import Derived.Test.YtakedkcjplfgeaaGreatDoorMPkRecA
set_option maxRecDepth 1000000
set_option maxHeartbeats 32000000
namespace Go.Proofs.YtakedkcjplfgeaaGreatDoor
open Go.RowKit
open Frq Thr Tt Num Clk Dat Fld
attribute [local go_sem ↓] Go.wp_at_zero Go.wp_at_succ
end Go.Proofs.YtakedkcjplfgeaaGreatDoor
namespace Go.Proofs.YtakedkcjplfgeaaGreatDoor
open Go.RowKit
open Frq Thr Tt Num Clk Dat Fld
attribute [local go_sem ↓] Go.wp_at_zero Go.wp_at_succ
theorem Oe:(Tryz.prog.info? 63).map (fun i=>(i.zero,i.size,i.bytes))=some (some (.agg #[.int .i64 0, .int .i64 0, .int .i64 0, .bool false]),4,32):=by kernel_rfl
theorem LJ (B g rb N:Nat) (m:Int) (vs:Nat->Value) (ts:List TripD) (mb own:Nat->Nat) (s:St) (ids:Nat->List (List UInt8)) (o:Bool) (f1 f2 f3 f4:List UInt8) (n:Int) (s':St) (E:Int)
  (HF:Hid (qy s 8 [[112,97,116,104],f1,f2,f3,f4] n=(s',E))) (l1:f1.length<=131072) (l2:f2.length<=131072) (l3:f3.length<=131072) (hN:ww N s) (hN2:N<=1000000) (hid: ∀ j,j<4->ids j=yX s.t j) (w:World) (h:kN B g rb m 0 vs ts mb own s ids o [f1,f2,f3,f4] w):
  Calls Tryz.prog 118 #[.pointer (some ⟨g,0,none⟩),qP [112,97,116,104], .int .i64 n] w fun q w'=>q= .returned (.tuple #[])/\ ∃ vs' ts' own' ids',kN B g rb m E vs' ts' mb own' s' ids' o [] w'/\(∀ j,j<4->ids' j=yX s'.t j)/\Mv own w own' w':=by
 obtain⟨⟨n1,e1⟩,HP1⟩: ∃ p,Hid (zW (s.t.stops.map (·.id)) f1=p):=⟨_,rfl⟩;obtain⟨⟨n2,e2⟩,HP2⟩: ∃ p,Hid (zW (s.t.stops.map (·.id)) f2=p):=⟨_,rfl⟩;obtain⟨⟨n3,e3⟩,HP3⟩: ∃ p,Hid (wE f3=p):=⟨_,rfl⟩;obtain⟨⟨n4,e4⟩,HP4⟩: ∃ p,Hid (yI f4=p):=⟨_,rfl⟩;have hF:qy s 8 [[112,97,116,104],f1,f2,f3,f4] n=(⟨{ s.t with paths:=s.t.paths++[⟨(zW (s.t.stops.map (·.id)) f1).1,(zW (s.t.stops.map (·.id)) f2).1,(wE f3).1,(yI f4).1⟩] },jm s 8 n,s.rules,false⟩,zT [(zW (s.t.stops.map (·.id)) f1).2,(zW (s.t.stops.map (·.id)) f2).2,(wE f3).2,(yI f4).2]):=rfl;rw[HP1.out,HP2.out,HP3.out,HP4.out]at hF;have hq:=hF.symm.trans HF.out;simp only[qAF]at hq;obtain⟨hs1,hE1⟩:=hq;have HE:=qA (show(fe (fe (fe (fe 0 e1) e2) e3) e4)=E by rw[<-hE1];exact vY [e1,e2,e3,e4]);have HS:=qA hs1;clear hF hE1 hs1 HF;have H:=qA h;have hR:=h.rat.bl (qH (qB w));have hg:=h.glt;have hrb:=h.rat.lt;obtain⟨hm1,hm2⟩:=h.rat.env.lt;have hmb: ∀ j,j<4->mb j≠g:=fun j hj e=>by have h1:=(h.parts.labm j hj).1;have h2:=h.lg;rw[e]at h1;omega
 have hmo: ∀ j (hj:j<4),qx w (mb j) (ids j).length (ids j):=fun j hj=>h.parts.maps j hj
 obtain⟨a0,k0,hv0⟩: ∃ a c,vs 8= .slice a s.t.paths.length c:=h.form (k:=8) (by omega);have hcnt:s.t.paths.length<=N:=hN.paths;have hln:=hN.lens 8;obtain⟨i6,hi6,hz60,hz61,hz62⟩:=info_parts Oe;have R0:Hid (w.ownsRow B 63 4 (.slice a0 s.t.paths.length k0) s.t.paths.length (s.t.paths.flatMap zt)):=by have h1:=h.parts.row 8 (by omega);unfold vO at h1;rw[hv0]at h1;exact h1
 have hB6:B<=w.heap.size:=by have h1:=(h.parts.labm 0 (by omega)).2;have h2:=(h.parts.maps 0 (by omega)).lt;omega
 have far6:some g≠(Value.slice a0 s.t.paths.length k0).ownBlock:=fun e=>by rw[<-hv0]at e;exact h.far (k:=8) (by omega) (.inr (.inr h.lg)) e.symm
 have hrow: ∀ {e l w},wR g rb m e ⟨vs,s.t.fares,mb,s.rules,o⟩ l w->w.cell? ⟨g,10,none⟩=some (.slice a0 s.t.paths.length k0):=fun h=>by rw[<-hv0];exact h.rowc (k:=8) (by omega)
 have G9:Gr g w w.drew:=jH (qH (qB w));have ck0:=hrow hR;have c15:w.drew.cell? ⟨g,15,none⟩=some (.map (some (mb 0))):=hR.mapc (j:=0) (by omega);clear h;go_enter Tryz.func118,Tryz.ntmps118
 go_wp2_with fail;go_cut [0] from 280 (fun s0 wx=> ∃ (vs1:Nat->Value) (own1:Nat->Nat),s0= .pointer (some ⟨g,0,none⟩)/\Hid (kN B g rb m (fe (fe (fe (fe 0 e1) e2) e3) e4) vs1 ts mb own1 (RU s ⟨n1,n2,n3,n4⟩) ids o [] wx)/\Hid (Mv own w own1 wx))
 case first=>
  rename_i J0 K0 hJ0 hK0;refine wp_region_held_drew (S:=(fun w'=>w'.cell? ⟨g,15,none⟩=some (.map (some (mb 0))))) (by kernel_rfl) c15 (fun hHeld=>?_);refine qI 0 ?_;try simp only[Act.put]
  refine qI 1 ?_;try simp only[Act.put]
  refine qI 2 ?_;try simp only[Act.put]
  refine qI 3 ?_;try simp only[Act.put]
  refine qI 4 ?_;try simp only[Act.put]
  refine qI 6 ?_;try simp only[Act.put]
  refine qI 7 ?_;try simp only[Act.put]
  refine qI 8 ?_;try simp only[Act.put]
  refine qI 9 ?_;try simp only[Act.put]
  refine qI 10 ?_;try simp only[Act.put]
  refine qI 11 ?_;try simp only[Act.put]
  refine qI 12 ?_;try simp only[Act.put]
  refine qI 14 ?_;try simp only[Act.put]
  refine qI 15 ?_;try simp only[Act.put]
  refine qI 16 ?_;try simp only[Act.put]
  refine qI 17 ?_;try simp only[Act.put]
  refine qI 18 ?_;try simp only[Act.put]
  refine qI 19 ?_;try simp only[Act.put]
  refine qI 20 ?_;try simp only[Act.put]
  refine qI 22 ?_;try simp only[Act.put]
  refine qI 23 ?_;try simp only[Act.put]
  refine qI 24 ?_;try simp only[Act.put]
  refine qI 26 ?_;try simp only[Act.put]
  refine qI 27 ?_;try simp only[Act.put]
  refine qI 28 ?_;try simp only[Act.put]
  have mN0:=True.intro;all_goals first
   |(
     clear mN0;refine wpAnyH_ready (rs:=[5,13]) (by kernel_rfl) (by simp) ?_;refine(AllReadyH.cons rfl (fun KK hKK=>?_) (AllReadyH.cons rfl (fun KK hKK=>?_) AllReadyH.nil));go_simp;skip
     clear hHeld;refine hKK.out _ _ ?_ (fun hHeld=>?_)
     · exact hR.mapc (j:=0) (by omega)
     clear hKK KK;try simp only[Act.put]
     have mL0:=True.intro;rotate_left;go_simp;go_at_call 114
     refine(kX g rb (mb 0) (ids 0).length m 0 e1 (fe 0 e1) n1 ⟨vs,s.t.fares,mb,s.rules,o⟩ f1 [f2,f3,f4] (ids 0) (by rw[hid 0 (by omega)];exact HP1) l1 (qA rfl) (hmb 0 (by omega)) _ hR ((hmo 0 (by omega)).grown G9 (by simpa using hmb 0 (by omega)))).mono ?_;rintro y1 w1 ⟨rfl,r1,g1⟩;have g1x:Gr g w w1:=qJ G9 g1;have ck1:=hrow r1;clear hHeld;refine hKK.out _ _ ?_ (fun hHeld=>?_)
     · exact r1.mapc (j:=0) (by omega)
     clear hKK KK;try simp only[Act.put]
     have mN1:=True.intro)
   |skip
  all_goals first
   |(
     clear mN1;refine wpAnyH_ready (rs:=[5,21]) (by kernel_rfl) (by simp) ?_;refine(AllReadyH.cons rfl (fun KK hKK=>?_) (AllReadyH.cons rfl (fun KK hKK=>?_) AllReadyH.nil));go_simp;skip
     clear hHeld;refine hKK.out _ _ ?_ (fun hHeld=>?_)
     · exact r1.mapc (j:=0) (by omega)
     clear hKK KK;try simp only[Act.put]
     have mL1:=True.intro;rotate_left;go_simp;go_at_call 114
     refine(kX g rb (mb 0) (ids 0).length m (fe 0 e1) e2 (fe (fe 0 e1) e2) n2 ⟨vs,s.t.fares,mb,s.rules,o⟩ f2 [f3,f4] (ids 0) (by rw[hid 0 (by omega)];exact HP2) l2 (qA rfl) (hmb 0 (by omega)) _ r1 ((hmo 0 (by omega)).grown g1x (by simpa using hmb 0 (by omega)))).mono ?_;rintro y2 w2 ⟨rfl,r2,g2⟩;have g2x:Gr g w w2:=qJ g1x g2;have ck2:=hrow r2;clear hHeld;refine hKK.out _ _ ?_ (fun hHeld=>?_)
     · exact r2.mapc (j:=0) (by omega)
     clear hKK KK;try simp only[Act.put]
     have mN2:=True.intro)
   |skip
  all_goals first
   |(
     clear mN2;refine wpAnyH_ready (rs:=[5,25]) (by kernel_rfl) (by simp) ?_;refine(AllReadyH.cons rfl (fun KK hKK=>?_) (AllReadyH.cons rfl (fun KK hKK=>?_) AllReadyH.nil));go_simp;skip
     clear hHeld;refine hKK.out _ _ ?_ (fun hHeld=>?_)
     · exact r2.mapc (j:=0) (by omega)
     clear hKK KK;try simp only[Act.put]
     have mL2:=True.intro;rotate_left;go_simp;go_at_call 190
     refine(YW g rb m (fe (fe 0 e1) e2) e3 (fe (fe (fe 0 e1) e2) e3) n3 ⟨vs,s.t.fares,mb,s.rules,o⟩ f3 [f4] HP3 l3 (qA rfl) _ r2).mono ?_;rintro y3 w3 ⟨rfl,r3,g3⟩;have g3x:Gr g w w3:=qJ g2x g3;have ck3:=hrow r3;clear hHeld;refine hKK.out _ _ ?_ (fun hHeld=>?_)
     · exact r3.mapc (j:=0) (by omega)
     clear hKK KK;try simp only[Act.put]
     have mN3:=True.intro)
   |skip
  all_goals first
   |(
     clear mN3;refine wpAnyH_ready (rs:=[5,29]) (by kernel_rfl) (by simp) ?_;refine(AllReadyH.cons rfl (fun KK hKK=>?_) (AllReadyH.cons rfl (fun KK hKK=>?_) AllReadyH.nil));go_simp;skip
     clear hHeld;refine hKK.out _ _ ?_ (fun hHeld=>?_)
     · exact r3.mapc (j:=0) (by omega)
     clear hKK KK;try simp only[Act.put]
     have mL3:=True.intro;rotate_left;go_simp;go_at_call 109
     refine(Kw g rb m (fe (fe (fe 0 e1) e2) e3) e4 (fe (fe (fe (fe 0 e1) e2) e3) e4) n4 ⟨vs,s.t.fares,mb,s.rules,o⟩ f4 [] HP4 (qA rfl) _ r3).mono ?_;rintro y4 w4 ⟨rfl,r4,g4⟩;have g4x:Gr g w w4:=qJ g3x g4;have ck4:=hrow r4;clear hHeld;refine hKK.out _ _ ?_ (fun hHeld=>?_)
     · exact r4.mapc (j:=0) (by omega)
     clear hKK KK;try simp only[Act.put]
     refine qI 30 ?_;try simp only[Act.put]
     have mN4:=True.intro)
   |skip
  all_goals first
   |(
     clear mN4;refine wpAnyH_ready (rs:=[5,31]) (by kernel_rfl) (by simp) ?_;refine(AllReadyH.cons rfl (fun KK hKK=>?_) (AllReadyH.cons rfl (fun KK hKK=>?_) AllReadyH.nil));go_simp;skip
     clear hHeld;refine hKK.out _ _ ?_ (fun hHeld=>?_)
     · exact r4.mapc (j:=0) (by omega)
     clear hKK KK;try simp only[Act.put]
     have mL4:=True.intro;rotate_left;go_simp;skip
     clear hHeld;refine hKK.out _ _ ?_ (fun hHeld=>?_)
     · exact(r4.bl (qE (qB w4) (.cells #[.int .i64 n1, .int .i64 n2, .int .i64 n3, .bool n4] 63))).mapc (j:=0) (by omega)
     clear hKK KK;try simp only[Act.put]
     have cka:(w4.alloc (.cells #[.int .i64 n1, .int .i64 n2, .int .i64 n3, .bool n4] 63)).cell? ⟨g,10,none⟩=some (.slice a0 s.t.paths.length k0):=hrow (r4.bl (qE (qB _) _));have mNb:=True.intro)
   |skip
  all_goals first
   |(
     clear mNb;refine wpAnyH_ready (rs:=[5]) (by kernel_rfl) (by simp) ?_;refine(AllReadyH.cons rfl (fun KK hKK=>?_) AllReadyH.nil);go_simp;skip
     clear hHeld;refine hKK.out _ _ ?_ (fun hHeld=>?_)
     · exact(r4.bl (qE (qB _) _)).mapc (j:=0) (by omega)
     clear hKK KK;try simp only[Act.put]
     have mLb:=True.intro)
   |skip
  all_goals first
   |(
     clear mL0;refine wpAnyH_ready (rs:=[13]) (by kernel_rfl) (by simp) ?_;refine(AllReadyH.cons rfl (fun KK hKK=>?_) AllReadyH.nil);go_simp;go_at_call 114
     refine(kX g rb (mb 0) (ids 0).length m 0 e1 (fe 0 e1) n1 ⟨vs,s.t.fares,mb,s.rules,o⟩ f1 [f2,f3,f4] (ids 0) (by rw[hid 0 (by omega)];exact HP1) l1 (qA rfl) (hmb 0 (by omega)) _ hR ((hmo 0 (by omega)).grown G9 (by simpa using hmb 0 (by omega)))).mono ?_;rintro y1 w1 ⟨rfl,r1,g1⟩;have g1x:Gr g w w1:=qJ G9 g1;have ck1:=hrow r1;clear hHeld;refine hKK.out _ _ ?_ (fun hHeld=>?_)
     · exact r1.mapc (j:=0) (by omega)
     clear hKK KK;try simp only[Act.put]
     have mL1:=True.intro)
   |skip
  all_goals first
   |(
     clear mL1;refine wpAnyH_ready (rs:=[21]) (by kernel_rfl) (by simp) ?_;refine(AllReadyH.cons rfl (fun KK hKK=>?_) AllReadyH.nil);go_simp;go_at_call 114
     refine(kX g rb (mb 0) (ids 0).length m (fe 0 e1) e2 (fe (fe 0 e1) e2) n2 ⟨vs,s.t.fares,mb,s.rules,o⟩ f2 [f3,f4] (ids 0) (by rw[hid 0 (by omega)];exact HP2) l2 (qA rfl) (hmb 0 (by omega)) _ r1 ((hmo 0 (by omega)).grown g1x (by simpa using hmb 0 (by omega)))).mono ?_;rintro y2 w2 ⟨rfl,r2,g2⟩;have g2x:Gr g w w2:=qJ g1x g2;have ck2:=hrow r2;clear hHeld;refine hKK.out _ _ ?_ (fun hHeld=>?_)
     · exact r2.mapc (j:=0) (by omega)
     clear hKK KK;try simp only[Act.put]
     have mL2:=True.intro)
   |skip
  all_goals first
   |(
     clear mL2;refine wpAnyH_ready (rs:=[25]) (by kernel_rfl) (by simp) ?_;refine(AllReadyH.cons rfl (fun KK hKK=>?_) AllReadyH.nil);go_simp;go_at_call 190
     refine(YW g rb m (fe (fe 0 e1) e2) e3 (fe (fe (fe 0 e1) e2) e3) n3 ⟨vs,s.t.fares,mb,s.rules,o⟩ f3 [f4] HP3 l3 (qA rfl) _ r2).mono ?_;rintro y3 w3 ⟨rfl,r3,g3⟩;have g3x:Gr g w w3:=qJ g2x g3;have ck3:=hrow r3;clear hHeld;refine hKK.out _ _ ?_ (fun hHeld=>?_)
     · exact r3.mapc (j:=0) (by omega)
     clear hKK KK;try simp only[Act.put]
     have mL3:=True.intro)
   |skip
  all_goals first
   |(
     clear mL3;refine wpAnyH_ready (rs:=[29]) (by kernel_rfl) (by simp) ?_;refine(AllReadyH.cons rfl (fun KK hKK=>?_) AllReadyH.nil);go_simp;go_at_call 109
     refine(Kw g rb m (fe (fe (fe 0 e1) e2) e3) e4 (fe (fe (fe (fe 0 e1) e2) e3) e4) n4 ⟨vs,s.t.fares,mb,s.rules,o⟩ f4 [] HP4 (qA rfl) _ r3).mono ?_;rintro y4 w4 ⟨rfl,r4,g4⟩;have g4x:Gr g w w4:=qJ g3x g4;have ck4:=hrow r4;clear hHeld;refine hKK.out _ _ ?_ (fun hHeld=>?_)
     · exact r4.mapc (j:=0) (by omega)
     clear hKK KK;try simp only[Act.put]
     refine qI 30 ?_;try simp only[Act.put]
     have mL4:=True.intro)
   |skip
  all_goals first
   |(
     clear mL4;refine wpAnyH_ready (rs:=[31]) (by kernel_rfl) (by simp) ?_;refine(AllReadyH.cons rfl (fun KK hKK=>?_) AllReadyH.nil);go_simp;skip
     clear hHeld;refine hKK.out _ _ ?_ (fun hHeld=>?_)
     · exact(r4.bl (qE (qB w4) (.cells #[.int .i64 n1, .int .i64 n2, .int .i64 n3, .bool n4] 63))).mapc (j:=0) (by omega)
     clear hKK KK;try simp only[Act.put]
     have mLb:=True.intro)
   |skip
  all_goals
   clear mLb;refine wpAnyH_ready (rs:=[32]) (by kernel_rfl) (by simp) ?_;refine(AllReadyH.cons rfl (fun KK hKK=>?_) AllReadyH.nil);have OD:(w4.alloc (.cells #[.int .i64 n1, .int .i64 n2, .int .i64 n3, .bool n4] 63)).ownsRow B 63 4 (.slice a0 s.t.paths.length k0) s.t.paths.length (s.t.paths.flatMap zt):=by have h1:=((H.out.gr r4 g4x).bl (qE (qB w4) (.cells #[.int .i64 n1, .int .i64 n2, .int .i64 n3, .bool n4] 63))).parts.row 8 (by omega);unfold vO at h1;rw[hv0]at h1;exact h1
   have zn:=g4x.size;refine step_append_lies _ (by rfl) _ _ _ (by rfl) B 63 i6 _ 4 32 Tryz.underlying31 hi6 hz60 hz61 hz62 rfl (by omega) (.slice a0 s.t.paths.length k0) s.t.paths.length (s.t.paths.flatMap zt) (by rfl) OD ⟨w4.heap.size,0,none⟩ 1 1 (zt ⟨n1,n2,n3,n4⟩) (by rfl) (by rfl) (World.news_of_block (cs:= #[.int .i64 n1, .int .i64 n2, .int .i64 n3, .bool n4]) (heap_alloc_new w4 _)) (by simp[zt,Value.oneCell']) (by omega) (by unfold maxLen;omega) (by omega) (by simp;omega) (w4.heap.size+1) (by simp) ?_;intro gg6 cap6 w9 hown6 hgrow6 hat6 hlt6;obtain⟨vs9,own9,P1,P2⟩:=((H.out.gr r4 g4x).bl (qE (qB w4) (.cells #[.int .i64 n1, .int .i64 n2, .int .i64 n3, .bool n4] 63))).push8 (gg:=gg6) (cap:=cap6) (x:=⟨n1,n2,n3,n4⟩) (by rw[hv0];exact hgrow6) hown6 (by rw[hv0];simpa using hat6);have mk:=(hgrow6.cell_far ⟨g,10,none⟩ (by simp;omega) far6).trans (hrow (r4.bl (qE (qB w4) (.cells #[.int .i64 n1, .int .i64 n2, .int .i64 n3, .bool n4] 63))));have mf:=(hgrow6.frozen_far ⟨g,10,none⟩ (by simp;omega) far6).trans (((H.out.gr r4 g4x).bl (qE (qB w4) (.cells #[.int .i64 n1, .int .i64 n2, .int .i64 n3, .bool n4] 63))).free 10);clear hHeld;refine hKK.out _ _ ?_ (fun hHeld=>?_)
   · exact(hgrow6.cell_far ⟨g,15,none⟩ (by simp;omega) far6).trans ((r4.bl (qE (qB w4) (.cells #[.int .i64 n1, .int .i64 n2, .int .i64 n3, .bool n4] 63))).mapc (j:=0) (by omega))
   clear hKK KK;try simp only[Act.put]
   refine qI 33 ?_;try simp only[Act.put]
   refine qI 34 ?_;try simp only[Act.put]
   refine qI 35 ?_;try simp only[Act.put]
   refine wpAnyH_ready (rs:=[36]) (by kernel_rfl) (by simp) ?_;refine(AllReadyH.cons rfl (fun KK hKK=>?_) AllReadyH.nil);go_simp;skip
   clear hHeld;refine hKK.out _ _ ?_ (fun hHeld=>?_)
   · exact P1.rat.mapc (j:=0) (by omega)
   clear hKK KK;try simp only[Act.put]
   refine wpAnyH_done (by kernel_rfl) ?_ _;refine hK0 _ _ (Met.intro (hJ0 _ _ ?_));repeat apply Exists.intro
   refine⟨?rel,rfl⟩;case rel=>exact⟨_,_,rfl,P1,(QK g4x H.out.lg).trans ((yJ (qE (qB w4) _)).trans P2)⟩
 case rest=>
  obtain⟨vs1,own1,rfl,H8,M8⟩:=hcut;obtain⟨a1,k1,hv7⟩: ∃ a c,vs1 18= .slice a (qN s 8).length c:=H8.out.form (k:=18) (by omega);obtain⟨i7,hi7,hz70,hz71,hz72⟩:=info_parts yD;have ck7:wc.cell? ⟨g,27,none⟩=some (.slice a1 (qN s 8).length k1):=by rw[<-hv7];exact H8.out.row (k:=18) (by omega)
  have fk7:=H8.out.free 27;have al7:=qG (qE (qH (qB wc)) (.cells #[.int .i64 n] 3));have far7:some g≠(Value.slice a1 (qN s 8).length k1).ownBlock:=fun e=>by rw[<-hv7]at e;exact H8.out.far (k:=18) (by omega) (.inr (.inr H8.out.lg)) e.symm
  have R7:Hid ((wc.drew).ownsRow B 3 1 (.slice a1 (qN s 8).length k1) (qN s 8).length ((qN s 8).flatMap qi)):=by have h:=(H8.out.bl (qH (qB wc))).parts.row 18 (by omega);unfold vO at h;rw[hv7]at h;exact h
  have hB7:B<=wc.heap.size:=by have h1:=(H8.out.parts.labm 0 (by omega)).2;have h2:=(H8.out.parts.maps 0 (by omega)).lt;omega
  have gl7:=H8.out.glt;go_wp2_with fail;go_region_law ((refine step_append_lies _ (by rfl) _ _ _ (by rfl) B 3 i7 _ 1 8 Tryz.underlying73 hi7 hz70 hz71 hz72 rfl (by omega) (.slice a1 (qN s 8).length k1) (qN s 8).length ((qN s 8).flatMap qi) (by rfl) (World.ownsRow.alloc R7.out _) ⟨wc.heap.size,0,none⟩ 1 1 [.int .i64 n] (by rfl) (by rfl) (World.news_of_block (cs:= #[.int .i64 n]) (heap_alloc_new wc.drew _)) (by simp[Value.oneCell']) (by omega) (by unfold maxLen;omega) (by omega) (by simp;omega) (wc.heap.size+1) (by simp) ?_;intro gg7 cap7 w7 hown7 hgrow7 hat7 hlt7;have mk7:=(hgrow7.cell_far ⟨g,27,none⟩ (by simp;omega) far7).trans ((al7.1 _ _ (by omega)).trans ck7);have mf7:=(hgrow7.frozen_far ⟨g,27,none⟩ (by simp;omega) far7).trans ((al7.2 _ _ (by omega)).trans fk7)))
  all_goals
   obtain⟨vs9,own9,P1,P2⟩:=(H8.out.bl (qE (qH (qB wc)) (.cells #[.int .i64 n] 3))).line' (k:=8) (gg:=gg7) (cap:=cap7) (n:=n) (s':=s') (by omega) (by rw[hv7];exact hgrow7) hown7 (by rw[hv7];simpa using hat7) (by rw[<-HS.out];rfl) (by rw[<-HS.out];rfl) (by rw[<-HS.out];rfl);go_wp2;go_end0;exact⟨rfl,_,_,_,_,by rw[<-HE.out];exact P1,fun j hj=>by rw[<-HS.out];exact hid j hj,M8.out.trans ((yJ (qE (qH (qB wc)) _)).trans P2)⟩
end Go.Proofs.YtakedkcjplfgeaaGreatDoor
