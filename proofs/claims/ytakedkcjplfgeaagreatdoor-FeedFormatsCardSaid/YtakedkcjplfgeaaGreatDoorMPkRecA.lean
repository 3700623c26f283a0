/- Contracts, proved. Conditions: each contract's own. -/
import Derived.Test.YtakedkcjplfgeaaGreatDoorMPkRdC
import Derived.Deep.DrawnRows
set_option maxRecDepth 1000000
set_option maxHeartbeats 32000000
namespace Go.Proofs.YtakedkcjplfgeaaGreatDoor
open Go.RowKit
variable {P:Program} {ops:Array Oper} {Q:Exit->Act->World->Prop} {S:World->Prop}
theorem qI (i:Nat) {v:Value} {oi:Oper} {fuel:Nat} {listed:Array Bool} {a:Act} {w:World} (h:wpAnyH P .any ops Q S fuel (listed.setIfInBounds i true) (a.put oi.dst v) w) (hi:ops[i]? =some oi:=by rfl) (hS:S w:=by assumption)
  (hy: ∀ w',S w'->(execOp a.eval oi).run P w'= .ok (.value v) w':=by intro w' hSw;(try dsimp only at hSw);go_simp;first|done|with_reducible rfl) (hg:Region.wanted oi (yielded ops a.tmps)=true:=by rfl)
  (hs:Region.noSelect ops=true:=by kernel_rfl) (hf:Region.free .any ops listed i=true:=by kernel_rfl) (hr:(Region.ready .any ops listed).contains i=true:=by kernel_rfl)
  (hQ: ∀ c a w,Q (.panic c) (a.put oi.dst v) w->Q (.panic c) a w:=by exact fun _ _ _ h=>h):wpAnyH P .any ops Q S (fuel+1) listed a w:=
 wpAnyH_take hi hs hf hr hQ (Or.inl ⟨hg,hy⟩) hS h
theorem zh (i:Nat) {o:Oper} {fuel:Nat} {listed:Array Bool} {a:Act} {w:World}
  (h: ∀ K':Act->World->Prop,Shut (∀ a w,S w->(S w->wpAnyH P .any ops Q S fuel (listed.setIfInBounds i true) a w)->K' a w)->if Region.wanted o (yielded ops a.tmps)=true then Oper.wp P o a w K' Q else K' (a.put o.dst undef) w)
  (ho:ops[i]? =some o:=by rfl) (hr:Region.ready .any ops listed=[i]:=by kernel_rfl):wpAnyH P .any ops Q S (fuel+1) listed a w:=
 wpAnyH_ready hr (by simp) (AllReadyH.cons ho h AllReadyH.nil)
end Go.Proofs.YtakedkcjplfgeaaGreatDoor
namespace Go.Proofs.YtakedkcjplfgeaaGreatDoor
open Go.RowKit
open Frq Thr Tt Num Clk Dat Fld
attribute [local go_sem ↓] Go.wp_at_zero Go.wp_at_succ
theorem OV:(Tryz.prog.info? 120).map (fun i=>(i.zero,i.size,i.bytes))=some (some (.agg #[.string ByteArray.empty, .int .i64 0, .bool false, .int .i64 0]),4,40):=by kernel_rfl
theorem LP (B g rb N:Nat) (m:Int) (vs:Nat->Value) (ts:List TripD) (mb own:Nat->Nat) (s:St) (ids:Nat->List (List UInt8)) (o:Bool) (f1 f2 f3 f4:List UInt8) (n:Int) (s':St) (E:Int)
  (HF:Hid (qy s 0 [[115,116,111,112],f1,f2,f3,f4] n=(s',E))) (l1:f1.length<=131072) (l2:f2.length<=131072) (l4:f4.length<=131072) (hN:ww N s) (hN2:N<=1000000) (hid: ∀ j,j<4->ids j=yX s.t j) (w:World) (h:kN B g rb m 0 vs ts mb own s ids o [f1,f2,f3,f4] w):
  Calls Tryz.prog 41 #[.pointer (some ⟨g,0,none⟩),qP [115,116,111,112], .int .i64 n] w fun q w'=>q= .returned (.tuple #[])/\ ∃ vs' ts' own' ids',kN B g rb m E vs' ts' mb own' s' ids' o [] w'/\(∀ j,j<4->ids' j=yX s'.t j)/\Mv own w own' w':=by
 obtain⟨⟨n2,e2⟩,HP2⟩: ∃ p,Hid (kF f2=p):=⟨_,rfl⟩;obtain⟨⟨n3,e3⟩,HP3⟩: ∃ p,Hid (yI f3=p):=⟨_,rfl⟩;obtain⟨⟨n4,e4⟩,HP4⟩: ∃ p,Hid (kF f4=p):=⟨_,rfl⟩;have hF:qy s 0 [[115,116,111,112],f1,f2,f3,f4] n=(⟨{ s.t with stops:=s.t.stops++[⟨f1,(kF f2).1,(yI f3).1,(kF f4).1⟩] },jm s 0 n,s.rules,false⟩,zT [(kF f2).2,(yI f3).2,(kF f4).2]):=rfl;rw[HP2.out,HP3.out,HP4.out]at hF;have hq:=hF.symm.trans HF.out;simp only[qAF]at hq;obtain⟨hs1,hE1⟩:=hq;have HE:=qA (show(fe (fe (fe 0 e2) e3) e4)=E by rw[<-hE1];exact vY [e2,e3,e4]);have HS:=qA hs1;clear hF hE1 hs1 HF;have H:=qA h;have hR:=h.rat.bl (qH (qB w));have hg:=h.glt;have hrb:=h.rat.lt;obtain⟨hm1,hm2⟩:=h.rat.env.lt;clear h;go_enter Tryz.func41,Tryz.ntmps41
 go_wp2_with fail;go_cut [6] from 338 (fun sv wx=> ∃ b:Nat,sv= .pointer (some ⟨b,0,none⟩)/\w.heap.size<=b/\Hid (wR g rb m (fe (fe (fe 0 e2) e3) e4) ⟨vs,s.t.fares,mb,s.rules,o⟩ [] wx)/\Hid (Gr g w wx)/\Hid (wx.heap[b]? =some (.cells #[qP f1, .int .i64 n2, .bool n3, .int .i64 n4] 120 (0,0))))
 case first=>
  rename_i J0 K0 hJ0 hK0;have G9:Gr g w w.drew:=jH (qH (qB w));go_region_held3 (fun w'=>True) (exact trivial)
   (first
    |(go_at_call 107;(with_reducible refine(zy g rb m 0 ⟨vs,s.t.fares,mb,s.rules,o⟩ f1 [f2,f3,f4] _ (by first|with_reducible exact hR|with_reducible exact hR.bl (qE (qB _) _))).mono ?_);rintro y1 w1 ⟨rfl,r1,g1⟩;have g1x:Gr g w w1:=qJ (by first|with_reducible exact G9|with_reducible exact qJ G9 (jH (qE (qB _) _))) g1;(first|(have BK:=(qg g1 (lt_of_block BK) bkne).trans BK)|(have bkne:w.heap.size≠g:=by omega) ;(have BK:w1.heap[w.heap.size]? =some _:=(qg (b:=w.heap.size) g1 (by simp) bkne).trans (heap_alloc_new w.drew _))|skip))
    |(go_at_call 108;(with_reducible refine(ZE g rb m 0 e2 (fe 0 e2) n2 ⟨vs,s.t.fares,mb,s.rules,o⟩ f2 [f3,f4] HP2 l2 (qA rfl) _ (by first|with_reducible exact r1|with_reducible exact r1.bl (qE (qB _) _))).mono ?_);rintro y2 w2 ⟨rfl,r2,g2⟩;have g2x:Gr g w w2:=qJ (by first|with_reducible exact g1x|with_reducible exact qJ g1x (jH (qE (qB _) _))) g2;(first|(have BK:=(qg g2 (lt_of_block BK) bkne).trans BK)|(have bkne:w1.heap.size≠g:=by(have:=r1.glt;omega)) ;(have BK:=(qg g2 (by simp) bkne).trans (heap_alloc_new w1 _))|skip))
    |(go_at_call 109;(with_reducible refine(Kw g rb m (fe 0 e2) e3 (fe (fe 0 e2) e3) n3 ⟨vs,s.t.fares,mb,s.rules,o⟩ f3 [f4] HP3 (qA rfl) _ (by first|with_reducible exact r2|with_reducible exact r2.bl (qE (qB _) _))).mono ?_);rintro y3 w3 ⟨rfl,r3,g3⟩;have g3x:Gr g w w3:=qJ (by first|with_reducible exact g2x|with_reducible exact qJ g2x (jH (qE (qB _) _))) g3;(first|(have BK:=(qg g3 (lt_of_block BK) bkne).trans BK)|(have bkne:w2.heap.size≠g:=by(have:=r2.glt;omega)) ;(have BK:=(qg g3 (by simp) bkne).trans (heap_alloc_new w2 _))|skip))
    |(go_at_call 108;(with_reducible refine(ZE g rb m (fe (fe 0 e2) e3) e4 (fe (fe (fe 0 e2) e3) e4) n4 ⟨vs,s.t.fares,mb,s.rules,o⟩ f4 [] HP4 l4 (qA rfl) _ (by first|with_reducible exact r3|with_reducible exact r3.bl (qE (qB _) _))).mono ?_);rintro y4 w4 ⟨rfl,r4,g4⟩;have g4x:Gr g w w4:=qJ (by first|with_reducible exact g3x|with_reducible exact qJ g3x (jH (qE (qB _) _))) g4;(first|(have BK:=(qg g4 (lt_of_block BK) bkne).trans BK)|(have bkne:w3.heap.size≠g:=by(have:=r3.glt;omega)) ;(have BK:=(qg g4 (by simp) bkne).trans (heap_alloc_new w3 _))|skip);(first|((have q0:w4.cell? ⟨_,0,none⟩=some (.string ⟨#[]⟩):=qC BK 0 _ rfl);(have fr0:=U8 BK 0);(have q1:w4.cell? ⟨_,1,none⟩=some (.int .i64 0):=qC BK 1 _ rfl);(have fr1:=U8 BK 1);(have q2:w4.cell? ⟨_,2,none⟩=some (.bool false):=qC BK 2 _ rfl);(have fr2:=U8 BK 2);(have q3:w4.cell? ⟨_,3,none⟩=some (.int .i64 0):=qC BK 3 _ rfl);(have fr3:=U8 BK 3))|skip))
    |fail)
  all_goals
   have z1:=g1x.size;have z2:=g2x.size;have z3:=g3x.size;have z4:=g4x.size;refine hK0 _ _ (Met.intro (hJ0 _ _ ?_));repeat apply Exists.intro
   refine⟨?rel,rfl⟩;case rel=>
    first
     |(have Q:=Jd (by omega) hg hrb hm1 hm2 [qP f1, .int .i64 n2, .bool n3, .int .i64 n4] 0 r4 g4x BK;exact⟨_,rfl,by omega,Q.1,Q.2.1,Q.2.2⟩)
     |exact⟨_,rfl,by omega,r4.bl (qE (qB _) _),qJ g4x (jH (qE (qB _) _)),heap_alloc_new _ _⟩
 case rest=>
  obtain⟨b,rfl,hwb,HR1,HG1,HB1⟩:=hcut;have H1:=qA (H.out.gr HR1.out HG1.out);have M1:=qA (QK HG1.out H.out.lg);have hb:=lt_of_block HB1.out;have hbg:b≠g:=by omega
  obtain⟨a0,k0,hv0⟩: ∃ a c,vs 0= .slice a s.t.stops.length c:=H1.out.form (k:=0) (by omega);have hcnt:s.t.stops.length<=N:=hN.stops;have hids:(ids 0).length=s.t.stops.length:=by rw[hid 0 (by omega)];show(s.t.stops.map (·.id)).length=_;rw[U4]
  have hnote: ∀ w,qx w (mb 0) (ids 0).length (ids 0)->Calls Tryz.prog 110 #[.map (some (mb 0)),qP f1, .int .i64 (s.t.stops.length:Int)] w fun q w'=>q= .returned (.tuple #[])/\qx w' (mb 0) ((ids 0).length+1) (ids 0++[f1])/\w.grownBy w' (some (mb 0)):=fun w ho=>by rw[<-hids];exact Wi (mb 0) (ids 0).length f1 (ids 0) l1 (by unfold maxLen;omega) (by omega) w ho
  have hmbg:mb 0≠g:=fun e=>by have h1:=(H.out.parts.labm 0 (by omega)).1;have h2:=H.out.lg;rw[e]at h1;omega
  have hmbl:mb 0<w.heap.size:=(H.out.parts.maps 0 (by omega)).lt;have c15:wc.cell? ⟨g,15,none⟩=some (.map (some (mb 0))):=H1.out.mapc (j:=0) (by omega);have ck:wc.cell? ⟨g,2,none⟩=some (.slice a0 s.t.stops.length k0):=by rw[<-hv0];exact H1.out.row (k:=0) (by omega)
  have cb0:wc.cell? ⟨b,0,none⟩=some (qP f1):=qC HB1.out 0 _ rfl;have hown:qx wc.drew (mb 0) (ids 0).length (ids 0):=(H1.out.parts.bl (qH (qB _))).maps 0 (by omega);go_wp2_with fail;go_region_held3 (fun w'=>w'.cell? ⟨g,15,none⟩=some (.map (some (mb 0)))/\w'.cell? ⟨g,2,none⟩=some (.slice a0 s.t.stops.length k0)/\w'.cell? ⟨b,0,none⟩=some (qP f1))
   (first|exact⟨c15,ck,cb0⟩|exact⟨(g5.cell_far ⟨g,15,none⟩ H1.out.glt (by simp only[ne_eq,qAA];omega)).trans c15,(g5.cell_far ⟨g,2,none⟩ H1.out.glt (by simp only[ne_eq,qAA];omega)).trans ck,(g5.cell_far ⟨b,0,none⟩ hb (by simp only[ne_eq,qAA];omega)).trans cb0⟩)
   ((go_at_call 110;refine(hnote _ hown).mono ?_;rintro y5 w5 ⟨rfl,o5,g5⟩))
  have H5:=qA ((H1.out.bl (qH (qB wc))).noted (j:=0) (q:=ids 0++[f1]) (by omega) g5 (by simpa using o5));have M5:=qA (M1.out.trans ((yJ (qH (qB wc))).trans (Mv.grown g5 (fun b hb=>by simp only[qAA]at hb;have h1:=(H.out.parts.labm 0 (by omega)).1;rw[<-hb,h1];omega))));have HB5:=qA (show w5.heap[b]? =_ from(qg g5 hb (by omega)).trans HB1.out);have hb5:=lt_of_block HB5.out;clear H1 M1 HR1 HG1 HB1 ck cb0 hown hnote g5 o5 c15;have hv6:=hv0;obtain⟨i6,hi6,hz60,hz61,hz62⟩:=info_parts OV;have ck6:w5.cell? ⟨g,2,none⟩=some (.slice a0 s.t.stops.length k0):=by rw[<-hv6];exact H5.out.row (k:=0) (by omega)
  have fk6:=H5.out.free 2;have xb0:w5.cell? ⟨b,0,none⟩=some (qP f1):=qC HB5.out 0 _ rfl;have xb1:w5.cell? ⟨b,1,none⟩=some (.int .i64 n2):=qC HB5.out 1 _ rfl;have xb2:w5.cell? ⟨b,2,none⟩=some (.bool n3):=qC HB5.out 2 _ rfl;have xb3:w5.cell? ⟨b,3,none⟩=some (.int .i64 n4):=qC HB5.out 3 _ rfl;have al6:=qG (qE (qH (qB w5)) (.cells #[qP f1, .int .i64 n2, .bool n3, .int .i64 n4] 120));have far6: ∀ x,x=g∨x=b->some x≠(Value.slice a0 s.t.stops.length k0).ownBlock:=fun x hx e=>by rw[<-hv0]at e;rcases hx with hx|hx;exact H.out.far (k:=0) (by omega) (.inr (.inr H.out.lg)) (by rw[<-e,hx]);(have h:=(qAG (H.out.parts.row 0 (by omega)) x e.symm).2;omega)
  have R6:Hid ((w5.drew).ownsRow B 120 4 (.slice a0 s.t.stops.length k0) s.t.stops.length (s.t.stops.flatMap jY)):=by have h:=(H5.out.bl (qH (qB w5))).parts.row 0 (by omega);unfold vO at h;rw[hv6]at h;exact h
  have hB6:B<=w5.heap.size:=by have h1:=(H5.out.parts.labm 0 (by omega)).2;have h2:=(H5.out.parts.maps 0 (by omega)).lt;omega
  have gl6:=H5.out.glt;go_wp2_with fail;go_cut [6] from 338 (fun _ wx=> ∃ (vs1:Nat->Value) (own1:Nat->Nat),Hid (kN B g rb m (fe (fe (fe 0 e2) e3) e4) vs1 ts mb own1 (RH s ⟨f1,n2,n3,n4⟩) (rE ids 0 (ids 0++[f1])) o [] wx)/\Hid (Mv own w own1 wx))
  case first=>
   rename_i J0 K0 hJ0 hK0;go_region_law ((refine step_append_lies _ (by rfl) _ _ _ (by rfl) B 120 i6 _ 4 40 Tryz.underlying23 hi6 hz60 hz61 hz62 rfl (by omega) (.slice a0 s.t.stops.length k0) s.t.stops.length (s.t.stops.flatMap jY) (by rfl) (World.ownsRow.alloc R6.out _) ⟨w5.heap.size,0,none⟩ 1 1 (jY ⟨f1,n2,n3,n4⟩) (by rfl) (by rfl) (World.news_of_block (cs:= #[qP f1, .int .i64 n2, .bool n3, .int .i64 n4]) (heap_alloc_new w5.drew _)) (by simp[jY,Value.oneCell']) (by omega) (by unfold maxLen;omega) (by omega) (by simp;omega) (w5.heap.size+1) (by simp) ?_;intro gg6 cap6 w6 hown6 hgrow6 hat6 hlt6;have mk6:=(hgrow6.cell_far ⟨g,2,none⟩ (by simp;omega) (far6 g (.inl rfl))).trans ((al6.1 _ _ (by omega)).trans ck6);have mf6:=(hgrow6.frozen_far ⟨g,2,none⟩ (by simp;omega) (far6 g (.inl rfl))).trans ((al6.2 _ _ (by omega)).trans fk6)))
   all_goals
    refine hK0 _ _ (Met.intro (hJ0 _ _ ?_));repeat apply Exists.intro
    refine⟨?rel,rfl⟩;case rel=>
     obtain⟨vs9,own9,P1,P2⟩:=(H5.out.bl (qE (qH (qB w5)) (.cells #[qP f1, .int .i64 n2, .bool n3, .int .i64 n4] 120))).push0 (gg:=gg6) (cap:=cap6) (x:=⟨f1,n2,n3,n4⟩) (by rw[hv0];exact hgrow6) hown6 (by rw[hv0];simpa using hat6);exact⟨_,_,P1,M5.out.trans ((yJ (qE (qH (qB w5)) _)).trans P2)⟩
  case rest=>
   obtain⟨vs1,own1,H8,M8⟩:=hcut;obtain⟨a1,k1,hv7⟩: ∃ a c,vs1 10= .slice a (qN s 0).length c:=H8.out.form (k:=10) (by omega);have hln:=hN.lens 0;obtain⟨i7,hi7,hz70,hz71,hz72⟩:=info_parts yD;have ck7:wc.cell? ⟨g,19,none⟩=some (.slice a1 (qN s 0).length k1):=by rw[<-hv7];exact H8.out.row (k:=10) (by omega)
   have fk7:=H8.out.free 19;have al7:=qG (qE (qH (qB wc)) (.cells #[.int .i64 n] 3));have far7:some g≠(Value.slice a1 (qN s 0).length k1).ownBlock:=fun e=>by rw[<-hv7]at e;exact H8.out.far (k:=10) (by omega) (.inr (.inr H8.out.lg)) e.symm
   have R7:Hid ((wc.drew).ownsRow B 3 1 (.slice a1 (qN s 0).length k1) (qN s 0).length ((qN s 0).flatMap qi)):=by have h:=(H8.out.bl (qH (qB wc))).parts.row 10 (by omega);unfold vO at h;rw[hv7]at h;exact h
   have hB7:B<=wc.heap.size:=by have h1:=(H8.out.parts.labm 0 (by omega)).2;have h2:=(H8.out.parts.maps 0 (by omega)).lt;omega
   have gl7:=H8.out.glt;go_wp2_with fail;go_region_law ((refine step_append_lies _ (by rfl) _ _ _ (by rfl) B 3 i7 _ 1 8 Tryz.underlying73 hi7 hz70 hz71 hz72 rfl (by omega) (.slice a1 (qN s 0).length k1) (qN s 0).length ((qN s 0).flatMap qi) (by rfl) (World.ownsRow.alloc R7.out _) ⟨wc.heap.size,0,none⟩ 1 1 [.int .i64 n] (by rfl) (by rfl) (World.news_of_block (cs:= #[.int .i64 n]) (heap_alloc_new wc.drew _)) (by simp[Value.oneCell']) (by omega) (by unfold maxLen;omega) (by omega) (by simp;omega) (wc.heap.size+1) (by simp) ?_;intro gg7 cap7 w7 hown7 hgrow7 hat7 hlt7;have mk7:=(hgrow7.cell_far ⟨g,19,none⟩ (by simp;omega) far7).trans ((al7.1 _ _ (by omega)).trans ck7);have mf7:=(hgrow7.frozen_far ⟨g,19,none⟩ (by simp;omega) far7).trans ((al7.2 _ _ (by omega)).trans fk7)))
   all_goals
    obtain⟨vs9,own9,P1,P2⟩:=(H8.out.bl (qE (qH (qB wc)) (.cells #[.int .i64 n] 3))).line' (k:=0) (gg:=gg7) (cap:=cap7) (n:=n) (s':=s') (by omega) (by rw[hv7];exact hgrow7) hown7 (by rw[hv7];simpa using hat7) (by rw[<-HS.out];rfl) (by rw[<-HS.out];rfl) (by rw[<-HS.out];rfl);go_wp2;go_end0;refine⟨rfl,_,_,_,_,by rw[<-HE.out];exact P1,fun j hj=>?_,M8.out.trans ((yJ (qE (qH (qB wc)) _)).trans P2)⟩;rw[<-HS.out];rcases j with _|_|_|_|j
    · rw[VR,hid 0 (by omega)];show _=List.map _ (_++[_]);rw[List.map_append];rfl
    · rw[wQ _ (by omega)];exact hid 1 (by omega)
    · rw[wQ _ (by omega)];exact hid 2 (by omega)
    · rw[wQ _ (by omega)];exact hid 3 (by omega)
    · omega
end Go.Proofs.YtakedkcjplfgeaaGreatDoor
namespace Go.Proofs.YtakedkcjplfgeaaGreatDoor
open Go.RowKit
open Frq Thr Tt Num Clk Dat Fld
attribute [local go_sem ↓] Go.wp_at_zero Go.wp_at_succ
theorem OW:(Tryz.prog.info? 122).map (fun i=>(i.zero,i.size,i.bytes))=some (some (.agg #[.string ByteArray.empty, .int .i64 0, .bool false]),3,32):=by kernel_rfl
theorem LQ (B g rb N:Nat) (m:Int) (vs:Nat->Value) (ts:List TripD) (mb own:Nat->Nat) (s:St) (ids:Nat->List (List UInt8)) (o:Bool) (f1 f2 f3:List UInt8) (n:Int) (s':St) (E:Int)
  (HF:Hid (qy s 1 [[114,111,117,116,101],f1,f2,f3] n=(s',E))) (l1:f1.length<=131072) (hN:ww N s) (hN2:N<=1000000) (hid: ∀ j,j<4->ids j=yX s.t j) (w:World) (h:kN B g rb m 0 vs ts mb own s ids o [f1,f2,f3] w):
  Calls Tryz.prog 41 #[.pointer (some ⟨g,0,none⟩),qP [114,111,117,116,101], .int .i64 n] w fun q w'=>q= .returned (.tuple #[])/\ ∃ vs' ts' own' ids',kN B g rb m E vs' ts' mb own' s' ids' o [] w'/\(∀ j,j<4->ids' j=yX s'.t j)/\Mv own w own' w':=by
 obtain⟨⟨n2,e2⟩,HP2⟩: ∃ p,Hid (KL f2=p):=⟨_,rfl⟩;obtain⟨⟨n3,e3⟩,HP3⟩: ∃ p,Hid (yI f3=p):=⟨_,rfl⟩;have hF:qy s 1 [[114,111,117,116,101],f1,f2,f3] n=(⟨{ s.t with routes:=s.t.routes++[⟨f1,(KL f2).1,(yI f3).1⟩] },jm s 1 n,s.rules,false⟩,zT [(KL f2).2,(yI f3).2]):=rfl;rw[HP2.out,HP3.out]at hF;have hq:=hF.symm.trans HF.out;simp only[qAF]at hq;obtain⟨hs1,hE1⟩:=hq;have HE:=qA (show(fe (fe 0 e2) e3)=E by rw[<-hE1];exact vY [e2,e3]);have HS:=qA hs1;clear hF hE1 hs1 HF;have H:=qA h;have hR:=h.rat.bl (qH (qB w));have hg:=h.glt;have hrb:=h.rat.lt;obtain⟨hm1,hm2⟩:=h.rat.env.lt;clear h;go_enter Tryz.func41,Tryz.ntmps41
 go_wp2_with fail;go_cut [7] from 338 (fun sv wx=> ∃ b:Nat,sv= .pointer (some ⟨b,0,none⟩)/\w.heap.size<=b/\Hid (wR g rb m (fe (fe 0 e2) e3) ⟨vs,s.t.fares,mb,s.rules,o⟩ [] wx)/\Hid (Gr g w wx)/\Hid (wx.heap[b]? =some (.cells #[qP f1, .int .i64 n2, .bool n3] 122 (0,0))))
 case first=>
  rename_i J0 K0 hJ0 hK0;have G9:Gr g w w.drew:=jH (qH (qB w));go_region_held3 (fun w'=>True) (exact trivial)
   (first
    |(go_at_call 107;(with_reducible refine(zy g rb m 0 ⟨vs,s.t.fares,mb,s.rules,o⟩ f1 [f2,f3] _ (by first|with_reducible exact hR|with_reducible exact hR.bl (qE (qB _) _))).mono ?_);rintro y1 w1 ⟨rfl,r1,g1⟩;have g1x:Gr g w w1:=qJ (by first|with_reducible exact G9|with_reducible exact qJ G9 (jH (qE (qB _) _))) g1;(first|(have BK:=(qg g1 (lt_of_block BK) bkne).trans BK)|(have bkne:w.heap.size≠g:=by omega) ;(have BK:w1.heap[w.heap.size]? =some _:=(qg (b:=w.heap.size) g1 (by simp) bkne).trans (heap_alloc_new w.drew _))|skip))
    |(go_at_call 111;(with_reducible refine(LC g rb m 0 e2 (fe 0 e2) n2 ⟨vs,s.t.fares,mb,s.rules,o⟩ f2 [f3] HP2 (qA rfl) _ (by first|with_reducible exact r1|with_reducible exact r1.bl (qE (qB _) _))).mono ?_);rintro y2 w2 ⟨rfl,r2,g2⟩;have g2x:Gr g w w2:=qJ (by first|with_reducible exact g1x|with_reducible exact qJ g1x (jH (qE (qB _) _))) g2;(first|(have BK:=(qg g2 (lt_of_block BK) bkne).trans BK)|(have bkne:w1.heap.size≠g:=by(have:=r1.glt;omega)) ;(have BK:=(qg g2 (by simp) bkne).trans (heap_alloc_new w1 _))|skip))
    |(go_at_call 109;(with_reducible refine(Kw g rb m (fe 0 e2) e3 (fe (fe 0 e2) e3) n3 ⟨vs,s.t.fares,mb,s.rules,o⟩ f3 [] HP3 (qA rfl) _ (by first|with_reducible exact r2|with_reducible exact r2.bl (qE (qB _) _))).mono ?_);rintro y3 w3 ⟨rfl,r3,g3⟩;have g3x:Gr g w w3:=qJ (by first|with_reducible exact g2x|with_reducible exact qJ g2x (jH (qE (qB _) _))) g3;(first|(have BK:=(qg g3 (lt_of_block BK) bkne).trans BK)|(have bkne:w2.heap.size≠g:=by(have:=r2.glt;omega)) ;(have BK:=(qg g3 (by simp) bkne).trans (heap_alloc_new w2 _))|skip);(first|((have q0:w3.cell? ⟨_,0,none⟩=some (.string ⟨#[]⟩):=qC BK 0 _ rfl);(have fr0:=U8 BK 0);(have q1:w3.cell? ⟨_,1,none⟩=some (.int .i64 0):=qC BK 1 _ rfl);(have fr1:=U8 BK 1);(have q2:w3.cell? ⟨_,2,none⟩=some (.bool false):=qC BK 2 _ rfl);(have fr2:=U8 BK 2))|skip))
    |fail)
  all_goals
   have z1:=g1x.size;have z2:=g2x.size;have z3:=g3x.size;refine hK0 _ _ (Met.intro (hJ0 _ _ ?_));repeat apply Exists.intro
   refine⟨?rel,rfl⟩;case rel=>
    first
     |(have Q:=Jd (by omega) hg hrb hm1 hm2 [qP f1, .int .i64 n2, .bool n3] 0 r3 g3x BK;exact⟨_,rfl,by omega,Q.1,Q.2.1,Q.2.2⟩)
     |exact⟨_,rfl,by omega,r3.bl (qE (qB _) _),qJ g3x (jH (qE (qB _) _)),heap_alloc_new _ _⟩
 case rest=>
  obtain⟨b,rfl,hwb,HR1,HG1,HB1⟩:=hcut;have H1:=qA (H.out.gr HR1.out HG1.out);have M1:=qA (QK HG1.out H.out.lg);have hb:=lt_of_block HB1.out;have hbg:b≠g:=by omega
  obtain⟨a0,k0,hv0⟩: ∃ a c,vs 1= .slice a s.t.routes.length c:=H1.out.form (k:=1) (by omega);have hcnt:s.t.routes.length<=N:=hN.routes;have hids:(ids 1).length=s.t.routes.length:=by rw[hid 1 (by omega)];show(s.t.routes.map (·.id)).length=_;rw[U4]
  have hnote: ∀ w,qx w (mb 1) (ids 1).length (ids 1)->Calls Tryz.prog 110 #[.map (some (mb 1)),qP f1, .int .i64 (s.t.routes.length:Int)] w fun q w'=>q= .returned (.tuple #[])/\qx w' (mb 1) ((ids 1).length+1) (ids 1++[f1])/\w.grownBy w' (some (mb 1)):=fun w ho=>by rw[<-hids];exact Wi (mb 1) (ids 1).length f1 (ids 1) l1 (by unfold maxLen;omega) (by omega) w ho
  have hmbg:mb 1≠g:=fun e=>by have h1:=(H.out.parts.labm 1 (by omega)).1;have h2:=H.out.lg;rw[e]at h1;omega
  have hmbl:mb 1<w.heap.size:=(H.out.parts.maps 1 (by omega)).lt;have c16:wc.cell? ⟨g,16,none⟩=some (.map (some (mb 1))):=H1.out.mapc (j:=1) (by omega);have ck:wc.cell? ⟨g,3,none⟩=some (.slice a0 s.t.routes.length k0):=by rw[<-hv0];exact H1.out.row (k:=1) (by omega)
  have cb0:wc.cell? ⟨b,0,none⟩=some (qP f1):=qC HB1.out 0 _ rfl;have hown:qx wc.drew (mb 1) (ids 1).length (ids 1):=(H1.out.parts.bl (qH (qB _))).maps 1 (by omega);go_wp2_with fail;go_region_held3 (fun w'=>w'.cell? ⟨g,16,none⟩=some (.map (some (mb 1)))/\w'.cell? ⟨g,3,none⟩=some (.slice a0 s.t.routes.length k0)/\w'.cell? ⟨b,0,none⟩=some (qP f1))
   (first|exact⟨c16,ck,cb0⟩|exact⟨(g5.cell_far ⟨g,16,none⟩ H1.out.glt (by simp only[ne_eq,qAA];omega)).trans c16,(g5.cell_far ⟨g,3,none⟩ H1.out.glt (by simp only[ne_eq,qAA];omega)).trans ck,(g5.cell_far ⟨b,0,none⟩ hb (by simp only[ne_eq,qAA];omega)).trans cb0⟩)
   ((go_at_call 110;refine(hnote _ hown).mono ?_;rintro y5 w5 ⟨rfl,o5,g5⟩))
  have H5:=qA ((H1.out.bl (qH (qB wc))).noted (j:=1) (q:=ids 1++[f1]) (by omega) g5 (by simpa using o5));have M5:=qA (M1.out.trans ((yJ (qH (qB wc))).trans (Mv.grown g5 (fun b hb=>by simp only[qAA]at hb;have h1:=(H.out.parts.labm 1 (by omega)).1;rw[<-hb,h1];omega))));have HB5:=qA (show w5.heap[b]? =_ from(qg g5 hb (by omega)).trans HB1.out);have hb5:=lt_of_block HB5.out;clear H1 M1 HR1 HG1 HB1 ck cb0 hown hnote g5 o5 c16;have hv6:=hv0;obtain⟨i6,hi6,hz60,hz61,hz62⟩:=info_parts OW;have ck6:w5.cell? ⟨g,3,none⟩=some (.slice a0 s.t.routes.length k0):=by rw[<-hv6];exact H5.out.row (k:=1) (by omega)
  have fk6:=H5.out.free 3;have xb0:w5.cell? ⟨b,0,none⟩=some (qP f1):=qC HB5.out 0 _ rfl;have xb1:w5.cell? ⟨b,1,none⟩=some (.int .i64 n2):=qC HB5.out 1 _ rfl;have xb2:w5.cell? ⟨b,2,none⟩=some (.bool n3):=qC HB5.out 2 _ rfl;have al6:=qG (qE (qH (qB w5)) (.cells #[qP f1, .int .i64 n2, .bool n3] 122));have far6: ∀ x,x=g∨x=b->some x≠(Value.slice a0 s.t.routes.length k0).ownBlock:=fun x hx e=>by rw[<-hv0]at e;rcases hx with hx|hx;exact H.out.far (k:=1) (by omega) (.inr (.inr H.out.lg)) (by rw[<-e,hx]);(have h:=(qAG (H.out.parts.row 1 (by omega)) x e.symm).2;omega)
  have R6:Hid ((w5.drew).ownsRow B 122 3 (.slice a0 s.t.routes.length k0) s.t.routes.length (s.t.routes.flatMap jP)):=by have h:=(H5.out.bl (qH (qB w5))).parts.row 1 (by omega);unfold vO at h;rw[hv6]at h;exact h
  have hB6:B<=w5.heap.size:=by have h1:=(H5.out.parts.labm 0 (by omega)).2;have h2:=(H5.out.parts.maps 0 (by omega)).lt;omega
  have gl6:=H5.out.glt;go_wp2_with fail;go_cut [7] from 338 (fun _ wx=> ∃ (vs1:Nat->Value) (own1:Nat->Nat),Hid (kN B g rb m (fe (fe 0 e2) e3) vs1 ts mb own1 (RI s ⟨f1,n2,n3⟩) (rE ids 1 (ids 1++[f1])) o [] wx)/\Hid (Mv own w own1 wx))
  case first=>
   rename_i J0 K0 hJ0 hK0;go_region_law ((refine step_append_lies _ (by rfl) _ _ _ (by rfl) B 122 i6 _ 3 32 Tryz.underlying24 hi6 hz60 hz61 hz62 rfl (by omega) (.slice a0 s.t.routes.length k0) s.t.routes.length (s.t.routes.flatMap jP) (by rfl) (World.ownsRow.alloc R6.out _) ⟨w5.heap.size,0,none⟩ 1 1 (jP ⟨f1,n2,n3⟩) (by rfl) (by rfl) (World.news_of_block (cs:= #[qP f1, .int .i64 n2, .bool n3]) (heap_alloc_new w5.drew _)) (by simp[jP,Value.oneCell']) (by omega) (by unfold maxLen;omega) (by omega) (by simp;omega) (w5.heap.size+1) (by simp) ?_;intro gg6 cap6 w6 hown6 hgrow6 hat6 hlt6;have mk6:=(hgrow6.cell_far ⟨g,3,none⟩ (by simp;omega) (far6 g (.inl rfl))).trans ((al6.1 _ _ (by omega)).trans ck6);have mf6:=(hgrow6.frozen_far ⟨g,3,none⟩ (by simp;omega) (far6 g (.inl rfl))).trans ((al6.2 _ _ (by omega)).trans fk6)))
   all_goals
    refine hK0 _ _ (Met.intro (hJ0 _ _ ?_));repeat apply Exists.intro
    refine⟨?rel,rfl⟩;case rel=>
     obtain⟨vs9,own9,P1,P2⟩:=(H5.out.bl (qE (qH (qB w5)) (.cells #[qP f1, .int .i64 n2, .bool n3] 122))).push1 (gg:=gg6) (cap:=cap6) (x:=⟨f1,n2,n3⟩) (by rw[hv0];exact hgrow6) hown6 (by rw[hv0];simpa using hat6);exact⟨_,_,P1,M5.out.trans ((yJ (qE (qH (qB w5)) _)).trans P2)⟩
  case rest=>
   obtain⟨vs1,own1,H8,M8⟩:=hcut;obtain⟨a1,k1,hv7⟩: ∃ a c,vs1 11= .slice a (qN s 1).length c:=H8.out.form (k:=11) (by omega);have hln:=hN.lens 1;obtain⟨i7,hi7,hz70,hz71,hz72⟩:=info_parts yD;have ck7:wc.cell? ⟨g,20,none⟩=some (.slice a1 (qN s 1).length k1):=by rw[<-hv7];exact H8.out.row (k:=11) (by omega)
   have fk7:=H8.out.free 20;have al7:=qG (qE (qH (qB wc)) (.cells #[.int .i64 n] 3));have far7:some g≠(Value.slice a1 (qN s 1).length k1).ownBlock:=fun e=>by rw[<-hv7]at e;exact H8.out.far (k:=11) (by omega) (.inr (.inr H8.out.lg)) e.symm
   have R7:Hid ((wc.drew).ownsRow B 3 1 (.slice a1 (qN s 1).length k1) (qN s 1).length ((qN s 1).flatMap qi)):=by have h:=(H8.out.bl (qH (qB wc))).parts.row 11 (by omega);unfold vO at h;rw[hv7]at h;exact h
   have hB7:B<=wc.heap.size:=by have h1:=(H8.out.parts.labm 0 (by omega)).2;have h2:=(H8.out.parts.maps 0 (by omega)).lt;omega
   have gl7:=H8.out.glt;go_wp2_with fail;go_region_law ((refine step_append_lies _ (by rfl) _ _ _ (by rfl) B 3 i7 _ 1 8 Tryz.underlying73 hi7 hz70 hz71 hz72 rfl (by omega) (.slice a1 (qN s 1).length k1) (qN s 1).length ((qN s 1).flatMap qi) (by rfl) (World.ownsRow.alloc R7.out _) ⟨wc.heap.size,0,none⟩ 1 1 [.int .i64 n] (by rfl) (by rfl) (World.news_of_block (cs:= #[.int .i64 n]) (heap_alloc_new wc.drew _)) (by simp[Value.oneCell']) (by omega) (by unfold maxLen;omega) (by omega) (by simp;omega) (wc.heap.size+1) (by simp) ?_;intro gg7 cap7 w7 hown7 hgrow7 hat7 hlt7;have mk7:=(hgrow7.cell_far ⟨g,20,none⟩ (by simp;omega) far7).trans ((al7.1 _ _ (by omega)).trans ck7);have mf7:=(hgrow7.frozen_far ⟨g,20,none⟩ (by simp;omega) far7).trans ((al7.2 _ _ (by omega)).trans fk7)))
   all_goals
    obtain⟨vs9,own9,P1,P2⟩:=(H8.out.bl (qE (qH (qB wc)) (.cells #[.int .i64 n] 3))).line' (k:=1) (gg:=gg7) (cap:=cap7) (n:=n) (s':=s') (by omega) (by rw[hv7];exact hgrow7) hown7 (by rw[hv7];simpa using hat7) (by rw[<-HS.out];rfl) (by rw[<-HS.out];rfl) (by rw[<-HS.out];rfl);go_wp2;go_end0;refine⟨rfl,_,_,_,_,by rw[<-HE.out];exact P1,fun j hj=>?_,M8.out.trans ((yJ (qE (qH (qB wc)) _)).trans P2)⟩;rw[<-HS.out];rcases j with _|_|_|_|j
    · rw[wQ _ (by omega)];exact hid 0 (by omega)
    · rw[VR,hid 1 (by omega)];show _=List.map _ (_++[_]);rw[List.map_append];rfl
    · rw[wQ _ (by omega)];exact hid 2 (by omega)
    · rw[wQ _ (by omega)];exact hid 3 (by omega)
    · omega
end Go.Proofs.YtakedkcjplfgeaaGreatDoor
namespace Go.Proofs.YtakedkcjplfgeaaGreatDoor
open Go.RowKit
open Frq Thr Tt Num Clk Dat Fld
attribute [local go_sem ↓] Go.wp_at_zero Go.wp_at_succ
section
variable {B g rb:Nat} {m e:Int} {vs:Nat->Value} {ts:List TripD} {mb own:Nat->Nat} {s:St} {ids:Nat->List (List UInt8)} {o:Bool} {l:List (List UInt8)} {w:World}
def O8 (s:St) (a b c n:Int) (o:Bool):St:=⟨{ s.t with fares:=⟨s.t.fares.prods,a,b,c⟩ },s.lines,n,o⟩
theorem D9 (s:St) (a b c n:Int) (o:Bool) (ts:List TripD): ∀ k,k<20->jf (O8 s a b c n o) ts k=jf s ts k:=fun k hk=>by
 rcases k with _|_|_|_|_|_|_|_|_|_|_|_|_|_|_|_|_|_|_|_|k
 all_goals first
  |rfl
  |omega
theorem kN.fares (h:kN B g rb m e vs ts mb own s ids o l w) (a b c n:Int) (o':Bool):
  kN B g rb m e vs ts mb own (O8 s a b c n o') ids o l ((((w.setCell ⟨g,12,none⟩ (.int .i64 a)).setCell ⟨g,13,none⟩ (.int .i64 b)).setCell ⟨g,14,none⟩ (.int .i64 c)).setCell ⟨g,29,none⟩ (.int .i64 n))/\Gr g w ((((w.setCell ⟨g,12,none⟩ (.int .i64 a)).setCell ⟨g,13,none⟩ (.int .i64 b)).setCell ⟨g,14,none⟩ (.int .i64 c)).setCell ⟨g,29,none⟩ (.int .i64 n)):=by
 have gs:=qJ (qJ (qJ (zH g w 12 (.int .i64 a)) (zH g _ 13 (.int .i64 b))) (zH g _ 14 (.int .i64 c))) (zH g _ 29 (.int .i64 n));obtain⟨u,q1,q2⟩:=h.rat.at';refine⟨⟨h.rat.turn gs ⟨u, ?_,q2⟩, ?_,h.lg,h.lrb,h.l1,h.l2⟩,gs⟩
 · exact qQ (qQ (qQ (qQ q1 12 (.int .i64 a)) 13 (.int .i64 b)) 14 (.int .i64 c)) 29 (.int .i64 n)
 · exact(h.parts.kept gs (fun b hb=>by simp only[qAA]at hb;rw[<-hb,h.lg];omega)).st rfl rfl (D9 s a b c n o' ts)
end
end Go.Proofs.YtakedkcjplfgeaaGreatDoor
