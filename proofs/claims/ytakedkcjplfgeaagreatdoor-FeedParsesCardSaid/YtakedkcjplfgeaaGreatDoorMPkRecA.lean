/- Contracts, proved. Conditions: theirs. -/
import Derived.Test.YtakedkcjplfgeaaGreatDoorMPkRdC
import Derived.Deep.DrawnRows
set_option maxRecDepth 1000000
set_option maxHeartbeats 32000000
open Go.Proofs.Tryz
namespace Go.Proofs.YtakedkcjplfgeaaGreatDoor
open Go.RowKit
open Frq Thr Tt Num Clk Dat Fld
attribute [local go_sem ↓] Go.wp_at_zero Go.wp_at_succ
theorem LP (B g rb N:Nat) (m:Int) (vs:Nat->Value) (ts:List TripD) (mb own:Nat->Nat) (s:St) (ids:Nat->List Ψ) (o:Bool) (f1 f2 f3 f4:Ψ) (n:Int) (s':St) (E:Int)
  (HF:Hid (qy s 0 [[115,116,111,112],f1,f2,f3,f4] n=(s',E))) (l1:f1.length<=131072) (l2:f2.length<=131072) (l4:f4.length<=131072) (hN:ww N s) (hN2:N<=1000000) (hid: ∀ j,j<4->ids j=yX s.t j) (w:World) (h:kN B g rb m 0 vs ts mb own s ids o [f1,f2,f3,f4] w):
  Calls prog 41 #[.pointer (some ⟨g,0,none⟩),qP [115,116,111,112], .int .i64 n] w λq w'=>q= .returned (.tuple #[])/\ ∃ vs' ts' own' ids',kN B g rb m E vs' ts' mb own' s' ids' o [] w'/\(∀ j,j<4->ids' j=yX s'.t j)/\Mv own w own' w':=by
 obtain⟨⟨n2,e2⟩,HP2⟩: ∃ p,Hid (kF f2=p):=⟨_,rfl⟩;obtain⟨⟨n3,e3⟩,HP3⟩: ∃ p,Hid (yI f3=p):=⟨_,rfl⟩;obtain⟨⟨n4,e4⟩,HP4⟩: ∃ p,Hid (kF f4=p):=⟨_,rfl⟩;have hF:qy s 0 [[115,116,111,112],f1,f2,f3,f4] n=(⟨{ s.t with stops:=s.t.stops++[⟨f1,(kF f2).1,(yI f3).1,(kF f4).1⟩] },jm s 0 n,s.rules,false⟩,zT [(kF f2).2,(yI f3).2,(kF f4).2]):=rfl;rw[HP2.o,HP3.o,HP4.o]at hF;have hq:=hF.symm.trans HF.o;simp only[qAF]at hq;obtain⟨hs1,hE1⟩:=hq;have HE:=qA (show(fe (fe (fe 0 e2) e3) e4)=E by rw[<-hE1];exact vY [e2,e3,e4]);have HS:=qA hs1;clear hF hE1 hs1 HF;have H:=qA h;have hR:=h.rat.bl (qH (qB w));have hg:=h.glt;have hrb:=h.rat.lt;obtain⟨hm1,hm2⟩:=h.rat.env.lt;clear h;go_enter func41,ntmps41
 go_wp2_with fail;go_cut [6] from 338 (λsv wx=> ∃ b:Nat,sv= .pointer (some ⟨b,0,none⟩)/\w.heap.size<=b/\Hid (wR g rb m (fe (fe (fe 0 e2) e3) e4) ⟨vs,s.t.fares,mb,s.rules,o⟩ [] wx)/\Hid (Gr g w wx)/\Hid (wx.heap[b]? =some (.cells #[qP f1, .int .i64 n2, .bool n3, .int .i64 n4] 120 (0,0))))
 case first=>
  rename_i J0 K0 hJ0 hK0;have G9:Gr g w w.drew:=jH (qH (qB w));go_region_held3 (λw'=>True) (exact trivial)
   (first
    |(go_at_call 107;(with_reducible refine(zy g rb m 0 ⟨vs,s.t.fares,mb,s.rules,o⟩ f1 [f2,f3,f4] _ (by first|with_reducible exact hR|with_reducible exact hR.bl (qE (qB _) _))).mono ?_);rintro y1 w1 ⟨rfl,r1,g1⟩;have g1x:Gr g w w1:=qJ (by first|with_reducible exact G9|with_reducible exact qJ G9 (jH (qE (qB _) _))) g1;(first|(have BK:=(qg g1 (lt_of_block BK) bkne).trans BK)|(have bkne:w.heap.size≠g:=by omega) ;(have BK:w1.heap[w.heap.size]? =some _:=(qg (b:=w.heap.size) g1 σ bkne).trans (heap_alloc_new w.drew _))|skip))
    |(go_at_call 108;(with_reducible refine(ZE g rb m 0 e2 (fe 0 e2) n2 ⟨vs,s.t.fares,mb,s.rules,o⟩ f2 [f3,f4] HP2 l2 (qA rfl) _ (by first|with_reducible exact r1|with_reducible exact r1.bl (qE (qB _) _))).mono ?_);rintro y2 w2 ⟨rfl,r2,g2⟩;have g2x:Gr g w w2:=qJ (by first|with_reducible exact g1x|with_reducible exact qJ g1x (jH (qE (qB _) _))) g2;(first|(have BK:=(qg g2 (lt_of_block BK) bkne).trans BK)|(have bkne:w1.heap.size≠g:=by(have:=r1.glt;omega)) ;(have BK:=(qg g2 σ bkne).trans (heap_alloc_new w1 _))|skip))
    |(go_at_call 109;(with_reducible refine(Kw g rb m (fe 0 e2) e3 (fe (fe 0 e2) e3) n3 ⟨vs,s.t.fares,mb,s.rules,o⟩ f3 [f4] HP3 (qA rfl) _ (by first|with_reducible exact r2|with_reducible exact r2.bl (qE (qB _) _))).mono ?_);rintro y3 w3 ⟨rfl,r3,g3⟩;have g3x:Gr g w w3:=qJ (by first|with_reducible exact g2x|with_reducible exact qJ g2x (jH (qE (qB _) _))) g3;(first|(have BK:=(qg g3 (lt_of_block BK) bkne).trans BK)|(have bkne:w2.heap.size≠g:=by(have:=r2.glt;omega)) ;(have BK:=(qg g3 σ bkne).trans (heap_alloc_new w2 _))|skip))
    |(go_at_call 108;(with_reducible refine(ZE g rb m (fe (fe 0 e2) e3) e4 (fe (fe (fe 0 e2) e3) e4) n4 ⟨vs,s.t.fares,mb,s.rules,o⟩ f4 [] HP4 l4 (qA rfl) _ (by first|with_reducible exact r3|with_reducible exact r3.bl (qE (qB _) _))).mono ?_);rintro y4 w4 ⟨rfl,r4,g4⟩;have g4x:Gr g w w4:=qJ (by first|with_reducible exact g3x|with_reducible exact qJ g3x (jH (qE (qB _) _))) g4;(first|(have BK:=(qg g4 (lt_of_block BK) bkne).trans BK)|(have bkne:w3.heap.size≠g:=by(have:=r3.glt;omega)) ;(have BK:=(qg g4 σ bkne).trans (heap_alloc_new w3 _))|skip);(first|((have q0:w4.cell? ⟨_,0,none⟩=some (.string ⟨#[]⟩):=qC BK 0 _ rfl);(have fr0:=U8 BK 0);(have q1:w4.cell? ⟨_,1,none⟩=some (.int .i64 0):=qC BK 1 _ rfl);(have fr1:=U8 BK 1);(have q2:w4.cell? ⟨_,2,none⟩=some (.bool false):=qC BK 2 _ rfl);(have fr2:=U8 BK 2);(have q3:w4.cell? ⟨_,3,none⟩=some (.int .i64 0):=qC BK 3 _ rfl);(have fr3:=U8 BK 3))|skip))
    |fail)
  all_goals
   have z1:=g1x.size;have z2:=g2x.size;have z3:=g3x.size;have z4:=g4x.size;refine hK0 _ _ (Met.intro (hJ0 _ _ ?_));repeat apply Exists.intro
   refine⟨?rel,rfl⟩;case rel=>
    first
     |(have Q:=Jd ω hg hrb hm1 hm2 [qP f1, .int .i64 n2, .bool n3, .int .i64 n4] 0 r4 g4x BK;exact⟨_,rfl,ω,Q.1,Q.2.1,Q.2.2⟩)
     |exact⟨_,rfl,ω,r4.bl (qE (qB _) _),qJ g4x (jH (qE (qB _) _)),heap_alloc_new _ _⟩
 case rest=>
  obtain⟨b,rfl,hwb,HR1,HG1,HB1⟩:=hcut;have H1:=qA (H.o.gr HR1.o HG1.o);have M1:=qA (QK HG1.o H.o.lg);have hb:=lt_of_block HB1.o;have hbg:b≠g:=ω
  obtain⟨a0,k0,hv0⟩: ∃ a c,vs 0= .slice a s.t.stops.length c:=H1.o.form (k:=0) ω;have hcnt:s.t.stops.length<=N:=hN.stops;have hids:(ids 0).length=s.t.stops.length:=by rw[hid 0 ω];show(s.t.stops.map (·.id)).length=_;rw[U4]
  have hnote: ∀ w,qx w (mb 0) (ids 0).length (ids 0)->Calls prog 110 #[.map (some (mb 0)),qP f1, .int .i64 (s.t.stops.length:Int)] w λq w'=>q= .returned (.tuple #[])/\qx w' (mb 0) ((ids 0).length+1) (ids 0++[f1])/\w.grownBy w' (some (mb 0)):=λw ho=>by rw[<-hids];exact Wi (mb 0) (ids 0).length f1 (ids 0) l1 ζ ω w ho
  have hmbg:mb 0≠g:=λe=>by have h1:=(H.o.parts.labm 0 ω).1;have h2:=H.o.lg;rw[e]at h1;omega
  have hmbl:mb 0<w.heap.size:=(H.o.parts.maps 0 ω).lt;have c15:wc.cell? ⟨g,15,none⟩=some (.map (some (mb 0))):=H1.o.mapc (j:=0) ω;have ck:wc.cell? ⟨g,2,none⟩=some (.slice a0 s.t.stops.length k0):=by rw[<-hv0];exact H1.o.row (k:=0) ω
  have cb0:wc.cell? ⟨b,0,none⟩=some (qP f1):=qC HB1.o 0 _ rfl;have hown:qx wc.drew (mb 0) (ids 0).length (ids 0):=(H1.o.parts.bl (qH (qB _))).maps 0 ω;go_wp2_with fail;go_region_held3 (λw'=>w'.cell? ⟨g,15,none⟩=some (.map (some (mb 0)))/\w'.cell? ⟨g,2,none⟩=some (.slice a0 s.t.stops.length k0)/\w'.cell? ⟨b,0,none⟩=some (qP f1))
   (first|exact⟨c15,ck,cb0⟩|exact⟨(g5.cell_far ⟨g,15,none⟩ H1.o.glt (by simp only[ne_eq,qAA];omega)).trans c15,(g5.cell_far ⟨g,2,none⟩ H1.o.glt (by simp only[ne_eq,qAA];omega)).trans ck,(g5.cell_far ⟨b,0,none⟩ hb (by simp only[ne_eq,qAA];omega)).trans cb0⟩)
   ((go_at_call 110;refine(hnote _ hown).mono ?_;rintro y5 w5 ⟨rfl,o5,g5⟩))
  have H5:=qA ((H1.o.bl (qH (qB wc))).noted (j:=0) (q:=ids 0++[f1]) ω g5 (by simpa using o5));have M5:=qA (M1.o.trans ((yJ (qH (qB wc))).trans (Mv.grown g5 (λb hb=>by simp only[qAA]at hb;have h1:=(H.o.parts.labm 0 ω).1;rw[<-hb,h1];omega))));have HB5:=qA (show w5.heap[b]? =_ from(qg g5 hb ω).trans HB1.o);have hb5:=lt_of_block HB5.o;clear H1 M1 HR1 HG1 HB1 ck cb0 hown hnote g5 o5 c15;have hv6:=hv0;obtain⟨i6,hi6,hz60,hz61,hz62⟩:=info_parts OV;have ck6:w5.cell? ⟨g,2,none⟩=some (.slice a0 s.t.stops.length k0):=by rw[<-hv6];exact H5.o.row (k:=0) ω
  have fk6:=H5.o.free 2;have xb0:w5.cell? ⟨b,0,none⟩=some (qP f1):=qC HB5.o 0 _ rfl;have xb1:w5.cell? ⟨b,1,none⟩=some (.int .i64 n2):=qC HB5.o 1 _ rfl;have xb2:w5.cell? ⟨b,2,none⟩=some (.bool n3):=qC HB5.o 2 _ rfl;have xb3:w5.cell? ⟨b,3,none⟩=some (.int .i64 n4):=qC HB5.o 3 _ rfl;have al6:=qG (qE (qH (qB w5)) (.cells #[qP f1, .int .i64 n2, .bool n3, .int .i64 n4] 120));have far6: ∀ x,x=g∨x=b->some x≠(Value.slice a0 s.t.stops.length k0).ownBlock:=λx hx e=>by rw[<-hv0]at e;rcases hx with hx|hx;exact H.o.far (k:=0) ω (.inr (.inr H.o.lg)) (by rw[<-e,hx]);(have h:=(qAG (H.o.parts.row 0 ω) x e.symm).2;omega)
  have R6:Hid ((w5.drew).ownsRow B 120 4 (.slice a0 s.t.stops.length k0) s.t.stops.length (s.t.stops.flatMap jY)):=by have h:=(H5.o.bl (qH (qB w5))).parts.row 0 ω;unfold vO at h;rw[hv6]at h;exact h
  have hB6:B<=w5.heap.size:=by have h1:=(H5.o.parts.labm 0 ω).2;have h2:=(H5.o.parts.maps 0 ω).lt;omega
  have gl6:=H5.o.glt;go_wp2_with fail;go_cut [6] from 338 (λ_ wx=> ∃ (vs1:Nat->Value) (own1:Nat->Nat),Hid (kN B g rb m (fe (fe (fe 0 e2) e3) e4) vs1 ts mb own1 (RH s ⟨f1,n2,n3,n4⟩) (rE ids 0 (ids 0++[f1])) o [] wx)/\Hid (Mv own w own1 wx))
  case first=>
   rename_i J0 K0 hJ0 hK0;go_region_law ((refine step_append_lies _ ρ _ _ _ ρ B 120 i6 _ 4 40 underlying23 hi6 hz60 hz61 hz62 rfl ω (.slice a0 s.t.stops.length k0) s.t.stops.length (s.t.stops.flatMap jY) ρ (World.ownsRow.alloc R6.o _) ⟨w5.heap.size,0,none⟩ 1 1 (jY ⟨f1,n2,n3,n4⟩) ρ ρ (World.news_of_block (cs:= #[qP f1, .int .i64 n2, .bool n3, .int .i64 n4]) (heap_alloc_new w5.drew _)) (by simp[jY,Value.oneCell']) ω ζ ω τ (w5.heap.size+1) σ ?_;intro gg6 cap6 w6 hown6 hgrow6 hat6 hlt6;have mk6:=(hgrow6.cell_far ⟨g,2,none⟩ τ (far6 g (.inl rfl))).trans ((al6.1 _ _ ω).trans ck6);have mf6:=(hgrow6.frozen_far ⟨g,2,none⟩ τ (far6 g (.inl rfl))).trans ((al6.2 _ _ ω).trans fk6)))
   all_goals
    refine hK0 _ _ (Met.intro (hJ0 _ _ ?_));repeat apply Exists.intro
    refine⟨?rel,rfl⟩;case rel=>
     obtain⟨vs9,own9,P1,P2⟩:=(H5.o.bl (qE (qH (qB w5)) (.cells #[qP f1, .int .i64 n2, .bool n3, .int .i64 n4] 120))).push0 (gg:=gg6) (cap:=cap6) (x:=⟨f1,n2,n3,n4⟩) (by rw[hv0];exact hgrow6) hown6 (by rw[hv0];simpa using hat6);exact⟨_,_,P1,M5.o.trans ((yJ (qE (qH (qB w5)) _)).trans P2)⟩
  case rest=>
   obtain⟨vs1,own1,H8,M8⟩:=hcut;obtain⟨a1,k1,hv7⟩: ∃ a c,vs1 10= .slice a (qN s 0).length c:=H8.o.form (k:=10) ω;have hln:=hN.lens 0;obtain⟨i7,hi7,hz70,hz71,hz72⟩:=info_parts yD;have ck7:wc.cell? ⟨g,19,none⟩=some (.slice a1 (qN s 0).length k1):=by rw[<-hv7];exact H8.o.row (k:=10) ω
   have fk7:=H8.o.free 19;have al7:=qG (qE (qH (qB wc)) (.cells #[.int .i64 n] 3));have far7:some g≠(Value.slice a1 (qN s 0).length k1).ownBlock:=λe=>by rw[<-hv7]at e;exact H8.o.far (k:=10) ω (.inr (.inr H8.o.lg)) e.symm
   have R7:Hid ((wc.drew).ownsRow B 3 1 (.slice a1 (qN s 0).length k1) (qN s 0).length ((qN s 0).flatMap qi)):=by have h:=(H8.o.bl (qH (qB wc))).parts.row 10 ω;unfold vO at h;rw[hv7]at h;exact h
   have hB7:B<=wc.heap.size:=by have h1:=(H8.o.parts.labm 0 ω).2;have h2:=(H8.o.parts.maps 0 ω).lt;omega
   have gl7:=H8.o.glt;go_wp2_with fail;go_region_law ((refine step_append_lies _ ρ _ _ _ ρ B 3 i7 _ 1 8 underlying73 hi7 hz70 hz71 hz72 rfl ω (.slice a1 (qN s 0).length k1) (qN s 0).length ((qN s 0).flatMap qi) ρ (World.ownsRow.alloc R7.o _) ⟨wc.heap.size,0,none⟩ 1 1 [.int .i64 n] ρ ρ (World.news_of_block (cs:= #[.int .i64 n]) (heap_alloc_new wc.drew _)) (by simp[Value.oneCell']) ω ζ ω τ (wc.heap.size+1) σ ?_;intro gg7 cap7 w7 hown7 hgrow7 hat7 hlt7;have mk7:=(hgrow7.cell_far ⟨g,19,none⟩ τ far7).trans ((al7.1 _ _ ω).trans ck7);have mf7:=(hgrow7.frozen_far ⟨g,19,none⟩ τ far7).trans ((al7.2 _ _ ω).trans fk7)))
   all_goals
    obtain⟨vs9,own9,P1,P2⟩:=(H8.o.bl (qE (qH (qB wc)) (.cells #[.int .i64 n] 3))).line' (k:=0) (gg:=gg7) (cap:=cap7) (n:=n) (s':=s') ω (by rw[hv7];exact hgrow7) hown7 (by rw[hv7];simpa using hat7) (by rw[<-HS.o];rfl) (by rw[<-HS.o];rfl) (by rw[<-HS.o];rfl);go_wp2;go_end0;refine⟨rfl,_,_,_,_,by rw[<-HE.o];exact P1,λj hj=>?_,M8.o.trans ((yJ (qE (qH (qB wc)) _)).trans P2)⟩;rw[<-HS.o];rcases j with _|_|_|_|j
    · rw[VR,hid 0 ω];show _=List.map _ (_++[_]);rw[List.map_append];rfl
    · rw[wQ _ ω];exact hid 1 ω
    · rw[wQ _ ω];exact hid 2 ω
    · rw[wQ _ ω];exact hid 3 ω
    · omega
end Go.Proofs.YtakedkcjplfgeaaGreatDoor
namespace Go.Proofs.YtakedkcjplfgeaaGreatDoor
open Go.RowKit
open Frq Thr Tt Num Clk Dat Fld
attribute [local go_sem ↓] Go.wp_at_zero Go.wp_at_succ
theorem LQ (B g rb N:Nat) (m:Int) (vs:Nat->Value) (ts:List TripD) (mb own:Nat->Nat) (s:St) (ids:Nat->List Ψ) (o:Bool) (f1 f2 f3:Ψ) (n:Int) (s':St) (E:Int)
  (HF:Hid (qy s 1 [[114,111,117,116,101],f1,f2,f3] n=(s',E))) (l1:f1.length<=131072) (hN:ww N s) (hN2:N<=1000000) (hid: ∀ j,j<4->ids j=yX s.t j) (w:World) (h:kN B g rb m 0 vs ts mb own s ids o [f1,f2,f3] w):
  Calls prog 41 #[.pointer (some ⟨g,0,none⟩),qP [114,111,117,116,101], .int .i64 n] w λq w'=>q= .returned (.tuple #[])/\ ∃ vs' ts' own' ids',kN B g rb m E vs' ts' mb own' s' ids' o [] w'/\(∀ j,j<4->ids' j=yX s'.t j)/\Mv own w own' w':=by
 obtain⟨⟨n2,e2⟩,HP2⟩: ∃ p,Hid (KL f2=p):=⟨_,rfl⟩;obtain⟨⟨n3,e3⟩,HP3⟩: ∃ p,Hid (yI f3=p):=⟨_,rfl⟩;have hF:qy s 1 [[114,111,117,116,101],f1,f2,f3] n=(⟨{ s.t with routes:=s.t.routes++[⟨f1,(KL f2).1,(yI f3).1⟩] },jm s 1 n,s.rules,false⟩,zT [(KL f2).2,(yI f3).2]):=rfl;rw[HP2.o,HP3.o]at hF;have hq:=hF.symm.trans HF.o;simp only[qAF]at hq;obtain⟨hs1,hE1⟩:=hq;have HE:=qA (show(fe (fe 0 e2) e3)=E by rw[<-hE1];exact vY [e2,e3]);have HS:=qA hs1;clear hF hE1 hs1 HF;have H:=qA h;have hR:=h.rat.bl (qH (qB w));have hg:=h.glt;have hrb:=h.rat.lt;obtain⟨hm1,hm2⟩:=h.rat.env.lt;clear h;go_enter func41,ntmps41
 go_wp2_with fail;go_cut [7] from 338 (λsv wx=> ∃ b:Nat,sv= .pointer (some ⟨b,0,none⟩)/\w.heap.size<=b/\Hid (wR g rb m (fe (fe 0 e2) e3) ⟨vs,s.t.fares,mb,s.rules,o⟩ [] wx)/\Hid (Gr g w wx)/\Hid (wx.heap[b]? =some (.cells #[qP f1, .int .i64 n2, .bool n3] 122 (0,0))))
 case first=>
  rename_i J0 K0 hJ0 hK0;have G9:Gr g w w.drew:=jH (qH (qB w));go_region_held3 (λw'=>True) (exact trivial)
   (first
    |(go_at_call 107;(with_reducible refine(zy g rb m 0 ⟨vs,s.t.fares,mb,s.rules,o⟩ f1 [f2,f3] _ (by first|with_reducible exact hR|with_reducible exact hR.bl (qE (qB _) _))).mono ?_);rintro y1 w1 ⟨rfl,r1,g1⟩;have g1x:Gr g w w1:=qJ (by first|with_reducible exact G9|with_reducible exact qJ G9 (jH (qE (qB _) _))) g1;(first|(have BK:=(qg g1 (lt_of_block BK) bkne).trans BK)|(have bkne:w.heap.size≠g:=by omega) ;(have BK:w1.heap[w.heap.size]? =some _:=(qg (b:=w.heap.size) g1 σ bkne).trans (heap_alloc_new w.drew _))|skip))
    |(go_at_call 111;(with_reducible refine(LC g rb m 0 e2 (fe 0 e2) n2 ⟨vs,s.t.fares,mb,s.rules,o⟩ f2 [f3] HP2 (qA rfl) _ (by first|with_reducible exact r1|with_reducible exact r1.bl (qE (qB _) _))).mono ?_);rintro y2 w2 ⟨rfl,r2,g2⟩;have g2x:Gr g w w2:=qJ (by first|with_reducible exact g1x|with_reducible exact qJ g1x (jH (qE (qB _) _))) g2;(first|(have BK:=(qg g2 (lt_of_block BK) bkne).trans BK)|(have bkne:w1.heap.size≠g:=by(have:=r1.glt;omega)) ;(have BK:=(qg g2 σ bkne).trans (heap_alloc_new w1 _))|skip))
    |(go_at_call 109;(with_reducible refine(Kw g rb m (fe 0 e2) e3 (fe (fe 0 e2) e3) n3 ⟨vs,s.t.fares,mb,s.rules,o⟩ f3 [] HP3 (qA rfl) _ (by first|with_reducible exact r2|with_reducible exact r2.bl (qE (qB _) _))).mono ?_);rintro y3 w3 ⟨rfl,r3,g3⟩;have g3x:Gr g w w3:=qJ (by first|with_reducible exact g2x|with_reducible exact qJ g2x (jH (qE (qB _) _))) g3;(first|(have BK:=(qg g3 (lt_of_block BK) bkne).trans BK)|(have bkne:w2.heap.size≠g:=by(have:=r2.glt;omega)) ;(have BK:=(qg g3 σ bkne).trans (heap_alloc_new w2 _))|skip);(first|((have q0:w3.cell? ⟨_,0,none⟩=some (.string ⟨#[]⟩):=qC BK 0 _ rfl);(have fr0:=U8 BK 0);(have q1:w3.cell? ⟨_,1,none⟩=some (.int .i64 0):=qC BK 1 _ rfl);(have fr1:=U8 BK 1);(have q2:w3.cell? ⟨_,2,none⟩=some (.bool false):=qC BK 2 _ rfl);(have fr2:=U8 BK 2))|skip))
    |fail)
  all_goals
   have z1:=g1x.size;have z2:=g2x.size;have z3:=g3x.size;refine hK0 _ _ (Met.intro (hJ0 _ _ ?_));repeat apply Exists.intro
   refine⟨?rel,rfl⟩;case rel=>
    first
     |(have Q:=Jd ω hg hrb hm1 hm2 [qP f1, .int .i64 n2, .bool n3] 0 r3 g3x BK;exact⟨_,rfl,ω,Q.1,Q.2.1,Q.2.2⟩)
     |exact⟨_,rfl,ω,r3.bl (qE (qB _) _),qJ g3x (jH (qE (qB _) _)),heap_alloc_new _ _⟩
 case rest=>
  obtain⟨b,rfl,hwb,HR1,HG1,HB1⟩:=hcut;have H1:=qA (H.o.gr HR1.o HG1.o);have M1:=qA (QK HG1.o H.o.lg);have hb:=lt_of_block HB1.o;have hbg:b≠g:=ω
  obtain⟨a0,k0,hv0⟩: ∃ a c,vs 1= .slice a s.t.routes.length c:=H1.o.form (k:=1) ω;have hcnt:s.t.routes.length<=N:=hN.routes;have hids:(ids 1).length=s.t.routes.length:=by rw[hid 1 ω];show(s.t.routes.map (·.id)).length=_;rw[U4]
  have hnote: ∀ w,qx w (mb 1) (ids 1).length (ids 1)->Calls prog 110 #[.map (some (mb 1)),qP f1, .int .i64 (s.t.routes.length:Int)] w λq w'=>q= .returned (.tuple #[])/\qx w' (mb 1) ((ids 1).length+1) (ids 1++[f1])/\w.grownBy w' (some (mb 1)):=λw ho=>by rw[<-hids];exact Wi (mb 1) (ids 1).length f1 (ids 1) l1 ζ ω w ho
  have hmbg:mb 1≠g:=λe=>by have h1:=(H.o.parts.labm 1 ω).1;have h2:=H.o.lg;rw[e]at h1;omega
  have hmbl:mb 1<w.heap.size:=(H.o.parts.maps 1 ω).lt;have c16:wc.cell? ⟨g,16,none⟩=some (.map (some (mb 1))):=H1.o.mapc (j:=1) ω;have ck:wc.cell? ⟨g,3,none⟩=some (.slice a0 s.t.routes.length k0):=by rw[<-hv0];exact H1.o.row (k:=1) ω
  have cb0:wc.cell? ⟨b,0,none⟩=some (qP f1):=qC HB1.o 0 _ rfl;have hown:qx wc.drew (mb 1) (ids 1).length (ids 1):=(H1.o.parts.bl (qH (qB _))).maps 1 ω;go_wp2_with fail;go_region_held3 (λw'=>w'.cell? ⟨g,16,none⟩=some (.map (some (mb 1)))/\w'.cell? ⟨g,3,none⟩=some (.slice a0 s.t.routes.length k0)/\w'.cell? ⟨b,0,none⟩=some (qP f1))
   (first|exact⟨c16,ck,cb0⟩|exact⟨(g5.cell_far ⟨g,16,none⟩ H1.o.glt (by simp only[ne_eq,qAA];omega)).trans c16,(g5.cell_far ⟨g,3,none⟩ H1.o.glt (by simp only[ne_eq,qAA];omega)).trans ck,(g5.cell_far ⟨b,0,none⟩ hb (by simp only[ne_eq,qAA];omega)).trans cb0⟩)
   ((go_at_call 110;refine(hnote _ hown).mono ?_;rintro y5 w5 ⟨rfl,o5,g5⟩))
  have H5:=qA ((H1.o.bl (qH (qB wc))).noted (j:=1) (q:=ids 1++[f1]) ω g5 (by simpa using o5));have M5:=qA (M1.o.trans ((yJ (qH (qB wc))).trans (Mv.grown g5 (λb hb=>by simp only[qAA]at hb;have h1:=(H.o.parts.labm 1 ω).1;rw[<-hb,h1];omega))));have HB5:=qA (show w5.heap[b]? =_ from(qg g5 hb ω).trans HB1.o);have hb5:=lt_of_block HB5.o;clear H1 M1 HR1 HG1 HB1 ck cb0 hown hnote g5 o5 c16;have hv6:=hv0;obtain⟨i6,hi6,hz60,hz61,hz62⟩:=info_parts OW;have ck6:w5.cell? ⟨g,3,none⟩=some (.slice a0 s.t.routes.length k0):=by rw[<-hv6];exact H5.o.row (k:=1) ω
  have fk6:=H5.o.free 3;have xb0:w5.cell? ⟨b,0,none⟩=some (qP f1):=qC HB5.o 0 _ rfl;have xb1:w5.cell? ⟨b,1,none⟩=some (.int .i64 n2):=qC HB5.o 1 _ rfl;have xb2:w5.cell? ⟨b,2,none⟩=some (.bool n3):=qC HB5.o 2 _ rfl;have al6:=qG (qE (qH (qB w5)) (.cells #[qP f1, .int .i64 n2, .bool n3] 122));have far6: ∀ x,x=g∨x=b->some x≠(Value.slice a0 s.t.routes.length k0).ownBlock:=λx hx e=>by rw[<-hv0]at e;rcases hx with hx|hx;exact H.o.far (k:=1) ω (.inr (.inr H.o.lg)) (by rw[<-e,hx]);(have h:=(qAG (H.o.parts.row 1 ω) x e.symm).2;omega)
  have R6:Hid ((w5.drew).ownsRow B 122 3 (.slice a0 s.t.routes.length k0) s.t.routes.length (s.t.routes.flatMap jP)):=by have h:=(H5.o.bl (qH (qB w5))).parts.row 1 ω;unfold vO at h;rw[hv6]at h;exact h
  have hB6:B<=w5.heap.size:=by have h1:=(H5.o.parts.labm 0 ω).2;have h2:=(H5.o.parts.maps 0 ω).lt;omega
  have gl6:=H5.o.glt;go_wp2_with fail;go_cut [7] from 338 (λ_ wx=> ∃ (vs1:Nat->Value) (own1:Nat->Nat),Hid (kN B g rb m (fe (fe 0 e2) e3) vs1 ts mb own1 (RI s ⟨f1,n2,n3⟩) (rE ids 1 (ids 1++[f1])) o [] wx)/\Hid (Mv own w own1 wx))
  case first=>
   rename_i J0 K0 hJ0 hK0;go_region_law ((refine step_append_lies _ ρ _ _ _ ρ B 122 i6 _ 3 32 underlying24 hi6 hz60 hz61 hz62 rfl ω (.slice a0 s.t.routes.length k0) s.t.routes.length (s.t.routes.flatMap jP) ρ (World.ownsRow.alloc R6.o _) ⟨w5.heap.size,0,none⟩ 1 1 (jP ⟨f1,n2,n3⟩) ρ ρ (World.news_of_block (cs:= #[qP f1, .int .i64 n2, .bool n3]) (heap_alloc_new w5.drew _)) (by simp[jP,Value.oneCell']) ω ζ ω τ (w5.heap.size+1) σ ?_;intro gg6 cap6 w6 hown6 hgrow6 hat6 hlt6;have mk6:=(hgrow6.cell_far ⟨g,3,none⟩ τ (far6 g (.inl rfl))).trans ((al6.1 _ _ ω).trans ck6);have mf6:=(hgrow6.frozen_far ⟨g,3,none⟩ τ (far6 g (.inl rfl))).trans ((al6.2 _ _ ω).trans fk6)))
   all_goals
    refine hK0 _ _ (Met.intro (hJ0 _ _ ?_));repeat apply Exists.intro
    refine⟨?rel,rfl⟩;case rel=>
     obtain⟨vs9,own9,P1,P2⟩:=(H5.o.bl (qE (qH (qB w5)) (.cells #[qP f1, .int .i64 n2, .bool n3] 122))).push1 (gg:=gg6) (cap:=cap6) (x:=⟨f1,n2,n3⟩) (by rw[hv0];exact hgrow6) hown6 (by rw[hv0];simpa using hat6);exact⟨_,_,P1,M5.o.trans ((yJ (qE (qH (qB w5)) _)).trans P2)⟩
  case rest=>
   obtain⟨vs1,own1,H8,M8⟩:=hcut;obtain⟨a1,k1,hv7⟩: ∃ a c,vs1 11= .slice a (qN s 1).length c:=H8.o.form (k:=11) ω;have hln:=hN.lens 1;obtain⟨i7,hi7,hz70,hz71,hz72⟩:=info_parts yD;have ck7:wc.cell? ⟨g,20,none⟩=some (.slice a1 (qN s 1).length k1):=by rw[<-hv7];exact H8.o.row (k:=11) ω
   have fk7:=H8.o.free 20;have al7:=qG (qE (qH (qB wc)) (.cells #[.int .i64 n] 3));have far7:some g≠(Value.slice a1 (qN s 1).length k1).ownBlock:=λe=>by rw[<-hv7]at e;exact H8.o.far (k:=11) ω (.inr (.inr H8.o.lg)) e.symm
   have R7:Hid ((wc.drew).ownsRow B 3 1 (.slice a1 (qN s 1).length k1) (qN s 1).length ((qN s 1).flatMap qi)):=by have h:=(H8.o.bl (qH (qB wc))).parts.row 11 ω;unfold vO at h;rw[hv7]at h;exact h
   have hB7:B<=wc.heap.size:=by have h1:=(H8.o.parts.labm 0 ω).2;have h2:=(H8.o.parts.maps 0 ω).lt;omega
   have gl7:=H8.o.glt;go_wp2_with fail;go_region_law ((refine step_append_lies _ ρ _ _ _ ρ B 3 i7 _ 1 8 underlying73 hi7 hz70 hz71 hz72 rfl ω (.slice a1 (qN s 1).length k1) (qN s 1).length ((qN s 1).flatMap qi) ρ (World.ownsRow.alloc R7.o _) ⟨wc.heap.size,0,none⟩ 1 1 [.int .i64 n] ρ ρ (World.news_of_block (cs:= #[.int .i64 n]) (heap_alloc_new wc.drew _)) (by simp[Value.oneCell']) ω ζ ω τ (wc.heap.size+1) σ ?_;intro gg7 cap7 w7 hown7 hgrow7 hat7 hlt7;have mk7:=(hgrow7.cell_far ⟨g,20,none⟩ τ far7).trans ((al7.1 _ _ ω).trans ck7);have mf7:=(hgrow7.frozen_far ⟨g,20,none⟩ τ far7).trans ((al7.2 _ _ ω).trans fk7)))
   all_goals
    obtain⟨vs9,own9,P1,P2⟩:=(H8.o.bl (qE (qH (qB wc)) (.cells #[.int .i64 n] 3))).line' (k:=1) (gg:=gg7) (cap:=cap7) (n:=n) (s':=s') ω (by rw[hv7];exact hgrow7) hown7 (by rw[hv7];simpa using hat7) (by rw[<-HS.o];rfl) (by rw[<-HS.o];rfl) (by rw[<-HS.o];rfl);go_wp2;go_end0;refine⟨rfl,_,_,_,_,by rw[<-HE.o];exact P1,λj hj=>?_,M8.o.trans ((yJ (qE (qH (qB wc)) _)).trans P2)⟩;rw[<-HS.o];rcases j with _|_|_|_|j
    · rw[wQ _ ω];exact hid 0 ω
    · rw[VR,hid 1 ω];show _=List.map _ (_++[_]);rw[List.map_append];rfl
    · rw[wQ _ ω];exact hid 2 ω
    · rw[wQ _ ω];exact hid 3 ω
    · omega
end Go.Proofs.YtakedkcjplfgeaaGreatDoor
namespace Go.Proofs.YtakedkcjplfgeaaGreatDoor
open Go.RowKit
open Frq Thr Tt Num Clk Dat Fld
attribute [local go_sem ↓] Go.wp_at_zero Go.wp_at_succ
section
variable {B g rb:Nat} {m e:Int} {vs:Nat->Value} {ts:List TripD} {mb own:Nat->Nat} {s:St} {ids:Nat->List (List UInt8)} {o:Bool} {l:List (List UInt8)} {w:World}
theorem wR.fare {X:PX} (h:wR g rb m e X l w):(w.cell? (g,12)=some (X.f.disc:Z)/\w.cell? (g,13)=some (X.f.within:Z)/\w.cell? (g,14)=some (X.f.cap:Z)/\w.cell? (g,29)=some (X.rules:Z))/\ ∀ k,w.frozen? ⟨g,k,none⟩=false:=by
 obtain⟨u,h1,-⟩:=h.at';exact⟨⟨qC h1 12 _ rfl,qC h1 13 _ rfl,qC h1 14 _ rfl,qC h1 29 _ rfl⟩,λk=>U8 h1 k⟩
theorem kN.fares (h:kN B g rb m e vs ts mb own s ids o l w) (a b c n:Int) (o':Bool):
  kN B g rb m e vs ts mb own (O8 s a b c n o') ids o l ((((w.setCell (g,12) (a:Z)).setCell (g,13) (b:Z)).setCell (g,14) (c:Z)).setCell (g,29) (n:Z))/\Gr g w ((((w.setCell (g,12) (a:Z)).setCell (g,13) (b:Z)).setCell (g,14) (c:Z)).setCell (g,29) (n:Z)):=by
 have gs:=qJ (qJ (qJ (zH g w 12 (a:Z)) (zH g _ 13 (b:Z))) (zH g _ 14 (c:Z))) (zH g _ 29 (n:Z));obtain⟨u,q1,q2⟩:=h.rat.at';refine⟨⟨h.rat.turn gs ⟨u, ?_,q2⟩, ?_,h.lg,h.lrb,h.l1,h.l2⟩,gs⟩
 · exact qQ (qQ (qQ (qQ q1 12 (a:Z)) 13 (b:Z)) 14 (c:Z)) 29 (n:Z)
 exact(h.parts.kept gs (λb hb=>by simp only[qAA]at hb;rw[<-hb,h.lg];omega)).st rfl rfl (D9 s a b c n o' ts)
end
theorem Fg (B g rb:Nat) (m:Int) (vs:Nat->Value) (ts:List TripD) (mb own:Nat->Nat) (s:St) (ids:Nat->List Ψ) (o:Bool) (f1 f2 f3:Ψ) (n:Int) (s':St) (E:Int)
  (HF:Hid (qy s 11 [[102,97,114,101,115],f1,f2,f3] n=(s',E))) (l1:f1.length<=131072) (l2:f2.length<=131072) (l3:f3.length<=131072) (hid: ∀ j,j<4->ids j=yX s.t j) (w:World) (h:kN B g rb m 0 vs ts mb own s ids o [f1,f2,f3] w):
  Calls prog 118 #[(g,0),qP [102,97,114,101,115],n] w λq w'=>q=.returned (.tuple #[])/\ ∃ vs' ts' own' ids',kN B g rb m E vs' ts' mb own' s' ids' o [] w'/\(∀ j,j<4->ids' j=yX s'.t j)/\Mv own w own' w':=by
 obtain⟨⟨n1,e1⟩,HP1⟩: ∃ p,Hid (jr f1=p):=⟨_,rfl⟩;obtain⟨⟨n2,e2⟩,HP2⟩: ∃ p,Hid (wE f2=p):=⟨_,rfl⟩;obtain⟨⟨n3,e3⟩,HP3⟩: ∃ p,Hid (jr f3=p):=⟨_,rfl⟩;have hF:qy s 11 [[102,97,114,101,115],f1,f2,f3] n=(O8 s (jr f1).1 (wE f2).1 (jr f3).1 n false,zT [(jr f1).2,(wE f2).2,(jr f3).2]):=rfl;rw[HP1.o,HP2.o,HP3.o]at hF;have hq:=hF.symm.trans HF.o;simp only[qAF]at hq;obtain⟨hs1,hE1⟩:=hq;have HE:=qA (show(fe (fe (fe 0 e1) e2) e3)=E by rw[<-hE1];exact vY [e1,e2,e3]);have HS:=qA hs1;clear hF hE1 hs1 HF;have H:=qA h;have hR:=h.rat.bl (qH (qB w));clear h;go_enter func118,ntmps118
 go_wp2_with fail;go_region_held3 (λw'=>True) (exact trivial)
  (first
   |(go_at_call 191;(with_reducible refine(Y4 g rb m 0 e1 (fe 0 e1) n1 ⟨vs,s.t.fares,mb,s.rules,o⟩ f1 [f2,f3] HP1 l1 (qA rfl) _ hR).mono ?_);rintro y1 w1 ⟨rfl,r1,g1⟩)
   |(go_at_call 190;(with_reducible refine(YW g rb m (fe 0 e1) e2 (fe (fe 0 e1) e2) n2 ⟨vs,s.t.fares,mb,s.rules,o⟩ f2 [f3] HP2 l2 (qA rfl) _ r1).mono ?_);rintro y2 w2 ⟨rfl,r2,g2⟩)
   |(go_at_call 191;(with_reducible refine(Y4 g rb m (fe (fe 0 e1) e2) e3 (fe (fe (fe 0 e1) e2) e3) n3 ⟨vs,s.t.fares,mb,s.rules,o⟩ f3 [] HP3 l3 (qA rfl) _ r2).mono ?_);rintro y3 w3 ⟨rfl,r3,g3⟩;obtain⟨⟨q12,q13,q14,q29⟩,qf⟩:=r3.fare;have qf12:=qf 12;have qf13:=qf 13;have qf14:=qf 14;have qf29:=qf 29)
   |fail)
 all_goals
  go_wp2;go_end0;have P:=(H.o.gr r3 (qJ (qJ (qJ (jH (qH (qB w))) g1) g2) g3)).fares n1 n2 n3 n false;refine⟨rfl,vs,ts,own,ids, ?_,λj hj=>by rw[<-HS.o];exact hid j hj,QK (qJ (qJ (qJ (qJ (jH (qH (qB w))) g1) g2) g3) P.2) H.o.lg⟩;rw[<-HS.o,<-HE.o];exact P.1
