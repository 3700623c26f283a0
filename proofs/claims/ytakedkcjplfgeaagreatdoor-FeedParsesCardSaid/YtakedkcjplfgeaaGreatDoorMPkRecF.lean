/- Contracts, proved. Conditions: theirs. -/
import Derived.Test.YtakedkcjplfgeaaGreatDoorMPkRdC
import Derived.Deep.DrawnRows
set_option maxRecDepth 1000000
set_option maxHeartbeats 32000000
open Go.Proofs.Tryz
namespace Go.Proofs.YtakedkcjplfgeaaGreatDoor
open Go.RowKit
open Frq Thr Tt Num Clk Dat Fld
attribute [local go_sem ↓] Go.wp_at_zero Go.wp_at_succ
theorem LK (B g rb N:Nat) (m:Int) (vs:Nat->Value) (ts:List TripD) (mb own:Nat->Nat) (s:St) (ids:Nat->List Ψ) (o:Bool) (f1 f2 f3 f4 f5 f6:Ψ) (n:Int) (s':St) (E:Int)
  (HF:Hid (qy s 9 [[112,114,111,100,117,99,116],f1,f2,f3,f4,f5,f6] n=(s',E))) (l2:f2.length<=131072) (l3:f3.length<=131072) (l4:f4.length<=131072) (l5:f5.length<=131072) (l6:f6.length<=131072) (hN:ww N s) (hN2:N<=1000000) (hid: ∀ j,j<4->ids j=yX s.t j) (w:World) (h:kN B g rb m 0 vs ts mb own s ids o [f1,f2,f3,f4,f5,f6] w):
  Calls prog 118 #[.pointer (some ⟨g,0,none⟩),qP [112,114,111,100,117,99,116], .int .i64 n] w λq w'=>q= .returned (.tuple #[])/\ ∃ vs' ts' own' ids',kN B g rb m E vs' ts' mb own' s' ids' o [] w'/\(∀ j,j<4->ids' j=yX s'.t j)/\Mv own w own' w':=by
 obtain⟨⟨n2,e2⟩,HP2⟩: ∃ p,Hid (jr f2=p):=⟨_,rfl⟩;obtain⟨⟨n3,e3⟩,HP3⟩: ∃ p,Hid (kF f3=p):=⟨_,rfl⟩;obtain⟨⟨n4,e4⟩,HP4⟩: ∃ p,Hid (kF f4=p):=⟨_,rfl⟩;obtain⟨⟨n5,e5⟩,HP5⟩: ∃ p,Hid (wE f5=p):=⟨_,rfl⟩;obtain⟨⟨n6,e6⟩,HP6⟩: ∃ p,Hid (QR f6=p):=⟨_,rfl⟩;have hF:qy s 9 [[112,114,111,100,117,99,116],f1,f2,f3,f4,f5,f6] n=(⟨{ s.t with fares:={ s.t.fares with prods:=s.t.fares.prods++[⟨f1,(jr f2).1,(kF f3).1,(kF f4).1,(wE f5).1,(QR f6).1⟩] } },jm s 9 n,s.rules,false⟩,zT [(jr f2).2,(kF f3).2,(kF f4).2,(wE f5).2,(QR f6).2]):=rfl;rw[HP2.o,HP3.o,HP4.o,HP5.o,HP6.o]at hF;have hq:=hF.symm.trans HF.o;simp only[qAF]at hq;obtain⟨hs1,hE1⟩:=hq;have HE:=qA (show(fe (fe (fe (fe (fe 0 e2) e3) e4) e5) e6)=E by rw[<-hE1];exact vY [e2,e3,e4,e5,e6]);have HS:=qA hs1;clear hF hE1 hs1 HF;have H:=qA h;have hR:=h.rat.bl (qH (qB w));have hg:=h.glt;have hrb:=h.rat.lt;obtain⟨hm1,hm2⟩:=h.rat.env.lt;have hmb: ∀ j,j<4->mb j≠g:=λj hj e=>by have h1:=(h.parts.labm j hj).1;have h2:=h.lg;rw[e]at h1;omega
 have hmo: ∀ j (hj:j<4),qx w (mb j) (ids j).length (ids j):=λj hj=>h.parts.maps j hj
 obtain⟨a0,k0,hv0⟩: ∃ a c,vs 9= .slice a s.t.fares.prods.length c:=h.form (k:=9) ω;have hcnt:s.t.fares.prods.length<=N:=hN.prods;have hln:=hN.lens 9;obtain⟨i6,hi6,hz60,hz61,hz62⟩:=info_parts Og;have R0:Hid (w.ownsRow B 65 6 (.slice a0 s.t.fares.prods.length k0) s.t.fares.prods.length (s.t.fares.prods.flatMap zu)):=by have h1:=h.parts.row 9 ω;unfold vO at h1;rw[hv0]at h1;exact h1
 have hB6:B<=w.heap.size:=by have h1:=(h.parts.labm 0 ω).2;have h2:=(h.parts.maps 0 ω).lt;omega
 have far6:some g≠(Value.slice a0 s.t.fares.prods.length k0).ownBlock:=λe=>by rw[<-hv0]at e;exact h.far (k:=9) ω (.inr (.inr h.lg)) e.symm
 have hrow: ∀ {e l w},wR g rb m e ⟨vs,s.t.fares,mb,s.rules,o⟩ l w->w.cell? ⟨g,11,none⟩=some (.slice a0 s.t.fares.prods.length k0):=λh=>by rw[<-hv0];exact h.rowc (k:=9) ω
 have G9:Gr g w w.drew:=jH (qH (qB w));have ck0:=hrow hR;clear h;go_enter func118,ntmps118
 go_wp2_with fail;refine qAP (λw'=>w'.cell? ⟨g,11,none⟩=some (.slice a0 s.t.fares.prods.length k0)) 38 (hrow hR) (λhHeld=>?_);refine SG 0 ?_;refine SG 1 ?_;refine SG 2 ?_;refine SG 3 ?_;refine SG 4 ?_;refine SG 5 ?_;refine SG 6 ?_;refine SG 7 ?_;refine SG 8 ?_;refine SG 9 ?_;refine SG 11 ?_;refine SG 12 ?_;refine SG 13 ?_;refine SG 15 ?_;refine SG 16 ?_;refine SG 17 ?_;refine SG 19 ?_;refine SG 20 ?_;refine SG 21 ?_;refine SG 23 ?_;refine SG 24 ?_;refine SG 25 ?_;refine SG 27 ?_;refine SG 28 ?_;refine SG 29 ?_;refine qAI 10 (λKK hKK=>?_);go_simp;go_at_call 107
 refine(zy g rb m 0 ⟨vs,s.t.fares,mb,s.rules,o⟩ f1 [f2,f3,f4,f5,f6] _ hR).mono ?_;rintro y1 w1 ⟨rfl,r1,g1⟩;have g1x:Gr g w w1:=qJ G9 g1;refine hKK.o _ _ (hrow r1) (λhHeld=>?_);refine qAI 14 (λKK hKK=>?_);go_simp;go_at_call 191
 refine(Y4 g rb m 0 e2 (fe 0 e2) n2 ⟨vs,s.t.fares,mb,s.rules,o⟩ f2 [f3,f4,f5,f6] HP2 l2 (qA rfl) _ r1).mono ?_;rintro y2 w2 ⟨rfl,r2,g2⟩;have g2x:Gr g w w2:=qJ g1x g2;refine hKK.o _ _ (hrow r2) (λhHeld=>?_);refine qAI 18 (λKK hKK=>?_);go_simp;go_at_call 108
 refine(ZE g rb m (fe 0 e2) e3 (fe (fe 0 e2) e3) n3 ⟨vs,s.t.fares,mb,s.rules,o⟩ f3 [f4,f5,f6] HP3 l3 (qA rfl) _ r2).mono ?_;rintro y3 w3 ⟨rfl,r3,g3⟩;have g3x:Gr g w w3:=qJ g2x g3;refine hKK.o _ _ (hrow r3) (λhHeld=>?_);refine qAI 22 (λKK hKK=>?_);go_simp;go_at_call 108
 refine(ZE g rb m (fe (fe 0 e2) e3) e4 (fe (fe (fe 0 e2) e3) e4) n4 ⟨vs,s.t.fares,mb,s.rules,o⟩ f4 [f5,f6] HP4 l4 (qA rfl) _ r3).mono ?_;rintro y4 w4 ⟨rfl,r4,g4⟩;have g4x:Gr g w w4:=qJ g3x g4;refine hKK.o _ _ (hrow r4) (λhHeld=>?_);refine qAI 26 (λKK hKK=>?_);go_simp;go_at_call 190
 refine(YW g rb m (fe (fe (fe 0 e2) e3) e4) e5 (fe (fe (fe (fe 0 e2) e3) e4) e5) n5 ⟨vs,s.t.fares,mb,s.rules,o⟩ f5 [f6] HP5 l5 (qA rfl) _ r4).mono ?_;rintro y5 w5 ⟨rfl,r5,g5⟩;have g5x:Gr g w w5:=qJ g4x g5;refine hKK.o _ _ (hrow r5) (λhHeld=>?_);refine qAI 30 (λKK hKK=>?_);go_simp;go_at_call 192
 refine(mQ g rb m (fe (fe (fe (fe 0 e2) e3) e4) e5) e6 (fe (fe (fe (fe (fe 0 e2) e3) e4) e5) e6) n6 ⟨vs,s.t.fares,mb,s.rules,o⟩ f6 [] HP6 l6 (qA rfl) _ r5).mono ?_;rintro y6 w6 ⟨rfl,r6,g6⟩;have g6x:Gr g w w6:=qJ g5x g6;refine hKK.o _ _ (hrow r6) (λhHeld=>?_);refine SG 31 ?_;refine qAI 32 (λKK hKK=>?_);go_simp;have ba:=qE (qB w6) (.cells #[qP f1, .int .i64 n2, .int .i64 n3, .int .i64 n4, .int .i64 n5, .int .i64 n6] 65);refine hKK.o _ _ (hrow (r6.bl ba)) (λhHeld=>?_);refine qAI 33 (λKK hKK=>?_);have OD:(w6.alloc (.cells #[qP f1, .int .i64 n2, .int .i64 n3, .int .i64 n4, .int .i64 n5, .int .i64 n6] 65)).ownsRow B 65 6 (.slice a0 s.t.fares.prods.length k0) s.t.fares.prods.length (s.t.fares.prods.flatMap zu):=by have h1:=((H.o.gr r6 g6x).bl ba).parts.row 9 ω;unfold vO at h1;rw[hv0]at h1;exact h1
 have zn:=g6x.size;refine step_append_lies _ ρ _ _ _ ρ B 65 i6 _ 6 56 underlying32 hi6 hz60 hz61 hz62 rfl ω (.slice a0 s.t.fares.prods.length k0) s.t.fares.prods.length (s.t.fares.prods.flatMap zu) ρ OD ⟨w6.heap.size,0,none⟩ 1 1 (zu ⟨f1,n2,n3,n4,n5,n6⟩) ρ ρ (World.news_of_block (cs:= #[qP f1, .int .i64 n2, .int .i64 n3, .int .i64 n4, .int .i64 n5, .int .i64 n6]) (heap_alloc_new w6 _)) (by simp[zu,Value.oneCell']) ω ζ ω τ (w6.heap.size+1) σ ?_;intro gg6 cap6 w9 hown6 hgrow6 hat6 hlt6;obtain⟨vs1,own1,P1,P2⟩:=((H.o.gr r6 g6x).bl ba).push9 (gg:=gg6) (cap:=cap6) (x:=⟨f1,n2,n3,n4,n5,n6⟩) (by rw[hv0];exact hgrow6) hown6 (by rw[hv0];simpa using hat6);have mf:=(hgrow6.frozen_far ⟨g,11,none⟩ τ far6).trans (((H.o.gr r6 g6x).bl ba).free 11);refine hKK.o _ _ ((hgrow6.cell_far ⟨g,11,none⟩ τ far6).trans (hrow (r6.bl ba))) (λhHeld=>?_);refine qAJ 34 ?_;refine qAJ 35 ?_;refine qAJ 36 ?_;refine qAJ 37 ?_;refine qAQ (λKK hKK=>?_);go_simp;refine hKK.o _ _ ?_;have H8:=qA P1;have M8:=qA ((QK g6x H.o.lg).trans ((yJ ba).trans P2));generalize w9.setCell ⟨g,11,none⟩ (.slice (some ⟨gg6,0,none⟩) (s.t.fares.prods.length+1) cap6)=wc at H8 M8 ⊢
 clear P1 P2 hHeld hown6 hgrow6 hat6 hlt6 mf far6 OD zn ba hrow;obtain⟨a1,k1,hv7⟩: ∃ a c,vs1 19= .slice a (qN s 9).length c:=H8.o.form (k:=19) ω;obtain⟨i7,hi7,hz70,hz71,hz72⟩:=info_parts yD;have ck7:wc.cell? ⟨g,28,none⟩=some (.slice a1 (qN s 9).length k1):=by rw[<-hv7];exact H8.o.row (k:=19) ω
 have fk7:=H8.o.free 28;have al7:=qG (qE (qH (qB wc)) (.cells #[.int .i64 n] 3));have far7:some g≠(Value.slice a1 (qN s 9).length k1).ownBlock:=λe=>by rw[<-hv7]at e;exact H8.o.far (k:=19) ω (.inr (.inr H8.o.lg)) e.symm
 have R7:Hid ((wc.drew).ownsRow B 3 1 (.slice a1 (qN s 9).length k1) (qN s 9).length ((qN s 9).flatMap qi)):=by have h:=(H8.o.bl (qH (qB wc))).parts.row 19 ω;unfold vO at h;rw[hv7]at h;exact h
 have hB7:B<=wc.heap.size:=by have h1:=(H8.o.parts.labm 0 ω).2;have h2:=(H8.o.parts.maps 0 ω).lt;omega
 have gl7:=H8.o.glt;go_wp2_with fail;go_region_law ((refine step_append_lies _ ρ _ _ _ ρ B 3 i7 _ 1 8 underlying73 hi7 hz70 hz71 hz72 rfl ω (.slice a1 (qN s 9).length k1) (qN s 9).length ((qN s 9).flatMap qi) ρ (World.ownsRow.alloc R7.o _) ⟨wc.heap.size,0,none⟩ 1 1 [.int .i64 n] ρ ρ (World.news_of_block (cs:= #[.int .i64 n]) (heap_alloc_new wc.drew _)) (by simp[Value.oneCell']) ω ζ ω τ (wc.heap.size+1) σ ?_;intro gg7 cap7 w7 hown7 hgrow7 hat7 hlt7;have mk7:=(hgrow7.cell_far ⟨g,28,none⟩ τ far7).trans ((al7.1 _ _ ω).trans ck7);have mf7:=(hgrow7.frozen_far ⟨g,28,none⟩ τ far7).trans ((al7.2 _ _ ω).trans fk7)))
 all_goals
  obtain⟨vs9,own9,P1,P2⟩:=(H8.o.bl (qE (qH (qB wc)) (.cells #[.int .i64 n] 3))).line' (k:=9) (gg:=gg7) (cap:=cap7) (n:=n) (s':=s') ω (by rw[hv7];exact hgrow7) hown7 (by rw[hv7];simpa using hat7) (by rw[<-HS.o];rfl) (by rw[<-HS.o];rfl) (by rw[<-HS.o];rfl);go_wp2;go_end0;exact⟨rfl,_,_,_,_,by rw[<-HE.o];exact P1,λj hj=>by rw[<-HS.o];exact hid j hj,M8.o.trans ((yJ (qE (qH (qB wc)) _)).trans P2)⟩
end Go.Proofs.YtakedkcjplfgeaaGreatDoor
namespace Go.Proofs.YtakedkcjplfgeaaGreatDoor
open Go.RowKit
open Frq Thr Tt Num Clk Dat Fld
attribute [local go_sem ↓] Go.wp_at_zero Go.wp_at_succ
theorem lL (l:List TripX) (c:CallD):(kH l c).map (·.id)=l.map (·.id):=by
 unfold kH;split
 ·
  rename_i y hy;have hne:l≠[]:=λe=>by rw[e]at hy;cases hy
  have h2:y=l.getLast hne:=by rw[List.getLast?_eq_some_getLast hne]at hy;exact(qAB hy).symm
  have e:l.dropLast++[y]=l:=by rw[h2];exact List.dropLast_concat_getLast hne
  have e2:(l.dropLast++[y]).map (·.id)=l.map (·.id):=by rw[e]
  rw[List.map_append]at e2 ⊢;exact e2
 rfl
theorem tH (t:TtD) (c:CallD) {j:Nat} (hj:j<4):yX { t with trips:=kH t.trips c } j=yX t j:=by
 rcases j with _|_|_|_|j
 · rfl
 · rfl
 · rfl
 · exact lL t.trips c
 omega
section
variable {B g rb:Nat} {m e:Int} {vs:Nat->Value} {mb own:Nat->Nat} {s:St} {ids:Nat->List (List UInt8)} {o:Bool} {l:List (List UInt8)} {w w1:World} {pre:List TripD} {x:TripD}
theorem kN.call (h:kN B g rb m e vs (pre++[x]) mb own s ids o l w) {c:CallD} {v':Value} {gg cap gb cap4:Nat} {s':St} (hv4:vs 4=((gb,0,pre.length+1,cap4):Z)) (hg:w.grownBy w1 x.v.ownBlock) (ho:lI B v' (x.calls++[c]) w1)
  (hv:v'=((gg,0,x.calls.length+1,cap):Z)) (hgg:x.v.ownBlock=some gg∨gg=w.heap.size) (hc:Ik c) (hs:s'.t={ s.t with trips:=kH s.t.trips c }) (hl:s'.lines=s.lines) (hr:s'.rules=s.rules):
  kN B g rb m e vs (pre++[{ x with v:=v',calls:=x.calls++[c] }]) mb (wO own gg (100+pre.length)) s' ids o l (w1.setCell (gb,pre.length*5+4) v')/\Mv own w (wO own gg (100+pre.length)) (w1.setCell (gb,pre.length*5+4) v'):=by
 have hx0:(pre++[x])[pre.length]? =some x:=σ
 have hlx: ∀ b,x.v.ownBlock=some b->own b=100+pre.length:=h.parts.labc _ x hx0;have hl4:own gb=4:=h.parts.lab 4 ω gb (by rw[hv4];rfl);have hgb:gb<w.heap.size:=(qAG (h.parts.row 4 ω) gb (by rw[hv4];rfl)).2;have hlab: ∀ b,b<w.heap.size->wO own gg (100+pre.length) b=own b:=λb hb=>vw hgg hlx hb
 have p:=h.parts.call (s':=s') (by rw[hv4,U1];rfl) hg ho hv hgg hc (by rw[hs];show kH s.t.trips c=_;rw[h.parts.same];exact EW) hl (λi hi hne=>by
  rcases i with _|_|_|_|_|_|_|_|_|_|_|_|_|_|_|_|_|_|_|_|i
  all_goals first
   |exact absurd rfl hne
   |(unfold jf qN;rw[hs,hl];rfl)
   |(unfold jf qN;rw[hl])
   |(unfold jf;rw[hs])
   |omega)
 have far: ∀ b,own b=97∨own b=98∨own b=99->x.v.ownBlock≠some b:=λb hb e=>by have:=hlx b e;omega
 have ne4: ∀ b,own b=97∨own b=98∨own b=99->gb≠b:=λb hb e=>by rw[e]at hl4;omega
 have r1:=h.rat.row hg (far g (.inr (.inr h.lg))) (far rb (.inr (.inl h.lrb))) (far _ (.inl h.l1)) (far _ (.inl h.l2));have r2:=r1.far (p:=((gb,pre.length*5+4):A)) v' (ne4 g (.inr (.inr h.lg))) (ne4 rb (.inr (.inl h.lrb))) (ne4 _ (.inl h.l1)) (ne4 _ (.inl h.l2));refine⟨⟨?_,p,(hlab g h.glt).trans h.lg,(hlab rb h.rat.lt).trans h.lrb,(hlab _ h.rat.env.lt.1).trans h.l1,(hlab _ h.rat.env.lt.2).trans h.l2⟩, ?_⟩
 ·
  rw[hs,hr];exact r2
 refine⟨hg.os,hg.tape,hg.output,by simpa using hg.size,hlab,λb hb hk=>?_⟩;exact(Below.heap_setCell _ _ _ b (Ne.symm (ne4 b ω))).trans (hg.block b hb (λe2=>far b ω e2.symm))
end
theorem Fh (B g rb N:Nat) (m:Int) (vs:Nat->Value) (pre:List TripD) (x:TripD) (mb own:Nat->Nat) (s:St) (ids:Nat->List Ψ) (o:Bool) (f1 f2 f3 f4:Ψ) (n:Int) (s':St) (E:Int)
  (HF:Hid (qy s 10 [[99,97,108,108],f1,f2,f3,f4] n=(s',E))) (l1:f1.length<=131072) (hN:ww N s) (hN2:N<=1000000) (hid: ∀ j,j<4->ids j=yX s.t j) (w:World) (h:kN B g rb m 0 vs (pre++[x]) mb own s ids o [f1,f2,f3,f4] w):
  Calls prog 41 #[.pointer (some ⟨g,0,none⟩),qP [99,97,108,108], .int .i64 n] w λq w'=>q= .returned (.tuple #[])/\ ∃ vs' ts' own' ids',kN B g rb m E vs' ts' mb own' s' ids' o [] w'/\(∀ j,j<4->ids' j=yX s'.t j)/\Mv own w own' w':=by
 obtain⟨⟨n1,e1⟩,HP1⟩: ∃ p,Hid (zW (s.t.stops.map (·.id)) f1=p):=⟨_,rfl⟩;obtain⟨⟨n2,e2⟩,HP2⟩: ∃ p,Hid (jw f2=p):=⟨_,rfl⟩;obtain⟨⟨n3,e3⟩,HP3⟩: ∃ p,Hid (jw f3=p):=⟨_,rfl⟩;obtain⟨⟨⟨p1,p2⟩,e4⟩,HP4⟩: ∃ p,Hid (Zp f4=p):=⟨_,rfl⟩;have hF:qy s 10 [[99,97,108,108],f1,f2,f3,f4] n=(⟨{ s.t with trips:=kH s.t.trips ⟨(zW (s.t.stops.map (·.id)) f1).1,(jw f2).1,(jw f3).1,(Zp f4).1.1,(Zp f4).1.2⟩ },s.lines,s.rules,true⟩,zT [(zW (s.t.stops.map (·.id)) f1).2,(jw f2).2,(jw f3).2,(Zp f4).2]):=rfl;rw[HP1.o,HP2.o,HP3.o,HP4.o]at hF;have hq:=hF.symm.trans HF.o;simp only[qAF]at hq;obtain⟨hs1,hE1⟩:=hq;have HE:=qA (show(fe (fe (fe (fe 0 e1) e2) e3) e4)=E by rw[<-hE1];exact vY [e1,e2,e3,e4]);have HS:=qA hs1;clear hF hE1 hs1 HF;have hokc:Ik ⟨n1,n2,n3,p1,p2⟩:=⟨by have:=fD f2;rw[HP2.o]at this;exact this,by have:=fD f3;rw[HP3.o]at this;exact this⟩;have HOK:=qA hokc;clear hokc;have H:=qA h;have hR:=h.rat.bl (qH (qB w));have hg:=h.glt;have hrb:=h.rat.lt;obtain⟨hm1,hm2⟩:=h.rat.env.lt;have hmb: ∀ j,j<4->mb j≠g:=λj hj e=>by have h1:=(h.parts.labm j hj).1;have h2:=h.lg;rw[e]at h1;omega
 have hms: ∀ j,j<4->some (mb j)≠some g:=λj hj e=>hmb j hj (qAB e)
 have hx1:Hid (zW (ids 0) f1=(n1,e1)):=by rw[hid 0 ω];exact HP1
 have hmo: ∀ j (hj:j<4),qx w (mb j) (ids j).length (ids j):=λj hj=>h.parts.maps j hj
 have c15:w.cell? ⟨g,15,none⟩=some (.map (some (mb 0))):=h.mapc (j:=0) ω;have hxl:x.calls.length<=N:=by
  have:=hN.calls (xOf x) (by rw[h.parts.same];simp);exact this
 have hx0:(pre++[x])[pre.length]? =some x:=σ
 obtain⟨a5,k5,hv5⟩: ∃ a c,x.v= .slice a x.calls.length c:=by
  rcases(h.parts.calls pre.length x hx0).2 with⟨h1,h0⟩|⟨gg,cap,cur,h1,_⟩
  · exact⟨_,_,by rw[h1,h0]⟩
  · exact⟨_,_,h1⟩
 obtain⟨gb,k4,hv4,hr4⟩: ∃ gb c,vs 4= .slice (some ⟨gb,0,none⟩) (pre.length+1) c/\w.ownsRow B 56 5 (.slice (some ⟨gb,0,none⟩) (pre.length+1) c) (pre++[x]).length ((pre++[x]).flatMap tripCells):=by
  have hr:=h.parts.row 4 ω;unfold vO at hr;have hl:(pre++[x]).length=pre.length+1:=by rw[U1];rfl
  rcases hr.2 with⟨h1,h0⟩|⟨gg,cap,cur,h1,_⟩
  · exact absurd (h0.symm.trans hl) ω
  ·
   refine⟨gg,cap,h1.trans (by show Value.slice _ (pre++[x]).length _=_;rw[hl]), ?_⟩;have h2:vs 4= .slice (some ⟨gg,0,none⟩) (pre.length+1) cap:=h1.trans (by show Value.slice _ (pre++[x]).length _=_;rw[hl]);rw[h2]at hr;exact hr
 have HR4:=qA hr4;clear hr4;have hpl:pre.length+1<=N:=by
  have:=hN.trips;rw[h.parts.same]at this;simpa using this
 clear h;go_enter func41,ntmps41
 go_wp2_with fail;go_cut [10] from 338 (λsv wx=> ∃ b:Nat,sv= .pointer (some ⟨b,0,none⟩)/\w.heap.size<=b/\Hid (wR g rb m (fe (fe (fe 0 e1) e2) e3) ⟨vs,s.t.fares,mb,s.rules,o⟩ [f4] wx)/\Hid (Gr g w wx)/\Hid (wx.heap[b]? =some (.cells #[.int .i64 n1, .int .i64 n2, .int .i64 n3, .bool false, .bool false] 58 (0,0))))
 case first=>
  rename_i J0 K0 hJ0 hK0;have G9:Gr g w w.drew:=jH (qH (qB w));refine wp_region_held_drew (S:=(λw'=>w'.cell? ⟨g,15,none⟩=some (.map (some (mb 0))))) κ (hR.mapc (j:=0) ω) (λhHeld=>?_);refine qI 0 ?_;refine qI 1 ?_;refine qI 2 ?_;refine qI 3 ?_;refine qI 4 ?_;refine qI 5 ?_;refine qI 6 ?_;refine qI 8 ?_;refine qI 9 ?_;refine qI 10 ?_;refine qI 12 ?_;refine qI 13 ?_;refine qI 14 ?_;have mN0:=True.intro;all_goals first
   |(
     clear mN0;refine wpAnyH_ready (rs:=[7,17]) κ σ ?_;refine(AllReadyH.cons rfl (λKK hKK=>?_) (AllReadyH.cons rfl (λKK hKK=>?_) AllReadyH.nil));go_simp;go_at_call 114
     refine(kX g rb (mb 0) (ids 0).length m 0 e1 (fe 0 e1) n1 ⟨vs,s.t.fares,mb,s.rules,o⟩ f1 [f2,f3,f4] (ids 0) hx1 l1 (qA rfl) (hmb 0 ω) _ hR ((hmo 0 ω).grown G9 (hms 0 ω))).mono ?_;rintro y1 w1 ⟨rfl,r1,g1⟩;have g1x:Gr g w w1:=qJ G9 g1;refine hKK.o _ _ ((r1).mapc (j:=0) ω) (λhHeld=>?_);have mN1:=True.intro;rotate_left;go_simp;refine hKK.o _ _ ((hR.bl (qE (qB w.drew) (.cells #[.int .i64 0, .int .i64 0, .int .i64 0, .bool false, .bool false] 58))).mapc (j:=0) ω) (λhHeld=>?_);have rA:=hR.bl (qE (qB w.drew) (.cells #[.int .i64 0, .int .i64 0, .int .i64 0, .bool false, .bool false] 58));have gA:=qJ G9 (jH (qE (qB w.drew) (.cells #[.int .i64 0, .int .i64 0, .int .i64 0, .bool false, .bool false] 58)));have BK:(w.drew.alloc (.cells #[.int .i64 0, .int .i64 0, .int .i64 0, .bool false, .bool false] 58)).heap[w.heap.size]? =some (.cells #[.int .i64 0, .int .i64 0, .int .i64 0, .bool false, .bool false] 58 (0,0)):=heap_alloc_new w.drew _;have bkne:w.heap.size≠g:=by have:=hR.glt;omega
     generalize hbk:w.heap.size=bk at BK bkne ⊢
     have hwbk:w.heap.size<=bk:=Nat.le_of_eq hbk;clear hbk;rw[World.alloc_drew]at rA gA BK;generalize (w.alloc (.cells #[.int .i64 0, .int .i64 0, .int .i64 0, .bool false, .bool false] 58)).drew=wA at rA gA BK hHeld ⊢
     have mA0:=True.intro)
   |skip
  all_goals first
   |(
     clear mN1;refine wpAnyH_ready (rs:=[11,17]) κ σ ?_;refine(AllReadyH.cons rfl (λKK hKK=>?_) (AllReadyH.cons rfl (λKK hKK=>?_) AllReadyH.nil));go_simp;go_at_call 116
     refine(Zl g rb m (fe 0 e1) e2 (fe (fe 0 e1) e2) n2 ⟨vs,s.t.fares,mb,s.rules,o⟩ f2 [f3,f4] HP2 (qA rfl) _ r1).mono ?_;rintro y2 w2 ⟨rfl,r2,g2⟩;have g2x:Gr g w w2:=qJ g1x g2;refine hKK.o _ _ ((r2).mapc (j:=0) ω) (λhHeld=>?_);have mN2:=True.intro;rotate_left;go_simp;refine hKK.o _ _ ((r1.bl (qE (qB w1) (.cells #[.int .i64 0, .int .i64 0, .int .i64 0, .bool false, .bool false] 58))).mapc (j:=0) ω) (λhHeld=>?_);have rA:=r1.bl (qE (qB w1) (.cells #[.int .i64 0, .int .i64 0, .int .i64 0, .bool false, .bool false] 58));have gA:=qJ g1x (jH (qE (qB w1) (.cells #[.int .i64 0, .int .i64 0, .int .i64 0, .bool false, .bool false] 58)));have BK:(w1.alloc (.cells #[.int .i64 0, .int .i64 0, .int .i64 0, .bool false, .bool false] 58)).heap[w1.heap.size]? =some (.cells #[.int .i64 0, .int .i64 0, .int .i64 0, .bool false, .bool false] 58 (0,0)):=heap_alloc_new w1 _;have bkne:w1.heap.size≠g:=by have:=r1.glt;have:=g1x.size;omega
     have hwbk:w.heap.size<=w1.heap.size:=g1x.size;generalize w1.heap.size=bk at BK bkne hwbk ⊢
     generalize w1.alloc (.cells #[.int .i64 0, .int .i64 0, .int .i64 0, .bool false, .bool false] 58)=wA at rA gA BK hHeld ⊢
     have mA1:=True.intro)
   |skip
  all_goals first
   |(
     clear mN2;refine wpAnyH_ready (rs:=[15,17]) κ σ ?_;refine(AllReadyH.cons rfl (λKK hKK=>?_) (AllReadyH.cons rfl (λKK hKK=>?_) AllReadyH.nil));go_simp;go_at_call 116
     refine(Zl g rb m (fe (fe 0 e1) e2) e3 (fe (fe (fe 0 e1) e2) e3) n3 ⟨vs,s.t.fares,mb,s.rules,o⟩ f3 [f4] HP3 (qA rfl) _ r2).mono ?_;rintro y3 w3 ⟨rfl,r3,g3⟩;have g3x:Gr g w w3:=qJ g2x g3;refine hKK.o _ _ ((r3).mapc (j:=0) ω) (λhHeld=>?_);refine qI 16 ?_;have mN3:=True.intro;rotate_left;go_simp;refine hKK.o _ _ ((r2.bl (qE (qB w2) (.cells #[.int .i64 0, .int .i64 0, .int .i64 0, .bool false, .bool false] 58))).mapc (j:=0) ω) (λhHeld=>?_);have rA:=r2.bl (qE (qB w2) (.cells #[.int .i64 0, .int .i64 0, .int .i64 0, .bool false, .bool false] 58));have gA:=qJ g2x (jH (qE (qB w2) (.cells #[.int .i64 0, .int .i64 0, .int .i64 0, .bool false, .bool false] 58)));have BK:(w2.alloc (.cells #[.int .i64 0, .int .i64 0, .int .i64 0, .bool false, .bool false] 58)).heap[w2.heap.size]? =some (.cells #[.int .i64 0, .int .i64 0, .int .i64 0, .bool false, .bool false] 58 (0,0)):=heap_alloc_new w2 _;have bkne:w2.heap.size≠g:=by have:=r2.glt;have:=g2x.size;omega
     have hwbk:w.heap.size<=w2.heap.size:=g2x.size;generalize w2.heap.size=bk at BK bkne hwbk ⊢
     generalize w2.alloc (.cells #[.int .i64 0, .int .i64 0, .int .i64 0, .bool false, .bool false] 58)=wA at rA gA BK hHeld ⊢
     have mA2:=True.intro)
   |skip
  all_goals first
   |(
     clear mN3;refine wpAnyH_ready (rs:=[17]) κ σ ?_;refine(AllReadyH.cons rfl (λKK hKK=>?_) AllReadyH.nil);go_simp;refine hKK.o _ _ ((r3.bl (qE (qB w3) (.cells #[.int .i64 0, .int .i64 0, .int .i64 0, .bool false, .bool false] 58))).mapc (j:=0) ω) (λhHeld=>?_);have rA:=r3.bl (qE (qB w3) (.cells #[.int .i64 0, .int .i64 0, .int .i64 0, .bool false, .bool false] 58));have gA:=qJ g3x (jH (qE (qB w3) (.cells #[.int .i64 0, .int .i64 0, .int .i64 0, .bool false, .bool false] 58)));have BK:(w3.alloc (.cells #[.int .i64 0, .int .i64 0, .int .i64 0, .bool false, .bool false] 58)).heap[w3.heap.size]? =some (.cells #[.int .i64 0, .int .i64 0, .int .i64 0, .bool false, .bool false] 58 (0,0)):=heap_alloc_new w3 _;have bkne:w3.heap.size≠g:=by have:=r3.glt;have:=g3x.size;omega
     have hwbk:w.heap.size<=w3.heap.size:=g3x.size;generalize w3.heap.size=bk at BK bkne hwbk ⊢
     generalize w3.alloc (.cells #[.int .i64 0, .int .i64 0, .int .i64 0, .bool false, .bool false] 58)=wA at rA gA BK hHeld ⊢
     have mA3:=True.intro)
   |skip
  all_goals first
   |(
     clear mA0;refine wpAnyH_ready (rs:=[7]) κ σ ?_;refine(AllReadyH.cons rfl (λKK hKK=>?_) AllReadyH.nil);go_simp;go_at_call 114
     refine(kX g rb (mb 0) (ids 0).length m 0 e1 (fe 0 e1) n1 ⟨vs,s.t.fares,mb,s.rules,o⟩ f1 [f2,f3,f4] (ids 0) hx1 l1 (qA rfl) (hmb 0 ω) _ rA ((hmo 0 ω).grown gA (hms 0 ω))).mono ?_;rintro y1 w1 ⟨rfl,r1,g1⟩;have gA:Gr g w w1:=qJ gA g1;have BK:=(qg g1 (lt_of_block BK) bkne).trans BK;have rA:=r1;refine hKK.o _ _ ((rA).mapc (j:=0) ω) (λhHeld=>?_);have mA1:=True.intro)
   |skip
  all_goals first
   |(
     clear mA1;refine wpAnyH_ready (rs:=[11]) κ σ ?_;refine(AllReadyH.cons rfl (λKK hKK=>?_) AllReadyH.nil);go_simp;go_at_call 116
     refine(Zl g rb m (fe 0 e1) e2 (fe (fe 0 e1) e2) n2 ⟨vs,s.t.fares,mb,s.rules,o⟩ f2 [f3,f4] HP2 (qA rfl) _ rA).mono ?_;rintro y2 w2 ⟨rfl,r2,g2⟩;have gA:Gr g w w2:=qJ gA g2;have BK:=(qg g2 (lt_of_block BK) bkne).trans BK;have rA:=r2;refine hKK.o _ _ ((rA).mapc (j:=0) ω) (λhHeld=>?_);have mA2:=True.intro)
   |skip
  all_goals first
   |(
     clear mA2;refine wpAnyH_ready (rs:=[15]) κ σ ?_;refine(AllReadyH.cons rfl (λKK hKK=>?_) AllReadyH.nil);go_simp;go_at_call 116
     refine(Zl g rb m (fe (fe 0 e1) e2) e3 (fe (fe (fe 0 e1) e2) e3) n3 ⟨vs,s.t.fares,mb,s.rules,o⟩ f3 [f4] HP3 (qA rfl) _ rA).mono ?_;rintro y3 w3 ⟨rfl,r3,g3⟩;have gA:Gr g w w3:=qJ gA g3;have BK:=(qg g3 (lt_of_block BK) bkne).trans BK;have rA:=r3;refine hKK.o _ _ ((rA).mapc (j:=0) ω) (λhHeld=>?_);refine qI 16 ?_;have mA3:=True.intro)
   |skip
  all_goals
   clear mA3;have Q:=Jd (b:=bk) hwbk hg hrb hm1 hm2 [.int .i64 n1, .int .i64 n2, .int .i64 n3, .bool false, .bool false] 0 rA gA BK;have HQ:=qA Q;clear Q;have q0:=qC BK 0 (.int .i64 0) rfl;have fr0:=U8 BK 0;have q1:=qC BK 1 (.int .i64 0) rfl;have fr1:=U8 BK 1;have q2:=qC BK 2 (.int .i64 0) rfl;have fr2:=U8 BK 2;have q3:=qC BK 3 (.bool false) rfl;have fr3:=U8 BK 3;have q4:=qC BK 4 (.bool false) rfl;have fr4:=U8 BK 4;refine wpAnyH_ready (rs:=[18]) κ σ ?_;refine(AllReadyH.cons rfl (λKK hKK=>?_) AllReadyH.nil);go_simp;refine hKK.o _ _ (HQ.o.1.mapc (j:=0) ω) (λhHeld=>?_);refine wpAnyH_done κ ?_ _;refine hK0 _ _ (Met.intro (hJ0 _ _ ?_));repeat apply Exists.intro
   refine⟨?rel,rfl⟩;case rel=>exact⟨_,rfl,hwbk,HQ.o.1,HQ.o.2.1,HQ.o.2.2⟩
 case rest=>
  obtain⟨b,rfl,hwb,HR1,HG1,HB1⟩:=hcut;have hbg:b≠g:=ω
  have hb:=lt_of_block HB1.o;go_wp2_with (go_at_call 117;refine(LM g rb m (fe (fe (fe 0 e1) e2) e3) e4 (fe (fe (fe (fe 0 e1) e2) e3) e4) p1 p2 ⟨vs,s.t.fares,mb,s.rules,o⟩ f4 [] HP4 (qA rfl) _ HR1.o).mono ?_)
  rintro y4 w4 ⟨rfl,r4,g4⟩;have HB4:=qA ((qg g4 hb hbg).trans HB1.o);have q3:w4.cell? ⟨b,3,none⟩=some (.bool false):=qC HB4.o 3 _ rfl;have q4:w4.cell? ⟨b,4,none⟩=some (.bool false):=qC HB4.o 4 _ rfl;have fr3:=U8 HB4.o 3;have fr4:=U8 HB4.o 4;have Q:=Jd hwb hg hrb hm1 hm2 [.bool p1, .bool p2] 3 r4 (qJ HG1.o g4) HB4.o;have H5:=qA (H.o.gr Q.1 Q.2.1);have G5:=qA Q.2.1;have HB5:Hid (((w4.setCell ⟨b,3,none⟩ (.bool p1)).setCell ⟨b,4,none⟩ (.bool p2)).heap[b]? =some (.cells #[.int .i64 n1, .int .i64 n2, .int .i64 n3, .bool p1, .bool p2] 58 (0,0))):=Q.2.2;change Hid (kN B g rb m (fe (fe (fe (fe 0 e1) e2) e3) e4) vs (pre++[x]) mb own s ids o [] ((w4.setCell ⟨b,3,none⟩ (.bool p1)).setCell ⟨b,4,none⟩ (.bool p2)))at H5;change Hid (Gr g w ((w4.setCell ⟨b,3,none⟩ (.bool p1)).setCell ⟨b,4,none⟩ (.bool p2)))at G5;clear Q r4 g4 HB1 HR1 HG1;go_wp2_with fail;have hb4:=lt_of_block HB4.o;generalize ((w4.setCell ⟨b,3,none⟩ (.bool p1)).setCell ⟨b,4,none⟩ (.bool p2))=w5 at H5 G5 HB5 ⊢
  clear HB4 hb4 q3 q4 fr3 fr4;have c6:w5.cell? ⟨g,6,none⟩=some (.slice (some ⟨gb,0,none⟩) (pre.length+1) k4):=by rw[<-hv4];exact H5.o.row (k:=4) ω
  have wl:IntKind.i64.wrap (((pre.length+1:Nat):Int)-1)=(pre.length:Int):=by rw[IntWalk.i64_in _ ω];omega
  have wl0:IntKind.i64.wrap (pre.length:Int)=(pre.length:Int):=IntWalk.i64_in _ ω;have wl1:IntKind.i64.wrap ((pre.length:Int)+1-1)=(pre.length:Int):=by rw[IntWalk.i64_in _ ω];omega
  have i0:(0:Int)<=(pre.length:Int):=ω
  have i1:(pre.length:Int)<(pre.length:Int)+1:=ω
  have i2:(pre.length:Int)<((pre.length+1:Nat):Int):=ω
  go_region_held3 (λw'=>w'.cell? ⟨g,6,none⟩=some (.slice (some ⟨gb,0,none⟩) (pre.length+1) k4))
   (exact c6)
   (fail)
  have H6:=qA (H5.o.bl (qH (qB w5)));have G6:=qA (qJ G5.o (jH (qH (qB w5))));have HB6:=qA (qX HB5.o (qH (qB w5)));clear H5 G5 HB5 c6;generalize w5.drew=w6 at H6 G6 HB6 ⊢
  have hb6:=lt_of_block HB6.o;have gl6:=H6.o.glt;have cx:w6.cell? ⟨gb,pre.length*5+4,none⟩=some (.slice a5 x.calls.length k5):=by
   have SL:jA tripCells 5 w6.heap.size w6 (.slice (some ⟨gb,0,none⟩) (pre.length+1) k4) (pre++[x]):=by rw[<-hv4];exact zq QZ (H6.o.parts.row 4 ω)
   obtain⟨bl',ol,y,hv',hbs,hy,hc⟩:=SL.get (k:=pre.length) σ (qB _) (U3 _);rw[hx0]at hy;obtain rfl:=qAB hy;simp only[qAA,Addr.mk.injEq]at hv';have h4:=hc 4 _ rfl;rw[<-hv'.1,<-hv'.2.1,Nat.zero_add,hv5]at h4;exact h4
  have fx: ∀ k,w6.frozen? ⟨gb,k,none⟩=false:=λk=>by
   rcases(H6.o.parts.row 4 ω).2 with⟨h1,h0⟩|⟨gg,cap,cur,h1,_,hk,_⟩
   ·
    rw[hv4]at h1;cases h1
   ·
    rw[hv4]at h1;simp only[Value.slice.injEq,qAA,Addr.mk.injEq]at h1;rw[h1.1.1];exact U8 hk k
  have fx6:=fx (pre.length*5+4);have gbl:gb<w6.heap.size:=(qAG (H6.o.parts.row 4 ω) gb (by rw[hv4];rfl)).2;have xb0:w6.cell? ⟨b,0,none⟩=some (.int .i64 n1):=qC HB6.o 0 _ rfl;have xb1:w6.cell? ⟨b,1,none⟩=some (.int .i64 n2):=qC HB6.o 1 _ rfl;have xb2:w6.cell? ⟨b,2,none⟩=some (.int .i64 n3):=qC HB6.o 2 _ rfl;have xb3:w6.cell? ⟨b,3,none⟩=some (.bool p1):=qC HB6.o 3 _ rfl;have xb4:w6.cell? ⟨b,4,none⟩=some (.bool p2):=qC HB6.o 4 _ rfl;obtain⟨i7,hi7,hz70,hz71,hz72⟩:=info_parts La;have R7:Hid ((w6.drew).ownsRow B 58 5 (.slice a5 x.calls.length k5) x.calls.length (x.calls.flatMap callCells)):=by have h:=(H6.o.bl (qH (qB w6))).parts.calls pre.length x hx0;unfold lI at h;rw[hv5]at h;exact h
  have hB7:B<=w6.heap.size:=by have h1:=(H6.o.parts.labm 0 ω).2;have h2:=(H6.o.parts.maps 0 ω).lt;omega
  have al7:=qG (qE (qH (qB w6)) (.cells #[.int .i64 n1, .int .i64 n2, .int .i64 n3, .bool p1, .bool p2] 58));have far7:some gb≠(Value.slice a5 x.calls.length k5).ownBlock:=λe=>by
   rw[<-hv5]at e;have h1:=H6.o.parts.labc pre.length x hx0 gb e.symm;have h2:=H6.o.parts.lab 4 ω gb (by rw[hv4];rfl);omega
  go_wp2_with fail;go_region_law ((refine step_append_lies _ ρ _ _ _ ρ B 58 i7 _ 5 32 underlying54 hi7 hz70 hz71 hz72 rfl ω (.slice a5 x.calls.length k5) x.calls.length (x.calls.flatMap callCells) ρ (World.ownsRow.alloc R7.o _) ⟨w6.heap.size,0,none⟩ 1 1 (callCells ⟨n1,n2,n3,p1,p2⟩) ρ ρ (World.news_of_block (cs:= #[.int .i64 n1, .int .i64 n2, .int .i64 n3, .bool p1, .bool p2]) (heap_alloc_new w6.drew _)) (by simp[callCells,Value.oneCell']) ω ζ ω τ (w6.heap.size+1) σ ?_;intro gg7 cap7 w7 hown7 hgrow7 hat7 hlt7;have mk7:=(hgrow7.cell_far ⟨gb,pre.length*5+4,none⟩ τ far7).trans ((al7.1 _ _ ω).trans cx);have mf7:=(hgrow7.frozen_far ⟨gb,pre.length*5+4,none⟩ τ far7).trans ((al7.2 _ _ ω).trans fx6)))
  all_goals
   obtain⟨P1,P2⟩:=(H6.o.bl (qE (qH (qB w6)) (.cells #[.int .i64 n1, .int .i64 n2, .int .i64 n3, .bool p1, .bool p2] 58))).call (c:=⟨n1,n2,n3,p1,p2⟩) (s':=s') (gg:=gg7) (cap:=cap7) (cap4:=k4) hv4 (by rw[hv5];exact hgrow7) (show lI B (.slice (some ⟨gg7,0,none⟩) (x.calls.length+1) cap7) _ _ by unfold lI;rw[U1,List.flatMap_append];exact hown7) rfl (by rw[hv5];simpa using hat7) HOK.o (by rw[<-HS.o]) (by rw[<-HS.o]) (by rw[<-HS.o]);go_wp2;go_end0;exact⟨rfl,_,_,_,_,by rw[<-HE.o];exact P1,λj hj=>by rw[hid j hj,<-HS.o];exact(tH _ _ hj).symm,(QK G6.o H.o.lg).trans ((yJ (qE (qH (qB w6)) _)).trans P2)⟩
