/-
  What the laws of top need of TopNtB. Conditions: those of each lemma.
-/
import Derived.Test.YtncbcmiflffakaaGreatPkNm
import Derived.Test.YtncbcmiflffakaaGreatPkRg
set_option maxRecDepth 1000000
set_option maxHeartbeats 32000000
namespace Go.Proofs.YtncbcmiflffakaaGreat
open Go.RowKit
open Frq Thr Tt
structure RunsIn (base:Nat) (w:World) (v:Value) (xs:List RunV):Prop where
 row:RowIn w base 66 8 v xs.length (xs.flatMap runCells)
 calls: ∀ x∈xs,RowIn w base 68 5 x.v x.r.calls.length (x.r.calls.flatMap callCells)
theorem RunsIn.rd {base:Nat} {w:World} {v:Value} {xs:List RunV} (h:RunsIn base w v xs):RunsRd w.heap.size w v xs:=⟨h.row.sl runCells_len,fun x hx=>(h.calls x hx).sl callCells_len⟩
theorem RunsIn.bl {base:Nat} {w w':World} {v:Value} {xs:List RunV} (h:RunsIn base w v xs) (hb:Bl w w'):RunsIn base w' v xs:=⟨h.row.bl hb,fun x hx=>(h.calls x hx).bl hb⟩
structure NetIn (base:Nat) (w:World) (V:NetV) (rs:List RunV) (n:NetD):Prop where
 stops:RowIn w base 91 4 V.stops n.stops.length (n.stops.flatMap stopCells)
 routes:RowIn w base 93 3 V.routes n.routes.length (n.routes.flatMap routeCells)
 runs:RunsIn base w V.runs rs
 same:n.runs=rs.map (·.r)
 links:RowIn w base 95 5 V.links n.links.length (n.links.flatMap linkCells)
 paths:RowIn w base 97 4 V.paths n.paths.length (n.paths.flatMap pathCells)
 prods:RowIn w base 142 6 V.prods n.fares.prods.length (n.fares.prods.flatMap prodCells)
 apart:rs.Pairwise fun x y=>x.v.ownBlock=none∨x.v.ownBlock≠y.v.ownBlock
theorem NetIn.rd {base:Nat} {w:World} {V:NetV} {rs:List RunV} {n:NetD} (h:NetIn base w V rs n):NetRd w.heap.size w V rs n:=
 ⟨h.stops.sl stopCells_len,h.routes.sl routeCells_len,h.runs.rd,h.same,h.links.sl linkCells_len,h.paths.sl pathCells_len,h.prods.sl prodCells_len⟩
theorem NetIn.bl {base:Nat} {w w':World} {V:NetV} {rs:List RunV} {n:NetD} (h:NetIn base w V rs n) (hb:Bl w w'):NetIn base w' V rs n:=
 ⟨h.stops.bl hb,h.routes.bl hb,h.runs.bl hb,h.same,h.links.bl hb,h.paths.bl hb,h.prods.bl hb,h.apart⟩
structure FewN (n:NetD):Prop where
 stops:n.stops.length≤100000
 routes:n.routes.length≤100000
 runs:n.runs.length≤100000
 links:n.links.length≤100000
 paths:n.paths.length≤100000
 prods:n.fares.prods.length≤100000
 calls: ∀ r∈n.runs,r.calls.length≤100000
theorem put9 {w:World} {g:Nat} {a0 a1 a2 a3 a4 a5 a6 a7 a8:Value} {T:TypeId} (h:w.heap[g]? =some (.cells #[a0,a1,a2,a3,a4,a5,a6,a7,a8] T (0,0))) (b0 b1 b2 b3 b4 b5 b6 b7 b8:Value):
  (((((((((w.setCell ⟨g,0,none⟩ b0).setCell ⟨g,1,none⟩ b1).setCell ⟨g,2,none⟩ b2).setCell ⟨g,3,none⟩ b3).setCell ⟨g,4,none⟩ b4).setCell ⟨g,5,none⟩ b5).setCell ⟨g,6,none⟩ b6).setCell ⟨g,7,none⟩ b7).setCell ⟨g,8,none⟩ b8).heap[g]? =some (.cells #[b0,b1,b2,b3,b4,b5,b6,b7,b8] T (0,0))∧Gr g w (((((((((w.setCell ⟨g,0,none⟩ b0).setCell ⟨g,1,none⟩ b1).setCell ⟨g,2,none⟩ b2).setCell ⟨g,3,none⟩ b3).setCell ⟨g,4,none⟩ b4).setCell ⟨g,5,none⟩ b5).setCell ⟨g,6,none⟩ b6).setCell ⟨g,7,none⟩ b7).setCell ⟨g,8,none⟩ b8):=by
 refine⟨?_,gr_next (gr_next (gr_next (gr_next (gr_next (gr_next (gr_next (gr_next (gr_set _ _ _ _) (gr_set _ _ _ _)) (gr_set _ _ _ _)) (gr_set _ _ _ _)) (gr_set _ _ _ _)) (gr_set _ _ _ _)) (gr_set _ _ _ _)) (gr_set _ _ _ _)) (gr_set _ _ _ _)⟩;have:=blk_set (blk_set (blk_set (blk_set (blk_set (blk_set (blk_set (blk_set (blk_set h 0 b0) 1 b1) 2 b2) 3 b3) 4 b4) 5 b5) 6 b6) 7 b7) 8 b8;simpa using this
theorem flat_set7 (A B:List RunV) (x:RunV) (v:Value):((A++x::B).flatMap runCells).set (A.length*8+7) v=(A++(⟨x.r,v⟩:RunV)::B).flatMap runCells:=by
 have hl: ∀ l:List RunV,(l.flatMap runCells).length=l.length*8:=fun l=>by
  induction l with
  |nil=>rfl
  |cons y l ih=>rw[List.flatMap_cons,List.length_append,ih,runCells_len,List.length_cons];omega
 rw[List.flatMap_append,List.flatMap_append,List.set_append_right _ _ (by rw[hl];omega),hl,show A.length*8+7-A.length*8=7 by omega];rfl
theorem RowIn.set {w:World} {base size n g cap:Nat} {e:TypeId} {xs:List Value} (h:RowIn w base e size (.slice (some ⟨g,0,none⟩) n cap) n xs) (j:Nat) (u:Value):RowIn (w.setCell ⟨g,j,none⟩ u) base e size (.slice (some ⟨g,0,none⟩) n cap) n (xs.set j u)∧Gr g w (w.setCell ⟨g,j,none⟩ u)∧w.frozen? ⟨g,j,none⟩=false∧g<w.heap.size:=by
 rcases h.2 with⟨h',_⟩|⟨g',cap',cur,h',hb,hg,h3,h4,h5,h6⟩
 · simp at h'
 ·
  simp only[Value.slice.injEq,Option.some.injEq,Addr.mk.injEq,and_true,true_and]at h';obtain⟨rfl,rfl⟩:=h';refine⟨⟨by rw[List.length_set];exact h.1, .inr ⟨g,cap,cur.setIfInBounds j u,rfl,hb,blk_set hg j u,h3,h4,by rw[Array.size_setIfInBounds];exact h5, ?_⟩⟩,gr_set g w j u,Lib.frozen_of_heap hg j,lt_of_block hg⟩;rw[←h6,Array.toList_setIfInBounds,List.take_set]
structure CloneAt (w w1:World) (v5:Value) (rs:List RunV) (n:NetD) (s3:Value) (wx:World):Prop where
 ex: ∃ (p:Nat) (x0 x1 x2 x3 x4:Value),s3= .pointer (some ⟨p,0,none⟩)∧w1.heap.size≤p∧wx.heap[p]? =some (.cells #[x0,x1,x2,x3,x4,v5, .int .i64 n.fares.disc, .int .i64 n.fares.within, .int .i64 n.fares.cap] 54 (0,0))∧
  (RowIn wx w.heap.size 91 4 x0 n.stops.length (n.stops.flatMap stopCells))∧(RowIn wx w.heap.size 93 3 x1 n.routes.length (n.routes.flatMap routeCells))∧(RowIn wx w.heap.size 66 8 x2 rs.length (rs.flatMap runCells))∧(RowIn wx w.heap.size 95 5 x3 n.links.length (n.links.flatMap linkCells))∧(RowIn wx w.heap.size 97 4 x4 n.paths.length (n.paths.flatMap pathCells))
 bl:Bl w wx
 bl1:Bl w1 wx
def CloneL (w wc:World) (s2:Option Addr) (t2:Nat) (rs:List RunV) (k:Nat) (wr:World):Prop:=
 ∃ rs':List RunV,rs'.length=k∧rs'.map (·.r)=(rs.take k).map (·.r)∧RowIn wr w.heap.size 66 8 (.slice s2 rs.length t2) rs.length ((rs'++rs.drop k).flatMap runCells)∧
  (∀ x∈rs',RowIn wr w.heap.size 68 5 x.v x.r.calls.length (x.r.calls.flatMap callCells))∧(rs'.Pairwise fun x y=>x.v.ownBlock=none∨x.v.ownBlock≠y.v.ownBlock)∧
  (∀ b,b<wc.heap.size→(Value.slice s2 rs.length t2).ownBlock≠some b→wr.heap[b]? =wc.heap[b]?)∧Below w.heap.size wc wr
theorem clone_c (V:NetV) (rs:List RunV) (n:NetD) (few:Hid (FewN n)) (B:Nat) (w:World) (rd:NetRd B w V rs n) (hB:B≤w.heap.size):
  Calls Tryz.prog 47 #[netV V n.fares] w fun e w'=> ∃ V' rs',e= .returned (netV V' n.fares)∧NetIn w.heap.size w' V' rs' n∧Bl w w':=by
 have RD:=Lib.hid rd;have hrl:rs.length≤100000:=by have:=few.out.runs;rw[rd.same,List.length_map]at this;exact this
 have h0:=fun(w1:World) (h:Bl w w1)=>fresh_stop V.stops n.stops few.out.stops B w1 (rd.stops.below (h.mono hB)) (Nat.le_trans hB h.size)
 have h1:=fun(w1:World) (h:Bl w w1)=>fresh_route V.routes n.routes few.out.routes B w1 (rd.routes.below (h.mono hB)) (Nat.le_trans hB h.size)
 have h2:=fun(w1:World) (h:Bl w w1)=>fresh_run V.runs rs hrl (fun x hx=>by obtain⟨a,c,h,-,-⟩:=(rd.runs.calls x hx).val;exact⟨_,_,_,h⟩) B w1 (rd.runs.sl.below (h.mono hB)) (Nat.le_trans hB h.size)
 have h3:=fun(w1:World) (h:Bl w w1)=>fresh_link V.links n.links few.out.links B w1 (rd.links.below (h.mono hB)) (Nat.le_trans hB h.size)
 have h4:=fun(w1:World) (h:Bl w w1)=>fresh_path V.paths n.paths few.out.paths B w1 (rd.paths.below (h.mono hB)) (Nat.le_trans hB h.size)
 have h5:=fun(w1:World) (h:Bl w w1)=>fresh_prod V.prods n.fares.prods few.out.prods B w1 (rd.prods.below (h.mono hB)) (Nat.le_trans hB h.size)
 obtain⟨v0,v1,v2,v3,v4,v5⟩:=V;simp only at h0 h1 h2 h3 h4 h5;obtain⟨a0,k0,(rfl:v0=_),-,-⟩:=rd.stops.val;obtain⟨a1,k1,(rfl:v1=_),-,-⟩:=rd.routes.val;obtain⟨a2,k2,(rfl:v2=_),-,-⟩:=rd.runs.sl.val;obtain⟨a3,k3,(rfl:v3=_),-,-⟩:=rd.links.val;obtain⟨a4,k4,(rfl:v4=_),-,-⟩:=rd.paths.val;obtain⟨a5,k5,(rfl:v5=_),-,-⟩:=rd.prods.val;have H0:=Lib.hid h0;have H1:=Lib.hid h1;have H2:=Lib.hid h2;have H3:=Lib.hid h3;have H4:=Lib.hid h4;have H5:=Lib.hid h5;have HB:=Lib.hid (And.intro (blk_bl (heap_alloc_new w (.cells #[.slice a0 n.stops.length k0, .slice a1 n.routes.length k1, .slice a2 rs.length k2, .slice a3 n.links.length k3, .slice a4 n.paths.length k4, .slice a5 n.fares.prods.length k5, .int .i64 n.fares.disc, .int .i64 n.fares.within, .int .i64 n.fares.cap] 54)) (bl_alloc (bl_refl _) (.cells #[.slice none 0 0, .slice none 0 0, .slice none 0 0, .slice none 0 0, .slice none 0 0, .slice none 0 0, .int .i64 0, .int .i64 0, .int .i64 0] 54))) (show Bl w ((w.alloc (.cells #[.slice a0 n.stops.length k0, .slice a1 n.routes.length k1, .slice a2 rs.length k2, .slice a3 n.links.length k3, .slice a4 n.paths.length k4, .slice a5 n.fares.prods.length k5, .int .i64 n.fares.disc, .int .i64 n.fares.within, .int .i64 n.fares.cap] 54)).alloc (.cells #[.slice none 0 0, .slice none 0 0, .slice none 0 0, .slice none 0 0, .slice none 0 0, .slice none 0 0, .int .i64 0, .int .i64 0, .int .i64 0] 54)) from bl_alloc (bl_alloc (bl_refl _) _) _));have HB2:=Lib.hid (show((w.alloc (.cells #[.slice a0 n.stops.length k0, .slice a1 n.routes.length k1, .slice a2 rs.length k2, .slice a3 n.links.length k3, .slice a4 n.paths.length k4, .slice a5 n.fares.prods.length k5, .int .i64 n.fares.disc, .int .i64 n.fares.within, .int .i64 n.fares.cap] 54)).alloc (.cells #[.slice none 0 0, .slice none 0 0, .slice none 0 0, .slice none 0 0, .slice none 0 0, .slice none 0 0, .int .i64 0, .int .i64 0, .int .i64 0] 54)).heap[w.heap.size+1]? =some (.cells #[.slice none 0 0, .slice none 0 0, .slice none 0 0, .slice none 0 0, .slice none 0 0, .slice none 0 0, .int .i64 0, .int .i64 0, .int .i64 0] 54 (0,0)) from by rw[show w.heap.size+1=(w.alloc (.cells #[.slice a0 n.stops.length k0, .slice a1 n.routes.length k1, .slice a2 rs.length k2, .slice a3 n.links.length k3, .slice a4 n.paths.length k4, .slice a5 n.fares.prods.length k5, .int .i64 n.fares.disc, .int .i64 n.fares.within, .int .i64 n.fares.cap] 54)).heap.size from(Array.size_push _).symm];exact heap_alloc_new _ _);clear h0 h1 h2 h3 h4 h5 rd;go_enter Tryz.func47,Tryz.ntmps47
 go_upto_region 1 with fail
 change Code.wp _ _ _ _ ((w.alloc (.cells #[.slice a0 n.stops.length k0, .slice a1 n.routes.length k1, .slice a2 rs.length k2, .slice a3 n.links.length k3, .slice a4 n.paths.length k4, .slice a5 n.fares.prods.length k5, .int .i64 n.fares.disc, .int .i64 n.fares.within, .int .i64 n.fares.cap] 54)).alloc (.cells #[.slice none 0 0, .slice none 0 0, .slice none 0 0, .slice none 0 0, .slice none 0 0, .slice none 0 0, .int .i64 0, .int .i64 0, .int .i64 0] 54));obtain⟨hb1,hb2⟩:=HB.out;have hb3:=HB2.out;generalize (w.alloc (.cells #[.slice a0 n.stops.length k0, .slice a1 n.routes.length k1, .slice a2 rs.length k2, .slice a3 n.links.length k3, .slice a4 n.paths.length k4, .slice a5 n.fares.prods.length k5, .int .i64 n.fares.disc, .int .i64 n.fares.within, .int .i64 n.fares.cap] 54)).alloc (.cells #[.slice none 0 0, .slice none 0 0, .slice none 0 0, .slice none 0 0, .slice none 0 0, .slice none 0 0, .int .i64 0, .int .i64 0, .int .i64 0] 54)=w1 at hb1 hb2 hb3 ⊢
 have HBZ:=Lib.hid hb3;clear hb3 HB2;have hS: ∀ w9,Bl w1 w9→(w9.cell? ⟨w.heap.size,0,none⟩=some (.slice a0 n.stops.length k0)∧w9.cell? ⟨w.heap.size,1,none⟩=some (.slice a1 n.routes.length k1)∧w9.cell? ⟨w.heap.size,2,none⟩=some (.slice a2 rs.length k2)∧w9.cell? ⟨w.heap.size,3,none⟩=some (.slice a3 n.links.length k3)∧w9.cell? ⟨w.heap.size,4,none⟩=some (.slice a4 n.paths.length k4)∧w9.cell? ⟨w.heap.size,5,none⟩=some (.slice a5 n.fares.prods.length k5)∧w9.cell? ⟨w.heap.size,6,none⟩=some (.int .i64 n.fares.disc)∧w9.cell? ⟨w.heap.size,7,none⟩=some (.int .i64 n.fares.within)∧w9.cell? ⟨w.heap.size,8,none⟩=some (.int .i64 n.fares.cap)):=fun w9 h=>by
  have hh:=blk_bl hb1 h;exact⟨blk_cell hh 0 _ rfl,blk_cell hh 1 _ rfl,blk_cell hh 2 _ rfl,blk_cell hh 3 _ rfl,blk_cell hh 4 _ rfl,blk_cell hh 5 _ rfl,blk_cell hh 6 _ rfl,blk_cell hh 7 _ rfl,blk_cell hh 8 _ rfl⟩
 have HB1:=Lib.hid (And.intro hb1 hb2);clear hb1 hb2 HB;go_cut [3] (fun s3 wx=>CloneAt w w1 (.slice a5 n.fares.prods.length k5) rs n s3 wx)
 case first=>
  refine startW (fun w9=>w9.cell? ⟨w.heap.size,0,none⟩=some (.slice a0 n.stops.length k0)∧w9.cell? ⟨w.heap.size,1,none⟩=some (.slice a1 n.routes.length k1)∧w9.cell? ⟨w.heap.size,2,none⟩=some (.slice a2 rs.length k2)∧w9.cell? ⟨w.heap.size,3,none⟩=some (.slice a3 n.links.length k3)∧w9.cell? ⟨w.heap.size,4,none⟩=some (.slice a4 n.paths.length k4)∧w9.cell? ⟨w.heap.size,5,none⟩=some (.slice a5 n.fares.prods.length k5)∧w9.cell? ⟨w.heap.size,6,none⟩=some (.int .i64 n.fares.disc)∧w9.cell? ⟨w.heap.size,7,none⟩=some (.int .i64 n.fares.within)∧w9.cell? ⟨w.heap.size,8,none⟩=some (.int .i64 n.fares.cap)) 19 (hS _ (bl_drew (bl_refl _))) (fun hHeld=>?_);refine takeW 0 ?_;refine takeW 1 ?_;refine takeW 3 ?_;refine takeW 4 ?_;refine takeW 6 ?_;refine takeW 7 ?_;refine takeW 9 ?_;refine takeW 10 ?_;refine takeW 12 ?_;refine takeW 13 ?_;refine takeW 15 ?_;refine takeW 16 ?_;have BC:Bl w w1.drew:=bl_drew HB1.out.2;have BD:Bl w1 w1.drew:=bl_drew (bl_refl _);generalize w1.drew=wc at BC BD hHeld ⊢
  have mN0:=True.intro;all_goals first
   |(
     clear mN0;refine stepW2 2 18 (fun KK hKK=>?_) (fun KK hKK=>?_);go_simp;go_at_call 81
     refine(H0.out _ BC).mono ?_;rintro e wn ⟨x0,rfl,f0,bn⟩;have F0:=(f0.low BC.size);replace BC:=bl_next BC bn
     replace BD:=bl_next BD bn
     clear f0 bn hHeld;refine hKK.out _ _ (hS _ BD) (fun hHeld=>?_);clear hKK KK;rename World=>wc
     have mN1:=True.intro;rotate_left;go_simp;have bn:Bl wc (wc.alloc (.cells #[.slice none 0 0, .slice none 0 0, .slice none 0 0, .slice none 0 0, .slice none 0 0, .slice none 0 0, .int .i64 0, .int .i64 0, .int .i64 0] 54)):=bl_alloc (bl_refl _) _;have HA:=heap_alloc_new wc (.cells #[.slice none 0 0, .slice none 0 0, .slice none 0 0, .slice none 0 0, .slice none 0 0, .slice none 0 0, .int .i64 0, .int .i64 0, .int .i64 0] 54);have hpw:w1.heap.size≤wc.heap.size:=BD.size;generalize wc.heap.size=p at HA hpw ⊢
     generalize wc.alloc (.cells #[.slice none 0 0, .slice none 0 0, .slice none 0 0, .slice none 0 0, .slice none 0 0, .slice none 0 0, .int .i64 0, .int .i64 0, .int .i64 0] 54)=wn at HA bn ⊢
     replace BC:=bl_next BC bn
     replace BD:=bl_next BD bn
     clear bn hHeld;refine hKK.out _ _ (hS _ BD) (fun hHeld=>?_);clear hKK KK;rename World=>wc
     have mA0:=True.intro)
   |skip
  all_goals first
   |(
     clear mN1;refine stepW2 5 18 (fun KK hKK=>?_) (fun KK hKK=>?_);go_simp;go_at_call 82
     refine(H1.out _ BC).mono ?_;rintro e wn ⟨x1,rfl,f1,bn⟩;replace F0:=F0.bl bn
     have F1:=(f1.low BC.size);replace BC:=bl_next BC bn
     replace BD:=bl_next BD bn
     clear f1 bn hHeld;refine hKK.out _ _ (hS _ BD) (fun hHeld=>?_);clear hKK KK;rename World=>wc
     have mN2:=True.intro;rotate_left;go_simp;have bn:Bl wc (wc.alloc (.cells #[.slice none 0 0, .slice none 0 0, .slice none 0 0, .slice none 0 0, .slice none 0 0, .slice none 0 0, .int .i64 0, .int .i64 0, .int .i64 0] 54)):=bl_alloc (bl_refl _) _;have HA:=heap_alloc_new wc (.cells #[.slice none 0 0, .slice none 0 0, .slice none 0 0, .slice none 0 0, .slice none 0 0, .slice none 0 0, .int .i64 0, .int .i64 0, .int .i64 0] 54);have hpw:w1.heap.size≤wc.heap.size:=BD.size;generalize wc.heap.size=p at HA hpw ⊢
     generalize wc.alloc (.cells #[.slice none 0 0, .slice none 0 0, .slice none 0 0, .slice none 0 0, .slice none 0 0, .slice none 0 0, .int .i64 0, .int .i64 0, .int .i64 0] 54)=wn at HA bn ⊢
     replace F0:=F0.bl bn
     replace BC:=bl_next BC bn
     replace BD:=bl_next BD bn
     clear bn hHeld;refine hKK.out _ _ (hS _ BD) (fun hHeld=>?_);clear hKK KK;rename World=>wc
     have mA1:=True.intro)
   |skip
  all_goals first
   |(
     clear mN2;refine stepW2 8 18 (fun KK hKK=>?_) (fun KK hKK=>?_);go_simp;go_at_call 83
     refine(H2.out _ BC).mono ?_;rintro e wn ⟨x2,rfl,f2,bn⟩;replace F0:=F0.bl bn
     replace F1:=F1.bl bn
     have F2:=(f2.low BC.size);replace BC:=bl_next BC bn
     replace BD:=bl_next BD bn
     clear f2 bn hHeld;refine hKK.out _ _ (hS _ BD) (fun hHeld=>?_);clear hKK KK;rename World=>wc
     have mN3:=True.intro;rotate_left;go_simp;have bn:Bl wc (wc.alloc (.cells #[.slice none 0 0, .slice none 0 0, .slice none 0 0, .slice none 0 0, .slice none 0 0, .slice none 0 0, .int .i64 0, .int .i64 0, .int .i64 0] 54)):=bl_alloc (bl_refl _) _;have HA:=heap_alloc_new wc (.cells #[.slice none 0 0, .slice none 0 0, .slice none 0 0, .slice none 0 0, .slice none 0 0, .slice none 0 0, .int .i64 0, .int .i64 0, .int .i64 0] 54);have hpw:w1.heap.size≤wc.heap.size:=BD.size;generalize wc.heap.size=p at HA hpw ⊢
     generalize wc.alloc (.cells #[.slice none 0 0, .slice none 0 0, .slice none 0 0, .slice none 0 0, .slice none 0 0, .slice none 0 0, .int .i64 0, .int .i64 0, .int .i64 0] 54)=wn at HA bn ⊢
     replace F0:=F0.bl bn
     replace F1:=F1.bl bn
     replace BC:=bl_next BC bn
     replace BD:=bl_next BD bn
     clear bn hHeld;refine hKK.out _ _ (hS _ BD) (fun hHeld=>?_);clear hKK KK;rename World=>wc
     have mA2:=True.intro)
   |skip
  all_goals first
   |(
     clear mN3;refine stepW2 11 18 (fun KK hKK=>?_) (fun KK hKK=>?_);go_simp;go_at_call 84
     refine(H3.out _ BC).mono ?_;rintro e wn ⟨x3,rfl,f3,bn⟩;replace F0:=F0.bl bn
     replace F1:=F1.bl bn
     replace F2:=F2.bl bn
     have F3:=(f3.low BC.size);replace BC:=bl_next BC bn
     replace BD:=bl_next BD bn
     clear f3 bn hHeld;refine hKK.out _ _ (hS _ BD) (fun hHeld=>?_);clear hKK KK;rename World=>wc
     have mN4:=True.intro;rotate_left;go_simp;have bn:Bl wc (wc.alloc (.cells #[.slice none 0 0, .slice none 0 0, .slice none 0 0, .slice none 0 0, .slice none 0 0, .slice none 0 0, .int .i64 0, .int .i64 0, .int .i64 0] 54)):=bl_alloc (bl_refl _) _;have HA:=heap_alloc_new wc (.cells #[.slice none 0 0, .slice none 0 0, .slice none 0 0, .slice none 0 0, .slice none 0 0, .slice none 0 0, .int .i64 0, .int .i64 0, .int .i64 0] 54);have hpw:w1.heap.size≤wc.heap.size:=BD.size;generalize wc.heap.size=p at HA hpw ⊢
     generalize wc.alloc (.cells #[.slice none 0 0, .slice none 0 0, .slice none 0 0, .slice none 0 0, .slice none 0 0, .slice none 0 0, .int .i64 0, .int .i64 0, .int .i64 0] 54)=wn at HA bn ⊢
     replace F0:=F0.bl bn
     replace F1:=F1.bl bn
     replace F2:=F2.bl bn
     replace BC:=bl_next BC bn
     replace BD:=bl_next BD bn
     clear bn hHeld;refine hKK.out _ _ (hS _ BD) (fun hHeld=>?_);clear hKK KK;rename World=>wc
     have mA3:=True.intro)
   |skip
  all_goals first
   |(
     clear mN4;refine stepW2 14 18 (fun KK hKK=>?_) (fun KK hKK=>?_);go_simp;go_at_call 85
     refine(H4.out _ BC).mono ?_;rintro e wn ⟨x4,rfl,f4,bn⟩;replace F0:=F0.bl bn
     replace F1:=F1.bl bn
     replace F2:=F2.bl bn
     replace F3:=F3.bl bn
     have F4:=(f4.low BC.size);replace BC:=bl_next BC bn
     replace BD:=bl_next BD bn
     clear f4 bn hHeld;refine hKK.out _ _ (hS _ BD) (fun hHeld=>?_);clear hKK KK;rename World=>wc
     obtain⟨s0,t0,rfl⟩:=F0.val;obtain⟨s1,t1,rfl⟩:=F1.val;obtain⟨s2,t2,rfl⟩:=F2.val;obtain⟨s3,t3,rfl⟩:=F3.val;obtain⟨s4,t4,rfl⟩:=F4.val;refine takeW 17 ?_;have mN5:=True.intro;rotate_left;go_simp;have bn:Bl wc (wc.alloc (.cells #[.slice none 0 0, .slice none 0 0, .slice none 0 0, .slice none 0 0, .slice none 0 0, .slice none 0 0, .int .i64 0, .int .i64 0, .int .i64 0] 54)):=bl_alloc (bl_refl _) _;have HA:=heap_alloc_new wc (.cells #[.slice none 0 0, .slice none 0 0, .slice none 0 0, .slice none 0 0, .slice none 0 0, .slice none 0 0, .int .i64 0, .int .i64 0, .int .i64 0] 54);have hpw:w1.heap.size≤wc.heap.size:=BD.size;generalize wc.heap.size=p at HA hpw ⊢
     generalize wc.alloc (.cells #[.slice none 0 0, .slice none 0 0, .slice none 0 0, .slice none 0 0, .slice none 0 0, .slice none 0 0, .int .i64 0, .int .i64 0, .int .i64 0] 54)=wn at HA bn ⊢
     replace F0:=F0.bl bn
     replace F1:=F1.bl bn
     replace F2:=F2.bl bn
     replace F3:=F3.bl bn
     replace BC:=bl_next BC bn
     replace BD:=bl_next BD bn
     clear bn hHeld;refine hKK.out _ _ (hS _ BD) (fun hHeld=>?_);clear hKK KK;rename World=>wc
     have mA4:=True.intro)
   |skip
  all_goals first
   |(
     clear mN5;refine stepW 18 (fun KK hKK=>?_);go_simp;have bn:Bl wc (wc.alloc (.cells #[.slice none 0 0, .slice none 0 0, .slice none 0 0, .slice none 0 0, .slice none 0 0, .slice none 0 0, .int .i64 0, .int .i64 0, .int .i64 0] 54)):=bl_alloc (bl_refl _) _;have HA:=heap_alloc_new wc (.cells #[.slice none 0 0, .slice none 0 0, .slice none 0 0, .slice none 0 0, .slice none 0 0, .slice none 0 0, .int .i64 0, .int .i64 0, .int .i64 0] 54);have hpw:w1.heap.size≤wc.heap.size:=BD.size;generalize wc.heap.size=p at HA hpw ⊢
     generalize wc.alloc (.cells #[.slice none 0 0, .slice none 0 0, .slice none 0 0, .slice none 0 0, .slice none 0 0, .slice none 0 0, .int .i64 0, .int .i64 0, .int .i64 0] 54)=wn at HA bn ⊢
     replace F0:=F0.bl bn
     replace F1:=F1.bl bn
     replace F2:=F2.bl bn
     replace F3:=F3.bl bn
     replace F4:=F4.bl bn
     replace BC:=bl_next BC bn
     replace BD:=bl_next BD bn
     clear bn hHeld;refine hKK.out _ _ (hS _ BD) (fun hHeld=>?_);clear hKK KK;rename World=>wc
     have mA5:=True.intro)
   |skip
  all_goals first
   |(
     clear mA0;refine stepW 2 (fun KK hKK=>?_);go_simp;go_at_call 81
     refine(H0.out _ BC).mono ?_;rintro e wn ⟨x0,rfl,f0,bn⟩;have F0:=(f0.low BC.size);replace HA:=blk_bl HA bn
     replace BC:=bl_next BC bn
     replace BD:=bl_next BD bn
     clear f0 bn hHeld;refine hKK.out _ _ (hS _ BD) (fun hHeld=>?_);clear hKK KK;rename World=>wc
     have mA1:=True.intro)
   |skip
  all_goals first
   |(
     clear mA1;refine stepW 5 (fun KK hKK=>?_);go_simp;go_at_call 82
     refine(H1.out _ BC).mono ?_;rintro e wn ⟨x1,rfl,f1,bn⟩;replace F0:=F0.bl bn
     have F1:=(f1.low BC.size);replace HA:=blk_bl HA bn
     replace BC:=bl_next BC bn
     replace BD:=bl_next BD bn
     clear f1 bn hHeld;refine hKK.out _ _ (hS _ BD) (fun hHeld=>?_);clear hKK KK;rename World=>wc
     have mA2:=True.intro)
   |skip
  all_goals first
   |(
     clear mA2;refine stepW 8 (fun KK hKK=>?_);go_simp;go_at_call 83
     refine(H2.out _ BC).mono ?_;rintro e wn ⟨x2,rfl,f2,bn⟩;replace F0:=F0.bl bn
     replace F1:=F1.bl bn
     have F2:=(f2.low BC.size);replace HA:=blk_bl HA bn
     replace BC:=bl_next BC bn
     replace BD:=bl_next BD bn
     clear f2 bn hHeld;refine hKK.out _ _ (hS _ BD) (fun hHeld=>?_);clear hKK KK;rename World=>wc
     have mA3:=True.intro)
   |skip
  all_goals first
   |(
     clear mA3;refine stepW 11 (fun KK hKK=>?_);go_simp;go_at_call 84
     refine(H3.out _ BC).mono ?_;rintro e wn ⟨x3,rfl,f3,bn⟩;replace F0:=F0.bl bn
     replace F1:=F1.bl bn
     replace F2:=F2.bl bn
     have F3:=(f3.low BC.size);replace HA:=blk_bl HA bn
     replace BC:=bl_next BC bn
     replace BD:=bl_next BD bn
     clear f3 bn hHeld;refine hKK.out _ _ (hS _ BD) (fun hHeld=>?_);clear hKK KK;rename World=>wc
     have mA4:=True.intro)
   |skip
  all_goals first
   |(
     clear mA4;refine stepW 14 (fun KK hKK=>?_);go_simp;go_at_call 85
     refine(H4.out _ BC).mono ?_;rintro e wn ⟨x4,rfl,f4,bn⟩;replace F0:=F0.bl bn
     replace F1:=F1.bl bn
     replace F2:=F2.bl bn
     replace F3:=F3.bl bn
     have F4:=(f4.low BC.size);replace HA:=blk_bl HA bn
     replace BC:=bl_next BC bn
     replace BD:=bl_next BD bn
     clear f4 bn hHeld;refine hKK.out _ _ (hS _ BD) (fun hHeld=>?_);clear hKK KK;rename World=>wc
     obtain⟨s0,t0,rfl⟩:=F0.val;obtain⟨s1,t1,rfl⟩:=F1.val;obtain⟨s2,t2,rfl⟩:=F2.val;obtain⟨s3,t3,rfl⟩:=F3.val;obtain⟨s4,t4,rfl⟩:=F4.val;refine takeW 17 ?_;have mA5:=True.intro)
   |skip
  all_goals
   have hw01:=HB1.out.2.size;refine lastW (fun KK hKK=>?_);have f0:wc.frozen? ⟨p,0,none⟩=false:=Lib.frozen_of_heap HA 0;have z0:wc.cell? ⟨p,0,none⟩=some (.slice none 0 0):=blk_cell HA 0 _ rfl;have f1:wc.frozen? ⟨p,1,none⟩=false:=Lib.frozen_of_heap HA 1;have z1:wc.cell? ⟨p,1,none⟩=some (.slice none 0 0):=blk_cell HA 1 _ rfl;have f2:wc.frozen? ⟨p,2,none⟩=false:=Lib.frozen_of_heap HA 2;have z2:wc.cell? ⟨p,2,none⟩=some (.slice none 0 0):=blk_cell HA 2 _ rfl;have f3:wc.frozen? ⟨p,3,none⟩=false:=Lib.frozen_of_heap HA 3;have z3:wc.cell? ⟨p,3,none⟩=some (.slice none 0 0):=blk_cell HA 3 _ rfl;have f4:wc.frozen? ⟨p,4,none⟩=false:=Lib.frozen_of_heap HA 4;have z4:wc.cell? ⟨p,4,none⟩=some (.slice none 0 0):=blk_cell HA 4 _ rfl;have f5:wc.frozen? ⟨p,5,none⟩=false:=Lib.frozen_of_heap HA 5;have z5:wc.cell? ⟨p,5,none⟩=some (.slice none 0 0):=blk_cell HA 5 _ rfl;have f6:wc.frozen? ⟨p,6,none⟩=false:=Lib.frozen_of_heap HA 6;have z6:wc.cell? ⟨p,6,none⟩=some (.int .i64 0):=blk_cell HA 6 _ rfl;have f7:wc.frozen? ⟨p,7,none⟩=false:=Lib.frozen_of_heap HA 7;have z7:wc.cell? ⟨p,7,none⟩=some (.int .i64 0):=blk_cell HA 7 _ rfl;have f8:wc.frozen? ⟨p,8,none⟩=false:=Lib.frozen_of_heap HA 8;have z8:wc.cell? ⟨p,8,none⟩=some (.int .i64 0):=blk_cell HA 8 _ rfl;go_simp;clear hHeld;obtain⟨P9,G9⟩:=put9 HA (.slice s0 n.stops.length t0) (.slice s1 n.routes.length t1) (.slice s2 rs.length t2) (.slice s3 n.links.length t3) (.slice s4 n.paths.length t4) (.slice a5 n.fares.prods.length k5) (.int .i64 n.fares.disc) (.int .i64 n.fares.within) (.int .i64 n.fares.cap);have hK: ∀ (e:TypeId) (sz:Nat) (v:Value) (k:Nat) (xs:List Value),54≠e→RowIn wc w.heap.size e sz v k xs→RowIn (((((((((wc.setCell ⟨p,0,none⟩ (.slice s0 n.stops.length t0)).setCell ⟨p,1,none⟩ (.slice s1 n.routes.length t1)).setCell ⟨p,2,none⟩ (.slice s2 rs.length t2)).setCell ⟨p,3,none⟩ (.slice s3 n.links.length t3)).setCell ⟨p,4,none⟩ (.slice s4 n.paths.length t4)).setCell ⟨p,5,none⟩ (.slice a5 n.fares.prods.length k5)).setCell ⟨p,6,none⟩ (.int .i64 n.fares.disc)).setCell ⟨p,7,none⟩ (.int .i64 n.fares.within)).setCell ⟨p,8,none⟩ (.int .i64 n.fares.cap)) w.heap.size e sz v k xs:=fun e sz v k xs hne hr=>hr.same fun b hb=>G9.block b (hr.lt b hb).2 (fun e2=>hr.ne HA hne (hb.trans e2))
   have HF:=Lib.hid (show CloneAt w w1 (.slice a5 n.fares.prods.length k5) rs n (.pointer (some ⟨p,0,none⟩)) (((((((((wc.setCell ⟨p,0,none⟩ (.slice s0 n.stops.length t0)).setCell ⟨p,1,none⟩ (.slice s1 n.routes.length t1)).setCell ⟨p,2,none⟩ (.slice s2 rs.length t2)).setCell ⟨p,3,none⟩ (.slice s3 n.links.length t3)).setCell ⟨p,4,none⟩ (.slice s4 n.paths.length t4)).setCell ⟨p,5,none⟩ (.slice a5 n.fares.prods.length k5)).setCell ⟨p,6,none⟩ (.int .i64 n.fares.disc)).setCell ⟨p,7,none⟩ (.int .i64 n.fares.within)).setCell ⟨p,8,none⟩ (.int .i64 n.fares.cap)) from⟨⟨p,_,_,_,_,_,rfl,hpw,P9,hK _ _ _ _ _ (by decide) F0,hK _ _ _ _ _ (by decide) F1,hK _ _ _ _ _ (by decide) F2,hK _ _ _ _ _ (by decide) F3,hK _ _ _ _ _ (by decide) F4⟩,BC.grown G9 BC.size (fun q hq=>by simp only[Option.some.injEq]at hq;omega),BD.grown G9 BD.size (fun q hq=>by simp only[Option.some.injEq]at hq;omega)⟩);clear hK P9 G9 f0 z0 f1 z1 f2 z2 f3 z3 f4 z4 f5 z5 f6 z6 f7 z7 f8 z8;refine hKK.out _ _ ?_;clear hKK KK;go_wp2_with fail;go_meet
   case rel=>exact HF.out
 case rest=>
  obtain⟨⟨p,x0,x1,x2,x3,x4,rfl,hpw,hP,F0,F1,F2,F3,F4⟩,hbc,hbc1⟩:=hcut;obtain⟨s2,t2,hx2⟩:=F2.val;subst hx2;have z2:wc.cell? ⟨p,2,none⟩=some (.slice s2 rs.length t2):=blk_cell hP 2 _ rfl;have hrlI:(rs.length:Int)≤100000:=by omega
  have HC:=Lib.hid (And.intro hP (And.intro F0 (And.intro F1 (And.intro F2 (And.intro F3 (And.intro F4 (And.intro hbc hbc1)))))));clear hP F0 F1 F2 F3 F4 hbc hbc1;go_wp2_with fail;go_loopw [26] (fun i wr=> ∃ k:Nat,(k≤rs.length∧i= .int .i64 k)∧Hid (CloneL w wc s2 t2 rs k wr)) (fun i _=>rs.length-(intOf i).toNat)
  case atStart=>exact⟨0,⟨Nat.zero_le _,rfl⟩,Lib.hid ⟨[],rfl,rfl,by simpa using HC.out.2.2.2.1,by simp,List.Pairwise.nil,fun _ _ _=>rfl,Below.refl _ _⟩⟩
  case round=>
   obtain⟨k,⟨hk,rfl⟩,HR⟩:=hrel;clear z2;by_cases hlt:k<rs.length
   ·
    have hltI:(k:Int)<(rs.length:Int):=by omega
    obtain⟨rs',q1,q2,q3,q4,q5,q6,q7⟩:=HR.out;obtain⟨g,rfl⟩: ∃ g,s2=some ⟨g,0,none⟩:=by
     rcases q3.2 with⟨h,h0⟩|⟨g,cap,cur,h,-⟩
     · omega
     ·
      simp only[Value.slice.injEq]at h;exact⟨g,h.1⟩
    obtain⟨x,hx⟩: ∃ x,rs[k]? =some x:=⟨_,List.getElem?_eq_getElem hlt⟩;have hxd:rs.drop k=x::rs.drop (k+1):=by
     obtain⟨h,rfl⟩:=List.getElem?_eq_some_iff.1 hx;exact List.drop_eq_getElem_cons h
    have hBW:Bl w wr:=HC.out.2.2.2.2.2.2.1.trans q7;have hxc:=(RD.out.runs.calls x (List.mem_of_getElem? hx));obtain⟨ax,cx,hxv,-,-⟩:=hxc.val;have hxl:x.r.calls.length≤100000:=few.out.calls x.r (by rw[RD.out.same];exact List.mem_map_of_mem (List.mem_of_getElem? hx));have hpl:=lt_of_block HC.out.1;have hpg:(Value.slice (some ⟨g,0,none⟩) rs.length t2).ownBlock≠some p:=HC.out.2.2.2.1.ne HC.out.1 (by decide);have hP2:=(q6 p hpl hpg).trans HC.out.1;have hcell:wr.cell? ⟨g,k*8+7,none⟩=some x.v:=by
     rw[q3.cellAt (k*8+7) (by omega)];exact flat_get runCells_len (i:=k) (x:=x) (j:=7) (by rw[List.getElem?_append_right (by omega),q1,Nat.sub_self,hxd];rfl) rfl
    obtain⟨-,-,hfz,hgl⟩:=q3.set (k*8+7) (.slice none 0 0);have hS: ∀ w9,Bl wr w9→(w9.cell? ⟨p,2,none⟩=some (.slice (some ⟨g,0,none⟩) rs.length t2)∧w9.cell? ⟨g,k*8+7,none⟩=some x.v):=fun w9 h=>⟨blk_cell (blk_bl hP2 h) 2 _ rfl,((bl_cell h).1 _ _ hgl).trans hcell⟩
    have HFr:=Lib.hid (fun(w1:World) (h:Bl wr w1)=>fresh_call x.v x.r.calls hxl B w1 (hxc.below ((hBW.trans (h.mono hBW.size)).mono hB)) (by have:=h.size;have:=hBW.size;omega));have HQ:=Lib.hid (And.intro q1 (And.intro q2 (And.intro q3 (And.intro q4 (And.intro q5 (And.intro q6 (And.intro q7 (And.intro hxd (And.intro hx hBW)))))))));have hzw:=hBW.size;clear q1 q2 q3 q4 q5 q6 q7 hxd hxc hxl hP2 hcell hBW hx;go_upto_region 5 with fail
    refine startW (fun w9=>w9.cell? ⟨p,2,none⟩=some (.slice (some ⟨g,0,none⟩) rs.length t2)∧w9.cell? ⟨g,k*8+7,none⟩=some x.v) 12 (hS _ (bl_drew (bl_refl _))) (fun hHeld=>?_);refine takeW 0 ?_;refine takeW 1 ?_;refine takeW 2 ?_;refine takeW 3 ?_;refine takeW 4 ?_;refine takeW 5 ?_;refine takeW 6 ?_;refine takeW 7 ?_;refine takeW 8 ?_;have BC:Bl wr wr.drew:=bl_drew (bl_refl _);generalize wr.drew=wd at BC hHeld ⊢
    refine stepW 9 (fun KK hKK=>?_);go_simp;go_at_call 86
    have hh:=HFr.out _ BC;rw[hxv]at hh;refine hh.mono ?_;clear hh;rintro e wn ⟨y,rfl,f,bn⟩;replace f:=f.low BC.size
    replace BC:=bl_next BC bn
    clear bn hHeld;refine hKK.out _ _ (hS _ BC) (fun hHeld=>?_);clear hKK KK;rename World=>wd
    refine takeL 10 ?_;refine takeL 11 ?_;obtain⟨q1,q2,q3,q4,q5,q6,q7,hxd,hx,hBW⟩:=HQ.out;have q3':RowIn wd w.heap.size 66 8 (.slice (some ⟨g,0,none⟩) rs.length t2) rs.length ((rs'++rs.drop k).flatMap runCells):=q3.bl BC;obtain⟨yb,yc,rfl⟩:=f.val;obtain⟨r3,hG,hfz2,hgl2⟩:=q3'.set (k*8+7) (.slice yb x.r.calls.length yc);rw[hxd,show k*8+7=rs'.length*8+7 by rw[q1],flat_set7,q1]at r3;have hcell2:wd.cell? ⟨g,k*8+7,none⟩=some x.v:=hHeld.2;obtain⟨cur,hgr⟩: ∃ cur,wd.heap[g]? =some (.cells cur 66 (0,0)):=by
     rcases q3'.2 with⟨h,_⟩|⟨g',cap,cur,h,_,hb,_⟩
     · simp at h
     ·
      simp only[Value.slice.injEq,Option.some.injEq,Addr.mk.injEq,and_true,true_and]at h;obtain⟨rfl,rfl⟩:=h;exact⟨cur,hb⟩
    have hgb:w.heap.size≤g:=(q3.lt g rfl).1;have HZ:=Lib.hid (show CloneL w wc (some ⟨g,0,none⟩) t2 rs (k+1) (wd.setCell ⟨g,k*8+7,none⟩ (.slice yb x.r.calls.length yc)) from by
     refine⟨rs'++[⟨x.r, .slice yb x.r.calls.length yc⟩],by simp[q1], ?_, ?_, ?_, ?_, ?_, ?_⟩
     ·
      rw[List.take_add_one,hx];simp[q2]
     ·
      rw[List.append_assoc];exact r3
     ·
      have hk9: ∀ (v:Value) (n:Nat) (xs:List Value) (b9:Nat),RowIn wd b9 68 5 v n xs→RowIn (wd.setCell ⟨g,k*8+7,none⟩ (.slice yb x.r.calls.length yc)) b9 68 5 v n xs:=fun v n xs b9 hr=>hr.same fun b hb=>hG.block b (hr.lt b hb).2 (fun e2=>hr.ne hgr (by decide) (hb.trans e2))
      intro a ha;rcases List.mem_append.1 ha with ha|ha
      · exact hk9 _ _ _ _ ((q4 a ha).bl BC)
      ·
       obtain rfl:=List.mem_singleton.1 ha;exact hk9 _ _ _ _ (f.low hzw)
     ·
      refine List.pairwise_append.2 ⟨q5,List.pairwise_singleton _ _,fun a ha b hb=>?_⟩;obtain rfl:=List.mem_singleton.1 hb;cases h9:a.v.ownBlock with
      |none=>exact .inl rfl
      |some c=>
       refine .inr fun e9=>?_
       have h1:=((q4 a ha).lt c h9).2;have h2:=(f.lt c e9.symm).1;omega
     ·
      intro b hb hne;have hsz:=q7.size;exact(hG.block b (by have:=BC.size;omega) (fun e2=>hne e2.symm)).trans ((BC.block b (by omega)).trans (q6 b hb hne))
     · exact(q7.trans (BC.mono hzw)).grown hG (Nat.le_trans hzw BC.size) (fun q hq=>by simp only[Option.some.injEq]at hq;omega))
    clear r3 hG q3' q1 q2 q3 q4 q5 q6 q7 hxd hx hBW hgr;refine lastW (fun KK hKK=>?_);go_simp;refine hKK.out _ _ ?_;clear hKK KK;go_wp2_with fail;refine⟨⟨k+1,⟨hlt,rfl⟩,HZ⟩, ?_⟩;simp only[intOf];omega
   ·
    have hke:k=rs.length:=by omega
    subst hke;obtain⟨rs',q1,q2,q3,q4,q5,q6,q7⟩:=HR.out;rw[List.drop_length,List.append_nil]at q3;rw[List.take_length]at q2;obtain⟨hP,F0,F1,F2,F3,F4,hbc,hbc1⟩:=HC.out;have hpl:=lt_of_block hP;have hbl0:=blk_bl HB1.out.1 hbc1;have hBx:=(q6 w.heap.size (lt_of_block hbl0) (F2.ne hbl0 (by decide))).trans hbl0;have hPx:=(q6 p hpl (F2.ne hP (by decide))).trans hP;have hblz:=blk_bl HBZ.out hbc1;have hZx:=(q6 (w.heap.size+1) (lt_of_block hblz) (F2.ne hblz (by decide))).trans hblz;have hzp:w.heap.size+1<p:=Nat.lt_of_lt_of_le (lt_of_block HBZ.out) hpw;have hBW:Bl w wr:=hbc.trans q7;have hno: ∀ (e:TypeId) (sz:Nat) (v:Value) (k9:Nat) (xs:List Value),66≠e→RowIn wc w.heap.size e sz v k9 xs→RowIn wr w.heap.size e sz v k9 xs:=fun e sz v k9 xs hne hr=>hr.same fun b hb=>q6 b (hr.lt b hb).2 (fun e2=>by
     rcases F2.2 with⟨h,_⟩|⟨g',cap,cur,h,_,hb2,_⟩
     · rw[h]at e2;simp[Value.ownBlock]at e2
     ·
      rw[h]at e2;have e3:g'=b:=by simpa[Value.ownBlock]using e2
      subst e3;exact hr.ne hb2 hne hb)
    have G0:=hno _ _ _ _ _ (by decide) F0;have G1:=hno _ _ _ _ _ (by decide) F1;have G3:=hno _ _ _ _ _ (by decide) F3;have G4:=hno _ _ _ _ _ (by decide) F4;have hS: ∀ w9,Bl wr w9→w9.cell? ⟨w.heap.size,5,none⟩=some (.slice a5 n.fares.prods.length k5):=fun w9 h=>blk_cell (blk_bl hBx h) 5 _ rfl
    obtain⟨s0,t0,rfl⟩:=G0.val;obtain⟨s1,t1,rfl⟩:=G1.val;obtain⟨s3,t3,rfl⟩:=G3.val;obtain⟨s4,t4,rfl⟩:=G4.val;have HZx:=Lib.hid hZx;have HQ:=Lib.hid (And.intro q1 (And.intro q2 (And.intro q3 (And.intro q4 (And.intro q5 (And.intro hPx (And.intro G0 (And.intro G1 (And.intro G3 (And.intro G4 hBW))))))))));clear q1 q2 q3 q4 q5 q6 q7 hP F0 F1 F2 F3 F4 hbc hbc1 hpl hblz hZx hbl0 hBx hPx hBW hno G0 G1 G3 G4;have hzw:w.heap.size≤wr.heap.size:=HQ.out.2.2.2.2.2.2.2.2.2.2.size;have z5:=hS wr (bl_refl _);go_wp2_with fail;go_at_call 87
    refine(H5.out _ HQ.out.2.2.2.2.2.2.2.2.2.2).mono ?_;rintro e wd ⟨y,rfl,f,BC⟩;replace f:=f.low hzw
    clear z5;obtain⟨yb,yc,rfl⟩:=f.val;have hPd:=blk_bl HQ.out.2.2.2.2.2.1 BC;have hfz:wd.frozen? ⟨p,5,none⟩=false:=Lib.frozen_of_heap hPd 5;have hz5:wd.cell? ⟨p,5,none⟩=some (.slice a5 n.fares.prods.length k5):=blk_cell hPd 5 _ rfl;have hPe:(wd.setCell ⟨p,5,none⟩ (.slice yb n.fares.prods.length yc)).heap[p]? =some (.cells #[.slice s0 n.stops.length t0, .slice s1 n.routes.length t1, .slice s2 rs.length t2, .slice s3 n.links.length t3, .slice s4 n.paths.length t4, .slice yb n.fares.prods.length yc, .int .i64 n.fares.disc, .int .i64 n.fares.within, .int .i64 n.fares.cap] 54 (0,0)):=by simpa using blk_set hPd 5 (.slice yb n.fares.prods.length yc)
    have hGe:=gr_set p wd 5 (.slice yb n.fares.prods.length yc);have hZe:(wd.setCell ⟨p,5,none⟩ (.slice yb n.fares.prods.length yc)).heap[w.heap.size+1]? =_:=(hGe.block (w.heap.size+1) (by have:=lt_of_block HZx.out;have:=BC.size;omega) (by intro e2;simp only[Option.some.injEq]at e2;omega)).trans (blk_bl HZx.out BC);have HE:=Lib.hid (And.intro hPe (And.intro hGe hZe));clear hPe hGe hZe;go_upto_region 8 with fail
    have HW:=HE.out;generalize wd.setCell ⟨p,5,none⟩ (.slice yb n.fares.prods.length yc)=we at HW ⊢
    obtain⟨hPe,hGe,hZe⟩:=HW;clear HE;have z0:we.cell? ⟨p,0,none⟩=some (.slice s0 n.stops.length t0):=blk_cell hPe 0 _ rfl;have z1:we.cell? ⟨p,1,none⟩=some (.slice s1 n.routes.length t1):=blk_cell hPe 1 _ rfl;have z2:we.cell? ⟨p,2,none⟩=some (.slice s2 rs.length t2):=blk_cell hPe 2 _ rfl;have z3:we.cell? ⟨p,3,none⟩=some (.slice s3 n.links.length t3):=blk_cell hPe 3 _ rfl;have z4:we.cell? ⟨p,4,none⟩=some (.slice s4 n.paths.length t4):=blk_cell hPe 4 _ rfl;have z5:we.cell? ⟨p,5,none⟩=some (.slice yb n.fares.prods.length yc):=blk_cell hPe 5 _ rfl;have z6:we.cell? ⟨p,6,none⟩=some (.int .i64 n.fares.disc):=blk_cell hPe 6 _ rfl;have z7:we.cell? ⟨p,7,none⟩=some (.int .i64 n.fares.within):=blk_cell hPe 7 _ rfl;have z8:we.cell? ⟨p,8,none⟩=some (.int .i64 n.fares.cap):=blk_cell hPe 8 _ rfl;have g0:we.frozen? ⟨w.heap.size+1,0,none⟩=false:=Lib.frozen_of_heap hZe 0;have y0:we.cell? ⟨w.heap.size+1,0,none⟩=some (.slice none 0 0):=blk_cell hZe 0 _ rfl;have g1:we.frozen? ⟨w.heap.size+1,1,none⟩=false:=Lib.frozen_of_heap hZe 1;have y1:we.cell? ⟨w.heap.size+1,1,none⟩=some (.slice none 0 0):=blk_cell hZe 1 _ rfl;have g2:we.frozen? ⟨w.heap.size+1,2,none⟩=false:=Lib.frozen_of_heap hZe 2;have y2:we.cell? ⟨w.heap.size+1,2,none⟩=some (.slice none 0 0):=blk_cell hZe 2 _ rfl;have g3:we.frozen? ⟨w.heap.size+1,3,none⟩=false:=Lib.frozen_of_heap hZe 3;have y3:we.cell? ⟨w.heap.size+1,3,none⟩=some (.slice none 0 0):=blk_cell hZe 3 _ rfl;have g4:we.frozen? ⟨w.heap.size+1,4,none⟩=false:=Lib.frozen_of_heap hZe 4;have y4:we.cell? ⟨w.heap.size+1,4,none⟩=some (.slice none 0 0):=blk_cell hZe 4 _ rfl;have g5:we.frozen? ⟨w.heap.size+1,5,none⟩=false:=Lib.frozen_of_heap hZe 5;have y5:we.cell? ⟨w.heap.size+1,5,none⟩=some (.slice none 0 0):=blk_cell hZe 5 _ rfl;have g6:we.frozen? ⟨w.heap.size+1,6,none⟩=false:=Lib.frozen_of_heap hZe 6;have y6:we.cell? ⟨w.heap.size+1,6,none⟩=some (.int .i64 0):=blk_cell hZe 6 _ rfl;have g7:we.frozen? ⟨w.heap.size+1,7,none⟩=false:=Lib.frozen_of_heap hZe 7;have y7:we.cell? ⟨w.heap.size+1,7,none⟩=some (.int .i64 0):=blk_cell hZe 7 _ rfl;have g8:we.frozen? ⟨w.heap.size+1,8,none⟩=false:=Lib.frozen_of_heap hZe 8;have y8:we.cell? ⟨w.heap.size+1,8,none⟩=some (.int .i64 0):=blk_cell hZe 8 _ rfl;obtain⟨P9,G9⟩:=put9 hZe (.slice s0 n.stops.length t0) (.slice s1 n.routes.length t1) (.slice s2 rs.length t2) (.slice s3 n.links.length t3) (.slice s4 n.paths.length t4) (.slice yb n.fares.prods.length yc) (.int .i64 n.fares.disc) (.int .i64 n.fares.within) (.int .i64 n.fares.cap);have HF:=Lib.hid (And.intro P9 (And.intro G9 (And.intro hGe (And.intro hPe hZe))));clear P9 G9 hGe hPe hZe;go_wp2_with fail;refine bodyPost_ret (results_cell_row rfl _ _ (w.heap.size+1) 54 _ (0,0) _ rfl HF.out.1 Tryz.underlying54 rfl (by kernel_rfl)) rfl ?_;obtain⟨P9,G9,hGe,hPe,hZe⟩:=HF.out;obtain⟨q1,q2,q3,q4,q5,hPx,G0,G1,G3,G4,hBW⟩:=HQ.out;clear HF HQ;have kb: ∀ {e:TypeId} {sz:Nat} {v:Value} {k9:Nat} {xs:List Value},54≠e→RowIn wd w.heap.size e sz v k9 xs→RowIn _ w.heap.size e sz v k9 xs:=fun hne hr=>
     have h2:=hr.same fun b hb=>hGe.block b (hr.lt b hb).2 (fun e2=>hr.ne hPd hne (hb.trans e2))
     h2.same fun b hb=>G9.block b (h2.lt b hb).2 (fun e2=>h2.ne hZe hne (hb.trans e2))
    refine⟨⟨.slice s0 n.stops.length t0, .slice s1 n.routes.length t1, .slice s2 rs.length t2, .slice s3 n.links.length t3, .slice s4 n.paths.length t4, .slice yb n.fares.prods.length yc⟩,rs',rfl,⟨kb (by decide) (G0.bl BC),kb (by decide) (G1.bl BC),⟨by rw[q1];exact kb (by decide) (q3.bl BC),fun x hx=>kb (by decide) ((q4 x hx).bl BC)⟩,RD.out.same.trans q2.symm,kb (by decide) (G3.bl BC),kb (by decide) (G4.bl BC),kb (by decide) f,q5⟩, ?_⟩;have hz1:=BC.size;have hz2:=hGe.size;exact((hBW.trans (BC.mono hzw)).grown hGe (by omega) (fun q hq=>by simp only[Option.some.injEq]at hq;omega)).grown G9 (by omega) (fun q hq=>by simp only[Option.some.injEq]at hq;omega)
end Go.Proofs.YtncbcmiflffakaaGreat
