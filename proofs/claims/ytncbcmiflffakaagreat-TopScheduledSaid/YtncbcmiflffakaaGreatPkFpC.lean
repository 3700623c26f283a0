/-
  What the laws of top need of TopFpC, TopFpD, TopFpF. Conditions: those of each lemma.
-/
import Derived.Test.YtncbcmiflffakaaGreatPkFpA
import Derived.Sort.Grow
import Derived.Lib.Small
set_option maxRecDepth 1000000
set_option maxHeartbeats 32000000
namespace Go.Proofs.YtncbcmiflffakaaGreat
open Go.RowKit
open Dj Tt
theorem isnan_c (x:Int) (w:World):Calls Tryz.prog 139 #[.int .i64 x] w fun e w'=>e= .returned (.bool false)∧w'=w:=by
 go_enter Tryz.func139,Tryz.ntmps139
 go_wp2;go_ret;exact⟨by simp,rfl⟩
def cmpI (x y:Int):Int:=if x<y then -1 else if x>y then 1 else 0
theorem compare_c (x y:Int) (w:World):Calls Tryz.prog 121 #[.int .i64 x, .int .i64 y] w fun e w'=>e= .returned (.int .i64 (cmpI x y))∧w'=w:=by
 go_enter Tryz.func121,Tryz.ntmps121
 go_wp2_with (go_at_call 139;refine(isnan_c _ _).mono ?_;rintro e w' ⟨rfl,hw⟩;rw[hw])
 all_goals(go_ret;refine⟨?_,rfl⟩;unfold cmpI;(repeat' split)<;>first|rfl|(exfalso;omega))
def orI (x y z:Int):Int:=if x≠0 then x else if y≠0 then y else z
theorem or_c (x y z:Int) (b cap:Nat) (w:World) (h0:w.cell? ⟨b,0,none⟩=some (.int .i64 x)) (h1:w.cell? ⟨b,1,none⟩=some (.int .i64 y)) (h2:w.cell? ⟨b,2,none⟩=some (.int .i64 z)):
  Calls Tryz.prog 120 #[.slice (some ⟨b,0,none⟩) 3 cap] w fun e w'=>e= .returned (.int .i64 (orI x y z))∧w'=w:=by
 have ex: ∀ v:Int,v≠0→(v != 0)=true:=fun v hv=>by simp[hv]
 have e0:((0:Int) != 0)=false:=rfl;by_cases hx:x=0
 ·
  subst hx;by_cases hy:y=0
  ·
   subst hy;have hr:orI 0 0 z=z:=rfl;rw[hr];by_cases hz:z=0
   ·
    subst hz;clear ex;go_enter Tryz.func120,Tryz.ntmps120
    go_wp2_with fail;refine wp_loop_rounds 4 ?_;rw[rounds_succ];go_wp2;rw[rounds_succ];go_wp2;rw[rounds_succ];go_wp2;rw[rounds_succ];go_wp2;go_ret;exact⟨rfl,rfl⟩
   ·
    have e2:=ex z hz;clear ex hz;go_enter Tryz.func120,Tryz.ntmps120
    go_wp2_with fail;refine wp_loop_rounds 4 ?_;rw[rounds_succ];go_wp2;rw[rounds_succ];go_wp2;rw[rounds_succ];go_wp2;go_ret;exact⟨rfl,rfl⟩
  ·
   have e2:=ex y hy;have hr:orI 0 y z=y:=by unfold orI;rw[if_neg (by simp),if_pos hy]
   rw[hr];clear ex hy hr;go_enter Tryz.func120,Tryz.ntmps120
   go_wp2_with fail;refine wp_loop_rounds 4 ?_;rw[rounds_succ];go_wp2;rw[rounds_succ];go_wp2;go_ret;exact⟨rfl,rfl⟩
 ·
  have e2:=ex x hx;have hr:orI x y z=x:=by unfold orI;rw[if_pos hx]
  rw[hr];clear ex hx hr;go_enter Tryz.func120,Tryz.ntmps120
  go_wp2_with fail;refine wp_loop_rounds 4 ?_;rw[rounds_succ];go_wp2;go_ret;exact⟨rfl,rfl⟩
def footCmp (x y:PathD):Int:=orI (cmpI x.frm y.frm) (cmpI x.to y.to) (cmpI x.secs y.secs)
theorem footcmp_c (x y:PathD) (W:World):Calls Tryz.prog 119 #[.agg (pathCells x).toArray, .agg (pathCells y).toArray] W fun e w'=>e= .returned (.int .i64 (footCmp x y))∧ ∃ q os',w'=Sort.grow (W.drewN q) os':=by
 have hw: ∀ (A C D:Obj),((((W.alloc A).alloc C).drew).alloc D)=Sort.grow (W.drewN 1) #[A,C,D]:=fun A C D=>by
  rw[Sort.alloc_eq_grow,Sort.alloc_eq_grow,Sort.alloc_eq_grow];show Sort.grow (Sort.grow (Sort.grow (W.drewN 1) #[A]) #[C]) #[D]=_
  rw[Sort.grow_grow,Sort.grow_grow];rfl
 have HW:=Lib.hid hw;unfold footCmp;obtain⟨c1,h1⟩: ∃ c,cmpI x.frm y.frm=c:=⟨_,rfl⟩;obtain⟨c2,h2⟩: ∃ c,cmpI x.to y.to=c:=⟨_,rfl⟩;obtain⟨c3,h3⟩: ∃ c,cmpI x.secs y.secs=c:=⟨_,rfl⟩;have K1:=fun w=>compare_c x.frm y.frm w
 have K2:=fun w=>compare_c x.to y.to w
 have K3:=fun w=>compare_c x.secs y.secs w
 rw[h1]at K1;rw[h2]at K2;rw[h3]at K3;rw[h1,h2,h3];have F:=Lib.hid (two_alloc W (pathCells x).toArray (pathCells y).toArray 97 97);have g0:=blk_cell F.out.1 0 _ rfl;have g1:=blk_cell F.out.1 1 _ rfl;have g2:=blk_cell F.out.1 2 _ rfl;have d0:=blk_cell F.out.2.1 0 _ rfl;have d1:=blk_cell F.out.2.1 1 _ rfl;have d2:=blk_cell F.out.2.1 2 _ rfl;have hr: ∃ r,orI c1 c2 c3=r:=⟨_,rfl⟩;obtain⟨r,hr⟩:=hr;have KO:=fun b cap w h0 h1 h2=>or_c c1 c2 c3 b cap w h0 h1 h2
 rw[hr]at KO ⊢;have KK1:=Lib.hid K1;have KK2:=Lib.hid K2;have KK3:=Lib.hid K3;have KKO:=Lib.hid KO;clear hw h1 h2 h3 hr K1 K2 K3 KO;go_enter Tryz.func119,Tryz.ntmps119
 go_upto_region 1 with fail
 generalize hw1:((W.alloc (.cells (pathCells x).toArray 97)).alloc (.cells (pathCells y).toArray 97))=W1 at F g0 g1 g2 d0 d1 d2 ⊢
 have hb0:W.heap.size<W1.drew.heap.size:=lt_of_block F.out.1;have hb1:W.heap.size+1<W1.drew.heap.size:=lt_of_block F.out.2.1;have HW1:=Lib.hid hw1;clear hw1;generalize hwd:W1.drew=wd at hb0 hb1
 have g0:wd.cell? ⟨W.heap.size,0,none⟩=some (.int .i64 x.frm):=by rw[←hwd];exact g0
 have g1:wd.cell? ⟨W.heap.size,1,none⟩=some (.int .i64 x.to):=by rw[←hwd];exact g1
 have g2:wd.cell? ⟨W.heap.size,2,none⟩=some (.int .i64 x.secs):=by rw[←hwd];exact g2
 have d0:wd.cell? ⟨W.heap.size+1,0,none⟩=some (.int .i64 y.frm):=by rw[←hwd];exact d0
 have d1:wd.cell? ⟨W.heap.size+1,1,none⟩=some (.int .i64 y.to):=by rw[←hwd];exact d1
 have d2:wd.cell? ⟨W.heap.size+1,2,none⟩=some (.int .i64 y.secs):=by rw[←hwd];exact d2
 have hS: ∀ w9,Bl wd w9→(fun w9=>w9.cell? ⟨W.heap.size,0,none⟩=some (.int .i64 x.frm)∧w9.cell? ⟨W.heap.size,1,none⟩=some (.int .i64 x.to)∧w9.cell? ⟨W.heap.size,2,none⟩=some (.int .i64 x.secs)∧w9.cell? ⟨W.heap.size+1,0,none⟩=some (.int .i64 y.frm)∧w9.cell? ⟨W.heap.size+1,1,none⟩=some (.int .i64 y.to)∧w9.cell? ⟨W.heap.size+1,2,none⟩=some (.int .i64 y.secs)) w9:=fun w9 h9=>⟨((bl_cell h9).1 _ _ hb0).trans g0,((bl_cell h9).1 _ _ hb0).trans g1,((bl_cell h9).1 _ _ hb0).trans g2,((bl_cell h9).1 _ _ hb1).trans d0,((bl_cell h9).1 _ _ hb1).trans d1,((bl_cell h9).1 _ _ hb1).trans d2⟩
 clear g0 g1 g2 d0 d1 d2;refine startW (fun w9=>w9.cell? ⟨W.heap.size,0,none⟩=some (.int .i64 x.frm)∧w9.cell? ⟨W.heap.size,1,none⟩=some (.int .i64 x.to)∧w9.cell? ⟨W.heap.size,2,none⟩=some (.int .i64 x.secs)∧w9.cell? ⟨W.heap.size+1,0,none⟩=some (.int .i64 y.frm)∧w9.cell? ⟨W.heap.size+1,1,none⟩=some (.int .i64 y.to)∧w9.cell? ⟨W.heap.size+1,2,none⟩=some (.int .i64 y.secs)) 17 (by rw[hwd];exact hS _ (bl_refl _)) (fun hHeld=>?_);rw[hwd]at hHeld ⊢;refine takeW 0 ?_;refine takeW 1 ?_;refine takeW 2 ?_;refine takeW 3 ?_;refine takeW 5 ?_;refine takeW 6 ?_;refine takeW 7 ?_;refine takeW 8 ?_;refine takeW 10 ?_;refine takeW 11 ?_;refine takeW 12 ?_;refine takeW 13 ?_;refine stepW 4 (fun KK hKK=>?_);go_simp;go_at_call 121
 refine(KK1.out _).mono ?_;rintro q w2 ⟨rfl,rfl⟩;refine hKK.out _ _ (hS _ (bl_refl _)) (fun hHeld=>?_);refine stepW 9 (fun KK hKK=>?_);go_simp;go_at_call 121
 refine(KK2.out _).mono ?_;rintro q w2 ⟨rfl,rfl⟩;refine hKK.out _ _ (hS _ (bl_refl _)) (fun hHeld=>?_);refine stepW 14 (fun KK hKK=>?_);go_simp;go_at_call 121
 refine(KK3.out _).mono ?_;rintro q w2 ⟨rfl,rfl⟩;refine hKK.out _ _ (hS _ (bl_refl _)) (fun hHeld=>?_);refine stepW 15 (fun KK hKK=>?_);go_simp;refine hKK.out _ _ (hS _ (bl_alloc (bl_refl _) _)) (fun hHeld=>?_);refine stepW 16 (fun KK hKK=>?_);go_simp;have HN:=heap_alloc_new w2 (.cells #[.int .i64 c1, .int .i64 c2, .int .i64 c3] 3);go_at_call 120
 refine(KKO.out _ _ _ (blk_cell HN 0 _ rfl) (blk_cell HN 1 _ rfl) (blk_cell HN 2 _ rfl)).mono ?_;rintro q w3 ⟨rfl,rfl⟩;refine hKK.out _ _ (hS _ (bl_alloc (bl_refl _) _)) (fun hHeld=>?_);refine lastW (fun KK hKK=>?_);go_simp;refine hKK.out _ _ ?_;go_wp2;go_ret;refine⟨rfl,1,#[.cells (pathCells x).toArray 97, .cells (pathCells y).toArray 97, .cells #[.int .i64 c1, .int .i64 c2, .int .i64 c3] 3], ?_⟩;rw[←hwd,←HW1.out];exact HW.out _ _ _
end Go.Proofs.YtncbcmiflffakaaGreat
namespace Go.Proofs.YtncbcmiflffakaaGreat
open Go.RowKit
open Dj Tt
theorem info_path:(Tryz.prog.info? 97).map (fun i=>(i.zero,i.size,i.bytes))=some (some (.agg #[.int .i64 0, .int .i64 0, .int .i64 0, .bool false]),4,32):=by kernel_rfl
def addL (l:List PathD) (a b n:Int) (f:Bool):List PathD:=if 0<n∧n≤14400 then l++[⟨a,b,n,f⟩]else l
def OutAt (g:Nat) (l:List PathD) (w:World):Prop:= ∃ v,w.heap[g]? =some (.cells #[v] 30 (0,0))∧w.ownsRow (g+1) 97 4 v l.length (l.flatMap pathCells)
theorem add_c (g:Nat) (l:List PathD) (a b n:Int) (f:Bool) (w:World) (hl:l.length≤10000) (h:OutAt g l w):
  Calls Tryz.prog 117 #[.int .i64 a, .int .i64 b, .int .i64 n, .bool f, .pointer (some ⟨g,0,none⟩)] w fun e w'=>e= .returned (.tuple #[])∧OutAt g (addL l a b n f) w'∧Below g w w':=by
 have HH:=Lib.hid h;obtain⟨v,hb,hr⟩:=h;have HB:=Lib.hid hb;have HR:=Lib.hid hr;have c0:w.cell? ⟨g,0,none⟩=some v:=blk_cell hb 0 _ rfl;have fz:w.frozen? ⟨g,0,none⟩=false:=Lib.frozen_of_heap hb 0;obtain⟨i0,hi,hz0,hz1,hz2⟩:=info_parts info_path;have hlt:=lt_of_block hb;have hne:v.ownBlock≠some g:=fun e=>by have:=(World.ownsRow.lt hr _ e).1;omega
 clear hb hr;by_cases h0:0<n
 ·
  by_cases h1:n≤14400
  ·
   have hadd:addL l a b n f=l++[⟨a,b,n,f⟩]:=by unfold addL;rw[if_pos ⟨h0,h1⟩]
   have HA:=Lib.hid hadd;clear hadd;go_enter Tryz.func117,Tryz.ntmps117
   go_wp2_with (at_builtin;refine wpList_append_own_at _ rfl _ _ 30 rfl (g+1) 97 i0 (.agg #[.int .i64 0, .int .i64 0, .int .i64 0, .bool false]) 4 32 Tryz.underlying30 hi hz0 hz1 hz2 rfl (by decide) _ _ _ rfl ((HR.out.alloc _)) ⟨w.heap.size,0,none⟩ 1 1 (pathCells ⟨a,b,n,f⟩) rfl rfl ?c1 ?c2 ?c3 ?c4 ?c5 ?_)
   case c1=>exact World.news_of_block (cs:= #[.int .i64 a, .int .i64 b, .int .i64 n, .bool f]) (heap_alloc_new w _)
   case c2=>simp[pathCells,Value.oneCell']
   case c3=>unfold maxLen;omega
   case c4=>omega
   case c5=>simp;omega
   intro v6 w6 own6 gr6 _ hat6;obtain⟨a6,k6,rfl⟩: ∃ a c,v6= .slice a (l.length+1) c:=by
    rcases own6.2 with⟨q,h0⟩|⟨g',cc,cur,q,-⟩
    · exact absurd h0 (by omega)
    · exact⟨_,_,q⟩
   have hb6:=(gr6.block g (by simp;omega) (fun e=>hne e.symm)).trans (blk_bl HB.out (bl_alloc (bl_refl _) _));have HB6:=Lib.hid hb6;have fz6:w6.frozen? ⟨g,0,none⟩=false:=Lib.frozen_of_heap hb6 0;have hlt6:=lt_of_block hb6;have c6:w6.cell? ⟨g,0,none⟩=some v:=blk_cell hb6 0 _ rfl;have O6:=Lib.hid own6;have hne6:Hid ((Value.slice a6 (l.length+1) k6).ownBlock≠some g):=Lib.hid fun e=>by have:=(World.ownsRow.lt own6 _ e).1;omega
   have B6:Hid (Below g w w6):=by
    have h1:Below g w (w.alloc (.cells #[.int .i64 a, .int .i64 b, .int .i64 n, .bool f] 97)):=(bl_alloc (bl_refl w) _).mono (by omega);exact h1.grown gr6 (by simp;omega) (fun q hq=>by have:=(World.ownsRow.lt HR.out _ hq).1;omega)
   clear own6 gr6 hat6 hb6;go_wp2_with fail;go_end0;refine⟨rfl,⟨_,by have:=blk_set HB6.out 0 (.slice a6 (l.length+1) k6);simpa using this, ?_⟩, ?_⟩
   ·
    rw[HA.out,List.length_append,List.length_singleton,List.flatMap_append];exact O6.out.kept (gr_set g w6 0 _) (.inr hne6.out)
   · exact B6.out.setCell (Nat.le_refl g) _
  ·
   have hadd:addL l a b n f=l:=by unfold addL;rw[if_neg (fun q=>h1 q.2)]
   rw[hadd];clear hadd;go_enter Tryz.func117,Tryz.ntmps117
   go_wp2;go_end0;exact⟨rfl,HH.out,Below.refl _ _⟩
 ·
  have hadd:addL l a b n f=l:=by unfold addL;rw[if_neg (fun q=>h0 q.1)]
  rw[hadd];clear hadd;go_enter Tryz.func117,Tryz.ntmps117
  go_wp2;go_end0;exact⟨rfl,HH.out,Below.refl _ _⟩
end Go.Proofs.YtncbcmiflffakaaGreat
namespace Go.Proofs.YtncbcmiflffakaaGreat
open Go.RowKit
open Dj Tt
def get2 (M:List (List Int)) (a b:Nat):Int:=((M[a]?).bind (·[b]?)).getD 0
def stepC (A F:List (List Int)) (a:Nat) (l:List PathD) (b:Nat):List PathD:=
 if a=b then l else
  if get2 F a b=get2 A a b then addL l a b (get2 A a b) true else addL (addL l a b (get2 A a b) false) a b (get2 F a b) true
def rowC (A F:List (List Int)) (a:Nat) (l:List PathD) (k:Nat):List PathD:=(List.range k).foldl (stepC A F a) l
def cloL (A F:List (List Int)) (n k:Nat):List PathD:=(List.range k).foldl (fun l a=>rowC A F a l n) []
theorem rowC_succ (A F:List (List Int)) (a:Nat) (l:List PathD) (k:Nat):rowC A F a l (k+1)=stepC A F a (rowC A F a l k) k:=by
 unfold rowC;rw[List.range_succ,List.foldl_append];rfl
theorem cloL_succ (A F:List (List Int)) (n k:Nat):cloL A F n (k+1)=rowC A F k (cloL A F n k) n:=by
 unfold cloL;rw[List.range_succ,List.foldl_append];rfl
theorem addL_len (l:List PathD) (a b n:Int) (f:Bool):(addL l a b n f).length≤l.length+1:=by
 unfold addL;split
 ·
  rw[List.length_append];simp
 · omega
theorem stepC_len (A F:List (List Int)) (a:Nat) (l:List PathD) (b:Nat):(stepC A F a l b).length≤l.length+2:=by
 unfold stepC;split
 · omega
 ·
  split
  ·
   have:=addL_len l a b (get2 A a b) true;omega
  ·
   have:=addL_len l a b (get2 A a b) false;have:=addL_len (addL l a b (get2 A a b) false) a b (get2 F a b) true;omega
theorem rowC_len (A F:List (List Int)) (a:Nat) (l:List PathD): ∀ k,(rowC A F a l k).length≤l.length+2*k
 |0=>Nat.le_refl _
 |k+1=>by
  rw[rowC_succ];have:=stepC_len A F a (rowC A F a l k) k;have:=rowC_len A F a l k;omega
theorem cloL_len (A F:List (List Int)) (n:Nat): ∀ k,(cloL A F n k).length≤2*n*k
 |0=>Nat.le_refl _
 |k+1=>by
  rw[cloL_succ];have:=rowC_len A F k (cloL A F n k) n;have:=cloL_len A F n k;rw[Nat.mul_succ];omega
theorem get2_at {M:List (List Int)} {a b:Nat} {r:List Int} {x:Int} (h:M[a]? =some r) (k:r[b]? =some x):get2 M a b=x:=by
 unfold get2;rw[h];show(r[b]?).getD 0=x
 rw[k];rfl
theorem MatIn.below {B:Nat} {w w':World} {v:Value} {M:List (List Int)} (h:MatIn B w v M) (hb:Below B w w'):MatIn B w' v M:=by
 obtain⟨vs,h1,h2,h3⟩:=h;exact⟨vs,h1.below hb,h2,fun i u r hu hr=>SlIn.below (h3 i u r hu hr) hb⟩
theorem MatIn.val {B:Nat} {w:World} {v:Value} {M:List (List Int)} (h:MatIn B w v M) {n:Nat} (hn:M.length=n): ∃ a cap,v= .slice a n cap:=by
 obtain⟨vs,h1,h2,-⟩:=h;obtain⟨a,cap,hv,-,-⟩:=h1.val;exact⟨a,cap,by rw[hv,h2,hn]⟩
def PSort (srt:List PathD→List PathD):Prop:= ∀ (l:List PathD) (v:Value) (base:Nat) (w:World),l.length≤10000→w.ownsRow base 97 4 v l.length (l.flatMap pathCells)→base≤w.heap.size→
 Calls Tryz.prog 118 #[v, .func (.func 119) #[] #[]] w fun e w'=>e= .returned (.tuple #[])∧SlIn pathCells 4 w'.heap.size w' v (srt l)∧Below base w w'
theorem closure_c (srt:List PathD→List PathD) (hsort:Hid (PSort srt)) (vl:Value) (l:List PathD) (n:Nat) (hn:n≤64) (hs:Hid (∀ p∈l,okPath n p)) (hl:l.length≤4096) (B:Nat) (w:World) (hv:SlIn pathCells 4 B w vl l) (hB:B≤w.heap.size):
  Calls Tryz.prog 80 #[vl, .int .i64 n] w fun e w'=> ∃ v' A F,e= .returned v'∧DistM false l n A∧DistM true l n F∧SlIn pathCells 4 w'.heap.size w' v' (srt (cloL A F n n))∧Bl w w':=by
 have HV:=Lib.hid hv;obtain⟨a,cap,rfl,h1,h2⟩:=hv.val;have HD1:=Lib.hid (distances_c _ l n false hn hs hl B w HV.out hB);have HD2:=Lib.hid (fun w1 (h:Bl w w1)=>distances_c _ l n true hn hs hl B w1 (HV.out.below (h.mono hB)) (Nat.le_trans hB h.size));have hnI:(n:Int)≤64:=by omega
 clear hv;go_enter Tryz.func80,Tryz.ntmps80
 go_wp2_with fail;refine HD1.out.mono ?_;rintro q w1 ⟨vA,A,rfl,mA,dA,b1⟩;obtain⟨aA,kA,rfl⟩:=mA.val dA.1;have MA:=Lib.hid mA;have DA:=Lib.hid dA;have B1:=Lib.hid b1;have HD3:=Lib.hid (HD2.out w1 b1);clear mA dA b1 HD1 HD2;go_wp2_with fail;refine HD3.out.mono ?_;rintro q w2 ⟨vF,F,rfl,mF,dF,b2⟩;obtain⟨aF,kF,rfl⟩:=mF.val dF.1;have MF:=Lib.hid mF;have DF:=Lib.hid dF;have B2:=Lib.hid b2;have MA2:=Lib.hid (MatIn.below MA.out b2);clear mF dF b2 HD3;go_wp2_with fail;obtain⟨vsA,sA,lA,rA⟩:=MA2.out;obtain⟨vsF,sF,lF,rF⟩:=MF.out;have SA:=Lib.hid sA;have SF:=Lib.hid sF;have RA:=Lib.hid rA;have RF:=Lib.hid rF;have LA:Hid (vsA.length=n∧vsF.length=n):=Lib.hid ⟨lA.trans DA.out.1,lF.trans DF.out.1⟩;have hz2:Hid (w1.heap.size≤w2.heap.size):=Lib.hid B2.out.size;clear sA sF rA rF lA lF;go_loopw [22] (fun i wr=> ∃ a:Nat,(a≤n∧i= .int .i64 a)∧Hid (OutAt w2.heap.size (cloL A F n a) wr)∧Hid (Bl w2 wr)) (fun i _=>n-(intOf i).toNat)
 case atStart=>exact⟨0,⟨Nat.zero_le _,rfl⟩,Lib.hid ⟨.slice none 0 0,heap_alloc_new w2 _,World.ownsRow_nil _ _ _ _⟩,Lib.hid (bl_alloc (bl_refl _) _)⟩
 case round=>
  obtain⟨a,⟨ha,rfl⟩,HO,HBl⟩:=hrel;by_cases hlt:a<n
  ·
   have hltI:(a:Int)<(n:Int):=by omega
   obtain⟨ba,oa,ua,rfl,hba,hxa,hca⟩:=SlIn.get SA.out (k:=a) (by rw[LA.out.1];exact hlt) HBl.out hz2.out;have ca:wr.cell? ⟨ba,oa+a,none⟩=some ua:=by have:=hca 0 _ rfl;simpa using this
   obtain⟨ra,hra⟩: ∃ r,A[a]? =some r:=⟨_,List.getElem?_eq_getElem (by rw[DA.out.1];exact hlt)⟩;have ia:=RA.out a ua ra hxa hra;have la:ra.length=n:=(DA.out.2 a ra hra).1;obtain⟨aua,kua,hua,-,-⟩:=ia.val;rw[la]at hua;subst hua;have IA:=Lib.hid (And.intro ia (And.intro la hra));clear hca hxa hra ia la;go_wp2_with fail;go_loopw [30] (fun j wx=> ∃ b:Nat,(b≤n∧j= .int .i64 b)∧Hid (OutAt w2.heap.size (rowC A F a (cloL A F n a) b) wx)∧Hid (Bl w2 wx)) (fun j _=>n-(intOf j).toNat)
   case atStart=>exact⟨0,⟨Nat.zero_le _,rfl⟩,HO,HBl⟩
   case round=>
    clear ca;obtain⟨b,⟨hb,rfl⟩,HO2,HB2⟩:=hrel;by_cases hlt2:b<n
    ·
     have hltI2:(b:Int)<(n:Int):=by omega
     obtain⟨bx,ox,x,rfl,-,hx,hcx⟩:=SlIn.get IA.out.1 (k:=b) (by rw[IA.out.2.1];exact hlt2) HB2.out hz2.out;have cx:wr.cell? ⟨bx,ox+b,none⟩=some (.int .i64 x):=by have:=hcx 0 _ rfl;simpa using this
     obtain⟨bf,of,uf,rfl,-,hxf,hcf⟩:=SlIn.get SF.out (k:=a) (by rw[LA.out.2];exact hlt) HB2.out (Nat.le_refl _);have cf:wr.cell? ⟨bf,of+a,none⟩=some uf:=by have:=hcf 0 _ rfl;simpa using this
     obtain⟨rf,hrf⟩: ∃ r,F[a]? =some r:=⟨_,List.getElem?_eq_getElem (by rw[DF.out.1];exact hlt)⟩;have iff:=RF.out a uf rf hxf hrf;have lf:rf.length=n:=(DF.out.2 a rf hrf).1;obtain⟨auf,kuf,huf,-,-⟩:=iff.val;rw[lf]at huf;subst huf;obtain⟨bz,oz,y,rfl,-,hy,hcy⟩:=SlIn.get iff (k:=b) (by rw[lf];exact hlt2) HB2.out (Nat.le_refl _);have cy:wr.cell? ⟨bz,oz+b,none⟩=some (.int .i64 y):=by have:=hcy 0 _ rfl;simpa using this
     have gA:=Lib.hid (get2_at IA.out.2.2 hx);have gF:=Lib.hid (get2_at hrf hy);have hlen:(rowC A F a (cloL A F n a) b).length≤9000:=by
      have h1:=rowC_len A F a (cloL A F n a) b;have h2:=cloL_len A F n a;have h3:2*n*a≤2*n*64:=Nat.mul_le_mul_left _ (by omega);omega
     have hst:=rowC_succ A F a (cloL A F n a) b;generalize hL:rowC A F a (cloL A F n a) b=L at HO2 hlen hst
     unfold stepC at hst;rw[gA.out,gF.out]at hst;have HST:=Lib.hid hst;clear hst hL hx hcx hxf hcf hrf iff lf hy hcy;by_cases hab:a=b
     ·
      subst hab;have hs2:rowC A F a (cloL A F n a) (a+1)=L:=by rw[HST.out,if_pos rfl]
      have HS2:=Lib.hid hs2;clear hs2;go_wp2_with fail;exact⟨⟨a+1,⟨by omega,by go_num⟩,by rw[HS2.out];exact HO2,HB2⟩,by simp only[intOf];omega⟩
     ·
      have habI:((a:Int)==(b:Int))=false:=by rw[beq_eq_false_iff_ne];omega
      have HAB:=Lib.hid hab;clear hab;by_cases hxy:y=x
      ·
       subst hxy;have hs2:rowC A F a (cloL A F n a) (b+1)=addL L a b y true:=by rw[HST.out,if_neg HAB.out,if_pos rfl]
       have HS2:=Lib.hid hs2;have hadd:=Lib.hid (add_c w2.heap.size L a b y true wr (by omega) HO2.out);clear hs2;go_wp2_with (go_at_call 117;refine hadd.out.mono ?_;rintro q w9 ⟨rfl,o9,b9⟩;have O9:=Lib.hid o9;have B9:Hid (Bl w2 w9):=Lib.hid (HB2.out.trans b9);clear o9 b9)
       exact⟨⟨b+1,⟨by omega,by go_num⟩,by rw[HS2.out];exact O9,B9⟩,by simp only[intOf];omega⟩
      ·
       have hs2:rowC A F a (cloL A F n a) (b+1)=addL (addL L a b x false) a b y true:=by rw[HST.out,if_neg HAB.out,if_neg hxy]
       have HS2:=Lib.hid hs2;have e1:(y==x)=false:=by rw[beq_eq_false_iff_ne];exact hxy
       have e2:(y != x)=true:=by rw[bne_iff_ne];exact hxy
       have hadd:=Lib.hid (add_c w2.heap.size L a b x false wr (by omega) HO2.out);have hl2:=addL_len L a b x false;clear hs2 hxy;go_wp2_with fail;go_at_call 117
       refine hadd.out.mono ?_;rintro q w9 ⟨rfl,o9,b9⟩;have B9:Hid (Bl w2 w9):=Lib.hid (HB2.out.trans b9);have hadd2:=Lib.hid (add_c w2.heap.size _ a b y true w9 (by omega) o9);clear o9 b9 hadd;go_wp2_with fail;go_at_call 117
       refine hadd2.out.mono ?_;rintro q w10 ⟨rfl,o10,b10⟩;have O10:=Lib.hid o10;have B10:Hid (Bl w2 w10):=Lib.hid (B9.out.trans b10);clear o10 b10;go_wp2_with fail;exact⟨⟨b+1,⟨by omega,by go_num⟩,by rw[HS2.out];exact O10,B10⟩,by simp only[intOf];omega⟩
    ·
     obtain rfl:b=n:=by omega
     go_wp2_with fail;exact⟨⟨a+1,⟨by omega,by go_num⟩,by rw[cloL_succ];exact HO2,HB2⟩,by simp only[intOf];omega⟩
  ·
   obtain rfl:a=n:=by omega
   obtain⟨v,hb,hr⟩:=HO.out;have c0:wr.cell? ⟨w2.heap.size,0,none⟩=some v:=blk_cell hb 0 _ rfl;have hlen:(cloL A F a a).length≤10000:=by
    have h2:=cloL_len A F a a;have h3:2*a*a≤2*a*64:=Nat.mul_le_mul_left _ (by omega);omega
   have HSO:=Lib.hid (hsort.out _ v _ wr hlen hr (by have:=lt_of_block hb;omega));clear hb hr;go_wp2_with fail;go_at_call 118
   refine HSO.out.mono ?_;rintro q w5 ⟨rfl,s5,b5⟩;have c5:w5.cell? ⟨w2.heap.size,0,none⟩=some v:=(World.cell?_of_block (a:=⟨w2.heap.size,0,none⟩) (b5.block w2.heap.size (by omega))).trans c0;have S5:=Lib.hid s5;have B5:Hid (Bl w2 w5):=Lib.hid (HBl.out.trans (b5.mono (by omega)));clear s5 b5;go_wp2_with fail;go_ret;exact⟨_,A,F,rfl,DA.out,DF.out,S5.out,bl_next (bl_next B1.out B2.out) B5.out⟩
end Go.Proofs.YtncbcmiflffakaaGreat
