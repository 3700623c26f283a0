/-
  What the laws of top need of TopHpA, TopHpB. Conditions: those of each lemma.
-/
import Derived.Test.YtncbcmiflffakaaGreatPkMem
import Derived.Test.YtncbcmiflffakaaGreatPkPlA
import Derived.Deep.MidRow
import Derived.RegionTactic
import Derived.StillTailTactics
import Derived.BigRegion
set_option maxRecDepth 1000000
set_option maxHeartbeats 32000000
namespace Go.Proofs.YtncbcmiflffakaaGreat
open Go.RowKit
open Dj
def nodeCells (x:NodeD):List Value:=[.int .i64 x.node, .int .i64 x.len, .int .i64 x.edg, .int .i64 x.num]
theorem nodeCells_len (x:NodeD):(nodeCells x).length=4:=rfl
def lessB (a b:NodeD):Bool:=decide (a.len<b.len)||(a.len==b.len&&decide (a.edg<b.edg))
def befB (a b:NodeD):Bool:=if lessB a b then true else if lessB b a then false else decide (a.num<b.num)
theorem befB_yes {a b:NodeD} (h:befB a b=true):a.len≤b.len:=by
 unfold befB lessB at h;split at h
 ·
  rename_i k;simp only[Bool.or_eq_true,decide_eq_true_eq,Bool.and_eq_true,beq_iff_eq]at k;omega
 ·
  split at h
  · cases h
  ·
   rename_i k;simp only[Bool.or_eq_true,decide_eq_true_eq,Bool.and_eq_true,beq_iff_eq]at k;omega
theorem befB_no {a b:NodeD} (h:befB a b=false):b.len≤a.len:=by
 unfold befB lessB at h;split at h
 · cases h
 ·
  rename_i k;simp only[Bool.or_eq_true,decide_eq_true_eq,Bool.and_eq_true,beq_iff_eq]at k;omega
abbrev lessF:Value:= .func (.func 167) #[] #[]
theorem less_c (a b:NodeD) (r:Bool) (H:Hid (lessB a b=r)) (w:World):
  Calls Tryz.prog 167 #[.agg #[.int .i64 a.node, .int .i64 a.len, .int .i64 a.edg], .agg #[.int .i64 b.node, .int .i64 b.len, .int .i64 b.edg]] w fun q w'=>q= .returned (.bool r)∧Bl w w':=by
 go_enter Tryz.func167,Tryz.ntmps167
 go_wp2;all_goals
  go_ret;refine⟨ret_bool ?_,bl_alloc (bl_alloc (bl_refl _) _) _⟩;rw[←H.out];unfold lessB;simp_all
def hpC (v:Value) (p:Int):Array Value:= #[lessF,v, .int .i64 p]
structure HpAt (base hb:Nat) (l:List NodeD) (p:Int) (v:Value) (w:World):Prop where
 blk:w.heap[hb]? =some (.cells (hpC v p) 278 (0,0))
 row:w.ownsRow base 280 4 v l.length (l.flatMap nodeCells)
 lo:base≤hb
theorem HpAt.cells {base hb:Nat} {l:List NodeD} {p:Int} {v:Value} {w:World} (h:HpAt base hb l p v w):w.cell? ⟨hb,0,none⟩=some lessF∧w.cell? ⟨hb,1,none⟩=some v∧w.cell? ⟨hb,2,none⟩=some (.int .i64 p):=
 ⟨blk_cell h.blk 0 _ rfl,blk_cell h.blk 1 _ rfl,blk_cell h.blk 2 _ rfl⟩
theorem HpAt.lt {base hb:Nat} {l:List NodeD} {p:Int} {v:Value} {w:World} (h:HpAt base hb l p v w):hb<w.heap.size:=(Array.getElem?_eq_some_iff.1 h.blk).1
theorem ownsRow_bl {w w':World} {base:Nat} {e:TypeId} {size:Nat} {v:Value} {n:Nat} {xs:List Value} (h:w.ownsRow base e size v n xs) (hb:Bl w w'):w'.ownsRow base e size v n xs:=by
 refine⟨h.1, ?_⟩;rcases h.2 with k|⟨g,cap,cur,h1,h2,h3,h4⟩
 · exact .inl k
 · exact .inr ⟨g,cap,cur,h1,h2,blk_bl h3 hb,h4⟩
theorem HpAt.bl {base hb:Nat} {l:List NodeD} {p:Int} {v:Value} {w w':World} (h:HpAt base hb l p v w) (hb':Bl w w'):HpAt base hb l p v w':=
 ⟨blk_bl h.blk hb',ownsRow_bl h.row hb',h.lo⟩
theorem HpAt.at {base hb:Nat} {l:List NodeD} {p:Int} {v:Value} {w:World} (h:HpAt base hb l p v w) {i:Nat} {x:NodeD} (hi:l[i]? =some x):
  ∃ g cap,v= .slice (some ⟨g,0,none⟩) l.length cap∧g<w.heap.size∧base≤g∧l.length≤cap∧cap≤9223372036854775807∧ ∀ (j:Nat) (u:Value),(nodeCells x)[j]? =some u→w.cell? ⟨g,i*4+j,none⟩=some u:=by
 have hl:=(List.getElem?_eq_some_iff.1 hi).1;rcases h.row.2 with⟨-,h0⟩|⟨g,cap,cur,rfl,h2,h3,h4,h5,-⟩
 · omega
 ·
  refine⟨g,cap,rfl,lt_of_block h3,h2,h4,by unfold maxLen at h5;omega,fun j u hu=>?_⟩;have hj:j<4:=by have:=(List.getElem?_eq_some_iff.1 hu).1;rw[nodeCells_len]at this;exact this
  rw[World.ownsRow.cellAt h.row (i*4+j) (by omega)];exact flat_get nodeCells_len hi hu
theorem two_new (w:World) (l1 l2:List Value) (T1 T2:TypeId):
  (∀ (j:Nat) (u:Value),l1[j]? =some u→(((w.alloc (.cells l1.toArray T1)).alloc (.cells l2.toArray T2)).drew).cell? ⟨w.heap.size,j,none⟩=some u)∧
  (∀ (j:Nat) (u:Value),l2[j]? =some u→(((w.alloc (.cells l1.toArray T1)).alloc (.cells l2.toArray T2)).drew).cell? ⟨w.heap.size+1,j,none⟩=some u)∧
  (((w.alloc (.cells l1.toArray T1)).alloc (.cells l2.toArray T2)).drew).heap.size=w.heap.size+2∧Bl w (((w.alloc (.cells l1.toArray T1)).alloc (.cells l2.toArray T2)).drew):=by
 have h1:=heap_alloc_new w (.cells l1.toArray T1);have h2:=heap_alloc_new (w.alloc (.cells l1.toArray T1)) (.cells l2.toArray T2);rw[World.size_alloc]at h2;have b:Bl (w.alloc (.cells l1.toArray T1)) (((w.alloc (.cells l1.toArray T1)).alloc (.cells l2.toArray T2)).drew):=bl_drew (bl_alloc (bl_refl _) _);refine⟨fun j u hu=>((bl_cell b).1 _ _ (by simp)).trans (blk_cell h1 j u (by simpa using hu)),fun j u hu=>blk_cell h2 j u (by simpa using hu),by show((w.alloc _).alloc _).heap.size=_;simp,bl_drew (bl_alloc (bl_alloc (bl_refl _) _) _)⟩
theorem before_c (base hb:Nat) (l:List NodeD) (p:Int) (v:Value) (i k:Nat) (a b:NodeD) (hi:l[i]? =some a) (hk:l[k]? =some b) (r:Bool) (H:Hid (befB a b=r)) (w:World) (hp:HpAt base hb l p v w):
  Calls Tryz.prog 175 #[.pointer (some ⟨hb,0,none⟩), .int .i64 i, .int .i64 k] w fun q w'=>q= .returned (.bool r)∧Bl w w':=by
 obtain⟨g,cap,rfl,hg,-,hc1,hc2,ca⟩:=hp.at hi;obtain⟨g',cap',hv,-,-,-,-,cb⟩:=hp.at hk;obtain⟨rfl⟩:g=g':=by simp only[Value.slice.injEq,Option.some.injEq,Addr.mk.injEq]at hv;exact hv.1.1
 clear hv;have hil:=(List.getElem?_eq_some_iff.1 hi).1;have hkl:=(List.getElem?_eq_some_iff.1 hk).1;obtain⟨e0,e1,e2⟩:=hp.cells;have a0:w.cell? ⟨g,i*4,none⟩=some (.int .i64 a.node):=ca 0 _ rfl;have a1:=ca 1 _ rfl;have a2:=ca 2 _ rfl;have a3:=ca 3 _ rfl;have b0:w.cell? ⟨g,k*4,none⟩=some (.int .i64 b.node):=cb 0 _ rfl;have b1:=cb 1 _ rfl;have b2:=cb 2 _ rfl;have b3:=cb 3 _ rfl;have hlt:=hp.lt;clear hp ca cb hi hk;go_enter Tryz.func175,Tryz.ntmps175
 go_upto_region 1 with fail
 go_cut [7,8] (fun s7 s8 wx=> ∃ b7 b8:Nat,s7= .pointer (some ⟨b7,0,none⟩)∧s8= .pointer (some ⟨b8,0,none⟩)∧(∀ (j:Nat) (u:Value),(nodeCells a)[j]? =some u→wx.cell? ⟨b7,j,none⟩=some u)∧(∀ (j:Nat) (u:Value),(nodeCells b)[j]? =some u→wx.cell? ⟨b8,j,none⟩=some u)∧(b7<wx.heap.size∧b8<wx.heap.size)∧Bl w wx)
 case first=>
  rename_i J0 K0 hJ0 hK0;go_region
  all_goals
   refine hK0 _ _ (Met.intro (hJ0 _ _ ?_));repeat apply Exists.intro
   refine⟨?rel,rfl⟩;case rel=>
    first
     |(have q:=two_new w (nodeCells a) (nodeCells b) 280 280;exact⟨_,_,rfl,rfl,q.1,q.2.1,⟨Nat.lt_of_lt_of_eq (by omega) q.2.2.1.symm,Nat.lt_of_lt_of_eq (by omega) q.2.2.1.symm⟩,q.2.2.2⟩)
     |(have q:=two_new w (nodeCells b) (nodeCells a) 280 280;exact⟨_,_,rfl,rfl,q.2.1,q.1,⟨Nat.lt_of_lt_of_eq (by omega) q.2.2.1.symm,Nat.lt_of_lt_of_eq (by omega) q.2.2.1.symm⟩,q.2.2.2⟩)
 case rest=>
  obtain⟨b7,b8,rfl,rfl,x7,x8,⟨l7,l8⟩,bc⟩:=hcut;have BC:=Lib.hid bc;have f0:wc.cell? ⟨hb,0,none⟩=some lessF:=((bl_cell bc).1 _ _ hlt).trans e0;clear e0 e1 e2 a0 a1 a2 a3 b0 b1 b2 b3;have p0:=x7 0 _ rfl;have p1:=x7 1 _ rfl;have p2:=x7 2 _ rfl;have p3:=x7 3 _ rfl;have q0:=x8 0 _ rfl;have q1:=x8 1 _ rfl;have q2:=x8 2 _ rfl;have q3:=x8 3 _ rfl;clear x7 x8 bc;obtain⟨rab,h1⟩: ∃ x,lessB a b=x:=⟨_,rfl⟩;obtain⟨rba,h2⟩: ∃ x,lessB b a=x:=⟨_,rfl⟩;have HF:=Lib.hid (show(if rab then true else if rba then false else decide (a.num<b.num))=r by rw[←H.out,←h1,←h2];rfl);have H1:=Lib.hid h1;have H2:=Lib.hid h2;clear H h1 h2;go_upto_region 2 with fail
  go_still_tail 8,(by kernel_rfl)
  change wpList _ _ _ _ _ wc.drew;generalize hw2:wc.drew=w2
  have b2:Bl wc w2:=by rw[←hw2];exact bl_drew (bl_refl _)
  have hs2:=b2.size;have B2:=Lib.hid (bl_next BC.out b2);have F0:=Lib.hid (((bl_cell b2).1 _ _ (by have:=BC.out.size;omega)).trans f0);have P:=Lib.hid (And.intro (((bl_cell b2).1 _ _ l7).trans p0) (And.intro (((bl_cell b2).1 _ _ l7).trans p1) (And.intro (((bl_cell b2).1 _ _ l7).trans p2) (((bl_cell b2).1 _ _ l7).trans p3))));have Q:=Lib.hid (And.intro (((bl_cell b2).1 _ _ l8).trans q0) (And.intro (((bl_cell b2).1 _ _ l8).trans q1) (And.intro (((bl_cell b2).1 _ _ l8).trans q2) (((bl_cell b2).1 _ _ l8).trans q3))));have hz:=BC.out.size;clear hw2 b2 p0 p1 p2 p3 q0 q1 q2 q3 f0;cases rab with
  |true=>
   have HT:=Lib.hid (show true=r from HF.out);go_wp2_with (go_at_call 167;with_reducible refine(less_c a b _ H1 _).mono ?_;rintro q w3 ⟨rfl,b3⟩;have B3:=Lib.hid b3;clear b3)
   go_ret;exact⟨ret_bool HT.out,bl_next B2.out B3.out⟩
  |false=>
   go_wp2_with (go_at_call 167;with_reducible refine(less_c a b _ H1 _).mono ?_;rintro q w3 ⟨rfl,b3⟩;have B3:=Lib.hid b3;clear b3)
   have f0:=((bl_cell B3.out).1 _ _ (by omega)).trans F0.out;have p0:=((bl_cell B3.out).1 _ _ (by omega)).trans P.out.1;have p1:=((bl_cell B3.out).1 _ _ (by omega)).trans P.out.2.1;have p2:=((bl_cell B3.out).1 _ _ (by omega)).trans P.out.2.2.1;have p3:=((bl_cell B3.out).1 _ _ (by omega)).trans P.out.2.2.2;have q0:=((bl_cell B3.out).1 _ _ (by omega)).trans Q.out.1;have q1:=((bl_cell B3.out).1 _ _ (by omega)).trans Q.out.2.1;have q2:=((bl_cell B3.out).1 _ _ (by omega)).trans Q.out.2.2.1;have q3:=((bl_cell B3.out).1 _ _ (by omega)).trans Q.out.2.2.2;go_upto_region 4 with fail
   go_still_tail 8,(by kernel_rfl)
   change wpList _ _ _ _ _ w3.drew;have z3:=B3.out.size;clear f0 p0 p1 p2 p3 q0 q1 q2 q3;cases rba with
   |true=>
    have HT:=Lib.hid (show false=r from HF.out);go_wp2_with (go_at_call 167;with_reducible refine(less_c b a _ H2 _).mono ?_;rintro q w4 ⟨rfl,b4⟩;have B4:=Lib.hid b4;clear b4)
    go_ret;exact⟨ret_bool HT.out,bl_next (bl_drew (bl_next B2.out B3.out)) B4.out⟩
   |false=>
    have HT:=Lib.hid (show decide (a.num<b.num)=r from HF.out);go_wp2_with (go_at_call 167;with_reducible refine(less_c b a _ H2 _).mono ?_;rintro q w4 ⟨rfl,b4⟩;have B4:=Lib.hid (show Bl w2 w4 from bl_next (bl_drew B3.out) b4);clear b4;have p3:=((bl_cell B4.out).1 _ _ (by omega)).trans P.out.2.2.2;have q3:=((bl_cell B4.out).1 _ _ (by omega)).trans Q.out.2.2.2)
    go_ret;exact⟨ret_bool HT.out,bl_next B2.out B4.out⟩
end Go.Proofs.YtncbcmiflffakaaGreat
namespace Go.Proofs.YtncbcmiflffakaaGreat
open Go.RowKit
open Dj
theorem blk_set {w:World} {g:Nat} {C:Array Value} {T:TypeId} (h:w.heap[g]? =some (.cells C T (0,0))) (i:Nat) (v:Value):(w.setCell ⟨g,i,none⟩ v).heap[g]? =some (.cells (C.setIfInBounds i v) T (0,0)):=by
 have hlt:=lt_of_block h;have h':w.heap[g]= .cells C T (0,0):=by simpa[Array.getElem?_eq_getElem hlt]using h
 show(w.heap.modify g _)[g]? =_
 rw[Array.getElem?_eq_getElem (by simpa using hlt),Array.getElem_modify_self,h'];rfl
abbrev Gr (g:Nat) (w w':World):Prop:=w.grownBy w' (some g)
theorem gr_bl {g:Nat} {w w':World} (h:Bl w w'):Gr g w w':=⟨h.os,h.tape,h.output,h.size,fun k hk _=>h.block k hk⟩
theorem gr_refl (g:Nat) (w:World):Gr g w w:=gr_bl (bl_refl _)
theorem gr_next {g:Nat} {a b c:World} (h:Gr g a b) (k:Gr g b c):Gr g a c:=
 ⟨k.os.trans h.os,k.tape.trans h.tape,k.output.trans h.output,Nat.le_trans h.size k.size,fun i hi hne=>(k.block i (Nat.lt_of_lt_of_le hi h.size) hne).trans (h.block i hi hne)⟩
theorem gr_set (g:Nat) (w:World) (i:Nat) (v:Value):Gr g w (w.setCell ⟨g,i,none⟩ v):=
 ⟨rfl,rfl,rfl,by simp,fun k _ hne=>Below.heap_setCell w ⟨g,i,none⟩ v k (fun e=>hne (by rw[e]))⟩
def setRun (xs:List Value) (o:Nat):List Value→List Value
 |[]=>xs
 |v::vs=>setRun (xs.set o v) (o+1) vs
def setRunW (w:World) (g o:Nat):List Value→World
 |[]=>w
 |v::vs=>setRunW (w.setCell ⟨g,o,none⟩ v) g (o+1) vs
theorem setRun_mid (C:List Value): ∀ (vs A B:List Value),B.length=vs.length→setRun (A++(B++C)) A.length vs=A++(vs++C)
 |[],A,B,h=>by
  obtain rfl:B=[]:=List.length_eq_zero_iff.1 h;rfl
 |v::vs,A,b::B,h=>by
  unfold setRun;rw[List.set_append_right _ _ (Nat.le_refl _),Nat.sub_self];have:=setRun_mid C vs (A++[v]) B (by simpa using h);rw[List.length_append,List.length_singleton,List.append_assoc]at this;rw[List.cons_append,List.set_cons_zero];refine Eq.trans ?_ (this.trans (by simp));rfl
theorem flat_put {α:Type} {cells:α→List Value} {sz:Nat} (hsz: ∀ x,(cells x).length=sz) {l:List α} {i:Nat} (hi:i<l.length) (y:α):(l.set i y).flatMap cells=setRun (l.flatMap cells) (i*sz) (cells y):=by
 have hlen: ∀ m:List α,(m.flatMap cells).length=m.length*sz:=by
  intro m;induction m with
  |nil=>simp
  |cons c m ih=>rw[List.flatMap_cons,List.length_append,ih,hsz,List.length_cons,Nat.add_mul,Nat.one_mul,Nat.add_comm]
 have e1:l=l.take i++l[i]::l.drop (i+1):=by rw[←List.drop_eq_getElem_cons hi,List.take_append_drop]
 have e2:l.set i y=l.take i++y::l.drop (i+1):=List.set_eq_take_append_cons_drop.trans (if_pos hi);have e3:(l.flatMap cells)=(l.take i).flatMap cells++(cells l[i]++(l.drop (i+1)).flatMap cells):=by
  conv=>lhs;rw[e1]
  rw[List.flatMap_append,List.flatMap_cons]
 have h4:((l.take i).flatMap cells).length=i*sz:=by rw[hlen,List.length_take,Nat.min_eq_left (Nat.le_of_lt hi)]
 rw[e2,e3,List.flatMap_append,List.flatMap_cons,←h4,setRun_mid _ _ _ _ (by rw[hsz,hsz])]
theorem row_run {base:Nat} {e:TypeId} {sz g n cap:Nat}: ∀ (vs:List Value) (w:World) (xs:List Value) (o:Nat),w.ownsRow base e sz (.slice (some ⟨g,0,none⟩) n cap) n xs→
  (setRunW w g o vs).ownsRow base e sz (.slice (some ⟨g,0,none⟩) n cap) n (setRun xs o vs)∧w.grownBy (setRunW w g o vs) (some g)
 |[],w,xs,o,h=>⟨h,⟨rfl,rfl,rfl,Nat.le_refl _,fun _ _ _=>rfl⟩⟩
 |v::vs,w,xs,o,h=>by
  obtain⟨h1,g1⟩:=World.ownsRow.stored h o v;obtain⟨h2,g2⟩:=row_run vs _ _ (o+1) h1;exact⟨h2,g1.trans g2⟩
theorem row_put {α:Type} {cells:α→List Value} {base:Nat} {e:TypeId} {sz g cap:Nat} {w:World} {l:List α} (hsz: ∀ x,(cells x).length=sz) (h:w.ownsRow base e sz (.slice (some ⟨g,0,none⟩) l.length cap) l.length (l.flatMap cells)) {i:Nat} (hi:i<l.length) (y:α):
  (setRunW w g (i*sz) (cells y)).ownsRow base e sz (.slice (some ⟨g,0,none⟩) l.length cap) l.length ((l.set i y).flatMap cells)∧w.grownBy (setRunW w g (i*sz) (cells y)) (some g):=by
 have:=row_run (cells y) w _ (i*sz) h;rw[←flat_put hsz hi y]at this;exact this
theorem HpAt.rowed {base hb:Nat} {l l':List NodeD} {p:Int} {g n cap:Nat} {v':Value} {w w':World} (h:HpAt base hb l p (.slice (some ⟨g,0,none⟩) n cap) w) (hg:w.grownBy w' (some g)) (hr:w'.ownsRow base 280 4 v' l'.length (l'.flatMap nodeCells)) (hv:v'= .slice (some ⟨g,0,none⟩) n cap):HpAt base hb l' p (.slice (some ⟨g,0,none⟩) n cap) w':=by
 subst hv;refine⟨(hg.block hb h.lt ?_).trans h.blk,hr,h.lo⟩;intro e;obtain rfl:hb=g:=by simpa using e
 rcases h.row.2 with⟨k,-⟩|⟨g',cap',cur,hv,-,h3,-⟩
 · cases k
 ·
  simp only[Value.slice.injEq,Option.some.injEq,Addr.mk.injEq]at hv;obtain⟨⟨rfl,-⟩,-⟩:=hv;rw[h.blk]at h3;simp at h3
theorem HpAt.swapped {base hb:Nat} {l:List NodeD} {p:Int} {g cap:Nat} {w:World} (h:HpAt base hb l p (.slice (some ⟨g,0,none⟩) l.length cap) w) {i k:Nat} (hi:i<l.length) (hk:k<l.length) (a b:NodeD):
  HpAt base hb (swp l i k a b) p (.slice (some ⟨g,0,none⟩) l.length cap) (setRunW (setRunW w g (i*4) (nodeCells b)) g (k*4) (nodeCells a)).drew∧w.grownBy (setRunW (setRunW w g (i*4) (nodeCells b)) g (k*4) (nodeCells a)).drew (some g):=by
 have e:(l.set i b).length=l.length:=List.length_set;obtain⟨r1,g1⟩:=row_put nodeCells_len h.row hi b;generalize setRunW w g (i*4) (nodeCells b)=W1 at r1 g1 ⊢
 rw[←e]at r1;obtain⟨r2,g2⟩:=row_put nodeCells_len r1 (Nat.lt_of_lt_of_eq hk e.symm) a;generalize setRunW W1 g (k*4) (nodeCells a)=W2 at r2 g2 ⊢
 rw[e]at r2;have g3:w.grownBy W2.drew (some g):=(g1.trans g2).trans ⟨rfl,rfl,rfl,Nat.le_refl _,fun _ _ _=>rfl⟩;have r3:W2.drew.ownsRow base 280 4 (.slice (some ⟨g,0,none⟩) l.length cap) (swp l i k a b).length ((swp l i k a b).flatMap nodeCells):=by
  rw[swp_len];exact r2.drew
 exact⟨h.rowed g3 r3 rfl,g3⟩
theorem setRunW4 (w:World) (g o:Nat) (a b c d:Value):setRunW w g o [a,b,c,d]=(((w.setCell ⟨g,o,none⟩ a).setCell ⟨g,o+1,none⟩ b).setCell ⟨g,o+2,none⟩ c).setCell ⟨g,o+3,none⟩ d:=rfl
theorem swap_c (base hb:Nat) (l:List NodeD) (p:Int) (g cap:Nat) (i k:Nat) (a b:NodeD) (hi:l[i]? =some a) (hk:l[k]? =some b) (w:World) (hp:HpAt base hb l p (.slice (some ⟨g,0,none⟩) l.length cap) w):
  Calls Tryz.prog 176 #[.pointer (some ⟨hb,0,none⟩), .int .i64 i, .int .i64 k] w fun q w'=>q= .returned (.tuple #[])∧HpAt base hb (swp l i k a b) p (.slice (some ⟨g,0,none⟩) l.length cap) w'∧w.grownBy w' (some g):=by
 obtain⟨g',cap',hv,hg,-,hc1,hc2,ca⟩:=hp.at hi;obtain⟨rfl⟩:g=g':=by simp only[Value.slice.injEq,Option.some.injEq,Addr.mk.injEq]at hv;exact hv.1.1
 obtain⟨rfl⟩:cap=cap':=by simp only[Value.slice.injEq]at hv;exact hv.2.2
 obtain⟨g',cap',hv',-,-,-,-,cb⟩:=hp.at hk;obtain⟨rfl⟩:g=g':=by simp only[Value.slice.injEq,Option.some.injEq,Addr.mk.injEq]at hv';exact hv'.1.1
 clear hv hv';have hil:=(List.getElem?_eq_some_iff.1 hi).1;have hkl:=(List.getElem?_eq_some_iff.1 hk).1;obtain⟨e0,e1,e2⟩:=hp.cells;have a0:w.cell? ⟨g,i*4,none⟩=some (.int .i64 a.node):=ca 0 _ rfl;have a1:=ca 1 _ rfl;have a2:=ca 2 _ rfl;have a3:=ca 3 _ rfl;have b0:w.cell? ⟨g,k*4,none⟩=some (.int .i64 b.node):=cb 0 _ rfl;have b1:=cb 1 _ rfl;have b2:=cb 2 _ rfl;have b3:=cb 3 _ rfl;have hlt:=hp.lt;have HP:=Lib.hid hp;have fr:=fun j=>World.ownsRow.frozenAt hp.row j
 have hab:i=k→a=b:=fun e=>by rw[e,hk]at hi;exact(Option.some.inj hi).symm
 clear hp ca cb hi hk;go_enter Tryz.func176,Tryz.ntmps176
 by_cases hik:i=k
 ·
  subst hik;obtain rfl:=hab rfl;clear hab;go_region
  go_end0;have q:=HP.out.swapped hil hkl a a;simp only[nodeCells,setRunW4]at q;exact⟨rfl,q.1,q.2⟩
 ·
  clear hab;have n0: ¬ k*4=i*4:=by omega
  have n1: ¬ k*4=i*4+1:=by omega
  have n2: ¬ k*4=i*4+2:=by omega
  have n3: ¬ k*4=i*4+3:=by omega
  have n4: ¬ k*4+1=i*4:=by omega
  have n5: ¬ k*4+2=i*4:=by omega
  have n6: ¬ k*4+3=i*4:=by omega
  go_region
  go_end0;have q:=HP.out.swapped hil hkl a b;simp only[nodeCells,setRunW4]at q;exact⟨rfl,q.1,q.2⟩
end Go.Proofs.YtncbcmiflffakaaGreat
