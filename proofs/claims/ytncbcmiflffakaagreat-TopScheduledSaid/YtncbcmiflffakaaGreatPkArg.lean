/-
  What the laws of top need of TopArgs. Conditions: those of each lemma.
-/
import Derived.Test.YtncbcmiflffakaaGreatPkCkC
import Derived.Test.YtncbcmiflffakaaGreatPkIbA
import Derived.Deep.Slices
import Derived.Deep.Fields
import Derived.ChangeSame
import Derived.Lib.SmallJoins
import Derived.ProofKit
import Derived.OpenShut
set_option maxRecDepth 1000000
set_option maxHeartbeats 32000000
namespace Go.Proofs.YtncbcmiflffakaaGreat
open Go.RowKit
open Frq Thr Tt
section
open Go.ChangeShapes Go.WideShapes Go.Deep Go.Joins
variable {H:Type} {enc:TypeId×Value→H} {P:Program} {w:World} {base:Nat} {spare:Nat→Bool} {held:Bool}
theorem list_of {α:Type} {R:Nat→α→Prop}: ∀ (n:Nat),(∀ i,i<n→ ∃ x,R i x)→ ∃ xs:List α,xs.length=n∧ ∀ i x,xs[i]? =some x→R i x
 |0,_=>⟨[],rfl,fun i x h=>by simp at h⟩
 |n+1,h=>by
  obtain⟨xs,hl,hx⟩:=list_of n fun i hi=>h i (by omega)
  obtain⟨y,hy⟩:=h n (by omega);refine⟨xs++[y],by simp[hl],fun i x hi=>?_⟩;by_cases hin:i<n
  ·
   rw[List.getElem?_append_left (by omega)]at hi;exact hx i x hi
  ·
   have hii:i<(xs++[y]).length:=(List.getElem?_eq_some_iff.1 hi).1;have:i=n:=by simp at hii;omega
   subst this;rw[List.getElem?_append_right (by omega),hl,Nat.sub_self]at hi;simp at hi
   subst hi;exact hy
theorem read_fields {t:TypeId} {fs:Array Field} {fuel:Nat} {cs:List Value} {x:DataW H×List MemPlace} (ht:P.underlying t=some (.struct fs)) (h:DataW.trod enc P w base spare held fuel t cs=some x):
  ∃ n,∀ (j:Nat) (f:Field),fs[j]? =some f→ ∃ y:DataW H×List MemPlace,DataW.trod enc P w base spare held n f.type ((cs.drop f.offset).take (P.cellsOf f.type))=some y:=by
 obtain⟨ys,k,-,-,-,hyl,hf⟩:=DataW.trod_struct ht h;refine⟨k,fun j f hj=>?_⟩;have hjl:j<fs.size:=(Array.getElem?_eq_some_iff.1 hj).1;exact⟨_,(hf j f hj).trans (List.getElem?_eq_getElem (by omega))⟩
theorem read_sl {α:Type} {cells:α→List Value} {sz:Nat} (hs: ∀ x,(cells x).length=sz) (h0:0<sz) (Q:α→Prop) {t e:TypeId} {fuel:Nat} {v:Value} {x:DataW H×List MemPlace}
  (ht:P.underlying t=some (.slice e)) (hC:P.cellsOf e=sz)
  (helem: ∀ (n:Nat) (vs:List Value) (x:DataW H×List MemPlace),vs.length=sz→DataW.trod enc P w base spare held n e vs=some x→ ∃ y:α,Q y∧vs=cells y)
  (h:DataW.trod enc P w base spare held fuel t [v]=some x): ∃ xs:List α,SlIn cells sz w.heap.size w v xs∧ ∀ y∈xs,Q y:=by
 rcases open_slice ht h with⟨hcs,-⟩|⟨a,len,cap,m,n,D,Pl,hcs,-,hl,hm,hmm,-,hi⟩
 ·
  rw[List.cons.injEq]at hcs;rw[hcs.1];exact⟨[],slIn_nil,by simp⟩
 ·
  rw[List.cons.injEq]at hcs;rw[hcs.1];have hlm:len≤m:=by rw[hmm];split<;>omega
  obtain⟨xs,hxl,hx⟩:=list_of (R:=fun i (y:α)=>Q y∧ ∀ j u,(cells y)[j]? =some u→w.cell? (a.add (i*sz+j))=some u) len fun i hil=>by
   obtain⟨vs,hc,hrd⟩:=hi i (by omega);rw[hC]at hc;obtain⟨-,hvl,hat⟩:=World.cells?_some hc;obtain⟨y,hQ,rfl⟩:=helem _ vs _ hvl hrd;refine⟨y,hQ,fun j u hu=>?_⟩;have hjl:j<(cells y).length:=(List.getElem?_eq_some_iff.1 hu).1;have h1:=hat j (by rw[←hs y];exact hjl);rw[hu,Go.Deep.add_add]at h1;exact h1
  refine⟨xs,⟨some a,cap,by rw[hxl],by omega,hm,fun hpos=>?_⟩,fun y hy=>?_⟩
  ·
   obtain⟨y0,hy0⟩: ∃ y0,xs[0]? =some y0:=⟨_,List.getElem?_eq_getElem hpos⟩;obtain⟨u0,hu0⟩: ∃ u0,(cells y0)[0]? =some u0:=⟨_,List.getElem?_eq_getElem (by rw[hs];exact h0)⟩;have hc0:=(hx 0 y0 hy0).2 0 u0 hu0;rw[show a.add (0*sz+0)=a by simp[Addr.add]]at hc0;obtain⟨b,o,spot⟩:=a;have hsp:spot=none:=by
    unfold World.cell? at hc0;split at hc0
    ·
     cases spot with
     |none=>rfl
     |some s=>simp at hc0
    · cases hc0
   subst hsp;refine⟨b,o,rfl,World.block_lt_of_cell? w _ hc0,fun i y hy j u hu=>?_⟩;have:=(hx i y hy).2 j u hu;unfold Addr.add at this;split at this
   · rename_i k;rw[show o+i*sz+j=o by omega];exact this
   · rw[Nat.add_assoc];exact this
  ·
   obtain⟨i,hi⟩:=List.getElem?_of_mem hy;exact(hx i y hi).1
theorem int_ok {x:Int} (h:(Lit.int .i64 x).wf=true):isInt x:=by
 have hmin:IntKind.i64.min= -9223372036854775808:=rfl;have hmax:IntKind.i64.max=9223372036854775807:=rfl;simp only[Lit.wf,Bool.and_eq_true,decide_eq_true_eq]at h;unfold isInt;omega
end
section
open Go.ChangeShapes Go.WideShapes Go.Deep Go.Joins
variable {H:Type} {enc:TypeId×Value→H} {w:World} {base:Nat} {spare:Nat→Bool} {held:Bool}
theorem c_str:Tryz.prog.cellsOf 9=1:=by kernel_rfl
theorem c_int:Tryz.prog.cellsOf 3=1:=by kernel_rfl
theorem c_bool:Tryz.prog.cellsOf 4=1:=by kernel_rfl
theorem tk_one {vs:List Value} {j:Nat} {v:Value} (h:vs[j]? =some v):(vs.drop j).take 1=[v]:=by
 obtain⟨hj,rfl⟩:=List.getElem?_eq_some_iff.1 h;rw[List.drop_eq_getElem_cons hj];rfl
theorem f_one {n:Nat} {t:TypeId} {vs:List Value} {j:Nat} (h: ∃ y:DataW H×List MemPlace,DataW.trod enc Tryz.prog w base spare held n t ((vs.drop j).take (Tryz.prog.cellsOf t))=some y) (hc:Tryz.prog.cellsOf t=1) {v:Value} (hv:vs[j]? =some v): ∃ y:DataW H×List MemPlace,DataW.trod enc Tryz.prog w base spare held n t [v]=some y:=by
 obtain⟨y,h⟩:=h;rw[hc,tk_one hv]at h;exact⟨y,h⟩
theorem f_int {n:Nat} {vs:List Value} {j:Nat} (h: ∃ y:DataW H×List MemPlace,DataW.trod enc Tryz.prog w base spare held n 3 ((vs.drop j).take (Tryz.prog.cellsOf 3))=some y) {v:Value} (hv:vs[j]? =some v): ∃ a,v= .int .i64 a∧isInt a:=by
 obtain⟨y,h⟩:=f_one h c_int hv;obtain⟨a,e,-,wf⟩:=DataW.trod_int Tryz.underlying3 h;exact⟨a,(List.cons.inj e).1,int_ok wf⟩
theorem f_str {n:Nat} {vs:List Value} {j:Nat} (h: ∃ y:DataW H×List MemPlace,DataW.trod enc Tryz.prog w base spare held n 9 ((vs.drop j).take (Tryz.prog.cellsOf 9))=some y) {v:Value} (hv:vs[j]? =some v): ∃ a:ByteArray,v= .string a∧a.data.toList.length≤9223372036854775807:=by
 obtain⟨y,h⟩:=f_one h c_str hv;obtain⟨a,e,-,wf⟩:=DataW.trod_string Tryz.underlying9 h;exact⟨a,(List.cons.inj e).1,by unfold maxLen at wf;simpa using wf⟩
theorem f_bool {n:Nat} {vs:List Value} {j:Nat} (h: ∃ y:DataW H×List MemPlace,DataW.trod enc Tryz.prog w base spare held n 4 ((vs.drop j).take (Tryz.prog.cellsOf 4))=some y) {v:Value} (hv:vs[j]? =some v): ∃ a:Bool,v= .bool a:=by
 obtain⟨y,h⟩:=f_one h c_bool hv;obtain⟨a,e,-⟩:=DataW.trod_bool Tryz.underlying4 h;exact⟨a,(List.cons.inj e).1⟩
theorem el_stop {n:Nat} {vs:List Value} {x:DataW H×List MemPlace} (hl:vs.length=4) (h:DataW.trod enc Tryz.prog w base spare held n 91 vs=some x): ∃ y,y.id.length≤9223372036854775807∧vs=stopCells y:=by
 obtain⟨k,hg⟩:=read_fields Tryz.underlying91 h;match vs,hl with
 |[c0,c1,c2,c3],_=>
  obtain⟨a0,rfl,w0⟩:=f_str (hg 0 _ rfl) rfl;obtain⟨a1,rfl,w1⟩:=f_int (hg 1 _ rfl) rfl;obtain⟨a2,rfl⟩:=f_bool (hg 2 _ rfl) rfl;obtain⟨a3,rfl,w3⟩:=f_int (hg 3 _ rfl) rfl;exact⟨⟨a0.data.toList,a1,a2,a3⟩,w0,rfl⟩
theorem el_route {n:Nat} {vs:List Value} {x:DataW H×List MemPlace} (hl:vs.length=3) (h:DataW.trod enc Tryz.prog w base spare held n 93 vs=some x): ∃ y,y.id.length≤9223372036854775807∧vs=routeCells y:=by
 obtain⟨k,hg⟩:=read_fields Tryz.underlying93 h;match vs,hl with
 |[c0,c1,c2],_=>
  obtain⟨a0,rfl,w0⟩:=f_str (hg 0 _ rfl) rfl;obtain⟨a1,rfl,w1⟩:=f_int (hg 1 _ rfl) rfl;obtain⟨a2,rfl⟩:=f_bool (hg 2 _ rfl) rfl;exact⟨⟨a0.data.toList,a1,a2⟩,w0,rfl⟩
theorem el_exc {n:Nat} {vs:List Value} {x:DataW H×List MemPlace} (hl:vs.length=3) (h:DataW.trod enc Tryz.prog w base spare held n 120 vs=some x): ∃ y,(isInt y.cal∧isInt y.day)∧vs=excCells y:=by
 obtain⟨k,hg⟩:=read_fields Tryz.underlying120 h;match vs,hl with
 |[c0,c1,c2],_=>
  obtain⟨a0,rfl,w0⟩:=f_int (hg 0 _ rfl) rfl;obtain⟨a1,rfl,w1⟩:=f_int (hg 1 _ rfl) rfl;obtain⟨a2,rfl⟩:=f_bool (hg 2 _ rfl) rfl;exact⟨⟨a0,a1,a2⟩,⟨w0,w1⟩,rfl⟩
theorem el_call {n:Nat} {vs:List Value} {x:DataW H×List MemPlace} (hl:vs.length=5) (h:DataW.trod enc Tryz.prog w base spare held n 68 vs=some x): ∃ y,okT y∧vs=callCells y:=by
 obtain⟨k,hg⟩:=read_fields Tryz.underlying68 h;match vs,hl with
 |[c0,c1,c2,c3,c4],_=>
  obtain⟨a0,rfl,w0⟩:=f_int (hg 0 _ rfl) rfl;obtain⟨a1,rfl,w1⟩:=f_int (hg 1 _ rfl) rfl;obtain⟨a2,rfl,w2⟩:=f_int (hg 2 _ rfl) rfl;obtain⟨a3,rfl⟩:=f_bool (hg 3 _ rfl) rfl;obtain⟨a4,rfl⟩:=f_bool (hg 4 _ rfl) rfl;exact⟨⟨a0,a1,a2,a3,a4⟩,⟨w1,w2⟩,rfl⟩
theorem el_freq {n:Nat} {vs:List Value} {x:DataW H×List MemPlace} (hl:vs.length=4) (h:DataW.trod enc Tryz.prog w base spare held n 124 vs=some x): ∃ y,True∧vs=freqCells y:=by
 obtain⟨k,hg⟩:=read_fields Tryz.underlying124 h;match vs,hl with
 |[c0,c1,c2,c3],_=>
  obtain⟨a0,rfl,w0⟩:=f_int (hg 0 _ rfl) rfl;obtain⟨a1,rfl,w1⟩:=f_int (hg 1 _ rfl) rfl;obtain⟨a2,rfl,w2⟩:=f_int (hg 2 _ rfl) rfl;obtain⟨a3,rfl,w3⟩:=f_int (hg 3 _ rfl) rfl;exact⟨⟨a0,a1,a2,a3⟩,trivial,rfl⟩
theorem el_thr {n:Nat} {vs:List Value} {x:DataW H×List MemPlace} (hl:vs.length=2) (h:DataW.trod enc Tryz.prog w base spare held n 130 vs=some x): ∃ y,(isInt y.frm∧isInt y.to)∧vs=thrCells y:=by
 obtain⟨k,hg⟩:=read_fields Tryz.underlying130 h;match vs,hl with
 |[c0,c1],_=>
  obtain⟨a0,rfl,w0⟩:=f_int (hg 0 _ rfl) rfl;obtain⟨a1,rfl,w1⟩:=f_int (hg 1 _ rfl) rfl;exact⟨⟨a0,a1⟩,⟨w0,w1⟩,rfl⟩
theorem el_gua {n:Nat} {vs:List Value} {x:DataW H×List MemPlace} (hl:vs.length=3) (h:DataW.trod enc Tryz.prog w base spare held n 137 vs=some x): ∃ y,(isInt y.frm∧isInt y.to∧isInt y.stop)∧vs=guaCells y:=by
 obtain⟨k,hg⟩:=read_fields Tryz.underlying137 h;match vs,hl with
 |[c0,c1,c2],_=>
  obtain⟨a0,rfl,w0⟩:=f_int (hg 0 _ rfl) rfl;obtain⟨a1,rfl,w1⟩:=f_int (hg 1 _ rfl) rfl;obtain⟨a2,rfl,w2⟩:=f_int (hg 2 _ rfl) rfl;exact⟨⟨a0,a1,a2⟩,⟨w0,w1,w2⟩,rfl⟩
theorem el_path {n:Nat} {vs:List Value} {x:DataW H×List MemPlace} (hl:vs.length=4) (h:DataW.trod enc Tryz.prog w base spare held n 97 vs=some x): ∃ y,(isInt y.frm∧isInt y.to)∧vs=pathCells y:=by
 obtain⟨k,hg⟩:=read_fields Tryz.underlying97 h;match vs,hl with
 |[c0,c1,c2,c3],_=>
  obtain⟨a0,rfl,w0⟩:=f_int (hg 0 _ rfl) rfl;obtain⟨a1,rfl,w1⟩:=f_int (hg 1 _ rfl) rfl;obtain⟨a2,rfl,w2⟩:=f_int (hg 2 _ rfl) rfl;obtain⟨a3,rfl⟩:=f_bool (hg 3 _ rfl) rfl;exact⟨⟨a0,a1,a2,a3⟩,⟨w0,w1⟩,rfl⟩
theorem el_prod {n:Nat} {vs:List Value} {x:DataW H×List MemPlace} (hl:vs.length=6) (h:DataW.trod enc Tryz.prog w base spare held n 142 vs=some x): ∃ y,y.id.length≤9223372036854775807∧vs=prodCells y:=by
 obtain⟨k,hg⟩:=read_fields Tryz.underlying142 h;match vs,hl with
 |[c0,c1,c2,c3,c4,c5],_=>
  obtain⟨a0,rfl,w0⟩:=f_str (hg 0 _ rfl) rfl;obtain⟨a1,rfl,w1⟩:=f_int (hg 1 _ rfl) rfl;obtain⟨a2,rfl,w2⟩:=f_int (hg 2 _ rfl) rfl;obtain⟨a3,rfl,w3⟩:=f_int (hg 3 _ rfl) rfl;obtain⟨a4,rfl,w4⟩:=f_int (hg 4 _ rfl) rfl;obtain⟨a5,rfl,w5⟩:=f_int (hg 5 _ rfl) rfl;exact⟨⟨a0.data.toList,a1,a2,a3,a4,a5⟩,w0,rfl⟩
theorem el_cal {n:Nat} {vs:List Value} {x:DataW H×List MemPlace} (hl:vs.length=10) (h:DataW.trod enc Tryz.prog w base spare held n 114 vs=some x): ∃ y,y.id.length≤9223372036854775807∧vs=calCells y:=by
 obtain⟨k,hg⟩:=read_fields Tryz.underlying114 h;match vs,hl with
 |[c0,c1,c2,c3,c4,c5,c6,c7,c8,c9],_=>
  obtain⟨a0,rfl,w0⟩:=f_str (hg 0 _ rfl) rfl;obtain⟨y1,h1⟩: ∃ y:DataW H×List MemPlace,DataW.trod enc Tryz.prog w base spare held k 112 ((List.drop 1 [.string a0,c1,c2,c3,c4,c5,c6,c7,c8,c9]).take (Tryz.prog.cellsOf 112))=some y:=hg 1 _ rfl;rw[show Tryz.prog.cellsOf 112=7 by kernel_rfl]at h1;obtain⟨ys,m,-,-,-,hyl,hw⟩:=DataW.trod_array Tryz.underlying112 h1;have hk: ∀ d,d<7→ ∃ y:DataW H×List MemPlace,DataW.trod enc Tryz.prog w base spare held m 4 ((List.drop d [c1,c2,c3,c4,c5,c6,c7]).take (Tryz.prog.cellsOf 4))=some y:=fun d hd=>⟨_,by
   have:=(hw d (by omega)).trans (List.getElem?_eq_getElem (by omega));rw[c_bool,Nat.mul_one]at this;rw[c_bool];exact this⟩
  obtain⟨b0,e0⟩:=f_bool (hk 0 (by omega)) rfl;obtain⟨b1,e1⟩:=f_bool (hk 1 (by omega)) rfl;obtain⟨b2,e2⟩:=f_bool (hk 2 (by omega)) rfl;obtain⟨b3,e3⟩:=f_bool (hk 3 (by omega)) rfl;obtain⟨b4,e4⟩:=f_bool (hk 4 (by omega)) rfl;obtain⟨b5,e5⟩:=f_bool (hk 5 (by omega)) rfl;obtain⟨b6,e6⟩:=f_bool (hk 6 (by omega)) rfl;subst e0 e1 e2 e3 e4 e5 e6;obtain⟨a2,rfl,w2⟩:=f_int (hg 2 _ rfl) rfl;obtain⟨a3,rfl,w3⟩:=f_int (hg 3 _ rfl) rfl;exact⟨⟨a0.data.toList,⟨b0,b1,b2,b3,b4,b5,b6⟩,a2,a3⟩,w0,rfl⟩
theorem read_calls {fuel:Nat} {v:Value} {x:DataW H×List MemPlace} (h:DataW.trod enc Tryz.prog w base spare held fuel 46 [v]=some x): ∃ cs,CallsIn w.heap.size w v cs∧ ∀ c∈cs,okT c:=
 read_sl callCells_len (by omega) okT Tryz.underlying46 (by kernel_rfl) (fun _ _ _ hl h=>el_call hl h) h
theorem el_trip {n:Nat} {vs:List Value} {x:DataW H×List MemPlace} (hl:vs.length=5) (h:DataW.trod enc Tryz.prog w base spare held n 63 vs=some x): ∃ y,(TripRd w.heap.size w y∧y.id.data.toList.length≤9223372036854775807)∧vs=tripCells y:=by
 obtain⟨k,hg⟩:=read_fields Tryz.underlying63 h;match vs,hl with
 |[c0,c1,c2,c3,c4],_=>
  obtain⟨a0,rfl,w0⟩:=f_str (hg 0 _ rfl) rfl;obtain⟨a1,rfl,w1⟩:=f_int (hg 1 _ rfl) rfl;obtain⟨a2,rfl,w2⟩:=f_int (hg 2 _ rfl) rfl;obtain⟨a3,rfl⟩:=f_bool (hg 3 _ rfl) rfl;obtain⟨_,h4⟩:=f_one (hg 4 _ rfl) (by kernel_rfl) rfl;obtain⟨cs,hc,ho⟩:=read_calls h4;exact⟨⟨a0,a1,a2,a3,c4,cs⟩,⟨⟨hc,ho⟩,w0⟩,rfl⟩
theorem el_msg {n:Nat} {vs:List Value} {x:DataW H×List MemPlace} (hl:vs.length=13) (h:DataW.trod enc Tryz.prog w base spare held n 48 vs=some x): ∃ y:MsgV,(CallsIn w.heap.size w y.v y.m.calls∧y.m.trip.length≤9223372036854775807)∧vs=msgL y:=by
 obtain⟨k,hg⟩:=read_fields Tryz.underlying48 h;match vs,hl with
 |[c0,c1,c2,c3,c4,c5,c6,c7,c8,c9,c10,c11,c12],_=>
  obtain⟨a0,rfl,w0⟩:=f_int (hg 0 _ rfl) rfl;obtain⟨a1,rfl,w1⟩:=f_int (hg 1 _ rfl) rfl;obtain⟨a2,rfl,w2⟩:=f_int (hg 2 _ rfl) rfl;obtain⟨a3,rfl,w3⟩:=f_int (hg 3 _ rfl) rfl;obtain⟨a4,rfl,w4⟩:=f_int (hg 4 _ rfl) rfl;obtain⟨a5,rfl,w5⟩:=f_str (hg 5 _ rfl) rfl;obtain⟨a6,rfl,w6⟩:=f_int (hg 6 _ rfl) rfl;obtain⟨a7,rfl,w7⟩:=f_int (hg 7 _ rfl) rfl;obtain⟨a8,rfl,w8⟩:=f_int (hg 8 _ rfl) rfl;obtain⟨a9,rfl,w9⟩:=f_int (hg 9 _ rfl) rfl;obtain⟨a10,rfl,w10⟩:=f_int (hg 10 _ rfl) rfl;obtain⟨a11,rfl⟩:=f_bool (hg 11 _ rfl) rfl;obtain⟨_,h12⟩:=f_one (hg 12 _ rfl) (by kernel_rfl) rfl;obtain⟨cs,hc,ho⟩:=read_calls h12;exact⟨⟨⟨a0,a1,a2,a3,a4,a5.data.toList,a6,a7,a8,a9,a10,a11,cs⟩,c12⟩,⟨hc,w5⟩,rfl⟩
theorem read_msgs {fuel:Nat} {v:Value} {x:DataW H×List MemPlace} (h:DataW.trod enc Tryz.prog w base spare held fuel 36 [v]=some x): ∃ xs:List MsgV,MsgsRd w.heap.size w v xs∧ ∀ x∈xs,x.m.trip.length≤9223372036854775807:=by
 obtain⟨xs,h1,h2⟩:=read_sl msgL_len (by omega) _ Tryz.underlying36 (by kernel_rfl) (fun _ _ _ hl h=>el_msg hl h) h;exact⟨xs,⟨h1,fun x hx=>(h2 x hx).1⟩,fun x hx=>(h2 x hx).2⟩
theorem read_tt {r:Reach} {b0:Nat} {v:Value} {d:DataW H} {p:List MemPlace} (hv:Value.okWide Tryz.prog w r b0 35 v) (h:DataW.Trod enc Tryz.prog w base spare held 35 v d p):
  ∃ (V:TtV) (ts:List TripD) (t:TtD),v=ttV V t∧TtRd w.heap.size w V ts t∧TtOk t∧isInt t.fares.disc∧isInt t.fares.within∧isInt t.fares.cap:=by
 obtain⟨vs,rfl,hsz⟩:=okWide_struct Tryz.underlying35 hv;obtain⟨l⟩:=vs;obtain⟨fuel,hf⟩:=h;have hl:l.length=13:=by
  obtain⟨_,_,-,-,h1,-⟩:=DataW.trod_struct Tryz.underlying35 hf;exact h1.trans (by kernel_rfl)
 obtain⟨k,hg⟩:=read_fields Tryz.underlying35 hf;match l,hl with
 |[c0,c1,c2,c3,c4,c5,c6,c7,c8,c9,c10,c11,c12],_=>
  obtain⟨_,h0⟩:=f_one (hg 0 _ rfl) (by kernel_rfl) rfl;obtain⟨l0,s0,q0⟩:=read_sl stopCells_len (by omega) _ Tryz.underlying22 (by kernel_rfl) (fun _ _ _ hl h=>el_stop hl h) h0;obtain⟨_,h1⟩:=f_one (hg 1 _ rfl) (by kernel_rfl) rfl;obtain⟨l1,s1,q1⟩:=read_sl routeCells_len (by omega) _ Tryz.underlying23 (by kernel_rfl) (fun _ _ _ hl h=>el_route hl h) h1;obtain⟨_,h2⟩:=f_one (hg 2 _ rfl) (by kernel_rfl) rfl;obtain⟨l2,s2,q2⟩:=read_sl calCells_len (by omega) _ Tryz.underlying24 (by kernel_rfl) (fun _ _ _ hl h=>el_cal hl h) h2;obtain⟨_,h3⟩:=f_one (hg 3 _ rfl) (by kernel_rfl) rfl;obtain⟨l3,s3,q3⟩:=read_sl excCells_len (by omega) _ Tryz.underlying25 (by kernel_rfl) (fun _ _ _ hl h=>el_exc hl h) h3;obtain⟨_,h4⟩:=f_one (hg 4 _ rfl) (by kernel_rfl) rfl;obtain⟨l4,s4,q4⟩:=read_sl tripCells_len (by omega) _ Tryz.underlying26 (by kernel_rfl) (fun _ _ _ hl h=>el_trip hl h) h4;obtain⟨_,h5⟩:=f_one (hg 5 _ rfl) (by kernel_rfl) rfl;obtain⟨l5,s5,q5⟩:=read_sl freqCells_len (by omega) _ Tryz.underlying27 (by kernel_rfl) (fun _ _ _ hl h=>el_freq hl h) h5;obtain⟨_,h6⟩:=f_one (hg 6 _ rfl) (by kernel_rfl) rfl;obtain⟨l6,s6,q6⟩:=read_sl thrCells_len (by omega) _ Tryz.underlying28 (by kernel_rfl) (fun _ _ _ hl h=>el_thr hl h) h6;obtain⟨_,h7⟩:=f_one (hg 7 _ rfl) (by kernel_rfl) rfl;obtain⟨l7,s7,q7⟩:=read_sl guaCells_len (by omega) _ Tryz.underlying29 (by kernel_rfl) (fun _ _ _ hl h=>el_gua hl h) h7;obtain⟨_,h8⟩:=f_one (hg 8 _ rfl) (by kernel_rfl) rfl;obtain⟨l8,s8,q8⟩:=read_sl pathCells_len (by omega) _ Tryz.underlying30 (by kernel_rfl) (fun _ _ _ hl h=>el_path hl h) h8;obtain⟨y9,h9⟩:=hg 9 _ rfl;replace h9:DataW.trod enc Tryz.prog w base spare held k 33 ((List.drop 9 [c0,c1,c2,c3,c4,c5,c6,c7,c8,c9,c10,c11,c12]).take (Tryz.prog.cellsOf 33))=some y9:=h9
  rw[show Tryz.prog.cellsOf 33=4 by kernel_rfl]at h9;obtain⟨k2,hf2⟩:=read_fields Tryz.underlying33 h9;have hf2: ∀ (j:Nat) (f:Field),_→ ∃ y:DataW H×List MemPlace,DataW.trod enc Tryz.prog w base spare held k2 f.type (([c9,c10,c11,c12].drop f.offset).take (Tryz.prog.cellsOf f.type))=some y:=hf2;obtain⟨_,g9⟩:=f_one (hf2 0 _ rfl) (by kernel_rfl) rfl;obtain⟨l9,s9,q9⟩:=read_sl prodCells_len (by omega) _ Tryz.underlying31 (by kernel_rfl) (fun _ _ _ hl h=>el_prod hl h) g9;obtain⟨a10,rfl,w10⟩:=f_int (hf2 1 _ rfl) rfl;obtain⟨a11,rfl,w11⟩:=f_int (hf2 2 _ rfl) rfl;obtain⟨a12,rfl,w12⟩:=f_int (hf2 3 _ rfl) rfl;refine⟨⟨c0,c1,c2,c3,c4,c5,c6,c7,c8,c9⟩,l4,⟨l0,l1,l2,l3,l4.map xOf,l5.map fun f=>⟨f.trip,f.frm,f.to,f.every⟩,l6.map fun x=>⟨x.frm,x.to⟩,l7,l8,⟨l9,a10,a11,a12⟩⟩,rfl,⟨s0,s1,s2,s3,⟨s4,fun t ht=>(q4 t ht).1⟩,rfl, ?_, ?_,s7,s8,s9⟩,⟨q0,q1,q2, ?_,q9,q3, ?_,q7,q8⟩,w10,w11,w12⟩
  ·
   rw[List.map_map,show(freqOf ∘ fun f:FreqD=>(⟨f.trip,f.frm,f.to,f.every⟩:FreqX))=id from rfl,List.map_id];exact s5
  ·
   rw[List.map_map,show(thruOf ∘ fun x:ThrD=>(⟨x.frm,x.to⟩:ThruX))=id from rfl,List.map_id];exact s6
  ·
   intro x hx;obtain⟨y,hy,rfl⟩:=List.mem_map.1 hx;exact(q4 y hy).2
  ·
   intro x hx;obtain⟨y,hy,rfl⟩:=List.mem_map.1 hx;exact q6 y hy
end
end Go.Proofs.YtncbcmiflffakaaGreat
