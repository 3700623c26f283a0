/-
  What the laws of top need of TopNetM, TopNtA. Conditions: those of each lemma.
-/
import Derived.Test.YtncbcmiflffakaaGreatPkPlB
import Derived.Test.YtncbcmiflffakaaGreatPkRg
import Derived.Test.YtncbcmiflffakaaGreatPkHpA
import Derived.Laws.OwnMore
set_option maxRecDepth 1000000
set_option maxHeartbeats 32000000
namespace Go.Proofs.YtncbcmiflffakaaGreat
open Go.RowKit
open Frq Thr Tt
section
variable {P:Program} {w:World}
theorem run_append_empty (base:Nat) (t ty e:TypeId) (i:TypeInfo) (size:Nat) (ht:P.underlying t=some (.slice e)) (hi:P.info? e=some i)
  (v:Value) (n:Nat) (xs:List Value) (hown:w.ownsRow base e size v n xs) (a:Option Addr) (c:Nat):
  (Builtin.append_ #[t,t] ty #[v, .slice a 0 c]).run P w= .ok v w:=by
 rcases hown.2 with⟨rfl,rfl⟩|⟨g,cap,cur,rfl,_,_,hnc,_⟩
 · cases a<;>simp[Builtin.append_,run_underlying ht,sizeOf,typeInfo,hi,Builtin.lenOf,Builtin.firstCells,loadCells,loadCellsFrom]
 · cases a<;>simp[Builtin.append_,run_underlying ht,sizeOf,typeInfo,hi,Builtin.lenOf,Builtin.firstCells,hnc,storeCells,loadCells,loadCellsFrom]
theorem run_append_sl {α:Type} {cells:α→List Value} {size B:Nat} (hc: ∀ x,(cells x).length=size) (base:Nat) (t ty e:TypeId) (i:TypeInfo) (z:Value) (bytes:Nat) (ht:P.underlying t=some (.slice e)) (hi:P.info? e=some i) (hz:i.zero=some z)
  (hsize:i.size=size) (hby:i.bytes=bytes) (hzs:z.cells.size=size) (hsz:0<size) (v:Value) (n:Nat) (xs:List Value) (hown:w.ownsRow base e size v n xs) (vs:Value) (ys:List α) (h1: ∀ x∈ys,∀ u∈cells x,u.oneCell'=true) (hs:SlIn cells size B w vs ys)
  (h63:n+ys.length≤maxLen) (hbytes:(n+ys.length)*bytes≤140737488355328) (hbase:base≤w.heap.size):
  ∃ v' w',(Builtin.append_ #[t,t] ty #[v,vs]).run P w= .ok v' w'∧w'.ownsRow base e size v' (n+ys.length) (xs++ys.flatMap cells)∧w.grownBy w' v.ownBlock∧(v'= .slice none 0 0↔v= .slice none 0 0∧ys.length=0):=by
 have hfl: ∀ l:List α,(l.flatMap cells).length=l.length*size:=fun l=>by
  induction l with
  |nil=>simp
  |cons x l ih=>rw[List.flatMap_cons,List.length_append,ih,hc,List.length_cons,Nat.add_mul,Nat.one_mul,Nat.add_comm]
 rcases Nat.eq_zero_or_pos ys.length with h0|h0
 ·
  obtain⟨a,c,rfl,-,rfl⟩:=hs.empty h0;exact⟨v,w,run_append_empty base t ty e i size ht hi v n xs hown a c,by rw[List.flatMap_nil,List.append_nil];exact hown,⟨rfl,rfl,rfl,Nat.le_refl _,fun _ _ _=>rfl⟩,⟨fun h=>⟨h,rfl⟩,fun h=>h.1⟩⟩
 ·
  obtain⟨b,o,cap,rfl,-,-,-,hcell⟩:=hs.open h0;have hfc: ∀ (j:Nat) (u:Value),(ys.flatMap cells)[j]? =some u→w.cell? ((⟨b,o,none⟩:Addr).add j)=some u:=fun j u hj=>by
   have hlt:j<ys.length*size:=by rw[←hfl];exact(List.getElem?_eq_some_iff.1 hj).1
   have hd:j / size<ys.length:=(Nat.div_lt_iff_lt_mul hsz).2 hlt;have hm:j%size<size:=Nat.mod_lt _ hsz;obtain⟨y,hx⟩: ∃ y,ys[j / size]? =some y:=⟨_,List.getElem?_eq_getElem hd⟩;have hj':(cells y)[j%size]? =some u:=by
    obtain⟨u',hu'⟩: ∃ u',(cells y)[j%size]? =some u':=⟨_,List.getElem?_eq_getElem (by rw[hc];exact hm)⟩;have:=flat_get hc hx hu';rw[Nat.mul_comm,Nat.div_add_mod]at this;rw[hu',←this,hj]
   have:=hcell (j / size) _ hx (j%size) u hj';rw[Nat.add_assoc,Nat.mul_comm,Nat.div_add_mod]at this;unfold Addr.add;split
   · rename_i h;subst h;exact this
   · exact this
  obtain⟨v',w',hr,h2,h3,h4⟩:=run_append_own (P:=P) w base t ty e i z size bytes ht hi hz hsize hby hzs hsz v n xs hown ⟨b,o,none⟩ ys.length cap (ys.flatMap cells) (hfl ys) hfc (fun u hu=>by
   obtain⟨x,hxm,hx⟩:=List.mem_flatMap.1 hu;exact h1 x hxm u hx) h63 hbytes hbase
  exact⟨v',w',hr,h2,h3,h4⟩
theorem wpList_append_sl {ops:Array Oper} {rest:List Oper} {o:Oper} {a:Act} {Q:Exit→Act→World→Prop} {α:Type} {cells:α→List Value} {size B:Nat} (hgd:o.guard=none) (s x:Operand) (t:TypeId)
  (ho:o.op= .call { callee:= .builtin .append,args:= #[s,x],argTypes:= #[t,t] }) (hc: ∀ x,(cells x).length=size)
  (base:Nat) (e:TypeId) (i:TypeInfo) (z:Value) (bytes:Nat) (ht:P.underlying t=some (.slice e)) (hi:P.info? e=some i) (hz:i.zero=some z) (hsize:i.size=size) (hby:i.bytes=bytes) (hzs:z.cells.size=size) (hsz:0<size)
  (v:Value) (n:Nat) (xs:List Value) (hs:a.eval s=v) (hown:w.ownsRow base e size v n xs) (vs:Value) (ys:List α) (h1: ∀ x∈ys,∀ u∈cells x,u.oneCell'=true) (hx:a.eval x=vs) (hsl:SlIn cells size B w vs ys)
  (h63:n+ys.length≤maxLen) (hbytes:(n+ys.length)*bytes≤140737488355328) (hbase:base≤w.heap.size)
  (h: ∀ v' w',w'.ownsRow base e size v' (n+ys.length) (xs++ys.flatMap cells)→w.grownBy w' v.ownBlock→(v'= .slice none 0 0↔v= .slice none 0 0∧ys.length=0)→wpList P ops Q rest (a.put o.dst v') w'):wpList P ops Q (o::rest) a w:=by
 refine wpList_plain hgd fun K hK=>?_
 obtain⟨v',w',hr,h2,h3,h4⟩:=run_append_sl (P:=P) (w:=w) hc base t o.type e i z bytes ht hi hz hsize hby hzs hsz v n xs hown vs ys h1 hsl h63 hbytes hbase;unfold Oper.wp execOp;simp only[ho,resolve,invoke,builtin,Sem.run_bind,Sem.run_pure,Result.andThen_ok,List.map_toArray,List.map_cons,List.map_nil,hs,hx,hr];exact hK _ _ (h v' w' h2 h3 h4)
end
theorem info_call:(Tryz.prog.info? 68).map (fun i=>(i.zero,i.size,i.bytes))=some (some (.agg #[.int .i64 0, .int .i64 0, .int .i64 0, .bool false, .bool false]),5,32):=by kernel_rfl
structure RunV where
 r:RunD
 v:Value
def runCells (x:RunV):List Value:=[.int .i64 x.r.trip, .int .i64 x.r.day, .int .i64 x.r.inst,str x.r.id, .int .i64 x.r.route, .bool x.r.free, .bool x.r.canc,x.v]
theorem runCells_len (x:RunV):(runCells x).length=8:=rfl
def linkCells (x:LinkD):List Value:=[.int .i64 x.frm, .int .i64 x.frmC, .int .i64 x.dst, .int .i64 x.dstC, .bool x.stay]
theorem linkCells_len (x:LinkD):(linkCells x).length=5:=rfl
structure RunsRd (B:Nat) (w:World) (v:Value) (xs:List RunV):Prop where
 sl:SlIn runCells 8 B w v xs
 calls: ∀ x∈xs,CallsIn B w x.v x.r.calls
theorem RunsRd.below {B:Nat} {w w':World} {v:Value} {xs:List RunV} (h:RunsRd B w v xs) (hb:Below B w w'):RunsRd B w' v xs:=⟨h.sl.below hb,fun x hx=>(h.calls x hx).below hb⟩
theorem RunsRd.mono {B B':Nat} {w:World} {v:Value} {xs:List RunV} (h:RunsRd B w v xs) (hB:B≤B'):RunsRd B' w v xs:=⟨h.sl.mono hB,fun x hx=>(h.calls x hx).mono hB⟩
theorem RunsRd.bl {B:Nat} {w w':World} {v:Value} {xs:List RunV} (h:RunsRd B w v xs) (hb:Bl w w') (hB:B≤w.heap.size):RunsRd B w' v xs:=h.below (hb.mono hB)
structure RunsOwn (base:Nat) (w:World) (v:Value) (xs:List RunV):Prop where
 row:w.ownsRow base 66 8 v xs.length (xs.flatMap runCells)
 calls: ∀ x∈xs,w.ownsRow base 68 5 x.v x.r.calls.length (x.r.calls.flatMap callCells)
theorem RunsOwn.rd {base:Nat} {w:World} {v:Value} {xs:List RunV} (h:RunsOwn base w v xs):RunsRd w.heap.size w v xs:=⟨slIn_own runCells_len h.row,fun x hx=>slIn_own callCells_len (h.calls x hx)⟩
theorem own_ne {w:World} {g:Nat} {C:Array Value} {T e:TypeId} (h:w.heap[g]? =some (.cells C T (0,0))) (hte:T≠e) {base size k:Nat} {v:Value} {xs:List Value} (hr:w.ownsRow base e size v k xs):v.ownBlock≠some g:=by
 rcases hr.2 with⟨rfl,_⟩|⟨g',cap,cur,rfl,_,hgb,_⟩
 · simp[Value.ownBlock]
 ·
  intro e';obtain rfl:g'=g:=by simpa[Value.ownBlock]using e'
  have:=h.symm.trans hgb;simp at this
  exact hte this.2
theorem own_apart {w:World} {e e':TypeId} (hee:e≠e') {base size k base' size' k':Nat} {v v':Value} {xs xs':List Value} (hr:w.ownsRow base e size v k xs) (hr':w.ownsRow base' e' size' v' k' xs') {g:Nat} (hg:v.ownBlock=some g):v'.ownBlock≠some g:=by
 rcases hr.2 with⟨rfl,_⟩|⟨g',cap,cur,rfl,_,hgb,_⟩
 · simp[Value.ownBlock]at hg
 ·
  obtain rfl:g'=g:=by simpa[Value.ownBlock]using hg
  exact own_ne hgb hee hr'
theorem own_kept {w w':World} {row:Option Nat} {base:Nat} {e:TypeId} {size n:Nat} {v:Value} {xs:List Value} (h:w.ownsRow base e size v n xs) (hg:w.grownBy w' row) (hne: ∀ b,v.ownBlock=some b→row≠some b):w'.ownsRow base e size v n xs:=by
 refine World.ownsRow.kept h hg ?_;cases hv:v.ownBlock with
 |none=>exact .inl rfl
 |some k=>exact .inr (fun e=>hne k hv e.symm)
theorem own_bl {w w':World} {base:Nat} {e:TypeId} {size n:Nat} {v:Value} {xs:List Value} (h:w.ownsRow base e size v n xs) (hb:Bl w w'):w'.ownsRow base e size v n xs:=
 own_kept h (row:=none) ⟨hb.os,hb.tape,hb.output,hb.size,fun k hk _=>hb.block k hk⟩ (fun _ _ e=>by cases e)
theorem RunsOwn.bl {base:Nat} {w w':World} {v:Value} {xs:List RunV} (h:RunsOwn base w v xs) (hb:Bl w w'):RunsOwn base w' v xs:=⟨own_bl h.row hb,fun x hx=>own_bl (h.calls x hx) hb⟩
structure NetV where
 stops:Value
 routes:Value
 runs:Value
 links:Value
 paths:Value
 prods:Value
abbrev netV (V:NetV) (f:FareD):Value:= .agg #[V.stops,V.routes,V.runs,V.links,V.paths,V.prods, .int .i64 f.disc, .int .i64 f.within, .int .i64 f.cap]
structure NetRd (B:Nat) (w:World) (V:NetV) (rs:List RunV) (n:NetD):Prop where
 stops:SlIn stopCells 4 B w V.stops n.stops
 routes:SlIn routeCells 3 B w V.routes n.routes
 runs:RunsRd B w V.runs rs
 same:n.runs=rs.map (·.r)
 links:SlIn linkCells 5 B w V.links n.links
 paths:SlIn pathCells 4 B w V.paths n.paths
 prods:SlIn prodCells 6 B w V.prods n.fares.prods
theorem NetRd.below {B:Nat} {w w':World} {V:NetV} {rs:List RunV} {n:NetD} (h:NetRd B w V rs n) (hb:Below B w w'):NetRd B w' V rs n:=⟨h.stops.below hb,h.routes.below hb,h.runs.below hb,h.same,h.links.below hb,h.paths.below hb,h.prods.below hb⟩
theorem NetRd.mono {B B':Nat} {w:World} {V:NetV} {rs:List RunV} {n:NetD} (h:NetRd B w V rs n) (hB:B≤B'):NetRd B' w V rs n:=⟨h.stops.mono hB,h.routes.mono hB,h.runs.mono hB,h.same,h.links.mono hB,h.paths.mono hB,h.prods.mono hB⟩
theorem NetRd.bl {B:Nat} {w w':World} {V:NetV} {rs:List RunV} {n:NetD} (h:NetRd B w V rs n) (hb:Bl w w') (hB:B≤w.heap.size):NetRd B w' V rs n:=h.below (hb.mono hB)
structure NetOwn (base:Nat) (w:World) (V:NetV) (rs:List RunV) (n:NetD):Prop where
 stops:w.ownsRow base 91 4 V.stops n.stops.length (n.stops.flatMap stopCells)
 routes:w.ownsRow base 93 3 V.routes n.routes.length (n.routes.flatMap routeCells)
 runs:RunsOwn base w V.runs rs
 same:n.runs=rs.map (·.r)
 links:w.ownsRow base 95 5 V.links n.links.length (n.links.flatMap linkCells)
 paths:w.ownsRow base 97 4 V.paths n.paths.length (n.paths.flatMap pathCells)
 prods:w.ownsRow base 142 6 V.prods n.fares.prods.length (n.fares.prods.flatMap prodCells)
 apart:rs.Pairwise fun x y=>x.v.ownBlock=none∨x.v.ownBlock≠y.v.ownBlock
theorem NetOwn.rd {base:Nat} {w:World} {V:NetV} {rs:List RunV} {n:NetD} (h:NetOwn base w V rs n):NetRd w.heap.size w V rs n:=
 ⟨slIn_own stopCells_len h.stops,slIn_own routeCells_len h.routes,h.runs.rd,h.same,slIn_own linkCells_len h.links,slIn_own pathCells_len h.paths,slIn_own prodCells_len h.prods⟩
theorem NetOwn.bl {base:Nat} {w w':World} {V:NetV} {rs:List RunV} {n:NetD} (h:NetOwn base w V rs n) (hb:Bl w w'):NetOwn base w' V rs n:=
 ⟨own_bl h.stops hb,own_bl h.routes hb,h.runs.bl hb,h.same,own_bl h.links hb,own_bl h.paths hb,own_bl h.prods hb,h.apart⟩
end Go.Proofs.YtncbcmiflffakaaGreat
namespace Go.Proofs.YtncbcmiflffakaaGreat
open Go.RowKit
open Frq Thr Tt
def RowIn (w:World) (base:Nat) (e:TypeId) (size:Nat) (v:Value) (n:Nat) (xs:List Value):Prop:=
  xs.length=n*size∧((v= .slice none 0 0∧n=0)∨
   ∃ g cap cur,v= .slice (some ⟨g,0,none⟩) n cap∧base≤g∧w.heap[g]? =some (.cells cur e (0,0))∧n≤cap∧cap≤maxLen∧cap*size≤cur.size∧cur.toList.take (n*size)=xs)
section
variable {w w':World} {base size n:Nat} {e:TypeId} {v:Value} {xs:List Value}
theorem rowIn_own (h:w.ownsRow base e size v n xs):RowIn w base e size v n xs:=by
 refine⟨h.1,h.2.imp id ?_⟩;rintro⟨g,cap,cur,h1,h2,h3,h4,h5,h6,h7⟩;exact⟨g,cap,cur,h1,h2,h3,h4,h5,by omega,h7⟩
theorem RowIn.low (h:RowIn w base e size v n xs) {base':Nat} (hb:base'≤base):RowIn w base' e size v n xs:=by
 refine⟨h.1,h.2.imp id ?_⟩;rintro⟨g,cap,cur,h1,h2,h3⟩;exact⟨g,cap,cur,h1,Nat.le_trans hb h2,h3⟩
theorem RowIn.lt (h:RowIn w base e size v n xs): ∀ b,v.ownBlock=some b→base≤b∧b<w.heap.size:=by
 intro b hb;rcases h.2 with⟨rfl,_⟩|⟨g,cap,cur,rfl,h2,h3,_⟩
 · simp[Value.ownBlock]at hb
 ·
  obtain rfl:g=b:=by simpa[Value.ownBlock]using hb
  exact⟨h2,lt_of_block h3⟩
theorem RowIn.same (h:RowIn w base e size v n xs) (hs: ∀ b,v.ownBlock=some b→w'.heap[b]? =w.heap[b]?):RowIn w' base e size v n xs:=by
 refine⟨h.1,h.2.imp id ?_⟩;rintro⟨g,cap,cur,rfl,h2,h3,h4⟩;exact⟨g,cap,cur,rfl,h2,(hs g rfl).trans h3,h4⟩
theorem RowIn.bl (h:RowIn w base e size v n xs) (hb:Bl w w'):RowIn w' base e size v n xs:=h.same fun b hb'=>hb.block b (h.lt b hb').2
theorem RowIn.val (h:RowIn w base e size v n xs): ∃ a c,v= .slice a n c:=by
 rcases h.2 with⟨q,h0⟩|⟨g',cc,cur,q,-⟩
 · exact⟨none,0,by rw[q,h0]⟩
 · exact⟨_,_,q⟩
theorem RowIn.ne {g:Nat} {C:Array Value} {T:TypeId} (hr:RowIn w base e size v n xs) (h:w.heap[g]? =some (.cells C T (0,0))) (hte:T≠e):v.ownBlock≠some g:=by
 rcases hr.2 with⟨rfl,_⟩|⟨g',cap,cur,rfl,_,hgb,_⟩
 · simp[Value.ownBlock]
 ·
  intro e';obtain rfl:g'=g:=by simpa[Value.ownBlock]using e'
  have:=h.symm.trans hgb;simp at this
  exact hte this.2
theorem RowIn.cellAt {g cap:Nat} (h:RowIn w base e size (.slice (some ⟨g,0,none⟩) n cap) n xs) (j:Nat) (hj:j<n*size):w.cell? ⟨g,j,none⟩=xs[j]? :=by
 rcases h.2 with⟨h',_⟩|⟨g',cap',cur,h',_,hg,_,_,_,htake⟩
 · simp at h'
 ·
  simp only[Value.slice.injEq,Option.some.injEq,Addr.mk.injEq,and_true,true_and]at h';obtain⟨rfl,rfl⟩:=h';rw[cell_of_row w g j cur e (0,0) hg,←htake,List.getElem?_take_of_lt hj,Array.getElem?_toList]
theorem RowIn.sl {α:Type} {cells:α→List Value} {l:List α} (hc: ∀ x,(cells x).length=size) (h:RowIn w base e size v l.length (l.flatMap cells)):SlIn cells size w.heap.size w v l:=by
 have h':=h;rcases h.2 with⟨rfl,h0⟩|⟨g,cap,cur,rfl,hg,hb,hn,hcc,hs,ht⟩
 · exact⟨none,0,by rw[h0],by omega,Nat.zero_le _,fun k=>by omega⟩
 ·
  refine⟨some ⟨g,0,none⟩,cap,rfl,hn,hcc,fun _=>⟨g,0,rfl,lt_of_block hb,fun i x hx j u hu=>?_⟩⟩;have hf:=flat_get hc hx hu;rw[show 0+i*size+j=i*size+j by omega,RowIn.cellAt h' (i*size+j) (by have:=(List.getElem?_eq_some_iff.1 hf).1;rw[h'.1]at this;exact this)];exact hf
end
theorem nfo_stop:(Tryz.prog.info? 91).map (fun i=>(i.zero,i.size,i.bytes))=some (some (.agg #[.string ByteArray.empty, .int .i64 0, .bool false, .int .i64 0]),4,40):=by kernel_rfl
theorem stop_one (x:StopD): ∀ u∈stopCells x,u.oneCell'=true:=by
 intro u hu;simp only[stopCells,List.mem_cons,List.not_mem_nil,or_false]at hu;rcases hu with rfl|rfl|rfl|rfl<;>rfl
theorem fresh_stop (v:Value) (xs:List StopD) (hl:xs.length≤100000) (B:Nat) (w:World) (hv:SlIn stopCells 4 B w v xs) (hB:B≤w.heap.size):
  Calls Tryz.prog 81 #[v] w fun e w'=> ∃ v',e= .returned v'∧RowIn w' w.heap.size 91 4 v' xs.length (xs.flatMap stopCells)∧Bl w w':=by
 obtain⟨i0,hi,hz0,hz1,hz2⟩:=info_parts nfo_stop;have HV:=Lib.hid (fun(w1:World) (h:Bl w w1)=>hv.below (h.mono hB));obtain⟨a,cap,rfl,-,-⟩:=hv.val;have O1:=Lib.hid (World.ownsRow_lit (base:=w.heap.size) (e:=91) (size:=4) w #[] 0 (Nat.le_refl _) (Nat.zero_le _) rfl);have B1:=Lib.hid (show Bl w (w.alloc (.cells #[] 91)) from bl_alloc (bl_refl _) _);have S1:=Lib.hid (HV.out _ B1.out);have h1:=Lib.hid (show ∀ x∈xs,∀ u∈stopCells x,u.oneCell'=true from(fun x _=>stop_one x));clear hv;go_enter Tryz.func81,Tryz.ntmps81
 go_wp2_with (at_builtin;refine wpList_append_sl rfl _ _ 22 rfl stopCells_len w.heap.size 91 i0 _ 40 Tryz.underlying22 hi hz0 hz1 hz2 rfl (by decide) _ _ _ rfl O1.out _ xs h1.out rfl S1.out ?c1 ?c2 (by simp) ?_)
 case c1=>unfold maxLen;omega
 case c2=>omega
 intro v6 w6 own6 gr6 hnil;have hR: ∃ g c6,v6= .slice (some ⟨g,0,none⟩) xs.length c6∧xs.length≤c6∧c6≤maxLen∧RowIn w6 w.heap.size 91 4 (.slice (some ⟨g,0,none⟩) xs.length xs.length) xs.length (xs.flatMap stopCells):=by
  obtain⟨o1,o2⟩:=own6;rcases o2 with⟨q,_⟩|⟨g,c6,cur,rfl,h2,h3,h4,h5,h6,h7⟩
  · exact absurd q (fun q=>hnil q)
  ·
   refine⟨g,c6,rfl,h4,h5,o1, .inr ⟨g,xs.length,cur,rfl,h2,h3,Nat.le_refl _,Nat.le_trans h4 h5, ?_,h7⟩⟩;rw[h6];exact Nat.mul_le_mul_right _ h4
 obtain⟨g,c6,rfl,hc6,hm6,hR⟩:=hR;have HR:=Lib.hid hR;have B6:=Lib.hid (B1.out.grown gr6 B1.out.size (fun q hq=>by simp[Value.ownBlock]at hq;omega));unfold maxLen at hm6;have n1:(0:Int)≤xs.length:=by omega
 have n2:(xs.length:Int)≤c6:=by omega
 clear own6 gr6 hnil hR;go_wp2_with fail;go_ret;exact⟨_,rfl,HR.out,B6.out⟩
theorem nfo_route:(Tryz.prog.info? 93).map (fun i=>(i.zero,i.size,i.bytes))=some (some (.agg #[.string ByteArray.empty, .int .i64 0, .bool false]),3,32):=by kernel_rfl
theorem route_one (x:RouteD): ∀ u∈routeCells x,u.oneCell'=true:=by
 intro u hu;simp only[routeCells,List.mem_cons,List.not_mem_nil,or_false]at hu;rcases hu with rfl|rfl|rfl<;>rfl
theorem fresh_route (v:Value) (xs:List RouteD) (hl:xs.length≤100000) (B:Nat) (w:World) (hv:SlIn routeCells 3 B w v xs) (hB:B≤w.heap.size):
  Calls Tryz.prog 82 #[v] w fun e w'=> ∃ v',e= .returned v'∧RowIn w' w.heap.size 93 3 v' xs.length (xs.flatMap routeCells)∧Bl w w':=by
 obtain⟨i0,hi,hz0,hz1,hz2⟩:=info_parts nfo_route;have HV:=Lib.hid (fun(w1:World) (h:Bl w w1)=>hv.below (h.mono hB));obtain⟨a,cap,rfl,-,-⟩:=hv.val;have O1:=Lib.hid (World.ownsRow_lit (base:=w.heap.size) (e:=93) (size:=3) w #[] 0 (Nat.le_refl _) (Nat.zero_le _) rfl);have B1:=Lib.hid (show Bl w (w.alloc (.cells #[] 93)) from bl_alloc (bl_refl _) _);have S1:=Lib.hid (HV.out _ B1.out);have h1:=Lib.hid (show ∀ x∈xs,∀ u∈routeCells x,u.oneCell'=true from(fun x _=>route_one x));clear hv;go_enter Tryz.func82,Tryz.ntmps82
 go_wp2_with (at_builtin;refine wpList_append_sl rfl _ _ 23 rfl routeCells_len w.heap.size 93 i0 _ 32 Tryz.underlying23 hi hz0 hz1 hz2 rfl (by decide) _ _ _ rfl O1.out _ xs h1.out rfl S1.out ?c1 ?c2 (by simp) ?_)
 case c1=>unfold maxLen;omega
 case c2=>omega
 intro v6 w6 own6 gr6 hnil;have hR: ∃ g c6,v6= .slice (some ⟨g,0,none⟩) xs.length c6∧xs.length≤c6∧c6≤maxLen∧RowIn w6 w.heap.size 93 3 (.slice (some ⟨g,0,none⟩) xs.length xs.length) xs.length (xs.flatMap routeCells):=by
  obtain⟨o1,o2⟩:=own6;rcases o2 with⟨q,_⟩|⟨g,c6,cur,rfl,h2,h3,h4,h5,h6,h7⟩
  · exact absurd q (fun q=>hnil q)
  ·
   refine⟨g,c6,rfl,h4,h5,o1, .inr ⟨g,xs.length,cur,rfl,h2,h3,Nat.le_refl _,Nat.le_trans h4 h5, ?_,h7⟩⟩;rw[h6];exact Nat.mul_le_mul_right _ h4
 obtain⟨g,c6,rfl,hc6,hm6,hR⟩:=hR;have HR:=Lib.hid hR;have B6:=Lib.hid (B1.out.grown gr6 B1.out.size (fun q hq=>by simp[Value.ownBlock]at hq;omega));unfold maxLen at hm6;have n1:(0:Int)≤xs.length:=by omega
 have n2:(xs.length:Int)≤c6:=by omega
 clear own6 gr6 hnil hR;go_wp2_with fail;go_ret;exact⟨_,rfl,HR.out,B6.out⟩
theorem nfo_run:(Tryz.prog.info? 66).map (fun i=>(i.zero,i.size,i.bytes))=some (some (.agg #[.int .i64 0, .int .i64 0, .int .i64 0, .string ByteArray.empty, .int .i64 0, .bool false, .bool false, .slice none 0 0]),8,80):=by kernel_rfl
theorem run_one (x:RunV) (h: ∃ a n c,x.v= .slice a n c): ∀ u∈runCells x,u.oneCell'=true:=by
 obtain⟨a,n,c,h⟩:=h;intro u hu;simp only[runCells,List.mem_cons,List.not_mem_nil,or_false,h]at hu;rcases hu with rfl|rfl|rfl|rfl|rfl|rfl|rfl|rfl<;>rfl
theorem fresh_run (v:Value) (xs:List RunV) (hl:xs.length≤100000) (hsl: ∀ x∈xs,∃ a n c,x.v= .slice a n c) (B:Nat) (w:World) (hv:SlIn runCells 8 B w v xs) (hB:B≤w.heap.size):
  Calls Tryz.prog 83 #[v] w fun e w'=> ∃ v',e= .returned v'∧RowIn w' w.heap.size 66 8 v' xs.length (xs.flatMap runCells)∧Bl w w':=by
 obtain⟨i0,hi,hz0,hz1,hz2⟩:=info_parts nfo_run;have HV:=Lib.hid (fun(w1:World) (h:Bl w w1)=>hv.below (h.mono hB));obtain⟨a,cap,rfl,-,-⟩:=hv.val;have O1:=Lib.hid (World.ownsRow_lit (base:=w.heap.size) (e:=66) (size:=8) w #[] 0 (Nat.le_refl _) (Nat.zero_le _) rfl);have B1:=Lib.hid (show Bl w (w.alloc (.cells #[] 66)) from bl_alloc (bl_refl _) _);have S1:=Lib.hid (HV.out _ B1.out);have h1:=Lib.hid (show ∀ x∈xs,∀ u∈runCells x,u.oneCell'=true from(fun x hx=>run_one x (hsl x hx)));clear hv;go_enter Tryz.func83,Tryz.ntmps83
 go_wp2_with (at_builtin;refine wpList_append_sl rfl _ _ 51 rfl runCells_len w.heap.size 66 i0 _ 80 Tryz.underlying51 hi hz0 hz1 hz2 rfl (by decide) _ _ _ rfl O1.out _ xs h1.out rfl S1.out ?c1 ?c2 (by simp) ?_)
 case c1=>unfold maxLen;omega
 case c2=>omega
 intro v6 w6 own6 gr6 hnil;have hR: ∃ g c6,v6= .slice (some ⟨g,0,none⟩) xs.length c6∧xs.length≤c6∧c6≤maxLen∧RowIn w6 w.heap.size 66 8 (.slice (some ⟨g,0,none⟩) xs.length xs.length) xs.length (xs.flatMap runCells):=by
  obtain⟨o1,o2⟩:=own6;rcases o2 with⟨q,_⟩|⟨g,c6,cur,rfl,h2,h3,h4,h5,h6,h7⟩
  · exact absurd q (fun q=>hnil q)
  ·
   refine⟨g,c6,rfl,h4,h5,o1, .inr ⟨g,xs.length,cur,rfl,h2,h3,Nat.le_refl _,Nat.le_trans h4 h5, ?_,h7⟩⟩;rw[h6];exact Nat.mul_le_mul_right _ h4
 obtain⟨g,c6,rfl,hc6,hm6,hR⟩:=hR;have HR:=Lib.hid hR;have B6:=Lib.hid (B1.out.grown gr6 B1.out.size (fun q hq=>by simp[Value.ownBlock]at hq;omega));unfold maxLen at hm6;have n1:(0:Int)≤xs.length:=by omega
 have n2:(xs.length:Int)≤c6:=by omega
 clear own6 gr6 hnil hR;go_wp2_with fail;go_ret;exact⟨_,rfl,HR.out,B6.out⟩
theorem nfo_link:(Tryz.prog.info? 95).map (fun i=>(i.zero,i.size,i.bytes))=some (some (.agg #[.int .i64 0, .int .i64 0, .int .i64 0, .int .i64 0, .bool false]),5,40):=by kernel_rfl
theorem link_one (x:LinkD): ∀ u∈linkCells x,u.oneCell'=true:=by
 intro u hu;simp only[linkCells,List.mem_cons,List.not_mem_nil,or_false]at hu;rcases hu with rfl|rfl|rfl|rfl|rfl<;>rfl
theorem fresh_link (v:Value) (xs:List LinkD) (hl:xs.length≤100000) (B:Nat) (w:World) (hv:SlIn linkCells 5 B w v xs) (hB:B≤w.heap.size):
  Calls Tryz.prog 84 #[v] w fun e w'=> ∃ v',e= .returned v'∧RowIn w' w.heap.size 95 5 v' xs.length (xs.flatMap linkCells)∧Bl w w':=by
 obtain⟨i0,hi,hz0,hz1,hz2⟩:=info_parts nfo_link;have HV:=Lib.hid (fun(w1:World) (h:Bl w w1)=>hv.below (h.mono hB));obtain⟨a,cap,rfl,-,-⟩:=hv.val;have O1:=Lib.hid (World.ownsRow_lit (base:=w.heap.size) (e:=95) (size:=5) w #[] 0 (Nat.le_refl _) (Nat.zero_le _) rfl);have B1:=Lib.hid (show Bl w (w.alloc (.cells #[] 95)) from bl_alloc (bl_refl _) _);have S1:=Lib.hid (HV.out _ B1.out);have h1:=Lib.hid (show ∀ x∈xs,∀ u∈linkCells x,u.oneCell'=true from(fun x _=>link_one x));clear hv;go_enter Tryz.func84,Tryz.ntmps84
 go_wp2_with (at_builtin;refine wpList_append_sl rfl _ _ 52 rfl linkCells_len w.heap.size 95 i0 _ 40 Tryz.underlying52 hi hz0 hz1 hz2 rfl (by decide) _ _ _ rfl O1.out _ xs h1.out rfl S1.out ?c1 ?c2 (by simp) ?_)
 case c1=>unfold maxLen;omega
 case c2=>omega
 intro v6 w6 own6 gr6 hnil;have hR: ∃ g c6,v6= .slice (some ⟨g,0,none⟩) xs.length c6∧xs.length≤c6∧c6≤maxLen∧RowIn w6 w.heap.size 95 5 (.slice (some ⟨g,0,none⟩) xs.length xs.length) xs.length (xs.flatMap linkCells):=by
  obtain⟨o1,o2⟩:=own6;rcases o2 with⟨q,_⟩|⟨g,c6,cur,rfl,h2,h3,h4,h5,h6,h7⟩
  · exact absurd q (fun q=>hnil q)
  ·
   refine⟨g,c6,rfl,h4,h5,o1, .inr ⟨g,xs.length,cur,rfl,h2,h3,Nat.le_refl _,Nat.le_trans h4 h5, ?_,h7⟩⟩;rw[h6];exact Nat.mul_le_mul_right _ h4
 obtain⟨g,c6,rfl,hc6,hm6,hR⟩:=hR;have HR:=Lib.hid hR;have B6:=Lib.hid (B1.out.grown gr6 B1.out.size (fun q hq=>by simp[Value.ownBlock]at hq;omega));unfold maxLen at hm6;have n1:(0:Int)≤xs.length:=by omega
 have n2:(xs.length:Int)≤c6:=by omega
 clear own6 gr6 hnil hR;go_wp2_with fail;go_ret;exact⟨_,rfl,HR.out,B6.out⟩
theorem nfo_path:(Tryz.prog.info? 97).map (fun i=>(i.zero,i.size,i.bytes))=some (some (.agg #[.int .i64 0, .int .i64 0, .int .i64 0, .bool false]),4,32):=by kernel_rfl
theorem path_one (x:PathD): ∀ u∈pathCells x,u.oneCell'=true:=by
 intro u hu;simp only[pathCells,List.mem_cons,List.not_mem_nil,or_false]at hu;rcases hu with rfl|rfl|rfl|rfl<;>rfl
theorem fresh_path (v:Value) (xs:List PathD) (hl:xs.length≤100000) (B:Nat) (w:World) (hv:SlIn pathCells 4 B w v xs) (hB:B≤w.heap.size):
  Calls Tryz.prog 85 #[v] w fun e w'=> ∃ v',e= .returned v'∧RowIn w' w.heap.size 97 4 v' xs.length (xs.flatMap pathCells)∧Bl w w':=by
 obtain⟨i0,hi,hz0,hz1,hz2⟩:=info_parts nfo_path;have HV:=Lib.hid (fun(w1:World) (h:Bl w w1)=>hv.below (h.mono hB));obtain⟨a,cap,rfl,-,-⟩:=hv.val;have O1:=Lib.hid (World.ownsRow_lit (base:=w.heap.size) (e:=97) (size:=4) w #[] 0 (Nat.le_refl _) (Nat.zero_le _) rfl);have B1:=Lib.hid (show Bl w (w.alloc (.cells #[] 97)) from bl_alloc (bl_refl _) _);have S1:=Lib.hid (HV.out _ B1.out);have h1:=Lib.hid (show ∀ x∈xs,∀ u∈pathCells x,u.oneCell'=true from(fun x _=>path_one x));clear hv;go_enter Tryz.func85,Tryz.ntmps85
 go_wp2_with (at_builtin;refine wpList_append_sl rfl _ _ 30 rfl pathCells_len w.heap.size 97 i0 _ 32 Tryz.underlying30 hi hz0 hz1 hz2 rfl (by decide) _ _ _ rfl O1.out _ xs h1.out rfl S1.out ?c1 ?c2 (by simp) ?_)
 case c1=>unfold maxLen;omega
 case c2=>omega
 intro v6 w6 own6 gr6 hnil;have hR: ∃ g c6,v6= .slice (some ⟨g,0,none⟩) xs.length c6∧xs.length≤c6∧c6≤maxLen∧RowIn w6 w.heap.size 97 4 (.slice (some ⟨g,0,none⟩) xs.length xs.length) xs.length (xs.flatMap pathCells):=by
  obtain⟨o1,o2⟩:=own6;rcases o2 with⟨q,_⟩|⟨g,c6,cur,rfl,h2,h3,h4,h5,h6,h7⟩
  · exact absurd q (fun q=>hnil q)
  ·
   refine⟨g,c6,rfl,h4,h5,o1, .inr ⟨g,xs.length,cur,rfl,h2,h3,Nat.le_refl _,Nat.le_trans h4 h5, ?_,h7⟩⟩;rw[h6];exact Nat.mul_le_mul_right _ h4
 obtain⟨g,c6,rfl,hc6,hm6,hR⟩:=hR;have HR:=Lib.hid hR;have B6:=Lib.hid (B1.out.grown gr6 B1.out.size (fun q hq=>by simp[Value.ownBlock]at hq;omega));unfold maxLen at hm6;have n1:(0:Int)≤xs.length:=by omega
 have n2:(xs.length:Int)≤c6:=by omega
 clear own6 gr6 hnil hR;go_wp2_with fail;go_ret;exact⟨_,rfl,HR.out,B6.out⟩
theorem nfo_call:(Tryz.prog.info? 68).map (fun i=>(i.zero,i.size,i.bytes))=some (some (.agg #[.int .i64 0, .int .i64 0, .int .i64 0, .bool false, .bool false]),5,32):=by kernel_rfl
theorem call_one (x:CallD): ∀ u∈callCells x,u.oneCell'=true:=by
 intro u hu;simp only[callCells,List.mem_cons,List.not_mem_nil,or_false]at hu;rcases hu with rfl|rfl|rfl|rfl|rfl<;>rfl
theorem fresh_call (v:Value) (xs:List CallD) (hl:xs.length≤100000) (B:Nat) (w:World) (hv:SlIn callCells 5 B w v xs) (hB:B≤w.heap.size):
  Calls Tryz.prog 86 #[v] w fun e w'=> ∃ v',e= .returned v'∧RowIn w' w.heap.size 68 5 v' xs.length (xs.flatMap callCells)∧Bl w w':=by
 obtain⟨i0,hi,hz0,hz1,hz2⟩:=info_parts nfo_call;have HV:=Lib.hid (fun(w1:World) (h:Bl w w1)=>hv.below (h.mono hB));obtain⟨a,cap,rfl,-,-⟩:=hv.val;have O1:=Lib.hid (World.ownsRow_lit (base:=w.heap.size) (e:=68) (size:=5) w #[] 0 (Nat.le_refl _) (Nat.zero_le _) rfl);have B1:=Lib.hid (show Bl w (w.alloc (.cells #[] 68)) from bl_alloc (bl_refl _) _);have S1:=Lib.hid (HV.out _ B1.out);have h1:=Lib.hid (show ∀ x∈xs,∀ u∈callCells x,u.oneCell'=true from(fun x _=>call_one x));clear hv;go_enter Tryz.func86,Tryz.ntmps86
 go_wp2_with (at_builtin;refine wpList_append_sl rfl _ _ 46 rfl callCells_len w.heap.size 68 i0 _ 32 Tryz.underlying46 hi hz0 hz1 hz2 rfl (by decide) _ _ _ rfl O1.out _ xs h1.out rfl S1.out ?c1 ?c2 (by simp) ?_)
 case c1=>unfold maxLen;omega
 case c2=>omega
 intro v6 w6 own6 gr6 hnil;have hR: ∃ g c6,v6= .slice (some ⟨g,0,none⟩) xs.length c6∧xs.length≤c6∧c6≤maxLen∧RowIn w6 w.heap.size 68 5 (.slice (some ⟨g,0,none⟩) xs.length xs.length) xs.length (xs.flatMap callCells):=by
  obtain⟨o1,o2⟩:=own6;rcases o2 with⟨q,_⟩|⟨g,c6,cur,rfl,h2,h3,h4,h5,h6,h7⟩
  · exact absurd q (fun q=>hnil q)
  ·
   refine⟨g,c6,rfl,h4,h5,o1, .inr ⟨g,xs.length,cur,rfl,h2,h3,Nat.le_refl _,Nat.le_trans h4 h5, ?_,h7⟩⟩;rw[h6];exact Nat.mul_le_mul_right _ h4
 obtain⟨g,c6,rfl,hc6,hm6,hR⟩:=hR;have HR:=Lib.hid hR;have B6:=Lib.hid (B1.out.grown gr6 B1.out.size (fun q hq=>by simp[Value.ownBlock]at hq;omega));unfold maxLen at hm6;have n1:(0:Int)≤xs.length:=by omega
 have n2:(xs.length:Int)≤c6:=by omega
 clear own6 gr6 hnil hR;go_wp2_with fail;go_ret;exact⟨_,rfl,HR.out,B6.out⟩
theorem nfo_prod:(Tryz.prog.info? 142).map (fun i=>(i.zero,i.size,i.bytes))=some (some (.agg #[.string ByteArray.empty, .int .i64 0, .int .i64 0, .int .i64 0, .int .i64 0, .int .i64 0]),6,56):=by kernel_rfl
theorem prod_one (x:ProdD): ∀ u∈prodCells x,u.oneCell'=true:=by
 intro u hu;simp only[prodCells,List.mem_cons,List.not_mem_nil,or_false]at hu;rcases hu with rfl|rfl|rfl|rfl|rfl|rfl<;>rfl
theorem fresh_prod (v:Value) (xs:List ProdD) (hl:xs.length≤100000) (B:Nat) (w:World) (hv:SlIn prodCells 6 B w v xs) (hB:B≤w.heap.size):
  Calls Tryz.prog 87 #[v] w fun e w'=> ∃ v',e= .returned v'∧RowIn w' w.heap.size 142 6 v' xs.length (xs.flatMap prodCells)∧Bl w w':=by
 obtain⟨i0,hi,hz0,hz1,hz2⟩:=info_parts nfo_prod;have HV:=Lib.hid (fun(w1:World) (h:Bl w w1)=>hv.below (h.mono hB));obtain⟨a,cap,rfl,-,-⟩:=hv.val;have O1:=Lib.hid (World.ownsRow_lit (base:=w.heap.size) (e:=142) (size:=6) w #[] 0 (Nat.le_refl _) (Nat.zero_le _) rfl);have B1:=Lib.hid (show Bl w (w.alloc (.cells #[] 142)) from bl_alloc (bl_refl _) _);have S1:=Lib.hid (HV.out _ B1.out);have h1:=Lib.hid (show ∀ x∈xs,∀ u∈prodCells x,u.oneCell'=true from(fun x _=>prod_one x));clear hv;go_enter Tryz.func87,Tryz.ntmps87
 go_wp2_with (at_builtin;refine wpList_append_sl rfl _ _ 31 rfl prodCells_len w.heap.size 142 i0 _ 56 Tryz.underlying31 hi hz0 hz1 hz2 rfl (by decide) _ _ _ rfl O1.out _ xs h1.out rfl S1.out ?c1 ?c2 (by simp) ?_)
 case c1=>unfold maxLen;omega
 case c2=>omega
 intro v6 w6 own6 gr6 hnil;have hR: ∃ g c6,v6= .slice (some ⟨g,0,none⟩) xs.length c6∧xs.length≤c6∧c6≤maxLen∧RowIn w6 w.heap.size 142 6 (.slice (some ⟨g,0,none⟩) xs.length xs.length) xs.length (xs.flatMap prodCells):=by
  obtain⟨o1,o2⟩:=own6;rcases o2 with⟨q,_⟩|⟨g,c6,cur,rfl,h2,h3,h4,h5,h6,h7⟩
  · exact absurd q (fun q=>hnil q)
  ·
   refine⟨g,c6,rfl,h4,h5,o1, .inr ⟨g,xs.length,cur,rfl,h2,h3,Nat.le_refl _,Nat.le_trans h4 h5, ?_,h7⟩⟩;rw[h6];exact Nat.mul_le_mul_right _ h4
 obtain⟨g,c6,rfl,hc6,hm6,hR⟩:=hR;have HR:=Lib.hid hR;have B6:=Lib.hid (B1.out.grown gr6 B1.out.size (fun q hq=>by simp[Value.ownBlock]at hq;omega));unfold maxLen at hm6;have n1:(0:Int)≤xs.length:=by omega
 have n2:(xs.length:Int)≤c6:=by omega
 clear own6 gr6 hnil hR;go_wp2_with fail;go_ret;exact⟨_,rfl,HR.out,B6.out⟩
end Go.Proofs.YtncbcmiflffakaaGreat
