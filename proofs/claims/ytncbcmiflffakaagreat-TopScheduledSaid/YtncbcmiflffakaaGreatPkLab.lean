/-
  What the laws of top need of TopLabA, TopLabB. Conditions: those of each lemma.
-/
import Derived.Test.YtncbcmiflffakaaGreatPkHpC
import Derived.Test.YtncbcmiflffakaaGreatPkRg
import Derived.Deep.LoopGhost
set_option maxRecDepth 1000000
set_option maxHeartbeats 32000000
namespace Go.Proofs.YtncbcmiflffakaaGreat
open Go.RowKit
open Dj
def labCells (x:LabD):List Value:=[.int .i64 x.node, .int .i64 x.len, .int .i64 x.edg]
theorem labCells_len (x:LabD):(labCells x).length=3:=rfl
def edgeCells (x:EdgeD):List Value:=[.int .i64 x.frm, .int .i64 x.to, .int .i64 x.wt]
theorem edgeCells_len (x:EdgeD):(edgeCells x).length=3:=rfl
def fromE (E:List EdgeD) (i:Int):List EdgeD:=E.filter fun e=>e.frm==i
structure NextAt (B b:Nat) (E:List EdgeD) (w:World):Prop where
 own: ∃ (m:Nat) (G:Lit→Option Value),OwnsVal w Tryz.prog 3 b m G∧ ∀ i:Int,isInt i→SlIn edgeCells 3 B w ((G (.int .i64 i)).getD (.slice none 0 0)) (fromE E i)
 lt:b<B
theorem NextAt.below {B b:Nat} {E:List EdgeD} {w w':World} (h:NextAt B b E w) (hb:Below B w w'):NextAt B b E w':=by
 obtain⟨m,G,h1,h2⟩:=h.own;exact⟨⟨m,G,h1.kept (hb.block b h.lt),fun i hi=>(h2 i hi).below hb⟩,h.lt⟩
theorem int_law:Go.Maps.Keyed Tryz.prog 3:=Go.Maps.int_keyed Tryz.underlying3
theorem key_int {x:Int} (h:isInt x):keyOf Tryz.prog 3 (.int .i64 x)=some (.int .i64 x):=by
 have:=wf_int h;simp[keyOf,Tryz.underlying3,mapKey]
 simpa[Lit.wf]using this
theorem NextAt.look {B b:Nat} {E:List EdgeD} {w:World} (h:NextAt B b E w) {i:Int} (hi:isInt i): ∃ v,(Instr.lookup 246 (.map (some b)) (.int .i64 i) false).run Tryz.prog w= .ok v w∧SlIn edgeCells 3 B w v (fromE E i):=by
 obtain⟨m,G,h1,h2⟩:=h.own;exact⟨_,h1.look int_law Tryz.underlying246 (z:= .slice none 0 0) (by kernel_rfl) (key_int hi),h2 i hi⟩
theorem HpAt.not_row {base hb:Nat} {l:List NodeD} {p:Int} {v:Value} {w:World} (h:HpAt base hb l p v w) {k:Nat} {C:Array Value} {T:TypeId} (hk:w.heap[k]? =some (.cells C T (0,0))) (h1:T≠280) (h2:T≠278):k≠hb∧some k≠v.ownBlock:=by
 constructor
 ·
  intro e;rw[e,h.blk]at hk;simp only[Option.some.injEq,Obj.cells.injEq]at hk;exact h2 hk.2.1.symm
 ·
  intro e;rcases h.row.2 with⟨rfl,-⟩|⟨g,cap,cur,rfl,-,h3,-⟩
  · simp[Value.ownBlock]at e
  ·
   obtain rfl:k=g:=by simpa[Value.ownBlock]using e
   rw[hk]at h3;simp only[Option.some.injEq,Obj.cells.injEq]at h3;exact h1 h3.2.1
theorem HpAt.keeps {base hb:Nat} {l:List NodeD} {p:Int} {v:Value} {w w':World} (h:HpAt base hb l p v w) (m:HpMv hb v w w') {k:Nat} {C:Array Value} {T:TypeId} (hk:w.heap[k]? =some (.cells C T (0,0))) (h1:T≠280) (h2:T≠278):w'.heap[k]? =some (.cells C T (0,0)):=by
 have:=h.not_row hk h1 h2;exact(m.block k (lt_of_block hk) this.1 this.2).trans hk
theorem HpAt.other {base hb:Nat} {l:List NodeD} {p:Int} {v:Value} {w w':World} (h:HpAt base hb l p v w) (m:HpMv hb v w w') {b2:Nat} {T:TypeId} {sz n:Nat} {u:Value} {xs:List Value} (hr:w.ownsRow b2 T sz u n xs) (h1:T≠280) (h2:T≠278):w'.ownsRow b2 T sz u n xs:=by
 refine⟨hr.1, ?_⟩;rcases hr.2 with k|⟨g,cap,cur,e1,e2,e3,e4⟩
 · exact .inl k
 · exact .inr ⟨g,cap,cur,e1,e2,h.keeps m e3 h1 h2,e4⟩
theorem HpAt.aside {base hb:Nat} {l:List NodeD} {p:Int} {v:Value} {w w':World} (h:HpAt base hb l p v w) {g:Nat} (hg:w.grownBy w' (some g)) {C:Array Value} {T:TypeId} (hk:w.heap[g]? =some (.cells C T (0,0))) (h1:T≠280) (h2:T≠278):HpAt base hb l p v w':=by
 have:=h.not_row hk h1 h2;exact⟨(hg.block hb h.lt (fun e=>this.1 (Option.some.inj e).symm)).trans h.blk,h.row.kept hg (.inr fun e=>this.2 e.symm),h.lo⟩
structure LabAt (E:List EdgeD) (s:Int) (n:Nat) (w0:World) (hb:Nat) (vo:Value) (gk:Nat) (L:List LabD) (h:List NodeD) (p:Int) (v:Value) (wr:World):Prop where
 hp:HpAt hb hb h p v wr
 row:wr.ownsRow w0.heap.size 263 3 vo n (L.flatMap labCells)
 inv:Inv E s n 0 (fun _=>True) L h
 ok:HeapOk h
 bel:Below w0.heap.size w0 wr
 cnt:h.length+(E.filter (openE L)).length+1≤gk
 push:0≤p∧p+(E.filter (openE L)).length≤4097
 lens: ∀ y∈h,0≤y.len∧y.len≤p*1073741824∧y.edg≤p
 size:(h.length:Int)≤p
theorem NextAt.look2 {B b:Nat} {E:List EdgeD} {w:World} (h:NextAt B b E w) {i:Int} (hi:isInt i): ∃ v,SlIn edgeCells 3 B w v (fromE E i)∧ ∀ w',Below B w w'→(Instr.lookup 246 (.map (some b)) (.int .i64 i) false).run Tryz.prog w'= .ok v w':=by
 obtain⟨m,G,h1,h2⟩:=h.own;exact⟨_,h2 i hi,fun w' hb=>(h1.kept (hb.block b h.lt)).look int_law Tryz.underlying246 (z:= .slice none 0 0) (by kernel_rfl) (key_int hi)⟩
theorem row_blk {base g n cap sz:Nat} {T:TypeId} {w:World} {xs:List Value} (h:w.ownsRow base T sz (.slice (some ⟨g,0,none⟩) n cap) n xs): ∃ C,w.heap[g]? =some (.cells C T (0,0)):=by
 rcases h.2 with⟨k,-⟩|⟨g',cap',cur,hv,-,h3,-⟩
 · cases k
 ·
  simp only[Value.slice.injEq,Option.some.injEq,Addr.mk.injEq]at hv;obtain⟨⟨rfl,-⟩,-⟩:=hv;exact⟨cur,h3⟩
structure InAt (E:List EdgeD) (s:Int) (n:Nat) (w0:World) (hb:Nat) (vo:Value) (k bx:Nat) (xl xe p l0:Int) (es:List EdgeD) (L:List LabD) (j:Nat) (h:List NodeD) (p2:Int) (v:Value) (wr:World):Prop where
 hp:HpAt hb hb h p2 v wr
 row:wr.ownsRow w0.heap.size 263 3 vo n (L.flatMap labCells)
 inv:Inv E s n k (fun e=>e∈es.take j) L h
 ok:HeapOk h
 bel:Below w0.heap.size w0 wr
 xb:wr.heap[bx]? =some (.cells #[.int .i64 k, .int .i64 xl, .int .i64 xe] 263 (0,0))
 cnt:(h.length:Int)≤l0+j
 push:p≤p2∧p2≤p+j
 lens: ∀ y∈h,0≤y.len∧y.len≤p2*1073741824∧y.edg≤p2
 size:(h.length:Int)≤p2
theorem InAt.edg {E:List EdgeD} {s:Int} {n:Nat} {w0:World} {hb:Nat} {vo:Value} {k bx:Nat} {xl xe p l0:Int} {es:List EdgeD} {L:List LabD} {j:Nat} {h:List NodeD} {p2:Int} {v:Value} {wr wr':World} (I:InAt E s n w0 hb vo k bx xl xe p l0 es L j h p2 v wr) (hb':Bl wr wr'):InAt E s n w0 hb vo k bx xl xe p l0 es L j h p2 v wr':=
 ⟨I.hp.bl hb',ownsRow_bl I.row hb',I.inv,I.ok,I.bel.trans (hb'.mono I.bel.size),blk_bl I.xb hb',I.cnt,I.push,I.lens,I.size⟩
theorem take_done {es:List EdgeD} {j:Nat} {e:EdgeD} (he:es[j]? =some e):(fun d=>d∈es.take (j+1))=fun d=>d∈es.take j∨d=e:=by
 funext d
 rw[take_snoc_at he,List.mem_append,List.mem_singleton]
end Go.Proofs.YtncbcmiflffakaaGreat
namespace Go.Proofs.YtncbcmiflffakaaGreat
open Go.RowKit
open Dj
theorem info_label:(Tryz.prog.info? 263).map (fun i=>(i.zero,i.size,i.bytes))=some (some (.agg #[.int .i64 0, .int .i64 0, .int .i64 0]),3,24):=by kernel_rfl
theorem zeros_rep (n:Nat):(madeCells #[.int .i64 0, .int .i64 0, .int .i64 0] n).toList=List.replicate n (Value.int .i64 0):=by
 rw[List.eq_replicate_iff];refine⟨by rw[Array.length_toList,size_madeCells],fun b hb=>?_⟩;unfold madeCells at hb;rw[Array.toList_map,List.mem_map]at hb;obtain⟨j,-,rfl⟩:=hb;have:j%3<3:=Nat.mod_lt _ (by omega);show(#[Value.int .i64 0, .int .i64 0, .int .i64 0]:Array Value)[j%3]! =_
 have h:j%3=0∨j%3=1∨j%3=2:=by omega
 rcases h with h|h|h<;>rw[h]<;>rfl
theorem lab_zeros (n:Nat):(madeCells #[.int .i64 0, .int .i64 0, .int .i64 0] (n*3)).toList=(List.replicate n (⟨0,0,0⟩:LabD)).flatMap labCells:=by
 rw[zeros_rep];symm
 rw[List.eq_replicate_iff];refine⟨?_,fun b hb=>?_⟩
 ·
  induction n with
  |zero=>rfl
  |succ n ih=>rw[List.replicate_succ,List.flatMap_cons,List.length_append,ih,labCells_len];omega
 ·
  rw[List.mem_flatMap]at hb;obtain⟨x,hx,hb⟩:=hb;rw[(List.mem_replicate.1 hx).2]at hb;simp[labCells]at hb
  exact hb
def LabPost (E:List EdgeD) (s:Int) (n:Nat) (w0:World) (e:Ending) (w':World):Prop:=
 ∃ (v':Value) (L:List LabD),e= .returned v'∧SlIn labCells 3 w'.heap.size w' v' L∧L.length=n∧(∀ (k:Nat) (x:LabD),L[k]? =some x→IsDist E s k x.len)∧Bl w0 w'
theorem labels_c (n b:Nat) (E:List EdgeD) (s:Int) (hn:n≤64) (hs:0≤s∧s<n) (hE:Hid (∀ e∈E,(0≤e.frm∧e.frm<n)∧(0≤e.to∧e.to<n)∧(0≤e.wt∧e.wt≤1073741824))) (hlen:E.length≤4096) (B:Nat) (w:World) (hm:NextAt B b E w) (hB:B≤w.heap.size):
  Calls Tryz.prog 152 #[.int .i64 n, .map (some b), .int .i64 s] w fun e w'=>LabPost E s n w e w':=by
 obtain⟨i0,hi,hz0,hz1,hz2⟩:=info_parts info_label;have HM:=Lib.hid hm;have HB:=Lib.hid hB;clear hm hB;have hnI:(n:Int)≤64:=by omega
 go_enter Tryz.func152,Tryz.ntmps152
 go_wp2_with (refine wpList_make_full _ rfl _ _ 249 rfl w.heap.size 263 i0 (.agg #[.int .i64 0, .int .i64 0, .int .i64 0]) 3 Tryz.underlying249 hi hz0 hz1 .i64 .i64 _ _ n rfl rfl rfl rfl ?c1 ?c2 ?c3 ?_)
 case c1=>rw[hz2];omega
 case c2=>unfold maxLen;omega
 case c3=>simp
 intro w2 own2 gr2;have e1:List.replicate n (⟨0,0,0⟩:LabD)=List.replicate n ⟨0,0,0⟩:=rfl;have own2':w2.ownsRow w.heap.size 263 3 (.slice (some ⟨w.heap.size,0,none⟩) n n) n ((List.replicate n (⟨0,0,0⟩:LabD)).flatMap labCells):=by rw[←lab_zeros];exact own2
 have b2:Bl w w2:=(bl_refl w).grown gr2 (by simp) (fun k hk=>by cases hk);have O2:=Lib.hid own2';have B2:=Lib.hid b2;clear own2 own2' gr2 b2 e1;go_wp2_with fail;go_loopw [18] (fun i wr=> ∃ (k:Nat) (L:List LabD),k≤n∧i= .int .i64 k∧Hid (L.length=n∧ ∀ j (x:LabD),j<k→L[j]? =some x→x.edg= -1∧x.len= -1)∧Hid (wr.ownsRow w.heap.size 263 3 (.slice (some ⟨w.heap.size,0,none⟩) n n) n (L.flatMap labCells))∧Hid (Bl w wr)) (fun i _=>n-(intOf i).toNat)
 case atStart=>exact⟨0,List.replicate n ⟨0,0,0⟩,Nat.zero_le _,rfl,Lib.hid ⟨List.length_replicate,fun j x hj=>absurd hj (Nat.not_lt_zero j)⟩,O2,B2⟩
 case round=>
  obtain⟨k,L,hk,rfl,HL,HR,HBl⟩:=hrel;by_cases hlt:k<n
  ·
   have hltI:(k:Int)<(n:Int):=by omega
   obtain⟨x,hx⟩: ∃ x,L[k]? =some x:=⟨_,List.getElem?_eq_getElem (by rw[HL.out.1];exact hlt)⟩;have hc: ∀ j u,j<3→(labCells x)[j]? =some u→wr.cell? ⟨w.heap.size,k*3+j,none⟩=some u:=fun j u hj hu=>by
    rw[World.ownsRow.cellAt HR.out (k*3+j) (by omega)];exact flat_get labCells_len hx hu
   have c0:wr.cell? ⟨w.heap.size,k*3,none⟩=some (.int .i64 x.node):=hc 0 _ (by decide) rfl;have c1:=hc 1 _ (by decide) rfl;have c2:=hc 2 _ (by decide) rfl;have fz:=fun j=>World.ownsRow.frozenAt HR.out j
   have HX:=Lib.hid hx;clear hx hc;go_wp2;have q:=row_put labCells_len (by rw[HL.out.1];exact HR.out) (show k<L.length by rw[HL.out.1];exact hlt) ⟨k,-1,-1⟩;rw[HL.out.1]at q;simp only[labCells,setRunW3]at q;refine⟨⟨k+1,L.set k ⟨k,-1,-1⟩,by omega,by go_num,Lib.hid ⟨by rw[List.length_set];exact HL.out.1,fun j y hj hy=>?_⟩,Lib.hid q.1,Lib.hid (bl_new HBl.out q.2 (Nat.le_refl _))⟩, ?_⟩
   ·
    by_cases e:j=k
    ·
     subst e;rw[List.getElem?_set_self (by rw[HL.out.1];exact hlt)]at hy;cases hy
     exact⟨rfl,rfl⟩
    ·
     rw[List.getElem?_set_ne (fun q=>e q.symm)]at hy;exact HL.out.2 j y (by omega) hy
   ·
    simp only[intOf];omega
  ·
   obtain rfl:n=k:=by omega
   have S0:=Lib.hid (World.ownsRow.lt HR.out w.heap.size rfl);go_wp2_with (go_at_call 166;refine(hnew_c wr).mono ?_;rintro q w3 ⟨rfl,h3,b3⟩;have H3:=Lib.hid h3;have B3:=Lib.hid b3;clear h3 b3)
   have hps:=push_c wr.heap.size wr.heap.size [] 0 (.slice none 0 0) s 0 0 (by simp) (by omega) (fun i x y h0 hx=>by simp at hx) w3 H3.out;go_wp2_with (go_at_call 168;refine hps.mono ?_;rintro q w4 ⟨rfl,l4,v4,h4,e4,m4,k4,v4',-⟩;have H4:=Lib.hid (And.intro h4 (And.intro e4 (And.intro m4 (And.intro k4 v4'))));clear h4 e4 m4 k4 v4')
   have hfull:(E.filter (openE L)).length≤E.length:=List.length_filter_le _ _;have B4:Hid (Below w.heap.size w w4):=by
    have h1:=bl_next HBl.out B3.out;exact h1.trans (H4.out.2.2.2.2.below (Nat.le_of_lt S0.out.2) (fun k hk=>by cases hk) h1.size)
   obtain⟨hb,hhb⟩: ∃ hb,wr.heap.size=hb:=⟨_,rfl⟩;rw[hhb]at H3 H4;have R4:Hid (w4.ownsRow w.heap.size 263 3 (.slice (some ⟨w.heap.size,0,none⟩) n n) n (L.flatMap labCells)):=H3.out.other H4.out.2.2.2.2 (ownsRow_bl HR.out B3.out) (by decide) (by decide);have hgo:w.heap.size<hb:=by rw[←hhb];exact S0.out.2
   rw[hhb];have hstart:LabAt E s n w hb (.slice (some ⟨w.heap.size,0,none⟩) n n) (E.length+2) L l4 1 v4 w4:=by
    have hl4: ∀ z∈l4,z=⟨s,0,0,0⟩:=fun z hz=>by
     rcases(H4.out.2.2.1 z).1 hz with e|e
     · exact e
     · cases e
    have hl1:l4.length=1:=H4.out.2.1;refine⟨H4.out.1,R4.out,⟨HL.out.1,fun v x hx=>?_,fun y hy=>?_, .inr ⟨⟨s,0,0,0⟩,(H4.out.2.2.1 _).2 (.inl rfl),rfl,rfl⟩,fun e he x h0 hx hx0 _=>?_⟩,H4.out.2.2.2.1,B4.out,by omega,by omega,fun y hy=>?_,by omega⟩
    ·
     have:=(List.getElem?_eq_some_iff.1 hx).1;have hq:=HL.out.2 v x (by have:=HL.out.1;omega) hx;exact .inl hq
    ·
     rw[hl4 y hy];exact⟨Int.le_refl _, .nil,hs.1,hs.2⟩
    ·
     have:=(List.getElem?_eq_some_iff.1 hx).1;have hq:=HL.out.2 _ x (by have:=HL.out.1;omega) hx;omega
    ·
     rw[hl4 y hy];exact⟨Int.le_refl _,show(0:Int)≤1*1073741824 by decide,show(0:Int)≤1 by decide⟩
   have HST:=Lib.hid hstart;clear hstart R4 B4 H4 H3 B3 hfull hps HL HR HBl O2 B2;clear hhb S0;go_loopg [] (E.length+2) (fun gk wr=> ∃ (L:List LabD) (h:List NodeD) (p:Int) (v:Value),Hid (LabAt E s n w hb (.slice (some ⟨w.heap.size,0,none⟩) n n) gk L h p v wr))
   case atStart=>exact⟨L,l4,1,v4,HST⟩
   case round=>
    clear HST;obtain⟨L,h,p,v,HA⟩:=hrel;cases h with
    |nil=>
     go_wp2_with (go_at_call 169;refine(pop_none hb hb p v _ HA.out.hp).mono ?_;rintro q w6 ⟨rfl,b6⟩;have B6:=Lib.hid b6;clear b6;unfold labV)
     go_ret;have r:=ownsRow_bl (ownsRow_bl HA.out.row B6.out) (bl_alloc (bl_refl _) (.cells #[.int .i64 0, .int .i64 0, .int .i64 0] 263));rw[←HA.out.inv.size]at r;refine⟨_,L,rfl,by rw[←HA.out.inv.size];exact slIn_own labCells_len r,HA.out.inv.size,fun k x hx=>HA.out.inv.ends k x hx, ?_⟩;have h1:=HA.out.bel.size;exact(HA.out.bel.trans (B6.out.mono h1)).alloc (Nat.le_trans h1 B6.out.size) _
    |cons x rest=>
     obtain⟨nd,xl,xe,xm⟩:=x;have hx0:=HA.out.inv.heap _ (List.mem_cons_self ..);obtain⟨k,rfl⟩: ∃ k:Nat,nd=(k:Int):=⟨nd.toNat,by have:=hx0.2.2.1;simp only at this;omega⟩;have hkn:k<n:=by have:=hx0.2.2.2;simp only at this;omega
     have hknI:(k:Int)<(n:Int):=by omega
     have hp1:=HA.out.push;have hsz:=HA.out.size;rw[List.length_cons]at hsz;obtain⟨y,hy⟩: ∃ y,L[k]? =some y:=⟨_,List.getElem?_eq_getElem (by rw[HA.out.inv.size];exact hkn)⟩;have HY:=Lib.hid hy;have HX0:=Lib.hid hx0;have hpop:=pop_some hb hb ⟨k,xl,xe,xm⟩ rest p v (by omega) HA.out.ok wr HA.out.hp;clear hx0 hy;by_cases hye:0≤y.edg
     ·
      have hyd:decide (0≤y.edg)=true:=decide_eq_true hye;go_wp2_with (go_at_call 169;refine hpop.mono ?_;rintro q w6 ⟨rfl,l',v',h6,e6,m6,m6',k6,v6,o6⟩;have R6:=Lib.hid (HA.out.hp.other v6 HA.out.row (by decide) (by decide));have H6:=Lib.hid (And.intro h6 (And.intro e6 (And.intro m6 (And.intro m6' (And.intro k6 (And.intro v6 o6))))));have c0:w6.cell? ⟨w.heap.size,k*3,none⟩=some (.int .i64 y.node):=(World.ownsRow.cellAt R6.out (k*3+0) (by omega)).trans (flat_get labCells_len HY.out rfl);have c1:w6.cell? ⟨w.heap.size,k*3+1,none⟩=some (.int .i64 y.len):=(World.ownsRow.cellAt R6.out (k*3+1) (by omega)).trans (flat_get labCells_len HY.out rfl);have c2:w6.cell? ⟨w.heap.size,k*3+2,none⟩=some (.int .i64 y.edg):=(World.ownsRow.cellAt R6.out (k*3+2) (by omega)).trans (flat_get labCells_len HY.out rfl);have fz:=fun j=>World.ownsRow.frozenAt R6.out j;have hgl:=(World.ownsRow.lt R6.out _ rfl).2;clear h6 e6 m6 m6' k6 v6 o6;unfold labV)
      go_roundg (gk-1)
      case measure=>have:=HA.out.cnt;rw[List.length_cons]at this;omega
      case rel=>
       obtain⟨h6,e6,m6,m6',k6,v6,o6⟩:=H6.out;refine⟨L,l',p,v',Lib.hid ⟨h6.bl (bl_alloc (bl_refl _) _),ownsRow_bl R6.out (bl_alloc (bl_refl _) _),HA.out.inv.skip m6 m6' ⟨by simp only;omega,y,by rw[Int.toNat_natCast];exact HY.out,hye⟩ 0,k6, ?_, ?_,hp1,fun z hz=>HA.out.lens z (m6 z hz), ?_⟩⟩
       · exact(HA.out.bel.trans (v6.below (Nat.le_of_lt hgo) (fun j hj=>by have:=(HA.out.hp.row_lt j hj).1;omega) HA.out.bel.size)).alloc (Nat.le_trans HA.out.bel.size v6.size) _
       · have:=HA.out.cnt;rw[List.length_cons]at this;omega
       · omega
     ·
      have hyd:decide (0≤y.edg)=false:=decide_eq_false hye;go_wp2_with (go_at_call 169;refine hpop.mono ?_;rintro q w6 ⟨rfl,l',v',h6,e6,m6,m6',k6,v6,o6⟩;have R6:=Lib.hid (HA.out.hp.other v6 HA.out.row (by decide) (by decide));have H6:=Lib.hid (And.intro h6 (And.intro e6 (And.intro m6 (And.intro m6' (And.intro k6 (And.intro v6 o6))))));have c0:w6.cell? ⟨w.heap.size,k*3,none⟩=some (.int .i64 y.node):=(World.ownsRow.cellAt R6.out (k*3+0) (by omega)).trans (flat_get labCells_len HY.out rfl);have c1:w6.cell? ⟨w.heap.size,k*3+1,none⟩=some (.int .i64 y.len):=(World.ownsRow.cellAt R6.out (k*3+1) (by omega)).trans (flat_get labCells_len HY.out rfl);have c2:w6.cell? ⟨w.heap.size,k*3+2,none⟩=some (.int .i64 y.edg):=(World.ownsRow.cellAt R6.out (k*3+2) (by omega)).trans (flat_get labCells_len HY.out rfl);have fz:=fun j=>World.ownsRow.frozenAt R6.out j;have hgl:=(World.ownsRow.lt R6.out _ rfl).2;clear h6 e6 m6 m6' k6 v6 o6;unfold labV)
      obtain⟨h6,e6,m6,m6',k6,v6,o6⟩:=H6.out;have hye1:y.edg= -1:=by rcases HA.out.inv.labs k y HY.out with q|q<;>omega
      have q:=row_put labCells_len (by rw[HA.out.inv.size];exact R6.out) (show k<L.length by rw[HA.out.inv.size];exact hkn) ⟨k,xl,xe⟩;rw[HA.out.inv.size]at q;simp only[labCells,setRunW3]at q;obtain⟨C,hC⟩:=row_blk R6.out;have hmin: ∀ z∈(⟨k,xl,xe,xm⟩:NodeD)::rest,xl≤z.len:=fun z hz=>by
       obtain⟨i,hi⟩:=List.getElem?_of_mem hz;exact root_min HA.out.ok i z _ hi rfl
      have hinv:Inv E s n k (fun _=>False) (L.set k ⟨k,xl,xe⟩) l':=by
       have t:=HA.out.inv.take (fun e he=>(hE.out e he).2.2.1) (x:=⟨k,xl,xe,xm⟩) (h':=l') (List.mem_cons_self ..) hmin m6 m6' (fun hset=>by
        obtain⟨-,z,hz,hz0⟩:=hset;rw[Int.toNat_natCast,HY.out]at hz;cases hz
        omega)
       rw[Int.toNat_natCast]at t;exact t
      have hxl:=HA.out.lens _ (List.mem_cons_self ..);simp only at hxl;have F:Hid (InAt E s n w hb (.slice (some ⟨w.heap.size,0,none⟩) n n) k w6.heap.size xl xe p rest.length (fromE E k) (L.set k ⟨k,xl,xe⟩) 0 l' p v' ((((w6.setCell ⟨w.heap.size,k*3,none⟩ (.int .i64 k)).setCell ⟨w.heap.size,k*3+1,none⟩ (.int .i64 xl)).setCell ⟨w.heap.size,k*3+2,none⟩ (.int .i64 xe)).alloc (.cells #[.int .i64 k, .int .i64 xl, .int .i64 xe] 263))):=by
       have b8:Bl ((((w6.setCell ⟨w.heap.size,k*3,none⟩ (.int .i64 k)).setCell ⟨w.heap.size,k*3+1,none⟩ (.int .i64 xl)).setCell ⟨w.heap.size,k*3+2,none⟩ (.int .i64 xe))) ((((w6.setCell ⟨w.heap.size,k*3,none⟩ (.int .i64 k)).setCell ⟨w.heap.size,k*3+1,none⟩ (.int .i64 xl)).setCell ⟨w.heap.size,k*3+2,none⟩ (.int .i64 xe)).alloc (.cells #[.int .i64 k, .int .i64 xl, .int .i64 xe] 263)):=bl_alloc (bl_refl _) _;have hbel:Below w.heap.size w w6:=HA.out.bel.trans (v6.below (Nat.le_of_lt hgo) (fun j hj=>by have:=(HA.out.hp.row_lt j hj).1;omega) HA.out.bel.size);have hsz8:((((w6.setCell ⟨w.heap.size,k*3,none⟩ (.int .i64 k)).setCell ⟨w.heap.size,k*3+1,none⟩ (.int .i64 xl)).setCell ⟨w.heap.size,k*3+2,none⟩ (.int .i64 xe))).heap.size=w6.heap.size:=by simp
       refine⟨(h6.aside q.2 hC (by decide) (by decide)).bl b8,ownsRow_bl q.1 b8, ?_,k6,(hbel.grown q.2 hbel.size (fun j hj=>by cases hj;exact Nat.le_refl _)).trans (b8.mono (by rw[hsz8];exact hbel.size)), ?_, ?_, ?_,fun z hz=>HA.out.lens z (m6 z hz), ?_⟩
       ·
        have e:(fun e=>e∈(fromE E k).take 0)=fun _=>False:=by funext e;simp
        rw[e];exact hinv
       ·
        have:=heap_alloc_new ((((w6.setCell ⟨w.heap.size,k*3,none⟩ (.int .i64 k)).setCell ⟨w.heap.size,k*3+1,none⟩ (.int .i64 xl)).setCell ⟨w.heap.size,k*3+2,none⟩ (.int .i64 xe))) (.cells #[.int .i64 k, .int .i64 xl, .int .i64 xe] 263);rw[hsz8]at this;exact this
       · rw[e6];omega
       · omega
       · rw[e6];omega
      generalize ((((w6.setCell ⟨w.heap.size,k*3,none⟩ (.int .i64 k)).setCell ⟨w.heap.size,k*3+1,none⟩ (.int .i64 xl)).setCell ⟨w.heap.size,k*3+2,none⟩ (.int .i64 xe)).alloc (.cells #[.int .i64 k, .int .i64 xl, .int .i64 xe] 263))=w8 at F ⊢
      obtain⟨vn,hsl,hlook⟩:=HM.out.look2 (i:=k) (by unfold isInt;omega);have hlk:=hlook w8 (F.out.bel.mono HB.out);have HSL:=Lib.hid hsl;obtain⟨an,cn,rfl,hln,hcn⟩:=hsl.val;obtain⟨es,hes⟩: ∃ es,fromE E k=es:=⟨_,rfl⟩;rw[hes]at HSL hln hlk F;have HES:=Lib.hid hes;have hesl:es.length≤E.length:=by rw[←hes];exact List.length_filter_le _ _
      have HXL:=Lib.hid hxl;obtain⟨g1,g2⟩:=hp1;have gx1:0≤xl:=hxl.1;have gx2:xl≤4399120252928:=by omega
      have gx3:xe≤4097:=by omega
      have gx4:0≤xe:=HX0.out.1;clear h6 e6 m6 m6' k6 v6 o6 q hC hinv hmin c0 c1 c2 fz hlook hsl hes hxl hpop;rw[hlk];go_simp;go_wp2_with fail;go_loopw [57] (fun i wr2=> ∃ (j:Nat) (h2:List NodeD) (p2:Int) (v2:Value),(j≤es.length∧i= .int .i64 j)∧Hid (InAt E s n w hb (.slice (some ⟨w.heap.size,0,none⟩) n n) k w6.heap.size xl xe p rest.length es (L.set k ⟨k,xl,xe⟩) j h2 p2 v2 wr2)) (fun i _=>es.length-(intOf i).toNat)
      case atStart=>exact⟨0,l',p,v',⟨Nat.zero_le _,rfl⟩,F⟩
      case round=>
       clear F hlk;obtain⟨j,h2,p2,v2,⟨hj,rfl⟩,I⟩:=hrel;by_cases hlt:j<es.length
       ·
        have hltI:(j:Int)<(es.length:Int):=by omega
        obtain⟨be,oe,e,rfl,hbe,hex,hce⟩:=HSL.out.get (k:=j) hlt I.out.bel HB.out;obtain⟨ef,et,ew⟩:=e;have hmem:(⟨ef,et,ew⟩:EdgeD)∈fromE E k:=by rw[HES.out];exact List.mem_of_getElem? hex
        unfold fromE at hmem;rw[List.mem_filter,beq_iff_eq]at hmem;obtain⟨hmE,hef⟩:=hmem;simp only at hef;obtain⟨-,hto,hwt⟩:=hE.out _ hmE;simp only at hto hwt;obtain⟨t,rfl⟩: ∃ t:Nat,et=(t:Int):=⟨et.toNat,by omega⟩;have htn:t<n:=by omega
        have htI:(t:Int)<(n:Int):=by omega
        have d0:wr.cell? ⟨be,oe+j*3,none⟩=some (.int .i64 ef):=hce 0 _ rfl;have d1:wr.cell? ⟨be,oe+j*3+1,none⟩=some (.int .i64 t):=hce 1 _ rfl;have d2:wr.cell? ⟨be,oe+j*3+2,none⟩=some (.int .i64 ew):=hce 2 _ rfl;have hsL:(L.set k ⟨k,xl,xe⟩).length=n:=by rw[List.length_set];exact HA.out.inv.size
        obtain⟨z,hz⟩: ∃ z,(L.set k ⟨k,xl,xe⟩)[t]? =some z:=⟨_,List.getElem?_eq_getElem (by rw[hsL];exact htn)⟩;have HZ:=Lib.hid hz;have r0:wr.cell? ⟨w.heap.size,t*3,none⟩=some (.int .i64 z.node):=(World.ownsRow.cellAt I.out.row (t*3+0) (by omega)).trans (flat_get labCells_len hz rfl);have r1:wr.cell? ⟨w.heap.size,t*3+1,none⟩=some (.int .i64 z.len):=(World.ownsRow.cellAt I.out.row (t*3+1) (by omega)).trans (flat_get labCells_len hz rfl);have r2:wr.cell? ⟨w.heap.size,t*3+2,none⟩=some (.int .i64 z.edg):=(World.ownsRow.cellAt I.out.row (t*3+2) (by omega)).trans (flat_get labCells_len hz rfl);have hgl2:=(World.ownsRow.lt I.out.row _ rfl).2;have hxb:=lt_of_block I.out.xb;have x0:wr.cell? ⟨w6.heap.size,0,none⟩=some (.int .i64 k):=blk_cell I.out.xb 0 _ rfl;have x1:wr.cell? ⟨w6.heap.size,1,none⟩=some (.int .i64 xl):=blk_cell I.out.xb 1 _ rfl;have x2:wr.cell? ⟨w6.heap.size,2,none⟩=some (.int .i64 xe):=blk_cell I.out.xb 2 _ rfl;have HEX:=Lib.hid hex;have HME:=Lib.hid hmE;have hpp:=I.out.push;have hsz2:=I.out.size;have hEl:p≤4097:=by omega
        have hp24:p2≤8200:=by omega
        obtain⟨w0',w1'⟩:=hwt;clear hz hex hmE hce;by_cases hze:z.edg<0
        ·
         have hzd:decide (z.edg<0)=true:=decide_eq_true hze;have hps:=fun w9 (h9:HpAt hb hb h2 p2 v2 w9)=>push_c hb hb h2 p2 v2 t (xl+ew) (xe+1) (by omega) (by omega) I.out.ok w9 h9
         go_wp2_with (go_at_call 168;refine(hps _ (I.out.hp.bl (bl_alloc (bl_refl _) _))).mono ?_;rintro q w9 ⟨rfl,l9,v9,h9,e9,m9,k9,mv9,mm9⟩;have H9:=Lib.hid (And.intro h9 (And.intro e9 (And.intro m9 (And.intro k9 (And.intro mv9 mm9)))));clear h9 e9 m9 k9 mv9 mm9)
         obtain⟨h9,e9,m9,k9,mv9,-⟩:=H9.out;have IA:=I.out.edg (bl_alloc (bl_refl wr) (.cells #[.int .i64 k, .int .i64 t, .int .i64 ew] 232));have hxl:=HXL.out;have hlab:(L.set k ⟨k,xl,xe⟩)[(k:Int).toNat]? =some (⟨k,xl,xe⟩:LabD):=by rw[Int.toNat_natCast];exact List.getElem?_set_self (by rw[HA.out.inv.size];exact hkn)
         refine⟨⟨j+1,l9,p2+1,v9,⟨by omega,by go_num⟩,Lib.hid ⟨h9,IA.hp.other mv9 IA.row (by decide) (by decide), ?_,k9,IA.bel.trans (mv9.below (Nat.le_of_lt hgo) (fun q hq=>by have:=(IA.hp.row_lt q hq).1;omega) IA.bel.size),IA.hp.keeps mv9 IA.xb (by decide) (by decide),by have:=IA.cnt;omega,by omega,fun y hy=>?_,by omega⟩⟩, ?_⟩
         ·
          rw[take_done HEX.out];exact I.out.inv.pushed HME.out (by simp only;omega) hef (x:=⟨k,xl,xe⟩) (by omega) hlab gx4 (y:=⟨t,xl+ew,xe+1,p2⟩) ⟨rfl,rfl,rfl⟩ m9
         ·
          rcases(m9 y).1 hy with rfl|hy
          ·
           refine⟨?_, ?_, ?_⟩
           ·
            show 0≤xl+ew
            omega
           ·
            show xl+ew≤(p2+1)*1073741824
            omega
           ·
            show xe+1≤p2+1
            omega
          ·
           have:=I.out.lens y hy;omega
         ·
          simp only[intOf];omega
        ·
         have hzd:decide (z.edg<0)=false:=decide_eq_false hze;go_wp2;have IA:=I.out.edg (bl_alloc (bl_refl wr) (.cells #[.int .i64 k, .int .i64 t, .int .i64 ew] 232));refine⟨⟨j+1,h2,p2,v2,⟨by omega,by go_num⟩,Lib.hid ⟨IA.hp,IA.row, ?_,IA.ok,IA.bel,IA.xb,by have:=IA.cnt;omega,by omega,IA.lens,IA.size⟩⟩, ?_⟩
         ·
          rw[take_done HEX.out];exact I.out.inv.known ⟨by simp only;omega,z,by rw[Int.toNat_natCast];exact HZ.out,by omega⟩
         ·
          simp only[intOf];omega
       ·
        obtain rfl:j=es.length:=by omega
        go_wp2_with fail;have hopen:(E.filter (openE (L.set k ⟨k,xl,xe⟩))).length+es.length=(E.filter (openE L)).length:=by
         rw[←HES.out];exact open_drop (by rw[HA.out.inv.size];exact hkn) gx4 (fun u hu=>by rw[HY.out]at hu;cases hu;omega) E (fun e he=>(hE.out e he).1.1)
        have hcnt:=HA.out.cnt;rw[List.length_cons]at hcnt;have hpush:=HA.out.push;have hicnt:=I.out.cnt;have hipush:=I.out.push;go_roundg (gk-1)
        case measure=>omega
        case rel=>
         refine⟨L.set k ⟨k,xl,xe⟩,h2,p2,v2,Lib.hid ⟨I.out.hp,I.out.row,I.out.inv.all (fun e he hf=>?_) 0,I.out.ok,I.out.bel,by omega,by omega,I.out.lens,I.out.size⟩⟩;rw[List.take_length,←HES.out];unfold fromE;rw[List.mem_filter,beq_iff_eq];exact⟨he,hf⟩
end Go.Proofs.YtncbcmiflffakaaGreat
