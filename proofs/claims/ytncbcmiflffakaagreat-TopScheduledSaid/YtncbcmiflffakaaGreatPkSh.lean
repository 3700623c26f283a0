/-
  What the laws of top need of TopShA, TopShB, TopShC, TopShD. Conditions: those of each lemma.
-/
import Derived.Test.YtncbcmiflffakaaGreatPkLab
import Derived.Test.YtncbcmiflffakaaGreatPkRg
set_option maxRecDepth 1000000
set_option maxHeartbeats 32000000
namespace Go.Proofs.YtncbcmiflffakaaGreat
open Go.RowKit
open Dj
theorem info_int:(Tryz.prog.info? 3).map (fun i=>(i.zero,i.size,i.bytes))=some (some (.int .i64 0),1,8):=by kernel_rfl
theorem ints_flat (l:List Int):l.flatMap intCells=l.map (Value.int .i64):=by
 induction l with
 |nil=>rfl
 |cons x l ih=>rw[List.flatMap_cons,List.map_cons,ih];rfl
theorem setRunW1 (w:World) (g o:Nat) (a:Value):setRunW w g o [a]=w.setCell ⟨g,o,none⟩ a:=rfl
theorem lengths_c (v:Value) (L:List LabD) (hn:L.length≤64) (B:Nat) (w:World) (hv:SlIn labCells 3 B w v L) (hB:B≤w.heap.size):
  Calls Tryz.prog 151 #[v] w fun e w'=> ∃ v',e= .returned v'∧IntsIn w'.heap.size w' v' (L.map (·.len))∧(∃ m,v'= .slice (some ⟨w.heap.size,0,none⟩) m m)∧Bl w w':=by
 obtain⟨i0,hi,hz0,hz1,hz2⟩:=info_parts info_int;have HV:=Lib.hid hv;obtain⟨a,cap,rfl,h1,h2⟩:=hv.val;clear hv;obtain⟨n,hnn⟩: ∃ n,L.length=n:=⟨_,rfl⟩;rw[hnn]at HV h1 hn ⊢;have HN:=Lib.hid hnn;have hnI:(n:Int)≤64:=by omega
 clear hnn;go_enter Tryz.func151,Tryz.ntmps151
 go_wp2_with (refine wpList_make_full _ rfl _ _ 59 rfl w.heap.size 3 i0 (.int .i64 0) 1 Tryz.underlying59 hi hz0 hz1 .i64 .i64 _ _ n rfl rfl rfl rfl ?c1 ?c2 ?c3 ?_)
 case c1=>rw[hz2];omega
 case c2=>unfold maxLen;omega
 case c3=>simp
 intro w2 own2 gr2;have own2':w2.ownsRow w.heap.size 3 1 (.slice (some ⟨w.heap.size,0,none⟩) n n) n ((List.replicate n (0:Int)).flatMap intCells):=by
  rw[ints_flat,List.map_replicate,←toList_madeCells_one,←Nat.mul_one n];have:=own2;simpa using this
 have O2:=Lib.hid own2';have B2:Hid (Bl w w2):=(bl_refl w).grown gr2 (by simp) (fun k hk=>by cases hk);clear own2 own2' gr2;go_wp2_with fail;go_loopw [11] (fun i wr=> ∃ (k:Nat) (M:List Int),(k≤n∧i= .int .i64 k)∧Hid (M.length=n∧M.take k=(L.take k).map (·.len))∧Hid (wr.ownsRow w.heap.size 3 1 (.slice (some ⟨w.heap.size,0,none⟩) n n) n (M.flatMap intCells))∧Hid (Bl w wr)) (fun i _=>n-(intOf i).toNat)
 case atStart=>exact⟨0,List.replicate n 0,⟨Nat.zero_le _,rfl⟩,Lib.hid ⟨List.length_replicate,by simp⟩,O2,B2⟩
 case round=>
  obtain⟨k,M,⟨hk,rfl⟩,HM,HR,HBl⟩:=hrel;by_cases hlt:k<n
  ·
   have hltI:(k:Int)<(n:Int):=by omega
   obtain⟨b,o,x,rfl,hb,hx,hc⟩:=HV.out.get (k:=k) (by rw[HN.out];exact hlt) HBl.out hB;have d0:wr.cell? ⟨b,o+k*3,none⟩=some (.int .i64 x.node):=hc 0 _ rfl;have d1:wr.cell? ⟨b,o+k*3+1,none⟩=some (.int .i64 x.len):=hc 1 _ rfl;have d2:wr.cell? ⟨b,o+k*3+2,none⟩=some (.int .i64 x.edg):=hc 2 _ rfl;obtain⟨y,hy⟩: ∃ y,M[k]? =some y:=⟨_,List.getElem?_eq_getElem (by rw[HM.out.1];exact hlt)⟩;have c0:wr.cell? ⟨w.heap.size,k,none⟩=some (.int .i64 y):=by
    have:=(World.ownsRow.cellAt HR.out (k*1+0) (by omega)).trans (flat_get intCells_len hy rfl);simpa using this
   have fz:=fun j=>World.ownsRow.frozenAt HR.out j
   have hgl:=(World.ownsRow.lt HR.out _ rfl).2;have HX:=Lib.hid hx;clear hx hc hy;go_wp2;have q:=row_put intCells_len (l:=M) (by rw[HM.out.1];exact HR.out) (show k<M.length by rw[HM.out.1];exact hlt) x.len;rw[HM.out.1,Nat.mul_one]at q;simp only[intCells,setRunW1]at q;refine⟨⟨k+1,M.set k x.len,⟨by omega,by go_num⟩,Lib.hid ⟨by rw[List.length_set];exact HM.out.1, ?_⟩,Lib.hid (ownsRow_bl q.1 (bl_alloc (bl_refl _) _)),Lib.hid (bl_alloc (bl_new HBl.out q.2 (Nat.le_refl _)) _)⟩, ?_⟩
   ·
    rw[take_snoc_at HX.out,List.map_append,←HM.out.2,take_snoc_at (x:=x.len) (by rw[List.getElem?_set_self (by rw[HM.out.1];exact hlt)]),List.take_set_of_le (Nat.le_refl _)];rfl
   ·
    simp only[intOf];omega
  ·
   obtain rfl:n=k:=by omega
   go_wp2;go_ret;have e:M=L.map (·.len):=by
    have:=HM.out.2;rw[List.take_of_length_le (by rw[HM.out.1];exact Nat.le_refl _),List.take_of_length_le (by rw[HN.out];exact Nat.le_refl _)]at this;exact this
   rw[←e];refine⟨_,rfl, ?_,⟨_,rfl⟩,HBl.out⟩;have r:=HR.out;rw[←HM.out.1]at r ⊢;exact slIn_own intCells_len r
theorem checkOne_c (i n:Int) (b:Nat) (w:World) (hc:w.cell? ⟨b,0,none⟩=some (.int .i64 n)):
  Calls Tryz.prog 165 #[.int .i64 i, .pointer (some ⟨b,0,none⟩)] w fun e w'=>e= .returned (.bool (decide (i<0)||decide (n≤i)))∧w=w':=by
 by_cases h:i<0
 ·
  go_enter Tryz.func165,Tryz.ntmps165
  go_wp2;go_ret;exact⟨ret_bool (by simp[h]),rfl⟩
 ·
  have h':decide (i<0)=false:=decide_eq_false h;go_enter Tryz.func165,Tryz.ntmps165
  go_wp2;go_ret;exact⟨ret_bool (by simp),rfl⟩
theorem scheck_c (n:Nat) (hn:n≤64) (v:Value) (E:List EdgeD) (hE:Hid (∀ e∈E,(0≤e.frm∧e.frm<n)∧(0≤e.to∧e.to<n)∧(0≤e.wt∧e.wt≤1073741824))) (B:Nat) (w:World) (hv:SlIn edgeCells 3 B w v E) (hB:B≤w.heap.size):
  Calls Tryz.prog 149 #[.int .i64 n,v, .slice none 0 0] w fun e w'=>e= .returned (.int .i64 (if 4096<E.length then 5 else 0))∧Bl w w':=by
 have HV:=Lib.hid hv;obtain⟨a,cap,rfl,h1,h2⟩:=hv.val;clear hv;have hnI:(n:Int)≤64:=by omega
 by_cases h3:4096<E.length
 ·
  have h3I:(4096:Int)<(E.length:Int):=by omega
  go_enter Tryz.func149,Tryz.ntmps149
  go_wp2;go_ret;exact⟨rfl,bl_alloc (bl_refl _) _⟩
 ·
  have h3I: ¬ (4096:Int)<(E.length:Int):=by omega
  go_enter Tryz.func149,Tryz.ntmps149
  obtain⟨w0,hw0⟩: ∃ w0,w.alloc (.cells #[.int .i64 n] 3)=w0:=⟨_,rfl⟩;have B0:Hid (Bl w w0):=by rw[←hw0];exact bl_alloc (bl_refl _) _
  have H0:Hid (w0.heap[w.heap.size]? =some (.cells #[.int .i64 n] 3 (0,0))):=by rw[←hw0];exact heap_alloc_new w _
  have c0:w0.cell? ⟨w.heap.size,0,none⟩=some (.int .i64 n):=blk_cell H0.out 0 _ rfl;go_wp2_with fail;clear hw0;go_loopw [24] (fun i wr=> ∃ k:Nat,(k≤E.length∧i= .int .i64 k)∧Hid (Bl w0 wr)) (fun i _=>E.length-(intOf i).toNat)
  case atStart=>exact⟨0,⟨Nat.zero_le _,rfl⟩,Lib.hid (bl_refl _)⟩
  case round=>
   obtain⟨k,⟨hk,rfl⟩,HBl⟩:=hrel;have r0:wr.cell? ⟨w.heap.size,0,none⟩=some (.int .i64 n):=blk_cell (blk_bl H0.out HBl.out) 0 _ rfl;have r0l:=lt_of_block (blk_bl H0.out HBl.out);by_cases hlt:k<E.length
   ·
    have hltI:(k:Int)<(E.length:Int):=by omega
    obtain⟨b,o,x,rfl,hb,hx,hc⟩:=HV.out.get (k:=k) hlt (bl_next B0.out HBl.out) hB;obtain⟨⟨f0,f1⟩,⟨t0,t1⟩,⟨g0,g1⟩⟩:=hE.out x (List.mem_of_getElem? hx);have d0:wr.cell? ⟨b,o+k*3,none⟩=some (.int .i64 x.frm):=hc 0 _ rfl;have d1:wr.cell? ⟨b,o+k*3+1,none⟩=some (.int .i64 x.to):=hc 1 _ rfl;have d2:wr.cell? ⟨b,o+k*3+2,none⟩=some (.int .i64 x.wt):=hc 2 _ rfl;have e1:(decide (x.frm<0)||decide ((n:Int)≤x.frm))=false:=by simp;omega
    have e2:(decide (x.to<0)||decide ((n:Int)≤x.to))=false:=by simp;omega
    have k1:=fun w9 (h9:w9.cell? ⟨w.heap.size,0,none⟩=some (.int .i64 n))=>checkOne_c x.frm n w.heap.size w9 h9
    have k2:=fun w9 (h9:w9.cell? ⟨w.heap.size,0,none⟩=some (.int .i64 n))=>checkOne_c x.to n w.heap.size w9 h9
    rw[e1]at k1;rw[e2]at k2;have gd:decide (x.wt<0)=false:=by simp;omega
    have ra:=((bl_cell (bl_alloc (bl_refl wr) (.cells #[.int .i64 x.frm, .int .i64 x.to, .int .i64 x.wt] 232))).1 w.heap.size 0 r0l).trans r0;clear e1 e2 hx hc;go_wp2_with (go_at_call 165;first|(with_reducible refine(k1 _ ra).mono ?_;rintro q w9 ⟨rfl,rfl⟩)|(with_reducible refine(k2 _ ra).mono ?_;rintro q w9 ⟨rfl,rfl⟩))
    exact⟨⟨k+1,⟨by omega,by go_num⟩,Lib.hid (bl_alloc HBl.out _)⟩,by simp only[intOf];omega⟩
   ·
    obtain rfl:k=E.length:=by omega
    go_wp2_with fail;have HB2:=Lib.hid (bl_next B0.out HBl.out);go_loopw [49] (fun i wx=>i= .int .i64 0∧Hid (Bl w wx)) (fun _ _=>0)
    case atStart=>exact⟨rfl,HB2⟩
    case round=>
     obtain⟨rfl,HB3⟩:=hrel;go_wp2;go_ret;exact⟨rfl,HB3.out⟩
end Go.Proofs.YtncbcmiflffakaaGreat
namespace Go.Proofs.YtncbcmiflffakaaGreat
open Go.RowKit
open Dj
theorem info_edge:(Tryz.prog.info? 232).map (fun i=>(i.zero,i.size,i.bytes))=some (some (.agg #[.int .i64 0, .int .i64 0, .int .i64 0]),3,24):=by kernel_rfl
def gAt (G:Lit→Option Value) (i:Int):Value:=(G (.int .i64 i)).getD (.slice none 0 0)
structure NbAt (base b k:Nat) (E:List EdgeD) (G:Lit→Option Value) (w:World):Prop where
 own:OwnsVal w Tryz.prog 3 b k G
 rows: ∀ i,w.ownsRow base 232 3 (gAt G i) (fromE E i).length ((fromE E i).flatMap edgeCells)
 apart: ∀ i j,i≠j→(gAt G i).ownBlock=none∨(gAt G i).ownBlock≠(gAt G j).ownBlock
theorem NbAt.bl {base b k:Nat} {E:List EdgeD} {G:Lit→Option Value} {w w':World} (h:NbAt base b k E G w) (hb:Bl w w'):NbAt base b k E G w':=⟨h.own.bl hb,fun i=>ownsRow_bl (h.rows i) hb,h.apart⟩
theorem OwnsVal.blk {w:World} {P:Program} {k:TypeId} {b n:Nat} {G:Lit→Option Value} (h:OwnsVal w P k b n G): ∃ es clock,w.heap[b]? =some (.map es clock):=by
 obtain⟨D,⟨es,clock,h1,-⟩,-⟩:=h;exact⟨es,clock,h1⟩
theorem row_not_map {base sz n:Nat} {T:TypeId} {w:World} {v:Value} {xs:List Value} (h:w.ownsRow base T sz v n xs) {b:Nat} {es:Array MapEntry} {c:Nat} (hb:w.heap[b]? =some (.map es c)):v.ownBlock≠some b:=by
 intro e;rcases h.2 with⟨rfl,-⟩|⟨g,cap,cur,rfl,-,h3,-⟩
 · simp[Value.ownBlock]at e
 ·
  obtain rfl:g=b:=by simpa[Value.ownBlock]using e
  rw[hb]at h3;cases h3
theorem fromE_snoc (E:List EdgeD) (e:EdgeD) (i:Int):fromE (E++[e]) i=if e.frm=i then fromE E i++[e]else fromE E i:=by
 unfold fromE;rw[List.filter_append];by_cases h:e.frm=i
 ·
  rw[if_pos h,List.filter_cons_of_pos (by rw[beq_iff_eq];exact h)];rfl
 ·
  rw[if_neg h,List.filter_cons_of_neg (by rw[beq_iff_eq];exact h)];simp
theorem gAt_put (G:Lit→Option Value) (a i:Int) (v:Value):gAt (putV G (.int .i64 a) v) i=if i=a then v else gAt G i:=by
 unfold gAt;by_cases h:i=a
 ·
  subst h;rw[if_pos rfl,putV_at G (show WideAt.IsKeyLit (.int .i64 i) from by trivial)];rfl
 · rw[if_neg h,putV_ne (by simpa using h)]
theorem NbAt.push {base b k:Nat} {E:List EdgeD} {G:Lit→Option Value} {w w1 w2:World} (h:NbAt base b k E G w) (e:EdgeD) {v':Value}
  (ho:w1.ownsRow base 232 3 v' ((fromE E e.frm).length+1) ((fromE E e.frm).flatMap edgeCells++edgeCells e)) (hg:w.grownBy w1 (gAt G e.frm).ownBlock) (hat:v'.ownBlock=(gAt G e.frm).ownBlock∨ ∀ q,v'.ownBlock=some q→w.heap.size≤q)
  (hm:OwnsVal w2 Tryz.prog 3 b (k+1) (putV G (.int .i64 e.frm) v')) (hg2:w1.grownBy w2 (some b)) (hw1: ∃ es c,w1.heap[b]? =some (.map es c)):NbAt base b (k+1) (E++[e]) (putV G (.int .i64 e.frm) v') w2:=by
 obtain⟨es,c,hmb⟩:=hw1;have hold: ∀ i,i≠e.frm→w1.ownsRow base 232 3 (gAt G i) (fromE E i).length ((fromE E i).flatMap edgeCells):=fun i hi=>(h.rows i).kept hg (h.apart i e.frm hi)
 refine⟨hm,fun i=>?_,fun i j hij=>?_⟩
 ·
  rw[gAt_put,fromE_snoc];by_cases hi:i=e.frm
  ·
   subst hi;rw[if_pos rfl,if_pos rfl,List.length_append,List.length_singleton,List.flatMap_append];have:=ho.kept hg2 (.inr (row_not_map ho hmb));simpa using this
  ·
   rw[if_neg hi,if_neg (fun q=>hi q.symm)];exact(hold i hi).kept hg2 (.inr (row_not_map (hold i hi) hmb))
 ·
  rw[gAt_put,gAt_put];by_cases hi:i=e.frm
  ·
   rw[if_pos hi,if_neg (fun q=>hij (hi.trans q.symm))];rcases hat with q|q
   ·
    rw[q,←hi];exact h.apart i j hij
   ·
    refine .inr fun q'=>?_
    cases hv:v'.ownBlock with
    |none=>
     obtain⟨g,cap,rfl,-⟩:=ho.form (by omega);simp[Value.ownBlock]at hv
    |some y=>
     rw[hv]at q';have h1:=q y hv;have h2:=(World.ownsRow.lt (h.rows j) y q'.symm).2;omega
  ·
   rw[if_neg hi];by_cases hj:j=e.frm
   ·
    rw[if_pos hj];rcases hat with q|q
    ·
     rw[q,←hj];exact h.apart i j hij
    ·
     cases hv:(gAt G i).ownBlock with
     |none=>exact .inl rfl
     |some y=>
      refine .inr fun q'=>?_
      have h1:=q y q'.symm;have h2:=(World.ownsRow.lt (h.rows i) y hv).2;omega
   ·
    rw[if_neg hj];exact h.apart i j hij
theorem NbAt.next {base b k:Nat} {E:List EdgeD} {G:Lit→Option Value} {w:World} (h:NbAt base b k E G w):NextAt w.heap.size b E w:=
 ⟨⟨k,G,h.own,fun i _=>slIn_own edgeCells_len (h.rows i)⟩,h.own.lt⟩
end Go.Proofs.YtncbcmiflffakaaGreat
namespace Go.Proofs.YtncbcmiflffakaaGreat
open Go.RowKit
open Dj
theorem neighbors_c (v:Value) (E:List EdgeD) (hlen:E.length≤4096) (hE:Hid (∀ e∈E,isInt e.frm)) (B:Nat) (w:World) (hv:SlIn edgeCells 3 B w v E) (hB:B≤w.heap.size):
  Calls Tryz.prog 150 #[v, .bool false] w fun e w'=> ∃ b,e= .returned (.map (some b))∧NextAt w'.heap.size b E w'∧Bl w w':=by
 obtain⟨i0,hi,hz0,hz1,hz2⟩:=info_parts info_edge;have HV:=Lib.hid hv;obtain⟨a,cap,rfl,h1,h2⟩:=hv.val;clear hv;have hnI:(E.length:Int)≤4096:=by omega
 have hmm:= @run_makeMap Tryz.prog;go_enter Tryz.func150,Tryz.ntmps150
 go_wp2_with fail;clear hmm;go_loopw [11] (fun i wr=> ∃ (k:Nat) (G:Lit→Option Value),(k≤E.length∧i= .int .i64 k)∧Hid (NbAt w.heap.size w.heap.size k (E.take k) G wr)∧Hid (Bl w wr)) (fun i _=>E.length-(intOf i).toNat)
 case atStart=>exact⟨0,fun _=>none,⟨Nat.zero_le _,rfl⟩,Lib.hid ⟨ownsVal_made w _ _,fun i=>World.ownsRow_nil _ _ _ _,fun i j _=> .inl rfl⟩,Lib.hid (bl_alloc (bl_refl _) _)⟩
 case round=>
  obtain⟨k,G,⟨hk,rfl⟩,HN,HBl⟩:=hrel;by_cases hlt:k<E.length
  ·
   have hltI:(k:Int)<(E.length:Int):=by omega
   obtain⟨b,o,x,rfl,hb,hx,hc⟩:=HV.out.get (k:=k) hlt HBl.out hB;have d0:wr.cell? ⟨b,o+k*3,none⟩=some (.int .i64 x.frm):=hc 0 _ rfl;have d1:wr.cell? ⟨b,o+k*3+1,none⟩=some (.int .i64 x.to):=hc 1 _ rfl;have d2:wr.cell? ⟨b,o+k*3+2,none⟩=some (.int .i64 x.wt):=hc 2 _ rfl;have HX:=Lib.hid hx;have HI:=Lib.hid (hE.out x (List.mem_of_getElem? hx));obtain⟨wa,hwa⟩: ∃ wa,wr.alloc (.cells #[.int .i64 x.frm, .int .i64 x.to, .int .i64 x.wt] 232)=wa:=⟨_,rfl⟩;have BA:Hid (Bl wr wa):=by rw[←hwa];exact bl_alloc (bl_refl _) _
   have HA:Hid (wa.heap[wr.heap.size]? =some (.cells #[.int .i64 x.frm, .int .i64 x.to, .int .i64 x.wt] 232 (0,0))):=by rw[←hwa];exact heap_alloc_new wr _
   have e0:wa.cell? ⟨wr.heap.size,0,none⟩=some (.int .i64 x.frm):=blk_cell HA.out 0 _ rfl;have e1:wa.cell? ⟨wr.heap.size,1,none⟩=some (.int .i64 x.to):=blk_cell HA.out 1 _ rfl;have e2:wa.cell? ⟨wr.heap.size,2,none⟩=some (.int .i64 x.wt):=blk_cell HA.out 2 _ rfl;have NA:=Lib.hid (HN.out.bl BA.out);have hlk: ∀ w9:World,OwnsVal w9 Tryz.prog 3 w.heap.size k G→(Instr.lookup 246 (.map (some w.heap.size)) (.int .i64 x.frm) false).run Tryz.prog w9= .ok (gAt G x.frm) w9:=fun w9 h9=>h9.look int_law Tryz.underlying246 (z:= .slice none 0 0) (by kernel_rfl) (key_int HI.out)
   have ND:Hid (NbAt w.heap.size w.heap.size k (E.take k) G wa.drew):=NA.out.bl (bl_drew (bl_refl _));have BD:Hid (Bl w wa.drew):=bl_drew (bl_next HBl.out BA.out);have hf:(fromE (E.take k) x.frm).length≤4096:=Nat.le_trans (List.length_filter_le _ _) (by rw[List.length_take];omega);have hlw:=(ND.out.own).lt;have hbx:wr.heap.size<wa.drew.heap.size:=lt_of_block HA.out;have hS: ∀ w9,Bl wa.drew w9→(w9.cell? ⟨wr.heap.size,0,none⟩=some (.int .i64 x.frm)∧w9.cell? ⟨wr.heap.size,1,none⟩=some (.int .i64 x.to)∧w9.cell? ⟨wr.heap.size,2,none⟩=some (.int .i64 x.wt)∧(Instr.lookup 246 (.map (some w.heap.size)) (.int .i64 x.frm) false).run Tryz.prog w9= .ok (gAt G x.frm) w9):=fun w9 h9=>
    ⟨((bl_cell h9).1 _ _ hbx).trans e0,((bl_cell h9).1 _ _ hbx).trans e1,((bl_cell h9).1 _ _ hbx).trans e2,hlk w9 (ND.out.own.bl h9)⟩
   clear hx hc;go_upto_region 7 with fail
   refine startW (fun w9=>w9.cell? ⟨wr.heap.size,0,none⟩=some (.int .i64 x.frm)∧w9.cell? ⟨wr.heap.size,1,none⟩=some (.int .i64 x.to)∧w9.cell? ⟨wr.heap.size,2,none⟩=some (.int .i64 x.wt)∧(Instr.lookup 246 (.map (some w.heap.size)) (.int .i64 x.frm) false).run Tryz.prog w9= .ok (gAt G x.frm) w9) 10 (hS _ (bl_refl _)) (fun hHeld=>?_);refine takeW 0 ?_;refine takeW 1 ?_;refine takeW 2 ?_;refine takeW 3 ?_;refine takeW 4 ?_;refine takeW 5 ?_;refine takeW 6 ?_;refine takeW 7 ?_;generalize hwd:wa.drew=wd at ND BD hS hHeld hbx hlw ⊢
   refine stepW 8 (fun KK hKK=>?_);go_simp;have ba:Bl wd (wd.alloc (.cells #[.int .i64 x.frm, .int .i64 x.to, .int .i64 x.wt] 232)):=bl_alloc (bl_refl _) _;refine hKK.out _ _ (hS _ ba) (fun hHeld=>?_);refine stepW 9 (fun KK hKK=>?_);obtain⟨va,vc,hva⟩: ∃ a c,gAt G x.frm= .slice a (fromE (E.take k) x.frm).length c:=by
    rcases(ND.out.rows x.frm).2 with⟨q,h0⟩|⟨g,cc,cur,q,-⟩
    · exact⟨none,0,by rw[q,h0]⟩
    · exact⟨_,_,q⟩
   refine wp_append_lies _ _ _ _ (by rfl) w.heap.size 232 i0 _ 3 24 Tryz.underlying230 hi hz0 hz1 hz2 rfl (by omega) (gAt G x.frm) (fromE (E.take k) x.frm).length ((fromE (E.take k) x.frm).flatMap edgeCells) (by rfl) ((ND.out.rows x.frm).alloc _) ⟨wd.heap.size,0,none⟩ 1 1 (edgeCells x) (by rfl) (by rfl) (World.news_of_block (cs:= #[.int .i64 x.frm, .int .i64 x.to, .int .i64 x.wt]) (heap_alloc_new wd _)) (by simp[edgeCells,Value.oneCell']) (by omega) (by unfold maxLen;omega) (by omega) (by have:=BD.out.size;simp;omega) (wd.heap.size+1) (by simp) ?_;intro g9 c9 w9 hown9 hgrow9 hat9 hlt9;have NB:=ND.out.bl ba;have hrl:=World.ownsRow.lt (HN.out.rows x.frm);have hbn:some wr.heap.size≠(gAt G x.frm).ownBlock:=fun e=>by have:=(hrl _ e.symm).2;omega
   obtain⟨es,cl,hmb⟩:=NB.own.blk;have hmn:some w.heap.size≠(gAt G x.frm).ownBlock:=fun e=>row_not_map (NB.rows x.frm) hmb e.symm
   have hbl:=ba.size;have O9:OwnsVal w9 Tryz.prog 3 w.heap.size k G:=NB.own.kept (hgrow9.block w.heap.size (by omega) hmn);have hS9:=hS _ ba;obtain⟨w10,hrun,O10,g10⟩:=O9.put int_law Tryz.underlying246 (by unfold maxLen;omega) (key_int HI.out) (.slice (some ⟨g9,0,none⟩) ((fromE (E.take k) x.frm).length+1) c9);refine hKK.out _ _ ⟨hgrow9.cell hS9.1 hbn,hgrow9.cell hS9.2.1 hbn,hgrow9.cell hS9.2.2.1 hbn,hlk w9 O9⟩ (fun hHeld=>?_);have N10:=NB.push x hown9 hgrow9 (by
    rcases hat9 with q|q
    · exact .inl q.symm
    ·
     exact .inr fun y hy=>by
      obtain rfl:g9=y:=by simpa[Value.ownBlock]using hy
      simp;omega) O10 g10 ⟨es,cl,(hgrow9.block w.heap.size (by omega) hmn).trans hmb⟩
   have hb10:Bl w w10:=by
    have h1:=bl_next BD.out ba;have h2:Bl w w9:=h1.grown hgrow9 h1.size (fun y hy=>(World.ownsRow.lt (NB.rows x.frm) y hy).1);exact bl_new h2 g10 (Nat.le_refl _)
   have N11:=Lib.hid N10;have B10:=Lib.hid hb10;rw[←take_snoc_at HX.out]at N11;clear N10 hb10 hS9 hS;refine lastW (fun KK hKK=>?_);go_simp;refine hKK.out _ _ ?_;go_wp2;exact⟨⟨k+1,_,⟨by omega,by go_num⟩,N11,B10⟩,by simp only[intOf];omega⟩
  ·
   obtain rfl:k=E.length:=by omega
   go_wp2;go_ret;have:=HN.out;rw[List.take_length]at this;exact⟨_,rfl,this.next,HBl.out⟩
end Go.Proofs.YtncbcmiflffakaaGreat
namespace Go.Proofs.YtncbcmiflffakaaGreat
open Go.RowKit
open Dj
def valCells (v:Value):List Value:=[v]
theorem valCells_len (v:Value):(valCells v).length=1:=rfl
def MatIn (B:Nat) (w:World) (v:Value) (M:List (List Int)):Prop:=
 ∃ vs:List Value,SlIn valCells 1 B w v vs∧vs.length=M.length∧ ∀ (i:Nat) (u:Value) (r:List Int),vs[i]? =some u→M[i]? =some r→IntsIn B w u r
def Off (g:Nat) (v:Value):Prop:= ∀ b o n c,v= .slice (some ⟨b,o,none⟩) n c→b≠g
theorem SlIn.turned {α:Type} {cells:α→List Value} {sz B:Nat} {w w':World} {v:Value} {xs:List α} (h:SlIn cells sz B w v xs) {g:Nat} (hg:w.grownBy w' (some g)) (ho:Off g v) (hB:B≤w.heap.size):SlIn cells sz B w' v xs:=by
 obtain⟨a,cap,rfl,h1,h2,h3⟩:=h;refine⟨a,cap,rfl,h1,h2,fun h0=>?_⟩;obtain⟨b,o,rfl,hb,hc⟩:=h3 h0;refine⟨b,o,rfl,hb,fun i x hx j u hu=>?_⟩;have:=ho b o _ _ rfl;exact(World.cell?_of_block (a:=⟨b,o+i*sz+j,none⟩) (hg.block b (by omega) (by simp;omega))).trans (hc i x hx j u hu)
def DistRow (E:List EdgeD) (n:Nat) (s:Int) (r:List Int):Prop:=r.length=n∧ ∀ (t:Nat) (x:Int),r[t]? =some x→IsDist E s t x
theorem info_rowT:(Tryz.prog.info? 59).map (fun i=>(i.zero,i.size,i.bytes))=some (some (.slice none 0 0),1,24):=by kernel_rfl
theorem sall_c (n:Nat) (hn:n≤64) (v:Value) (E:List EdgeD) (hE:Hid (∀ e∈E,(0≤e.frm∧e.frm<n)∧(0≤e.to∧e.to<n)∧(0≤e.wt∧e.wt≤1073741824))) (hm:E.length≤4096) (B:Nat) (w:World) (hv:SlIn edgeCells 3 B w v E) (hB:B≤w.heap.size):
  Calls Tryz.prog 136 #[.int .i64 n,v] w fun e w'=> ∃ v' M,e= .returned (.tuple #[v', .int .i64 0])∧MatIn w'.heap.size w' v' M∧M.length=n∧(∀ (i:Nat) (r:List Int),M[i]? =some r→DistRow E n i r)∧Bl w w':=by
 obtain⟨i0,hi,hz0,hz1,hz2⟩:=info_parts info_rowT;have HV:=Lib.hid hv;have hk:=scheck_c n hn v E hE B w hv hB;rw[if_neg (by omega)]at hk;have HK:=Lib.hid hk;have hnI:(n:Int)≤64:=by omega
 clear hv hk;go_enter Tryz.func136,Tryz.ntmps136
 go_wp2_with (go_at_call 149;refine HK.out.mono ?_;rintro q w2 ⟨rfl,b2⟩;have B2:=Lib.hid b2;clear b2)
 go_upto_region 5 with(go_at_call 150;refine(neighbors_c v E hm (fun e he=>by have:=(hE.out e he).1;unfold isInt;omega) B w2 (HV.out.below (B2.out.mono hB)) (Nat.le_trans hB B2.out.size)).mono ?_;rintro q w3 ⟨b,rfl,n3,b3⟩;have N3:=Lib.hid n3;have B3:=Lib.hid b3;clear n3 b3)
 go_wp2_with (refine wpList_make_full _ rfl _ _ 204 rfl w3.heap.size 59 i0 (.slice none 0 0) 1 Tryz.underlying204 hi hz0 hz1 .i64 .i64 _ _ n rfl rfl rfl rfl ?c1 ?c2 ?c3 ?_)
 case c1=>rw[hz2];omega
 case c2=>unfold maxLen;omega
 case c3=>simp
 intro w4 own4 gr4;have own4':w4.ownsRow w3.heap.size 59 1 (.slice (some ⟨w3.heap.size,0,none⟩) n n) n ((List.replicate n (Value.slice none 0 0)).flatMap valCells):=by
  have e: ∀ m,(List.replicate m (Value.slice none 0 0)).flatMap valCells=List.replicate m (Value.slice none 0 0):=by
   intro m;induction m with
   |zero=>rfl
   |succ m ih=>rw[List.replicate_succ,List.flatMap_cons,ih];rfl
  rw[e,←toList_madeCells_one,←Nat.mul_one n];have:=own4;simpa using this
 have O4:=Lib.hid own4';have B4:Hid (Bl w3 w4):=(bl_refl w3).grown gr4 (by simp) (fun k hk=>by cases hk);clear own4 own4' gr4;go_wp2_with fail;go_loopw [22] (fun i wr=> ∃ (k:Nat) (vs:List Value) (M:List (List Int)),(k≤n∧i= .int .i64 k)∧Hid (vs.length=n∧M.length=k)∧Hid (wr.ownsRow w3.heap.size 59 1 (.slice (some ⟨w3.heap.size,0,none⟩) n n) n (vs.flatMap valCells))∧Hid (∀ (j:Nat) (u:Value) (r:List Int),vs[j]? =some u→M[j]? =some r→IntsIn wr.heap.size wr u r∧Off w3.heap.size u)∧Hid (∀ (j:Nat) (r:List Int),M[j]? =some r→DistRow E n j r)∧Hid (Bl w3 wr)) (fun i _=>n-(intOf i).toNat)
 case atStart=>exact⟨0,List.replicate n (.slice none 0 0),[],⟨Nat.zero_le _,rfl⟩,Lib.hid ⟨List.length_replicate,rfl⟩,O4,Lib.hid fun j u r _ hr=>by simp at hr,Lib.hid fun j r hr=>by simp at hr,B4⟩
 case round=>
  obtain⟨k,vs,M,⟨hk,rfl⟩,HL,HR,HI,HD,HBl⟩:=hrel;have hgl:=(World.ownsRow.lt HR.out _ rfl).2;by_cases hlt:k<n
  ·
   have hltI:(k:Int)<(n:Int):=by omega
   obtain⟨y,hy⟩: ∃ y,vs[k]? =some y:=⟨_,List.getElem?_eq_getElem (by rw[HL.out.1];exact hlt)⟩;have NR:=Lib.hid (N3.out.below HBl.out);have hlb:=labels_c n b E k hn (by omega) hE hm w3.heap.size wr NR.out HBl.out.size;have HY:=Lib.hid hy;clear hy;go_wp2_with (go_at_call 152;refine hlb.mono ?_;rintro q w5 ⟨v5,L5,rfl,s5,n5,d5,b5⟩;have S5:=Lib.hid (And.intro s5 (And.intro n5 (And.intro d5 b5)));clear s5 n5 d5 b5)
   have hln:=lengths_c v5 L5 (by rw[S5.out.2.1];exact hn) w5.heap.size w5 S5.out.1 (Nat.le_refl _);have z5:=S5.out.2.2.2.size;go_wp2_with (go_at_call 151;refine hln.mono ?_;rintro q w6 ⟨v6,rfl,i6,⟨m6,rfl⟩,b6⟩;have S6:=Lib.hid (And.intro i6 b6);have R6:=Lib.hid (ownsRow_bl HR.out (bl_next S5.out.2.2.2 b6));have c6:w6.cell? ⟨w3.heap.size,k,none⟩=some y:=(by have:=(World.ownsRow.cellAt R6.out (k*1+0) (by omega)).trans (flat_get valCells_len HY.out rfl);simpa using this);have fz:=fun j=>World.ownsRow.frozenAt R6.out j;clear i6 b6)
   have q:=row_put valCells_len (l:=vs) (by rw[HL.out.1];exact R6.out) (show k<vs.length by rw[HL.out.1];exact hlt) (.slice (some ⟨w5.heap.size,0,none⟩) m6 m6);rw[HL.out.1,Nat.mul_one]at q;simp only[valCells,setRunW1]at q;have b36:Bl w3 w6:=bl_next HBl.out (bl_next S5.out.2.2.2 S6.out.2);have bw6:Bl wr w6:=bl_next S5.out.2.2.2 S6.out.2;have z6:=S6.out.2.size;have off6:Off w3.heap.size (.slice (some ⟨w5.heap.size,0,none⟩) m6 m6):=fun b o n c e=>by
    simp only[Value.slice.injEq,Option.some.injEq,Addr.mk.injEq]at e;omega
   refine⟨⟨k+1,vs.set k (.slice (some ⟨w5.heap.size,0,none⟩) m6 m6),M++[L5.map (·.len)],⟨by omega,by go_num⟩,Lib.hid ⟨by rw[List.length_set];exact HL.out.1,by rw[List.length_append,HL.out.2];rfl⟩,Lib.hid q.1,Lib.hid fun j u r hu hr=>?_,Lib.hid fun j r hr=>?_,Lib.hid (bl_new b36 q.2 (Nat.le_refl _))⟩, ?_⟩
   ·
    have hsz:(w6.setCell ⟨w3.heap.size,k,none⟩ (.slice (some ⟨w5.heap.size,0,none⟩) m6 m6)).heap.size=w6.heap.size:=by simp
    rw[hsz];by_cases e:j=k
    ·
     subst e;rw[List.getElem?_set_self (by rw[HL.out.1];exact hlt)]at hu;cases hu
     rw[List.getElem?_append_right (by rw[HL.out.2];exact Nat.le_refl _),HL.out.2,Nat.sub_self]at hr;cases hr
     exact⟨SlIn.turned S6.out.1 q.2 off6 (Nat.le_refl _),off6⟩
    ·
     rw[List.getElem?_set_ne (fun q=>e q.symm)]at hu;have hjl:j<M.length:=by
      have:=(List.getElem?_eq_some_iff.1 hr).1;rw[List.length_append,List.length_singleton,HL.out.2]at this;rw[HL.out.2];omega
     rw[List.getElem?_append_left hjl]at hr;obtain⟨g1,g2⟩:=HI.out j u r hu hr;exact⟨SlIn.turned (SlIn.bl g1 bw6) q.2 g2 (Nat.le_refl _),g2⟩
   ·
    by_cases hjl:j<M.length
    ·
     rw[List.getElem?_append_left hjl]at hr;exact HD.out j r hr
    ·
     have:=(List.getElem?_eq_some_iff.1 hr).1;rw[List.length_append,List.length_singleton]at this;obtain rfl:j=M.length:=by omega
     rw[List.getElem?_append_right (Nat.le_refl _),Nat.sub_self]at hr;cases hr
     refine⟨by rw[List.length_map];exact S5.out.2.1,fun t x hx=>?_⟩;rw[List.getElem?_map]at hx;cases hy:L5[t]? with
     |none=>rw[hy]at hx;cases hx
     |some y'=>
      rw[hy]at hx;cases hx
      have:=S5.out.2.2.1 t y' hy;rw[HL.out.2];exact this
   ·
    simp only[intOf];omega
  ·
   obtain rfl:n=k:=by omega
   go_wp2;go_ret2;refine⟨_,rfl,M,⟨vs, ?_,by rw[HL.out.1,HL.out.2],fun i u r hu hr=>(HI.out i u r hu hr).1⟩,HL.out.2,HD.out,bl_next (bl_next B2.out B3.out) HBl.out⟩;have r:=HR.out;rw[←HL.out.1]at r ⊢;exact slIn_own valCells_len r
end Go.Proofs.YtncbcmiflffakaaGreat
