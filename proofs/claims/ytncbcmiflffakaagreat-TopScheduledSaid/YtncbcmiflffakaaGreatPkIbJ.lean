/-
  What the laws of top need of TopIbJ. Conditions: those of each lemma.
-/
import Derived.Test.YtncbcmiflffakaaGreatPkIbG
import Derived.Test.YtncbcmiflffakaaGreatPkRg
import Derived.BigRegion
import Derived.Deep.QuietTactic
import Derived.BigQuiet
import Derived.StillTailTactics
set_option maxRecDepth 1000000
set_option maxHeartbeats 32000000
namespace Go.Proofs.YtncbcmiflffakaaGreat
open Go.RowKit
open Frq Thr Tt
theorem heap_alloc_old' (w:World) (o:Obj) {q:Nat} (hq:q<w.heap.size):(w.alloc o).heap[q]? =w.heap[q]? :=(bl_alloc (bl_refl w) o).block q hq
theorem hearL_get (L:List Value) (i:Nat) (s:SrcD) (now:Int) {j:Nat} (h0:j≠i*4) (h1:j≠i*4+1):(hearL L i s now)[j]? =L[j]? :=by
 unfold hearL;split
 · rw[List.getElem?_set_ne (Ne.symm h1),List.getElem?_set_ne (Ne.symm h0)]
 · rfl
def KeptAt (kv kv':Value) (s:Nat):Prop:= ∀ b,kv'.ownBlock=some b→kv.ownBlock=some b∨s≤b
theorem recv_boxes (w:World) (m:MsgD) (v:Value) (now:Int): ∃ w1,w1=(w.alloc (msgBox m v)).alloc (intBox now)∧w1.heap[w.heap.size]? =some (msgBox m v)∧w1.heap[w.heap.size+1]? =some (intBox now)∧w1.heap.size=w.heap.size+2∧Bl w w1:=by
 refine⟨_,rfl,blk_bl (heap_alloc_new w _) (bl_alloc (bl_refl _) _), ?_,by simp,bl_alloc (bl_alloc (bl_refl _) _) _⟩;have:=heap_alloc_new (w.alloc (msgBox m v)) (intBox now);simpa using this
theorem refuse_src {st:BoxD} {m:MsgD} {now:Int} (h:refuseP st m now=0): ∃ i s,m.src=((i:Nat):Int)∧st.srcs[i]? =some s:=by
 have hc:=checkM_src (refuse_check h);obtain⟨i,hi⟩: ∃ i:Nat,m.src=(i:Int):=⟨m.src.toNat,by omega⟩;cases hs:st.srcs[i]? with
 |some s=>exact⟨i,s,hi,hs⟩
 |none=>
  exfalso
  unfold refuseP at h;split at h
  · cases h
  split at h
  · rename_i h1;exact h1 h
  rw[hi,Int.toNat_natCast,hs]at h;cases h
theorem receive_c (gb gs:Nat) (kv:Value) (ks:List MsgV) (st:BoxD) (ok:Hid (BoxOk st)) (m:MsgD) (v:Value) (ht:m.trip.length≤9223372036854775807) (now:Int) (hn:okM now) (B:Nat) (w:World) (h:InboxAt gb gs kv ks st w) (hv:CallsIn B w v m.calls) (hB:B≤w.heap.size):
  Calls Tryz.prog 38 #[.pointer (some ⟨gb,0,none⟩),Ms.msgV m v, .int .i64 now] w fun e w'=> ∃ kv' ks',e= .returned (.int .i64 (recvP st m now).2)∧InboxAt gb gs kv' ks' (recvP st m now).1 w'∧Gr2 gb gs w w'∧KeptAt kv kv' w.heap.size:=by
 obtain⟨i0,hi,hz0,hz1,hz2⟩:=info_parts nfo_msg;have HI:=Lib.hid h;obtain⟨av,cv,rfl,-,-⟩:=hv.val;obtain⟨ak,ck,rfl⟩:=own_val h.kept.row;have HV:=Lib.hid (fun(w1:World) (h:Bl w w1)=>hv.below (h.mono hB));have HN:=Lib.hid hn;have hkl:ks.length≤256:=by
  have:=congrArg List.length h.same;rw[List.length_map]at this;rw[this];exact ok.out.kept
 have hkc: ∀ x∈ks,x.m.calls.length≤1000:=fun x hx=>by
  have:=checkM_calls (ok.out.ok x.m (by rw[←h.same];exact List.mem_map_of_mem hx));omega
 have HKC:=Lib.hid hkc;obtain⟨re,hre⟩: ∃ r,refuseP st m now=r:=⟨_,rfl⟩;have hrf:=fun(w1:World) (hb:Bl w w1)=>refusal_c gb gs _ ks st ok m (.slice av m.calls.length cv) ht now hn B w1 (HI.out.bl hb) (hv.below (hb.mono hB)) (Nat.le_trans hB hb.size)
 rw[hre]at hrf;have HRf:=Lib.hid hrf;have HRe:=Lib.hid hre;have W0:=Lib.hid (recv_boxes w m (.slice av m.calls.length cv) now);have hgb:=lt_of_block h.box;have hgs:=lt_of_block h.src;clear h hv hn hre hrf hkc;go_enter Tryz.func38,Tryz.ntmps38
 go_upto_region 1 with fail
 obtain⟨w1,hw1,bm1,bn1,s1,bl1⟩:=W0.out;change Code.wp _ _ _ _ ((w.alloc (msgBox m (.slice av m.calls.length cv))).alloc (intBox now));rw[←hw1];have H1:=Lib.hid (And.intro bm1 (And.intro bn1 bl1));have d0:w1.cell? ⟨w.heap.size,0,none⟩=some (.int .i64 m.src):=blk_cell bm1 0 _ rfl;have d1:w1.cell? ⟨w.heap.size,1,none⟩=some (.int .i64 m.seq):=blk_cell bm1 1 _ rfl;have d2:w1.cell? ⟨w.heap.size,2,none⟩=some (.int .i64 m.iss):=blk_cell bm1 2 _ rfl;have d3:w1.cell? ⟨w.heap.size,3,none⟩=some (.int .i64 m.exp):=blk_cell bm1 3 _ rfl;have d4:w1.cell? ⟨w.heap.size,4,none⟩=some (.int .i64 m.kind):=blk_cell bm1 4 _ rfl;have d5:w1.cell? ⟨w.heap.size,5,none⟩=some (str m.trip):=blk_cell bm1 5 _ rfl;have d6:w1.cell? ⟨w.heap.size,6,none⟩=some (.int .i64 m.day):=blk_cell bm1 6 _ rfl;have d7:w1.cell? ⟨w.heap.size,7,none⟩=some (.int .i64 m.inst):=blk_cell bm1 7 _ rfl;have d8:w1.cell? ⟨w.heap.size,8,none⟩=some (.int .i64 m.call):=blk_cell bm1 8 _ rfl;have d9:w1.cell? ⟨w.heap.size,9,none⟩=some (.int .i64 m.secs):=blk_cell bm1 9 _ rfl;have d10:w1.cell? ⟨w.heap.size,10,none⟩=some (.int .i64 m.route):=blk_cell bm1 10 _ rfl;have d11:w1.cell? ⟨w.heap.size,11,none⟩=some (.bool m.step):=blk_cell bm1 11 _ rfl;have d12:w1.cell? ⟨w.heap.size,12,none⟩=some (.slice av m.calls.length cv):=blk_cell bm1 12 _ rfl;have n0:w1.cell? ⟨w.heap.size+1,0,none⟩=some (.int .i64 now):=blk_cell bn1 0 _ rfl;clear hw1 bm1 bn1 s1 bl1 W0;go_wp2_with fail;refine(HRf.out w1 H1.out.2.2).mono ?_;rintro e w2 ⟨rfl,b2⟩;have H2:=Lib.hid (And.intro (blk_bl H1.out.1 b2) (And.intro (blk_bl H1.out.2.1 b2) (bl_next H1.out.2.2 b2)));clear b2 n0 d0 d1 d2 d3 d4 d5 d6 d7 d8 d9 d10 d11 d12;by_cases h0:re=0
 ·
  subst h0;have hI2:=HI.out.bl H2.out.2.2;have c2:w2.cell? ⟨gb,2,none⟩=some (.slice ak ks.length ck):=blk_cell hI2.box 2 _ rfl;have HCF:=Lib.hid (filtered_c 64 #[.pointer (some ⟨w.heap.size,0,none⟩), .pointer (some ⟨w.heap.size+1,0,none⟩)] (staysB m now) _ (Lib.hid (holds_recv w.heap.size (w.heap.size+1) m (.slice av m.calls.length cv) now)) (.slice ak ks.length ck) ks (by omega) HKC w2.heap.size w2 hI2.kept.rd (Nat.le_refl _) ⟨H2.out.1,H2.out.2.1⟩);clear hI2;go_wp2_with fail;refine HCF.out.mono ?_;rintro e w3 ⟨v3,ys,rfl,hys,oys,b3⟩;obtain⟨a3,k3,rfl⟩:=own_val oys.row;have hyl:ys.length=(st.kept.filter (staysB m now)).length:=by
   have:=congrArg List.length hys;rw[List.length_map,HI.out.same]at this;exact this
  have H3:=Lib.hid (And.intro (blk_bl H2.out.1 b3) (And.intro (blk_bl H2.out.2.1 b3) (bl_next H2.out.2.2 b3)));have HY:=Lib.hid (And.intro hys (And.intro oys hyl));have hz23:=b3.size;clear hys oys hyl b3 HCF c2;by_cases hfull:256≤ys.length
  ·
   have hR:recvP st m now=(st,5):=by
    unfold recvP;rw[if_neg (by rw[HRe.out];exact fun q=>q rfl),if_pos (by rw[←HY.out.2.2];exact hfull)]
   have HR:=Lib.hid hR;have hfI:(256:Int)≤(ys.length:Int):=by omega
   clear hR;go_wp2_with fail;go_ret;exact⟨_,_,(by rw[HR.out];rfl),(by rw[HR.out];exact HI.out.bl H3.out.2.2),gr2_bl H3.out.2.2,fun _ h=> .inl h⟩
  ·
   have hfI: ¬ (256:Int)≤(ys.length:Int):=by omega
   obtain⟨sr,x,hsr,hx⟩:=refuse_src HRe.out;have hR:recvP st m now=({ st with kept:=st.kept.filter (staysB m now)++[m],srcs:=st.srcs.set sr (gotP x now m) },0):=by
    unfold recvP;rw[if_neg (by rw[HRe.out];exact fun q=>q rfl),if_neg (by rw[←HY.out.2.2];exact hfull),hsr,Int.toNat_natCast,modify_set _ hx];rfl
   have HR:=Lib.hid hR;have HX:=Lib.hid (And.intro hsr hx);have hm32:=checkM_calls (refuse_check HRe.out);have bm3:=H3.out.1;have HOw:=Lib.hid (owned_c m (.slice av m.calls.length cv) (by omega) B w3 (HV.out w3 H3.out.2.2) (Nat.le_trans hB H3.out.2.2.size));have d0:w3.cell? ⟨w.heap.size,0,none⟩=some (.int .i64 m.src):=blk_cell bm3 0 _ rfl;have d1:w3.cell? ⟨w.heap.size,1,none⟩=some (.int .i64 m.seq):=blk_cell bm3 1 _ rfl;have d2:w3.cell? ⟨w.heap.size,2,none⟩=some (.int .i64 m.iss):=blk_cell bm3 2 _ rfl;have d3:w3.cell? ⟨w.heap.size,3,none⟩=some (.int .i64 m.exp):=blk_cell bm3 3 _ rfl;have d4:w3.cell? ⟨w.heap.size,4,none⟩=some (.int .i64 m.kind):=blk_cell bm3 4 _ rfl;have d5:w3.cell? ⟨w.heap.size,5,none⟩=some (str m.trip):=blk_cell bm3 5 _ rfl;have d6:w3.cell? ⟨w.heap.size,6,none⟩=some (.int .i64 m.day):=blk_cell bm3 6 _ rfl;have d7:w3.cell? ⟨w.heap.size,7,none⟩=some (.int .i64 m.inst):=blk_cell bm3 7 _ rfl;have d8:w3.cell? ⟨w.heap.size,8,none⟩=some (.int .i64 m.call):=blk_cell bm3 8 _ rfl;have d9:w3.cell? ⟨w.heap.size,9,none⟩=some (.int .i64 m.secs):=blk_cell bm3 9 _ rfl;have d10:w3.cell? ⟨w.heap.size,10,none⟩=some (.int .i64 m.route):=blk_cell bm3 10 _ rfl;have d11:w3.cell? ⟨w.heap.size,11,none⟩=some (.bool m.step):=blk_cell bm3 11 _ rfl;have d12:w3.cell? ⟨w.heap.size,12,none⟩=some (.slice av m.calls.length cv):=blk_cell bm3 12 _ rfl;clear hR hsr hx bm3;go_wp2_with fail;refine HOw.out.mono ?_;rintro e w4 ⟨v4,rfl,o4,b4⟩;obtain⟨a4,k4,rfl⟩:=own_val o4;have H4:=Lib.hid (And.intro (blk_bl H3.out.1 b4) (And.intro (blk_bl H3.out.2.1 b4) (And.intro (bl_next H3.out.2.2 b4) o4)));have R4:=Lib.hid (HY.out.2.1.bl b4);have hz34:=b4.size;have hz3:=H3.out.2.2.size;clear o4 b4 HOw d0 d1 d2 d3 d4 d5 d6 d7 d8 d9 d10 d11 d12;go_upto_region 10 with(at_builtin;refine wpList_append_own _ rfl _ _ 36 rfl w2.heap.size 48 i0 _ 13 128 Tryz.underlying36 hi hz0 hz1 hz2 rfl (by decide) _ _ _ rfl (R4.out.row.alloc _) ⟨w4.heap.size,0,none⟩ 1 1 (msgL ⟨m, .slice a4 m.calls.length k4⟩) rfl rfl ?c1 ?c2 ?c3 ?c4 ?c5 ?_)
   case c1=>first|exact fun j u hj=>hj|exact cells_new _ _ (by first|rfl|simp) (fun j u hj=>by rw[List.getElem?_toArray];exact hj)
   case c2=>first|exact msg_one _ ⟨_,_,_,rfl⟩|simp[msgL,Value.oneCell']
   case c3=>unfold maxLen;omega
   case c4=>omega
   case c5=>first|omega|(simp;omega)
   intro v7 w7 own7 gr7 _;obtain⟨a7,k7,rfl⟩:=own_val own7;have hz4:=H4.out.2.2.1.size;have hgn: ∀ q,(Value.slice a3 ys.length k3).ownBlock=some q→w2.heap.size≤q:=fun q e=>(World.ownsRow.lt R4.out.row q e).1
   have hz2:=H2.out.2.2.size;have hold: ∀ q o,q<w2.heap.size→w4.heap[q]? =some o→w7.heap[q]? =some o:=fun q o hq ho=>
    (gr7.block q (by have:=lt_of_block ho;simp;omega) (fun e=>by have:=hgn q e.symm;omega)).trans ((heap_alloc_old' w4 _ (lt_of_block ho)).trans ho)
   have hI4:=HI.out.bl H4.out.2.2.1;have hb7:=hold gb _ (by omega) hI4.box;have hs7:=hold gs _ (by omega) hI4.src;have hm7:=hold _ _ (by have:=lt_of_block H2.out.1;exact this) H4.out.1;have hn7:=hold _ _ (by have:=lt_of_block H2.out.2.1;exact this) H4.out.2.1;have hbl7:Bl w w7:=by
    have h1:=bl_alloc H4.out.2.2.1 (.cells (msgL ⟨m, .slice a4 m.calls.length k4⟩).toArray 48);exact h1.grown gr7 h1.size (fun q hq=>by have:=hgn q hq;omega)
   have hk7: ∀ y:MsgV,w4.ownsRow w2.heap.size 68 5 y.v y.m.calls.length (y.m.calls.flatMap callCells)→w7.ownsRow w2.heap.size 68 5 y.v y.m.calls.length (y.m.calls.flatMap callCells):=fun y hy=>own_kept (hy.alloc _) gr7 (fun b hb e=>own_apart (by decide) hy R4.out.row hb e)
   have hM7:MsgsOwn w2.heap.size w7 (.slice a7 (ys.length+1) k7) (ys++[(⟨m, .slice a4 m.calls.length k4⟩:MsgV)]):=⟨by rw[List.length_append,List.length_singleton,List.flatMap_append];simpa using own7,fun y hy=>by
    rcases List.mem_append.1 hy with hy|hy
    · exact hk7 y (R4.out.calls y hy)
    ·
     rw[List.mem_singleton.1 hy];exact hk7 ⟨m, .slice a4 m.calls.length k4⟩ (own_down H4.out.2.2.2 (by omega))⟩
   have H7:=Lib.hid (And.intro hb7 (And.intro hs7 (And.intro hm7 (And.intro hn7 (And.intro hbl7 hM7)))));have c2:w7.cell? ⟨gb,2,none⟩=some (.slice ak ks.length ck):=blk_cell hb7 2 _ rfl;have f2:w7.frozen? ⟨gb,2,none⟩=false:=Lib.frozen_of_heap hb7 2;clear own7 gr7 hold hI4 hb7 hs7 hm7 hn7 hbl7 hk7 hM7 hgn;go_upto_region 10 with fail
   have hgg:gb≠gs:=fun e=>by
    have h1:=H7.out.1;rw[e,H7.out.2.1]at h1;simp at h1
   have G8:=gr_set gb w7 2 (.slice a7 (ys.length+1) k7);have hb8:=blk_set H7.out.1 2 (.slice a7 (ys.length+1) k7);simp only[List.setIfInBounds_toArray,List.set_cons_succ,List.set_cons_zero]at hb8;change Code.wp _ _ _ _ (w7.setCell ⟨gb,2,none⟩ (.slice a7 (ys.length+1) k7));generalize w7.setCell ⟨gb,2,none⟩ (.slice a7 (ys.length+1) k7)=w8 at G8 hb8 ⊢
   have hzm:w.heap.size≠gb:=by omega
   have hs8:=(G8.block gs (lt_of_block H7.out.2.1) (fun e=>hgg (Option.some.inj e).symm)).trans H7.out.2.1;have hm8:=(G8.block w.heap.size (lt_of_block H7.out.2.2.1) (fun e=>hzm (Option.some.inj e))).trans H7.out.2.2.1;have hn8:=(G8.block (w.heap.size+1) (lt_of_block H7.out.2.2.2.1) (fun e=>by have:=Option.some.inj e;omega)).trans H7.out.2.2.2.1;have hM8:MsgsOwn w2.heap.size w8 (.slice a7 (ys.length+1) k7) (ys++[(⟨m, .slice a4 m.calls.length k4⟩:MsgV)]):=⟨own_kept H7.out.2.2.2.2.2.row G8 (fun b hb e=>by have:=(World.ownsRow.lt H7.out.2.2.2.2.2.row b hb).1;have:=Option.some.inj e;omega),fun y hy=>own_kept (H7.out.2.2.2.2.2.calls y hy) G8 (fun b hb e=>by have:=(World.ownsRow.lt (H7.out.2.2.2.2.2.calls y hy) b hb).1;have:=Option.some.inj e;omega)⟩;have hg8:Gr2 gb gs w w8:=gr2_next (gr2_bl H7.out.2.2.2.2.1) (gr2_fst G8);have H8:=Lib.hid (And.intro hb8 (And.intro hs8 (And.intro hm8 (And.intro hn8 (And.intro hM8 hg8)))));have hsl:sr<st.srcs.length:=(List.getElem?_eq_some_iff.1 HX.out.2).1;have hsI:(sr:Int)<(st.srcs.length:Int):=by omega
   have hl:=ok.out.some;have c0:w8.cell? ⟨gb,0,none⟩=some (.slice (some ⟨gs,0,none⟩) st.srcs.length st.srcs.length):=blk_cell hb8 0 _ rfl;have d0:w8.cell? ⟨w.heap.size,0,none⟩=some (.int .i64 sr):=by rw[←HX.out.1];exact blk_cell hm8 0 _ rfl
   clear c2 f2 G8 hb8 hs8 hm8 hn8 hM8 hg8;go_quiet (fail)
   go_upto_region 11 with fail
   have B9:Bl w8 (w8.drewN nq).drew:=bl_drew (bl_drewN (bl_refl _) _);have hdd:(w8.drewN nq).drew.heap.size=(w8.drewN nq).heap.size:=rfl;have hn9:=blk_cell (blk_bl H8.out.2.2.2.1 B9) 0 _ rfl;refine startW (fun w'=>w'.cell? ⟨w.heap.size+1,0,none⟩=some (.int .i64 now)) 4 hn9 ?_;intro hHeld;obtain⟨w9,hw9⟩: ∃ w9,(w8.drewN nq).drew=w9:=⟨_,rfl⟩;rw[hw9]at hHeld B9 ⊢;clear hn9 hdd c0 d0;refine takeW 0 ?_ (ps:=[1,2]);refine takeW 1 ?_ (ps:=[2]);refine takeW 2 ?_;refine takeW 3 ?_;have hs9:=blk_bl H8.out.2.1 B9;obtain⟨t0,t1,-,-⟩:=src_cells hs9 HX.out.2;have HCH:=hear_c gs (sr*4) x now w9 t0 t1 (Lib.frozen_of_heap hs9 _) (Lib.frozen_of_heap hs9 _);have HHB:=hear_block (i:=sr) (s:=x) (now:=now) hs9;refine lastW (fun KK hKK=>?_);go_simp;go_at_call 67
   refine HCH.mono ?_;rintro e w10 ⟨rfl,hw10⟩;refine hKK.out _ _ ?_;rw[←hw10]at HHB;have hm10:=(HHB.2.block _ (lt_of_block (blk_bl H8.out.2.2.1 B9)) (fun e=>by have:=Option.some.inj e;omega)).trans (blk_bl H8.out.2.2.1 B9);have H10:=Lib.hid (And.intro HHB.1 (And.intro HHB.2 (And.intro B9 hm10)));have q2:w10.cell? ⟨gs,sr*4+2,none⟩=some (.bool x.got):=blk_cell HHB.1 _ _ (by rw[List.getElem?_toArray,hearL_get _ _ _ _ (by omega) (by omega)];exact flat_get (j:=2) srcCells_len HX.out.2 rfl);have q3:w10.cell? ⟨gs,sr*4+3,none⟩=some (.int .i64 x.seq):=blk_cell HHB.1 _ _ (by rw[List.getElem?_toArray,hearL_get _ _ _ _ (by omega) (by omega)];exact flat_get (j:=3) srcCells_len HX.out.2 rfl);have r2:w10.frozen? ⟨gs,sr*4+2,none⟩=false:=Lib.frozen_of_heap HHB.1 _;have r3:w10.frozen? ⟨gs,sr*4+3,none⟩=false:=Lib.frozen_of_heap HHB.1 _;have d1:w10.cell? ⟨w.heap.size,1,none⟩=some (.int .i64 m.seq):=blk_cell hm10 1 _ rfl;have hgl:=lt_of_block HHB.1;have hml:=lt_of_block hm10;have hmg: ¬ w.heap.size=gs:=by omega
   have hfin: ∀ w11,w11.heap[gs]? =some (.cells ((st.srcs.set sr (gotP x now m)).flatMap srcCells).toArray 154 (0,0))→Gr gs w10 w11→InboxAt gb gs (.slice a7 (ys.length+1) k7) (ys++[(⟨m, .slice a4 m.calls.length k4⟩:MsgV)]) { st with kept:=st.kept.filter (staysB m now)++[m],srcs:=st.srcs.set sr (gotP x now m) } w11∧Gr2 gb gs w w11∧KeptAt (.slice ak ks.length ck) (.slice a7 (ys.length+1) k7) w.heap.size:=fun w11 h1 h2=>by
    have G:Gr gs w8 w11:=gr_next (gr_next (gr_bl H10.out.2.2.1) H10.out.2.1) h2;have hbx:=(G.block gb (lt_of_block H8.out.1) (fun e=>hgg (Option.some.inj e))).trans H8.out.1;refine⟨⟨?_,h1,⟨own_down (own_kept H8.out.2.2.2.2.1.row G (fun b hb e=>by have:=(World.ownsRow.lt H8.out.2.2.2.2.1.row b hb).1;have:=Option.some.inj e;omega)) (Nat.zero_le _),fun y hy=>own_down (own_kept (H8.out.2.2.2.2.1.calls y hy) G (fun b hb e=>by have:=(World.ownsRow.lt (H8.out.2.2.2.2.1.calls y hy) b hb).1;have:=Option.some.inj e;omega)) (Nat.zero_le _)⟩, ?_⟩,gr2_next H8.out.2.2.2.2.2 (gr2_snd G),fun b hb=> .inr (Nat.le_trans hz2 (World.ownsRow.lt H8.out.2.2.2.2.1.row b hb).1)⟩
    ·
     show _=some (Obj.cells #[.slice (some ⟨gs,0,none⟩) (st.srcs.set sr (gotP x now m)).length (st.srcs.set sr (gotP x now m)).length,_,_] _ _)
     rw[List.length_set];exact hbx
    ·
     show(ys++[(⟨m, .slice a4 m.calls.length k4⟩:MsgV)]).map (·.m)=st.kept.filter (staysB m now)++[m]
     rw[List.map_append,HY.out.1,HI.out.same];rfl
   have HFin:=Lib.hid hfin;clear hfin HHB hm10 hw10 HCH t0 t1 hs9 hHeld hw9;go_upto_region 12 with fail
   go_region
   all_goals
    go_wp2_with fail;go_ret;first
    |exact⟨_,_,(by rw[HR.out];rfl),(by rw[HR.out];exact HFin.out _ (got_block HX.out.2 (w:=w10.drew) H10.out.1) (gr_next (gr_next (gr_bl (bl_drew (bl_refl w10))) (gr_set _ _ _ _)) (gr_set _ _ _ _)))⟩
    |exact⟨_,_,(by rw[HR.out];rfl),(by rw[HR.out];exact HFin.out _ (got_block' HX.out.2 (w:=w10.drew) H10.out.1) (gr_next (gr_next (gr_bl (bl_drew (bl_refl w10))) (gr_set _ _ _ _)) (gr_set _ _ _ _)))⟩
 ·
  have hne:(re != 0)=true:=by rw[bne_iff_ne];exact h0
  have hR:recvP st m now=(st,re):=by
   unfold recvP;rw[if_pos (by rw[HRe.out];exact h0),HRe.out]
  have HR:=Lib.hid hR;clear hR h0;go_wp2_with fail;go_ret;exact⟨_,_,(by rw[HR.out];rfl),(by rw[HR.out];exact HI.out.bl H2.out.2.2),gr2_bl H2.out.2.2,fun _ h=> .inl h⟩
end Go.Proofs.YtncbcmiflffakaaGreat
