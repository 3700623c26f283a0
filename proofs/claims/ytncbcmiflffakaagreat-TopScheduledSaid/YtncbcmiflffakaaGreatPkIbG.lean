/-
  What the laws of top need of TopIbG, TopIbH. Conditions: those of each lemma.
-/
import Derived.Test.YtncbcmiflffakaaGreatPkIbC
import Derived.Test.YtncbcmiflffakaaGreatPkHpC
import Derived.BigRegion
set_option maxRecDepth 1000000
set_option maxHeartbeats 32000000
namespace Go.Proofs.YtncbcmiflffakaaGreat
open Go.RowKit
open Frq Thr Tt
theorem checkM_src {m:MsgD} (h:checkM m=0):0≤m.src∧m.src≤7:=by
 unfold checkM at h;split at h
 · cases h
 ·
  rename_i h1;simp only[outside,Bool.or_eq_true,decide_eq_true_eq,not_or]at h1;omega
theorem checkM_kind {m:MsgD} (h:checkM m=0):kindErr m=0:=by
 unfold checkM at h;split at h
 · cases h
 split at h
 · cases h
 split at h
 · cases h
 split at h
 · cases h
 split at h
 · cases h
 split at h
 · cases h
 split at h
 · cases h
 exact h
theorem checkM_calls {m:MsgD} (h:checkM m=0):m.calls.length≤32:=by
 have h:=checkM_kind h;unfold kindErr at h;split at h
 · cases h
 split at h
 ·
  rename_i h1 h2;simp only[Bool.and_eq_true,Bool.not_eq_true',beq_eq_false_iff_ne]at h2;exact absurd h h2.2
 split at h
 · cases h
 ·
  rename_i h1 h2 h3;cases hu:uCalls m.kind with
  |true=>
   rw[hu,Bool.true_and]at h2;have h4:callsErr 64 0 3155932800 m.calls=0:=by
    apply Classical.byContradiction
    intro hne;exact h2 (by rw[beq_eq_false_iff_ne.2 hne];rfl)
   unfold callsErr at h4;split at h4
   · cases h4
   · omega
  |false=>
   cases hc:m.calls with
   |nil=>simp
   |cons c l=>
    exfalso
    apply h3
    rw[hu,hc];simp
theorem refusal_c (gb gs:Nat) (kv:Value) (ks:List MsgV) (st:BoxD) (ok:Hid (BoxOk st)) (m:MsgD) (v:Value) (ht:m.trip.length≤9223372036854775807) (now:Int) (hn:okM now) (B:Nat) (w:World) (h:InboxAt gb gs kv ks st w) (hv:CallsIn B w v m.calls) (hB:B≤w.heap.size):
  Calls Tryz.prog 62 #[.pointer (some ⟨gb,0,none⟩),Ms.msgV m v, .int .i64 now] w fun e w'=>e= .returned (.int .i64 (refuseP st m now))∧Bl w w':=by
 obtain⟨n0,n1⟩:=hn;obtain⟨ce,hce⟩: ∃ e,checkM m=e:=⟨_,rfl⟩;have HC:=Lib.hid (fun(w1:World) (hb:Bl w w1)=>Ms.check_c m v ce (Lib.hid hce) ht B w1 (hv.below (hb.mono hB)) (Nat.le_trans hB hb.size));obtain⟨av,cv,rfl,-,-⟩:=hv.val;have HH:=Lib.hid h;have HCE:=Lib.hid hce;have hl:=ok.out.some;have hlI:(st.srcs.length:Int)≤8:=by omega
 have e1:decide (now<0)=false:=decide_eq_false (by omega);have e2:decide (3155932800<now)=false:=decide_eq_false (by omega);clear h hv hce;have hbb:=heap_alloc_new w (.cells #[.int .i64 m.src, .int .i64 m.seq, .int .i64 m.iss, .int .i64 m.exp, .int .i64 m.kind, .string ⟨m.trip.toArray⟩, .int .i64 m.day, .int .i64 m.inst, .int .i64 m.call, .int .i64 m.secs, .int .i64 m.route, .bool m.step, .slice av m.calls.length cv] 48);have HBB:=Lib.hid (And.intro hbb (show Bl w (w.alloc (.cells #[.int .i64 m.src, .int .i64 m.seq, .int .i64 m.iss, .int .i64 m.exp, .int .i64 m.kind, .string ⟨m.trip.toArray⟩, .int .i64 m.day, .int .i64 m.inst, .int .i64 m.call, .int .i64 m.secs, .int .i64 m.route, .bool m.step, .slice av m.calls.length cv] 48)) from bl_alloc (bl_refl _) _));clear hbb;by_cases h0:ce=0
 ·
  subst h0;have hsr:=checkM_src HCE.out;go_enter Tryz.func62,Tryz.ntmps62
  go_wp2_with fail;refine(HC.out _ HBB.out.2).mono ?_;rintro e w2 ⟨rfl,b2⟩;obtain⟨sr,hsr2⟩: ∃ i:Nat,m.src=(i:Int):=⟨m.src.toNat,by omega⟩;have HSr:=Lib.hid hsr2;have bb:=blk_bl HBB.out.1 b2;have B2:=Lib.hid (bl_next HBB.out.2 b2);have hI:=HH.out.bl B2.out;have HI:=Lib.hid hI;have d0:w2.cell? ⟨w.heap.size,0,none⟩=some (.int .i64 sr):=by rw[←hsr2];exact blk_cell bb 0 _ rfl
  have d1:w2.cell? ⟨w.heap.size,1,none⟩=some (.int .i64 m.seq):=blk_cell bb 1 _ rfl;have d3:w2.cell? ⟨w.heap.size,3,none⟩=some (.int .i64 m.exp):=blk_cell bb 3 _ rfl;have c0:w2.cell? ⟨gb,0,none⟩=some (.slice (some ⟨gs,0,none⟩) st.srcs.length st.srcs.length):=blk_cell hI.box 0 _ rfl;have zb:=lt_of_block bb;have zg:=lt_of_block hI.box;have zs:=lt_of_block hI.src;clear b2 hI hsr hsr2 HC;by_cases hlt:sr<st.srcs.length
  ·
   have hltI:(sr:Int)<(st.srcs.length:Int):=by omega
   have hge:decide ((st.srcs.length:Int)≤(sr:Int))=false:=decide_eq_false (by omega);obtain⟨x,hx⟩: ∃ x,st.srcs[sr]? =some x:=⟨_,List.getElem?_eq_getElem hlt⟩;obtain⟨x0,x1,x2,x3⟩:=src_cells HI.out.src hx;have hr:refuseP st m now=if(x.got=true∧m.seq≤x.seq)∨m.exp≤now then 37 else 0:=by
    unfold refuseP;rw[if_neg (by omega),HCE.out,if_neg (fun q=>q rfl),HSr.out,Int.toNat_natCast,hx]
   have HR:=Lib.hid hr;have HXx:=Lib.hid hx;have HBb:=Lib.hid bb;clear hr hx bb;go_wp2_with fail;go_quiet (fail)
   go_upto_region 8 with fail
   have B3:Bl w2 (w2.drewN nq):=bl_drewN (bl_refl _) _;generalize w2.drewN nq=w3 at B3 ⊢
   have hI3:=HI.out.bl B3;obtain⟨y0,y1,y2,y3⟩:=src_cells hI3.src HXx.out;have bb3:=blk_bl HBb.out B3;have g0:w3.cell? ⟨w.heap.size,0,none⟩=some (.int .i64 sr):=by rw[←HSr.out];exact blk_cell bb3 0 _ rfl
   have g1:w3.cell? ⟨w.heap.size,1,none⟩=some (.int .i64 m.seq):=blk_cell bb3 1 _ rfl;have g3:w3.cell? ⟨w.heap.size,3,none⟩=some (.int .i64 m.exp):=blk_cell bb3 3 _ rfl;have gc:w3.cell? ⟨gb,0,none⟩=some (.slice (some ⟨gs,0,none⟩) st.srcs.length st.srcs.length):=blk_cell hI3.box 0 _ rfl;have zb3:=lt_of_block bb3;have zg3:=lt_of_block hI3.box;have zs3:=lt_of_block hI3.src;have B23:=Lib.hid (bl_next B2.out B3);clear B3 hI3 bb3 d0 d1 d3 c0 zb zg zs x0 x1 x2 x3;obtain⟨xe,xl,xg,xs⟩:=x;simp only at y0 y1 y2 y3 HR;cases xg with
   |true=>
    by_cases h3:m.seq≤xs
    ·
     have e3:decide (m.seq≤xs)=true:=decide_eq_true h3;have HQ:=Lib.hid (HR.out.trans (if_pos (.inl ⟨rfl,h3⟩)));clear HR;go_region
     go_wp2_with fail;go_ret;exact⟨ret_int HQ.out.symm,bl_next B23.out (by first|exact bl_drew (bl_alloc (bl_refl _) _)|exact bl_alloc (bl_drew (bl_refl _)) _|exact bl_alloc (bl_refl _) _)⟩
    ·
     have e3:decide (m.seq≤xs)=false:=decide_eq_false h3;by_cases h4:m.exp≤now
     ·
      have e4:decide (m.exp≤now)=true:=decide_eq_true h4;have HQ:=Lib.hid (HR.out.trans (if_pos (.inr h4)));clear HR;go_region
      go_wp2_with fail;go_ret;exact⟨ret_int HQ.out.symm,bl_next B23.out (by first|exact bl_drew (bl_alloc (bl_refl _) _)|exact bl_alloc (bl_drew (bl_refl _)) _|exact bl_alloc (bl_refl _) _)⟩
     ·
      have e4:decide (m.exp≤now)=false:=decide_eq_false h4;have HQ:=Lib.hid (HR.out.trans (if_neg (fun q=>q.elim (fun q=>h3 q.2) h4)));clear HR;go_region
      go_wp2_with fail;go_ret;exact⟨ret_int HQ.out.symm,bl_next B23.out (by first|exact bl_drew (bl_alloc (bl_refl _) _)|exact bl_alloc (bl_drew (bl_refl _)) _|exact bl_alloc (bl_refl _) _)⟩
   |false=>
    by_cases h4:m.exp≤now
    ·
     have e4:decide (m.exp≤now)=true:=decide_eq_true h4;have HQ:=Lib.hid (HR.out.trans (if_pos (.inr h4)));clear HR;go_region
     go_wp2_with fail;go_ret;exact⟨ret_int HQ.out.symm,bl_next B23.out (by first|exact bl_drew (bl_alloc (bl_refl _) _)|exact bl_alloc (bl_drew (bl_refl _)) _|exact bl_alloc (bl_refl _) _)⟩
    ·
     have e4:decide (m.exp≤now)=false:=decide_eq_false h4;have HQ:=Lib.hid (HR.out.trans (if_neg (fun q=>q.elim (fun q=>by cases q.1) h4)));clear HR;go_region
     go_wp2_with fail;go_ret;exact⟨ret_int HQ.out.symm,bl_next B23.out (by first|exact bl_drew (bl_alloc (bl_refl _) _)|exact bl_alloc (bl_drew (bl_refl _)) _|exact bl_alloc (bl_refl _) _)⟩
  ·
   have hge:decide ((st.srcs.length:Int)≤(sr:Int))=true:=decide_eq_true (by omega);have hr:refuseP st m now=36:=by
    unfold refuseP;rw[if_neg (by omega),HCE.out,if_neg (fun q=>q rfl),HSr.out,Int.toNat_natCast,List.getElem?_eq_none (by omega)]
   have HR:=Lib.hid hr;clear hr;go_wp2_with fail;go_quiet (fail)
   go_wp2_with fail;go_ret;exact⟨ret_int HR.out.symm,bl_drewN B2.out _⟩
 ·
  have hr:refuseP st m now=ce:=by
   unfold refuseP;rw[if_neg (by omega),HCE.out,if_pos h0]
  have HR:=Lib.hid hr;have hne:(ce != 0)=true:=by rw[bne_iff_ne];exact h0
  clear hr h0;go_enter Tryz.func62,Tryz.ntmps62
  go_wp2_with fail;refine(HC.out _ HBB.out.2).mono ?_;rintro e w2 ⟨rfl,b2⟩;have B2:=Lib.hid (bl_next HBB.out.2 b2);clear b2;go_wp2_with fail;go_ret;exact⟨ret_int HR.out.symm,B2.out⟩
end Go.Proofs.YtncbcmiflffakaaGreat
namespace Go.Proofs.YtncbcmiflffakaaGreat
open Go.RowKit
open Frq Thr Tt
theorem nfo_src:(Tryz.prog.info? 154).map (fun i=>(i.zero,i.size,i.bytes))=some (some (.agg #[.bool false, .int .i64 0, .bool false, .int .i64 0]),4,32):=by kernel_rfl
theorem zeros_src (n:Nat) (h1:1≤n) (h2:n≤8):(madeCells #[.bool false, .int .i64 0, .bool false, .int .i64 0] (n*4)).toList=(List.replicate n (⟨false,0,false,0⟩:SrcD)).flatMap srcCells:=by
 have h:n=1∨n=2∨n=3∨n=4∨n=5∨n=6∨n=7∨n=8:=by omega
 rcases h with rfl|rfl|rfl|rfl|rfl|rfl|rfl|rfl<;>with_unfolding_all rfl
theorem row_block {w:World} {base:Nat} {e:TypeId} {size g n:Nat} {xs:List Value} (h:w.ownsRow base e size (.slice (some ⟨g,0,none⟩) n n) n xs):w.heap[g]? =some (.cells xs.toArray e (0,0)):=by
 rcases h.2 with⟨h',_⟩|⟨g',cap',cur,h',hb,hg,h3,h4,h5,h6⟩
 · simp at h'
 ·
  simp only[Value.slice.injEq,Option.some.injEq,Addr.mk.injEq,and_true,true_and]at h';obtain⟨rfl,rfl⟩:=h';rw[hg,←h6,List.take_of_length_le (by rw[Array.length_toList,h5];exact Nat.le_refl _)]
theorem inew_c (n:Nat) (pat:Int) (h1:1≤n) (h2:n≤8) (p0:0≤pat) (p1:pat≤86400) (w:World):
  Calls Tryz.prog 37 #[.int .i64 n, .int .i64 pat] w fun e w'=> ∃ gb gs:Nat,e= .returned (.tuple #[.pointer (some ⟨gb,0,none⟩), .int .i64 0])∧w.heap.size≤gb∧w.heap.size≤gs∧InboxAt gb gs (.slice none 0 0) [] (box0 n pat) w'∧Bl w w':=by
 obtain⟨i0,hi,hz0,hz1,hz2⟩:=info_parts nfo_src;have hnI:(n:Int)≤8:=by omega
 have hn1:(1:Int)≤n:=by omega
 go_enter Tryz.func37,Tryz.ntmps37
 go_wp2_with (refine wpList_make_full _ rfl _ _ 143 rfl w.heap.size 154 i0 (.agg #[.bool false, .int .i64 0, .bool false, .int .i64 0]) 4 Tryz.underlying143 hi hz0 hz1 .i64 .i64 _ _ n rfl rfl rfl rfl ?c1 ?c2 ?c3 ?_)
 case c1=>rw[hz2];omega
 case c2=>unfold maxLen;omega
 case c3=>simp
 intro w2 own2 gr2;have own2':w2.ownsRow w.heap.size 154 4 (.slice (some ⟨w.heap.size,0,none⟩) n n) n ((List.replicate n (⟨false,0,false,0⟩:SrcD)).flatMap srcCells):=by rw[←zeros_src n h1 h2];exact own2
 have hb2:=row_block own2';have B2:Bl w w2:=(bl_refl w).grown gr2 (by simp) (fun k hk=>by cases hk);have H2:=Lib.hid (And.intro hb2 B2);clear own2 own2' gr2 hb2 B2;go_wp2_with fail;go_ret2;obtain⟨hb2,B2⟩:=H2.out;refine⟨w2.heap.size,w.heap.size,rfl,B2.size,Nat.le_refl _,⟨?_,blk_bl hb2 (bl_alloc (bl_refl _) _),⟨World.ownsRow_nil _ _ _ _,fun x hx=>by simp at hx⟩,rfl⟩,bl_alloc B2 _⟩;have:=heap_alloc_new w2 (.cells #[.slice (some ⟨w.heap.size,0,none⟩) n n, .int .i64 pat, .slice none 0 0] 145);show _=some (Obj.cells #[.slice (some ⟨w.heap.size,0,none⟩) (List.replicate n (⟨false,0,false,0⟩:SrcD)).length (List.replicate n (⟨false,0,false,0⟩:SrcD)).length,_,_] _ _)
 rw[List.length_replicate];exact this
structure Gr2 (g h:Nat) (w w':World):Prop where
 os:w'.os=w.os
 tape:w'.tape=w.tape
 output:w'.output=w.output
 size:w.heap.size≤w'.heap.size
 block: ∀ k,k<w.heap.size→k≠g→k≠h→w'.heap[k]? =w.heap[k]?
theorem gr2_bl {g h:Nat} {w w':World} (hb:Bl w w'):Gr2 g h w w':=⟨hb.os,hb.tape,hb.output,hb.size,fun k hk _ _=>hb.block k hk⟩
theorem gr2_fst {g h:Nat} {w w':World} (hg:Gr g w w'):Gr2 g h w w':=⟨hg.os,hg.tape,hg.output,hg.size,fun k hk h1 _=>hg.block k hk (fun e=>h1 (Option.some.inj e))⟩
theorem gr2_snd {g h:Nat} {w w':World} (hg:Gr h w w'):Gr2 g h w w':=⟨hg.os,hg.tape,hg.output,hg.size,fun k hk _ h1=>hg.block k hk (fun e=>h1 (Option.some.inj e))⟩
theorem gr2_next {g h:Nat} {a b c:World} (x:Gr2 g h a b) (y:Gr2 g h b c):Gr2 g h a c:=
 ⟨y.os.trans x.os,y.tape.trans x.tape,y.output.trans x.output,Nat.le_trans x.size y.size,fun k hk h1 h2=>(y.block k (Nat.lt_of_lt_of_le hk x.size) h1 h2).trans (x.block k hk h1 h2)⟩
theorem gr2_block {g h k:Nat} {w w':World} (x:Gr2 g h w w') {o:Obj} (hk:w.heap[k]? =some o) (h1:k≠g) (h2:k≠h):w'.heap[k]? =some o:=(x.block k (by
 rcases Nat.lt_or_ge k w.heap.size with q|q
 · exact q
 · simp[Array.getElem?_eq_none q]at hk) h1 h2).trans hk
theorem src_full {l:List SrcD} {i:Nat} (hi:i<l.length) (y:SrcD):((((l.flatMap srcCells).set (i*4) (.bool y.ever)).set (i*4+1) (.int .i64 y.last)).set (i*4+2) (.bool y.got)).set (i*4+3) (.int .i64 y.seq)=(l.set i y).flatMap srcCells:=
 (flat_put srcCells_len hi y).symm
theorem set_same {L:List Value} {j:Nat} {v:Value} (h:L[j]? =some v):L.set j v=L:=by
 apply List.ext_getElem?
 intro k;rw[List.getElem?_set];split
 ·
  rename_i e;subst e;split
  · exact h.symm
  ·
   rename_i h1;rw[List.getElem?_eq_none (by omega)]
 · rfl
def hearL (L:List Value) (i:Nat) (s:SrcD) (now:Int):List Value:=if hearsB s now=true then(L.set (i*4) (.bool true)).set (i*4+1) (.int .i64 now)else L
theorem hearL_eq {l:List SrcD} {i:Nat} {s:SrcD} (hs:l[i]? =some s) (now:Int):hearL (l.flatMap srcCells) i s now=((l.flatMap srcCells).set (i*4) (.bool (hearP s now).ever)).set (i*4+1) (.int .i64 (hearP s now).last):=by
 unfold hearL;rw[hearP_eq];split
 · rfl
 · rw[set_same (j:=i*4) (v:= .bool s.ever) (flat_get (j:=0) srcCells_len hs rfl),set_same (j:=i*4+1) (flat_get (j:=1) srcCells_len hs rfl)]
theorem hear_block {gs i:Nat} {l:List SrcD} {s:SrcD} {now:Int} {w:World} (h:w.heap[gs]? =some (.cells (l.flatMap srcCells).toArray 154 (0,0))):
  (if hearsB s now=true then(w.setCell ⟨gs,i*4,none⟩ (.bool true)).setCell ⟨gs,i*4+1,none⟩ (.int .i64 now)else w).heap[gs]? =some (.cells (hearL (l.flatMap srcCells) i s now).toArray 154 (0,0))∧
  Gr gs w (if hearsB s now=true then(w.setCell ⟨gs,i*4,none⟩ (.bool true)).setCell ⟨gs,i*4+1,none⟩ (.int .i64 now)else w):=by
 unfold hearL;split
 ·
  have:=blk_set (blk_set h (i*4) (.bool true)) (i*4+1) (.int .i64 now);rw[List.setIfInBounds_toArray,List.setIfInBounds_toArray]at this;exact⟨this,gr_next (gr_set _ _ _ _) (gr_set _ _ _ _)⟩
 · exact⟨h,gr_refl _ _⟩
def gotP (s:SrcD) (now:Int) (m:MsgD):SrcD:={ hearP s now with got:=true,seq:=m.seq }
theorem got_list {l:List SrcD} {i:Nat} {s:SrcD} (hs:l[i]? =some s) (now:Int) (m:MsgD):((hearL (l.flatMap srcCells) i s now).set (i*4+2) (.bool true)).set (i*4+3) (.int .i64 m.seq)=(l.set i (gotP s now m)).flatMap srcCells:=by
 rw[hearL_eq hs];exact src_full (List.getElem?_eq_some_iff.1 hs).1 (gotP s now m)
theorem got_list' {l:List SrcD} {i:Nat} {s:SrcD} (hs:l[i]? =some s) (now:Int) (m:MsgD):((hearL (l.flatMap srcCells) i s now).set (i*4+3) (.int .i64 m.seq)).set (i*4+2) (.bool true)=(l.set i (gotP s now m)).flatMap srcCells:=by
 rw[←got_list hs now m,List.set_comm _ _ (by omega)]
theorem got_block {gs i:Nat} {l:List SrcD} {s:SrcD} {now:Int} {m:MsgD} {w:World} (hs:l[i]? =some s) (h:w.heap[gs]? =some (.cells (hearL (l.flatMap srcCells) i s now).toArray 154 (0,0))):
  ((w.setCell ⟨gs,i*4+2,none⟩ (.bool true)).setCell ⟨gs,i*4+3,none⟩ (.int .i64 m.seq)).heap[gs]? =some (.cells ((l.set i (gotP s now m)).flatMap srcCells).toArray 154 (0,0)):=by
 have:=blk_set (blk_set h (i*4+2) (.bool true)) (i*4+3) (.int .i64 m.seq);rw[List.setIfInBounds_toArray,List.setIfInBounds_toArray,got_list hs]at this;exact this
theorem got_block' {gs i:Nat} {l:List SrcD} {s:SrcD} {now:Int} {m:MsgD} {w:World} (hs:l[i]? =some s) (h:w.heap[gs]? =some (.cells (hearL (l.flatMap srcCells) i s now).toArray 154 (0,0))):
  ((w.setCell ⟨gs,i*4+3,none⟩ (.int .i64 m.seq)).setCell ⟨gs,i*4+2,none⟩ (.bool true)).heap[gs]? =some (.cells ((l.set i (gotP s now m)).flatMap srcCells).toArray 154 (0,0)):=by
 have:=blk_set (blk_set h (i*4+3) (.int .i64 m.seq)) (i*4+2) (.bool true);rw[List.setIfInBounds_toArray,List.setIfInBounds_toArray,got_list' hs]at this;exact this
theorem BoxOk.zero (n:Nat) (pat:Int) (hn:n≤8) (hp:okM pat):BoxOk (box0 n pat):=
 ⟨hp,by show(List.replicate n _).length≤8;rw[List.length_replicate];exact hn,fun s hs=>by rw[(List.mem_replicate.1 hs).2];exact⟨Int.le_refl _,by show(0:Int)≤3155932800;omega⟩,Nat.zero_le _,fun m hm=>by simp[box0]at hm⟩
theorem BoxOk.recv {st:BoxD} (ok:BoxOk st) (m:MsgD) {now:Int} (hn:okM now):BoxOk (recvP st m now).1:=by
 unfold recvP;split
 · exact ok
 ·
  rename_i h0;split
  · exact ok
  ·
   rename_i h1;have hc:=refuse_check (Classical.not_not.1 h0);refine⟨ok.pat, ?_,fun s hs=>?_, ?_,fun x hx=>?_⟩
   ·
    show(st.srcs.modify _ _).length≤8
    rw[List.length_modify];exact ok.some
   ·
    change s∈st.srcs.modify _ _ at hs;obtain⟨i,hi,he⟩:=List.mem_iff_getElem.1 hs;rw[List.getElem_modify]at he;have hm:st.srcs[i]'(by simpa using hi)∈st.srcs:=List.getElem_mem _;have hl:=ok.last _ hm;split at he
    ·
     rw[←he];show okM (hearP _ now).last
     unfold hearP;split
     · exact hn
     · exact hl
    ·
     rw[←he];exact hl
   ·
    show(_++[m]).length≤256
    rw[List.length_append,List.length_singleton];omega
   ·
    change x∈_++[m]at hx;rcases List.mem_append.1 hx with hx|hx
    · exact ok.ok x (List.mem_filter.1 hx).1
    ·
     rw[List.mem_singleton.1 hx];exact hc
end Go.Proofs.YtncbcmiflffakaaGreat
