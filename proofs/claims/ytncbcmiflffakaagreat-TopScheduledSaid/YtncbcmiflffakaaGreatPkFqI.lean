/-
  What the laws of top need of TFqI. Conditions: those of each lemma.
-/
import Derived.Test.YtncbcmiflffakaaGreatPkFq
import Derived.Test.YtncbcmiflffakaaGreatPkMem
import Derived.Test.YtncbcmiflffakaaGreatRows
import Derived.Test.YtncbcmiflffakaaGreatPkPl
import Derived.RangeFuncBox
import Derived.RangeFuncLeaves
import Derived.RangeFuncNested
import Derived.Shelf.Abstract
import Derived.WalkKit
import Derived.OwnWalkIn
import Derived.TacticsInMore
import Derived.LoopNIn
import Derived.LoopIn
import Derived.Maps.AppendAt
import Derived.StillTailTactics
import Derived.RangeFuncCalls
import Derived.Laws.EntriesVeiled
set_option maxRecDepth 1000000
set_option maxHeartbeats 32000000
namespace Go.Proofs.YtncbcmiflffakaaGreat.Fq
open Go.RowKit Go.Shelf
open Frq
attribute [local go_sem] Oper.semAt_some
abbrev boxF (f:FreqD):Obj:= .cells #[.int .i64 f.trip, .int .i64 f.frm, .int .i64 f.to, .int .i64 f.every] 124
theorem boxF_cell {f:FreqD} {W:World} {b:Nat} (h:W.heap[b]? =some (boxF f)): ∀ j u,(freqCells f)[j]? =some u→W.cell? ⟨b,j,none⟩=some u:=by
 intro j u hu;unfold World.cell?;rw[h];simpa[freqCells]using hu
theorem bl_grown {W W':World} (hb:Bl W W'):W.grownBy W' none:=⟨hb.os,hb.tape,hb.output,hb.size,fun k hk _=>hb.block k hk⟩
theorem starts_in (f:FreqD) (n:Nat) (w:World):
  Go.CallsIn Fence.wide n Tryz.prog 147 #[.agg #[.int .i64 f.trip, .int .i64 f.frm, .int .i64 f.to, .int .i64 f.every]] w fun e w'=>e= .returned (.func (.func 164) #[] #[.pointer (some ⟨w.heap.size,0,none⟩)])∧w'=w.alloc (boxF f):=by
 refine callsIn_of_wp Tryz.func147 rfl trivial ?_ rfl;simp only[Tryz.ntmps147,List.size_toArray,List.length_cons,List.length_nil,Nat.reduceAdd,Nat.reduceSub,Array.replicate_succ,Array.replicate_zero,List.push_toArray,List.append_toArray,List.nil_append,List.cons_append];gi_wp2
 go_ret;exact⟨rfl,rfl⟩
theorem startsN_prefix (f:FreqD) {a b:Nat} (h:a≤b):startsN f a<+:startsN f b:=by
 obtain⟨c,rfl⟩: ∃ c,b=a+c:=⟨b-a,by omega⟩;clear h;induction c with
 |zero=>exact List.prefix_rfl
 |succ c ih=>rw[←Nat.add_assoc,startsN_succ];exact ih.trans (List.prefix_append _ _)
theorem iter_in (f:FreqD) (n:Nat) (hn:1≤n) (l Bn:Nat) (J Jx:List Int→World→Prop) (B:Nat) (hJ:AbidesFrom B J)
  (hY: ∀ pre (x:Int) W,J pre W→pre.length<(starts f).length→YieldAt Fence.wide (n-1) Tryz.prog l #[.int .i64 x] W fun e W'=>
   (e= .returned (.bool true)∧J (pre++[x]) W'∧W'.heap[Bn]? =W.heap[Bn]?)∨(e= .returned (.bool false)∧Jx (pre++[x]) W'))
  (W:World) (hBn:W.heap[Bn]? =some (boxF f)) (h0:J [] W):
  Go.CallsIn Fence.wide n Tryz.prog 164 #[.func (.yield l) #[] #[], .pointer (some ⟨Bn,0,none⟩)] W fun e W'=>(∃ v,e= .returned v)∧
   ((∃ ys,ys=starts f∧J ys W')∨(∃ pre,pre<+:starts f∧Jx pre W')):=by
 have hlt:Bn<W.heap.size:=(Array.getElem?_eq_some_iff.1 hBn).1;have HB:=Lib.hid hBn;have c0:=boxF_cell hBn 0 _ rfl;have c1:=boxF_cell hBn 1 _ rfl;have c2:=boxF_cell hBn 2 _ rfl;have c3:=boxF_cell hBn 3 _ rfl;clear hBn;rcases sound_cases f with⟨hs,k⟩|⟨_,k⟩
 ·
  have HK:=Lib.hid k;have HS:=Lib.hid hs;have HSt:Hid (starts f=startsN f (cnt f).toNat):=by show _=_;unfold starts;rw[if_pos hs]
  obtain⟨cc0,cc1⟩:=cnt_bd f hs;obtain⟨h1,h2,h3,h4,h5⟩:=hs;clear k;refine callsIn_of_wp Tryz.func164 rfl trivial ?_ rfl;simp only[Tryz.ntmps164,List.size_toArray,List.length_cons,List.length_nil,Nat.reduceAdd,Nat.reduceSub,Array.replicate_succ,Array.replicate_zero,List.push_toArray,List.append_toArray,List.nil_append,List.cons_append];have hfn:Fence.wide.fn 53:=trivial;gi_wp2_with (gi_at_call 53;refine(callsIn_wide.2 (sound_b f true HK _)).mono ?_;rintro e w2 ⟨rfl,b2⟩;have d1:w2.cell? ⟨Bn,1,none⟩=some (.int .i64 f.frm):=by{ rw[(bl_cell b2).1 _ _ hlt];exact c1 })
  have HB2:=Lib.hid ((b2.block Bn hlt).trans HB.out);have hJ2:=hJ [] W w2 none h0 (bl_grown b2) (by simp);have hBs:Bn<w2.heap.size:=by have:=b2.size;omega
  clear c0 c1 c2 c3;gi_loopw [3] (fun t wr=> ∃ k:Nat,(k:Int)≤cnt f∧t= .int .i64 (f.frm+k*f.every)∧J (startsN f k) wr∧wr.heap[Bn]? =some (boxF f)) (fun t _=>(f.to-intOf t).toNat)
  case atStart=>exact⟨0,by omega,by simp,hJ2,HB2.out⟩
  case round=>
   obtain⟨k,hk,rfl,hJs,hBk⟩:=hrel;have e2:=boxF_cell hBk 2 _ rfl;have e3:=boxF_cell hBk 3 _ rfl;have hiff:=cnt_lt f HS.out k;by_cases hlt2:(k:Int)<cnt f
   ·
    have hto:=hiff.2 hlt2;have hbd:=start_bd f HS.out k hlt2;have HM:=Lib.hid (mul_succ' k f.every);have HSN:=Lib.hid (startsN_succ f k);obtain⟨fn,tmps,assign,body,hy,hR⟩:=hY (startsN f k) (f.frm+k*f.every) wr hJs (by rw[HSt.out,startsN_len,startsN_len];omega);obtain⟨t,ht⟩: ∃ t,f.frm+k*f.every=t:=⟨_,rfl⟩;rw[ht]at hto hbd hR hy ⊢;have HT:=Lib.hid ht;obtain⟨t0,t1⟩:=hbd;have HBk:=Lib.hid hBk;clear hiff ht hBk;gi_wp2
    refine hR.mono ?_;rintro e W3 (⟨rfl,hJ3,hk3⟩|⟨rfl,hJx3⟩)
    ·
     have g3:=boxF_cell (hk3.trans HBk.out) 3 _ rfl;clear e2 e3;gi_wp2
     go_roundw;case rel=>
      refine⟨k+1,by omega, ?_, ?_,hk3.trans HBk.out⟩
      · rw[HM.out,←HT.out];go_num
      · rw[HSN.out,HT.out];exact hJ3
     case measure=>simp[intOf];omega
    ·
     gi_wp2
     refine bodyPost_ret (results_none rfl _ _ _) rfl ?_;refine⟨⟨_,rfl⟩, .inr ⟨startsN f k++[t], ?_,hJx3⟩⟩;rw[HSt.out,←HT.out,←HSN.out];exact startsN_prefix f (by omega)
   ·
    have hto: ¬ f.frm+k*f.every<f.to:=fun h=>hlt2 (hiff.1 h)
    have hkk:(cnt f).toNat=k:=by omega
    obtain⟨t,ht⟩: ∃ t,f.frm+k*f.every=t:=⟨_,rfl⟩;rw[ht]at hto ⊢;clear hiff ht;gi_wp2
    go_end0;exact⟨⟨_,rfl⟩, .inl (by rw[HSt.out,hkk];exact hJs)⟩
 ·
  have HK:=Lib.hid k;have HSt:Hid (starts f=[]):=by
   show _=_
   unfold starts;rw[if_neg];unfold soundB at k;simpa using k
  clear k;refine callsIn_of_wp Tryz.func164 rfl trivial ?_ rfl;simp only[Tryz.ntmps164,List.size_toArray,List.length_cons,List.length_nil,Nat.reduceAdd,Nat.reduceSub,Array.replicate_succ,Array.replicate_zero,List.push_toArray,List.append_toArray,List.nil_append,List.cons_append];have hfn:Fence.wide.fn 53:=trivial;gi_wp2_with (gi_at_call 53;refine(callsIn_wide.2 (sound_b f false HK _)).mono ?_;rintro e w2 ⟨rfl,b2⟩)
  have hJ2:=hJ [] W w2 none h0 (bl_grown b2) (by simp);clear c0 c1 c2 c3;refine bodyPost_ret (results_none rfl _ _ _) rfl ?_;exact⟨⟨_,rfl⟩, .inl ⟨_,HSt.out.symm,hJ2⟩⟩
abbrev KeepB (Bn:Nat) (A B:World):Prop:=B.heap[Bn]? =A.heap[Bn]?
theorem starts_stops (f:FreqD) (n:Nat) (hn:1≤n) (Bn:Nat) (w:World) (hB:w.heap[Bn]? =some (boxF f)):
  SeqStopsK Fence.wide n Tryz.prog 164 #[.pointer (some ⟨Bn,0,none⟩)] (fun x:Int=> #[Value.int .i64 x]) (KeepB Bn) (fun ys=>ys=starts f) (fun pre=>pre<+:starts f) (starts f).length w:=fun l J Jx W hW hJ _ hY h0=>
 iter_in f n hn l Bn J Jx _ hJ hY W ((hW.block Bn (Array.getElem?_eq_some_iff.1 hB).1).trans hB) h0
theorem keepB_b {Bn:Nat} {w:World} (hn:Bn<w.heap.size) (W:World) (l:Nat) (o o':Obj) (hl:w.heap.size≤l) (_:W.heap[l]? =some o) (_:o.isCells=false) (_:o.isWalk=false):KeepB Bn W (W.putObj l o'):=
 World.putObj_heap_other (by omega)
theorem ownFrom_keepB {β:Type} {Bn B:Nat} {o:Obj} (h:Bn<B):OwnFrom B (fun(_:β) W=>W.heap[Bn]? =some o):=
 fun _ W W' _ hs hg hr=>(hg.block Bn (Array.getElem?_eq_some_iff.1 hs).1 (fun e=>by have:=(hr Bn e.symm).1;omega)).trans hs
theorem flatI (l:List Int):(l.flatMap intCells)=l.map (Value.int .i64):=by
 induction l with
 |nil=>rfl
 |cons c l ih=>rw[List.flatMap_cons,ih];rfl
end Go.Proofs.YtncbcmiflffakaaGreat.Fq
namespace Go.Proofs.YtncbcmiflffakaaGreat.Fq
open Go.RowKit Go.Shelf
open Frq
def goK (L:List Int) (t:Int):Nat→Nat
 |0=>0
 |k+1=>if(match L[k]? with|some x=>decide (t<x)|none=>false)then goK L t k else k+1
def rowK (L:List Int) (z:Int) (k:Nat):List Int:=L.take k++z::L.drop k
def ins (L:List Int) (t:Int):List Int:=rowK L t (goK L t L.length)
theorem goK_gt {L:List Int} {t x:Int} {k:Nat} (h:L[k]? =some x) (h1:t<x):goK L t (k+1)=goK L t k:=by
 show(if _ then _ else _)=_
 rw[h];simp only[decide_eq_true h1,if_true]
theorem goK_le {L:List Int} {t x:Int} {k:Nat} (h:L[k]? =some x) (h1:x≤t):goK L t (k+1)=k+1:=by
 show(if _ then _ else _)=_
 rw[h];simp only[decide_eq_false (show ¬ t<x by omega),Bool.false_eq_true,if_false]
theorem rowK_len (L:List Int) (z:Int) {k:Nat} (h:k≤L.length):(rowK L z k).length=L.length+1:=by simp[rowK];omega
theorem rowK_set (L:List Int) (z y:Int) {k:Nat} (h:k≤L.length):(rowK L z k).set k y=rowK L y k:=by
 unfold rowK;have e:(L.take k).length=k:=by rw[List.length_take];omega
 rw[List.set_append_right _ _ (by omega),e,Nat.sub_self];rfl
theorem rowK_step {L:List Int} {x:Int} {k:Nat} (h:L[k]? =some x):rowK L x (k+1)=rowK L x k:=by
 obtain⟨hk,rfl⟩:=List.getElem?_eq_some_iff.1 h;unfold rowK;rw[show L.drop k=L[k]::L.drop (k+1) from List.drop_eq_getElem_cons hk,List.take_succ_eq_append_getElem hk,List.append_assoc];rfl
theorem rowK_at {L:List Int} {x z:Int} {k:Nat} (h:L[k]? =some x):(rowK L z (k+1))[k]? =some x:=by
 have hk:=(List.getElem?_eq_some_iff.1 h).1;unfold rowK;rw[List.getElem?_append_left (by rw[List.length_take];omega),List.getElem?_take_of_lt (by omega)];exact h
theorem rowK_here (L:List Int) (z:Int) {k:Nat} (h:k≤L.length):(rowK L z k)[k]? =some z:=by
 unfold rowK;have e:(L.take k).length=k:=by rw[List.length_take];omega
 rw[List.getElem?_append_right (by omega),e,Nat.sub_self];rfl
theorem rowK_end (L:List Int) (t:Int):rowK L t L.length=L++[t]:=by simp[rowK]
theorem not_rowT {W:World} {B:Nat} {c:Array Value} {T:TypeId} (h:W.heap[B]? =some (.cells c T (0,0))) {e:TypeId} (hte:T≠e) {base size k:Nat} {v:Value} {xs:List Value} (hr:W.ownsRow base e size v k xs):some B≠v.ownBlock:=by
 rcases hr.2 with⟨rfl,_⟩|⟨g,cap,cur,rfl,_,hgb,_⟩
 · simp[Value.ownBlock]
 ·
  intro e';obtain rfl:B=g:=by simpa[Value.ownBlock]using e'
  have:=h.symm.trans hgb;simp at this
  exact hte this.2
structure MK (n₀:Nat) (W w':World):Prop where
 others:KeepsOthers W w'
 below:Below n₀ W w'
 fb: ∀ (b:Nat) (c:Array Value) (T:TypeId),T≠3→T≠59→W.heap[b]? =some (.cells c T (0,0))→w'.heap[b]? =some (.cells c T (0,0))
theorem MK.refl (n₀:Nat) (W:World):MK n₀ W W:=⟨KeepsOthers.refl W,Below.refl _ _,fun _ _ _ _ _ h=>h⟩
theorem MK.trans {n₀:Nat} {A B C:World} (h:MK n₀ A B) (k:MK n₀ B C):MK n₀ A C:=⟨h.others.trans k.others,h.below.trans k.below,fun b c T h1 h2 hb=>k.fb b c T h1 h2 (h.fb b c T h1 h2 hb)⟩
theorem MK.setCell {n₀:Nat} {W:World} {p:Addr} (hp:n₀≤p.block) (hne: ∀ (c:Array Value) (T:TypeId),T≠3→T≠59→W.heap[p.block]? ≠some (.cells c T (0,0))) (v:Value):MK n₀ W (W.setCell p v):=
 ⟨KeepsOthers.setCell _ _ _,(Below.refl _ _).setCell hp v,fun b c T h1 h2 hb=>(Below.heap_setCell _ _ _ _ (fun e=>hne c T h1 h2 (by rw[←e];exact hb))).trans hb⟩
theorem MK.drew (n₀:Nat) (W:World):MK n₀ W W.drew:=⟨KeepsOthers.drew W,Below.drew (Below.refl _ _),fun _ _ _ _ _ h=>h⟩
theorem merge_c (L:List Int) (t:Int) (hL:L.length≤20000000) (O n₀:Nat) (v:Value) (W:World) (hv:Boxed W O 59 v) (hrow:W.ownsRow n₀ 3 1 v L.length (L.map (Value.int .i64))) (hn:n₀≤W.heap.size) (hO:n₀≤O):
  Calls Tryz.prog 146 #[.int .i64 t, .pointer (some ⟨O,0,none⟩)] W fun e w'=>(∃ r,e= .returned r)∧
   (∃ v',Boxed w' O 59 v'∧w'.ownsRow n₀ 3 1 v' (L.length+1) ((ins L t).map (Value.int .i64)))∧MK n₀ W w':=by
 obtain⟨i0,hi,hz0,hz1,hz2⟩:=info_parts info_int;have hc:=hv.cell;have HR:=Lib.hid hrow;have HV:=Lib.hid hv;have hlenv: ∃ a cap,v= .slice a L.length cap:=by
  rcases hrow.2 with⟨rfl,h0⟩|⟨g,cap,_,rfl,_⟩
  · exact⟨none,0,by rw[h0]⟩
  · exact⟨_,_,rfl⟩
 obtain⟨a,cap,rfl⟩:=hlenv;clear hrow hv;go_enter Tryz.func146,Tryz.ntmps146
 go_wp2_with (at_builtin;refine wpList_append_own _ rfl _ _ 59 rfl n₀ 3 i0 (.int .i64 0) 1 8 Tryz.underlying59 hi hz0 hz1 hz2 rfl (by decide) _ _ _ rfl (HR.out.alloc _) ⟨W.heap.size,0,none⟩ 1 1 [.int .i64 t] rfl rfl (cell_one_new _ _ _) (by simp[Value.oneCell']) (by unfold maxLen;omega) (by omega) (by simp;omega) ?_;intro v' w1 hown' hgrow _;obtain⟨g',cap',rfl⟩:=ownsRow_succ hown';obtain⟨hv1,hv2,hr2,hk2,hb2⟩:=HV.out.appended (by decide) HR.out hn hO hown' hgrow;have hc1:=hv1.cell;have hf1:=hv1.frozen)
 have O5:Hid (20000001≥L.length+1):=by show _≥_;omega
 obtain⟨w2,hw2⟩: ∃ w2,w1.setCell ⟨O,0,none⟩ (.slice (some ⟨g',0,none⟩) (L.length+1) cap')=w2:=⟨_,rfl⟩;rw[hw2]at hv2 hr2 hk2 hb2;rw[hw2];have HFB:Hid (MK n₀ W w2):=⟨hk2,hb2,fun b c T hT1 hT2 hb=>by
  have hbl:b<W.heap.size:=(Array.getElem?_eq_some_iff.1 hb).1;have h1:w1.heap[b]? =some (.cells c T (0,0)):=(hgrow.block _ (by simp;omega) (not_rowT hb hT1 HR.out)).trans ((Below.heap_alloc _ _ _ hbl).trans hb);rw[←hw2];refine(Below.heap_setCell _ _ _ _ ?_).trans h1;intro e;have hx:=hv1.symm.trans (e ▸ h1);simp at hx
  exact hT2 hx.2.symm⟩
 have HV2:=Lib.hid hv2;have hr2':w2.ownsRow n₀ 3 1 (.slice (some ⟨g',0,none⟩) (L.length+1) cap') (L.length+1) ((rowK L t L.length).map (Value.int .i64)):=by rw[rowK_end];simpa using hr2
 have HR2:=Lib.hid hr2';have hOg:O≠g':=fun e=>HV2.out.not_row (by decide) HR2.out (by rw[e];rfl)
 have hnf: ∀ (wr:World) (xs:List Value),wr.ownsRow n₀ 3 1 (.slice (some ⟨g',0,none⟩) (L.length+1) cap') (L.length+1) xs→n₀≤g'∧ ∀ (c:Array Value) (T:TypeId),T≠3→T≠59→wr.heap[g']? ≠some (.cells c T (0,0)):=fun wr xs h=>by
  refine⟨(World.ownsRow.lt h g' rfl).1,fun c T hT _ hb=>not_rowT hb hT h rfl⟩
 have HNF:=Lib.hid hnf;clear hv1 hv2 hr2 hk2 hb2 hgrow hown' hc1 hf1 hw2 hr2' hnf hc;go_loopw [3] (fun i wr=> ∃ (k:Nat) (z:Int),k≤L.length∧i= .int .i64 k∧Hid (goK L t k=goK L t L.length)∧Hid (Boxed wr O 59 (.slice (some ⟨g',0,none⟩) (L.length+1) cap'))∧
  Hid (wr.ownsRow n₀ 3 1 (.slice (some ⟨g',0,none⟩) (L.length+1) cap') (L.length+1) ((rowK L z k).map (Value.int .i64)))∧Hid (MK n₀ W wr)) (fun i _=>(intOf i).toNat)
 case atStart=>exact⟨L.length,t,Nat.le_refl _,rfl,rfl,HV2,HR2,HFB⟩
 case round=>
  obtain⟨k,z,hk,rfl,HK,HVr,HRr,HM⟩:=hrel;have cO:=HVr.out.cell;obtain⟨hg0,hnf⟩:=HNF.out wr _ HRr.out;have HNFr:=Lib.hid hnf;have fg:=World.ownsRow.frozenAt HRr.out k;have cz:wr.cell? ⟨g',k,none⟩=some (.int .i64 z):=by
   rw[World.ownsRow.cellAt HRr.out k (by omega),List.getElem?_map,rowK_here L z hk];rfl
  clear hnf;cases k with
  |zero=>
   have HKE:=Lib.hid (HK.out.symm.trans (show goK L t 0=0 from rfl));have i1:(0:Int)<((L.length+1:Nat):Int):=by omega
   have HS3:Hid ((wr.setCell ⟨g',0,none⟩ (.int .i64 t)).ownsRow n₀ 3 1 (.slice (some ⟨g',0,none⟩) (L.length+1) cap') (L.length+1) ((ins L t).map (Value.int .i64))):=by
    have:=(World.ownsRow.stored HRr.out (0) (.int .i64 t)).1;rw[←List.map_set,rowK_set L z t hk]at this;show World.ownsRow _ _ _ _ _ _ _
    unfold ins;rw[HKE.out];exact this
   have HV3:Hid (Boxed (wr.setCell ⟨g',0,none⟩ (.int .i64 t)) O 59 (.slice (some ⟨g',0,none⟩) (L.length+1) cap')):=(Below.heap_setCell _ _ _ _ (by show O≠g';exact hOg)).trans HVr.out;have HM3:Hid (MK n₀ W (wr.setCell ⟨g',0,none⟩ (.int .i64 t))):=HM.out.trans (MK.setCell hg0 HNFr.out _);go_wp2;go_end0;exact⟨⟨_,rfl⟩,⟨_,HV3.out,HS3.out⟩,HM3.out⟩
  |succ k=>
   obtain⟨x,hx⟩: ∃ x,L[k]? =some x:=⟨_,List.getElem?_eq_getElem (by omega)⟩;have HX:=Lib.hid hx;have cx:wr.cell? ⟨g',k,none⟩=some (.int .i64 x):=by
    rw[World.ownsRow.cellAt HRr.out k (by omega),List.getElem?_map,rowK_at hx];rfl
   have wl0:IntKind.i64.wrap (k:Int)=(k:Int):=IntWalk.i64_in _ (by omega);have e1:IntKind.i64.wrap (((k+1:Nat):Int)-1)=(k:Int):=by rw[IntWalk.i64_in _ (by omega)];omega
   have i1:(k:Int)<((L.length+1:Nat):Int):=by omega
   have i2:((k+1:Nat):Int)<((L.length+1:Nat):Int):=by omega
   clear hx;by_cases hgt:t<x
   ·
    have HK2:=Lib.hid ((goK_gt HX.out hgt).symm.trans HK.out);go_wp2_with fail;go_region
    have HS3:Hid ((wr.setCell ⟨g',k+1,none⟩ (.int .i64 x)).ownsRow n₀ 3 1 (.slice (some ⟨g',0,none⟩) (L.length+1) cap') (L.length+1) ((rowK L x k).map (Value.int .i64))):=by
     have:=(World.ownsRow.stored HRr.out (k+1) (.int .i64 x)).1;rw[←List.map_set,rowK_set L z x hk,rowK_step HX.out]at this;exact this
    have HV3:Hid (Boxed (wr.setCell ⟨g',k+1,none⟩ (.int .i64 x)) O 59 (.slice (some ⟨g',0,none⟩) (L.length+1) cap')):=(Below.heap_setCell _ _ _ _ (by show O≠g';exact hOg)).trans HVr.out;have HM3:Hid (MK n₀ W (wr.setCell ⟨g',k+1,none⟩ (.int .i64 x))):=HM.out.trans (MK.setCell hg0 HNFr.out _);generalize wr.setCell ⟨g',k+1,none⟩ (.int .i64 x)=wd at*
    go_wp2;go_roundw;case rel=>exact⟨k,x,by omega,by go_num,HK2,HV3.out,HS3.out,HM3.out.trans (MK.drew n₀ wd)⟩
    case measure=>simp[intOf]
   ·
    have hle:x≤t:=by omega
    have HKE:=Lib.hid (HK.out.symm.trans (goK_le HX.out hle));have HS3:Hid ((wr.setCell ⟨g',k+1,none⟩ (.int .i64 t)).ownsRow n₀ 3 1 (.slice (some ⟨g',0,none⟩) (L.length+1) cap') (L.length+1) ((ins L t).map (Value.int .i64))):=by
     have:=(World.ownsRow.stored HRr.out (k+1) (.int .i64 t)).1;rw[←List.map_set,rowK_set L z t hk]at this;show World.ownsRow _ _ _ _ _ _ _
     unfold ins;rw[HKE.out];exact this
    have HV3:Hid (Boxed (wr.setCell ⟨g',k+1,none⟩ (.int .i64 t)) O 59 (.slice (some ⟨g',0,none⟩) (L.length+1) cap')):=(Below.heap_setCell _ _ _ _ (by show O≠g';exact hOg)).trans HVr.out;have HM3:Hid (MK n₀ W (wr.setCell ⟨g',k+1,none⟩ (.int .i64 t))):=HM.out.trans (MK.setCell hg0 HNFr.out _);go_wp2;go_end0;exact⟨⟨_,rfl⟩,⟨_,HV3.out,HS3.out⟩,HM3.out⟩
end Go.Proofs.YtncbcmiflffakaaGreat.Fq
namespace Go.Proofs.YtncbcmiflffakaaGreat.Fq
open Go.RowKit Go.Shelf
open Frq
def allS (fs:List FreqD) (trip:Int):List Int:=(fs.filter fun f=>f.trip==trip).flatMap starts
def fold (l:List Int):List Int:=l.foldl ins []
theorem fold_snoc (l:List Int) (t:Int):fold (l++[t])=ins (fold l) t:=by simp[fold]
theorem goK_bd (L:List Int) (t:Int): ∀ k,goK L t k≤k
 |0=>Nat.le_refl _
 |k+1=>by
  by_cases h:(match L[k]? with|some x=>decide (t<x)|none=>false)=true
  ·
   rw[show goK L t (k+1)=goK L t k from if_pos h];exact Nat.le_trans (goK_bd L t k) (Nat.le_succ k)
  ·
   rw[show goK L t (k+1)=k+1 from if_neg h];exact Nat.le_refl _
theorem ins_len (L:List Int) (t:Int):(ins L t).length=L.length+1:=rowK_len L t (goK_bd L t _)
theorem fold_len: ∀ (l acc:List Int),(l.foldl ins acc).length=acc.length+l.length
 |[],acc=>rfl
 |x::l,acc=>by rw[List.foldl_cons,fold_len l,ins_len,List.length_cons];omega
theorem fold_length (l:List Int):(fold l).length=l.length:=by unfold fold;rw[fold_len];simp
theorem allS_hit (l:List FreqD) (x:FreqD) (trip:Int) (h:(x.trip==trip)=true):allS (l++[x]) trip=allS l trip++starts x:=by simp[allS,h]
theorem allS_miss (l:List FreqD) (x:FreqD) (trip:Int) (h:(x.trip==trip)=false):allS (l++[x]) trip=allS l trip:=by simp[allS,h]
theorem allS_len (l:List FreqD) (trip:Int):(allS l trip).length≤172800*l.length:=by
 induction l with
 |nil=>simp[allS]
 |cons x l ih=>
  have:=starts_len x;have e:(allS (x::l) trip).length≤(starts x).length+(allS l trip).length:=by
   unfold allS;rw[List.filter_cons];split
   · rw[List.flatMap_cons,List.length_append];omega
   · omega
  rw[List.length_cons];omega
end Go.Proofs.YtncbcmiflffakaaGreat.Fq
namespace Go.Proofs.YtncbcmiflffakaaGreat.Fq
open Go.RowKit
def marks (rs:List Nat):List Deferred:=rs.map fun r=>{ target:= .collected r,args:= #[] }
structure Marked (base:Nat) (rs:List Nat) (W:World):Prop where
 nodup:rs.Nodup
 block: ∀ r∈rs,base≤r∧W.heap[r]? =some (.deferred (some []))
theorem Marked.nil (base:Nat) (W:World):Marked base [] W:=⟨List.nodup_nil,fun r h=>by simp at h⟩
theorem Marked.keeps {base:Nat} {rs:List Nat} {W W':World} (h:Marked base rs W) (hk:KeepsOthers W W'):Marked base rs W':=
 ⟨h.nodup,fun r hr=>⟨(h.block r hr).1,hk.same r _ (h.block r hr).2 rfl⟩⟩
theorem Marked.below {base:Nat} {rs:List Nat} {W W':World} (h:Marked base rs W) (hb:Bl W W'):Marked base rs W':=
 ⟨h.nodup,fun r hr=>⟨(h.block r hr).1,(hb.block r (Array.getElem?_eq_some_iff.1 (h.block r hr).2).1).trans (h.block r hr).2⟩⟩
theorem Marked.cons {base:Nat} {rs:List Nat} {W W0:World} {D:Nat} (h:Marked base rs W) (h0: ∀ r∈rs,r<W0.heap.size) (hD:W0.heap.size≤D) (hb:base≤W0.heap.size) (hK:W.heap[D]? =some (.deferred (some []))):Marked base (D::rs) W:=
 ⟨List.nodup_cons.2 ⟨fun hm=>by have:=h0 D hm;omega,h.nodup⟩,fun r hr=>by
  rcases List.mem_cons.1 hr with rfl|hr
  · exact⟨by omega,hK⟩
  · exact h.block r hr⟩
theorem leaves_marks {F:Fence} {n:Nat} {P:Program} {fn:Func} {tmps:Array Value} {R:Ending→World→Prop} (base:Nat) (J:World→Prop)
  (hJ: ∀ W r,J W→base≤r→W.heap[r]? =some (.deferred (some []))→J (W.putObj r (.deferred none)))
  (hend: ∀ W,J W→LeavesInM F n P fn tmps R [] .returning W): ∀ (rs:List Nat) (W:World),J W→Marked base rs W→LeavesInM F n P fn tmps R (marks rs) .returning W
 |[],W,hj,_=>hend W hj
 |r::rs,W,hj,hm=>by
  obtain⟨hr1,hr2⟩:=hm.block r (List.mem_cons_self ..);refine⟨by simp, .inl ⟨r,_,rfl,run_takeDeferred hr2, ?_⟩⟩;refine leaves_marks base J hJ hend rs _ (hJ W r hj hr1 hr2) ⟨(List.nodup_cons.1 hm.nodup).2,fun r' hr'=>?_⟩;have hne:r'≠r:=fun e=>(List.nodup_cons.1 hm.nodup).1 (e ▸ hr')
  exact⟨(hm.block r' (List.mem_cons_of_mem _ hr')).1,(World.putObj_heap_other hne).trans (hm.block r' (List.mem_cons_of_mem _ hr')).2⟩
end Go.Proofs.YtncbcmiflffakaaGreat.Fq
namespace Go.Proofs.YtncbcmiflffakaaGreat.Fq
open Go.RowKit Go.Shelf
open Frq
attribute [local go_sem] Oper.semAt_some
theorem ownFrom_marked {β:Type} {base B:Nat} {rs:List Nat} (h: ∀ r∈rs,r<B):OwnFrom B (fun(_:β) W=>Marked base rs W):=
 fun _ W W' _ hs hg hr=>⟨hs.nodup,fun r hrs=>⟨(hs.block r hrs).1,(hg.block r (Array.getElem?_eq_some_iff.1 (hs.block r hrs).2).1 (fun e=>by have:=(hr r e.symm).1;have:=h r hrs;omega)).trans (hs.block r hrs).2⟩⟩
theorem inst_c (v:Value) (fs:List FreqD) (trip:Int) (h100:fs.length≤100) (B:Nat) (w:World) (ha:FreqsIn B w v fs) (hB:B≤w.heap.size):
  Calls Tryz.prog 133 #[v, .int .i64 trip] w fun e w'=> ∃ v',e= .returned v'∧w'.ownsRow w.heap.size 3 1 v' (fold (allS fs trip)).length ((fold (allS fs trip)).flatMap intCells)∧Bl w w':=by
 refine(callsIn_wide (n:=4)).1 ?_;obtain⟨i0,hi,hz0,hz1,hz2⟩:=info_parts info_int;by_cases h0:0<fs.length
 ·
  obtain⟨b1,o1,cap1,rfl,l1,m1,hb1,hc1⟩:=ha.open h0;have H1:=Lib.hid hc1;have hi100:(fs.length:Int)≤100:=by omega
  clear ha hc1;refine callsIn_of_wp_marks Tryz.func133 rfl trivial ?_ rfl;simp only[Tryz.ntmps133,List.size_toArray,List.length_cons,List.length_nil,Nat.reduceAdd,Nat.reduceSub,Array.replicate_succ,Array.replicate_zero,List.push_toArray,List.append_toArray,List.nil_append,List.cons_append];have bF:=Boxed.new (w.alloc (.cells #[.slice none 0 0] 59)) 155 .nilFunc;rw[World.size_alloc]at bF;have hcF:=bF.cell;have hfF:=bF.frozen;have bO:Boxed ((w.alloc (.cells #[.slice none 0 0] 59)).alloc (.cells #[.nilFunc] 155)) w.heap.size 59 (.slice none 0 0):=(Boxed.new w 59 (.slice none 0 0)).alloc _;gi_wp2
  clear bF hcF hfF bO;have bF:=Boxed.new (w.alloc (.cells #[.slice none 0 0] 59)) 155 (.func (.func 146) #[] #[.pointer (some ⟨w.heap.size,0,none⟩)]);rw[World.size_alloc]at bF;have bO:Boxed ((w.alloc (.cells #[.slice none 0 0] 59)).alloc (.cells #[.func (.func 146) #[] #[.pointer (some ⟨w.heap.size,0,none⟩)]] 155)) w.heap.size 59 (.slice none 0 0):=(Boxed.new w 59 (.slice none 0 0)).alloc _;obtain⟨w0,hw0⟩: ∃ w0,(w.alloc (.cells #[.slice none 0 0] 59)).alloc (.cells #[.func (.func 146) #[] #[.pointer (some ⟨w.heap.size,0,none⟩)]] 155)=w0:=⟨_,rfl⟩;rw[hw0]at bF bO;rw[hw0];have b0:Bl w w0:=by rw[←hw0];exact bl_alloc (bl_alloc (bl_refl _) _) _
  have s0:w0.heap.size=w.heap.size+2:=by rw[←hw0];simp
  clear hw0;obtain⟨m,hm⟩: ∃ m,0+m=fs.length:=⟨fs.length,by omega⟩;refine wpIn_loop_rounds (m+1) ?_;have hrel: ∃ (k:Nat) (vo u4 u7 u8 u9 u14 u15 u16 u17 u18 u19 u20 u21 u22 u23 u24 u25 u26 u27 u28:Value) (rs:List Nat),k+m=fs.length∧
    ({ tmps:= #[.slice (some ⟨b1,o1,none⟩) fs.length cap1, .int .i64 trip,undef,undef, .slice none 0 0, .pointer (some ⟨w.heap.size,0,none⟩), .pointer (some ⟨w.heap.size+1,0,none⟩),undef,undef,undef, .func (.func 146) #[] #[.pointer (some ⟨w.heap.size,0,none⟩)],
     .slice (some ⟨b1,o1,none⟩) fs.length cap1, .int .i64 fs.length, .int .i64 0,undef,undef,undef,undef,undef,undef,undef,undef,undef,undef,undef,undef,undef,undef,undef],defers:=[] }:Act)=
    { tmps:= #[.slice (some ⟨b1,o1,none⟩) fs.length cap1, .int .i64 trip,undef,undef,u4, .pointer (some ⟨w.heap.size,0,none⟩), .pointer (some ⟨w.heap.size+1,0,none⟩),u7,u8,u9, .func (.func 146) #[] #[.pointer (some ⟨w.heap.size,0,none⟩)],
     .slice (some ⟨b1,o1,none⟩) fs.length cap1, .int .i64 fs.length, .int .i64 k,u14,u15,u16,u17,u18,u19,u20,u21,u22,u23,u24,u25,u26,u27,u28],defers:=marks rs }∧
    Marked w.heap.size rs w0∧Boxed w0 w.heap.size 59 vo∧Boxed w0 (w.heap.size+1) 155 (.func (.func 146) #[] #[.pointer (some ⟨w.heap.size,0,none⟩)])∧
    w0.ownsRow w.heap.size 3 1 vo (allS (fs.take k) trip).length ((fold (allS (fs.take k) trip)).map (Value.int .i64))∧Bl w w0:=
   ⟨0,_,_,_,_,_,_,_,_,_,_,_,_,_,_,_,_,_,_,_,_,[],hm,rfl,Marked.nil _ _,bO,bF,World.ownsRow_nil _ _ _ _,b0⟩
  generalize ({ tmps:= #[.slice (some ⟨b1,o1,none⟩) fs.length cap1, .int .i64 trip,undef,undef, .slice none 0 0, .pointer (some ⟨w.heap.size,0,none⟩), .pointer (some ⟨w.heap.size+1,0,none⟩),undef,undef,undef, .func (.func 146) #[] #[.pointer (some ⟨w.heap.size,0,none⟩)],
     .slice (some ⟨b1,o1,none⟩) fs.length cap1, .int .i64 fs.length, .int .i64 0,undef,undef,undef,undef,undef,undef,undef,undef,undef,undef,undef,undef,undef,undef,undef],defers:=[] }:Act)=a at hrel ⊢
  clear bF bO b0 s0 hm;induction m generalizing a w0 with
  |zero=>
   obtain⟨k,vo,u4,u7,u8,u9,u14,u15,u16,u17,u18,u19,u20,u21,u22,u23,u24,u25,u26,u27,u28,rs,hkm,rfl,hMk,hBo,hBf,hrow,hbl⟩:=hrel;have hk:k=fs.length:=by omega
   subst hk;have cO:=hBo.cell;rw[roundsIn_succ];gi_wp2
   refine leaves_marks w.heap.size (fun W=>Boxed W w.heap.size 59 vo∧W.ownsRow w.heap.size 3 1 vo (allS (fs.take fs.length) trip).length ((fold (allS (fs.take fs.length) trip)).map (Value.int .i64))∧Bl w W) (fun W r hj hr hK=>?_) (fun W hj=>?_) rs w0 ⟨hBo,hrow,hbl⟩ hMk
   ·
    refine⟨?_,ownsRow_putObj hj.2.1 _ hK rfl,hj.2.2.trans (belowK_b (Nat.le_refl _) W r _ _ hr hK rfl rfl)⟩;refine(World.putObj_heap_other ?_).trans hj.1;intro e;have h1:W.heap[w.heap.size]? =_:=hj.1;rw[e,hK]at h1;cases h1
   ·
    refine⟨_,results_tmp rfl _ _ _,vo,rfl, ?_,hj.2.2⟩;have:=hj.2.1;rw[List.take_length]at this;rw[←fold_length (allS fs trip),←flatI]at this;exact this
  |succ m ih=>
   obtain⟨k,vo,u4,u7,u8,u9,u14,u15,u16,u17,u18,u19,u20,u21,u22,u23,u24,u25,u26,u27,u28,rs,hkm,rfl,hMk,hBo,hBf,hrow,hbl⟩:=hrel;have hk:k<fs.length:=by omega
   obtain⟨x,hx⟩: ∃ x,fs[k]? =some x:=⟨_,List.getElem?_eq_getElem hk⟩;have hzw:=hbl.size;have c1: ∀ j u,(freqCells x)[j]? =some u→w0.cell? ⟨b1,o1+k*4+j,none⟩=some u:=fun j u hu=>by rw[(bl_cell hbl).1 _ _ (by omega)];exact H1.out k x hx j u hu
   have d10:w0.cell? ⟨b1,o1+k*4,none⟩=some (.int .i64 x.trip):=c1 0 _ rfl;have d11:=c1 1 _ rfl;have d12:=c1 2 _ rfl;have d13:=c1 3 _ rfl;have HT:=Lib.hid (take_snoc_at hx);have hkI:(k:Int)<(fs.length:Int):=by omega
   have hMlt: ∀ r∈rs,r<w0.heap.size:=fun r hr=>(Array.getElem?_eq_some_iff.1 (hMk.block r hr).2).1
   have wk:IntKind.i64.wrap ((k:Int)+1)=(k:Int)+1:=IntWalk.i64_in _ (by omega);clear hx c1;by_cases he:x.trip=trip
   ·
    have q:(x.trip==trip)=true:=by rw[beq_iff_eq];exact he
    have q':(x.trip != trip)=false:=by rw[bne,q];rfl
    have HAL:=Lib.hid (show allS (fs.take (k+1)) trip=allS (fs.take k) trip++starts x by rw[HT.out,allS_hit _ _ _ q]);clear he;have hfn:Fence.wide.fn 147:=trivial;rw[roundsIn_succ];gi_wp2_with (gi_at_call 147;refine(starts_in x _ _).mono ?_;rintro e w2 ⟨rfl,rfl⟩)
    have bN:((w0.alloc (boxF x)).alloc (boxF x)).heap[w0.heap.size+1]? =some (boxF x):=by
     have:=World.alloc_heap_new (w0.alloc (boxF x)) (boxF x);simpa using this
    have hB0:Below w.heap.size w ((w0.alloc (boxF x)).alloc (boxF x)):=bl_alloc (bl_alloc hbl _) _;have hfn2:Fence.wide.fn 146:=trivial;obtain⟨A,hA⟩: ∃ A,allS (fs.take k) trip=A:=⟨_,rfl⟩;have hAl:A.length≤17280000:=by rw[←hA];have:=allS_len (fs.take k) trip;rw[List.length_take]at this;omega
    have hSl:=starts_len x;rw[hA]at hrow HAL;have hsz:w.heap.size+2≤w0.heap.size:=by
     have h1:=hBf.lt;omega
    refine wpIn_rangeFunc_ownG rfl (by omega) (gf:=164) (lb:= #[.pointer (some ⟨w0.heap.size+1,0,none⟩)]) rfl trivial (enters_of Tryz.func164 (by kernel_rfl) rfl)
     (starts_stops x (4-1) (by omega) (w0.heap.size+1) _ bN) (fun h k=>k.trans h) (keepB_b (by simp)) (Below.refl _ _) (fun _=>rfl)
     (fun pre W=>((((∃ v,Boxed W w.heap.size 59 v∧W.ownsRow w.heap.size 3 1 v (A.length+pre.length) ((fold (A++pre)).map (Value.int .i64))∧True)∧Below w.heap.size w W)∧W.heap[w0.heap.size+1]? =some (boxF x))∧W.heap[w.heap.size+1]? =some (.cells #[.func (.func 146) #[] #[.pointer (some ⟨w.heap.size,0,none⟩)]] 155 (0,0)))∧Marked w.heap.size rs W)
     (fun _ _ _=>False)
     (OwnFrom.and (OwnFrom.and (OwnFrom.and (OwnFrom.and (Own.from (holdsRow_own w.heap.size w.heap.size 59 3 1 (fun pre:List Int=>A.length+pre.length) (fun pre=>(fold (A++pre)).map (Value.int .i64)) (fun _ _=>True)) _) (ownFrom_below (Nat.le_refl _) (by simp;omega))) (ownFrom_keepB (by simp))) (ownFrom_keepB (by simp;omega))) (ownFrom_marked (fun r hr=>by have:=hMlt r hr;simp;omega)))
     (fun _ _ _ _ _ hs _ _=>hs)
     ⟨⟨⟨⟨⟨vo,(hBo.alloc _).alloc _,by simpa using(hrow.alloc _).alloc _,trivial⟩,hB0⟩,bN⟩,(hBf.alloc _).alloc _⟩,(hMk.keeps (KeepsOthers.alloc _ _)).keeps (KeepsOthers.alloc _ _)⟩
     (fun t=>{ tmps:= #[.slice (some ⟨b1,o1,none⟩) fs.length cap1, .int .i64 trip,undef,undef,u4, .pointer (some ⟨w.heap.size,0,none⟩), .pointer (some ⟨w.heap.size+1,0,none⟩),u7, .pointer (some ⟨w0.heap.size,0,none⟩), .int .i64 t, .func (.func 146) #[] #[.pointer (some ⟨w.heap.size,0,none⟩)],
      .slice (some ⟨b1,o1,none⟩) fs.length cap1, .int .i64 fs.length, .int .i64 k, .bool true, .pointer (some ⟨b1,o1+k*4,none⟩), .agg #[.int .i64 x.trip, .int .i64 x.frm, .int .i64 x.to, .int .i64 x.every], .pointer (some ⟨w0.heap.size,0,none⟩), .int .i64 x.trip, .int .i64 trip, .bool false, .agg #[.int .i64 x.trip, .int .i64 x.frm, .int .i64 x.to, .int .i64 x.every],
      .func (.func 164) #[] #[.pointer (some ⟨w0.heap.size+1,0,none⟩)], .int .i64 t,u24,u25,u26,u27,u28],defers:=[] }) ?assign ?body ?done ?stop
    case assign=>
     intro l t W K hK;gi_wp2
     exact hK
    case body=>
     rintro l pre t W ⟨⟨⟨⟨⟨v,hv,hr,-⟩,hB⟩,hBn⟩,hFn⟩,hMs⟩ hlt;have hcF:W.cell? ⟨w.heap.size+1,0,none⟩=some (.func (.func 146) #[] #[.pointer (some ⟨w.heap.size,0,none⟩)]):=Boxed.cell hFn;have hr':W.ownsRow w.heap.size 3 1 v (fold (A++pre)).length ((fold (A++pre)).map (Value.int .i64)):=by rw[fold_length,List.length_append];exact hr
     have hFl:(fold (A++pre)).length≤20000000:=by rw[fold_length,List.length_append];omega
     have HALL:=Lib.hid (And.intro hv (And.intro hr' (And.intro hB (And.intro hBn (And.intro hFn hMs)))));clear hv hr hr' hB hBn hFn hMs;gi_wp2_with (gi_at_call 146;refine(CallsIn.inRound l (callsIn_wide.2 (merge_c (fold (A++pre)) t hFl w.heap.size w.heap.size v W HALL.out.1 HALL.out.2.1 HALL.out.2.2.1.size (Nat.le_refl _)))).mono ?_;rintro e w3 ⟨⟨r,rfl⟩,⟨v3,hv3,hr3⟩,hm3⟩)
     obtain⟨hv,hr',hB,hBn,hFn,hMs⟩:=HALL.out;refine⟨hm3.others.from _,(hm3.fb _ _ _ (by decide) (by decide) hBn).trans hBn.symm,⟨⟨⟨⟨v3,hv3, ?_,trivial⟩,hB.trans hm3.below⟩,hm3.fb _ _ _ (by decide) (by decide) hBn⟩,hm3.fb _ _ _ (by decide) (by decide) hFn⟩,hMs.keeps hm3.others⟩;rw[←fold_snoc,List.append_assoc,fold_length,List.length_append]at hr3;rw[List.length_append,List.length_singleton,←Nat.add_assoc];exact hr3
    case done=>
     rintro D ys W hD rfl ⟨⟨⟨⟨⟨v,hv,hr,-⟩,hB⟩,-⟩,hFn⟩,hMs⟩ hK;rw[←List.length_append,←HAL.out]at hr;have hD':w0.heap.size+2≤D:=by simp at hD;omega
     gi_wp2
     refine ih _ _ ⟨k+1,v,_,_,_,_,_,_,_,_,_,_,_,_,_,_,_,_,_,_,_,D::rs,by omega,rfl, ?_,hv,hFn,hr,hB⟩;exact hMs.cons (W0:=w0) hMlt (by omega) (by omega) hK
    case stop=>
     rintro D c pre W _ _ h _;exact h.elim
   ·
    have q:(x.trip==trip)=false:=by rw[beq_eq_false_iff_ne];exact he
    have q':(x.trip != trip)=true:=by rw[bne,q];rfl
    have HAL:=Lib.hid (show allS (fs.take (k+1)) trip=allS (fs.take k) trip by rw[HT.out,allS_miss _ _ _ q]);clear he;rw[roundsIn_succ];gi_wp2
    refine ih _ _ ⟨k+1,vo,_,_,_,_,_,_,_,_,_,_,_,_,_,_,_,_,_,_,_,rs,by omega,rfl,hMk.keeps (KeepsOthers.alloc _ _),hBo.alloc _,hBf.alloc _,by rw[HAL.out];exact hrow.alloc _,bl_alloc hbl _⟩
 ·
  obtain⟨a1,c1,rfl,m1,rfl⟩:=ha.empty (by omega);refine callsIn_of_wp_marks Tryz.func133 rfl trivial ?_ rfl;simp only[Tryz.ntmps133,List.size_toArray,List.length_cons,List.length_nil,Nat.reduceAdd,Nat.reduceSub,Array.replicate_succ,Array.replicate_zero,List.push_toArray,List.append_toArray,List.nil_append,List.cons_append];have bF:=Boxed.new (w.alloc (.cells #[.slice none 0 0] 59)) 155 .nilFunc;rw[World.size_alloc]at bF;have hcF:=bF.cell;have hfF:=bF.frozen;have bO:Boxed ((w.alloc (.cells #[.slice none 0 0] 59)).alloc (.cells #[.func (.func 146) #[] #[.pointer (some ⟨w.heap.size,0,none⟩)]] 155)) w.heap.size 59 (.slice none 0 0):=(Boxed.new w 59 (.slice none 0 0)).alloc _;have cO:=bO.cell;gi_wp2
  refine wpIn_loop_rounds 1 ?_;rw[roundsIn_succ];gi_wp2
  exact⟨_,results_tmp rfl _ _ _,_,rfl,World.ownsRow_nil _ _ _ _,bl_alloc (bl_alloc (bl_refl _) _) _⟩
end Go.Proofs.YtncbcmiflffakaaGreat.Fq
