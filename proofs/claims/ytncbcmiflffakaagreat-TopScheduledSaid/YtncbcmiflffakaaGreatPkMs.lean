/-
  What the laws of top need of TopMs. Conditions: those of each lemma.
-/
import Derived.Test.YtncbcmiflffakaaGreatPkPlA
import Derived.Test.YtncbcmiflffakaaGreatPkCkB
import Derived.Laws.StructEq
set_option maxRecDepth 1000000
set_option maxHeartbeats 32000000
namespace Go.Proofs.YtncbcmiflffakaaGreat.Ms
open Go.RowKit
open Frq Tt
theorem callD_eq (x y:CallD):(x.stop==y.stop&&(x.arrive==y.arrive&&(x.depart==y.depart&&(x.board==y.board&&x.alight==y.alight))))=decide (x=y):=by
 obtain⟨a,b,c,d,e⟩:=x;obtain⟨a',b',c',d',e'⟩:=y;rw[Bool.eq_iff_iff];simp
theorem eqCall (x y:CallD) (w:World):(Op.equalIn 10000 68 (.agg #[.int .i64 x.stop, .int .i64 x.arrive, .int .i64 x.depart, .bool x.board, .bool x.alight]) (.agg #[.int .i64 y.stop, .int .i64 y.arrive, .int .i64 y.depart, .bool y.board, .bool y.alight])).run Tryz.prog w= .ok (decide (x=y)) w:=by
 have u3:=Tryz.underlying3;have a3:=Tryz.isAgg3;have z3:=Tryz.sizeOf3;have u4:=Tryz.underlying4;have a4:=Tryz.isAgg4;have z4:=Tryz.sizeOf4;have hS:Tryz.prog.underlying 68=some (.struct (Tryz.prog.fieldsOf 68)):=by kernel_rfl
 rw[show(10000:Nat)=9999+1 from rfl,run_equalIn_agg w 9999 68 _ _ hS (by kernel_rfl)];simp only[Program.fieldsOf,Tryz.underlying68];rw[←callD_eq];go_simp;by_cases h1:x.stop=y.stop<;>by_cases h2:x.arrive=y.arrive<;>by_cases h3:x.depart=y.depart<;>by_cases h4:x.board=y.board<;>by_cases h5:x.alight=y.alight<;>simp[h1,h2,h3,h4,h5]
theorem eqCalls_c (va vb:Value) (xs ys:List CallD) (r:Bool) (H:Hid (decide (xs=ys)=r)) (B:Nat) (w:World) (ha:CallsIn B w va xs) (hb:CallsIn B w vb ys) (hB:B≤w.heap.size):
  Calls Tryz.prog 148 #[va,vb] w fun e w'=>e= .returned (.bool r)∧Bl w w':=by
 by_cases hlen:xs.length=ys.length
 ·
  rcases Nat.eq_zero_or_pos xs.length with h0|h0
  ·
   obtain⟨a1,c1,rfl,m1,rfl⟩:=ha.empty h0;obtain⟨a2,c2,rfl,m2,rfl⟩:=hb.empty (by rw[←hlen];exact h0);have HF:=Lib.hid (show r=true by rw[←H.out];rfl);clear H;go_enter Tryz.func148,Tryz.ntmps148
   go_wp2_with fail;refine wp_loop_rounds 1 ?_;rw[rounds_succ];go_wp2;go_ret;exact⟨ret_bool HF.out.symm,bl_refl _⟩
  ·
   obtain⟨b1,o1,cap1,rfl,l1,m1,hb1,hc1⟩:=ha.open h0;obtain⟨b2,o2,cap2,rfl,l2,m2,hb2,hc2⟩:=hb.open (by omega);have H1:=Lib.hid hc1;have H2:=Lib.hid hc2;have q0:((xs.length:Int) != (ys.length:Int))=false:=by rw[hlen];simp
   clear ha hb hc1 hc2;go_enter Tryz.func148,Tryz.ntmps148
   go_wp2;go_loopw [14] (fun i wr=> ∃ k:Nat,k≤xs.length∧i= .int .i64 k∧Hid (xs.take k=ys.take k)∧Bl w wr) (fun i _=>xs.length-(intOf i).toNat)
   case atStart=>exact⟨0,Nat.zero_le _,rfl,by show _=_;rfl,bl_refl _⟩
   case round=>
    obtain⟨k,hk,rfl,HK,hbl⟩:=hrel;have hbz:=hbl.size;by_cases hlt:k<xs.length
    ·
     obtain⟨x,hx⟩: ∃ x,xs[k]? =some x:=⟨_,List.getElem?_eq_getElem hlt⟩;obtain⟨y,hy⟩: ∃ y,ys[k]? =some y:=⟨_,List.getElem?_eq_getElem (by omega)⟩;have c1: ∀ j u,(callCells x)[j]? =some u→wr.cell? ⟨b1,o1+k*5+j,none⟩=some u:=fun j u hu=>by rw[(bl_cell hbl).1 _ _ (by omega)];exact H1.out k x hx j u hu
     have c2: ∀ j u,(callCells y)[j]? =some u→wr.cell? ⟨b2,o2+k*5+j,none⟩=some u:=fun j u hu=>by rw[(bl_cell hbl).1 _ _ (by omega)];exact H2.out k y hy j u hu
     have d10:wr.cell? ⟨b1,o1+k*5,none⟩=some (.int .i64 x.stop):=c1 0 _ rfl;have d11:=c1 1 _ rfl;have d12:=c1 2 _ rfl;have d13:=c1 3 _ rfl;have d14:=c1 4 _ rfl;have d20:wr.cell? ⟨b2,o2+k*5,none⟩=some (.int .i64 y.stop):=c2 0 _ rfl;have d21:=c2 1 _ rfl;have d22:=c2 2 _ rfl;have d23:=c2 3 _ rfl;have d24:=c2 4 _ rfl;have i1:(k:Int)<(xs.length:Int):=by omega
     have i2:(k:Int)<(ys.length:Int):=by omega
     have i3:b1<wr.heap.size:=by omega
     have i4:b2<wr.heap.size:=by omega
     clear c1 c2;by_cases hxy:x=y
     ·
      subst hxy;have HN:=Lib.hid (show xs.take (k+1)=ys.take (k+1) by
       obtain⟨p1,p2⟩:=List.getElem?_eq_some_iff.1 hx;obtain⟨p3,p4⟩:=List.getElem?_eq_some_iff.1 hy;rw[List.take_succ_eq_append_getElem p1,List.take_succ_eq_append_getElem p3,p2,p4,HK.out])
      have hq:=eqCall x x;rw[decide_eq_true rfl]at hq;clear hx hy;go_wp2_with fail;go_quiet (fail)
      go_wp2;go_roundw;case rel=>exact⟨k+1,by omega,by go_num,HN,bl_drewN (bl_alloc hbl _) _⟩
      case measure=>simp[intOf];omega
     ·
      have HF:=Lib.hid (show r=false by
       rw[←H.out];refine decide_eq_false fun h=>hxy ?_
       rw[h,hy]at hx;exact(Option.some.inj hx).symm)
      clear hx hy;have hq:=eqCall x y;rw[decide_eq_false hxy]at hq;go_wp2_with fail;go_quiet (fail)
      go_wp2;go_ret;exact⟨ret_bool HF.out.symm,bl_drewN (bl_alloc hbl _) _⟩
    ·
     have HF:=Lib.hid (show r=true by
      rw[←H.out];refine decide_eq_true ?_;have:=HK.out;rw[List.take_of_length_le (by omega),List.take_of_length_le (by omega)]at this;exact this)
     go_wp2;go_ret;exact⟨ret_bool HF.out.symm,hbl⟩
 ·
  have HF:=Lib.hid (show r=false by rw[←H.out];exact decide_eq_false fun h=>hlen (by rw[h]));have q0:((xs.length:Int) != (ys.length:Int))=true:=by rw[bne_iff_ne];omega
  obtain⟨a1,c1,rfl,-⟩:=ha;obtain⟨a2,c2,rfl,-⟩:=hb;go_enter Tryz.func148,Tryz.ntmps148
  go_wp2;go_ret;exact⟨ret_bool HF.out.symm,bl_refl _⟩
abbrev msgV (m:MsgD) (v:Value):Value:= .agg #[.int .i64 m.src, .int .i64 m.seq, .int .i64 m.iss, .int .i64 m.exp, .int .i64 m.kind,str m.trip, .int .i64 m.day, .int .i64 m.inst, .int .i64 m.call, .int .i64 m.secs, .int .i64 m.route, .bool m.step,v]
abbrev usesV (k:Int):Value:= .agg #[.bool (uCall k), .bool (uSecs k), .bool (uRoute k), .bool (uRoute k), .bool (uCalls k)]
theorem within_c (n lo hi:Int) (w:World):
  Calls Tryz.prog 103 #[.int .i64 n, .int .i64 lo, .int .i64 hi] w fun e w'=>e= .returned (.bool (!outside n lo hi))∧w=w':=by
 go_enter Tryz.func103,Tryz.ntmps103
 go_wp2;all_goals
  go_ret;refine⟨ret_bool ?_,rfl⟩;unfold outside;rw[Bool.eq_iff_iff];simp
  omega
theorem used_c (k:Int) (w:World):
  Calls Tryz.prog 105 #[.int .i64 k] w fun e w'=>e= .returned (usesV k)∧Bl w w':=by
 by_cases h1:k=1
 ·
  subst h1;go_enter Tryz.func105,Tryz.ntmps105
  go_wp2;refine bodyPost_ret (results_cell_row rfl _ _ w.heap.size 192 _ (0,0) _ rfl (heap_alloc_new w _) Tryz.underlying192 rfl (by kernel_rfl)) rfl ?_;exact⟨rfl,bl_alloc (bl_refl _) _⟩
 by_cases h3:k=3
 ·
  subst h3;go_enter Tryz.func105,Tryz.ntmps105
  go_wp2;refine bodyPost_ret (results_cell_row rfl _ _ w.heap.size 192 _ (0,0) _ rfl (heap_alloc_new w _) Tryz.underlying192 rfl (by kernel_rfl)) rfl ?_;exact⟨rfl,bl_alloc (bl_refl _) _⟩
 by_cases h4:k=4
 ·
  subst h4;go_enter Tryz.func105,Tryz.ntmps105
  go_wp2;refine bodyPost_ret (results_cell_row rfl _ _ w.heap.size 192 _ (0,0) _ rfl (heap_alloc_new w _) Tryz.underlying192 rfl (by kernel_rfl)) rfl ?_;exact⟨rfl,bl_alloc (bl_refl _) _⟩
 by_cases h5:k=5
 ·
  subst h5;go_enter Tryz.func105,Tryz.ntmps105
  go_wp2;refine bodyPost_ret (results_cell_row rfl _ _ w.heap.size 192 _ (0,0) _ rfl (heap_alloc_new w _) Tryz.underlying192 rfl (by kernel_rfl)) rfl ?_;exact⟨rfl,bl_alloc (bl_refl _) _⟩
 have e1:(k==1)=false:=by rw[beq_eq_false_iff_ne];exact h1
 have e3:(k==3)=false:=by rw[beq_eq_false_iff_ne];exact h3
 have e4:(k==4)=false:=by rw[beq_eq_false_iff_ne];exact h4
 have e5:(k==5)=false:=by rw[beq_eq_false_iff_ne];exact h5
 go_enter Tryz.func105,Tryz.ntmps105
 go_wp2;refine bodyPost_ret (results_cell_row rfl _ _ w.heap.size 192 _ (0,0) _ rfl (heap_alloc_new w _) Tryz.underlying192 rfl (by kernel_rfl)) rfl ?_;exact⟨by simp[uCall,uSecs,uRoute,uCalls,e1,e3,e4,e5],bl_alloc (bl_refl _) _⟩
theorem kind_none (m:MsgD) (v:Value) (h1:uCall m.kind=false) (h2:uSecs m.kind=false) (h3:uRoute m.kind=false) (h4:uCalls m.kind=false) (B:Nat) (w:World) (hv:CallsIn B w v m.calls):
  Calls Tryz.prog 104 #[msgV m v, .agg #[.bool false, .bool false, .bool false, .bool false, .bool false]] w fun e w'=>e= .returned (.int .i64 (kindErr m))∧Bl w w':=by
 obtain⟨a,cap,rfl,l1,l2,l3⟩:=hv;clear l3;go_enter Tryz.func104,Tryz.ntmps104
 go_wp2_with fail;all_goals
  go_ret;refine⟨ret_int ?_,bl_alloc (bl_alloc (bl_refl _) _) _⟩;unfold kindErr;simp[*]
 all_goals first
  |(intro hz;simp_all)
  |(apply List.length_eq_zero_iff.1;omega)
theorem kind_skip (m:MsgD) (v:Value) (h1:uCall m.kind=true) (h2:uSecs m.kind=false) (h3:uRoute m.kind=false) (h4:uCalls m.kind=false) (B:Nat) (w:World) (hv:CallsIn B w v m.calls):
  Calls Tryz.prog 104 #[msgV m v, .agg #[.bool true, .bool false, .bool false, .bool false, .bool false]] w fun e w'=>e= .returned (.int .i64 (kindErr m))∧Bl w w':=by
 obtain⟨a,cap,rfl,l1,l2,l3⟩:=hv;clear l3;obtain⟨b,hb⟩: ∃ b,outside m.call 0 31=b:=⟨_,rfl⟩;have HB:=Lib.hid hb;have hw:=within_c m.call 0 31;rw[hb]at hw;clear hb;go_enter Tryz.func104,Tryz.ntmps104
 cases b
 all_goals
  go_wp2_with (go_at_call 103;refine(hw _).mono ?_;rintro e w' ⟨rfl,rfl⟩)
  all_goals
   go_ret;refine⟨ret_int ?_,bl_alloc (bl_alloc (bl_refl _) _) _⟩;have hb:=HB.out;unfold kindErr;simp[*]
 all_goals first
  |(intro hz;simp_all)
  |(apply List.length_eq_zero_iff.1;omega)
theorem kind_delay (m:MsgD) (v:Value) (h1:uCall m.kind=true) (h2:uSecs m.kind=true) (h3:uRoute m.kind=false) (h4:uCalls m.kind=false) (B:Nat) (w:World) (hv:CallsIn B w v m.calls):
  Calls Tryz.prog 104 #[msgV m v, .agg #[.bool true, .bool true, .bool false, .bool false, .bool false]] w fun e w'=>e= .returned (.int .i64 (kindErr m))∧Bl w w':=by
 obtain⟨a,cap,rfl,l1,l2,l3⟩:=hv;clear l3;obtain⟨b,hb⟩: ∃ b,outside m.call 0 31=b:=⟨_,rfl⟩;obtain⟨c,hc⟩: ∃ c,outside m.secs (-43200) 43200=c:=⟨_,rfl⟩;go_enter Tryz.func104,Tryz.ntmps104
 cases b<;>cases c
 all_goals
  go_wp2_with (go_at_call 103;refine(within_c _ _ _ _).mono ?_;rintro e w' ⟨rfl,rfl⟩)
  all_goals
   go_ret;refine⟨ret_int ?_,bl_alloc (bl_alloc (bl_refl _) _) _⟩;unfold kindErr;simp[*]
 all_goals first
  |(intro hz;simp_all)
  |(apply List.length_eq_zero_iff.1;omega)
structure KindAt (g:Nat) (m:MsgD) (v:Value) (b1 b2 b3 b4 b5:Bool) (w:World):Prop where
 c8:w.cell? ⟨g,8,none⟩=some (.int .i64 m.call)
 c9:w.cell? ⟨g,9,none⟩=some (.int .i64 m.secs)
 c10:w.cell? ⟨g,10,none⟩=some (.int .i64 m.route)
 c11:w.cell? ⟨g,11,none⟩=some (.bool m.step)
 c12:w.cell? ⟨g,12,none⟩=some v
 d0:w.cell? ⟨g+1,0,none⟩=some (.bool b1)
 d1:w.cell? ⟨g+1,1,none⟩=some (.bool b2)
 d2:w.cell? ⟨g+1,2,none⟩=some (.bool b3)
 d3:w.cell? ⟨g+1,3,none⟩=some (.bool b4)
 d4:w.cell? ⟨g+1,4,none⟩=some (.bool b5)
theorem kindAt_new (m:MsgD) (v:Value) (b1 b2 b3 b4 b5:Bool) (w:World):KindAt w.heap.size m v b1 b2 b3 b4 b5
  ((w.alloc (.cells #[.int .i64 m.src, .int .i64 m.seq, .int .i64 m.iss, .int .i64 m.exp, .int .i64 m.kind,str m.trip, .int .i64 m.day, .int .i64 m.inst, .int .i64 m.call, .int .i64 m.secs, .int .i64 m.route, .bool m.step,v] 48)).alloc
   (.cells #[.bool b1, .bool b2, .bool b3, .bool b4, .bool b5] 192)):=by
 constructor<;>simp
theorem KindAt.next {g:Nat} {m:MsgD} {v:Value} {b1 b2 b3 b4 b5:Bool} {w w':World} (h:KindAt g m v b1 b2 b3 b4 b5 w) (hb:Bl w w') (hg:g+1<w.heap.size):KindAt g m v b1 b2 b3 b4 b5 w':=by
 obtain⟨h1,h2,h3,h4,h5,h6,h7,h8,h9,h10⟩:=h;refine⟨?_, ?_, ?_, ?_, ?_, ?_, ?_, ?_, ?_, ?_⟩;all_goals
  rw[(bl_cell hb).1 _ _ (by omega)];assumption
theorem kind_reroute (m:MsgD) (v:Value) (h1:uCall m.kind=false) (h2:uSecs m.kind=false) (h3:uRoute m.kind=false) (h4:uCalls m.kind=true) (B:Nat) (w:World) (hv:CallsIn B w v m.calls) (hB:B≤w.heap.size):
  Calls Tryz.prog 104 #[msgV m v, .agg #[.bool false, .bool false, .bool false, .bool false, .bool true]] w fun e w'=>e= .returned (.int .i64 (kindErr m))∧Bl w w':=by
 have HV:=Lib.hid hv;obtain⟨a,cap,rfl,l1,l2,l3⟩:=hv;clear l3;obtain⟨ce,hce⟩: ∃ ce,callsErr 64 0 3155932800 m.calls=ce:=⟨_,rfl⟩;have HC:=Lib.hid hce;go_enter Tryz.func104,Tryz.ntmps104
 go_wp2_with fail;have hk:=kindAt_new m (.slice a m.calls.length cap) false false false false true w;have hbl:Bl w ((w.alloc (.cells #[.int .i64 m.src, .int .i64 m.seq, .int .i64 m.iss, .int .i64 m.exp, .int .i64 m.kind,str m.trip, .int .i64 m.day, .int .i64 m.inst, .int .i64 m.call, .int .i64 m.secs, .int .i64 m.route, .bool m.step, .slice a m.calls.length cap] 48)).alloc
   (.cells #[.bool false, .bool false, .bool false, .bool false, .bool true] 192)):=bl_alloc (bl_alloc (bl_refl _) _) _
 have hsz:w.heap.size+2≤((w.alloc (.cells #[.int .i64 m.src, .int .i64 m.seq, .int .i64 m.iss, .int .i64 m.exp, .int .i64 m.kind,str m.trip, .int .i64 m.day, .int .i64 m.inst, .int .i64 m.call, .int .i64 m.secs, .int .i64 m.route, .bool m.step, .slice a m.calls.length cap] 48)).alloc
   (.cells #[.bool false, .bool false, .bool false, .bool false, .bool true] 192)).heap.size:=by simp
 generalize ((w.alloc (.cells #[.int .i64 m.src, .int .i64 m.seq, .int .i64 m.iss, .int .i64 m.exp, .int .i64 m.kind,str m.trip, .int .i64 m.day, .int .i64 m.inst, .int .i64 m.call, .int .i64 m.secs, .int .i64 m.route, .bool m.step, .slice a m.calls.length cap] 48)).alloc
   (.cells #[.bool false, .bool false, .bool false, .bool false, .bool true] 192))=w2 at hk hbl hsz
 refine(calls_c _ m.calls 64 0 3155932800 ce HC B w2 (HV.out.below (hbl.mono hB)) (by omega)).mono ?_;rintro e w3 ⟨⟨i,rfl⟩,b3⟩;have B3:=bl_next hbl b3;obtain⟨c8,c9,c10,c11,c12,d0,d1,d2,d3,d4⟩:=hk.next b3 (by omega);clear hk hbl hsz b3;by_cases h0:ce=0
 ·
  subst h0;go_wp2;all_goals
   go_ret;refine⟨ret_int ?_,B3⟩;unfold kindErr;simp[*]
 ·
  have g0:(ce != 0)=true:=by rw[bne_iff_ne];exact h0
  go_wp2;go_ret;refine⟨ret_int ?_,B3⟩;unfold kindErr;simp[*]
theorem kind_add (m:MsgD) (v:Value) (h1:uCall m.kind=false) (h2:uSecs m.kind=false) (h3:uRoute m.kind=true) (h4:uCalls m.kind=true) (B:Nat) (w:World) (hv:CallsIn B w v m.calls) (hB:B≤w.heap.size):
  Calls Tryz.prog 104 #[msgV m v, .agg #[.bool false, .bool false, .bool true, .bool true, .bool true]] w fun e w'=>e= .returned (.int .i64 (kindErr m))∧Bl w w':=by
 have HV:=Lib.hid hv;obtain⟨a,cap,rfl,l1,l2,l3⟩:=hv;clear l3;obtain⟨ce,hce⟩: ∃ ce,callsErr 64 0 3155932800 m.calls=ce:=⟨_,rfl⟩;have HC:=Lib.hid hce;go_enter Tryz.func104,Tryz.ntmps104
 obtain⟨b,hb⟩: ∃ b,outside m.route 0 63=b:=⟨_,rfl⟩;cases b with
 |true=>
  go_wp2_with (go_at_call 103;refine(within_c _ _ _ _).mono ?_;rintro e w' ⟨rfl,rfl⟩)
  all_goals
   go_ret;refine⟨ret_int ?_,bl_alloc (bl_alloc (bl_refl _) _) _⟩;unfold kindErr;simp[*]
 |false=>
 go_wp2_with (go_at_call 103;refine(within_c _ _ _ _).mono ?_;rintro e w' ⟨rfl,rfl⟩)
 have hk:=kindAt_new m (.slice a m.calls.length cap) false false true true true w;have hbl:Bl w ((w.alloc (.cells #[.int .i64 m.src, .int .i64 m.seq, .int .i64 m.iss, .int .i64 m.exp, .int .i64 m.kind,str m.trip, .int .i64 m.day, .int .i64 m.inst, .int .i64 m.call, .int .i64 m.secs, .int .i64 m.route, .bool m.step, .slice a m.calls.length cap] 48)).alloc
   (.cells #[.bool false, .bool false, .bool true, .bool true, .bool true] 192)):=bl_alloc (bl_alloc (bl_refl _) _) _
 have hsz:w.heap.size+2≤((w.alloc (.cells #[.int .i64 m.src, .int .i64 m.seq, .int .i64 m.iss, .int .i64 m.exp, .int .i64 m.kind,str m.trip, .int .i64 m.day, .int .i64 m.inst, .int .i64 m.call, .int .i64 m.secs, .int .i64 m.route, .bool m.step, .slice a m.calls.length cap] 48)).alloc
   (.cells #[.bool false, .bool false, .bool true, .bool true, .bool true] 192)).heap.size:=by simp
 generalize ((w.alloc (.cells #[.int .i64 m.src, .int .i64 m.seq, .int .i64 m.iss, .int .i64 m.exp, .int .i64 m.kind,str m.trip, .int .i64 m.day, .int .i64 m.inst, .int .i64 m.call, .int .i64 m.secs, .int .i64 m.route, .bool m.step, .slice a m.calls.length cap] 48)).alloc
   (.cells #[.bool false, .bool false, .bool true, .bool true, .bool true] 192))=w2 at hk hbl hsz
 refine(calls_c _ m.calls 64 0 3155932800 ce HC B w2 (HV.out.below (hbl.mono hB)) (by omega)).mono ?_;rintro e w3 ⟨⟨i,rfl⟩,b3⟩;have B3:=bl_next hbl b3;obtain⟨c8,c9,c10,c11,c12,d0,d1,d2,d3,d4⟩:=hk.next b3 (by omega);clear hk hbl hsz b3;by_cases h0:ce=0
 ·
  subst h0;go_wp2;all_goals
   go_ret;refine⟨ret_int ?_,B3⟩;unfold kindErr;simp[*]
 ·
  have g0:(ce != 0)=true:=by rw[bne_iff_ne];exact h0
  go_wp2;go_ret;refine⟨ret_int ?_,B3⟩;unfold kindErr;simp[*]
theorem checkKind_c (m:MsgD) (v:Value) (B:Nat) (w:World) (hv:CallsIn B w v m.calls) (hB:B≤w.heap.size):
  Calls Tryz.prog 104 #[msgV m v,usesV m.kind] w fun e w'=>e= .returned (.int .i64 (kindErr m))∧Bl w w':=by
 have go: ∀ a b c d,uCall m.kind=a→uSecs m.kind=b→uRoute m.kind=c→uCalls m.kind=d→
   usesV m.kind= .agg #[.bool a, .bool b, .bool c, .bool c, .bool d]:=fun a b c d h1 h2 h3 h4=>by rw[←h1,←h2,←h3,←h4]
 by_cases k1:m.kind=1
 ·
  have h1:uCall m.kind=true:=by rw[k1];rfl
  have h2:uSecs m.kind=true:=by rw[k1];rfl
  have h3:uRoute m.kind=false:=by rw[k1];rfl
  have h4:uCalls m.kind=false:=by rw[k1];rfl
  rw[go _ _ _ _ h1 h2 h3 h4];exact kind_delay m v h1 h2 h3 h4 B w hv
 by_cases k3:m.kind=3
 ·
  have h1:uCall m.kind=true:=by rw[k3];rfl
  have h2:uSecs m.kind=false:=by rw[k3];rfl
  have h3:uRoute m.kind=false:=by rw[k3];rfl
  have h4:uCalls m.kind=false:=by rw[k3];rfl
  rw[go _ _ _ _ h1 h2 h3 h4];exact kind_skip m v h1 h2 h3 h4 B w hv
 by_cases k4:m.kind=4
 ·
  have h1:uCall m.kind=false:=by rw[k4];rfl
  have h2:uSecs m.kind=false:=by rw[k4];rfl
  have h3:uRoute m.kind=false:=by rw[k4];rfl
  have h4:uCalls m.kind=true:=by rw[k4];rfl
  rw[go _ _ _ _ h1 h2 h3 h4];exact kind_reroute m v h1 h2 h3 h4 B w hv hB
 by_cases k5:m.kind=5
 ·
  have h1:uCall m.kind=false:=by rw[k5];rfl
  have h2:uSecs m.kind=false:=by rw[k5];rfl
  have h3:uRoute m.kind=true:=by rw[k5];rfl
  have h4:uCalls m.kind=true:=by rw[k5];rfl
  rw[go _ _ _ _ h1 h2 h3 h4];exact kind_add m v h1 h2 h3 h4 B w hv hB
 have h1:uCall m.kind=false:=by simp[uCall,k1,k3]
 have h2:uSecs m.kind=false:=by simp[uSecs,k1]
 have h3:uRoute m.kind=false:=by simp[uRoute,k5]
 have h4:uCalls m.kind=false:=by simp[uCalls,k4,k5]
 rw[go _ _ _ _ h1 h2 h3 h4];exact kind_none m v h1 h2 h3 h4 B w hv
def msgCells (m:MsgD) (v:Value):Array Value:= #[.int .i64 m.src, .int .i64 m.seq, .int .i64 m.iss, .int .i64 m.exp, .int .i64 m.kind,str m.trip, .int .i64 m.day, .int .i64 m.inst, .int .i64 m.call, .int .i64 m.secs, .int .i64 m.route, .bool m.step,v]
def MsgAt (g o:Nat) (m:MsgD) (v:Value) (w:World):Prop:= ∀ (j:Nat) (u:Value),(msgCells m v)[j]? =some u→w.cell? ⟨g,o+j,none⟩=some u
theorem MsgAt.next {g o:Nat} {m:MsgD} {v:Value} {w w':World} (h:MsgAt g o m v w) (hb:Bl w w') (hg:g<w.heap.size):MsgAt g o m v w':=fun j u hu=>by
 rw[(bl_cell hb).1 _ _ hg];exact h j u hu
theorem msgAt_new (m:MsgD) (v:Value) (w:World):MsgAt w.heap.size 0 m v (w.alloc (.cells (msgCells m v) 48)):=fun j u hu=>by
 rw[Nat.zero_add,World.cell?_alloc_at (hn:=rfl)];exact hu
theorem valid_day (d:Int):Da.dvalid d= !outside d 0 36524:=by
 unfold Da.dvalid outside;rw[Bool.eq_iff_iff];simp
theorem check_c (m:MsgD) (v:Value) (r:Int) (H:Hid (checkM m=r)) (ht:m.trip.length≤9223372036854775807) (B:Nat) (w:World) (hv:CallsIn B w v m.calls) (hB:B≤w.heap.size):
  Calls Tryz.prog 70 #[msgV m v] w fun e w'=>e= .returned (.int .i64 r)∧Bl w w':=by
 have hid:=fun w=>ident_c ⟨m.trip.toArray⟩ (by show m.trip.toArray.size≤_;rw[List.size_toArray];unfold maxLen;omega) (nameB m.trip) rfl w
 have hday:=fun w=>Da.dValid_b m.day (!outside m.day 0 36524) (valid_day _) w
 go_enter Tryz.func70,Tryz.ntmps70
 go_wp2_with (first
  |(go_at_call 103;refine(within_c _ _ _ _).mono ?_;rintro e w' ⟨rfl,rfl⟩)
  |(go_at_call 49;refine(hid _).mono ?_;rintro e w' ⟨rfl,rfl⟩)
  |(go_at_call 51;refine(hday _).mono ?_;rintro e w' ⟨rfl,rfl⟩))
 any_goals
  go_ret;refine⟨ret_int ?_,bl_alloc (bl_refl _) _⟩;rw[←H.out];unfold checkM;simp[*]
  try repeat' split
  all_goals first
   |rfl
   |omega
   |(simp_all;done)
 have hm:=msgAt_new m v w;have hbl:Bl w (w.alloc (.cells (msgCells m v) 48)):=bl_alloc (bl_refl _) _;have hsz:w.heap.size<(w.alloc (.cells (msgCells m v) 48)).heap.size:=by simp
 change Code.wp _ _ _ _ (w.alloc (.cells (msgCells m v) 48));generalize w.alloc (.cells (msgCells m v) 48)=w1 at hm hbl hsz
 have hk:checkM m=kindErr m:=by
  unfold checkM;simp[*]
  try repeat' split
  all_goals first
   |rfl
   |omega
   |(simp_all;done)
 have hold: ∀ w',Bl w1 w'→(w'.cell? ⟨w.heap.size,0,none⟩=some (.int .i64 m.src)∧w'.cell? ⟨w.heap.size,1,none⟩=some (.int .i64 m.seq)∧w'.cell? ⟨w.heap.size,2,none⟩=some (.int .i64 m.iss)∧w'.cell? ⟨w.heap.size,3,none⟩=some (.int .i64 m.exp)∧w'.cell? ⟨w.heap.size,4,none⟩=some (.int .i64 m.kind)∧w'.cell? ⟨w.heap.size,5,none⟩=some (str m.trip)∧w'.cell? ⟨w.heap.size,6,none⟩=some (.int .i64 m.day)∧w'.cell? ⟨w.heap.size,7,none⟩=some (.int .i64 m.inst)∧w'.cell? ⟨w.heap.size,8,none⟩=some (.int .i64 m.call)∧w'.cell? ⟨w.heap.size,9,none⟩=some (.int .i64 m.secs)∧w'.cell? ⟨w.heap.size,10,none⟩=some (.int .i64 m.route)∧w'.cell? ⟨w.heap.size,11,none⟩=some (.bool m.step)∧w'.cell? ⟨w.heap.size,12,none⟩=some v):=fun w' hb=>by
  have h:=hm.next hb hsz;unfold MsgAt at h;simp only[Nat.zero_add]at h;exact⟨h 0 _ rfl,h 1 _ rfl,h 2 _ rfl,h 3 _ rfl,h 4 _ rfl,h 5 _ rfl,h 6 _ rfl,h 7 _ rfl,h 8 _ rfl,h 9 _ rfl,h 10 _ rfl,h 11 _ rfl,h 12 _ rfl⟩
 have HV:=Lib.hid hv;first
 |go_region_held3 (fun w'=>w'.cell? ⟨w.heap.size,0,none⟩=some (.int .i64 m.src)∧w'.cell? ⟨w.heap.size,1,none⟩=some (.int .i64 m.seq)∧w'.cell? ⟨w.heap.size,2,none⟩=some (.int .i64 m.iss)∧w'.cell? ⟨w.heap.size,3,none⟩=some (.int .i64 m.exp)∧w'.cell? ⟨w.heap.size,4,none⟩=some (.int .i64 m.kind)∧w'.cell? ⟨w.heap.size,5,none⟩=some (str m.trip)∧w'.cell? ⟨w.heap.size,6,none⟩=some (.int .i64 m.day)∧w'.cell? ⟨w.heap.size,7,none⟩=some (.int .i64 m.inst)∧w'.cell? ⟨w.heap.size,8,none⟩=some (.int .i64 m.call)∧w'.cell? ⟨w.heap.size,9,none⟩=some (.int .i64 m.secs)∧w'.cell? ⟨w.heap.size,10,none⟩=some (.int .i64 m.route)∧w'.cell? ⟨w.heap.size,11,none⟩=some (.bool m.step)∧w'.cell? ⟨w.heap.size,12,none⟩=some v)
   (first|exact hold _ (bl_drew (bl_refl _))|exact hold _ (bl_next (bl_drew (bl_refl _)) b3)|exact hold _ (bl_next (bl_next (bl_drew (bl_refl _)) b3) b4))
   (first
    |(go_at_call 105;refine(used_c m.kind _).mono ?_;rintro e w3 ⟨rfl,b3⟩)
    |(go_at_call 104;refine(checkKind_c m v B _ (HV.out.below ((bl_next hbl (bl_next (bl_drew (bl_refl _)) b3)).mono hB)) (by have:=b3.size;simp at this;omega)).mono ?_;rintro e w4 ⟨rfl,b4⟩))
 |fail
 all_goals
  go_wp2;go_ret;exact⟨ret_int (by rw[←H.out,hk]),bl_next hbl (bl_next (bl_next (bl_drew (bl_refl _)) b3) b4)⟩
theorem MsgAt.all {g:Nat} {m:MsgD} {v:Value} {w:World} (h:MsgAt g 0 m v w):(w.cell? ⟨g,0,none⟩=some (.int .i64 m.src)∧w.cell? ⟨g,1,none⟩=some (.int .i64 m.seq)∧w.cell? ⟨g,2,none⟩=some (.int .i64 m.iss)∧w.cell? ⟨g,3,none⟩=some (.int .i64 m.exp)∧w.cell? ⟨g,4,none⟩=some (.int .i64 m.kind)∧w.cell? ⟨g,5,none⟩=some (str m.trip)∧w.cell? ⟨g,6,none⟩=some (.int .i64 m.day)∧w.cell? ⟨g,7,none⟩=some (.int .i64 m.inst)∧w.cell? ⟨g,8,none⟩=some (.int .i64 m.call)∧w.cell? ⟨g,9,none⟩=some (.int .i64 m.secs)∧w.cell? ⟨g,10,none⟩=some (.int .i64 m.route)∧w.cell? ⟨g,11,none⟩=some (.bool m.step)∧w.cell? ⟨g,12,none⟩=some v):=by
 unfold MsgAt at h;simp only[Nat.zero_add]at h;exact⟨h 0 _ rfl,h 1 _ rfl,h 2 _ rfl,h 3 _ rfl,h 4 _ rfl,h 5 _ rfl,h 6 _ rfl,h 7 _ rfl,h 8 _ rfl,h 9 _ rfl,h 10 _ rfl,h 11 _ rfl,h 12 _ rfl⟩
theorem same_c (a b:MsgD) (va vb:Value) (r:Bool) (H:Hid (sameT a b=r)) (w:World):
  Calls Tryz.prog 74 #[msgV a va,msgV b vb] w fun q w'=>q= .returned (.bool r)∧Bl w w':=by
 go_enter Tryz.func74,Tryz.ntmps74
 go_wp2;all_goals
  go_ret;refine⟨ret_bool ?_,bl_alloc (bl_alloc (bl_refl _) _) _⟩;rw[←H.out];unfold sameT;simp_all
theorem status_c (k:Int) (w:World):
  Calls Tryz.prog 97 #[.int .i64 k] w fun q w'=>q= .returned (.bool (statB k))∧w=w':=by
 go_enter Tryz.func97,Tryz.ntmps97
 go_wp2;all_goals
  go_ret;refine⟨ret_bool ?_,rfl⟩;unfold statB;simp_all
theorem two_boxes (a b:MsgD) (va vb:Value) (w w':World) (hb:Bl ((w.alloc (.cells (msgCells a va) 48)).alloc (.cells (msgCells b vb) 48)) w'):MsgAt w.heap.size 0 a va w'∧MsgAt (w.heap.size+1) 0 b vb w':=by
 have h1:=(msgAt_new a va w).next (bl_alloc (bl_refl _) (.cells (msgCells b vb) 48)) (by simp);have h2:=msgAt_new b vb (w.alloc (.cells (msgCells a va) 48));refine⟨h1.next hb (by simp;omega), ?_⟩;have h3:=h2.next hb (by simp);simpa using h3
theorem super_c (a b:MsgD) (va vb:Value) (r:Bool) (H:Hid (superB a b=r)) (w:World):
  Calls Tryz.prog 65 #[msgV a va,msgV b vb] w fun q w'=>q= .returned (.bool r)∧Bl w w':=by
 obtain⟨rs,HS⟩: ∃ rs,Hid (sameT a b=rs):=⟨_,rfl⟩;obtain⟨rk,HK⟩: ∃ rk,Hid (statB a.kind=rk):=⟨_,rfl⟩;have hk:=fun w=>status_c a.kind w
 rw[HK.out]at hk;have facts:superB a b=(a.src==b.src&&(rs&&(decide (b.seq<a.seq)&&(rk||(a.kind==b.kind&&a.call==b.call))))):=by rw[←HS.out,←HK.out];rfl
 rw[facts]at H;clear facts;cases h1:(a.src==b.src)with
 |false=>
  have HF:=Lib.hid (show false=r by rw[←H.out,h1];rfl);clear H;go_enter Tryz.func65,Tryz.ntmps65
  go_wp2;go_ret;exact⟨ret_bool HF.out,bl_alloc (bl_alloc (bl_refl _) _) _⟩
 |true=>
 rw[h1,Bool.true_and]at H;cases rs with
 |false=>
  have HF:=Lib.hid (show false=r by rw[←H.out];rfl);clear H;go_enter Tryz.func65,Tryz.ntmps65
  go_wp2_with (go_at_call 74;refine(same_c a b va vb _ HS _).mono ?_)
  rintro e w2 ⟨rfl,b2⟩;have B2:=Lib.hid (bl_next (bl_alloc (bl_alloc (bl_refl _) _) _) b2);clear b2;go_wp2;go_ret;exact⟨ret_bool HF.out,B2.out⟩
 |true=>
 rw[Bool.true_and]at H;by_cases h2:b.seq<a.seq
 ·
  rw[decide_eq_true h2,Bool.true_and]at H;cases rk with
  |true=>
   have HF:=Lib.hid (show true=r by rw[←H.out];rfl);clear H;go_enter Tryz.func65,Tryz.ntmps65
   go_wp2_with (go_at_call 74;refine(same_c a b va vb _ HS _).mono ?_)
   rintro e w2 ⟨rfl,b2⟩;obtain⟨⟨-,c1,-,-,c4,-,-,-,c8,-⟩,⟨-,d1,-,-,d4,-,-,-,d8,-⟩⟩:=(two_boxes a b va vb w w2 b2).imp MsgAt.all MsgAt.all;have B2:=Lib.hid (bl_next (bl_alloc (bl_alloc (bl_refl _) _) _) b2);clear b2;go_wp2_with (go_at_call 97;refine(hk _).mono ?_)
   rintro e w3 ⟨rfl,rfl⟩;go_wp2;go_ret;exact⟨ret_bool HF.out,B2.out⟩
  |false=>
   rw[Bool.false_or]at H;cases h3:(a.kind==b.kind)with
   |false=>
    have HF:=Lib.hid (show false=r by rw[←H.out,h3];rfl);clear H;go_enter Tryz.func65,Tryz.ntmps65
    go_wp2_with (go_at_call 74;refine(same_c a b va vb _ HS _).mono ?_)
    rintro e w2 ⟨rfl,b2⟩;obtain⟨⟨-,c1,-,-,c4,-,-,-,c8,-⟩,⟨-,d1,-,-,d4,-,-,-,d8,-⟩⟩:=(two_boxes a b va vb w w2 b2).imp MsgAt.all MsgAt.all;have B2:=Lib.hid (bl_next (bl_alloc (bl_alloc (bl_refl _) _) _) b2);clear b2;go_wp2_with (go_at_call 97;refine(hk _).mono ?_)
    rintro e w3 ⟨rfl,rfl⟩;go_wp2;go_ret;exact⟨ret_bool HF.out,B2.out⟩
   |true=>
    rw[h3,Bool.true_and]at H;go_enter Tryz.func65,Tryz.ntmps65
    go_wp2_with (go_at_call 74;refine(same_c a b va vb _ HS _).mono ?_)
    rintro e w2 ⟨rfl,b2⟩;obtain⟨⟨-,c1,-,-,c4,-,-,-,c8,-⟩,⟨-,d1,-,-,d4,-,-,-,d8,-⟩⟩:=(two_boxes a b va vb w w2 b2).imp MsgAt.all MsgAt.all;have B2:=Lib.hid (bl_next (bl_alloc (bl_alloc (bl_refl _) _) _) b2);clear b2;go_wp2_with (go_at_call 97;refine(hk _).mono ?_)
    rintro e w3 ⟨rfl,rfl⟩;go_wp2;go_ret;exact⟨ret_bool H.out,B2.out⟩
 ·
  have HF:=Lib.hid (show false=r by rw[←H.out,decide_eq_false h2];rfl);clear H;go_enter Tryz.func65,Tryz.ntmps65
  go_wp2_with (go_at_call 74;refine(same_c a b va vb _ HS _).mono ?_)
  rintro e w2 rfl b2;obtain⟨⟨-,c1,-,-,c4,-,-,-,c8,-⟩,⟨-,d1,-,-,d4,-,-,-,d8,-⟩⟩:=(two_boxes a b va vb w w2 b2).imp MsgAt.all MsgAt.all;have B2:=Lib.hid (bl_next (bl_alloc (bl_alloc (bl_refl _) _) _) b2);clear b2;go_wp2;go_ret;exact⟨ret_bool HF.out,B2.out⟩
end Go.Proofs.YtncbcmiflffakaaGreat.Ms
