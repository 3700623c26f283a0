/-
  What the laws of top need of TopSm. Conditions: those of each lemma.
-/
import Derived.Test.YtncbcmiflffakaaGreatPkEqC
set_option maxRecDepth 1000000
set_option maxHeartbeats 32000000
namespace Go.Proofs.YtncbcmiflffakaaGreat
open Go.RowKit
open Frq Thr Tt
def SmallQ (t:TtD) (w:World) (e:Ending) (w':World):Prop:= ∃ b,e= .returned (.bool b)∧(b=true→SmallT t)∧Bl w w'
theorem smallQ_no {t:TtD} {w w':World} (h:Bl w w'):SmallQ t w (.returned (.bool false)) w':=⟨false,rfl,fun h=>by simp at h,h⟩
theorem small_c (V:TtV) (ts:List TripD) (t:TtD) (B:Nat) (w:World) (rd:TtRd B w V ts t) (hB:B≤w.heap.size):
  Calls Tryz.prog 5 #[ttV V t] w fun e w'=>SmallQ t w e w':=by
 have RA:=Lib.hid rd;obtain⟨v0,v1,v2,v3,v4,v5,v6,v7,v8,v9⟩:=V;obtain⟨a0,k0,(rfl:v0=_),la0,ma0⟩:=rd.stops.val;obtain⟨a1,k1,(rfl:v1=_),la1,ma1⟩:=rd.routes.val;obtain⟨a2,k2,(rfl:v2=_),la2,ma2⟩:=rd.cals.val;obtain⟨a3,k3,(rfl:v3=_),la3,ma3⟩:=rd.excs.val;obtain⟨a4,k4,(rfl:v4=_),la4,ma4⟩:=rd.trips.sl.val;obtain⟨a5,k5,(rfl:v5=_),la5,ma5⟩:=rd.freqs.val;obtain⟨a6,k6,(rfl:v6=_),la6,ma6⟩:=rd.thrus.val;obtain⟨a7,k7,(rfl:v7=_),la7,ma7⟩:=rd.guars.val;obtain⟨a8,k8,(rfl:v8=_),la8,ma8⟩:=rd.paths.val;obtain⟨a9,k9,(rfl:v9=_),la9,ma9⟩:=rd.prods.val;clear rd;unfold ttV;simp only[List.length_map]at RA la5 la6 ⊢;have W0:=Lib.hid (And.intro (heap_alloc_new w (.cells #[.slice a0 t.stops.length k0, .slice a1 t.routes.length k1, .slice a2 t.cals.length k2, .slice a3 t.excs.length k3, .slice a4 ts.length k4, .slice a5 t.freqs.length k5, .slice a6 t.thrus.length k6, .slice a7 t.guars.length k7, .slice a8 t.paths.length k8, .slice a9 t.fares.prods.length k9, .int .i64 t.fares.disc, .int .i64 t.fares.within, .int .i64 t.fares.cap] 35)) (bl_alloc (bl_refl w) (.cells #[.slice a0 t.stops.length k0, .slice a1 t.routes.length k1, .slice a2 t.cals.length k2, .slice a3 t.excs.length k3, .slice a4 ts.length k4, .slice a5 t.freqs.length k5, .slice a6 t.thrus.length k6, .slice a7 t.guars.length k7, .slice a8 t.paths.length k8, .slice a9 t.fares.prods.length k9, .int .i64 t.fares.disc, .int .i64 t.fares.within, .int .i64 t.fares.cap] 35)));go_enter Tryz.func5,Tryz.ntmps5
 go_upto_region 1 with fail
 change Code.wp _ _ _ _ (w.alloc (.cells #[.slice a0 t.stops.length k0, .slice a1 t.routes.length k1, .slice a2 t.cals.length k2, .slice a3 t.excs.length k3, .slice a4 ts.length k4, .slice a5 t.freqs.length k5, .slice a6 t.thrus.length k6, .slice a7 t.guars.length k7, .slice a8 t.paths.length k8, .slice a9 t.fares.prods.length k9, .int .i64 t.fares.disc, .int .i64 t.fares.within, .int .i64 t.fares.cap] 35));obtain⟨h1,hb⟩:=W0.out;generalize w.alloc (.cells #[.slice a0 t.stops.length k0, .slice a1 t.routes.length k1, .slice a2 t.cals.length k2, .slice a3 t.excs.length k3, .slice a4 ts.length k4, .slice a5 t.freqs.length k5, .slice a6 t.thrus.length k6, .slice a7 t.guars.length k7, .slice a8 t.paths.length k8, .slice a9 t.fares.prods.length k9, .int .i64 t.fares.disc, .int .i64 t.fares.within, .int .i64 t.fares.cap] 35)=w1 at h1 hb ⊢
 have HW:=Lib.hid (And.intro h1 hb);have z0:w1.cell? ⟨w.heap.size,0,none⟩=some (.slice a0 t.stops.length k0):=blk_cell h1 0 _ rfl;have z1:w1.cell? ⟨w.heap.size,1,none⟩=some (.slice a1 t.routes.length k1):=blk_cell h1 1 _ rfl;have z2:w1.cell? ⟨w.heap.size,2,none⟩=some (.slice a2 t.cals.length k2):=blk_cell h1 2 _ rfl;have z3:w1.cell? ⟨w.heap.size,3,none⟩=some (.slice a3 t.excs.length k3):=blk_cell h1 3 _ rfl;have z4:w1.cell? ⟨w.heap.size,4,none⟩=some (.slice a4 ts.length k4):=blk_cell h1 4 _ rfl;have z5:w1.cell? ⟨w.heap.size,5,none⟩=some (.slice a5 t.freqs.length k5):=blk_cell h1 5 _ rfl;have z6:w1.cell? ⟨w.heap.size,6,none⟩=some (.slice a6 t.thrus.length k6):=blk_cell h1 6 _ rfl;have z7:w1.cell? ⟨w.heap.size,7,none⟩=some (.slice a7 t.guars.length k7):=blk_cell h1 7 _ rfl;have z8:w1.cell? ⟨w.heap.size,8,none⟩=some (.slice a8 t.paths.length k8):=blk_cell h1 8 _ rfl;have z9:w1.cell? ⟨w.heap.size,9,none⟩=some (.slice a9 t.fares.prods.length k9):=blk_cell h1 9 _ rfl;have z10:w1.cell? ⟨w.heap.size,10,none⟩=some (.int .i64 t.fares.disc):=blk_cell h1 10 _ rfl;have z11:w1.cell? ⟨w.heap.size,11,none⟩=some (.int .i64 t.fares.within):=blk_cell h1 11 _ rfl;have z12:w1.cell? ⟨w.heap.size,12,none⟩=some (.int .i64 t.fares.cap):=blk_cell h1 12 _ rfl;clear h1 hb W0;by_cases hc0:t.stops.length≤5
 case neg=>
  have hi0:(5:Int)<(t.stops.length:Int):=by omega
  go_wp2_with fail;go_ret;exact smallQ_no HW.out.2
 have hi0: ¬ (5:Int)<(t.stops.length:Int):=by omega
 by_cases hc1:t.routes.length≤8
 case neg=>
  have hi1:(8:Int)<(t.routes.length:Int):=by omega
  go_wp2_with fail;go_ret;exact smallQ_no HW.out.2
 have hi1: ¬ (8:Int)<(t.routes.length:Int):=by omega
 by_cases hc2:t.cals.length≤8
 case neg=>
  have hi2:(8:Int)<(t.cals.length:Int):=by omega
  go_wp2_with fail;go_ret;exact smallQ_no HW.out.2
 have hi2: ¬ (8:Int)<(t.cals.length:Int):=by omega
 by_cases hc3:t.excs.length≤20
 case neg=>
  have hi3:(20:Int)<(t.excs.length:Int):=by omega
  go_wp2_with fail;go_ret;exact smallQ_no HW.out.2
 have hi3: ¬ (20:Int)<(t.excs.length:Int):=by omega
 by_cases hc4:ts.length≤7
 case neg=>
  have hi4:(7:Int)<(ts.length:Int):=by omega
  go_wp2_with fail;go_ret;exact smallQ_no HW.out.2
 have hi4: ¬ (7:Int)<(ts.length:Int):=by omega
 by_cases hc5:t.freqs.length≤8
 case neg=>
  have hi5:(8:Int)<(t.freqs.length:Int):=by omega
  go_wp2_with fail;go_ret;exact smallQ_no HW.out.2
 have hi5: ¬ (8:Int)<(t.freqs.length:Int):=by omega
 by_cases hc6:t.thrus.length≤20
 case neg=>
  have hi6:(20:Int)<(t.thrus.length:Int):=by omega
  go_wp2_with fail;go_ret;exact smallQ_no HW.out.2
 have hi6: ¬ (20:Int)<(t.thrus.length:Int):=by omega
 by_cases hc7:t.guars.length≤40
 case neg=>
  have hi7:(40:Int)<(t.guars.length:Int):=by omega
  go_wp2_with fail;go_ret;exact smallQ_no HW.out.2
 have hi7: ¬ (40:Int)<(t.guars.length:Int):=by omega
 by_cases hc8:t.paths.length≤40
 case neg=>
  have hi8:(40:Int)<(t.paths.length:Int):=by omega
  go_wp2_with fail;go_ret;exact smallQ_no HW.out.2
 have hi8: ¬ (40:Int)<(t.paths.length:Int):=by omega
 by_cases hc9:t.fares.prods.length≤16
 case neg=>
  have hi9:(16:Int)<(t.fares.prods.length:Int):=by omega
  go_wp2_with fail;go_ret;exact smallQ_no HW.out.2
 have hi9: ¬ (16:Int)<(t.fares.prods.length:Int):=by omega
 go_wp2_with fail;clear z0 z1 z2 z3 z4 z5 z6 z7 z8 z9 z10 z11 z12;have HB0:Hid (Bl w1 w1):=bl_refl _;go_loopw [66] (fun i wr=> ∃ k:Nat,(k≤ts.length∧i= .int .i64 k)∧Hid (∀ x∈ts.take k,x.calls.length≤6)∧Hid (Bl w1 wr)) (fun i _=>ts.length-(intOf i).toNat)
 case atStart=>exact⟨0,⟨Nat.zero_le _,rfl⟩,Lib.hid (fun x hx=>by simp at hx),HB0⟩
 case round=>
  clear HB0;obtain⟨k,⟨hk,rfl⟩,HA,HBL⟩:=hrel;have hr:=blk_bl HW.out.1 HBL.out;have z4:wr.cell? ⟨w.heap.size,4,none⟩=some (.slice a4 ts.length k4):=blk_cell hr 4 _ rfl;clear hr;by_cases hlx:k<ts.length
  ·
   obtain⟨ba,oa,x,rfl,lba,hx,xa⟩:=SlIn.get RA.out.trips.sl (k:=k) hlx (bl_next HW.out.2 HBL.out) hB;obtain⟨ax,cx,hvx,lx,mx⟩:=(RA.out.trips.ok x (List.mem_of_getElem? hx)).calls.val;have d4:wr.cell? ⟨ba,oa+k*5+4,none⟩=some (.slice ax x.calls.length cx):=by rw[←hvx];exact xa 4 _ rfl
   have hkI:(k:Int)<(ts.length:Int):=by omega
   have HX:=Lib.hid hx;clear xa hx hvx;by_cases h6:x.calls.length≤6
   ·
    have h6I: ¬ (6:Int)<(x.calls.length:Int):=by omega
    have HB9:=HBL;clear HBL;go_wp2_with fail;go_roundw;case rel=>exact⟨k+1,⟨by omega,by go_num⟩,Lib.hid (fun y hy=>by
     rw[List.take_add_one,HX.out]at hy;rcases List.mem_append.1 hy with hy|hy
     · exact HA.out y hy
     ·
      simp only[Option.toList,List.mem_singleton]at hy;rw[hy];exact h6),HB9⟩
    case measure=>simp[intOf];omega
   ·
    have h6I:(6:Int)<(x.calls.length:Int):=by omega
    go_wp2_with fail;go_ret;exact smallQ_no (bl_next HW.out.2 HBL.out)
  ·
   obtain rfl:k=ts.length:=by omega
   go_wp2_with fail;go_ret;refine⟨true,rfl,fun _=>⟨hc0,hc1,hc2,hc3, ?_,hc5,hc6,hc7,hc8,hc9, ?_⟩,bl_next HW.out.2 HBL.out⟩
   · rw[RA.out.same,List.length_map];exact hc4
   ·
    intro y hy;rw[RA.out.same]at hy;obtain⟨x,hx,rfl⟩:=List.mem_map.1 hy;have:=HA.out;rw[List.take_length]at this;exact this x hx
end Go.Proofs.YtncbcmiflffakaaGreat
