/-
  What the laws of top need of TChkC. Conditions: those of each lemma.
-/
import Derived.Test.YtncbcmiflffakaaGreatPkMem
import Derived.Test.YtncbcmiflffakaaGreatRows
import Derived.Test.YtncbcmiflffakaaGreatPkPl
import Derived.Test.YtncbcmiflffakaaGreatPkFq
import Derived.Test.YtncbcmiflffakaaGreatPkCkA
import Derived.Test.YtncbcmiflffakaaGreatPkCkB
import Derived.Test.YtncbcmiflffakaaGreatPkTh
import Derived.Deep.DeepCutAuto
import Derived.RegionTactic
import GoSem.Op.String
import Derived.Lib.IndexMore
import Derived.ScopeJumps
import Derived.WalkMore
import Derived.Laws.BytesArg
import Derived.Lib.SmallJoins
import Derived.WideShapes
import Derived.Laws.AppendOwn
import Derived.Deep.QuietTactic
import Derived.BigQuiet
import Derived.Deep.RegionHeld3
import Derived.Deep.AppendLies
import Derived.IntWalk
import Derived.StillTailTactics
import Derived.Lib.MinMax
set_option maxRecDepth 1000000
set_option maxHeartbeats 32000000
namespace Go.Proofs.YtncbcmiflffakaaGreat
open Go.RowKit
open Frq Thr Tt
theorem freq_at (ts:List TripD) (pre:List FreqD) (f:FreqD):Fq.errAt ts pre f=freqErr ((ts.map xOf).map (·.calls)) pre f:=by
 have h1:Fq.fitAt ts f=fitAtX ((ts.map xOf).map (·.calls)) f:=by
  unfold Fq.fitAt fitAtX;rw[List.getElem?_map,List.getElem?_map];cases ts[f.trip.toNat]? <;>rfl
 unfold Fq.errAt freqErr;rw[h1,List.length_map,List.length_map];rfl
theorem freq_chk (ts:List TripD): ∀ (l pre:List FreqD),Fq.chk ts pre l=chk (freqErr ((ts.map xOf).map (·.calls))) pre l
 |[],_=>rfl
 |f::l,pre=>by
  unfold Fq.chk chk;rw[freq_at,freq_chk ts l]
theorem freq_bridge (ts:List TripD) (fs:List FreqD):Fq.checkS fs ts=checkS 64 (freqErr ((ts.map xOf).map (·.calls))) fs:=by
 unfold Fq.checkS checkS;rw[freq_chk]
theorem trp_bridge (ts:List TripD):(ts.map xOf).map trpX=ts.map trpOf:=by
 rw[List.map_map];rfl
theorem trips_short {ts:List TripD} {stops routes cals:Int} (h:(checkS 256 (tripErr stops routes cals) (ts.map xOf)).2=0): ∀ t∈ts,t.calls.length≤32:=fun t ht=>by
 obtain⟨k,hk⟩:=List.getElem?_of_mem ht;have e:=(check_ok h).2 (k:=k) (x:=xOf t) (by rw[List.getElem?_map,hk];rfl);have hc:callsErr stops 0 172800 (xOf t).calls=0:=by
  unfold tripErr at e;split at e
  · exact absurd e (by decide)
  ·
   split at e
   · exact absurd e (by decide)
   ·
    split at e
    · exact absurd e (by decide)
    · exact e
 unfold callsErr at hc;split at hc
 · exact absurd hc (by decide)
 ·
  rename_i hn;rw[not_or]at hn;have: ¬ 32<t.calls.length:=hn.2;omega
structure TtOk (t:TtD):Prop where
 stops: ∀ x∈t.stops,x.id.length≤9223372036854775807
 routes: ∀ x∈t.routes,x.id.length≤9223372036854775807
 cals: ∀ x∈t.cals,x.id.length≤9223372036854775807
 trips: ∀ x∈t.trips,x.id.length≤9223372036854775807
 prods: ∀ x∈t.fares.prods,x.id.length≤9223372036854775807
 excs: ∀ x∈t.excs,isInt x.cal∧isInt x.day
 thrus: ∀ x∈t.thrus,isInt x.frm∧isInt x.to
 guars: ∀ x∈t.guars,isInt x.frm∧isInt x.to∧isInt x.stop
 paths: ∀ x∈t.paths,isInt x.frm∧isInt x.to
def ttCells (V:TtV) (f:FareD):Array Value:= #[V.stops,V.routes,V.cals,V.excs,V.trips,V.freqs,V.thrus,V.guars,V.paths,V.prods, .int .i64 f.disc, .int .i64 f.within, .int .i64 f.cap]
def TtAt (b:Nat) (V:TtV) (f:FareD) (w:World):Prop:=w.heap[b]? =some (.cells (ttCells V f) 35 (0,0))
theorem TtRd.bl {B:Nat} {w w':World} {V:TtV} {ts:List TripD} {t:TtD} (h:TtRd B w V ts t) (hb:Bl w w') (hB:B≤w.heap.size):TtRd B w' V ts t:=
 ⟨h.stops.out hb hB,h.routes.out hb hB,h.cals.out hb hB,h.excs.out hb hB,h.trips.bl hb hB,h.same,h.freqs.out hb hB,h.thrus.out hb hB,h.guars.out hb hB,h.paths.out hb hB,h.prods.out hb hB⟩
end Go.Proofs.YtncbcmiflffakaaGreat
namespace Go.Proofs.YtncbcmiflffakaaGreat
open Go.RowKit
open Frq Thr Tt
theorem tck0_c (b:Nat) (V:TtV) (ts:List TripD) (t:TtD) (r:Int×Int) (H:Hid (partChk t 0=r)) (ok:Hid (TtOk t)) (B:Nat) (w:World) (hat:TtAt b V t.fares w) (rd:Hid (TtRd B w V ts t)) (hB:B≤w.heap.size):
  Calls Tryz.prog 17 #[.pointer (some ⟨b,0,none⟩)] w fun e w'=>e= .returned (.tuple #[.int .i64 r.1, .int .i64 r.2])∧Bl w w':=by
 have c0:w.cell? ⟨b,0,none⟩=some (V.stops):=blk_cell hat 0 _ rfl;have hc:=stops_c V.stops t.stops r H ok.out.stops B w rd.out.stops hB;clear hat;go_enter Tryz.func17,Tryz.ntmps17
 go_wp2_with (go_at_call 18;refine hc.mono ?_;rintro e w1 ⟨rfl,b1⟩;have HB1:=Lib.hid b1;clear b1)
 go_ret2;exact⟨rfl,HB1.out⟩
theorem tck1_c (b:Nat) (V:TtV) (ts:List TripD) (t:TtD) (r:Int×Int) (H:Hid (partChk t 1=r)) (ok:Hid (TtOk t)) (B:Nat) (w:World) (hat:TtAt b V t.fares w) (rd:Hid (TtRd B w V ts t)) (hB:B≤w.heap.size):
  Calls Tryz.prog 19 #[.pointer (some ⟨b,0,none⟩)] w fun e w'=>e= .returned (.tuple #[.int .i64 r.1, .int .i64 r.2])∧Bl w w':=by
 have c1:w.cell? ⟨b,1,none⟩=some (V.routes):=blk_cell hat 1 _ rfl;have hc:=routes_c V.routes t.routes r H ok.out.routes B w rd.out.routes hB;clear hat;go_enter Tryz.func19,Tryz.ntmps19
 go_wp2_with (go_at_call 20;refine hc.mono ?_;rintro e w1 ⟨rfl,b1⟩;have HB1:=Lib.hid b1;clear b1)
 go_ret2;exact⟨rfl,HB1.out⟩
theorem tck2_c (b:Nat) (V:TtV) (ts:List TripD) (t:TtD) (r:Int×Int) (H:Hid (partChk t 2=r)) (ok:Hid (TtOk t)) (B:Nat) (w:World) (hat:TtAt b V t.fares w) (rd:Hid (TtRd B w V ts t)) (hB:B≤w.heap.size):
  Calls Tryz.prog 21 #[.pointer (some ⟨b,0,none⟩)] w fun e w'=>e= .returned (.tuple #[.int .i64 r.1, .int .i64 r.2])∧Bl w w':=by
 have c2:w.cell? ⟨b,2,none⟩=some (V.cals):=blk_cell hat 2 _ rfl;have hc:=cals_c V.cals t.cals r H ok.out.cals B w rd.out.cals hB;clear hat;go_enter Tryz.func21,Tryz.ntmps21
 go_wp2_with (go_at_call 22;refine hc.mono ?_;rintro e w1 ⟨rfl,b1⟩;have HB1:=Lib.hid b1;clear b1)
 go_ret2;exact⟨rfl,HB1.out⟩
theorem tck3_c (b:Nat) (V:TtV) (ts:List TripD) (t:TtD) (r:Int×Int) (H:Hid (partChk t 3=r)) (ok:Hid (TtOk t)) (B:Nat) (w:World) (hat:TtAt b V t.fares w) (rd:Hid (TtRd B w V ts t)) (hB:B≤w.heap.size) (ic:Nat) (hic:w.cell? ⟨ic,0,none⟩=some (.int .i64 (t.cals.length))):
  Calls Tryz.prog 23 #[.pointer (some ⟨b,0,none⟩), .pointer (some ⟨ic,0,none⟩)] w fun e w'=>e= .returned (.tuple #[.int .i64 r.1, .int .i64 r.2])∧Bl w w':=by
 have c3:w.cell? ⟨b,3,none⟩=some (V.excs):=blk_cell hat 3 _ rfl;have hc:=excs_c V.excs t.excs t.cals.length r H ok.out.excs B w rd.out.excs hB;clear hat;go_enter Tryz.func23,Tryz.ntmps23
 go_wp2_with (go_at_call 24;refine hc.mono ?_;rintro e w1 ⟨rfl,b1⟩;have HB1:=Lib.hid b1;clear b1)
 go_ret2;exact⟨rfl,HB1.out⟩
theorem tck4_c (b:Nat) (V:TtV) (ts:List TripD) (t:TtD) (r:Int×Int) (H:Hid (partChk t 4=r)) (ok:Hid (TtOk t)) (B:Nat) (w:World) (hat:TtAt b V t.fares w) (rd:Hid (TtRd B w V ts t)) (hB:B≤w.heap.size) (is:Nat) (his:w.cell? ⟨is,0,none⟩=some (.int .i64 (t.stops.length))) (ir:Nat) (hir:w.cell? ⟨ir,0,none⟩=some (.int .i64 (t.routes.length))) (ic:Nat) (hic:w.cell? ⟨ic,0,none⟩=some (.int .i64 (t.cals.length))):
  Calls Tryz.prog 25 #[.pointer (some ⟨b,0,none⟩), .pointer (some ⟨is,0,none⟩), .pointer (some ⟨ir,0,none⟩), .pointer (some ⟨ic,0,none⟩)] w fun e w'=>e= .returned (.tuple #[.int .i64 r.1, .int .i64 r.2])∧Bl w w':=by
 have c4:w.cell? ⟨b,4,none⟩=some (V.trips):=blk_cell hat 4 _ rfl;have hc:=trips_c V.trips ts t.stops.length t.routes.length t.cals.length t.trips rd.out.same r H ok.out.trips B w rd.out.trips hB;clear hat;go_enter Tryz.func25,Tryz.ntmps25
 go_wp2_with (go_at_call 26;refine hc.mono ?_;rintro e w1 ⟨rfl,b1⟩;have HB1:=Lib.hid b1;clear b1)
 go_ret2;exact⟨rfl,HB1.out⟩
theorem tck5_c (b:Nat) (V:TtV) (ts:List TripD) (t:TtD) (r:Int×Int) (H:Hid (partChk t 5=r)) (_:Hid (TtOk t)) (B:Nat) (w:World) (hat:TtAt b V t.fares w) (rd:Hid (TtRd B w V ts t)) (hB:B≤w.heap.size) (hshort: ∀ x∈ts,x.calls.length≤32):
  Calls Tryz.prog 27 #[.pointer (some ⟨b,0,none⟩)] w fun e w'=>e= .returned (.tuple #[.int .i64 r.1, .int .i64 r.2])∧Bl w w':=by
 have c5:w.cell? ⟨b,5,none⟩=some (V.freqs):=blk_cell hat 5 _ rfl;have c4:w.cell? ⟨b,4,none⟩=some (V.trips):=blk_cell hat 4 _ rfl;have HF:Hid (Fq.checkS (t.freqs.map freqOf) ts=r):=by show _=_;rw[freq_bridge,←rd.out.same];exact H.out
 have hT:Fq.TripsIn B w V.trips ts:=⟨rd.out.trips.sl,fun x hx=>⟨(rd.out.trips.ok x hx).calls,(rd.out.trips.ok x hx).ok,by have:=hshort x hx;omega⟩⟩;have hc:=Fq.check_c V.freqs (t.freqs.map freqOf) V.trips ts r HF B w rd.out.freqs hT hB;clear hat;go_enter Tryz.func27,Tryz.ntmps27
 go_wp2_with (go_at_call 28;refine hc.mono ?_;rintro e w1 ⟨rfl,b1⟩;have HB1:=Lib.hid b1;clear b1)
 go_ret2;exact⟨rfl,HB1.out⟩
theorem tck6_c (b:Nat) (V:TtV) (ts:List TripD) (t:TtD) (r:Int×Int) (H:Hid (partChk t 6=r)) (ok:Hid (TtOk t)) (B:Nat) (w:World) (hat:TtAt b V t.fares w) (rd:Hid (TtRd B w V ts t)) (hB:B≤w.heap.size):
  Calls Tryz.prog 29 #[.pointer (some ⟨b,0,none⟩)] w fun e w'=>e= .returned (.tuple #[.int .i64 r.1, .int .i64 r.2])∧Bl w w':=by
 have c6:w.cell? ⟨b,6,none⟩=some (V.thrus):=blk_cell hat 6 _ rfl;have c4:w.cell? ⟨b,4,none⟩=some (V.trips):=blk_cell hat 4 _ rfl;have c5:w.cell? ⟨b,5,none⟩=some (V.freqs):=blk_cell hat 5 _ rfl;have HF:Hid (checkS 128 (thrErr (ts.map trpOf) (t.freqs.map freqOf)) (t.thrus.map thruOf)=r):=by show _=_;rw[←trp_bridge,←rd.out.same];exact H.out
 have hX: ∀ x∈t.thrus.map thruOf,Th.okX x:=fun x hx=>by obtain⟨y,hy,rfl⟩:=List.mem_map.1 hx;exact ok.out.thrus y hy
 have hc:=Th.check_c V.thrus V.trips V.freqs (t.thrus.map thruOf) ts (t.freqs.map freqOf) r HF hX B w rd.out.thrus rd.out.trips rd.out.freqs hB;clear hat;go_enter Tryz.func29,Tryz.ntmps29
 go_wp2_with (go_at_call 30;refine hc.mono ?_;rintro e w1 ⟨rfl,b1⟩;have HB1:=Lib.hid b1;clear b1)
 go_ret2;exact⟨rfl,HB1.out⟩
theorem tck7_c (b:Nat) (V:TtV) (ts:List TripD) (t:TtD) (r:Int×Int) (H:Hid (partChk t 7=r)) (ok:Hid (TtOk t)) (B:Nat) (w:World) (hat:TtAt b V t.fares w) (rd:Hid (TtRd B w V ts t)) (hB:B≤w.heap.size) (is:Nat) (his:w.cell? ⟨is,0,none⟩=some (.int .i64 (t.stops.length))):
  Calls Tryz.prog 31 #[.pointer (some ⟨b,0,none⟩), .pointer (some ⟨is,0,none⟩)] w fun e w'=>e= .returned (.tuple #[.int .i64 r.1, .int .i64 r.2])∧Bl w w':=by
 have c7:w.cell? ⟨b,7,none⟩=some (V.guars):=blk_cell hat 7 _ rfl;have c4:w.cell? ⟨b,4,none⟩=some (V.trips):=blk_cell hat 4 _ rfl;have c5:w.cell? ⟨b,5,none⟩=some (V.freqs):=blk_cell hat 5 _ rfl;have HF:Hid (checkS 128 (guaErr (ts.map trpOf) (t.freqs.map freqOf) t.stops.length) t.guars=r):=by show _=_;rw[←trp_bridge,←rd.out.same];exact H.out
 have hc:=Th.gcheck_c V.guars V.trips V.freqs t.guars ts (t.freqs.map freqOf) t.stops.length r HF ok.out.guars B w rd.out.guars rd.out.trips rd.out.freqs hB;clear hat;go_enter Tryz.func31,Tryz.ntmps31
 go_wp2_with (go_at_call 32;refine hc.mono ?_;rintro e w1 ⟨rfl,b1⟩;have HB1:=Lib.hid b1;clear b1)
 go_ret2;exact⟨rfl,HB1.out⟩
theorem tck8_c (b:Nat) (V:TtV) (ts:List TripD) (t:TtD) (r:Int×Int) (H:Hid (partChk t 8=r)) (ok:Hid (TtOk t)) (B:Nat) (w:World) (hat:TtAt b V t.fares w) (rd:Hid (TtRd B w V ts t)) (hB:B≤w.heap.size) (is:Nat) (his:w.cell? ⟨is,0,none⟩=some (.int .i64 (t.stops.length))):
  Calls Tryz.prog 33 #[.pointer (some ⟨b,0,none⟩), .pointer (some ⟨is,0,none⟩)] w fun e w'=>e= .returned (.tuple #[.int .i64 r.1, .int .i64 r.2])∧Bl w w':=by
 have c8:w.cell? ⟨b,8,none⟩=some (V.paths):=blk_cell hat 8 _ rfl;have hc:=paths_c V.paths t.paths t.stops.length r H ok.out.paths B w rd.out.paths hB;clear hat;go_enter Tryz.func33,Tryz.ntmps33
 go_wp2_with (go_at_call 34;refine hc.mono ?_;rintro e w1 ⟨rfl,b1⟩;have HB1:=Lib.hid b1;clear b1)
 go_ret2;exact⟨rfl,HB1.out⟩
theorem tck9_c (b:Nat) (V:TtV) (ts:List TripD) (t:TtD) (r:Int×Int) (H:Hid (partChk t 9=r)) (ok:Hid (TtOk t)) (B:Nat) (w:World) (hat:TtAt b V t.fares w) (rd:Hid (TtRd B w V ts t)) (hB:B≤w.heap.size):
  Calls Tryz.prog 35 #[.pointer (some ⟨b,0,none⟩)] w fun e w'=>e= .returned (.tuple #[.int .i64 r.1, .int .i64 r.2])∧Bl w w':=by
 have c9:w.cell? ⟨b,9,none⟩=some (V.prods):=blk_cell hat 9 _ rfl;have c10:w.cell? ⟨b,10,none⟩=some (.int .i64 t.fares.disc):=blk_cell hat 10 _ rfl;have c11:w.cell? ⟨b,11,none⟩=some (.int .i64 t.fares.within):=blk_cell hat 11 _ rfl;have c12:w.cell? ⟨b,12,none⟩=some (.int .i64 t.fares.cap):=blk_cell hat 12 _ rfl;have hc:=prods_c V.prods t.fares r H ok.out.prods B w rd.out.prods hB;clear hat;go_enter Tryz.func35,Tryz.ntmps35
 go_wp2_with (go_at_call 36;refine hc.mono ?_;rintro e w1 ⟨rfl,b1⟩;have HB1:=Lib.hid b1;clear b1)
 go_ret2;exact⟨rfl,HB1.out⟩
end Go.Proofs.YtncbcmiflffakaaGreat
namespace Go.Proofs.YtncbcmiflffakaaGreat
open Go.RowKit
open Frq Thr Tt
theorem three_cells {w0:World} {n:Nat} (h:w0.heap.size=n) (x y z:Value) (T:TypeId):
  (((((w0.alloc (.cells #[x] T)).alloc (.cells #[y] T)).alloc (.cells #[z] T)).drew).cell? ⟨n,0,none⟩=some x∧((((w0.alloc (.cells #[x] T)).alloc (.cells #[y] T)).alloc (.cells #[z] T)).drew).cell? ⟨n+1,0,none⟩=some y∧((((w0.alloc (.cells #[x] T)).alloc (.cells #[y] T)).alloc (.cells #[z] T)).drew).cell? ⟨n+1+1,0,none⟩=some z)
  ∧((((w0.alloc (.cells #[x] T)).alloc (.cells #[y] T)).alloc (.cells #[z] T)).drew).heap.size=n+3∧Bl w0 ((((w0.alloc (.cells #[x] T)).alloc (.cells #[y] T)).alloc (.cells #[z] T)).drew):=by
 subst h;have h1:=blk_cell (heap_alloc_new w0 (.cells #[x] T)) 0 x rfl;have h2:=blk_cell (heap_alloc_new (w0.alloc (.cells #[x] T)) (.cells #[y] T)) 0 y rfl;have h3:=blk_cell (heap_alloc_new ((w0.alloc (.cells #[x] T)).alloc (.cells #[y] T)) (.cells #[z] T)) 0 z rfl;simp only[World.size_alloc]at h2 h3;refine⟨⟨?_, ?_, ?_⟩,by show(((w0.alloc _).alloc _).alloc _).heap.size=_;simp,bl_drew (bl_alloc (bl_alloc (bl_alloc (bl_refl _) _) _) _)⟩
 ·
  have b:Bl (w0.alloc (.cells #[x] T)) ((((w0.alloc (.cells #[x] T)).alloc (.cells #[y] T)).alloc (.cells #[z] T)).drew):=bl_drew (bl_alloc (bl_alloc (bl_refl _) _) _);exact((bl_cell b).1 _ _ (by simp)).trans h1
 ·
  have b:Bl ((w0.alloc (.cells #[x] T)).alloc (.cells #[y] T)) ((((w0.alloc (.cells #[x] T)).alloc (.cells #[y] T)).alloc (.cells #[z] T)).drew):=bl_drew (bl_alloc (bl_refl _) _);exact((bl_cell b).1 _ _ (by simp)).trans h2
 · exact h3
theorem tcheck_c (V:TtV) (ts:List TripD) (t:TtD) (p i e:Int) (H:Hid (ttChk t=(p,i,e))) (ok:Hid (TtOk t)) (B:Nat) (w:World) (rd:TtRd B w V ts t) (hB:B≤w.heap.size):
  Calls Tryz.prog 7 #[ttV V t] w fun q w'=>q= .returned (.tuple #[.int .i64 p, .int .i64 i, .int .i64 e])∧Bl w w':=by
 have RD:=Lib.hid rd;obtain⟨v0,v1,v2,v3,v4,v5,v6,v7,v8,v9⟩:=V;obtain⟨a0,k0,(rfl:v0=_),-,-⟩:=rd.stops.val;obtain⟨a1,k1,(rfl:v1=_),-,-⟩:=rd.routes.val;obtain⟨a2,k2,(rfl:v2=_),-,-⟩:=rd.cals.val;obtain⟨a3,k3,(rfl:v3=_),-,-⟩:=rd.excs.val;obtain⟨a4,k4,(rfl:v4=_),-,-⟩:=rd.trips.sl.val;obtain⟨a5,k5,(rfl:v5=_),-,-⟩:=rd.freqs.val;obtain⟨a6,k6,(rfl:v6=_),-,-⟩:=rd.thrus.val;obtain⟨a7,k7,(rfl:v7=_),-,-⟩:=rd.guars.val;obtain⟨a8,k8,(rfl:v8=_),-,-⟩:=rd.paths.val;obtain⟨a9,k9,(rfl:v9=_),-,-⟩:=rd.prods.val;clear rd;unfold ttV;simp only[List.length_map]at RD ⊢;obtain⟨w0,hw0⟩: ∃ w0,w.alloc (.cells (ttCells ⟨.slice a0 t.stops.length k0, .slice a1 t.routes.length k1, .slice a2 t.cals.length k2, .slice a3 t.excs.length k3, .slice a4 ts.length k4, .slice a5 t.freqs.length k5, .slice a6 t.thrus.length k6, .slice a7 t.guars.length k7, .slice a8 t.paths.length k8, .slice a9 t.fares.prods.length k9⟩ t.fares) 35)=w0:=⟨_,rfl⟩;have A0:=Lib.hid (show TtAt w.heap.size ⟨.slice a0 t.stops.length k0, .slice a1 t.routes.length k1, .slice a2 t.cals.length k2, .slice a3 t.excs.length k3, .slice a4 ts.length k4, .slice a5 t.freqs.length k5, .slice a6 t.thrus.length k6, .slice a7 t.guars.length k7, .slice a8 t.paths.length k8, .slice a9 t.fares.prods.length k9⟩ t.fares w0 by rw[←hw0];exact heap_alloc_new w _);have B0:=Lib.hid (show Bl w w0 by rw[←hw0];exact bl_alloc (bl_refl _) _);have s0:w0.heap.size=w.heap.size+1:=by rw[←hw0];simp
 have c0:w0.cell? ⟨w.heap.size,0,none⟩=some (.slice a0 t.stops.length k0):=blk_cell A0.out 0 _ rfl;have c1:w0.cell? ⟨w.heap.size,1,none⟩=some (.slice a1 t.routes.length k1):=blk_cell A0.out 1 _ rfl;have c2:w0.cell? ⟨w.heap.size,2,none⟩=some (.slice a2 t.cals.length k2):=blk_cell A0.out 2 _ rfl;simp only[ttCells]at hw0;go_enter Tryz.func7,Tryz.ntmps7
 go_upto_region 1 with fail
 go_cut [5,6,7] (fun s5 s6 s7 wx=> ∃ b5 b6 b7:Nat,s5= .pointer (some ⟨b5,0,none⟩)∧s6= .pointer (some ⟨b6,0,none⟩)∧s7= .pointer (some ⟨b7,0,none⟩)∧wx.cell? ⟨b5,0,none⟩=some (.int .i64 t.stops.length)∧wx.cell? ⟨b6,0,none⟩=some (.int .i64 t.routes.length)∧wx.cell? ⟨b7,0,none⟩=some (.int .i64 t.cals.length)∧(b5<wx.heap.size∧b6<wx.heap.size∧b7<wx.heap.size)∧Bl w0 wx)
 case first=>
  rename_i J0 K0 hJ0 hK0;go_region
  all_goals
   refine hK0 _ _ (Met.intro (hJ0 _ _ ?_));repeat apply Exists.intro
   refine⟨?rel,rfl⟩;case rel=>
    try rw[hw0]
    first
     |(have q:=three_cells s0 (.int .i64 t.stops.length) (.int .i64 t.routes.length) (.int .i64 t.cals.length) 3;exact⟨_,_,_,rfl,rfl,rfl,q.1.1,q.1.2.1,q.1.2.2,by rw[q.2.1];omega,q.2.2⟩)
     |(have q:=three_cells s0 (.int .i64 t.stops.length) (.int .i64 t.cals.length) (.int .i64 t.routes.length) 3;exact⟨_,_,_,rfl,rfl,rfl,q.1.1,q.1.2.2,q.1.2.1,by rw[q.2.1];omega,q.2.2⟩)
     |(have q:=three_cells s0 (.int .i64 t.routes.length) (.int .i64 t.stops.length) (.int .i64 t.cals.length) 3;exact⟨_,_,_,rfl,rfl,rfl,q.1.2.1,q.1.1,q.1.2.2,by rw[q.2.1];omega,q.2.2⟩)
     |(have q:=three_cells s0 (.int .i64 t.routes.length) (.int .i64 t.cals.length) (.int .i64 t.stops.length) 3;exact⟨_,_,_,rfl,rfl,rfl,q.1.2.2,q.1.1,q.1.2.1,by rw[q.2.1];omega,q.2.2⟩)
     |(have q:=three_cells s0 (.int .i64 t.cals.length) (.int .i64 t.stops.length) (.int .i64 t.routes.length) 3;exact⟨_,_,_,rfl,rfl,rfl,q.1.2.1,q.1.2.2,q.1.1,by rw[q.2.1];omega,q.2.2⟩)
     |(have q:=three_cells s0 (.int .i64 t.cals.length) (.int .i64 t.routes.length) (.int .i64 t.stops.length) 3;exact⟨_,_,_,rfl,rfl,rfl,q.1.2.2,q.1.2.1,q.1.1,by rw[q.2.1];omega,q.2.2⟩)
 case rest=>
  obtain⟨b5,b6,b7,rfl,rfl,rfl,x5,x6,x7,⟨l5,l6,l7⟩,bc⟩:=hcut;have BC:=Lib.hid (bl_next B0.out bc);have AC:=Lib.hid (show TtAt w.heap.size _ _ wc from blk_bl A0.out bc);have hsz:=bc.size;clear bc c0 c1 c2 hw0;obtain⟨w1,hw1⟩: ∃ w1,wc.alloc (.cells #[.func (.func 17) #[] #[.pointer (some ⟨w.heap.size,0,none⟩)], .func (.func 19) #[] #[.pointer (some ⟨w.heap.size,0,none⟩)], .func (.func 21) #[] #[.pointer (some ⟨w.heap.size,0,none⟩)], .func (.func 23) #[] #[.pointer (some ⟨w.heap.size,0,none⟩), .pointer (some ⟨b7,0,none⟩)], .func (.func 25) #[] #[.pointer (some ⟨w.heap.size,0,none⟩), .pointer (some ⟨b5,0,none⟩), .pointer (some ⟨b6,0,none⟩), .pointer (some ⟨b7,0,none⟩)], .func (.func 27) #[] #[.pointer (some ⟨w.heap.size,0,none⟩)], .func (.func 29) #[] #[.pointer (some ⟨w.heap.size,0,none⟩)], .func (.func 31) #[] #[.pointer (some ⟨w.heap.size,0,none⟩), .pointer (some ⟨b5,0,none⟩)], .func (.func 33) #[] #[.pointer (some ⟨w.heap.size,0,none⟩), .pointer (some ⟨b5,0,none⟩)], .func (.func 35) #[] #[.pointer (some ⟨w.heap.size,0,none⟩)]] 71)=w1:=⟨_,rfl⟩;have W1:=Lib.hid (show w1.heap[wc.heap.size]? =some (.cells #[.func (.func 17) #[] #[.pointer (some ⟨w.heap.size,0,none⟩)], .func (.func 19) #[] #[.pointer (some ⟨w.heap.size,0,none⟩)], .func (.func 21) #[] #[.pointer (some ⟨w.heap.size,0,none⟩)], .func (.func 23) #[] #[.pointer (some ⟨w.heap.size,0,none⟩), .pointer (some ⟨b7,0,none⟩)], .func (.func 25) #[] #[.pointer (some ⟨w.heap.size,0,none⟩), .pointer (some ⟨b5,0,none⟩), .pointer (some ⟨b6,0,none⟩), .pointer (some ⟨b7,0,none⟩)], .func (.func 27) #[] #[.pointer (some ⟨w.heap.size,0,none⟩)], .func (.func 29) #[] #[.pointer (some ⟨w.heap.size,0,none⟩)], .func (.func 31) #[] #[.pointer (some ⟨w.heap.size,0,none⟩), .pointer (some ⟨b5,0,none⟩)], .func (.func 33) #[] #[.pointer (some ⟨w.heap.size,0,none⟩), .pointer (some ⟨b5,0,none⟩)], .func (.func 35) #[] #[.pointer (some ⟨w.heap.size,0,none⟩)]] 71 (0,0)) by rw[←hw1];exact heap_alloc_new wc _);have b1:Bl wc w1:=by rw[←hw1];exact bl_alloc (bl_refl _) _
  have A1:=Lib.hid (show TtAt w.heap.size _ _ w1 from blk_bl AC.out b1);have B1:=Lib.hid (bl_next BC.out b1);have y5:w1.cell? ⟨b5,0,none⟩=some (.int .i64 t.stops.length):=((bl_cell b1).1 _ _ l5).trans x5;have y6:w1.cell? ⟨b6,0,none⟩=some (.int .i64 t.routes.length):=((bl_cell b1).1 _ _ l6).trans x6;have y7:w1.cell? ⟨b7,0,none⟩=some (.int .i64 t.cals.length):=((bl_cell b1).1 _ _ l7).trans x7;have s1:=b1.size;clear x5 x6 x7;have HH:Hid (ttFrom t 10 0=(p,i,e)):=H.out;go_wp2_with fail;clear hw1 b1;go_loopw [35] (fun i' wr=> ∃ k:Nat,(k≤10∧i'= .int .i64 k)∧Hid (ttFrom t (10-k) k=(p,i,e))∧Hid (∀ j,j<k→(partChk t j).2=0)∧Bl w1 wr) (fun i' _=>10-(intOf i').toNat)
  case atStart=>exact⟨0,⟨by omega,rfl⟩,HH,fun j hj=>absurd hj (Nat.not_lt_zero j),bl_refl _⟩
  case round=>
   obtain⟨k,⟨hk,rfl⟩,HC,HZ,hbl⟩:=hrel;have z1:=hbl.size;have RDr:=Lib.hid (RD.out.bl (bl_next B1.out hbl) hB);have Ar:=Lib.hid (show TtAt w.heap.size _ _ wr from blk_bl A1.out hbl);have Wr:=Lib.hid (blk_bl W1.out hbl);have r5:wr.cell? ⟨b5,0,none⟩=some (.int .i64 t.stops.length):=((bl_cell hbl).1 _ _ (by omega)).trans y5;have r6:wr.cell? ⟨b6,0,none⟩=some (.int .i64 t.routes.length):=((bl_cell hbl).1 _ _ (by omega)).trans y6;have r7:wr.cell? ⟨b7,0,none⟩=some (.int .i64 t.cals.length):=((bl_cell hbl).1 _ _ (by omega)).trans y7;have hBr:B≤wr.heap.size:=Nat.le_trans hB (bl_next B1.out hbl).size;have HBR:=Lib.hid hbl;by_cases hlt:k<10
   ·
    obtain⟨⟨ri,re⟩,hr⟩: ∃ q,partChk t k=q:=⟨_,rfl⟩;have HR:=Lib.hid hr;have HS:=Lib.hid (show(if re=0 then ttFrom t (10-(k+1)) (k+1)else((k:Int),ri,re))=(p,i,e) by
     rw[←HC.out,show 10-k=(10-(k+1))+1 by omega];show _=(if(partChk t k).2=0 then _ else _)
     rw[hr])
    clear hr;have hkk:k=0∨k=1∨k=2∨k=3∨k=4∨k=5∨k=6∨k=7∨k=8∨k=9:=by omega
    rcases hkk with rfl|rfl|rfl|rfl|rfl|rfl|rfl|rfl|rfl|rfl
    ·
     have g0:wr.cell? ⟨wc.heap.size,0,none⟩=some (.func (.func 17) #[] #[.pointer (some ⟨w.heap.size,0,none⟩)]):=blk_cell Wr.out 0 _ rfl;have hcall:=tck0_c w.heap.size _ ts t (ri,re) HR ok B wr Ar.out RDr hBr ;go_wp2_with (go_at_call 17;refine hcall.mono ?_;rintro y w2 ⟨rfl,b2⟩;have HB2:=Lib.hid b2;clear b2;rcases Int.lt_trichotomy re 0 with h0|h0|h0)
     all_goals first
      |
       go_ret3
       have hE:=HS.out;rw[if_neg (by omega)]at hE;simp only[Prod.mk.injEq]at hE;obtain⟨q1,q2,q3⟩:=hE;exact⟨by rw[←q1,←q2,←q3];rfl,bl_next (bl_next B1.out HBR.out) HB2.out⟩
      |have hE:=HS.out
       rw[if_pos h0]at hE;exact⟨⟨0+1,⟨by omega,by go_num⟩,hE,fun j hj=>by rcases Nat.lt_succ_iff_lt_or_eq.1 hj with h|h<;>first|exact HZ.out j h|(rw[h,HR.out];exact h0),bl_next HBR.out HB2.out⟩,by simp[intOf]⟩
    ·
     have g0:wr.cell? ⟨wc.heap.size,1,none⟩=some (.func (.func 19) #[] #[.pointer (some ⟨w.heap.size,0,none⟩)]):=blk_cell Wr.out 1 _ rfl;have hcall:=tck1_c w.heap.size _ ts t (ri,re) HR ok B wr Ar.out RDr hBr ;go_wp2_with (go_at_call 19;refine hcall.mono ?_;rintro y w2 ⟨rfl,b2⟩;have HB2:=Lib.hid b2;clear b2;rcases Int.lt_trichotomy re 0 with h0|h0|h0)
     all_goals first
      |
       go_ret3
       have hE:=HS.out;rw[if_neg (by omega)]at hE;simp only[Prod.mk.injEq]at hE;obtain⟨q1,q2,q3⟩:=hE;exact⟨by rw[←q1,←q2,←q3];rfl,bl_next (bl_next B1.out HBR.out) HB2.out⟩
      |have hE:=HS.out
       rw[if_pos h0]at hE;exact⟨⟨1+1,⟨by omega,by go_num⟩,hE,fun j hj=>by rcases Nat.lt_succ_iff_lt_or_eq.1 hj with h|h<;>first|exact HZ.out j h|(rw[h,HR.out];exact h0),bl_next HBR.out HB2.out⟩,by simp[intOf]⟩
    ·
     have g0:wr.cell? ⟨wc.heap.size,2,none⟩=some (.func (.func 21) #[] #[.pointer (some ⟨w.heap.size,0,none⟩)]):=blk_cell Wr.out 2 _ rfl;have hcall:=tck2_c w.heap.size _ ts t (ri,re) HR ok B wr Ar.out RDr hBr ;go_wp2_with (go_at_call 21;refine hcall.mono ?_;rintro y w2 ⟨rfl,b2⟩;have HB2:=Lib.hid b2;clear b2;rcases Int.lt_trichotomy re 0 with h0|h0|h0)
     all_goals first
      |
       go_ret3
       have hE:=HS.out;rw[if_neg (by omega)]at hE;simp only[Prod.mk.injEq]at hE;obtain⟨q1,q2,q3⟩:=hE;exact⟨by rw[←q1,←q2,←q3];rfl,bl_next (bl_next B1.out HBR.out) HB2.out⟩
      |have hE:=HS.out
       rw[if_pos h0]at hE;exact⟨⟨2+1,⟨by omega,by go_num⟩,hE,fun j hj=>by rcases Nat.lt_succ_iff_lt_or_eq.1 hj with h|h<;>first|exact HZ.out j h|(rw[h,HR.out];exact h0),bl_next HBR.out HB2.out⟩,by simp[intOf]⟩
    ·
     have g0:wr.cell? ⟨wc.heap.size,3,none⟩=some (.func (.func 23) #[] #[.pointer (some ⟨w.heap.size,0,none⟩), .pointer (some ⟨b7,0,none⟩)]):=blk_cell Wr.out 3 _ rfl;have hcall:=tck3_c w.heap.size _ ts t (ri,re) HR ok B wr Ar.out RDr hBr b7 r7;go_wp2_with (go_at_call 23;refine hcall.mono ?_;rintro y w2 ⟨rfl,b2⟩;have HB2:=Lib.hid b2;clear b2;rcases Int.lt_trichotomy re 0 with h0|h0|h0)
     all_goals first
      |
       go_ret3
       have hE:=HS.out;rw[if_neg (by omega)]at hE;simp only[Prod.mk.injEq]at hE;obtain⟨q1,q2,q3⟩:=hE;exact⟨by rw[←q1,←q2,←q3];rfl,bl_next (bl_next B1.out HBR.out) HB2.out⟩
      |have hE:=HS.out
       rw[if_pos h0]at hE;exact⟨⟨3+1,⟨by omega,by go_num⟩,hE,fun j hj=>by rcases Nat.lt_succ_iff_lt_or_eq.1 hj with h|h<;>first|exact HZ.out j h|(rw[h,HR.out];exact h0),bl_next HBR.out HB2.out⟩,by simp[intOf]⟩
    ·
     have g0:wr.cell? ⟨wc.heap.size,4,none⟩=some (.func (.func 25) #[] #[.pointer (some ⟨w.heap.size,0,none⟩), .pointer (some ⟨b5,0,none⟩), .pointer (some ⟨b6,0,none⟩), .pointer (some ⟨b7,0,none⟩)]):=blk_cell Wr.out 4 _ rfl;have hcall:=tck4_c w.heap.size _ ts t (ri,re) HR ok B wr Ar.out RDr hBr b5 r5 b6 r6 b7 r7;go_wp2_with (go_at_call 25;refine hcall.mono ?_;rintro y w2 ⟨rfl,b2⟩;have HB2:=Lib.hid b2;clear b2;rcases Int.lt_trichotomy re 0 with h0|h0|h0)
     all_goals first
      |
       go_ret3
       have hE:=HS.out;rw[if_neg (by omega)]at hE;simp only[Prod.mk.injEq]at hE;obtain⟨q1,q2,q3⟩:=hE;exact⟨by rw[←q1,←q2,←q3];rfl,bl_next (bl_next B1.out HBR.out) HB2.out⟩
      |have hE:=HS.out
       rw[if_pos h0]at hE;exact⟨⟨4+1,⟨by omega,by go_num⟩,hE,fun j hj=>by rcases Nat.lt_succ_iff_lt_or_eq.1 hj with h|h<;>first|exact HZ.out j h|(rw[h,HR.out];exact h0),bl_next HBR.out HB2.out⟩,by simp[intOf]⟩
    ·
     have g0:wr.cell? ⟨wc.heap.size,5,none⟩=some (.func (.func 27) #[] #[.pointer (some ⟨w.heap.size,0,none⟩)]):=blk_cell Wr.out 5 _ rfl;have hcall:=tck5_c w.heap.size _ ts t (ri,re) HR ok B wr Ar.out RDr hBr  (fun x hx=>trips_short (stops:=t.stops.length) (routes:=t.routes.length) (cals:=t.cals.length) (by rw[←RD.out.same];exact HZ.out 4 (by omega)) x hx);go_wp2_with (go_at_call 27;refine hcall.mono ?_;rintro y w2 ⟨rfl,b2⟩;have HB2:=Lib.hid b2;clear b2;rcases Int.lt_trichotomy re 0 with h0|h0|h0)
     all_goals first
      |
       go_ret3
       have hE:=HS.out;rw[if_neg (by omega)]at hE;simp only[Prod.mk.injEq]at hE;obtain⟨q1,q2,q3⟩:=hE;exact⟨by rw[←q1,←q2,←q3];rfl,bl_next (bl_next B1.out HBR.out) HB2.out⟩
      |have hE:=HS.out
       rw[if_pos h0]at hE;exact⟨⟨5+1,⟨by omega,by go_num⟩,hE,fun j hj=>by rcases Nat.lt_succ_iff_lt_or_eq.1 hj with h|h<;>first|exact HZ.out j h|(rw[h,HR.out];exact h0),bl_next HBR.out HB2.out⟩,by simp[intOf]⟩
    ·
     have g0:wr.cell? ⟨wc.heap.size,6,none⟩=some (.func (.func 29) #[] #[.pointer (some ⟨w.heap.size,0,none⟩)]):=blk_cell Wr.out 6 _ rfl;have hcall:=tck6_c w.heap.size _ ts t (ri,re) HR ok B wr Ar.out RDr hBr ;go_wp2_with (go_at_call 29;refine hcall.mono ?_;rintro y w2 ⟨rfl,b2⟩;have HB2:=Lib.hid b2;clear b2;rcases Int.lt_trichotomy re 0 with h0|h0|h0)
     all_goals first
      |
       go_ret3
       have hE:=HS.out;rw[if_neg (by omega)]at hE;simp only[Prod.mk.injEq]at hE;obtain⟨q1,q2,q3⟩:=hE;exact⟨by rw[←q1,←q2,←q3];rfl,bl_next (bl_next B1.out HBR.out) HB2.out⟩
      |have hE:=HS.out
       rw[if_pos h0]at hE;exact⟨⟨6+1,⟨by omega,by go_num⟩,hE,fun j hj=>by rcases Nat.lt_succ_iff_lt_or_eq.1 hj with h|h<;>first|exact HZ.out j h|(rw[h,HR.out];exact h0),bl_next HBR.out HB2.out⟩,by simp[intOf]⟩
    ·
     have g0:wr.cell? ⟨wc.heap.size,7,none⟩=some (.func (.func 31) #[] #[.pointer (some ⟨w.heap.size,0,none⟩), .pointer (some ⟨b5,0,none⟩)]):=blk_cell Wr.out 7 _ rfl;have hcall:=tck7_c w.heap.size _ ts t (ri,re) HR ok B wr Ar.out RDr hBr b5 r5;go_wp2_with (go_at_call 31;refine hcall.mono ?_;rintro y w2 ⟨rfl,b2⟩;have HB2:=Lib.hid b2;clear b2;rcases Int.lt_trichotomy re 0 with h0|h0|h0)
     all_goals first
      |
       go_ret3
       have hE:=HS.out;rw[if_neg (by omega)]at hE;simp only[Prod.mk.injEq]at hE;obtain⟨q1,q2,q3⟩:=hE;exact⟨by rw[←q1,←q2,←q3];rfl,bl_next (bl_next B1.out HBR.out) HB2.out⟩
      |have hE:=HS.out
       rw[if_pos h0]at hE;exact⟨⟨7+1,⟨by omega,by go_num⟩,hE,fun j hj=>by rcases Nat.lt_succ_iff_lt_or_eq.1 hj with h|h<;>first|exact HZ.out j h|(rw[h,HR.out];exact h0),bl_next HBR.out HB2.out⟩,by simp[intOf]⟩
    ·
     have g0:wr.cell? ⟨wc.heap.size,8,none⟩=some (.func (.func 33) #[] #[.pointer (some ⟨w.heap.size,0,none⟩), .pointer (some ⟨b5,0,none⟩)]):=blk_cell Wr.out 8 _ rfl;have hcall:=tck8_c w.heap.size _ ts t (ri,re) HR ok B wr Ar.out RDr hBr b5 r5;go_wp2_with (go_at_call 33;refine hcall.mono ?_;rintro y w2 ⟨rfl,b2⟩;have HB2:=Lib.hid b2;clear b2;rcases Int.lt_trichotomy re 0 with h0|h0|h0)
     all_goals first
      |
       go_ret3
       have hE:=HS.out;rw[if_neg (by omega)]at hE;simp only[Prod.mk.injEq]at hE;obtain⟨q1,q2,q3⟩:=hE;exact⟨by rw[←q1,←q2,←q3];rfl,bl_next (bl_next B1.out HBR.out) HB2.out⟩
      |have hE:=HS.out
       rw[if_pos h0]at hE;exact⟨⟨8+1,⟨by omega,by go_num⟩,hE,fun j hj=>by rcases Nat.lt_succ_iff_lt_or_eq.1 hj with h|h<;>first|exact HZ.out j h|(rw[h,HR.out];exact h0),bl_next HBR.out HB2.out⟩,by simp[intOf]⟩
    ·
     have g0:wr.cell? ⟨wc.heap.size,9,none⟩=some (.func (.func 35) #[] #[.pointer (some ⟨w.heap.size,0,none⟩)]):=blk_cell Wr.out 9 _ rfl;have hcall:=tck9_c w.heap.size _ ts t (ri,re) HR ok B wr Ar.out RDr hBr ;go_wp2_with (go_at_call 35;refine hcall.mono ?_;rintro y w2 ⟨rfl,b2⟩;have HB2:=Lib.hid b2;clear b2;rcases Int.lt_trichotomy re 0 with h0|h0|h0)
     all_goals first
      |
       go_ret3
       have hE:=HS.out;rw[if_neg (by omega)]at hE;simp only[Prod.mk.injEq]at hE;obtain⟨q1,q2,q3⟩:=hE;exact⟨by rw[←q1,←q2,←q3];rfl,bl_next (bl_next B1.out HBR.out) HB2.out⟩
      |have hE:=HS.out
       rw[if_pos h0]at hE;exact⟨⟨9+1,⟨by omega,by go_num⟩,hE,fun j hj=>by rcases Nat.lt_succ_iff_lt_or_eq.1 hj with h|h<;>first|exact HZ.out j h|(rw[h,HR.out];exact h0),bl_next HBR.out HB2.out⟩,by simp[intOf]⟩
   ·
    have hE:=HC.out;have hk10:k=10:=by omega
    subst hk10;have HE:=Lib.hid (show((0:Int),(0:Int),(0:Int))=(p,i,e) from hE);clear hE;go_wp2;go_ret3
    have hE:=HE.out;simp only[Prod.mk.injEq]at hE;obtain⟨q1,q2,q3⟩:=hE;exact⟨by rw[←q1,←q2,←q3];rfl,bl_next B1.out HBR.out⟩
end Go.Proofs.YtncbcmiflffakaaGreat
