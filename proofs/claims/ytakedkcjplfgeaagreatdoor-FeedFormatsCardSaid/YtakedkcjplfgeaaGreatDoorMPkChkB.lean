/- Contracts, proved. Conditions: each contract's own. -/
import Derived.Test.YtakedkcjplfgeaaGreatDoorMPkChkA
import Derived.Test.YtakedkcjplfgeaaGreatDoorMPkThB
set_option maxRecDepth 1000000
set_option maxHeartbeats 32000000
namespace Go.Proofs.YtakedkcjplfgeaaGreatDoor
open Go.RowKit
open Frq Thr Tt
theorem O9 (b:Nat) (V:TtV) (ts:List TripD) (t:TtD) (r:Int×Int) (H:Hid (zV t 0=r)) (ok:Hid (ZZ t)) (B:Nat) (w:World) (hat:JV b V t.fares w) (rd:Hid (yA B w V ts t)) (hB:B<=w.heap.size):
  Calls Tryz.prog 42 #[.pointer (some ⟨b,0,none⟩)] w fun e w'=>e= .returned (.tuple #[.int .i64 r.1, .int .i64 r.2])/\Bl w w':=by
 have c0:w.cell? ⟨b,0,none⟩=some (V.stops):=qC hat 0 _ rfl;have hc:=NF V.stops t.stops r H ok.out.stops B w rd.out.stops hB;clear hat;go_enter Tryz.func42,Tryz.ntmps42
 go_wp2_with (go_at_call 43;refine hc.mono ?_;rintro e w1 ⟨rfl,b1⟩;have HB1:=qA b1;clear b1)
 go_ret2;exact⟨rfl,HB1.out⟩
theorem PD (b:Nat) (V:TtV) (ts:List TripD) (t:TtD) (r:Int×Int) (H:Hid (zV t 1=r)) (ok:Hid (ZZ t)) (B:Nat) (w:World) (hat:JV b V t.fares w) (rd:Hid (yA B w V ts t)) (hB:B<=w.heap.size):
  Calls Tryz.prog 44 #[.pointer (some ⟨b,0,none⟩)] w fun e w'=>e= .returned (.tuple #[.int .i64 r.1, .int .i64 r.2])/\Bl w w':=by
 have c1:w.cell? ⟨b,1,none⟩=some (V.routes):=qC hat 1 _ rfl;have hc:=Hz V.routes t.routes r H ok.out.routes B w rd.out.routes hB;clear hat;go_enter Tryz.func44,Tryz.ntmps44
 go_wp2_with (go_at_call 45;refine hc.mono ?_;rintro e w1 ⟨rfl,b1⟩;have HB1:=qA b1;clear b1)
 go_ret2;exact⟨rfl,HB1.out⟩
theorem PE (b:Nat) (V:TtV) (ts:List TripD) (t:TtD) (r:Int×Int) (H:Hid (zV t 2=r)) (ok:Hid (ZZ t)) (B:Nat) (w:World) (hat:JV b V t.fares w) (rd:Hid (yA B w V ts t)) (hB:B<=w.heap.size):
  Calls Tryz.prog 46 #[.pointer (some ⟨b,0,none⟩)] w fun e w'=>e= .returned (.tuple #[.int .i64 r.1, .int .i64 r.2])/\Bl w w':=by
 have c2:w.cell? ⟨b,2,none⟩=some (V.cals):=qC hat 2 _ rfl;have hc:=OA V.cals t.cals r H ok.out.cals B w rd.out.cals hB;clear hat;go_enter Tryz.func46,Tryz.ntmps46
 go_wp2_with (go_at_call 47;refine hc.mono ?_;rintro e w1 ⟨rfl,b1⟩;have HB1:=qA b1;clear b1)
 go_ret2;exact⟨rfl,HB1.out⟩
theorem PG (b:Nat) (V:TtV) (ts:List TripD) (t:TtD) (r:Int×Int) (H:Hid (zV t 3=r)) (ok:Hid (ZZ t)) (B:Nat) (w:World) (hat:JV b V t.fares w) (rd:Hid (yA B w V ts t)) (hB:B<=w.heap.size) (ic:Nat) (hic:w.cell? ⟨ic,0,none⟩=some (.int .i64 (t.cals.length))):
  Calls Tryz.prog 48 #[.pointer (some ⟨b,0,none⟩), .pointer (some ⟨ic,0,none⟩)] w fun e w'=>e= .returned (.tuple #[.int .i64 r.1, .int .i64 r.2])/\Bl w w':=by
 have c3:w.cell? ⟨b,3,none⟩=some (V.excs):=qC hat 3 _ rfl;have hc:=OJ V.excs t.excs t.cals.length r H ok.out.excs B w rd.out.excs hB;clear hat;go_enter Tryz.func48,Tryz.ntmps48
 go_wp2_with (go_at_call 49;refine hc.mono ?_;rintro e w1 ⟨rfl,b1⟩;have HB1:=qA b1;clear b1)
 go_ret2;exact⟨rfl,HB1.out⟩
theorem PH (b:Nat) (V:TtV) (ts:List TripD) (t:TtD) (r:Int×Int) (H:Hid (zV t 4=r)) (ok:Hid (ZZ t)) (B:Nat) (w:World) (hat:JV b V t.fares w) (rd:Hid (yA B w V ts t)) (hB:B<=w.heap.size) (is:Nat) (his:w.cell? ⟨is,0,none⟩=some (.int .i64 (t.stops.length))) (ir:Nat) (hir:w.cell? ⟨ir,0,none⟩=some (.int .i64 (t.routes.length))) (ic:Nat) (hic:w.cell? ⟨ic,0,none⟩=some (.int .i64 (t.cals.length))):
  Calls Tryz.prog 50 #[.pointer (some ⟨b,0,none⟩), .pointer (some ⟨is,0,none⟩), .pointer (some ⟨ir,0,none⟩), .pointer (some ⟨ic,0,none⟩)] w fun e w'=>e= .returned (.tuple #[.int .i64 r.1, .int .i64 r.2])/\Bl w w':=by
 have c4:w.cell? ⟨b,4,none⟩=some (V.trips):=qC hat 4 _ rfl;have hc:=NI V.trips ts t.stops.length t.routes.length t.cals.length t.trips rd.out.same r H ok.out.trips B w rd.out.trips hB;clear hat;go_enter Tryz.func50,Tryz.ntmps50
 go_wp2_with (go_at_call 51;refine hc.mono ?_;rintro e w1 ⟨rfl,b1⟩;have HB1:=qA b1;clear b1)
 go_ret2;exact⟨rfl,HB1.out⟩
theorem PI (b:Nat) (V:TtV) (ts:List TripD) (t:TtD) (r:Int×Int) (H:Hid (zV t 5=r)) (_:Hid (ZZ t)) (B:Nat) (w:World) (hat:JV b V t.fares w) (rd:Hid (yA B w V ts t)) (hB:B<=w.heap.size) (hshort: ∀ x∈ts,x.calls.length<=32):
  Calls Tryz.prog 52 #[.pointer (some ⟨b,0,none⟩)] w fun e w'=>e= .returned (.tuple #[.int .i64 r.1, .int .i64 r.2])/\Bl w w':=by
 have c5:w.cell? ⟨b,5,none⟩=some (V.freqs):=qC hat 5 _ rfl;have c4:w.cell? ⟨b,4,none⟩=some (V.trips):=qC hat 4 _ rfl;have HF:Hid (Fq.qZ (t.freqs.map zS) ts=r):=by show _=_;rw[V5,<-rd.out.same];exact H.out
 have hT:Fq.WV B w V.trips ts:=⟨rd.out.trips.sl,fun x hx=>⟨(rd.out.trips.ok x hx).calls,(rd.out.trips.ok x hx).ok,by have:=hshort x hx;omega⟩⟩;have hc:=Fq.gB V.freqs (t.freqs.map zS) V.trips ts r HF B w rd.out.freqs hT hB;clear hat;go_enter Tryz.func52,Tryz.ntmps52
 go_wp2_with (go_at_call 53;refine hc.mono ?_;rintro e w1 ⟨rfl,b1⟩;have HB1:=qA b1;clear b1)
 go_ret2;exact⟨rfl,HB1.out⟩
theorem PK (b:Nat) (V:TtV) (ts:List TripD) (t:TtD) (r:Int×Int) (H:Hid (zV t 6=r)) (ok:Hid (ZZ t)) (B:Nat) (w:World) (hat:JV b V t.fares w) (rd:Hid (yA B w V ts t)) (hB:B<=w.heap.size):
  Calls Tryz.prog 54 #[.pointer (some ⟨b,0,none⟩)] w fun e w'=>e= .returned (.tuple #[.int .i64 r.1, .int .i64 r.2])/\Bl w w':=by
 have c6:w.cell? ⟨b,6,none⟩=some (V.thrus):=qC hat 6 _ rfl;have c4:w.cell? ⟨b,4,none⟩=some (V.trips):=qC hat 4 _ rfl;have c5:w.cell? ⟨b,5,none⟩=some (V.freqs):=qC hat 5 _ rfl;have HF:Hid (qZ 128 (zU (ts.map trpOf) (t.freqs.map zS)) (t.thrus.map ja)=r):=by show _=_;rw[<-Jj,<-rd.out.same];exact H.out
 have hX: ∀ x∈t.thrus.map ja,Th.Ry x:=fun x hx=>by obtain⟨y,hy,rfl⟩:=List.mem_map.1 hx;exact ok.out.thrus y hy
 have hc:=Th.gB V.thrus V.trips V.freqs (t.thrus.map ja) ts (t.freqs.map zS) r HF hX B w rd.out.thrus rd.out.trips rd.out.freqs hB;clear hat;go_enter Tryz.func54,Tryz.ntmps54
 go_wp2_with (go_at_call 55;refine hc.mono ?_;rintro e w1 ⟨rfl,b1⟩;have HB1:=qA b1;clear b1)
 go_ret2;exact⟨rfl,HB1.out⟩
theorem PL (b:Nat) (V:TtV) (ts:List TripD) (t:TtD) (r:Int×Int) (H:Hid (zV t 7=r)) (ok:Hid (ZZ t)) (B:Nat) (w:World) (hat:JV b V t.fares w) (rd:Hid (yA B w V ts t)) (hB:B<=w.heap.size) (is:Nat) (his:w.cell? ⟨is,0,none⟩=some (.int .i64 (t.stops.length))):
  Calls Tryz.prog 56 #[.pointer (some ⟨b,0,none⟩), .pointer (some ⟨is,0,none⟩)] w fun e w'=>e= .returned (.tuple #[.int .i64 r.1, .int .i64 r.2])/\Bl w w':=by
 have c7:w.cell? ⟨b,7,none⟩=some (V.guars):=qC hat 7 _ rfl;have c4:w.cell? ⟨b,4,none⟩=some (V.trips):=qC hat 4 _ rfl;have c5:w.cell? ⟨b,5,none⟩=some (V.freqs):=qC hat 5 _ rfl;have HF:Hid (qZ 128 (zk (ts.map trpOf) (t.freqs.map zS) t.stops.length) t.guars=r):=by show _=_;rw[<-Jj,<-rd.out.same];exact H.out
 have hc:=Th.F6 V.guars V.trips V.freqs t.guars ts (t.freqs.map zS) t.stops.length r HF ok.out.guars B w rd.out.guars rd.out.trips rd.out.freqs hB;clear hat;go_enter Tryz.func56,Tryz.ntmps56
 go_wp2_with (go_at_call 57;refine hc.mono ?_;rintro e w1 ⟨rfl,b1⟩;have HB1:=qA b1;clear b1)
 go_ret2;exact⟨rfl,HB1.out⟩
theorem PM (b:Nat) (V:TtV) (ts:List TripD) (t:TtD) (r:Int×Int) (H:Hid (zV t 8=r)) (ok:Hid (ZZ t)) (B:Nat) (w:World) (hat:JV b V t.fares w) (rd:Hid (yA B w V ts t)) (hB:B<=w.heap.size) (is:Nat) (his:w.cell? ⟨is,0,none⟩=some (.int .i64 (t.stops.length))):
  Calls Tryz.prog 58 #[.pointer (some ⟨b,0,none⟩), .pointer (some ⟨is,0,none⟩)] w fun e w'=>e= .returned (.tuple #[.int .i64 r.1, .int .i64 r.2])/\Bl w w':=by
 have c8:w.cell? ⟨b,8,none⟩=some (V.paths):=qC hat 8 _ rfl;have hc:=MM V.paths t.paths t.stops.length r H ok.out.paths B w rd.out.paths hB;clear hat;go_enter Tryz.func58,Tryz.ntmps58
 go_wp2_with (go_at_call 59;refine hc.mono ?_;rintro e w1 ⟨rfl,b1⟩;have HB1:=qA b1;clear b1)
 go_ret2;exact⟨rfl,HB1.out⟩
theorem PN (b:Nat) (V:TtV) (ts:List TripD) (t:TtD) (r:Int×Int) (H:Hid (zV t 9=r)) (ok:Hid (ZZ t)) (B:Nat) (w:World) (hat:JV b V t.fares w) (rd:Hid (yA B w V ts t)) (hB:B<=w.heap.size):
  Calls Tryz.prog 60 #[.pointer (some ⟨b,0,none⟩)] w fun e w'=>e= .returned (.tuple #[.int .i64 r.1, .int .i64 r.2])/\Bl w w':=by
 have c9:w.cell? ⟨b,9,none⟩=some (V.prods):=qC hat 9 _ rfl;have c10:w.cell? ⟨b,10,none⟩=some (.int .i64 t.fares.disc):=qC hat 10 _ rfl;have c11:w.cell? ⟨b,11,none⟩=some (.int .i64 t.fares.within):=qC hat 11 _ rfl;have c12:w.cell? ⟨b,12,none⟩=some (.int .i64 t.fares.cap):=qC hat 12 _ rfl;have hc:=MR V.prods t.fares r H ok.out.prods B w rd.out.prods hB;clear hat;go_enter Tryz.func60,Tryz.ntmps60
 go_wp2_with (go_at_call 61;refine hc.mono ?_;rintro e w1 ⟨rfl,b1⟩;have HB1:=qA b1;clear b1)
 go_ret2;exact⟨rfl,HB1.out⟩
theorem xw {w0:World} {n:Nat} (h:w0.heap.size=n) (x y z:Value) (T:TypeId):
  (((((w0.alloc (.cells #[x] T)).alloc (.cells #[y] T)).alloc (.cells #[z] T)).drew).cell? ⟨n,0,none⟩=some x/\((((w0.alloc (.cells #[x] T)).alloc (.cells #[y] T)).alloc (.cells #[z] T)).drew).cell? ⟨n+1,0,none⟩=some y/\((((w0.alloc (.cells #[x] T)).alloc (.cells #[y] T)).alloc (.cells #[z] T)).drew).cell? ⟨n+1+1,0,none⟩=some z)
  /\((((w0.alloc (.cells #[x] T)).alloc (.cells #[y] T)).alloc (.cells #[z] T)).drew).heap.size=n+3/\Bl w0 ((((w0.alloc (.cells #[x] T)).alloc (.cells #[y] T)).alloc (.cells #[z] T)).drew):=by
 subst h;have h1:=qC (heap_alloc_new w0 (.cells #[x] T)) 0 x rfl;have h2:=qC (heap_alloc_new (w0.alloc (.cells #[x] T)) (.cells #[y] T)) 0 y rfl;have h3:=qC (heap_alloc_new ((w0.alloc (.cells #[x] T)).alloc (.cells #[y] T)) (.cells #[z] T)) 0 z rfl;simp only[World.size_alloc]at h2 h3;refine⟨⟨?_, ?_, ?_⟩,by show(((w0.alloc _).alloc _).alloc _).heap.size=_;simp,qH (qE (qE (qE (qB _) _) _) _)⟩
 ·
  have b:Bl (w0.alloc (.cells #[x] T)) ((((w0.alloc (.cells #[x] T)).alloc (.cells #[y] T)).alloc (.cells #[z] T)).drew):=qH (qE (qE (qB _) _) _);exact((qG b).1 _ _ (by simp)).trans h1
 ·
  have b:Bl ((w0.alloc (.cells #[x] T)).alloc (.cells #[y] T)) ((((w0.alloc (.cells #[x] T)).alloc (.cells #[y] T)).alloc (.cells #[z] T)).drew):=qH (qE (qB _) _);exact((qG b).1 _ _ (by simp)).trans h2
 · exact h3
theorem pY (V:TtV) (ts:List TripD) (t:TtD) (p i e:Int) (H:Hid (Qj t=(p,i,e))) (ok:Hid (ZZ t)) (B:Nat) (w:World) (rd:yA B w V ts t) (hB:B<=w.heap.size):
  Calls Tryz.prog 21 #[JP V t] w fun q w'=>q= .returned (.tuple #[.int .i64 p, .int .i64 i, .int .i64 e])/\Bl w w':=by
 have RD:=qA rd;obtain⟨v0,v1,v2,v3,v4,v5,v6,v7,v8,v9⟩:=V;obtain⟨a0,k0,(rfl:v0=_),-,-⟩:=rd.stops.val;obtain⟨a1,k1,(rfl:v1=_),-,-⟩:=rd.routes.val;obtain⟨a2,k2,(rfl:v2=_),-,-⟩:=rd.cals.val;obtain⟨a3,k3,(rfl:v3=_),-,-⟩:=rd.excs.val;obtain⟨a4,k4,(rfl:v4=_),-,-⟩:=rd.trips.sl.val;obtain⟨a5,k5,(rfl:v5=_),-,-⟩:=rd.freqs.val;obtain⟨a6,k6,(rfl:v6=_),-,-⟩:=rd.thrus.val;obtain⟨a7,k7,(rfl:v7=_),-,-⟩:=rd.guars.val;obtain⟨a8,k8,(rfl:v8=_),-,-⟩:=rd.paths.val;obtain⟨a9,k9,(rfl:v9=_),-,-⟩:=rd.prods.val;clear rd;unfold JP;simp only[U4]at RD ⊢;obtain⟨w0,hw0⟩: ∃ w0,w.alloc (.cells (Qa ⟨.slice a0 t.stops.length k0, .slice a1 t.routes.length k1, .slice a2 t.cals.length k2, .slice a3 t.excs.length k3, .slice a4 ts.length k4, .slice a5 t.freqs.length k5, .slice a6 t.thrus.length k6, .slice a7 t.guars.length k7, .slice a8 t.paths.length k8, .slice a9 t.fares.prods.length k9⟩ t.fares) 36)=w0:=⟨_,rfl⟩;have A0:=qA (show JV w.heap.size ⟨.slice a0 t.stops.length k0, .slice a1 t.routes.length k1, .slice a2 t.cals.length k2, .slice a3 t.excs.length k3, .slice a4 ts.length k4, .slice a5 t.freqs.length k5, .slice a6 t.thrus.length k6, .slice a7 t.guars.length k7, .slice a8 t.paths.length k8, .slice a9 t.fares.prods.length k9⟩ t.fares w0 by rw[<-hw0];exact heap_alloc_new w _);have B0:=qA (show Bl w w0 by rw[<-hw0];exact qE (qB _) _);have s0:w0.heap.size=w.heap.size+1:=by rw[<-hw0];simp
 have c0:w0.cell? ⟨w.heap.size,0,none⟩=some (.slice a0 t.stops.length k0):=qC A0.out 0 _ rfl;have c1:w0.cell? ⟨w.heap.size,1,none⟩=some (.slice a1 t.routes.length k1):=qC A0.out 1 _ rfl;have c2:w0.cell? ⟨w.heap.size,2,none⟩=some (.slice a2 t.cals.length k2):=qC A0.out 2 _ rfl;simp only[Qa]at hw0;go_enter Tryz.func21,Tryz.ntmps21
 go_upto_region 1 with fail
 go_cut [5,6,7] (fun s5 s6 s7 wx=> ∃ b5 b6 b7:Nat,s5= .pointer (some ⟨b5,0,none⟩)/\s6= .pointer (some ⟨b6,0,none⟩)/\s7= .pointer (some ⟨b7,0,none⟩)/\wx.cell? ⟨b5,0,none⟩=some (.int .i64 t.stops.length)/\wx.cell? ⟨b6,0,none⟩=some (.int .i64 t.routes.length)/\wx.cell? ⟨b7,0,none⟩=some (.int .i64 t.cals.length)/\(b5<wx.heap.size/\b6<wx.heap.size/\b7<wx.heap.size)/\Bl w0 wx)
 case first=>
  rename_i J0 K0 hJ0 hK0;go_region
  all_goals
   refine hK0 _ _ (Met.intro (hJ0 _ _ ?_));repeat apply Exists.intro
   refine⟨?rel,rfl⟩;case rel=>
    try rw[hw0]
    first
     |(have q:=xw s0 (.int .i64 t.stops.length) (.int .i64 t.routes.length) (.int .i64 t.cals.length) 3;exact⟨_,_,_,rfl,rfl,rfl,q.1.1,q.1.2.1,q.1.2.2,by rw[q.2.1];omega,q.2.2⟩)
     |(have q:=xw s0 (.int .i64 t.stops.length) (.int .i64 t.cals.length) (.int .i64 t.routes.length) 3;exact⟨_,_,_,rfl,rfl,rfl,q.1.1,q.1.2.2,q.1.2.1,by rw[q.2.1];omega,q.2.2⟩)
     |(have q:=xw s0 (.int .i64 t.routes.length) (.int .i64 t.stops.length) (.int .i64 t.cals.length) 3;exact⟨_,_,_,rfl,rfl,rfl,q.1.2.1,q.1.1,q.1.2.2,by rw[q.2.1];omega,q.2.2⟩)
     |(have q:=xw s0 (.int .i64 t.routes.length) (.int .i64 t.cals.length) (.int .i64 t.stops.length) 3;exact⟨_,_,_,rfl,rfl,rfl,q.1.2.2,q.1.1,q.1.2.1,by rw[q.2.1];omega,q.2.2⟩)
     |(have q:=xw s0 (.int .i64 t.cals.length) (.int .i64 t.stops.length) (.int .i64 t.routes.length) 3;exact⟨_,_,_,rfl,rfl,rfl,q.1.2.1,q.1.2.2,q.1.1,by rw[q.2.1];omega,q.2.2⟩)
     |(have q:=xw s0 (.int .i64 t.cals.length) (.int .i64 t.routes.length) (.int .i64 t.stops.length) 3;exact⟨_,_,_,rfl,rfl,rfl,q.1.2.2,q.1.2.1,q.1.1,by rw[q.2.1];omega,q.2.2⟩)
 case rest=>
  obtain⟨b5,b6,b7,rfl,rfl,rfl,x5,x6,x7,⟨l5,l6,l7⟩,bc⟩:=hcut;have BC:=qA (qF B0.out bc);have AC:=qA (show JV w.heap.size _ _ wc from qX A0.out bc);have hsz:=bc.size;clear bc c0 c1 c2 hw0;obtain⟨w1,hw1⟩: ∃ w1,wc.alloc (.cells #[.func (.func 42) #[] #[.pointer (some ⟨w.heap.size,0,none⟩)], .func (.func 44) #[] #[.pointer (some ⟨w.heap.size,0,none⟩)], .func (.func 46) #[] #[.pointer (some ⟨w.heap.size,0,none⟩)], .func (.func 48) #[] #[.pointer (some ⟨w.heap.size,0,none⟩), .pointer (some ⟨b7,0,none⟩)], .func (.func 50) #[] #[.pointer (some ⟨w.heap.size,0,none⟩), .pointer (some ⟨b5,0,none⟩), .pointer (some ⟨b6,0,none⟩), .pointer (some ⟨b7,0,none⟩)], .func (.func 52) #[] #[.pointer (some ⟨w.heap.size,0,none⟩)], .func (.func 54) #[] #[.pointer (some ⟨w.heap.size,0,none⟩)], .func (.func 56) #[] #[.pointer (some ⟨w.heap.size,0,none⟩), .pointer (some ⟨b5,0,none⟩)], .func (.func 58) #[] #[.pointer (some ⟨w.heap.size,0,none⟩), .pointer (some ⟨b5,0,none⟩)], .func (.func 60) #[] #[.pointer (some ⟨w.heap.size,0,none⟩)]] 103)=w1:=⟨_,rfl⟩;have W1:=qA (show w1.heap[wc.heap.size]? =some (.cells #[.func (.func 42) #[] #[.pointer (some ⟨w.heap.size,0,none⟩)], .func (.func 44) #[] #[.pointer (some ⟨w.heap.size,0,none⟩)], .func (.func 46) #[] #[.pointer (some ⟨w.heap.size,0,none⟩)], .func (.func 48) #[] #[.pointer (some ⟨w.heap.size,0,none⟩), .pointer (some ⟨b7,0,none⟩)], .func (.func 50) #[] #[.pointer (some ⟨w.heap.size,0,none⟩), .pointer (some ⟨b5,0,none⟩), .pointer (some ⟨b6,0,none⟩), .pointer (some ⟨b7,0,none⟩)], .func (.func 52) #[] #[.pointer (some ⟨w.heap.size,0,none⟩)], .func (.func 54) #[] #[.pointer (some ⟨w.heap.size,0,none⟩)], .func (.func 56) #[] #[.pointer (some ⟨w.heap.size,0,none⟩), .pointer (some ⟨b5,0,none⟩)], .func (.func 58) #[] #[.pointer (some ⟨w.heap.size,0,none⟩), .pointer (some ⟨b5,0,none⟩)], .func (.func 60) #[] #[.pointer (some ⟨w.heap.size,0,none⟩)]] 103 (0,0)) by rw[<-hw1];exact heap_alloc_new wc _);have b1:Bl wc w1:=by rw[<-hw1];exact qE (qB _) _
  have A1:=qA (show JV w.heap.size _ _ w1 from qX AC.out b1);have B1:=qA (qF BC.out b1);have y5:w1.cell? ⟨b5,0,none⟩=some (.int .i64 t.stops.length):=((qG b1).1 _ _ l5).trans x5;have y6:w1.cell? ⟨b6,0,none⟩=some (.int .i64 t.routes.length):=((qG b1).1 _ _ l6).trans x6;have y7:w1.cell? ⟨b7,0,none⟩=some (.int .i64 t.cals.length):=((qG b1).1 _ _ l7).trans x7;have s1:=b1.size;clear x5 x6 x7;have HH:Hid (wZ t 10 0=(p,i,e)):=H.out;go_wp2_with fail;clear hw1 b1;go_loopw [35] (fun i' wr=> ∃ k:Nat,(k<=10/\i'= .int .i64 k)/\Hid (wZ t (10-k) k=(p,i,e))/\Hid (∀ j,j<k->(zV t j).2=0)/\Bl w1 wr) (fun i' _=>10-(intOf i').toNat)
  case atStart=>exact⟨0,⟨by omega,rfl⟩,HH,fun j hj=>absurd hj (Nat.not_lt_zero j),qB _⟩
  case round=>
   obtain⟨k,⟨hk,rfl⟩,HC,HZ,hbl⟩:=hrel;have z1:=hbl.size;have RDr:=qA (RD.out.bl (qF B1.out hbl) hB);have Ar:=qA (show JV w.heap.size _ _ wr from qX A1.out hbl);have Wr:=qA (qX W1.out hbl);have r5:wr.cell? ⟨b5,0,none⟩=some (.int .i64 t.stops.length):=((qG hbl).1 _ _ (by omega)).trans y5;have r6:wr.cell? ⟨b6,0,none⟩=some (.int .i64 t.routes.length):=((qG hbl).1 _ _ (by omega)).trans y6;have r7:wr.cell? ⟨b7,0,none⟩=some (.int .i64 t.cals.length):=((qG hbl).1 _ _ (by omega)).trans y7;have hBr:B<=wr.heap.size:=Ux hB (qF B1.out hbl).size;have HBR:=qA hbl;by_cases hlt:k<10
   ·
    obtain⟨⟨ri,re⟩,hr⟩: ∃ q,zV t k=q:=⟨_,rfl⟩;have HR:=qA hr;have HS:=qA (show(if re=0 then wZ t (10-(k+1)) (k+1)else((k:Int),ri,re))=(p,i,e) by
     rw[<-HC.out,show 10-k=(10-(k+1))+1 by omega];show _=(if(zV t k).2=0 then _ else _)
     rw[hr])
    clear hr;have hkk:k=0∨k=1∨k=2∨k=3∨k=4∨k=5∨k=6∨k=7∨k=8∨k=9:=by omega
    rcases hkk with rfl|rfl|rfl|rfl|rfl|rfl|rfl|rfl|rfl|rfl
    ·
     have g0:wr.cell? ⟨wc.heap.size,0,none⟩=some (.func (.func 42) #[] #[.pointer (some ⟨w.heap.size,0,none⟩)]):=qC Wr.out 0 _ rfl;have hcall:=O9 w.heap.size _ ts t (ri,re) HR ok B wr Ar.out RDr hBr ;go_wp2_with (go_at_call 42;refine hcall.mono ?_;rintro y w2 ⟨rfl,b2⟩;have HB2:=qA b2;clear b2;rcases Int.lt_trichotomy re 0 with h0|h0|h0)
     all_goals first
      |
       go_ret3
       have hE:=HS.out;rw[U5 (by omega)]at hE;simp only[qAF]at hE;obtain⟨q1,q2,q3⟩:=hE;exact⟨by rw[<-q1,<-q2,<-q3];rfl,qF (qF B1.out HBR.out) HB2.out⟩
      |have hE:=HS.out
       rw[U6 h0]at hE;exact⟨⟨0+1,⟨by omega,by go_num⟩,hE,fun j hj=>by rcases Nat.lt_succ_iff_lt_or_eq.1 hj with h|h<;>first|exact HZ.out j h|(rw[h,HR.out];exact h0),qF HBR.out HB2.out⟩,by simp[intOf]⟩
    ·
     have g0:wr.cell? ⟨wc.heap.size,1,none⟩=some (.func (.func 44) #[] #[.pointer (some ⟨w.heap.size,0,none⟩)]):=qC Wr.out 1 _ rfl;have hcall:=PD w.heap.size _ ts t (ri,re) HR ok B wr Ar.out RDr hBr ;go_wp2_with (go_at_call 44;refine hcall.mono ?_;rintro y w2 ⟨rfl,b2⟩;have HB2:=qA b2;clear b2;rcases Int.lt_trichotomy re 0 with h0|h0|h0)
     all_goals first
      |
       go_ret3
       have hE:=HS.out;rw[U5 (by omega)]at hE;simp only[qAF]at hE;obtain⟨q1,q2,q3⟩:=hE;exact⟨by rw[<-q1,<-q2,<-q3];rfl,qF (qF B1.out HBR.out) HB2.out⟩
      |have hE:=HS.out
       rw[U6 h0]at hE;exact⟨⟨1+1,⟨by omega,by go_num⟩,hE,fun j hj=>by rcases Nat.lt_succ_iff_lt_or_eq.1 hj with h|h<;>first|exact HZ.out j h|(rw[h,HR.out];exact h0),qF HBR.out HB2.out⟩,by simp[intOf]⟩
    ·
     have g0:wr.cell? ⟨wc.heap.size,2,none⟩=some (.func (.func 46) #[] #[.pointer (some ⟨w.heap.size,0,none⟩)]):=qC Wr.out 2 _ rfl;have hcall:=PE w.heap.size _ ts t (ri,re) HR ok B wr Ar.out RDr hBr ;go_wp2_with (go_at_call 46;refine hcall.mono ?_;rintro y w2 ⟨rfl,b2⟩;have HB2:=qA b2;clear b2;rcases Int.lt_trichotomy re 0 with h0|h0|h0)
     all_goals first
      |
       go_ret3
       have hE:=HS.out;rw[U5 (by omega)]at hE;simp only[qAF]at hE;obtain⟨q1,q2,q3⟩:=hE;exact⟨by rw[<-q1,<-q2,<-q3];rfl,qF (qF B1.out HBR.out) HB2.out⟩
      |have hE:=HS.out
       rw[U6 h0]at hE;exact⟨⟨2+1,⟨by omega,by go_num⟩,hE,fun j hj=>by rcases Nat.lt_succ_iff_lt_or_eq.1 hj with h|h<;>first|exact HZ.out j h|(rw[h,HR.out];exact h0),qF HBR.out HB2.out⟩,by simp[intOf]⟩
    ·
     have g0:wr.cell? ⟨wc.heap.size,3,none⟩=some (.func (.func 48) #[] #[.pointer (some ⟨w.heap.size,0,none⟩), .pointer (some ⟨b7,0,none⟩)]):=qC Wr.out 3 _ rfl;have hcall:=PG w.heap.size _ ts t (ri,re) HR ok B wr Ar.out RDr hBr b7 r7;go_wp2_with (go_at_call 48;refine hcall.mono ?_;rintro y w2 ⟨rfl,b2⟩;have HB2:=qA b2;clear b2;rcases Int.lt_trichotomy re 0 with h0|h0|h0)
     all_goals first
      |
       go_ret3
       have hE:=HS.out;rw[U5 (by omega)]at hE;simp only[qAF]at hE;obtain⟨q1,q2,q3⟩:=hE;exact⟨by rw[<-q1,<-q2,<-q3];rfl,qF (qF B1.out HBR.out) HB2.out⟩
      |have hE:=HS.out
       rw[U6 h0]at hE;exact⟨⟨3+1,⟨by omega,by go_num⟩,hE,fun j hj=>by rcases Nat.lt_succ_iff_lt_or_eq.1 hj with h|h<;>first|exact HZ.out j h|(rw[h,HR.out];exact h0),qF HBR.out HB2.out⟩,by simp[intOf]⟩
    ·
     have g0:wr.cell? ⟨wc.heap.size,4,none⟩=some (.func (.func 50) #[] #[.pointer (some ⟨w.heap.size,0,none⟩), .pointer (some ⟨b5,0,none⟩), .pointer (some ⟨b6,0,none⟩), .pointer (some ⟨b7,0,none⟩)]):=qC Wr.out 4 _ rfl;have hcall:=PH w.heap.size _ ts t (ri,re) HR ok B wr Ar.out RDr hBr b5 r5 b6 r6 b7 r7;go_wp2_with (go_at_call 50;refine hcall.mono ?_;rintro y w2 ⟨rfl,b2⟩;have HB2:=qA b2;clear b2;rcases Int.lt_trichotomy re 0 with h0|h0|h0)
     all_goals first
      |
       go_ret3
       have hE:=HS.out;rw[U5 (by omega)]at hE;simp only[qAF]at hE;obtain⟨q1,q2,q3⟩:=hE;exact⟨by rw[<-q1,<-q2,<-q3];rfl,qF (qF B1.out HBR.out) HB2.out⟩
      |have hE:=HS.out
       rw[U6 h0]at hE;exact⟨⟨4+1,⟨by omega,by go_num⟩,hE,fun j hj=>by rcases Nat.lt_succ_iff_lt_or_eq.1 hj with h|h<;>first|exact HZ.out j h|(rw[h,HR.out];exact h0),qF HBR.out HB2.out⟩,by simp[intOf]⟩
    ·
     have g0:wr.cell? ⟨wc.heap.size,5,none⟩=some (.func (.func 52) #[] #[.pointer (some ⟨w.heap.size,0,none⟩)]):=qC Wr.out 5 _ rfl;have hcall:=PI w.heap.size _ ts t (ri,re) HR ok B wr Ar.out RDr hBr  (fun x hx=>WR (stops:=t.stops.length) (routes:=t.routes.length) (cals:=t.cals.length) (by rw[<-RD.out.same];exact HZ.out 4 (by omega)) x hx);go_wp2_with (go_at_call 52;refine hcall.mono ?_;rintro y w2 ⟨rfl,b2⟩;have HB2:=qA b2;clear b2;rcases Int.lt_trichotomy re 0 with h0|h0|h0)
     all_goals first
      |
       go_ret3
       have hE:=HS.out;rw[U5 (by omega)]at hE;simp only[qAF]at hE;obtain⟨q1,q2,q3⟩:=hE;exact⟨by rw[<-q1,<-q2,<-q3];rfl,qF (qF B1.out HBR.out) HB2.out⟩
      |have hE:=HS.out
       rw[U6 h0]at hE;exact⟨⟨5+1,⟨by omega,by go_num⟩,hE,fun j hj=>by rcases Nat.lt_succ_iff_lt_or_eq.1 hj with h|h<;>first|exact HZ.out j h|(rw[h,HR.out];exact h0),qF HBR.out HB2.out⟩,by simp[intOf]⟩
    ·
     have g0:wr.cell? ⟨wc.heap.size,6,none⟩=some (.func (.func 54) #[] #[.pointer (some ⟨w.heap.size,0,none⟩)]):=qC Wr.out 6 _ rfl;have hcall:=PK w.heap.size _ ts t (ri,re) HR ok B wr Ar.out RDr hBr ;go_wp2_with (go_at_call 54;refine hcall.mono ?_;rintro y w2 ⟨rfl,b2⟩;have HB2:=qA b2;clear b2;rcases Int.lt_trichotomy re 0 with h0|h0|h0)
     all_goals first
      |
       go_ret3
       have hE:=HS.out;rw[U5 (by omega)]at hE;simp only[qAF]at hE;obtain⟨q1,q2,q3⟩:=hE;exact⟨by rw[<-q1,<-q2,<-q3];rfl,qF (qF B1.out HBR.out) HB2.out⟩
      |have hE:=HS.out
       rw[U6 h0]at hE;exact⟨⟨6+1,⟨by omega,by go_num⟩,hE,fun j hj=>by rcases Nat.lt_succ_iff_lt_or_eq.1 hj with h|h<;>first|exact HZ.out j h|(rw[h,HR.out];exact h0),qF HBR.out HB2.out⟩,by simp[intOf]⟩
    ·
     have g0:wr.cell? ⟨wc.heap.size,7,none⟩=some (.func (.func 56) #[] #[.pointer (some ⟨w.heap.size,0,none⟩), .pointer (some ⟨b5,0,none⟩)]):=qC Wr.out 7 _ rfl;have hcall:=PL w.heap.size _ ts t (ri,re) HR ok B wr Ar.out RDr hBr b5 r5;go_wp2_with (go_at_call 56;refine hcall.mono ?_;rintro y w2 ⟨rfl,b2⟩;have HB2:=qA b2;clear b2;rcases Int.lt_trichotomy re 0 with h0|h0|h0)
     all_goals first
      |
       go_ret3
       have hE:=HS.out;rw[U5 (by omega)]at hE;simp only[qAF]at hE;obtain⟨q1,q2,q3⟩:=hE;exact⟨by rw[<-q1,<-q2,<-q3];rfl,qF (qF B1.out HBR.out) HB2.out⟩
      |have hE:=HS.out
       rw[U6 h0]at hE;exact⟨⟨7+1,⟨by omega,by go_num⟩,hE,fun j hj=>by rcases Nat.lt_succ_iff_lt_or_eq.1 hj with h|h<;>first|exact HZ.out j h|(rw[h,HR.out];exact h0),qF HBR.out HB2.out⟩,by simp[intOf]⟩
    ·
     have g0:wr.cell? ⟨wc.heap.size,8,none⟩=some (.func (.func 58) #[] #[.pointer (some ⟨w.heap.size,0,none⟩), .pointer (some ⟨b5,0,none⟩)]):=qC Wr.out 8 _ rfl;have hcall:=PM w.heap.size _ ts t (ri,re) HR ok B wr Ar.out RDr hBr b5 r5;go_wp2_with (go_at_call 58;refine hcall.mono ?_;rintro y w2 ⟨rfl,b2⟩;have HB2:=qA b2;clear b2;rcases Int.lt_trichotomy re 0 with h0|h0|h0)
     all_goals first
      |
       go_ret3
       have hE:=HS.out;rw[U5 (by omega)]at hE;simp only[qAF]at hE;obtain⟨q1,q2,q3⟩:=hE;exact⟨by rw[<-q1,<-q2,<-q3];rfl,qF (qF B1.out HBR.out) HB2.out⟩
      |have hE:=HS.out
       rw[U6 h0]at hE;exact⟨⟨8+1,⟨by omega,by go_num⟩,hE,fun j hj=>by rcases Nat.lt_succ_iff_lt_or_eq.1 hj with h|h<;>first|exact HZ.out j h|(rw[h,HR.out];exact h0),qF HBR.out HB2.out⟩,by simp[intOf]⟩
    ·
     have g0:wr.cell? ⟨wc.heap.size,9,none⟩=some (.func (.func 60) #[] #[.pointer (some ⟨w.heap.size,0,none⟩)]):=qC Wr.out 9 _ rfl;have hcall:=PN w.heap.size _ ts t (ri,re) HR ok B wr Ar.out RDr hBr ;go_wp2_with (go_at_call 60;refine hcall.mono ?_;rintro y w2 ⟨rfl,b2⟩;have HB2:=qA b2;clear b2;rcases Int.lt_trichotomy re 0 with h0|h0|h0)
     all_goals first
      |
       go_ret3
       have hE:=HS.out;rw[U5 (by omega)]at hE;simp only[qAF]at hE;obtain⟨q1,q2,q3⟩:=hE;exact⟨by rw[<-q1,<-q2,<-q3];rfl,qF (qF B1.out HBR.out) HB2.out⟩
      |have hE:=HS.out
       rw[U6 h0]at hE;exact⟨⟨9+1,⟨by omega,by go_num⟩,hE,fun j hj=>by rcases Nat.lt_succ_iff_lt_or_eq.1 hj with h|h<;>first|exact HZ.out j h|(rw[h,HR.out];exact h0),qF HBR.out HB2.out⟩,by simp[intOf]⟩
   ·
    have hE:=HC.out;have hk10:k=10:=by omega
    subst hk10;have HE:=qA (show((0:Int),(0:Int),(0:Int))=(p,i,e) from hE);clear hE;go_wp2;go_ret3
    have hE:=HE.out;simp only[qAF]at hE;obtain⟨q1,q2,q3⟩:=hE;exact⟨by rw[<-q1,<-q2,<-q3];rfl,qF B1.out HBR.out⟩
end Go.Proofs.YtakedkcjplfgeaaGreatDoor
