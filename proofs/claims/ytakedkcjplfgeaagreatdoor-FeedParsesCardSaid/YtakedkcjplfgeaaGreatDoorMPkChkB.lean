/- Contracts, proved. Conditions: theirs. -/
import Derived.Test.YtakedkcjplfgeaaGreatDoorMPkChkA
import Derived.Test.YtakedkcjplfgeaaGreatDoorMPkThB
set_option maxRecDepth 1000000
set_option maxHeartbeats 32000000
open Go.Proofs.Tryz
namespace Go.Proofs.YtakedkcjplfgeaaGreatDoor
open Go.RowKit
open Frq Thr Tt
theorem O9 (b:Nat) (V:TtV) (ts:List TripD) (t:TtD) (r:Int×Int) (H:Hid (zV t 0=r)) (ok:Hid (ZZ t)) (B:Nat) (w:World) (hat:JV b V t.fares w) (rd:Hid (yA B w V ts t)) (hB:B<=w.heap.size):
  Calls prog 42 #[(b,0)] w λe w'=>e=.returned (.tuple #[r.1,r.2])/\Bl w w':=by
 have c0:w.cell? (b,0)=some (V.stops):=qC hat 0 _ rfl;have hc:=NF V.stops t.stops r H ok.o.stops B w rd.o.stops hB;clear hat;go_enter func42,ntmps42
 go_wp2_with (go_at_call 43;refine hc.mono ?_;rintro e w1 ⟨rfl,b1⟩;have HB1:=qA b1;clear b1)
 go_ret2;exact⟨rfl,HB1.o⟩
theorem PD (b:Nat) (V:TtV) (ts:List TripD) (t:TtD) (r:Int×Int) (H:Hid (zV t 1=r)) (ok:Hid (ZZ t)) (B:Nat) (w:World) (hat:JV b V t.fares w) (rd:Hid (yA B w V ts t)) (hB:B<=w.heap.size):
  Calls prog 44 #[(b,0)] w λe w'=>e=.returned (.tuple #[r.1,r.2])/\Bl w w':=by
 have c1:w.cell? (b,1)=some (V.routes):=qC hat 1 _ rfl;have hc:=Hz V.routes t.routes r H ok.o.routes B w rd.o.routes hB;clear hat;go_enter func44,ntmps44
 go_wp2_with (go_at_call 45;refine hc.mono ?_;rintro e w1 ⟨rfl,b1⟩;have HB1:=qA b1;clear b1)
 go_ret2;exact⟨rfl,HB1.o⟩
theorem PE (b:Nat) (V:TtV) (ts:List TripD) (t:TtD) (r:Int×Int) (H:Hid (zV t 2=r)) (ok:Hid (ZZ t)) (B:Nat) (w:World) (hat:JV b V t.fares w) (rd:Hid (yA B w V ts t)) (hB:B<=w.heap.size):
  Calls prog 46 #[(b,0)] w λe w'=>e=.returned (.tuple #[r.1,r.2])/\Bl w w':=by
 have c2:w.cell? (b,2)=some (V.cals):=qC hat 2 _ rfl;have hc:=OA V.cals t.cals r H ok.o.cals B w rd.o.cals hB;clear hat;go_enter func46,ntmps46
 go_wp2_with (go_at_call 47;refine hc.mono ?_;rintro e w1 ⟨rfl,b1⟩;have HB1:=qA b1;clear b1)
 go_ret2;exact⟨rfl,HB1.o⟩
theorem PG (b:Nat) (V:TtV) (ts:List TripD) (t:TtD) (r:Int×Int) (H:Hid (zV t 3=r)) (ok:Hid (ZZ t)) (B:Nat) (w:World) (hat:JV b V t.fares w) (rd:Hid (yA B w V ts t)) (hB:B<=w.heap.size) (ic:Nat) (hic:w.cell? (ic,0)=some ((t.cals.length):Z)):
  Calls prog 48 #[(b,0),(ic,0)] w λe w'=>e=.returned (.tuple #[r.1,r.2])/\Bl w w':=by
 have c3:w.cell? (b,3)=some (V.excs):=qC hat 3 _ rfl;have hc:=OJ V.excs t.excs t.cals.length r H ok.o.excs B w rd.o.excs hB;clear hat;go_enter func48,ntmps48
 go_wp2_with (go_at_call 49;refine hc.mono ?_;rintro e w1 ⟨rfl,b1⟩;have HB1:=qA b1;clear b1)
 go_ret2;exact⟨rfl,HB1.o⟩
theorem PH (b:Nat) (V:TtV) (ts:List TripD) (t:TtD) (r:Int×Int) (H:Hid (zV t 4=r)) (ok:Hid (ZZ t)) (B:Nat) (w:World) (hat:JV b V t.fares w) (rd:Hid (yA B w V ts t)) (hB:B<=w.heap.size) (is:Nat) (his:w.cell? (is,0)=some ((t.stops.length):Z)) (ir:Nat) (hir:w.cell? (ir,0)=some ((t.routes.length):Z)) (ic:Nat) (hic:w.cell? (ic,0)=some ((t.cals.length):Z)):
  Calls prog 50 #[(b,0),(is,0),(ir,0),(ic,0)] w λe w'=>e=.returned (.tuple #[r.1,r.2])/\Bl w w':=by
 have c4:w.cell? (b,4)=some (V.trips):=qC hat 4 _ rfl;have hc:=NI V.trips ts t.stops.length t.routes.length t.cals.length t.trips rd.o.same r H ok.o.trips B w rd.o.trips hB;clear hat;go_enter func50,ntmps50
 go_wp2_with (go_at_call 51;refine hc.mono ?_;rintro e w1 ⟨rfl,b1⟩;have HB1:=qA b1;clear b1)
 go_ret2;exact⟨rfl,HB1.o⟩
theorem PI (b:Nat) (V:TtV) (ts:List TripD) (t:TtD) (r:Int×Int) (H:Hid (zV t 5=r)) (_:Hid (ZZ t)) (B:Nat) (w:World) (hat:JV b V t.fares w) (rd:Hid (yA B w V ts t)) (hB:B<=w.heap.size) (hshort: ∀ x∈ts,x.calls.length<=32):
  Calls prog 52 #[(b,0)] w λe w'=>e=.returned (.tuple #[r.1,r.2])/\Bl w w':=by
 have c5:w.cell? (b,5)=some (V.freqs):=qC hat 5 _ rfl;have c4:w.cell? (b,4)=some (V.trips):=qC hat 4 _ rfl;have HF:Hid (Fq.qZ (t.freqs.map zS) ts=r):=by show _=_;rw[V5,<-rd.o.same];exact H.o
 have hT:Fq.WV B w V.trips ts:=⟨rd.o.trips.sl,λx hx=>⟨(rd.o.trips.ok x hx).calls,(rd.o.trips.ok x hx).ok,by have:=hshort x hx;omega⟩⟩;have hc:=Fq.gB V.freqs (t.freqs.map zS) V.trips ts r HF B w rd.o.freqs hT hB;clear hat;go_enter func52,ntmps52
 go_wp2_with (go_at_call 53;refine hc.mono ?_;rintro e w1 ⟨rfl,b1⟩;have HB1:=qA b1;clear b1)
 go_ret2;exact⟨rfl,HB1.o⟩
theorem PK (b:Nat) (V:TtV) (ts:List TripD) (t:TtD) (r:Int×Int) (H:Hid (zV t 6=r)) (ok:Hid (ZZ t)) (B:Nat) (w:World) (hat:JV b V t.fares w) (rd:Hid (yA B w V ts t)) (hB:B<=w.heap.size):
  Calls prog 54 #[(b,0)] w λe w'=>e=.returned (.tuple #[r.1,r.2])/\Bl w w':=by
 have c6:w.cell? (b,6)=some (V.thrus):=qC hat 6 _ rfl;have c4:w.cell? (b,4)=some (V.trips):=qC hat 4 _ rfl;have c5:w.cell? (b,5)=some (V.freqs):=qC hat 5 _ rfl;have HF:Hid (qZ 128 (zU (ts.map trpOf) (t.freqs.map zS)) (t.thrus.map ja)=r):=by show _=_;rw[<-Jj,<-rd.o.same];exact H.o
 have hX: ∀ x∈t.thrus.map ja,Th.Ry x:=λx hx=>by obtain⟨y,hy,rfl⟩:=List.mem_map.1 hx;exact ok.o.thrus y hy
 have hc:=Th.gB V.thrus V.trips V.freqs (t.thrus.map ja) ts (t.freqs.map zS) r HF hX B w rd.o.thrus rd.o.trips rd.o.freqs hB;clear hat;go_enter func54,ntmps54
 go_wp2_with (go_at_call 55;refine hc.mono ?_;rintro e w1 ⟨rfl,b1⟩;have HB1:=qA b1;clear b1)
 go_ret2;exact⟨rfl,HB1.o⟩
theorem PL (b:Nat) (V:TtV) (ts:List TripD) (t:TtD) (r:Int×Int) (H:Hid (zV t 7=r)) (ok:Hid (ZZ t)) (B:Nat) (w:World) (hat:JV b V t.fares w) (rd:Hid (yA B w V ts t)) (hB:B<=w.heap.size) (is:Nat) (his:w.cell? (is,0)=some ((t.stops.length):Z)):
  Calls prog 56 #[(b,0),(is,0)] w λe w'=>e=.returned (.tuple #[r.1,r.2])/\Bl w w':=by
 have c7:w.cell? (b,7)=some (V.guars):=qC hat 7 _ rfl;have c4:w.cell? (b,4)=some (V.trips):=qC hat 4 _ rfl;have c5:w.cell? (b,5)=some (V.freqs):=qC hat 5 _ rfl;have HF:Hid (qZ 128 (zk (ts.map trpOf) (t.freqs.map zS) t.stops.length) t.guars=r):=by show _=_;rw[<-Jj,<-rd.o.same];exact H.o
 have hc:=Th.F6 V.guars V.trips V.freqs t.guars ts (t.freqs.map zS) t.stops.length r HF ok.o.guars B w rd.o.guars rd.o.trips rd.o.freqs hB;clear hat;go_enter func56,ntmps56
 go_wp2_with (go_at_call 57;refine hc.mono ?_;rintro e w1 ⟨rfl,b1⟩;have HB1:=qA b1;clear b1)
 go_ret2;exact⟨rfl,HB1.o⟩
theorem PM (b:Nat) (V:TtV) (ts:List TripD) (t:TtD) (r:Int×Int) (H:Hid (zV t 8=r)) (ok:Hid (ZZ t)) (B:Nat) (w:World) (hat:JV b V t.fares w) (rd:Hid (yA B w V ts t)) (hB:B<=w.heap.size) (is:Nat) (his:w.cell? (is,0)=some ((t.stops.length):Z)):
  Calls prog 58 #[(b,0),(is,0)] w λe w'=>e=.returned (.tuple #[r.1,r.2])/\Bl w w':=by
 have c8:w.cell? (b,8)=some (V.paths):=qC hat 8 _ rfl;have hc:=MM V.paths t.paths t.stops.length r H ok.o.paths B w rd.o.paths hB;clear hat;go_enter func58,ntmps58
 go_wp2_with (go_at_call 59;refine hc.mono ?_;rintro e w1 ⟨rfl,b1⟩;have HB1:=qA b1;clear b1)
 go_ret2;exact⟨rfl,HB1.o⟩
theorem PN (b:Nat) (V:TtV) (ts:List TripD) (t:TtD) (r:Int×Int) (H:Hid (zV t 9=r)) (ok:Hid (ZZ t)) (B:Nat) (w:World) (hat:JV b V t.fares w) (rd:Hid (yA B w V ts t)) (hB:B<=w.heap.size):
  Calls prog 60 #[(b,0)] w λe w'=>e=.returned (.tuple #[r.1,r.2])/\Bl w w':=by
 have c9:w.cell? (b,9)=some (V.prods):=qC hat 9 _ rfl;have c10:w.cell? (b,10)=some (t.fares.disc:Z):=qC hat 10 _ rfl;have c11:w.cell? (b,11)=some (t.fares.within:Z):=qC hat 11 _ rfl;have c12:w.cell? (b,12)=some (t.fares.cap:Z):=qC hat 12 _ rfl;have hc:=MR V.prods t.fares r H ok.o.prods B w rd.o.prods hB;clear hat;go_enter func60,ntmps60
 go_wp2_with (go_at_call 61;refine hc.mono ?_;rintro e w1 ⟨rfl,b1⟩;have HB1:=qA b1;clear b1)
 go_ret2;exact⟨rfl,HB1.o⟩
theorem xw {w0:World} {n:Nat} (h:w0.heap.size=n) (x y z:Value) (T:TypeId):
  (((((w0.alloc (.cells #[x] T)).alloc (.cells #[y] T)).alloc (.cells #[z] T)).drew).cell? (n,0)=some x/\((((w0.alloc (.cells #[x] T)).alloc (.cells #[y] T)).alloc (.cells #[z] T)).drew).cell? (n+1,0)=some y/\((((w0.alloc (.cells #[x] T)).alloc (.cells #[y] T)).alloc (.cells #[z] T)).drew).cell? (n+1+1,0)=some z)
  /\((((w0.alloc (.cells #[x] T)).alloc (.cells #[y] T)).alloc (.cells #[z] T)).drew).heap.size=n+3/\Bl w0 ((((w0.alloc (.cells #[x] T)).alloc (.cells #[y] T)).alloc (.cells #[z] T)).drew):=by
 subst h;have h1:=qC (heap_alloc_new w0 (.cells #[x] T)) 0 x rfl;have h2:=qC (heap_alloc_new (w0.alloc (.cells #[x] T)) (.cells #[y] T)) 0 y rfl;have h3:=qC (heap_alloc_new ((w0.alloc (.cells #[x] T)).alloc (.cells #[y] T)) (.cells #[z] T)) 0 z rfl;simp only[World.size_alloc]at h2 h3;refine⟨⟨?_, ?_, ?_⟩,by show(((w0.alloc _).alloc _).alloc _).heap.size=_;simp,qH (qE (qE (qE (qB _) _) _) _)⟩
 ·
  have b:Bl (w0.alloc (.cells #[x] T)) ((((w0.alloc (.cells #[x] T)).alloc (.cells #[y] T)).alloc (.cells #[z] T)).drew):=qH (qE (qE (qB _) _) _);exact((qG b).1 _ _ σ).trans h1
 ·
  have b:Bl ((w0.alloc (.cells #[x] T)).alloc (.cells #[y] T)) ((((w0.alloc (.cells #[x] T)).alloc (.cells #[y] T)).alloc (.cells #[z] T)).drew):=qH (qE (qB _) _);exact((qG b).1 _ _ σ).trans h2
 exact h3
theorem pY (V:TtV) (ts:List TripD) (t:TtD) (p i e:Int) (H:Hid (Qj t=(p,i,e))) (ok:Hid (ZZ t)) (B:Nat) (w:World) (rd:yA B w V ts t) (hB:B<=w.heap.size):
  Calls prog 21 #[JP V t] w λq w'=>q=.returned (.tuple #[p,i,e])/\Bl w w':=by
 have RD:=qA rd;obtain⟨v0,v1,v2,v3,v4,v5,v6,v7,v8,v9⟩:=V;obtain⟨a0,k0,(rfl:v0=_),-,-⟩:=rd.stops.val;obtain⟨a1,k1,(rfl:v1=_),-,-⟩:=rd.routes.val;obtain⟨a2,k2,(rfl:v2=_),-,-⟩:=rd.cals.val;obtain⟨a3,k3,(rfl:v3=_),-,-⟩:=rd.excs.val;obtain⟨a4,k4,(rfl:v4=_),-,-⟩:=rd.trips.sl.val;obtain⟨a5,k5,(rfl:v5=_),-,-⟩:=rd.freqs.val;obtain⟨a6,k6,(rfl:v6=_),-,-⟩:=rd.thrus.val;obtain⟨a7,k7,(rfl:v7=_),-,-⟩:=rd.guars.val;obtain⟨a8,k8,(rfl:v8=_),-,-⟩:=rd.paths.val;obtain⟨a9,k9,(rfl:v9=_),-,-⟩:=rd.prods.val;clear rd;unfold JP;simp only[U4]at RD ⊢;obtain⟨w0,hw0⟩:=ε (w.alloc (.cells (Qa ⟨.slice a0 t.stops.length k0,.slice a1 t.routes.length k1,.slice a2 t.cals.length k2,.slice a3 t.excs.length k3,.slice a4 ts.length k4,.slice a5 t.freqs.length k5,.slice a6 t.thrus.length k6,.slice a7 t.guars.length k7,.slice a8 t.paths.length k8,.slice a9 t.fares.prods.length k9⟩ t.fares) 36));have A0:=qA (show JV w.heap.size ⟨.slice a0 t.stops.length k0,.slice a1 t.routes.length k1,.slice a2 t.cals.length k2,.slice a3 t.excs.length k3,.slice a4 ts.length k4,.slice a5 t.freqs.length k5,.slice a6 t.thrus.length k6,.slice a7 t.guars.length k7,.slice a8 t.paths.length k8,.slice a9 t.fares.prods.length k9⟩ t.fares w0 by rw[<-hw0];exact heap_alloc_new w _);have B0:=qA (show Bl w w0 by rw[<-hw0];exact qE (qB _) _);have s0:w0.heap.size=w.heap.size+1:=by rw[<-hw0];simp
 have c0:w0.cell? (w.heap.size,0)=some (.slice a0 t.stops.length k0):=qC A0.o 0 _ rfl;have c1:w0.cell? (w.heap.size,1)=some (.slice a1 t.routes.length k1):=qC A0.o 1 _ rfl;have c2:w0.cell? (w.heap.size,2)=some (.slice a2 t.cals.length k2):=qC A0.o 2 _ rfl;simp only[Qa]at hw0;go_enter func21,ntmps21
 go_upto_region 1 with fail
 go_cut [5,6,7] (λs5 s6 s7 wx=> ∃ b5 b6 b7:Nat,s5=((b5,0):Z)/\s6=((b6,0):Z)/\s7=((b7,0):Z)/\wx.cell? (b5,0)=some (t.stops.length:Z)/\wx.cell? (b6,0)=some (t.routes.length:Z)/\wx.cell? (b7,0)=some (t.cals.length:Z)/\(b5<wx.heap.size/\b6<wx.heap.size/\b7<wx.heap.size)/\Bl w0 wx)
 case first=>
  rename_i J0 K0 hJ0 hK0;go_region
  all_goals
   refine hK0 _ _ (Met.intro (hJ0 _ _ ?_));repeat apply Exists.intro
   refine⟨?rel,rfl⟩;case rel=>
    try rw[hw0]
    first
     |(have q:=xw s0 (t.stops.length:Z) (t.routes.length:Z) (t.cals.length:Z) 3;exact⟨_,_,_,rfl,rfl,rfl,q.1.1,q.1.2.1,q.1.2.2,by rw[q.2.1];omega,q.2.2⟩)
     |(have q:=xw s0 (t.stops.length:Z) (t.cals.length:Z) (t.routes.length:Z) 3;exact⟨_,_,_,rfl,rfl,rfl,q.1.1,q.1.2.2,q.1.2.1,by rw[q.2.1];omega,q.2.2⟩)
     |(have q:=xw s0 (t.routes.length:Z) (t.stops.length:Z) (t.cals.length:Z) 3;exact⟨_,_,_,rfl,rfl,rfl,q.1.2.1,q.1.1,q.1.2.2,by rw[q.2.1];omega,q.2.2⟩)
     |(have q:=xw s0 (t.routes.length:Z) (t.cals.length:Z) (t.stops.length:Z) 3;exact⟨_,_,_,rfl,rfl,rfl,q.1.2.2,q.1.1,q.1.2.1,by rw[q.2.1];omega,q.2.2⟩)
     |(have q:=xw s0 (t.cals.length:Z) (t.stops.length:Z) (t.routes.length:Z) 3;exact⟨_,_,_,rfl,rfl,rfl,q.1.2.1,q.1.2.2,q.1.1,by rw[q.2.1];omega,q.2.2⟩)
     |(have q:=xw s0 (t.cals.length:Z) (t.routes.length:Z) (t.stops.length:Z) 3;exact⟨_,_,_,rfl,rfl,rfl,q.1.2.2,q.1.2.1,q.1.1,by rw[q.2.1];omega,q.2.2⟩)
 case rest=>
  obtain⟨b5,b6,b7,rfl,rfl,rfl,x5,x6,x7,⟨l5,l6,l7⟩,bc⟩:=hcut;have BC:=qA (qF B0.o bc);have AC:=qA (show JV w.heap.size _ _ wc from qX A0.o bc);have hsz:=bc.size;clear bc c0 c1 c2 hw0;obtain⟨w1,hw1⟩:=ε (wc.alloc (.cells #[.func (.func 42) #[] #[(w.heap.size,0)],.func (.func 44) #[] #[(w.heap.size,0)],.func (.func 46) #[] #[(w.heap.size,0)],.func (.func 48) #[] #[(w.heap.size,0),(b7,0)],.func (.func 50) #[] #[(w.heap.size,0),(b5,0),(b6,0),(b7,0)],.func (.func 52) #[] #[(w.heap.size,0)],.func (.func 54) #[] #[(w.heap.size,0)],.func (.func 56) #[] #[(w.heap.size,0),(b5,0)],.func (.func 58) #[] #[(w.heap.size,0),(b5,0)],.func (.func 60) #[] #[(w.heap.size,0)]] 103));have W1:=qA (show w1.heap[wc.heap.size]? =some (.cells #[.func (.func 42) #[] #[(w.heap.size,0)],.func (.func 44) #[] #[(w.heap.size,0)],.func (.func 46) #[] #[(w.heap.size,0)],.func (.func 48) #[] #[(w.heap.size,0),(b7,0)],.func (.func 50) #[] #[(w.heap.size,0),(b5,0),(b6,0),(b7,0)],.func (.func 52) #[] #[(w.heap.size,0)],.func (.func 54) #[] #[(w.heap.size,0)],.func (.func 56) #[] #[(w.heap.size,0),(b5,0)],.func (.func 58) #[] #[(w.heap.size,0),(b5,0)],.func (.func 60) #[] #[(w.heap.size,0)]] 103 (0,0)) by rw[<-hw1];exact heap_alloc_new wc _);have b1:Bl wc w1:=by rw[<-hw1];exact qE (qB _) _
  have A1:=qA (show JV w.heap.size _ _ w1 from qX AC.o b1);have B1:=qA (qF BC.o b1);have y5:w1.cell? (b5,0)=some (t.stops.length:Z):=((qG b1).1 _ _ l5).trans x5;have y6:w1.cell? (b6,0)=some (t.routes.length:Z):=((qG b1).1 _ _ l6).trans x6;have y7:w1.cell? (b7,0)=some (t.cals.length:Z):=((qG b1).1 _ _ l7).trans x7;have s1:=b1.size;clear x5 x6 x7;have HH:Hid (wZ t 10 0=(p,i,e)):=H.o;go_wp2_with fail;clear hw1 b1;go_loopw [35] (λi' wr=> ∃ k:Nat,(k<=10/\i'=k)/\Hid (wZ t (10-k) k=(p,i,e))/\Hid (∀ j,j<k->(zV t j).2=0)/\Bl w1 wr) (λi' _=>10-(intOf i').toNat)
  case atStart=>exact⟨0,⟨ω,rfl⟩,HH,λj hj=>absurd hj (Nat.not_lt_zero j),qB _⟩
  case round=>
   obtain⟨k,⟨hk,rfl⟩,HC,HZ,hbl⟩:=hrel;have z1:=hbl.size;have RDr:=qA (RD.o.bl (qF B1.o hbl) hB);have Ar:=qA (show JV w.heap.size _ _ wr from qX A1.o hbl);have Wr:=qA (qX W1.o hbl);have r5:wr.cell? (b5,0)=some (t.stops.length:Z):=((qG hbl).1 _ _ ω).trans y5;have r6:wr.cell? (b6,0)=some (t.routes.length:Z):=((qG hbl).1 _ _ ω).trans y6;have r7:wr.cell? (b7,0)=some (t.cals.length:Z):=((qG hbl).1 _ _ ω).trans y7;have hBr:B<=wr.heap.size:=Ux hB (qF B1.o hbl).size;have HBR:=qA hbl;by_cases hlt:k<10
   ·
    obtain⟨⟨ri,re⟩,hr⟩: ∃ q,zV t k=q:=⟨_,rfl⟩;have HR:=qA hr;have HS:=qA (show(if re=0 then wZ t (10-(k+1)) (k+1)else((k:Int),ri,re))=(p,i,e) by
     rw[<-HC.o,show 10-k=(10-(k+1))+1 by omega];show _=(if(zV t k).2=0 then _ else _)
     rw[hr])
    clear hr;have hkk:k=0∨k=1∨k=2∨k=3∨k=4∨k=5∨k=6∨k=7∨k=8∨k=9:=ω
    rcases hkk with rfl|rfl|rfl|rfl|rfl|rfl|rfl|rfl|rfl|rfl
    ·
     have g0:wr.cell? (wc.heap.size,0)=some (.func (.func 42) #[] #[(w.heap.size,0)]):=qC Wr.o 0 _ rfl;have hcall:=O9 w.heap.size _ ts t (ri,re) HR ok B wr Ar.o RDr hBr ;go_wp2_with (go_at_call 42;refine hcall.mono ?_;rintro y w2 ⟨rfl,b2⟩;have HB2:=qA b2;clear b2;rcases Int.lt_trichotomy re 0 with h0|h0|h0)
     all_goals first
      |
       go_ret3
       have hE:=HS.o;rw[U5 ω]at hE;simp only[qAF]at hE;obtain⟨q1,q2,q3⟩:=hE;exact⟨by rw[<-q1,<-q2,<-q3];rfl,qF (qF B1.o HBR.o) HB2.o⟩
      |have hE:=HS.o
       rw[U6 h0]at hE;exact⟨⟨0+1,⟨ω,by go_num⟩,hE,λj hj=>by rcases Nat.lt_succ_iff_lt_or_eq.1 hj with h|h<;>first|exact HZ.o j h|(rw[h,HR.o];exact h0),qF HBR.o HB2.o⟩,by simp[intOf]⟩
    ·
     have g0:wr.cell? (wc.heap.size,1)=some (.func (.func 44) #[] #[(w.heap.size,0)]):=qC Wr.o 1 _ rfl;have hcall:=PD w.heap.size _ ts t (ri,re) HR ok B wr Ar.o RDr hBr ;go_wp2_with (go_at_call 44;refine hcall.mono ?_;rintro y w2 ⟨rfl,b2⟩;have HB2:=qA b2;clear b2;rcases Int.lt_trichotomy re 0 with h0|h0|h0)
     all_goals first
      |
       go_ret3
       have hE:=HS.o;rw[U5 ω]at hE;simp only[qAF]at hE;obtain⟨q1,q2,q3⟩:=hE;exact⟨by rw[<-q1,<-q2,<-q3];rfl,qF (qF B1.o HBR.o) HB2.o⟩
      |have hE:=HS.o
       rw[U6 h0]at hE;exact⟨⟨1+1,⟨ω,by go_num⟩,hE,λj hj=>by rcases Nat.lt_succ_iff_lt_or_eq.1 hj with h|h<;>first|exact HZ.o j h|(rw[h,HR.o];exact h0),qF HBR.o HB2.o⟩,by simp[intOf]⟩
    ·
     have g0:wr.cell? (wc.heap.size,2)=some (.func (.func 46) #[] #[(w.heap.size,0)]):=qC Wr.o 2 _ rfl;have hcall:=PE w.heap.size _ ts t (ri,re) HR ok B wr Ar.o RDr hBr ;go_wp2_with (go_at_call 46;refine hcall.mono ?_;rintro y w2 ⟨rfl,b2⟩;have HB2:=qA b2;clear b2;rcases Int.lt_trichotomy re 0 with h0|h0|h0)
     all_goals first
      |
       go_ret3
       have hE:=HS.o;rw[U5 ω]at hE;simp only[qAF]at hE;obtain⟨q1,q2,q3⟩:=hE;exact⟨by rw[<-q1,<-q2,<-q3];rfl,qF (qF B1.o HBR.o) HB2.o⟩
      |have hE:=HS.o
       rw[U6 h0]at hE;exact⟨⟨2+1,⟨ω,by go_num⟩,hE,λj hj=>by rcases Nat.lt_succ_iff_lt_or_eq.1 hj with h|h<;>first|exact HZ.o j h|(rw[h,HR.o];exact h0),qF HBR.o HB2.o⟩,by simp[intOf]⟩
    ·
     have g0:wr.cell? (wc.heap.size,3)=some (.func (.func 48) #[] #[(w.heap.size,0),(b7,0)]):=qC Wr.o 3 _ rfl;have hcall:=PG w.heap.size _ ts t (ri,re) HR ok B wr Ar.o RDr hBr b7 r7;go_wp2_with (go_at_call 48;refine hcall.mono ?_;rintro y w2 ⟨rfl,b2⟩;have HB2:=qA b2;clear b2;rcases Int.lt_trichotomy re 0 with h0|h0|h0)
     all_goals first
      |
       go_ret3
       have hE:=HS.o;rw[U5 ω]at hE;simp only[qAF]at hE;obtain⟨q1,q2,q3⟩:=hE;exact⟨by rw[<-q1,<-q2,<-q3];rfl,qF (qF B1.o HBR.o) HB2.o⟩
      |have hE:=HS.o
       rw[U6 h0]at hE;exact⟨⟨3+1,⟨ω,by go_num⟩,hE,λj hj=>by rcases Nat.lt_succ_iff_lt_or_eq.1 hj with h|h<;>first|exact HZ.o j h|(rw[h,HR.o];exact h0),qF HBR.o HB2.o⟩,by simp[intOf]⟩
    ·
     have g0:wr.cell? (wc.heap.size,4)=some (.func (.func 50) #[] #[(w.heap.size,0),(b5,0),(b6,0),(b7,0)]):=qC Wr.o 4 _ rfl;have hcall:=PH w.heap.size _ ts t (ri,re) HR ok B wr Ar.o RDr hBr b5 r5 b6 r6 b7 r7;go_wp2_with (go_at_call 50;refine hcall.mono ?_;rintro y w2 ⟨rfl,b2⟩;have HB2:=qA b2;clear b2;rcases Int.lt_trichotomy re 0 with h0|h0|h0)
     all_goals first
      |
       go_ret3
       have hE:=HS.o;rw[U5 ω]at hE;simp only[qAF]at hE;obtain⟨q1,q2,q3⟩:=hE;exact⟨by rw[<-q1,<-q2,<-q3];rfl,qF (qF B1.o HBR.o) HB2.o⟩
      |have hE:=HS.o
       rw[U6 h0]at hE;exact⟨⟨4+1,⟨ω,by go_num⟩,hE,λj hj=>by rcases Nat.lt_succ_iff_lt_or_eq.1 hj with h|h<;>first|exact HZ.o j h|(rw[h,HR.o];exact h0),qF HBR.o HB2.o⟩,by simp[intOf]⟩
    ·
     have g0:wr.cell? (wc.heap.size,5)=some (.func (.func 52) #[] #[(w.heap.size,0)]):=qC Wr.o 5 _ rfl;have hcall:=PI w.heap.size _ ts t (ri,re) HR ok B wr Ar.o RDr hBr  (λx hx=>WR (stops:=t.stops.length) (routes:=t.routes.length) (cals:=t.cals.length) (by rw[<-RD.o.same];exact HZ.o 4 ω) x hx);go_wp2_with (go_at_call 52;refine hcall.mono ?_;rintro y w2 ⟨rfl,b2⟩;have HB2:=qA b2;clear b2;rcases Int.lt_trichotomy re 0 with h0|h0|h0)
     all_goals first
      |
       go_ret3
       have hE:=HS.o;rw[U5 ω]at hE;simp only[qAF]at hE;obtain⟨q1,q2,q3⟩:=hE;exact⟨by rw[<-q1,<-q2,<-q3];rfl,qF (qF B1.o HBR.o) HB2.o⟩
      |have hE:=HS.o
       rw[U6 h0]at hE;exact⟨⟨5+1,⟨ω,by go_num⟩,hE,λj hj=>by rcases Nat.lt_succ_iff_lt_or_eq.1 hj with h|h<;>first|exact HZ.o j h|(rw[h,HR.o];exact h0),qF HBR.o HB2.o⟩,by simp[intOf]⟩
    ·
     have g0:wr.cell? (wc.heap.size,6)=some (.func (.func 54) #[] #[(w.heap.size,0)]):=qC Wr.o 6 _ rfl;have hcall:=PK w.heap.size _ ts t (ri,re) HR ok B wr Ar.o RDr hBr ;go_wp2_with (go_at_call 54;refine hcall.mono ?_;rintro y w2 ⟨rfl,b2⟩;have HB2:=qA b2;clear b2;rcases Int.lt_trichotomy re 0 with h0|h0|h0)
     all_goals first
      |
       go_ret3
       have hE:=HS.o;rw[U5 ω]at hE;simp only[qAF]at hE;obtain⟨q1,q2,q3⟩:=hE;exact⟨by rw[<-q1,<-q2,<-q3];rfl,qF (qF B1.o HBR.o) HB2.o⟩
      |have hE:=HS.o
       rw[U6 h0]at hE;exact⟨⟨6+1,⟨ω,by go_num⟩,hE,λj hj=>by rcases Nat.lt_succ_iff_lt_or_eq.1 hj with h|h<;>first|exact HZ.o j h|(rw[h,HR.o];exact h0),qF HBR.o HB2.o⟩,by simp[intOf]⟩
    ·
     have g0:wr.cell? (wc.heap.size,7)=some (.func (.func 56) #[] #[(w.heap.size,0),(b5,0)]):=qC Wr.o 7 _ rfl;have hcall:=PL w.heap.size _ ts t (ri,re) HR ok B wr Ar.o RDr hBr b5 r5;go_wp2_with (go_at_call 56;refine hcall.mono ?_;rintro y w2 ⟨rfl,b2⟩;have HB2:=qA b2;clear b2;rcases Int.lt_trichotomy re 0 with h0|h0|h0)
     all_goals first
      |
       go_ret3
       have hE:=HS.o;rw[U5 ω]at hE;simp only[qAF]at hE;obtain⟨q1,q2,q3⟩:=hE;exact⟨by rw[<-q1,<-q2,<-q3];rfl,qF (qF B1.o HBR.o) HB2.o⟩
      |have hE:=HS.o
       rw[U6 h0]at hE;exact⟨⟨7+1,⟨ω,by go_num⟩,hE,λj hj=>by rcases Nat.lt_succ_iff_lt_or_eq.1 hj with h|h<;>first|exact HZ.o j h|(rw[h,HR.o];exact h0),qF HBR.o HB2.o⟩,by simp[intOf]⟩
    ·
     have g0:wr.cell? (wc.heap.size,8)=some (.func (.func 58) #[] #[(w.heap.size,0),(b5,0)]):=qC Wr.o 8 _ rfl;have hcall:=PM w.heap.size _ ts t (ri,re) HR ok B wr Ar.o RDr hBr b5 r5;go_wp2_with (go_at_call 58;refine hcall.mono ?_;rintro y w2 ⟨rfl,b2⟩;have HB2:=qA b2;clear b2;rcases Int.lt_trichotomy re 0 with h0|h0|h0)
     all_goals first
      |
       go_ret3
       have hE:=HS.o;rw[U5 ω]at hE;simp only[qAF]at hE;obtain⟨q1,q2,q3⟩:=hE;exact⟨by rw[<-q1,<-q2,<-q3];rfl,qF (qF B1.o HBR.o) HB2.o⟩
      |have hE:=HS.o
       rw[U6 h0]at hE;exact⟨⟨8+1,⟨ω,by go_num⟩,hE,λj hj=>by rcases Nat.lt_succ_iff_lt_or_eq.1 hj with h|h<;>first|exact HZ.o j h|(rw[h,HR.o];exact h0),qF HBR.o HB2.o⟩,by simp[intOf]⟩
    ·
     have g0:wr.cell? (wc.heap.size,9)=some (.func (.func 60) #[] #[(w.heap.size,0)]):=qC Wr.o 9 _ rfl;have hcall:=PN w.heap.size _ ts t (ri,re) HR ok B wr Ar.o RDr hBr ;go_wp2_with (go_at_call 60;refine hcall.mono ?_;rintro y w2 ⟨rfl,b2⟩;have HB2:=qA b2;clear b2;rcases Int.lt_trichotomy re 0 with h0|h0|h0)
     all_goals first
      |
       go_ret3
       have hE:=HS.o;rw[U5 ω]at hE;simp only[qAF]at hE;obtain⟨q1,q2,q3⟩:=hE;exact⟨by rw[<-q1,<-q2,<-q3];rfl,qF (qF B1.o HBR.o) HB2.o⟩
      |have hE:=HS.o
       rw[U6 h0]at hE;exact⟨⟨9+1,⟨ω,by go_num⟩,hE,λj hj=>by rcases Nat.lt_succ_iff_lt_or_eq.1 hj with h|h<;>first|exact HZ.o j h|(rw[h,HR.o];exact h0),qF HBR.o HB2.o⟩,by simp[intOf]⟩
   ·
    have hE:=HC.o;have hk10:k=10:=ω
    subst hk10;have HE:=qA (show((0:Int),(0:Int),(0:Int))=(p,i,e) from hE);clear hE;go_wp2;go_ret3
    have hE:=HE.o;simp only[qAF]at hE;obtain⟨q1,q2,q3⟩:=hE;exact⟨by rw[<-q1,<-q2,<-q3];rfl,qF B1.o HBR.o⟩
