/- Contracts, proved. Conditions: theirs. -/
import Derived.Test.YtakedkcjplfgeaaGreatDoorMPkWrB
import Derived.Test.YtakedkcjplfgeaaGreatDoorMPkRdC
import Derived.Test.YtakedkcjplfgeaaGreatDoorMXA
set_option maxRecDepth 1000000
set_option maxHeartbeats 32000000
open Go.Proofs.Tryz
namespace Go.Proofs.YtakedkcjplfgeaaGreatDoor
open Go.RowKit
open Frq Thr Tt Num Clk Dat Fld
theorem qBu (B gw:Nat) (V:TtV) (ts:List TripD) (t:TtD) (v:Hid (AY t)) (lim:Hid (Rj t)) (HE0:Hid (t.excs=[])) (hlt:0<B) (A0:List Ψ) (lA0:A0.length<=20000) (w:World) (rd:yA B w V ts t) (wat:Ea B gw A0 w) (nm:yS w) (hB:B<=w.heap.size):
  Calls prog 30 #[(gw,0),JP V t] w λq w'=>q=.returned (.tuple #[])/\Ea B gw (A0++t.stops.map xK++t.routes.map ve++t.cals.map Qp++t.excs.map (wX t)++t.trips.flatMap (yG t)) w'/\Below B w w':=by
 have HV:=v;have HSAME:=qA rd.same;have hlen5:ts.length=t.trips.length:=by have:=congrArg List.length rd.same;rw[U4]at this;exact this.symm
 have HLEN5:=qA hlen5;obtain⟨L0,L1,L2,L3,L4,L5,L6,L7,L8,L9,L10⟩:=lim.o;have HL10:=qA L10;have RD:=qA rd;obtain⟨v0,v1,v2,v3,v4,v5,v6,v7,v8,v9⟩:=V;obtain⟨a0,k0,(rfl:v0=_),-,-⟩:=rd.stops.val;obtain⟨a1,k1,(rfl:v1=_),-,-⟩:=rd.routes.val;obtain⟨a2,k2,(rfl:v2=_),-,-⟩:=rd.cals.val;obtain⟨a3,k3,(rfl:v3=_),-,-⟩:=rd.excs.val;obtain⟨a4,k4,(rfl:v4=_),-,-⟩:=rd.trips.sl.val;obtain⟨a5,k5,(rfl:v5=_),-,-⟩:=rd.freqs.val;obtain⟨a6,k6,(rfl:v6=_),-,-⟩:=rd.thrus.val;obtain⟨a7,k7,(rfl:v7=_),-,-⟩:=rd.guars.val;obtain⟨a8,k8,(rfl:v8=_),-,-⟩:=rd.paths.val;obtain⟨a9,k9,(rfl:v9=_),-,-⟩:=rd.prods.val;have hts:ts.length<=256:=ω
 clear rd L10 v lim hlen5;unfold JP;simp only[U4]at RD ⊢;change Hid (yA B w (JQ t ts a0 k0 a1 k1 a2 k2 a3 k3 a4 k4 a5 k5 a6 k6 a7 k7 a8 k8 a9 k9) ts t)at RD;obtain⟨w0,hw0⟩:=ε (w.alloc (.cells (Qa (JQ t ts a0 k0 a1 k1 a2 k2 a3 k3 a4 k4 a5 k5 a6 k6 a7 k7 a8 k8 a9 k9) t.fares) 36));have b0:Bl w w0:=by rw[<-hw0];exact qE (qB _) _
 have HS0:Hid (WS B gw w.heap.size (JQ t ts a0 k0 a1 k1 a2 k2 a3 k3 a4 k4 a5 k5 a6 k6 a7 k7 a8 k8 a9 k9) ts t w A0 w0):=⟨RD.o.bl b0 hB,by rw[<-hw0];exact heap_alloc_new w _,wat.bl b0,nm.bl b0,b0.mono hB,Ux hB b0.size⟩;clear b0 wat nm RD;have HS:=HS0;clear HS0;simp only[Qa]at hw0;have uu:w0.cell? (w.heap.size,0)=some (.slice a0 t.stops.length k0):=qC HS.o.tt 0 _ rfl;go_enter func30,ntmps30
 go_wp2_with fail;clear hw0 uu;go_loopw [22] (λi wr=> ∃ k:Nat,(k<=t.stops.length/\i=k)/\Hid (WS B gw w.heap.size (JQ t ts a0 k0 a1 k1 a2 k2 a3 k3 a4 k4 a5 k5 a6 k6 a7 k7 a8 k8 a9 k9) ts t w (A0++(t.stops.take k).map xK) wr)) (λi _=>t.stops.length-(intOf i).toNat)
 case atStart=>exact⟨0,⟨qAD _,rfl⟩,by show WS B gw w.heap.size (JQ t ts a0 k0 a1 k1 a2 k2 a3 k3 a4 k4 a5 k5 a6 k6 a7 k7 a8 k8 a9 k9) ts t w _ _;rw[List.take_zero,List.map_nil,List.append_nil];exact HS.o⟩
 clear HS;obtain⟨k,⟨hk,rfl⟩,HS⟩:=hrel;by_cases hlx:k<t.stops.length
 ·
  obtain⟨x,hx⟩: ∃ x,t.stops[k]? =some x:=⟨_,U2 hlx⟩;obtain⟨bx,ox,rfl,lx,cx⟩:=HS.o.rd.stops.openB (by first|omega|(rw[U4];omega));have hxm:=Uz hx;have hkI:(k:Int)<(t.stops.length:Int):=ω
  have hll:(A0++(t.stops.take k).map xK).length<=1000000:=by have:=xC A0 t.stops xK k;omega
  obtain⟨hid,⟨z0,z1⟩,⟨g0,g1⟩⟩:=HV.o.stops x hxm;have d0:wr.cell? (bx,ox+k*4)=some (qP x.id):=by exact cx k _ hx 0 _ rfl
  have d1:wr.cell? (bx,ox+k*4+1)=some (.int .i64 x.zone):=by exact cx k _ hx 1 _ rfl
  have d2:wr.cell? (bx,ox+k*4+2)=some (.bool x.free):=by exact cx k _ hx 2 _ rfl
  have d3:wr.cell? (bx,ox+k*4+3)=some (.int .i64 x.change):=by exact cx k _ hx 3 _ rfl
  obtain⟨w1,hw1⟩:=ε (wr.alloc (.cells #[qP x.id,.int .i64 x.zone,.bool x.free,.int .i64 x.change] 120));have HX:=qA (show w1.heap[wr.heap.size]? =some (.cells #[qP x.id,.int .i64 x.zone,.bool x.free,.int .i64 x.change] 120 (0,0)) by rw[<-hw1];exact heap_alloc_new wr _);have b1:Bl wr w1:=by rw[<-hw1];exact qE (qB _) _
  have HW1:=qA (HS.o.bl hlt b1);have t0:w1.cell? (wr.heap.size,0)=some (qP x.id):=qC HX.o 0 _ rfl;have t1:w1.cell? (wr.heap.size,1)=some (.int .i64 x.zone):=qC HX.o 1 _ rfl;have t2:w1.cell? (wr.heap.size,2)=some (.bool x.free):=qC HX.o 2 _ rfl;have t3:w1.cell? (wr.heap.size,3)=some (.int .i64 x.change):=qC HX.o 3 _ rfl;clear b1;clear cx;go_wp2_with fail;clear hw1 d0 d1 d2 d3;have HS1:Hid (∀ W,Kp B w1 W->(λW'=>W'.cell? (wr.heap.size,0)=some (qP x.id)/\W'.cell? (wr.heap.size,1)=some (.int .i64 x.zone)/\W'.cell? (wr.heap.size,2)=some (.bool x.free)/\W'.cell? (wr.heap.size,3)=some (.int .i64 x.change)) W):=λW k=>⟨k.cellT HX.o δ δ t0,k.cellT HX.o δ δ t1,k.cellT HX.o δ δ t2,k.cellT HX.o δ δ t3⟩
  have HFL:Hid (∀ y∈([(kw 0),x.id,(jO x.zone),(kG x.free),(jO x.change)]:List Ψ),y.length<=131072):=λy hy=>by
   simp only[List.mem_cons,List.not_mem_nil,or_false]at hy;rcases hy with rfl|rfl|rfl|rfl|rfl
   · exact Ux (δ:_<=100) ω
   · exact Ux ((Ux hid ω):_<=100) ω
   · exact Ux (Qd (n:=x.zone) ⟨ω,ω⟩:_<=100) ω
   · exact Ux (Jo x.free:_<=100) ω
   exact Ux (Qd (n:=x.change) ⟨ω,ω⟩:_<=100) ω
  have m0:Bl w1 w1.drew:=qH (qB w1);refine wp_region_held_drew (S:=(λW'=>W'.cell? (wr.heap.size,0)=some (qP x.id)/\W'.cell? (wr.heap.size,1)=some (.int .i64 x.zone)/\W'.cell? (wr.heap.size,2)=some (.bool x.free)/\W'.cell? (wr.heap.size,3)=some (.int .i64 x.change))) κ (HS1.o _ (Kp.of_bl (qH (qB w1)) HW1.o.size)) (λ_=>?_);refine qI 0 ?_;refine qI 1 ?_;refine qI 2 ?_;refine qI 3 ?_;refine qI 4 ?_;refine qI 6 ?_;refine qI 7 ?_;refine qI 9 ?_;refine qI 10 ?_;refine zh 5 (λKK hKK=>?_);go_simp;go_at_call 69
  refine(Nu.KA x.zone ω ω _).mono ?_;rintro y1 z1 ⟨rfl,b1⟩;have m1:Bl w1 z1:=qF m0 b1;clear b1;refine hKK.o _ _ (HS1.o _ (Kp.of_bl m1 HW1.o.size)) (λ_=>?_);refine zh 8 (λKK hKK=>?_);go_simp;go_at_call 70
  refine(Wv x.free _).mono ?_;rintro y2 z2 ⟨rfl,b2⟩;have m2:Bl w1 z2:=by rw[b2];exact m1
  clear b2;refine hKK.o _ _ (HS1.o _ (Kp.of_bl m2 HW1.o.size)) (λ_=>?_);refine zh 11 (λKK hKK=>?_);go_simp;go_at_call 69
  refine(Nu.KA x.change ω ω _).mono ?_;rintro y3 z3 ⟨rfl,b3⟩;have m3:Bl w1 z3:=qF m2 b3;clear b3;refine hKK.o _ _ (HS1.o _ (Kp.of_bl m3 HW1.o.size)) (λ_=>?_);refine zh 12 (λKK hKK=>?_);go_simp;skip
  refine hKK.o _ _ (HS1.o _ (Kp.of_bl (qE m3 _) HW1.o.size)) (λ_=>?_);refine zh 13 (λKK hKK=>?_);go_simp;have msz:=m3.size;have bsz:=HW1.o.size;go_at_call 68
  refine(QO B gw _ [(kw 0),x.id,(jO x.zone),(kG x.free),(jO x.change)] (zL [(kw 0),x.id,(jO x.zone),(kG x.free),(jO x.change)]).1 (zL [(kw 0),x.id,(jO x.zone),(kG x.free),(jO x.change)]).2 (qA rfl) HFL _ _ _ (vJ (cells:=strCells) (sz:=1) (λ_=>rfl) [(kw 0),x.id,(jO x.zone),(kG x.free),(jO x.change)] z3 #[.string ⟨#[115,116,111,112]⟩,qP x.id,qP (jO x.zone),qP (kG x.free),qP (jO x.change)] 9 5 5 rfl (U3 _) ζ rfl) (U3 _) τ ((HW1.o.wr.bl m3).bl (qE (qB _) _)) hll).mono ?_;rintro y9 w9 ⟨rfl,p1,p2,p3⟩;have K9:Kp B w1 w9:=(Kp.of_bl (qE m3 _) HW1.o.size).trans ⟨p2,p3⟩;have HS9:=qA (HW1.o.put hlt p1 K9);clear p1 p2 p3 msz bsz;refine hKK.o _ _ (HS1.o _ K9) (λ_=>?_);refine wpAnyH_done κ ?_ _;try change Exit.then _ _ .normal _ w9
  clear HS1 HFL K9 hll m0 m1 m2 m3;have HS10:=qA (HS9.o.row hx (f:=xK) (A:=A0) (show xK x=(zL [(kw 0),x.id,(jO x.zone),(kG x.free),(jO x.change)]).1 from rfl));clear HS9 HS;go_wp2;go_roundw;case rel=>exact⟨k+1,⟨ω,by go_num⟩,HS10⟩
  simp[intOf];omega
 skip
 have HSe:WS B gw w.heap.size (JQ t ts a0 k0 a1 k1 a2 k2 a3 k3 a4 k4 a5 k5 a6 k6 a7 k7 a8 k8 a9 k9) ts t w (A0++t.stops.map xK) wr:=by have:=HS.o;rw[U9 ω]at this;exact this
 obtain⟨A1,hA1⟩:=ε (A0++t.stops.map xK);rw[hA1]at HSe;have HA1:=qA hA1;have lA1:A1.length<=20064:=by rw[<-hA1,U1,U4];omega
 clear HS hA1;have HS:=qA HSe;clear HSe;have uu:wr.cell? (w.heap.size,1)=some (.slice a1 t.routes.length k1):=qC HS.o.tt 1 _ rfl;go_wp2_with fail;clear uu;go_loopw [44] (λi wr=> ∃ k:Nat,(k<=t.routes.length/\i=k)/\Hid (WS B gw w.heap.size (JQ t ts a0 k0 a1 k1 a2 k2 a3 k3 a4 k4 a5 k5 a6 k6 a7 k7 a8 k8 a9 k9) ts t w (A1++(t.routes.take k).map ve) wr)) (λi _=>t.routes.length-(intOf i).toNat)
 case atStart=>exact⟨0,⟨qAD _,rfl⟩,by show WS B gw w.heap.size (JQ t ts a0 k0 a1 k1 a2 k2 a3 k3 a4 k4 a5 k5 a6 k6 a7 k7 a8 k8 a9 k9) ts t w _ _;rw[List.take_zero,List.map_nil,List.append_nil];exact HS.o⟩
 clear HS;obtain⟨k,⟨hk,rfl⟩,HS⟩:=hrel;by_cases hlx:k<t.routes.length
 ·
  obtain⟨x,hx⟩: ∃ x,t.routes[k]? =some x:=⟨_,U2 hlx⟩;obtain⟨bx,ox,rfl,lx,cx⟩:=HS.o.rd.routes.openB (by first|omega|(rw[U4];omega));have hxm:=Uz hx;have hkI:(k:Int)<(t.routes.length:Int):=ω
  have hll:(A1++(t.routes.take k).map ve).length<=1000000:=by have:=xC A1 t.routes ve k;omega
  obtain⟨hid,hmd⟩:=HV.o.routes x hxm;have d0:wr.cell? (bx,ox+k*3)=some (qP x.id):=by exact cx k _ hx 0 _ rfl
  have d1:wr.cell? (bx,ox+k*3+1)=some (.int .i64 x.mode):=by exact cx k _ hx 1 _ rfl
  have d2:wr.cell? (bx,ox+k*3+2)=some (.bool x.bikes):=by exact cx k _ hx 2 _ rfl
  obtain⟨w1,hw1⟩:=ε (wr.alloc (.cells #[qP x.id,.int .i64 x.mode,.bool x.bikes] 122));have HX:=qA (show w1.heap[wr.heap.size]? =some (.cells #[qP x.id,.int .i64 x.mode,.bool x.bikes] 122 (0,0)) by rw[<-hw1];exact heap_alloc_new wr _);have b1:Bl wr w1:=by rw[<-hw1];exact qE (qB _) _
  have HW1:=qA (HS.o.bl hlt b1);have t0:w1.cell? (wr.heap.size,0)=some (qP x.id):=qC HX.o 0 _ rfl;have t1:w1.cell? (wr.heap.size,1)=some (.int .i64 x.mode):=qC HX.o 1 _ rfl;have t2:w1.cell? (wr.heap.size,2)=some (.bool x.bikes):=qC HX.o 2 _ rfl;clear b1;clear cx;go_wp2_with (go_at_call 71;refine(NT x.mode _ HW1.o.nm).mono ?_;rintro y2 w2 ⟨rfl,hw2⟩;obtain rfl:=hw2.symm)
  clear hw1 d0 d1 d2;have HS1:Hid (∀ W,Kp B w1 W->(λW'=>W'.cell? (wr.heap.size,0)=some (qP x.id)/\W'.cell? (wr.heap.size,2)=some (.bool x.bikes)) W):=λW k=>⟨k.cellT HX.o δ δ t0,k.cellT HX.o δ δ t2⟩
  have HFL:Hid (∀ y∈([(kw 1),x.id,(Qe x.mode),(kG x.bikes)]:List Ψ),y.length<=131072):=λy hy=>by
   simp only[List.mem_cons,List.not_mem_nil,or_false]at hy;rcases hy with rfl|rfl|rfl|rfl
   · exact Ux (δ:_<=100) ω
   · exact Ux ((Ux hid ω):_<=100) ω
   · exact Ux ((nR hmd):_<=100) ω
   exact Ux (Jo x.bikes:_<=100) ω
  have m0:Bl w1 w1.drew:=qH (qB w1);refine wp_region_held_drew (S:=(λW'=>W'.cell? (wr.heap.size,0)=some (qP x.id)/\W'.cell? (wr.heap.size,2)=some (.bool x.bikes))) κ (HS1.o _ (Kp.of_bl (qH (qB w1)) HW1.o.size)) (λ_=>?_);refine qI 0 ?_;refine qI 1 ?_;refine qI 2 ?_;refine qI 3 ?_;refine qI 4 ?_;refine qI 5 ?_;refine zh 6 (λKK hKK=>?_);go_simp;go_at_call 70
  refine(Wv x.bikes _).mono ?_;rintro y1 z1 ⟨rfl,b1⟩;have m1:Bl w1 z1:=by rw[b1];exact m0
  clear b1;refine hKK.o _ _ (HS1.o _ (Kp.of_bl m1 HW1.o.size)) (λ_=>?_);refine zh 7 (λKK hKK=>?_);go_simp;skip
  refine hKK.o _ _ (HS1.o _ (Kp.of_bl (qE m1 _) HW1.o.size)) (λ_=>?_);refine zh 8 (λKK hKK=>?_);go_simp;have msz:=m1.size;have bsz:=HW1.o.size;go_at_call 68
  refine(QO B gw _ [(kw 1),x.id,(Qe x.mode),(kG x.bikes)] (zL [(kw 1),x.id,(Qe x.mode),(kG x.bikes)]).1 (zL [(kw 1),x.id,(Qe x.mode),(kG x.bikes)]).2 (qA rfl) HFL _ _ _ (vJ (cells:=strCells) (sz:=1) (λ_=>rfl) [(kw 1),x.id,(Qe x.mode),(kG x.bikes)] z1 #[.string ⟨#[114,111,117,116,101]⟩,qP x.id,qP (Qe x.mode),qP (kG x.bikes)] 9 4 4 rfl (U3 _) ζ rfl) (U3 _) τ ((HW1.o.wr.bl m1).bl (qE (qB _) _)) hll).mono ?_;rintro y9 w9 ⟨rfl,p1,p2,p3⟩;have K9:Kp B w1 w9:=(Kp.of_bl (qE m1 _) HW1.o.size).trans ⟨p2,p3⟩;have HS9:=qA (HW1.o.put hlt p1 K9);clear p1 p2 p3 msz bsz;refine hKK.o _ _ (HS1.o _ K9) (λ_=>?_);refine wpAnyH_done κ ?_ _;try change Exit.then _ _ .normal _ w9
  clear HS1 HFL K9 hll m0 m1;have HS10:=qA (HS9.o.row hx (f:=ve) (A:=A1) (show ve x=(zL [(kw 1),x.id,(Qe x.mode),(kG x.bikes)]).1 from rfl));clear HS9 HS;go_wp2;go_roundw;case rel=>exact⟨k+1,⟨ω,by go_num⟩,HS10⟩
  simp[intOf];omega
 skip
 have HSe:WS B gw w.heap.size (JQ t ts a0 k0 a1 k1 a2 k2 a3 k3 a4 k4 a5 k5 a6 k6 a7 k7 a8 k8 a9 k9) ts t w (A1++t.routes.map ve) wr:=by have:=HS.o;rw[U9 ω]at this;exact this
 obtain⟨A2,hA2⟩:=ε (A1++t.routes.map ve);rw[hA2]at HSe;have HA2:=qA hA2;have lA2:A2.length<=20128:=by rw[<-hA2,U1,U4];omega
 clear HS hA2;have HS:=qA HSe;clear HSe;have uu:wr.cell? (w.heap.size,2)=some (.slice a2 t.cals.length k2):=qC HS.o.tt 2 _ rfl;go_wp2_with fail;clear uu;go_loopw [67] (λi wr=> ∃ k:Nat,(k<=t.cals.length/\i=k)/\Hid (WS B gw w.heap.size (JQ t ts a0 k0 a1 k1 a2 k2 a3 k3 a4 k4 a5 k5 a6 k6 a7 k7 a8 k8 a9 k9) ts t w (A2++(t.cals.take k).map Qp) wr)) (λi _=>t.cals.length-(intOf i).toNat)
 case atStart=>exact⟨0,⟨qAD _,rfl⟩,by show WS B gw w.heap.size (JQ t ts a0 k0 a1 k1 a2 k2 a3 k3 a4 k4 a5 k5 a6 k6 a7 k7 a8 k8 a9 k9) ts t w _ _;rw[List.take_zero,List.map_nil,List.append_nil];exact HS.o⟩
 clear HS;obtain⟨k,⟨hk,rfl⟩,HS⟩:=hrel;by_cases hlx:k<t.cals.length
 ·
  obtain⟨x,hx⟩: ∃ x,t.cals[k]? =some x:=⟨_,U2 hlx⟩;obtain⟨bx,ox,rfl,lx,cx⟩:=HS.o.rd.cals.openB (by first|omega|(rw[U4];omega));have hxm:=Uz hx;have hkI:(k:Int)<(t.cals.length:Int):=ω
  have hll:(A2++(t.cals.take k).map Qp).length<=1000000:=by have:=xC A2 t.cals Qp k;omega
  obtain⟨hid,⟨z0,z1⟩,⟨g0,g1⟩⟩:=HV.o.cals x hxm;have d0:wr.cell? (bx,ox+k*10)=some (qP x.id):=by exact cx k _ hx 0 _ rfl
  have d1:wr.cell? (bx,ox+k*10+1)=some (.bool x.week.d0):=by exact cx k _ hx 1 _ rfl
  have d2:wr.cell? (bx,ox+k*10+2)=some (.bool x.week.d1):=by exact cx k _ hx 2 _ rfl
  have d3:wr.cell? (bx,ox+k*10+3)=some (.bool x.week.d2):=by exact cx k _ hx 3 _ rfl
  have d4:wr.cell? (bx,ox+k*10+4)=some (.bool x.week.d3):=by exact cx k _ hx 4 _ rfl
  have d5:wr.cell? (bx,ox+k*10+5)=some (.bool x.week.d4):=by exact cx k _ hx 5 _ rfl
  have d6:wr.cell? (bx,ox+k*10+6)=some (.bool x.week.d5):=by exact cx k _ hx 6 _ rfl
  have d7:wr.cell? (bx,ox+k*10+7)=some (.bool x.week.d6):=by exact cx k _ hx 7 _ rfl
  have d8:wr.cell? (bx,ox+k*10+8)=some (.int .i64 x.frm):=by exact cx k _ hx 8 _ rfl
  have d9:wr.cell? (bx,ox+k*10+9)=some (.int .i64 x.to):=by exact cx k _ hx 9 _ rfl
  obtain⟨w1,hw1⟩:=ε (wr.alloc (.cells #[qP x.id,.bool x.week.d0,.bool x.week.d1,.bool x.week.d2,.bool x.week.d3,.bool x.week.d4,.bool x.week.d5,.bool x.week.d6,.int .i64 x.frm,.int .i64 x.to] 61));have HX:=qA (show w1.heap[wr.heap.size]? =some (.cells #[qP x.id,.bool x.week.d0,.bool x.week.d1,.bool x.week.d2,.bool x.week.d3,.bool x.week.d4,.bool x.week.d5,.bool x.week.d6,.int .i64 x.frm,.int .i64 x.to] 61 (0,0)) by rw[<-hw1];exact heap_alloc_new wr _);have b1:Bl wr w1:=by rw[<-hw1];exact qE (qB _) _
  have HW1:=qA (HS.o.bl hlt b1);have t0:w1.cell? (wr.heap.size,0)=some (qP x.id):=qC HX.o 0 _ rfl;have t1:w1.cell? (wr.heap.size,1)=some (.bool x.week.d0):=qC HX.o 1 _ rfl;have t2:w1.cell? (wr.heap.size,2)=some (.bool x.week.d1):=qC HX.o 2 _ rfl;have t3:w1.cell? (wr.heap.size,3)=some (.bool x.week.d2):=qC HX.o 3 _ rfl;have t4:w1.cell? (wr.heap.size,4)=some (.bool x.week.d3):=qC HX.o 4 _ rfl;have t5:w1.cell? (wr.heap.size,5)=some (.bool x.week.d4):=qC HX.o 5 _ rfl;have t6:w1.cell? (wr.heap.size,6)=some (.bool x.week.d5):=qC HX.o 6 _ rfl;have t7:w1.cell? (wr.heap.size,7)=some (.bool x.week.d6):=qC HX.o 7 _ rfl;have t8:w1.cell? (wr.heap.size,8)=some (.int .i64 x.frm):=qC HX.o 8 _ rfl;have t9:w1.cell? (wr.heap.size,9)=some (.int .i64 x.to):=qC HX.o 9 _ rfl;clear b1;clear cx;go_wp2_with fail;clear hw1 d0 d1 d2 d3 d4 d5 d6 d7 d8 d9;have HS1:Hid (∀ W,Kp B w1 W->(λW'=>W'.cell? (wr.heap.size,0)=some (qP x.id)/\W'.cell? (wr.heap.size,1)=some (.bool x.week.d0)/\W'.cell? (wr.heap.size,2)=some (.bool x.week.d1)/\W'.cell? (wr.heap.size,3)=some (.bool x.week.d2)/\W'.cell? (wr.heap.size,4)=some (.bool x.week.d3)/\W'.cell? (wr.heap.size,5)=some (.bool x.week.d4)/\W'.cell? (wr.heap.size,6)=some (.bool x.week.d5)/\W'.cell? (wr.heap.size,7)=some (.bool x.week.d6)/\W'.cell? (wr.heap.size,8)=some (.int .i64 x.frm)/\W'.cell? (wr.heap.size,9)=some (.int .i64 x.to)) W):=λW k=>⟨k.cellT HX.o δ δ t0,k.cellT HX.o δ δ t1,k.cellT HX.o δ δ t2,k.cellT HX.o δ δ t3,k.cellT HX.o δ δ t4,k.cellT HX.o δ δ t5,k.cellT HX.o δ δ t6,k.cellT HX.o δ δ t7,k.cellT HX.o δ δ t8,k.cellT HX.o δ δ t9⟩
  have HFL:Hid (∀ y∈([(kw 2),x.id,(Qk x.week),(jb x.frm).1,(jb x.to).1]:List Ψ),y.length<=131072):=λy hy=>by
   simp only[List.mem_cons,List.not_mem_nil,or_false]at hy;rcases hy with rfl|rfl|rfl|rfl|rfl
   · exact Ux (δ:_<=100) ω
   · exact Ux ((Ux hid ω):_<=100) ω
   · exact Ux (rH x.week:_<=100) ω
   · exact Ux (ZL (d:=x.frm):_<=100) ω
   exact Ux (ZL (d:=x.to):_<=100) ω
  have m0:Bl w1 w1.drew:=qH (qB w1);refine wp_region_held_drew (S:=(λW'=>W'.cell? (wr.heap.size,0)=some (qP x.id)/\W'.cell? (wr.heap.size,1)=some (.bool x.week.d0)/\W'.cell? (wr.heap.size,2)=some (.bool x.week.d1)/\W'.cell? (wr.heap.size,3)=some (.bool x.week.d2)/\W'.cell? (wr.heap.size,4)=some (.bool x.week.d3)/\W'.cell? (wr.heap.size,5)=some (.bool x.week.d4)/\W'.cell? (wr.heap.size,6)=some (.bool x.week.d5)/\W'.cell? (wr.heap.size,7)=some (.bool x.week.d6)/\W'.cell? (wr.heap.size,8)=some (.int .i64 x.frm)/\W'.cell? (wr.heap.size,9)=some (.int .i64 x.to))) κ (HS1.o _ (Kp.of_bl (qH (qB w1)) HW1.o.size)) (λ_=>?_);refine qI 0 ?_;refine qI 1 ?_;refine qI 2 ?_;refine qI 3 ?_;refine qI 4 ?_;refine qI 6 ?_;refine qI 7 ?_;refine qI 9 ?_;refine qI 10 ?_;refine zh 5 (λKK hKK=>?_);go_simp;go_at_call 72
  refine(NW x.week _).mono ?_;rintro y1 z1 ⟨rfl,b1⟩;have m1:Bl w1 z1:=qF m0 b1;clear b1;refine hKK.o _ _ (HS1.o _ (Kp.of_bl m1 HW1.o.size)) (λ_=>?_);refine zh 8 (λKK hKK=>?_);go_simp;go_at_call 73
  refine(lD x.frm (jb x.frm).1 (jb x.frm).2 (qA rfl) _).mono ?_;rintro y2 z2 ⟨rfl,b2⟩;have m2:Bl w1 z2:=qF m1 b2;clear b2;refine hKK.o _ _ (HS1.o _ (Kp.of_bl m2 HW1.o.size)) (λ_=>?_);refine zh 11 (λKK hKK=>?_);go_simp;go_at_call 73
  refine(lD x.to (jb x.to).1 (jb x.to).2 (qA rfl) _).mono ?_;rintro y3 z3 ⟨rfl,b3⟩;have m3:Bl w1 z3:=qF m2 b3;clear b3;refine hKK.o _ _ (HS1.o _ (Kp.of_bl m3 HW1.o.size)) (λ_=>?_);refine zh 12 (λKK hKK=>?_);go_simp;skip
  refine hKK.o _ _ (HS1.o _ (Kp.of_bl (qE m3 _) HW1.o.size)) (λ_=>?_);refine zh 13 (λKK hKK=>?_);go_simp;have msz:=m3.size;have bsz:=HW1.o.size;go_at_call 68
  refine(QO B gw _ [(kw 2),x.id,(Qk x.week),(jb x.frm).1,(jb x.to).1] (zL [(kw 2),x.id,(Qk x.week),(jb x.frm).1,(jb x.to).1]).1 (zL [(kw 2),x.id,(Qk x.week),(jb x.frm).1,(jb x.to).1]).2 (qA rfl) HFL _ _ _ (vJ (cells:=strCells) (sz:=1) (λ_=>rfl) [(kw 2),x.id,(Qk x.week),(jb x.frm).1,(jb x.to).1] z3 #[.string ⟨#[99,97,108,101,110,100,97,114]⟩,qP x.id,qP (Qk x.week),qP (jb x.frm).1,qP (jb x.to).1] 9 5 5 rfl (U3 _) ζ rfl) (U3 _) τ ((HW1.o.wr.bl m3).bl (qE (qB _) _)) hll).mono ?_;rintro y9 w9 ⟨rfl,p1,p2,p3⟩;have K9:Kp B w1 w9:=(Kp.of_bl (qE m3 _) HW1.o.size).trans ⟨p2,p3⟩;have HS9:=qA (HW1.o.put hlt p1 K9);clear p1 p2 p3 msz bsz;refine hKK.o _ _ (HS1.o _ K9) (λ_=>?_);refine wpAnyH_done κ ?_ _;try change Exit.then _ _ .normal _ w9
  clear HS1 HFL K9 hll m0 m1 m2 m3;have HS10:=qA (HS9.o.row hx (f:=Qp) (A:=A2) (show Qp x=(zL [(kw 2),x.id,(Qk x.week),(jb x.frm).1,(jb x.to).1]).1 from rfl));clear HS9 HS;go_wp2;go_roundw;case rel=>exact⟨k+1,⟨ω,by go_num⟩,HS10⟩
  simp[intOf];omega
 skip
 have HSe:WS B gw w.heap.size (JQ t ts a0 k0 a1 k1 a2 k2 a3 k3 a4 k4 a5 k5 a6 k6 a7 k7 a8 k8 a9 k9) ts t w (A2++t.cals.map Qp) wr:=by have:=HS.o;rw[U9 ω]at this;exact this
 obtain⟨A3,hA3⟩:=ε (A2++t.cals.map Qp);rw[hA3]at HSe;have HA3:=qA hA3;have lA3:A3.length<=20192:=by rw[<-hA3,U1,U4];omega
 clear HS hA3;have HS:=qA HSe;clear HSe;have uu:wr.cell? (w.heap.size,3)=some (.slice a3 t.excs.length k3):=qC HS.o.tt 3 _ rfl;go_wp2_with fail;clear uu;go_loopw [89] (λi wr=>i=.int .i64 0/\Hid (WS B gw w.heap.size (JQ t ts a0 k0 a1 k1 a2 k2 a3 k3 a4 k4 a5 k5 a6 k6 a7 k7 a8 k8 a9 k9) ts t w A3 wr)) (λ_ _=>0)
 case atStart=>exact⟨rfl,HS⟩
 clear HS;obtain⟨rfl,HS⟩:=hrel;have hz: ¬ (0:Int)<(t.excs.length:Int):=by rw[HE0.o];decide
 obtain⟨A4,hA4⟩:=ε (A3++t.excs.map (wX t));have HA4:=qA hA4;have HSe:WS B gw w.heap.size (JQ t ts a0 k0 a1 k1 a2 k2 a3 k3 a4 k4 a5 k5 a6 k6 a7 k7 a8 k8 a9 k9) ts t w A4 wr:=by rw[<-hA4,HE0.o,List.map_nil,List.append_nil];exact HS.o
 have lA4:A4.length<=20448:=by rw[<-hA4,HE0.o,List.map_nil,List.append_nil];omega
 clear HS hA4;have HS:=qA HSe;clear HSe;have uu:wr.cell? (w.heap.size,4)=some (.slice a4 ts.length k4):=qC HS.o.tt 4 _ rfl;go_wp2_with fail;clear uu;go_loopw [113] (λi wr=> ∃ k:Nat,(k<=ts.length/\i=k)/\Hid (WS B gw w.heap.size (JQ t ts a0 k0 a1 k1 a2 k2 a3 k3 a4 k4 a5 k5 a6 k6 a7 k7 a8 k8 a9 k9) ts t w (A4++(ts.take k).flatMap (λx=>yG t (xOf x))) wr)) (λi _=>ts.length-(intOf i).toNat)
 case atStart=>exact⟨0,⟨qAD _,rfl⟩,by show WS B gw w.heap.size (JQ t ts a0 k0 a1 k1 a2 k2 a3 k3 a4 k4 a5 k5 a6 k6 a7 k7 a8 k8 a9 k9) ts t w _ _;rw[List.take_zero,List.flatMap_nil,List.append_nil];exact HS.o⟩
 clear HS;obtain⟨k,⟨hk,rfl⟩,HS⟩:=hrel;by_cases hlx:k<ts.length
 ·
  obtain⟨x,hx⟩: ∃ x,ts[k]? =some x:=⟨_,U2 hlx⟩;obtain⟨bx,ox,rfl,lx,cx⟩:=HS.o.rd.trips.sl.openB (by first|omega|(rw[U4];omega));have hxm:=Uz hx;have hxt:xOf x∈t.trips:=by rw[HSAME.o];exact List.mem_map_of_mem hxm
  have hkI:(k:Int)<(ts.length:Int):=ω
  obtain⟨A5,hA5⟩:=ε (A4++(ts.take k).flatMap (λx=>yG t (xOf x)));have hl5:A5.length<=40000:=by
   have h1:=Vt (t:=t) ((ts.take k).map xOf) (λy hy=>HL10.o y (by obtain⟨z,hz,rfl⟩:=List.mem_map.1 hy;rw[HSAME.o];exact List.mem_map_of_mem (List.mem_of_mem_take hz)));rw[List.flatMap_map,U4,List.length_take]at h1;rw[<-hA5,U1];have h3:=HLEN5.o;have h2:((ts.take k).flatMap (λx=>yG t (xOf x))).length<=33*min k ts.length:=h1;omega
  rw[hA5]at HS;have HA5:=qA hA5;have hll:A5.length<=1000000:=ω
  clear hA5;obtain⟨hid,hr0,hr1,hcs⟩:=HV.o.trips (xOf x) hxt;have hid':x.id.data.toList.length<=32:=hid;have HCS:=qA hcs;have hcl:x.calls.length<=32:=HL10.o (xOf x) hxt;obtain⟨av,cv,hv,-,-⟩:=(HS.o.rd.trips.ok x hxm).calls.val;have HVX:=qA hv;clear hcs hv hid;change 0<=x.rt/\x.rt<_ at hr0;change 0<=x.cal/\x.cal<_ at hr1;obtain⟨q0,e0,hq0,he0⟩:=Qm (l:=t.routes) hr0;have li0:(q0:Int)<(t.routes.length:Int):=by have:=(Uw.1 he0).1;omega
  have li0n:q0<t.routes.length:=(Uw.1 he0).1;obtain⟨q1,e1,hq1,he1⟩:=Qm (l:=t.cals) hr1;have li1:(q1:Int)<(t.cals.length:Int):=by have:=(Uw.1 he1).1;omega
  have li1n:q1<t.cals.length:=(Uw.1 he1).1;have d0:wr.cell? (bx,ox+k*5)=some (.string x.id):=by exact cx k _ hx 0 _ rfl
  have d1:wr.cell? (bx,ox+k*5+1)=some ((q0:Int):Z):=by rw[<-hq0];exact cx k _ hx 1 _ rfl
  have d2:wr.cell? (bx,ox+k*5+2)=some ((q1:Int):Z):=by rw[<-hq1];exact cx k _ hx 2 _ rfl
  have d3:wr.cell? (bx,ox+k*5+3)=some (.bool x.step):=by exact cx k _ hx 3 _ rfl
  have d4:wr.cell? (bx,ox+k*5+4)=some (.slice av x.calls.length cv):=by rw[<-HVX.o];exact cx k _ hx 4 _ rfl
  obtain⟨w1,hw1⟩:=ε (wr.alloc (.cells #[.string x.id,(q0:Int),(q1:Int),.bool x.step,.slice av x.calls.length cv] 56));have HX:=qA (show w1.heap[wr.heap.size]? =some (.cells #[.string x.id,(q0:Int),(q1:Int),.bool x.step,.slice av x.calls.length cv] 56 (0,0)) by rw[<-hw1];exact heap_alloc_new wr _);have b1:Bl wr w1:=by rw[<-hw1];exact qE (qB _) _
  have HW1:=qA (HS.o.bl hlt b1);have t0:w1.cell? (wr.heap.size,0)=some (.string x.id):=qC HX.o 0 _ rfl;have t1:w1.cell? (wr.heap.size,1)=some ((q0:Int):Z):=qC HX.o 1 _ rfl;have t2:w1.cell? (wr.heap.size,2)=some ((q1:Int):Z):=qC HX.o 2 _ rfl;have t3:w1.cell? (wr.heap.size,3)=some (.bool x.step):=qC HX.o 3 _ rfl;have t4:w1.cell? (wr.heap.size,4)=some (.slice av x.calls.length cv):=qC HX.o 4 _ rfl;clear b1;obtain⟨b0,o0,rfl,l0,cc0⟩:=HW1.o.rd.routes.openB ω;have u0:w1.cell? (w.heap.size,1)=some ((b0,o0,t.routes.length,k1):Z):=qC HW1.o.tt 1 _ rfl;have v0:w1.cell? (b0,o0+q0*3)=some (qP e0.id):=cc0 q0 _ he0 0 _ rfl;obtain⟨b1,o1,rfl,l1,cc1⟩:=HW1.o.rd.cals.openB ω;have u1:w1.cell? (w.heap.size,2)=some ((b1,o1,t.cals.length,k2):Z):=qC HW1.o.tt 2 _ rfl;have v1:w1.cell? (b1,o1+q1*10)=some (qP e1.id):=cc1 q1 _ he1 0 _ rfl;clear cx cc0 cc1;go_wp2_with fail;clear hw1 d0 d1 d2 d3 d4;have HS1:Hid (∀ W,Kp B w1 W->(λW'=>W'.cell? (wr.heap.size,0)=some (.string x.id)/\W'.cell? (wr.heap.size,1)=some ((q0:Int):Z)/\W'.cell? (wr.heap.size,2)=some ((q1:Int):Z)/\W'.cell? (wr.heap.size,3)=some (.bool x.step)/\W'.cell? (w.heap.size,1)=some ((b0,o0,t.routes.length,k1):Z)/\W'.cell? (b0,o0+q0*3)=some (qP e0.id)/\W'.cell? (w.heap.size,2)=some ((b1,o1,t.cals.length,k2):Z)/\W'.cell? (b1,o1+q1*10)=some (qP e1.id)) W):=λW k=>⟨k.cellT HX.o δ δ t0,k.cellT HX.o δ δ t1,k.cellT HX.o δ δ t2,k.cellT HX.o δ δ t3,k.cellT HW1.o.tt δ δ u0,k.cellB l0 v0,k.cellT HW1.o.tt δ δ u1,k.cellB l1 v1⟩
  have HFL:Hid (∀ y∈([(kw 4),x.id.data.toList,e0.id,e1.id,(kG x.step)]:List Ψ),y.length<=131072):=λy hy=>by
   simp only[List.mem_cons,List.not_mem_nil,or_false]at hy;rcases hy with rfl|rfl|rfl|rfl|rfl
   · exact Ux (δ:_<=100) ω
   · exact Ux ((Ux hid' ω):_<=100) ω
   · exact Ux ((Ux (HV.o.routes _ (Uz he0)).1 ω):_<=100) ω
   · exact Ux ((Ux (HV.o.cals _ (Uz he1)).1 ω):_<=100) ω
   exact Ux (Jo x.step:_<=100) ω
  have m0:Bl w1 w1.drew:=qH (qB w1);refine wp_region_held_drew (S:=(λW'=>W'.cell? (wr.heap.size,0)=some (.string x.id)/\W'.cell? (wr.heap.size,1)=some ((q0:Int):Z)/\W'.cell? (wr.heap.size,2)=some ((q1:Int):Z)/\W'.cell? (wr.heap.size,3)=some (.bool x.step)/\W'.cell? (w.heap.size,1)=some ((b0,o0,t.routes.length,k1):Z)/\W'.cell? (b0,o0+q0*3)=some (qP e0.id)/\W'.cell? (w.heap.size,2)=some ((b1,o1,t.cals.length,k2):Z)/\W'.cell? (b1,o1+q1*10)=some (qP e1.id))) κ (HS1.o _ (Kp.of_bl (qH (qB w1)) HW1.o.size)) (λ_=>?_);refine qI 0 ?_;refine qI 1 ?_;refine qI 2 ?_;refine qI 3 ?_;refine qI 4 ?_;refine qI 5 ?_;refine qI 6 ?_;refine qI 7 ?_;refine qI 8 ?_;refine qI 9 ?_;refine qI 10 ?_;refine qI 11 ?_;refine qI 12 ?_;refine qI 13 ?_;refine qI 14 ?_;refine qI 15 ?_;refine qI 16 ?_;refine qI 17 ?_;refine qI 18 ?_;refine zh 19 (λKK hKK=>?_);go_simp;go_at_call 70
  refine(Wv x.step _).mono ?_;rintro y1 z1 ⟨rfl,b1⟩;have m1:Bl w1 z1:=by rw[b1];exact m0
  clear b1;refine hKK.o _ _ (HS1.o _ (Kp.of_bl m1 HW1.o.size)) (λ_=>?_);refine zh 20 (λKK hKK=>?_);go_simp;skip
  refine hKK.o _ _ (HS1.o _ (Kp.of_bl (qE m1 _) HW1.o.size)) (λ_=>?_);refine zh 21 (λKK hKK=>?_);go_simp;have msz:=m1.size;have bsz:=HW1.o.size;go_at_call 68
  refine(QO B gw _ [(kw 4),x.id.data.toList,e0.id,e1.id,(kG x.step)] (zL [(kw 4),x.id.data.toList,e0.id,e1.id,(kG x.step)]).1 (zL [(kw 4),x.id.data.toList,e0.id,e1.id,(kG x.step)]).2 (qA rfl) HFL _ _ _ (vJ (cells:=strCells) (sz:=1) (λ_=>rfl) [(kw 4),x.id.data.toList,e0.id,e1.id,(kG x.step)] z1 #[.string ⟨#[116,114,105,112]⟩,.string x.id,qP e0.id,qP e1.id,qP (kG x.step)] 9 5 5 rfl (U3 _) ζ rfl) (U3 _) τ ((HW1.o.wr.bl m1).bl (qE (qB _) _)) hll).mono ?_;rintro y9 w9 ⟨rfl,p1,p2,p3⟩;have K9:Kp B w1 w9:=(Kp.of_bl (qE m1 _) HW1.o.size).trans ⟨p2,p3⟩;have HS9:=qA (HW1.o.put hlt p1 K9);clear p1 p2 p3 msz bsz;refine hKK.o _ _ (HS1.o _ K9) (λ_=>?_);refine wpAnyH_done κ ?_ _;try change Exit.then _ _ .normal _ w9
  have x4:w9.cell? (wr.heap.size,4)=some (.slice av x.calls.length cv):=K9.cellT HX.o δ δ t4;clear HS1 HFL K9 hll m0 m1;obtain⟨A6,hA6⟩:=ε (A5++[(zL [(kw 4),x.id.data.toList,e0.id,e1.id,(kG x.step)]).1]);have hrow:(zL [(kw 4),x.id.data.toList,e0.id,e1.id,(kG x.step)]).1=iH t (xOf x):=by
   show _=jZ [kw 4,x.id.data.toList,jF _ x.rt,jF _ x.cal,kG x.step]
   unfold jZ;rw[hq0,Qv he0,hq1,Qv he1]
  have HA6:Hid (A5++[iH t (xOf x)]=A6):=by show _=_;rw[<-hA6,hrow]
  have lA6:A6.length<=40001:=by rw[<-hA6,U1];simp;omega
  rw[hA6]at HS9;clear HS hA6 hrow t0 t1 t2 t3 t4 u0 v0 u1 v1;have HS:=HS9;clear HS9;go_wp2_with fail;clear x4;go_loopw [142] (λi wi=> ∃ j:Nat,(j<=x.calls.length/\i=j)/\Hid (WS B gw w.heap.size (JQ t ts a0 k0 (some (b0,o0)) k1 (some (b1,o1)) k2 a3 k3 (some (bx,ox)) k4 a5 k5 a6 k6 a7 k7 a8 k8 a9 k9) ts t w (A6++(x.calls.take j).map (Qs t)) wi)) (λi _=>x.calls.length-(intOf i).toNat)
  case atStart=>exact⟨0,⟨qAD _,rfl⟩,by show WS B gw w.heap.size (JQ t ts a0 k0 (some (b0,o0)) k1 (some (b1,o1)) k2 a3 k3 (some (bx,ox)) k4 a5 k5 a6 k6 a7 k7 a8 k8 a9 k9) ts t w _ _;rw[List.take_zero,List.map_nil,List.append_nil];exact HS.o⟩
  clear HS HW1 HX;obtain⟨j,⟨hj,rfl⟩,HS⟩:=hrel;by_cases hlj:j<x.calls.length
  ·
   obtain⟨c,hc⟩: ∃ c,x.calls[j]? =some c:=⟨_,U2 hlj⟩;have hci:=(HS.o.rd.trips.ok x hxm).calls;rw[HVX.o]at hci;obtain⟨by',oy,rfl,ly,cy⟩:=hci.openB ω;have hcm:=Uz hc;have hjI:(j:Int)<(x.calls.length:Int):=ω
   have hll:(A6++(x.calls.take j).map (Qs t)).length<=1000000:=by have:=xC A6 x.calls (Qs t) j;omega
   obtain⟨hs0,⟨z0,z1⟩,⟨g0,g1⟩⟩:=HCS.o c hcm;obtain⟨q2,e2,hq2,he2⟩:=Qm (l:=t.stops) hs0;have li2:(q2:Int)<(t.stops.length:Int):=by have:=(Uw.1 he2).1;omega
   have li2n:q2<t.stops.length:=(Uw.1 he2).1;have d0:wr.cell? (by',oy+j*5)=some ((q2:Int):Z):=by rw[<-hq2];exact cy j _ hc 0 _ rfl
   have d1:wr.cell? (by',oy+j*5+1)=some (.int .i64 c.arrive):=by exact cy j _ hc 1 _ rfl
   have d2:wr.cell? (by',oy+j*5+2)=some (.int .i64 c.depart):=by exact cy j _ hc 2 _ rfl
   have d3:wr.cell? (by',oy+j*5+3)=some (.bool c.board):=by exact cy j _ hc 3 _ rfl
   have d4:wr.cell? (by',oy+j*5+4)=some (.bool c.alight):=by exact cy j _ hc 4 _ rfl
   obtain⟨w7,hw1⟩:=ε (wr.alloc (.cells #[(q2:Int),.int .i64 c.arrive,.int .i64 c.depart,.bool c.board,.bool c.alight] 58));have HX:=qA (show w7.heap[wr.heap.size]? =some (.cells #[(q2:Int),.int .i64 c.arrive,.int .i64 c.depart,.bool c.board,.bool c.alight] 58 (0,0)) by rw[<-hw1];exact heap_alloc_new wr _);have b1:Bl wr w7:=by rw[<-hw1];exact qE (qB _) _
   have HW7:=qA (HS.o.bl hlt b1);have t0:w7.cell? (wr.heap.size,0)=some ((q2:Int):Z):=qC HX.o 0 _ rfl;have t1:w7.cell? (wr.heap.size,1)=some (.int .i64 c.arrive):=qC HX.o 1 _ rfl;have t2:w7.cell? (wr.heap.size,2)=some (.int .i64 c.depart):=qC HX.o 2 _ rfl;have t3:w7.cell? (wr.heap.size,3)=some (.bool c.board):=qC HX.o 3 _ rfl;have t4:w7.cell? (wr.heap.size,4)=some (.bool c.alight):=qC HX.o 4 _ rfl;clear b1;obtain⟨b2,o2,rfl,l2,cc2⟩:=HW7.o.rd.stops.openB ω;have u2:w7.cell? (w.heap.size,0)=some ((b2,o2,t.stops.length,k0):Z):=qC HW7.o.tt 0 _ rfl;have v2:w7.cell? (b2,o2+q2*4)=some (qP e2.id):=cc2 q2 _ he2 0 _ rfl;clear cy cc2;go_wp2_with fail;clear hw1 d0 d1 d2 d3 d4;have HS1:Hid (∀ W,Kp B w7 W->(λW'=>W'.cell? (wr.heap.size,0)=some ((q2:Int):Z)/\W'.cell? (wr.heap.size,1)=some (.int .i64 c.arrive)/\W'.cell? (wr.heap.size,2)=some (.int .i64 c.depart)/\W'.cell? (wr.heap.size,3)=some (.bool c.board)/\W'.cell? (wr.heap.size,4)=some (.bool c.alight)/\W'.cell? (w.heap.size,0)=some ((b2,o2,t.stops.length,k0):Z)/\W'.cell? (b2,o2+q2*4)=some (qP e2.id)) W):=λW k=>⟨k.cellT HX.o δ δ t0,k.cellT HX.o δ δ t1,k.cellT HX.o δ δ t2,k.cellT HX.o δ δ t3,k.cellT HX.o δ δ t4,k.cellT HW7.o.tt δ δ u2,k.cellB l2 v2⟩
   have HFL:Hid (∀ y∈([(kw 10),e2.id,(xU c.arrive).1,(xU c.depart).1,(Qh (⟨(q2:Int),c.arrive,c.depart,c.board,c.alight⟩:CallD))]:List Ψ),y.length<=131072):=λy hy=>by
    simp only[List.mem_cons,List.not_mem_nil,or_false]at hy;rcases hy with rfl|rfl|rfl|rfl|rfl
    · exact Ux (δ:_<=100) ω
    · exact Ux ((Ux (HV.o.stops _ (Uz he2)).1 ω):_<=100) ω
    · exact Ux (Zj (t:=c.arrive):_<=100) ω
    · exact Ux (Zj (t:=c.depart):_<=100) ω
    exact Ux (oG (⟨(q2:Int),c.arrive,c.depart,c.board,c.alight⟩:CallD):_<=100) ω
   have m0:Bl w7 w7.drew:=qH (qB w7);refine wp_region_held_drew (S:=(λW'=>W'.cell? (wr.heap.size,0)=some ((q2:Int):Z)/\W'.cell? (wr.heap.size,1)=some (.int .i64 c.arrive)/\W'.cell? (wr.heap.size,2)=some (.int .i64 c.depart)/\W'.cell? (wr.heap.size,3)=some (.bool c.board)/\W'.cell? (wr.heap.size,4)=some (.bool c.alight)/\W'.cell? (w.heap.size,0)=some ((b2,o2,t.stops.length,k0):Z)/\W'.cell? (b2,o2+q2*4)=some (qP e2.id))) κ (HS1.o _ (Kp.of_bl (qH (qB w7)) HW7.o.size)) (λ_=>?_);refine qI 0 ?_;refine qI 1 ?_;refine qI 2 ?_;refine qI 3 ?_;refine qI 4 ?_;refine qI 5 ?_;refine qI 6 ?_;refine qI 7 ?_;refine qI 8 ?_;refine qI 9 ?_;refine qI 11 ?_;refine qI 12 ?_;refine qI 14 ?_;refine zh 10 (λKK hKK=>?_);go_simp;go_at_call 74
   refine(Wx c.arrive (xU c.arrive).1 (xU c.arrive).2 (qA rfl) _).mono ?_;rintro y1 z1 ⟨rfl,b1⟩;have m1:Bl w7 z1:=qF m0 b1;clear b1;refine hKK.o _ _ (HS1.o _ (Kp.of_bl m1 HW7.o.size)) (λ_=>?_);refine zh 13 (λKK hKK=>?_);go_simp;go_at_call 74
   refine(Wx c.depart (xU c.depart).1 (xU c.depart).2 (qA rfl) _).mono ?_;rintro y2 z2 ⟨rfl,b2⟩;have m2:Bl w7 z2:=qF m1 b2;clear b2;refine hKK.o _ _ (HS1.o _ (Kp.of_bl m2 HW7.o.size)) (λ_=>?_);refine zh 15 (λKK hKK=>?_);go_simp;go_at_call 75
   refine(NU (⟨(q2:Int),c.arrive,c.depart,c.board,c.alight⟩:CallD) _).mono ?_;rintro y3 z3 ⟨rfl,b3⟩;have m3:Bl w7 z3:=qF m2 b3;clear b3;refine hKK.o _ _ (HS1.o _ (Kp.of_bl m3 HW7.o.size)) (λ_=>?_);refine zh 16 (λKK hKK=>?_);go_simp;skip
   refine hKK.o _ _ (HS1.o _ (Kp.of_bl (qE m3 _) HW7.o.size)) (λ_=>?_);refine zh 17 (λKK hKK=>?_);go_simp;have msz:=m3.size;have bsz:=HW7.o.size;go_at_call 68
   refine(QO B gw _ [(kw 10),e2.id,(xU c.arrive).1,(xU c.depart).1,(Qh (⟨(q2:Int),c.arrive,c.depart,c.board,c.alight⟩:CallD))] (zL [(kw 10),e2.id,(xU c.arrive).1,(xU c.depart).1,(Qh (⟨(q2:Int),c.arrive,c.depart,c.board,c.alight⟩:CallD))]).1 (zL [(kw 10),e2.id,(xU c.arrive).1,(xU c.depart).1,(Qh (⟨(q2:Int),c.arrive,c.depart,c.board,c.alight⟩:CallD))]).2 (qA rfl) HFL _ _ _ (vJ (cells:=strCells) (sz:=1) (λ_=>rfl) [(kw 10),e2.id,(xU c.arrive).1,(xU c.depart).1,(Qh (⟨(q2:Int),c.arrive,c.depart,c.board,c.alight⟩:CallD))] z3 #[.string ⟨#[99,97,108,108]⟩,qP e2.id,qP (xU c.arrive).1,qP (xU c.depart).1,qP (Qh (⟨(q2:Int),c.arrive,c.depart,c.board,c.alight⟩:CallD))] 9 5 5 rfl (U3 _) ζ rfl) (U3 _) τ ((HW7.o.wr.bl m3).bl (qE (qB _) _)) hll).mono ?_;rintro y9 w9 ⟨rfl,p1,p2,p3⟩;have K9:Kp B w7 w9:=(Kp.of_bl (qE m3 _) HW7.o.size).trans ⟨p2,p3⟩;have HS9:=qA (HW7.o.put hlt p1 K9);clear p1 p2 p3 msz bsz;refine hKK.o _ _ (HS1.o _ K9) (λ_=>?_);refine wpAnyH_done κ ?_ _;try change Exit.then _ _ .normal _ w9
   clear HS1 HFL K9 hll m0 m1 m2 m3;have HS10:=qA (HS9.o.row hc (f:=Qs t) (A:=A6) (show Qs t c=(zL [(kw 10),e2.id,(xU c.arrive).1,(xU c.depart).1,(Qh (⟨(q2:Int),c.arrive,c.depart,c.board,c.alight⟩:CallD))]).1 from by unfold Qs jZ;rw[hq2,Qv he2,<-hq2]));clear HS9 HS;go_wp2;go_roundw;case rel=>exact⟨j+1,⟨ω,by go_num⟩,HS10⟩
   simp[intOf];omega
  have HSe:=HS.o.all ω;have HS10:=qA (HSe.reshape (show A6++x.calls.map (Qs t)=A4++(ts.take (k+1)).flatMap (λx=>yG t (xOf x)) by
   rw[ql hx,List.flatMap_append,<-List.append_assoc,HA5.o,<-HA6.o,List.append_assoc];simp[yG,xOf]))
  clear HSe HS;go_wp2;go_roundw;case rel=>exact⟨k+1,⟨ω,by go_num⟩,HS10⟩
  simp[intOf];omega
 have HSe:WS B gw w.heap.size (JQ t ts a0 k0 a1 k1 a2 k2 a3 k3 a4 k4 a5 k5 a6 k6 a7 k7 a8 k8 a9 k9) ts t w (A4++ts.flatMap (λx=>yG t (xOf x))) wr:=by have:=HS.o;rw[U9 ω]at this;exact this
 have hfin:A4++ts.flatMap (λx=>yG t (xOf x))=A0++t.stops.map xK++t.routes.map ve++t.cals.map Qp++t.excs.map (wX t)++t.trips.flatMap (yG t):=by
  rw[<-HA4.o,<-HA3.o,<-HA2.o,<-HA1.o,HSAME.o,List.flatMap_map]
 rw[hfin]at HSe;have HF:=qA HSe;clear HSe hfin HS;go_wp2;go_end0;exact⟨rfl,HF.o.wr,HF.o.bel⟩
theorem qCf (B gw:Nat) (V:TtV) (ts:List TripD) (t:TtD) (v:Hid (AY t)) (lim:Hid (Rj t)) (HE0:Hid (t.freqs=[]/\t.thrus=[]/\t.guars=[]/\t.fares.disc=0/\t.fares.within=0/\t.fares.cap=0)) (hlt:0<B) (A0:List Ψ) (lA0:A0.length<=20000) (w:World) (rd:yA B w V ts t) (wat:Ea B gw A0 w) (nm:yS w) (hB:B<=w.heap.size):
  Calls prog 31 #[(gw,0),JP V t] w λq w'=>q=.returned (.tuple #[])/\Ea B gw (eQ t A0) w'/\Below B w w':=by
 have HV:=v;have HSAME:=qA rd.same;have hlen5:ts.length=t.trips.length:=by have:=congrArg List.length rd.same;rw[U4]at this;exact this.symm
 have HLEN5:=qA hlen5;obtain⟨L0,L1,L2,L3,L4,L5,L6,L7,L8,L9,L10⟩:=lim.o;have HL10:=qA L10;have RD:=qA rd;obtain⟨v0,v1,v2,v3,v4,v5,v6,v7,v8,v9⟩:=V;obtain⟨a0,k0,(rfl:v0=_),-,-⟩:=rd.stops.val;obtain⟨a1,k1,(rfl:v1=_),-,-⟩:=rd.routes.val;obtain⟨a2,k2,(rfl:v2=_),-,-⟩:=rd.cals.val;obtain⟨a3,k3,(rfl:v3=_),-,-⟩:=rd.excs.val;obtain⟨a4,k4,(rfl:v4=_),-,-⟩:=rd.trips.sl.val;obtain⟨a5,k5,(rfl:v5=_),-,-⟩:=rd.freqs.val;obtain⟨a6,k6,(rfl:v6=_),-,-⟩:=rd.thrus.val;obtain⟨a7,k7,(rfl:v7=_),-,-⟩:=rd.guars.val;obtain⟨a8,k8,(rfl:v8=_),-,-⟩:=rd.paths.val;obtain⟨a9,k9,(rfl:v9=_),-,-⟩:=rd.prods.val;have hts:ts.length<=256:=ω
 clear rd L10 v lim hlen5;unfold JP;simp only[U4]at RD ⊢;change Hid (yA B w (JQ t ts a0 k0 a1 k1 a2 k2 a3 k3 a4 k4 a5 k5 a6 k6 a7 k7 a8 k8 a9 k9) ts t)at RD;obtain⟨w0,hw0⟩:=ε (w.alloc (.cells (Qa (JQ t ts a0 k0 a1 k1 a2 k2 a3 k3 a4 k4 a5 k5 a6 k6 a7 k7 a8 k8 a9 k9) t.fares) 36));have b0:Bl w w0:=by rw[<-hw0];exact qE (qB _) _
 have HS0:Hid (WS B gw w.heap.size (JQ t ts a0 k0 a1 k1 a2 k2 a3 k3 a4 k4 a5 k5 a6 k6 a7 k7 a8 k8 a9 k9) ts t w A0 w0):=⟨RD.o.bl b0 hB,by rw[<-hw0];exact heap_alloc_new w _,wat.bl b0,nm.bl b0,b0.mono hB,Ux hB b0.size⟩;clear b0 wat nm RD;have HS:=HS0;clear HS0;simp only[Qa]at hw0;have uu:w0.cell? (w.heap.size,5)=some (.slice a5 t.freqs.length k5):=qC HS.o.tt 5 _ rfl;go_enter func31,ntmps31
 go_wp2_with fail;clear hw0 uu;go_loopw [20] (λi wr=>i=.int .i64 0/\Hid (WS B gw w.heap.size (JQ t ts a0 k0 a1 k1 a2 k2 a3 k3 a4 k4 a5 k5 a6 k6 a7 k7 a8 k8 a9 k9) ts t w A0 wr)) (λ_ _=>0)
 case atStart=>exact⟨rfl,HS⟩
 clear HS;obtain⟨rfl,HS⟩:=hrel;have hz: ¬ (0:Int)<(t.freqs.length:Int):=by rw[HE0.o.1];decide
 obtain⟨A1,hA1⟩:=ε (A0++t.freqs.map (Q5 t));have HA1:=qA hA1;have HSe:WS B gw w.heap.size (JQ t ts a0 k0 a1 k1 a2 k2 a3 k3 a4 k4 a5 k5 a6 k6 a7 k7 a8 k8 a9 k9) ts t w A1 wr:=by rw[<-hA1,HE0.o.1,List.map_nil,List.append_nil];exact HS.o
 have lA1:A1.length<=20064:=by rw[<-hA1,HE0.o.1,List.map_nil,List.append_nil];omega
 clear HS hA1;have HS:=qA HSe;clear HSe;have uu:wr.cell? (w.heap.size,6)=some (.slice a6 t.thrus.length k6):=qC HS.o.tt 6 _ rfl;go_wp2_with fail;clear uu;go_loopw [47] (λi wr=>i=.int .i64 0/\Hid (WS B gw w.heap.size (JQ t ts a0 k0 a1 k1 a2 k2 a3 k3 a4 k4 a5 k5 a6 k6 a7 k7 a8 k8 a9 k9) ts t w A1 wr)) (λ_ _=>0)
 case atStart=>exact⟨rfl,HS⟩
 clear HS;obtain⟨rfl,HS⟩:=hrel;have hz: ¬ (0:Int)<(t.thrus.length:Int):=by rw[HE0.o.2.1];decide
 obtain⟨A2,hA2⟩:=ε (A1++t.thrus.map (Q8 t));have HA2:=qA hA2;have HSe:WS B gw w.heap.size (JQ t ts a0 k0 a1 k1 a2 k2 a3 k3 a4 k4 a5 k5 a6 k6 a7 k7 a8 k8 a9 k9) ts t w A2 wr:=by rw[<-hA2,HE0.o.2.1,List.map_nil,List.append_nil];exact HS.o
 have lA2:A2.length<=20192:=by rw[<-hA2,HE0.o.2.1,List.map_nil,List.append_nil];omega
 clear HS hA2;have HS:=qA HSe;clear HSe;have uu:wr.cell? (w.heap.size,7)=some (.slice a7 t.guars.length k7):=qC HS.o.tt 7 _ rfl;go_wp2_with fail;clear uu;go_loopw [72] (λi wr=>i=.int .i64 0/\Hid (WS B gw w.heap.size (JQ t ts a0 k0 a1 k1 a2 k2 a3 k3 a4 k4 a5 k5 a6 k6 a7 k7 a8 k8 a9 k9) ts t w A2 wr)) (λ_ _=>0)
 case atStart=>exact⟨rfl,HS⟩
 clear HS;obtain⟨rfl,HS⟩:=hrel;have hz: ¬ (0:Int)<(t.guars.length:Int):=by rw[HE0.o.2.2.1];decide
 obtain⟨A3,hA3⟩:=ε (A2++t.guars.map (Je t));have HA3:=qA hA3;have HSe:WS B gw w.heap.size (JQ t ts a0 k0 a1 k1 a2 k2 a3 k3 a4 k4 a5 k5 a6 k6 a7 k7 a8 k8 a9 k9) ts t w A3 wr:=by rw[<-hA3,HE0.o.2.2.1,List.map_nil,List.append_nil];exact HS.o
 have lA3:A3.length<=20320:=by rw[<-hA3,HE0.o.2.2.1,List.map_nil,List.append_nil];omega
 clear HS hA3;have HS:=qA HSe;clear HSe;have uu:wr.cell? (w.heap.size,8)=some (.slice a8 t.paths.length k8):=qC HS.o.tt 8 _ rfl;go_wp2_with fail;clear uu;go_loopw [104] (λi wr=> ∃ k:Nat,(k<=t.paths.length/\i=k)/\Hid (WS B gw w.heap.size (JQ t ts a0 k0 a1 k1 a2 k2 a3 k3 a4 k4 a5 k5 a6 k6 a7 k7 a8 k8 a9 k9) ts t w (A3++(t.paths.take k).map (Q7 t)) wr)) (λi _=>t.paths.length-(intOf i).toNat)
 case atStart=>exact⟨0,⟨qAD _,rfl⟩,by show WS B gw w.heap.size (JQ t ts a0 k0 a1 k1 a2 k2 a3 k3 a4 k4 a5 k5 a6 k6 a7 k7 a8 k8 a9 k9) ts t w _ _;rw[List.take_zero,List.map_nil,List.append_nil];exact HS.o⟩
 clear HS;obtain⟨k,⟨hk,rfl⟩,HS⟩:=hrel;by_cases hlx:k<t.paths.length
 ·
  obtain⟨x,hx⟩: ∃ x,t.paths[k]? =some x:=⟨_,U2 hlx⟩;obtain⟨bx,ox,rfl,lx,cx⟩:=HS.o.rd.paths.openB (by first|omega|(rw[U4];omega));have hxm:=Uz hx;have hkI:(k:Int)<(t.paths.length:Int):=ω
  have hll:(A3++(t.paths.take k).map (Q7 t)).length<=1000000:=by have:=xC A3 t.paths (Q7 t) k;omega
  obtain⟨hc0,hc1,⟨z0,z1⟩⟩:=HV.o.paths x hxm;obtain⟨q0,e0,hq0,he0⟩:=Qm (l:=t.stops) hc0;have li0:(q0:Int)<(t.stops.length:Int):=by have:=(Uw.1 he0).1;omega
  have li0n:q0<t.stops.length:=(Uw.1 he0).1;obtain⟨q1,e1,hq1,he1⟩:=Qm (l:=t.stops) hc1;have li1:(q1:Int)<(t.stops.length:Int):=by have:=(Uw.1 he1).1;omega
  have li1n:q1<t.stops.length:=(Uw.1 he1).1;have d0:wr.cell? (bx,ox+k*4)=some ((q0:Int):Z):=by rw[<-hq0];exact cx k _ hx 0 _ rfl
  have d1:wr.cell? (bx,ox+k*4+1)=some ((q1:Int):Z):=by rw[<-hq1];exact cx k _ hx 1 _ rfl
  have d2:wr.cell? (bx,ox+k*4+2)=some (.int .i64 x.secs):=by exact cx k _ hx 2 _ rfl
  have d3:wr.cell? (bx,ox+k*4+3)=some (.bool x.free):=by exact cx k _ hx 3 _ rfl
  obtain⟨w1,hw1⟩:=ε (wr.alloc (.cells #[(q0:Int),(q1:Int),.int .i64 x.secs,.bool x.free] 63));have HX:=qA (show w1.heap[wr.heap.size]? =some (.cells #[(q0:Int),(q1:Int),.int .i64 x.secs,.bool x.free] 63 (0,0)) by rw[<-hw1];exact heap_alloc_new wr _);have b1:Bl wr w1:=by rw[<-hw1];exact qE (qB _) _
  have HW1:=qA (HS.o.bl hlt b1);have t0:w1.cell? (wr.heap.size,0)=some ((q0:Int):Z):=qC HX.o 0 _ rfl;have t1:w1.cell? (wr.heap.size,1)=some ((q1:Int):Z):=qC HX.o 1 _ rfl;have t2:w1.cell? (wr.heap.size,2)=some (.int .i64 x.secs):=qC HX.o 2 _ rfl;have t3:w1.cell? (wr.heap.size,3)=some (.bool x.free):=qC HX.o 3 _ rfl;clear b1;obtain⟨b0,o0,rfl,l0,cc0⟩:=HW1.o.rd.stops.openB ω;have u0:w1.cell? (w.heap.size,0)=some ((b0,o0,t.stops.length,k0):Z):=qC HW1.o.tt 0 _ rfl;have v0:w1.cell? (b0,o0+q0*4)=some (qP e0.id):=cc0 q0 _ he0 0 _ rfl;have v1:w1.cell? (b0,o0+q1*4)=some (qP e1.id):=cc0 q1 _ he1 0 _ rfl;clear cx cc0;go_wp2_with fail;clear hw1 d0 d1 d2 d3;have HS1:Hid (∀ W,Kp B w1 W->(λW'=>W'.cell? (wr.heap.size,0)=some ((q0:Int):Z)/\W'.cell? (wr.heap.size,1)=some ((q1:Int):Z)/\W'.cell? (wr.heap.size,2)=some (.int .i64 x.secs)/\W'.cell? (wr.heap.size,3)=some (.bool x.free)/\W'.cell? (w.heap.size,0)=some ((b0,o0,t.stops.length,k0):Z)/\W'.cell? (b0,o0+q0*4)=some (qP e0.id)/\W'.cell? (b0,o0+q1*4)=some (qP e1.id)) W):=λW k=>⟨k.cellT HX.o δ δ t0,k.cellT HX.o δ δ t1,k.cellT HX.o δ δ t2,k.cellT HX.o δ δ t3,k.cellT HW1.o.tt δ δ u0,k.cellB l0 v0,k.cellB l0 v1⟩
  have HFL:Hid (∀ y∈([(kw 8),e0.id,e1.id,(jc x.secs),(kG x.free)]:List Ψ),y.length<=131072):=λy hy=>by
   simp only[List.mem_cons,List.not_mem_nil,or_false]at hy;rcases hy with rfl|rfl|rfl|rfl|rfl
   · exact Ux (δ:_<=100) ω
   · exact Ux ((Ux (HV.o.stops _ (Uz he0)).1 ω):_<=100) ω
   · exact Ux ((Ux (HV.o.stops _ (Uz he1)).1 ω):_<=100) ω
   · exact Ux (Zh (n:=x.secs):_<=100) ω
   exact Ux (Jo x.free:_<=100) ω
  have m0:Bl w1 w1.drew:=qH (qB w1);refine wp_region_held_drew (S:=(λW'=>W'.cell? (wr.heap.size,0)=some ((q0:Int):Z)/\W'.cell? (wr.heap.size,1)=some ((q1:Int):Z)/\W'.cell? (wr.heap.size,2)=some (.int .i64 x.secs)/\W'.cell? (wr.heap.size,3)=some (.bool x.free)/\W'.cell? (w.heap.size,0)=some ((b0,o0,t.stops.length,k0):Z)/\W'.cell? (b0,o0+q0*4)=some (qP e0.id)/\W'.cell? (b0,o0+q1*4)=some (qP e1.id))) κ (HS1.o _ (Kp.of_bl (qH (qB w1)) HW1.o.size)) (λ_=>?_);refine qI 0 ?_;refine qI 1 ?_;refine qI 2 ?_;refine qI 3 ?_;refine qI 4 ?_;refine qI 5 ?_;refine qI 6 ?_;refine qI 7 ?_;refine qI 8 ?_;refine qI 9 ?_;refine qI 10 ?_;refine qI 11 ?_;refine qI 12 ?_;refine qI 13 ?_;refine qI 14 ?_;refine qI 15 ?_;refine qI 16 ?_;refine qI 18 ?_;refine qI 19 ?_;refine zh 17 (λKK hKK=>?_);go_simp;go_at_call 76
  refine(lF x.secs (jc x.secs) (Ck.gW x.secs).2 (qA (Prod.ext (Yx x.secs) rfl)) _).mono ?_;rintro y1 z1 ⟨rfl,b1⟩;have m1:Bl w1 z1:=qF m0 b1;clear b1;refine hKK.o _ _ (HS1.o _ (Kp.of_bl m1 HW1.o.size)) (λ_=>?_);refine zh 20 (λKK hKK=>?_);go_simp;go_at_call 70
  refine(Wv x.free _).mono ?_;rintro y2 z2 ⟨rfl,b2⟩;have m2:Bl w1 z2:=by rw[b2];exact m1
  clear b2;refine hKK.o _ _ (HS1.o _ (Kp.of_bl m2 HW1.o.size)) (λ_=>?_);refine zh 21 (λKK hKK=>?_);go_simp;skip
  refine hKK.o _ _ (HS1.o _ (Kp.of_bl (qE m2 _) HW1.o.size)) (λ_=>?_);refine zh 22 (λKK hKK=>?_);go_simp;have msz:=m2.size;have bsz:=HW1.o.size;go_at_call 68
  refine(QO B gw _ [(kw 8),e0.id,e1.id,(jc x.secs),(kG x.free)] (zL [(kw 8),e0.id,e1.id,(jc x.secs),(kG x.free)]).1 (zL [(kw 8),e0.id,e1.id,(jc x.secs),(kG x.free)]).2 (qA rfl) HFL _ _ _ (vJ (cells:=strCells) (sz:=1) (λ_=>rfl) [(kw 8),e0.id,e1.id,(jc x.secs),(kG x.free)] z2 #[.string ⟨#[112,97,116,104]⟩,qP e0.id,qP e1.id,qP (jc x.secs),qP (kG x.free)] 9 5 5 rfl (U3 _) ζ rfl) (U3 _) τ ((HW1.o.wr.bl m2).bl (qE (qB _) _)) hll).mono ?_;rintro y9 w9 ⟨rfl,p1,p2,p3⟩;have K9:Kp B w1 w9:=(Kp.of_bl (qE m2 _) HW1.o.size).trans ⟨p2,p3⟩;have HS9:=qA (HW1.o.put hlt p1 K9);clear p1 p2 p3 msz bsz;refine hKK.o _ _ (HS1.o _ K9) (λ_=>?_);refine wpAnyH_done κ ?_ _;try change Exit.then _ _ .normal _ w9
  clear HS1 HFL K9 hll m0 m1 m2;have HS10:=qA (HS9.o.row hx (f:=(Q7 t)) (A:=A3) (show(Q7 t) x=(zL [(kw 8),e0.id,e1.id,(jc x.secs),(kG x.free)]).1 from by unfold Q7 jZ;rw[hq0,Qv he0,hq1,Qv he1]));clear HS9 HS;go_wp2;go_roundw;case rel=>exact⟨k+1,⟨ω,by go_num⟩,HS10⟩
  simp[intOf];omega
 skip
 have HSe:WS B gw w.heap.size (JQ t ts a0 k0 a1 k1 a2 k2 a3 k3 a4 k4 a5 k5 a6 k6 a7 k7 a8 k8 a9 k9) ts t w (A3++t.paths.map (Q7 t)) wr:=by have:=HS.o;rw[U9 ω]at this;exact this
 obtain⟨A4,hA4⟩:=ε (A3++t.paths.map (Q7 t));rw[hA4]at HSe;have HA4:=qA hA4;have lA4:A4.length<=20832:=by rw[<-hA4,U1,U4];omega
 clear HS hA4;have HS:=qA HSe;clear HSe;have uu0:wr.cell? (w.heap.size,9)=some (.slice a9 t.fares.prods.length k9):=qC HS.o.tt 9 _ rfl;have uu1:wr.cell? (w.heap.size,10)=some (t.fares.disc:Z):=qC HS.o.tt 10 _ rfl;have uu2:wr.cell? (w.heap.size,11)=some (t.fares.within:Z):=qC HS.o.tt 11 _ rfl;have uu3:wr.cell? (w.heap.size,12)=some (t.fares.cap:Z):=qC HS.o.tt 12 _ rfl;obtain⟨wf,hwf⟩:=ε (wr.alloc (.cells #[.slice a9 t.fares.prods.length k9,t.fares.disc,t.fares.within,t.fares.cap] 34));have HX:=qA (show wf.heap[wr.heap.size]? =some (.cells #[.slice a9 t.fares.prods.length k9,t.fares.disc,t.fares.within,t.fares.cap] 34 (0,0)) by rw[<-hwf];exact heap_alloc_new wr _);have bf:Bl wr wf:=by rw[<-hwf];exact qE (qB _) _
 have HWF:=qA (HS.o.bl hlt bf);have t0:wf.cell? (wr.heap.size,0)=some (.slice a9 t.fares.prods.length k9):=qC HX.o 0 _ rfl;have t1:wf.cell? (wr.heap.size,1)=some (t.fares.disc:Z):=qC HX.o 1 _ rfl;have t2:wf.cell? (wr.heap.size,2)=some (t.fares.within:Z):=qC HX.o 2 _ rfl;have t3:wf.cell? (wr.heap.size,3)=some (t.fares.cap:Z):=qC HX.o 3 _ rfl;clear bf HS;obtain⟨A5,hA5⟩:=ε (A4++dK t);have HA5:=qA hA5;have lA5:A5.length<=20833:=by rw[<-hA5,U1];unfold dK;split<;>simp<;>omega
 clear hA5;obtain⟨z1,z2,z3⟩:=HE0.o.2.2.2;have HS:Hid (WS B gw w.heap.size (JQ t ts a0 k0 a1 k1 a2 k2 a3 k3 a4 k4 a5 k5 a6 k6 a7 k7 a8 k8 a9 k9) ts t w A5 wf):=by show WS B gw w.heap.size (JQ t ts a0 k0 a1 k1 a2 k2 a3 k3 a4 k4 a5 k5 a6 k6 a7 k7 a8 k8 a9 k9) ts t w _ _;rw[<-HA5.o,show dK t=[] from U6 ⟨z1,z2,z3⟩,List.append_nil];exact HWF.o
 have f1:(t.fares.disc != 0)=false:=by rw[z1];rfl
 have f2:(t.fares.within != 0)=false:=by rw[z2];rfl
 have f3:(t.fares.cap != 0)=false:=by rw[z3];rfl
 clear z1 z2 z3;go_wp2_with fail;clear hwf uu0 uu1 uu2 uu3 HX HWF t0 t1 t2 t3;go_loopw [162] (λi wr=> ∃ k:Nat,(k<=t.fares.prods.length/\i=k)/\Hid (WS B gw w.heap.size (JQ t ts a0 k0 a1 k1 a2 k2 a3 k3 a4 k4 a5 k5 a6 k6 a7 k7 a8 k8 a9 k9) ts t w (A5++(t.fares.prods.take k).map Jf) wr)) (λi _=>t.fares.prods.length-(intOf i).toNat)
 case atStart=>exact⟨0,⟨qAD _,rfl⟩,by show WS B gw w.heap.size (JQ t ts a0 k0 a1 k1 a2 k2 a3 k3 a4 k4 a5 k5 a6 k6 a7 k7 a8 k8 a9 k9) ts t w _ _;rw[List.take_zero,List.map_nil,List.append_nil];exact HS.o⟩
 clear HS;obtain⟨k,⟨hk,rfl⟩,HS⟩:=hrel;by_cases hlx:k<t.fares.prods.length
 ·
  obtain⟨x,hx⟩: ∃ x,t.fares.prods[k]? =some x:=⟨_,U2 hlx⟩;obtain⟨bx,ox,rfl,lx,cx⟩:=HS.o.rd.prods.openB (by first|omega|(rw[U4];omega));have hxm:=Uz hx;have hkI:(k:Int)<(t.fares.prods.length:Int):=ω
  have hll:(A5++(t.fares.prods.take k).map Jf).length<=1000000:=by have:=xC A5 t.fares.prods Jf k;omega
  obtain⟨hid,hpr,⟨z0,z1⟩,⟨g0,g1⟩,hse,hmo⟩:=HV.o.prods x hxm;have d0:wr.cell? (bx,ox+k*6)=some (qP x.id):=by exact cx k _ hx 0 _ rfl
  have d1:wr.cell? (bx,ox+k*6+1)=some (.int .i64 x.price):=by exact cx k _ hx 1 _ rfl
  have d2:wr.cell? (bx,ox+k*6+2)=some (.int .i64 x.rides):=by exact cx k _ hx 2 _ rfl
  have d3:wr.cell? (bx,ox+k*6+3)=some (.int .i64 x.zones):=by exact cx k _ hx 3 _ rfl
  have d4:wr.cell? (bx,ox+k*6+4)=some (.int .i64 x.secs):=by exact cx k _ hx 4 _ rfl
  have d5:wr.cell? (bx,ox+k*6+5)=some (.int .i64 x.modes):=by exact cx k _ hx 5 _ rfl
  obtain⟨w1,hw1⟩:=ε (wr.alloc (.cells #[qP x.id,.int .i64 x.price,.int .i64 x.rides,.int .i64 x.zones,.int .i64 x.secs,.int .i64 x.modes] 65));have HX:=qA (show w1.heap[wr.heap.size]? =some (.cells #[qP x.id,.int .i64 x.price,.int .i64 x.rides,.int .i64 x.zones,.int .i64 x.secs,.int .i64 x.modes] 65 (0,0)) by rw[<-hw1];exact heap_alloc_new wr _);have b1:Bl wr w1:=by rw[<-hw1];exact qE (qB _) _
  have HW1:=qA (HS.o.bl hlt b1);have t0:w1.cell? (wr.heap.size,0)=some (qP x.id):=qC HX.o 0 _ rfl;have t1:w1.cell? (wr.heap.size,1)=some (.int .i64 x.price):=qC HX.o 1 _ rfl;have t2:w1.cell? (wr.heap.size,2)=some (.int .i64 x.rides):=qC HX.o 2 _ rfl;have t3:w1.cell? (wr.heap.size,3)=some (.int .i64 x.zones):=qC HX.o 3 _ rfl;have t4:w1.cell? (wr.heap.size,4)=some (.int .i64 x.secs):=qC HX.o 4 _ rfl;have t5:w1.cell? (wr.heap.size,5)=some (.int .i64 x.modes):=qC HX.o 5 _ rfl;clear b1;clear cx;go_wp2_with (go_at_call 78;refine(Ic x.modes hmo _ HW1.o.nm).mono ?_;rintro y2 w2 ⟨rfl,bm⟩)
  clear hw1 d0 d1 d2 d3 d4 d5;have HX2:=qA (qX HX.o bm);have HW2:=qA (HW1.o.bl hlt bm);have s0:w2.cell? (wr.heap.size,0)=some (qP x.id):=qC HX2.o 0 _ rfl;have s1:w2.cell? (wr.heap.size,1)=some (.int .i64 x.price):=qC HX2.o 1 _ rfl;have s2:w2.cell? (wr.heap.size,2)=some (.int .i64 x.rides):=qC HX2.o 2 _ rfl;have s3:w2.cell? (wr.heap.size,3)=some (.int .i64 x.zones):=qC HX2.o 3 _ rfl;have s4:w2.cell? (wr.heap.size,4)=some (.int .i64 x.secs):=qC HX2.o 4 _ rfl;clear bm t0 t1 t2 t3 t4 t5;have HS1:Hid (∀ W,Kp B w2 W->(λW'=>W'.cell? (wr.heap.size,0)=some (qP x.id)/\W'.cell? (wr.heap.size,1)=some (.int .i64 x.price)/\W'.cell? (wr.heap.size,2)=some (.int .i64 x.rides)/\W'.cell? (wr.heap.size,3)=some (.int .i64 x.zones)/\W'.cell? (wr.heap.size,4)=some (.int .i64 x.secs)) W):=λW k=>⟨k.cellT HX2.o δ δ s0,k.cellT HX2.o δ δ s1,k.cellT HX2.o δ δ s2,k.cellT HX2.o δ δ s3,k.cellT HX2.o δ δ s4⟩
  have HFL:Hid (∀ y∈([(kw 9),x.id,(qW x.price).1,(jO x.rides),(jO x.zones),(jc x.secs),(vU x.modes)]:List Ψ),y.length<=131072):=λy hy=>by
   simp only[List.mem_cons,List.not_mem_nil,or_false]at hy;rcases hy with rfl|rfl|rfl|rfl|rfl|rfl|rfl
   · exact Ux (δ:_<=100) ω
   · exact Ux ((Ux hid ω):_<=100) ω
   · exact Ux (ZG (c:=x.price):_<=100) ω
   · exact Ux (Qd (n:=x.rides) ⟨ω,ω⟩:_<=100) ω
   · exact Ux (Qd (n:=x.zones) ⟨ω,ω⟩:_<=100) ω
   · exact Ux (Zh (n:=x.secs):_<=100) ω
   exact Ux ((dm hmo):_<=100) ω
  have m0:Bl w2 w2.drew:=qH (qB w2);refine wp_region_held_drew (S:=(λW'=>W'.cell? (wr.heap.size,0)=some (qP x.id)/\W'.cell? (wr.heap.size,1)=some (.int .i64 x.price)/\W'.cell? (wr.heap.size,2)=some (.int .i64 x.rides)/\W'.cell? (wr.heap.size,3)=some (.int .i64 x.zones)/\W'.cell? (wr.heap.size,4)=some (.int .i64 x.secs))) κ (HS1.o _ (Kp.of_bl (qH (qB w2)) HW2.o.size)) (λ_=>?_);refine qI 0 ?_;refine qI 1 ?_;refine qI 2 ?_;refine qI 3 ?_;refine qI 4 ?_;refine qI 6 ?_;refine qI 7 ?_;refine qI 9 ?_;refine qI 10 ?_;refine qI 12 ?_;refine qI 13 ?_;refine qI 15 ?_;refine zh 5 (λKK hKK=>?_);go_simp;go_at_call 77
  refine(ag x.price (qW x.price).1 (qW x.price).2 (qA rfl) _).mono ?_;rintro y1 z1 ⟨rfl,b1⟩;have m1:Bl w2 z1:=qF m0 b1;clear b1;refine hKK.o _ _ (HS1.o _ (Kp.of_bl m1 HW2.o.size)) (λ_=>?_);refine zh 8 (λKK hKK=>?_);go_simp;go_at_call 69
  refine(Nu.KA x.rides ω ω _).mono ?_;rintro y2 z2 ⟨rfl,b2⟩;have m2:Bl w2 z2:=qF m1 b2;clear b2;refine hKK.o _ _ (HS1.o _ (Kp.of_bl m2 HW2.o.size)) (λ_=>?_);refine zh 11 (λKK hKK=>?_);go_simp;go_at_call 69
  refine(Nu.KA x.zones ω ω _).mono ?_;rintro y3 z3 ⟨rfl,b3⟩;have m3:Bl w2 z3:=qF m2 b3;clear b3;refine hKK.o _ _ (HS1.o _ (Kp.of_bl m3 HW2.o.size)) (λ_=>?_);refine zh 14 (λKK hKK=>?_);go_simp;go_at_call 76
  refine(lF x.secs (jc x.secs) (Ck.gW x.secs).2 (qA (Prod.ext (Yx x.secs) rfl)) _).mono ?_;rintro y4 z4 ⟨rfl,b4⟩;have m4:Bl w2 z4:=qF m3 b4;clear b4;refine hKK.o _ _ (HS1.o _ (Kp.of_bl m4 HW2.o.size)) (λ_=>?_);refine zh 16 (λKK hKK=>?_);go_simp;skip
  refine hKK.o _ _ (HS1.o _ (Kp.of_bl (qE m4 _) HW2.o.size)) (λ_=>?_);refine zh 17 (λKK hKK=>?_);go_simp;have msz:=m4.size;have bsz:=HW2.o.size;go_at_call 68
  refine(QO B gw _ [(kw 9),x.id,(qW x.price).1,(jO x.rides),(jO x.zones),(jc x.secs),(vU x.modes)] (zL [(kw 9),x.id,(qW x.price).1,(jO x.rides),(jO x.zones),(jc x.secs),(vU x.modes)]).1 (zL [(kw 9),x.id,(qW x.price).1,(jO x.rides),(jO x.zones),(jc x.secs),(vU x.modes)]).2 (qA rfl) HFL _ _ _ (vJ (cells:=strCells) (sz:=1) (λ_=>rfl) [(kw 9),x.id,(qW x.price).1,(jO x.rides),(jO x.zones),(jc x.secs),(vU x.modes)] z4 #[.string ⟨#[112,114,111,100,117,99,116]⟩,qP x.id,qP (qW x.price).1,qP (jO x.rides),qP (jO x.zones),qP (jc x.secs),qP (vU x.modes)] 9 7 7 rfl (U3 _) ζ rfl) (U3 _) τ ((HW2.o.wr.bl m4).bl (qE (qB _) _)) hll).mono ?_;rintro y9 w9 ⟨rfl,p1,p2,p3⟩;have K9:Kp B w2 w9:=(Kp.of_bl (qE m4 _) HW2.o.size).trans ⟨p2,p3⟩;have HS9:=qA (HW2.o.put hlt p1 K9);clear p1 p2 p3 msz bsz;refine hKK.o _ _ (HS1.o _ K9) (λ_=>?_);refine wpAnyH_done κ ?_ _;try change Exit.then _ _ .normal _ w9
  clear HS1 HFL K9 hll m0 m1 m2 m3 m4;have HS10:=qA (HS9.o.row hx (f:=Jf) (A:=A5) (show Jf x=(zL [(kw 9),x.id,(qW x.price).1,(jO x.rides),(jO x.zones),(jc x.secs),(vU x.modes)]).1 from rfl));clear HS9 HS;go_wp2;go_roundw;case rel=>exact⟨k+1,⟨ω,by go_num⟩,HS10⟩
  simp[intOf];omega
 have HSe:=HS.o.all ω;have hfin:A5++t.fares.prods.map Jf=eQ t A0:=by unfold eQ;rw[<-HA5.o,<-HA4.o,<-HA3.o,<-HA2.o,<-HA1.o]
 have HF:=qA (HSe.reshape hfin);clear HSe hfin HS;go_wp2;go_end0;exact⟨rfl,HF.o.wr,HF.o.bel⟩
