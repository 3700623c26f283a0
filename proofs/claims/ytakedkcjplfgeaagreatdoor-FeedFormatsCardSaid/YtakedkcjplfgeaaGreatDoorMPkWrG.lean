/- Contracts, proved. Conditions: each contract's own. -/
import Derived.Test.YtakedkcjplfgeaaGreatDoorMPkWrB
import Derived.Test.YtakedkcjplfgeaaGreatDoorMPkRecA
set_option maxRecDepth 1000000
set_option maxHeartbeats 32000000
namespace Go.Proofs.YtakedkcjplfgeaaGreatDoor
open Go.RowKit
open Frq Thr Tt Num Clk Dat Fld
theorem EZ (B gw:Nat) (V:TtV) (ts:List TripD) (t:TtD) (v:Hid (AY t)) (lim:Hid (Rj t)) (hlt:0<B) (A0:List (List UInt8)) (lA0:A0.length<=20000) (w:World) (rd:yA B w V ts t) (wat:Ea B gw A0 w) (nm:yS w) (hB:B<=w.heap.size):
  Calls Tryz.prog 30 #[.pointer (some ⟨gw,0,none⟩),JP V t] w fun q w'=>q= .returned (.tuple #[])/\Ea B gw (A0++t.stops.map xK++t.routes.map ve++t.cals.map Qp++t.excs.map (wX t)++t.trips.flatMap (yG t)) w'/\Below B w w':=by
 have HV:=v;have HSAME:=qA rd.same;have hlen5:ts.length=t.trips.length:=by have:=congrArg List.length rd.same;rw[U4]at this;exact this.symm
 have HLEN5:=qA hlen5;obtain⟨L0,L1,L2,L3,L4,L5,L6,L7,L8,L9,L10⟩:=lim.out;have HL10:=qA L10;have RD:=qA rd;obtain⟨v0,v1,v2,v3,v4,v5,v6,v7,v8,v9⟩:=V;obtain⟨a0,k0,(rfl:v0=_),-,-⟩:=rd.stops.val;obtain⟨a1,k1,(rfl:v1=_),-,-⟩:=rd.routes.val;obtain⟨a2,k2,(rfl:v2=_),-,-⟩:=rd.cals.val;obtain⟨a3,k3,(rfl:v3=_),-,-⟩:=rd.excs.val;obtain⟨a4,k4,(rfl:v4=_),-,-⟩:=rd.trips.sl.val;obtain⟨a5,k5,(rfl:v5=_),-,-⟩:=rd.freqs.val;obtain⟨a6,k6,(rfl:v6=_),-,-⟩:=rd.thrus.val;obtain⟨a7,k7,(rfl:v7=_),-,-⟩:=rd.guars.val;obtain⟨a8,k8,(rfl:v8=_),-,-⟩:=rd.paths.val;obtain⟨a9,k9,(rfl:v9=_),-,-⟩:=rd.prods.val;have hts:ts.length<=256:=by omega
 clear rd L10 v lim hlen5;unfold JP;simp only[U4]at RD ⊢;change Hid (yA B w (JQ t ts a0 k0 a1 k1 a2 k2 a3 k3 a4 k4 a5 k5 a6 k6 a7 k7 a8 k8 a9 k9) ts t)at RD;obtain⟨w0,hw0⟩: ∃ w0,w.alloc (.cells (Qa (JQ t ts a0 k0 a1 k1 a2 k2 a3 k3 a4 k4 a5 k5 a6 k6 a7 k7 a8 k8 a9 k9) t.fares) 36)=w0:=⟨_,rfl⟩;have b0:Bl w w0:=by rw[<-hw0];exact qE (qB _) _
 have HS0:Hid (WS B gw w.heap.size (JQ t ts a0 k0 a1 k1 a2 k2 a3 k3 a4 k4 a5 k5 a6 k6 a7 k7 a8 k8 a9 k9) ts t w A0 w0):=⟨RD.out.bl b0 hB,by rw[<-hw0];exact heap_alloc_new w _,wat.bl b0,nm.bl b0,b0.mono hB,Ux hB b0.size⟩;clear b0 wat nm RD;have HS:=HS0;clear HS0;simp only[Qa]at hw0;have uu:w0.cell? ⟨w.heap.size,0,none⟩=some (.slice a0 t.stops.length k0):=qC HS.out.tt 0 _ rfl;go_enter Tryz.func30,Tryz.ntmps30
 go_wp2_with fail;clear hw0 uu;go_loopw [22] (fun i wr=> ∃ k:Nat,(k<=t.stops.length/\i= .int .i64 k)/\Hid (WS B gw w.heap.size (JQ t ts a0 k0 a1 k1 a2 k2 a3 k3 a4 k4 a5 k5 a6 k6 a7 k7 a8 k8 a9 k9) ts t w (A0++(t.stops.take k).map xK) wr)) (fun i _=>t.stops.length-(intOf i).toNat)
 case atStart=>exact⟨0,⟨qAD _,rfl⟩,by show WS B gw w.heap.size (JQ t ts a0 k0 a1 k1 a2 k2 a3 k3 a4 k4 a5 k5 a6 k6 a7 k7 a8 k8 a9 k9) ts t w _ _;rw[List.take_zero,List.map_nil,List.append_nil];exact HS.out⟩
 case round=>
  clear HS;obtain⟨k,⟨hk,rfl⟩,HS⟩:=hrel;by_cases hlx:k<t.stops.length
  ·
   obtain⟨x,hx⟩: ∃ x,t.stops[k]? =some x:=⟨_,U2 hlx⟩;obtain⟨bx,ox,rfl,lx,cx⟩:=HS.out.rd.stops.openB (by first|omega|(rw[U4];omega));have hxm:=Uz hx;have hkI:(k:Int)<(t.stops.length:Int):=by omega
   have hll:(A0++(t.stops.take k).map xK).length<=1000000:=by have:=xC A0 t.stops xK k;omega
   obtain⟨hid,⟨z0,z1⟩,⟨g0,g1⟩⟩:=HV.out.stops x hxm;have d0:wr.cell? ⟨bx,ox+k*4,none⟩=some (qP x.id):=by exact cx k _ hx 0 _ rfl
   have d1:wr.cell? ⟨bx,ox+k*4+1,none⟩=some (.int .i64 x.zone):=by exact cx k _ hx 1 _ rfl
   have d2:wr.cell? ⟨bx,ox+k*4+2,none⟩=some (.bool x.free):=by exact cx k _ hx 2 _ rfl
   have d3:wr.cell? ⟨bx,ox+k*4+3,none⟩=some (.int .i64 x.change):=by exact cx k _ hx 3 _ rfl
   obtain⟨w1,hw1⟩: ∃ w1,wr.alloc (.cells #[qP x.id, .int .i64 x.zone, .bool x.free, .int .i64 x.change] 120)=w1:=⟨_,rfl⟩;have HX:=qA (show w1.heap[wr.heap.size]? =some (.cells #[qP x.id, .int .i64 x.zone, .bool x.free, .int .i64 x.change] 120 (0,0)) by rw[<-hw1];exact heap_alloc_new wr _);have b1:Bl wr w1:=by rw[<-hw1];exact qE (qB _) _
   have HW1:=qA (HS.out.bl hlt b1);have t0:w1.cell? ⟨wr.heap.size,0,none⟩=some (qP x.id):=qC HX.out 0 _ rfl;have t1:w1.cell? ⟨wr.heap.size,1,none⟩=some (.int .i64 x.zone):=qC HX.out 1 _ rfl;have t2:w1.cell? ⟨wr.heap.size,2,none⟩=some (.bool x.free):=qC HX.out 2 _ rfl;have t3:w1.cell? ⟨wr.heap.size,3,none⟩=some (.int .i64 x.change):=qC HX.out 3 _ rfl;clear b1;clear cx;go_wp2_with fail;clear hw1 d0 d1 d2 d3;have HS1:Hid (∀ W,Kp B w1 W->(fun W'=>W'.cell? ⟨wr.heap.size,0,none⟩=some (qP x.id)/\W'.cell? ⟨wr.heap.size,1,none⟩=some (.int .i64 x.zone)/\W'.cell? ⟨wr.heap.size,2,none⟩=some (.bool x.free)/\W'.cell? ⟨wr.heap.size,3,none⟩=some (.int .i64 x.change)) W):=fun W k=>⟨k.cellT HX.out (by decide) (by decide) t0,k.cellT HX.out (by decide) (by decide) t1,k.cellT HX.out (by decide) (by decide) t2,k.cellT HX.out (by decide) (by decide) t3⟩
   have HFL:Hid (∀ y∈([(kw 0),x.id,(jO x.zone),(kG x.free),(jO x.change)]:List (List UInt8)),y.length<=131072):=fun y hy=>by
    simp only[List.mem_cons,List.not_mem_nil,or_false]at hy;rcases hy with rfl|rfl|rfl|rfl|rfl
    · exact Ux ((by decide):_<=100) (by omega)
    · exact Ux ((Ux hid (by omega)):_<=100) (by omega)
    · exact Ux (Qd (n:=x.zone) ⟨by omega,by omega⟩:_<=100) (by omega)
    · exact Ux (Jo x.free:_<=100) (by omega)
    · exact Ux (Qd (n:=x.change) ⟨by omega,by omega⟩:_<=100) (by omega)
   have m0:Bl w1 w1.drew:=qH (qB w1);refine wp_region_held_drew (S:=(fun W'=>W'.cell? ⟨wr.heap.size,0,none⟩=some (qP x.id)/\W'.cell? ⟨wr.heap.size,1,none⟩=some (.int .i64 x.zone)/\W'.cell? ⟨wr.heap.size,2,none⟩=some (.bool x.free)/\W'.cell? ⟨wr.heap.size,3,none⟩=some (.int .i64 x.change))) (by kernel_rfl) (HS1.out _ (Kp.of_bl (qH (qB w1)) HW1.out.size)) (fun hHeld=>?_);refine qI 0 ?_;try simp only[Act.put]
   refine qI 1 ?_;try simp only[Act.put]
   refine qI 2 ?_;try simp only[Act.put]
   refine qI 3 ?_;try simp only[Act.put]
   refine qI 4 ?_;try simp only[Act.put]
   refine qI 6 ?_;try simp only[Act.put]
   refine qI 7 ?_;try simp only[Act.put]
   refine qI 9 ?_;try simp only[Act.put]
   refine qI 10 ?_;try simp only[Act.put]
   refine zh 5 (fun KK hKK=>?_);go_simp;go_at_call 69
   refine(Nu.KA x.zone (by omega) (by omega) _).mono ?_;rintro y1 z1 ⟨rfl,b1⟩;have m1:Bl w1 z1:=qF m0 b1;clear b1;clear hHeld;refine hKK.out _ _ ?_ (fun hHeld=>?_)
   · exact HS1.out _ (Kp.of_bl m1 HW1.out.size)
   clear hKK KK;try simp only[Act.put]
   refine zh 8 (fun KK hKK=>?_);go_simp;go_at_call 70
   refine(Wv x.free _).mono ?_;rintro y2 z2 ⟨rfl,b2⟩;have m2:Bl w1 z2:=by rw[b2];exact m1
   clear b2;clear hHeld;refine hKK.out _ _ ?_ (fun hHeld=>?_)
   · exact HS1.out _ (Kp.of_bl m2 HW1.out.size)
   clear hKK KK;try simp only[Act.put]
   refine zh 11 (fun KK hKK=>?_);go_simp;go_at_call 69
   refine(Nu.KA x.change (by omega) (by omega) _).mono ?_;rintro y3 z3 ⟨rfl,b3⟩;have m3:Bl w1 z3:=qF m2 b3;clear b3;clear hHeld;refine hKK.out _ _ ?_ (fun hHeld=>?_)
   · exact HS1.out _ (Kp.of_bl m3 HW1.out.size)
   clear hKK KK;try simp only[Act.put]
   refine zh 12 (fun KK hKK=>?_);go_simp;skip
   clear hHeld;refine hKK.out _ _ ?_ (fun hHeld=>?_)
   · exact HS1.out _ (Kp.of_bl (qE m3 _) HW1.out.size)
   clear hKK KK;try simp only[Act.put]
   refine zh 13 (fun KK hKK=>?_);go_simp;have msz:=m3.size;have bsz:=HW1.out.size;go_at_call 68
   refine(QO B gw _ [(kw 0),x.id,(jO x.zone),(kG x.free),(jO x.change)] (zL [(kw 0),x.id,(jO x.zone),(kG x.free),(jO x.change)]).1 (zL [(kw 0),x.id,(jO x.zone),(kG x.free),(jO x.change)]).2 (qA rfl) HFL _ _ _ (vJ (cells:=strCells) (sz:=1) (fun _=>rfl) [(kw 0),x.id,(jO x.zone),(kG x.free),(jO x.change)] z3 #[.string ⟨#[115,116,111,112]⟩,qP x.id,qP (jO x.zone),qP (kG x.free),qP (jO x.change)] 9 5 5 rfl (U3 _) (by unfold maxLen;omega) rfl) (U3 _) (by simp;omega) ((HW1.out.wr.bl m3).bl (qE (qB _) _)) hll).mono ?_;rintro y9 w9 ⟨rfl,p1,p2,p3⟩;have K9:Kp B w1 w9:=(Kp.of_bl (qE m3 _) HW1.out.size).trans ⟨p2,p3⟩;have HS9:=qA (HW1.out.put hlt p1 K9);clear p1 p2 p3 msz bsz;clear hHeld;refine hKK.out _ _ ?_ (fun hHeld=>?_)
   · exact HS1.out _ K9
   clear hKK KK;try simp only[Act.put]
   refine wpAnyH_done (by kernel_rfl) ?_ _;try change Exit.then _ _ .normal _ w9
   clear HS1 HFL K9 hll m0 m1 m2 m3;have HS10:=qA (HS9.out.row hx (f:=xK) (A:=A0) (show xK x=(zL [(kw 0),x.id,(jO x.zone),(kG x.free),(jO x.change)]).1 from rfl));clear HS9 HS;go_wp2;go_roundw;case rel=>exact⟨k+1,⟨by omega,by go_num⟩,HS10⟩
   case measure=>simp[intOf];omega
  ·
   skip
   have HSe:WS B gw w.heap.size (JQ t ts a0 k0 a1 k1 a2 k2 a3 k3 a4 k4 a5 k5 a6 k6 a7 k7 a8 k8 a9 k9) ts t w (A0++t.stops.map xK) wr:=by have:=HS.out;rw[U9 (by omega)]at this;exact this
   obtain⟨A1,hA1⟩: ∃ A',A0++t.stops.map xK=A':=⟨_,rfl⟩;rw[hA1]at HSe;have HA1:=qA hA1;have lA1:A1.length<=20064:=by rw[<-hA1,U1,U4];omega
   clear HS hA1;have HS:=qA HSe;clear HSe;have uu:wr.cell? ⟨w.heap.size,1,none⟩=some (.slice a1 t.routes.length k1):=qC HS.out.tt 1 _ rfl;go_wp2_with fail;clear uu;go_loopw [44] (fun i wr=> ∃ k:Nat,(k<=t.routes.length/\i= .int .i64 k)/\Hid (WS B gw w.heap.size (JQ t ts a0 k0 a1 k1 a2 k2 a3 k3 a4 k4 a5 k5 a6 k6 a7 k7 a8 k8 a9 k9) ts t w (A1++(t.routes.take k).map ve) wr)) (fun i _=>t.routes.length-(intOf i).toNat)
   case atStart=>exact⟨0,⟨qAD _,rfl⟩,by show WS B gw w.heap.size (JQ t ts a0 k0 a1 k1 a2 k2 a3 k3 a4 k4 a5 k5 a6 k6 a7 k7 a8 k8 a9 k9) ts t w _ _;rw[List.take_zero,List.map_nil,List.append_nil];exact HS.out⟩
   case round=>
    clear HS;obtain⟨k,⟨hk,rfl⟩,HS⟩:=hrel;by_cases hlx:k<t.routes.length
    ·
     obtain⟨x,hx⟩: ∃ x,t.routes[k]? =some x:=⟨_,U2 hlx⟩;obtain⟨bx,ox,rfl,lx,cx⟩:=HS.out.rd.routes.openB (by first|omega|(rw[U4];omega));have hxm:=Uz hx;have hkI:(k:Int)<(t.routes.length:Int):=by omega
     have hll:(A1++(t.routes.take k).map ve).length<=1000000:=by have:=xC A1 t.routes ve k;omega
     obtain⟨hid,hmd⟩:=HV.out.routes x hxm;have d0:wr.cell? ⟨bx,ox+k*3,none⟩=some (qP x.id):=by exact cx k _ hx 0 _ rfl
     have d1:wr.cell? ⟨bx,ox+k*3+1,none⟩=some (.int .i64 x.mode):=by exact cx k _ hx 1 _ rfl
     have d2:wr.cell? ⟨bx,ox+k*3+2,none⟩=some (.bool x.bikes):=by exact cx k _ hx 2 _ rfl
     obtain⟨w1,hw1⟩: ∃ w1,wr.alloc (.cells #[qP x.id, .int .i64 x.mode, .bool x.bikes] 122)=w1:=⟨_,rfl⟩;have HX:=qA (show w1.heap[wr.heap.size]? =some (.cells #[qP x.id, .int .i64 x.mode, .bool x.bikes] 122 (0,0)) by rw[<-hw1];exact heap_alloc_new wr _);have b1:Bl wr w1:=by rw[<-hw1];exact qE (qB _) _
     have HW1:=qA (HS.out.bl hlt b1);have t0:w1.cell? ⟨wr.heap.size,0,none⟩=some (qP x.id):=qC HX.out 0 _ rfl;have t1:w1.cell? ⟨wr.heap.size,1,none⟩=some (.int .i64 x.mode):=qC HX.out 1 _ rfl;have t2:w1.cell? ⟨wr.heap.size,2,none⟩=some (.bool x.bikes):=qC HX.out 2 _ rfl;clear b1;clear cx;go_wp2_with (go_at_call 71;refine(NT x.mode _ HW1.out.nm).mono ?_;rintro y2 w2 ⟨rfl,hw2⟩;obtain rfl:=hw2.symm)
     clear hw1 d0 d1 d2;have HS1:Hid (∀ W,Kp B w1 W->(fun W'=>W'.cell? ⟨wr.heap.size,0,none⟩=some (qP x.id)/\W'.cell? ⟨wr.heap.size,2,none⟩=some (.bool x.bikes)) W):=fun W k=>⟨k.cellT HX.out (by decide) (by decide) t0,k.cellT HX.out (by decide) (by decide) t2⟩
     have HFL:Hid (∀ y∈([(kw 1),x.id,(Qe x.mode),(kG x.bikes)]:List (List UInt8)),y.length<=131072):=fun y hy=>by
      simp only[List.mem_cons,List.not_mem_nil,or_false]at hy;rcases hy with rfl|rfl|rfl|rfl
      · exact Ux ((by decide):_<=100) (by omega)
      · exact Ux ((Ux hid (by omega)):_<=100) (by omega)
      · exact Ux ((nR hmd):_<=100) (by omega)
      · exact Ux (Jo x.bikes:_<=100) (by omega)
     have m0:Bl w1 w1.drew:=qH (qB w1);refine wp_region_held_drew (S:=(fun W'=>W'.cell? ⟨wr.heap.size,0,none⟩=some (qP x.id)/\W'.cell? ⟨wr.heap.size,2,none⟩=some (.bool x.bikes))) (by kernel_rfl) (HS1.out _ (Kp.of_bl (qH (qB w1)) HW1.out.size)) (fun hHeld=>?_);refine qI 0 ?_;try simp only[Act.put]
     refine qI 1 ?_;try simp only[Act.put]
     refine qI 2 ?_;try simp only[Act.put]
     refine qI 3 ?_;try simp only[Act.put]
     refine qI 4 ?_;try simp only[Act.put]
     refine qI 5 ?_;try simp only[Act.put]
     refine zh 6 (fun KK hKK=>?_);go_simp;go_at_call 70
     refine(Wv x.bikes _).mono ?_;rintro y1 z1 ⟨rfl,b1⟩;have m1:Bl w1 z1:=by rw[b1];exact m0
     clear b1;clear hHeld;refine hKK.out _ _ ?_ (fun hHeld=>?_)
     · exact HS1.out _ (Kp.of_bl m1 HW1.out.size)
     clear hKK KK;try simp only[Act.put]
     refine zh 7 (fun KK hKK=>?_);go_simp;skip
     clear hHeld;refine hKK.out _ _ ?_ (fun hHeld=>?_)
     · exact HS1.out _ (Kp.of_bl (qE m1 _) HW1.out.size)
     clear hKK KK;try simp only[Act.put]
     refine zh 8 (fun KK hKK=>?_);go_simp;have msz:=m1.size;have bsz:=HW1.out.size;go_at_call 68
     refine(QO B gw _ [(kw 1),x.id,(Qe x.mode),(kG x.bikes)] (zL [(kw 1),x.id,(Qe x.mode),(kG x.bikes)]).1 (zL [(kw 1),x.id,(Qe x.mode),(kG x.bikes)]).2 (qA rfl) HFL _ _ _ (vJ (cells:=strCells) (sz:=1) (fun _=>rfl) [(kw 1),x.id,(Qe x.mode),(kG x.bikes)] z1 #[.string ⟨#[114,111,117,116,101]⟩,qP x.id,qP (Qe x.mode),qP (kG x.bikes)] 9 4 4 rfl (U3 _) (by unfold maxLen;omega) rfl) (U3 _) (by simp;omega) ((HW1.out.wr.bl m1).bl (qE (qB _) _)) hll).mono ?_;rintro y9 w9 ⟨rfl,p1,p2,p3⟩;have K9:Kp B w1 w9:=(Kp.of_bl (qE m1 _) HW1.out.size).trans ⟨p2,p3⟩;have HS9:=qA (HW1.out.put hlt p1 K9);clear p1 p2 p3 msz bsz;clear hHeld;refine hKK.out _ _ ?_ (fun hHeld=>?_)
     · exact HS1.out _ K9
     clear hKK KK;try simp only[Act.put]
     refine wpAnyH_done (by kernel_rfl) ?_ _;try change Exit.then _ _ .normal _ w9
     clear HS1 HFL K9 hll m0 m1;have HS10:=qA (HS9.out.row hx (f:=ve) (A:=A1) (show ve x=(zL [(kw 1),x.id,(Qe x.mode),(kG x.bikes)]).1 from rfl));clear HS9 HS;go_wp2;go_roundw;case rel=>exact⟨k+1,⟨by omega,by go_num⟩,HS10⟩
     case measure=>simp[intOf];omega
    ·
     skip
     have HSe:WS B gw w.heap.size (JQ t ts a0 k0 a1 k1 a2 k2 a3 k3 a4 k4 a5 k5 a6 k6 a7 k7 a8 k8 a9 k9) ts t w (A1++t.routes.map ve) wr:=by have:=HS.out;rw[U9 (by omega)]at this;exact this
     obtain⟨A2,hA2⟩: ∃ A',A1++t.routes.map ve=A':=⟨_,rfl⟩;rw[hA2]at HSe;have HA2:=qA hA2;have lA2:A2.length<=20128:=by rw[<-hA2,U1,U4];omega
     clear HS hA2;have HS:=qA HSe;clear HSe;have uu:wr.cell? ⟨w.heap.size,2,none⟩=some (.slice a2 t.cals.length k2):=qC HS.out.tt 2 _ rfl;go_wp2_with fail;clear uu;go_loopw [67] (fun i wr=> ∃ k:Nat,(k<=t.cals.length/\i= .int .i64 k)/\Hid (WS B gw w.heap.size (JQ t ts a0 k0 a1 k1 a2 k2 a3 k3 a4 k4 a5 k5 a6 k6 a7 k7 a8 k8 a9 k9) ts t w (A2++(t.cals.take k).map Qp) wr)) (fun i _=>t.cals.length-(intOf i).toNat)
     case atStart=>exact⟨0,⟨qAD _,rfl⟩,by show WS B gw w.heap.size (JQ t ts a0 k0 a1 k1 a2 k2 a3 k3 a4 k4 a5 k5 a6 k6 a7 k7 a8 k8 a9 k9) ts t w _ _;rw[List.take_zero,List.map_nil,List.append_nil];exact HS.out⟩
     case round=>
      clear HS;obtain⟨k,⟨hk,rfl⟩,HS⟩:=hrel;by_cases hlx:k<t.cals.length
      ·
       obtain⟨x,hx⟩: ∃ x,t.cals[k]? =some x:=⟨_,U2 hlx⟩;obtain⟨bx,ox,rfl,lx,cx⟩:=HS.out.rd.cals.openB (by first|omega|(rw[U4];omega));have hxm:=Uz hx;have hkI:(k:Int)<(t.cals.length:Int):=by omega
       have hll:(A2++(t.cals.take k).map Qp).length<=1000000:=by have:=xC A2 t.cals Qp k;omega
       obtain⟨hid,⟨z0,z1⟩,⟨g0,g1⟩⟩:=HV.out.cals x hxm;have d0:wr.cell? ⟨bx,ox+k*10,none⟩=some (qP x.id):=by exact cx k _ hx 0 _ rfl
       have d1:wr.cell? ⟨bx,ox+k*10+1,none⟩=some (.bool x.week.d0):=by exact cx k _ hx 1 _ rfl
       have d2:wr.cell? ⟨bx,ox+k*10+2,none⟩=some (.bool x.week.d1):=by exact cx k _ hx 2 _ rfl
       have d3:wr.cell? ⟨bx,ox+k*10+3,none⟩=some (.bool x.week.d2):=by exact cx k _ hx 3 _ rfl
       have d4:wr.cell? ⟨bx,ox+k*10+4,none⟩=some (.bool x.week.d3):=by exact cx k _ hx 4 _ rfl
       have d5:wr.cell? ⟨bx,ox+k*10+5,none⟩=some (.bool x.week.d4):=by exact cx k _ hx 5 _ rfl
       have d6:wr.cell? ⟨bx,ox+k*10+6,none⟩=some (.bool x.week.d5):=by exact cx k _ hx 6 _ rfl
       have d7:wr.cell? ⟨bx,ox+k*10+7,none⟩=some (.bool x.week.d6):=by exact cx k _ hx 7 _ rfl
       have d8:wr.cell? ⟨bx,ox+k*10+8,none⟩=some (.int .i64 x.frm):=by exact cx k _ hx 8 _ rfl
       have d9:wr.cell? ⟨bx,ox+k*10+9,none⟩=some (.int .i64 x.to):=by exact cx k _ hx 9 _ rfl
       obtain⟨w1,hw1⟩: ∃ w1,wr.alloc (.cells #[qP x.id, .bool x.week.d0, .bool x.week.d1, .bool x.week.d2, .bool x.week.d3, .bool x.week.d4, .bool x.week.d5, .bool x.week.d6, .int .i64 x.frm, .int .i64 x.to] 61)=w1:=⟨_,rfl⟩;have HX:=qA (show w1.heap[wr.heap.size]? =some (.cells #[qP x.id, .bool x.week.d0, .bool x.week.d1, .bool x.week.d2, .bool x.week.d3, .bool x.week.d4, .bool x.week.d5, .bool x.week.d6, .int .i64 x.frm, .int .i64 x.to] 61 (0,0)) by rw[<-hw1];exact heap_alloc_new wr _);have b1:Bl wr w1:=by rw[<-hw1];exact qE (qB _) _
       have HW1:=qA (HS.out.bl hlt b1);have t0:w1.cell? ⟨wr.heap.size,0,none⟩=some (qP x.id):=qC HX.out 0 _ rfl;have t1:w1.cell? ⟨wr.heap.size,1,none⟩=some (.bool x.week.d0):=qC HX.out 1 _ rfl;have t2:w1.cell? ⟨wr.heap.size,2,none⟩=some (.bool x.week.d1):=qC HX.out 2 _ rfl;have t3:w1.cell? ⟨wr.heap.size,3,none⟩=some (.bool x.week.d2):=qC HX.out 3 _ rfl;have t4:w1.cell? ⟨wr.heap.size,4,none⟩=some (.bool x.week.d3):=qC HX.out 4 _ rfl;have t5:w1.cell? ⟨wr.heap.size,5,none⟩=some (.bool x.week.d4):=qC HX.out 5 _ rfl;have t6:w1.cell? ⟨wr.heap.size,6,none⟩=some (.bool x.week.d5):=qC HX.out 6 _ rfl;have t7:w1.cell? ⟨wr.heap.size,7,none⟩=some (.bool x.week.d6):=qC HX.out 7 _ rfl;have t8:w1.cell? ⟨wr.heap.size,8,none⟩=some (.int .i64 x.frm):=qC HX.out 8 _ rfl;have t9:w1.cell? ⟨wr.heap.size,9,none⟩=some (.int .i64 x.to):=qC HX.out 9 _ rfl;clear b1;clear cx;go_wp2_with fail;clear hw1 d0 d1 d2 d3 d4 d5 d6 d7 d8 d9;have HS1:Hid (∀ W,Kp B w1 W->(fun W'=>W'.cell? ⟨wr.heap.size,0,none⟩=some (qP x.id)/\W'.cell? ⟨wr.heap.size,1,none⟩=some (.bool x.week.d0)/\W'.cell? ⟨wr.heap.size,2,none⟩=some (.bool x.week.d1)/\W'.cell? ⟨wr.heap.size,3,none⟩=some (.bool x.week.d2)/\W'.cell? ⟨wr.heap.size,4,none⟩=some (.bool x.week.d3)/\W'.cell? ⟨wr.heap.size,5,none⟩=some (.bool x.week.d4)/\W'.cell? ⟨wr.heap.size,6,none⟩=some (.bool x.week.d5)/\W'.cell? ⟨wr.heap.size,7,none⟩=some (.bool x.week.d6)/\W'.cell? ⟨wr.heap.size,8,none⟩=some (.int .i64 x.frm)/\W'.cell? ⟨wr.heap.size,9,none⟩=some (.int .i64 x.to)) W):=fun W k=>⟨k.cellT HX.out (by decide) (by decide) t0,k.cellT HX.out (by decide) (by decide) t1,k.cellT HX.out (by decide) (by decide) t2,k.cellT HX.out (by decide) (by decide) t3,k.cellT HX.out (by decide) (by decide) t4,k.cellT HX.out (by decide) (by decide) t5,k.cellT HX.out (by decide) (by decide) t6,k.cellT HX.out (by decide) (by decide) t7,k.cellT HX.out (by decide) (by decide) t8,k.cellT HX.out (by decide) (by decide) t9⟩
       have HFL:Hid (∀ y∈([(kw 2),x.id,(Qk x.week),(jb x.frm).1,(jb x.to).1]:List (List UInt8)),y.length<=131072):=fun y hy=>by
        simp only[List.mem_cons,List.not_mem_nil,or_false]at hy;rcases hy with rfl|rfl|rfl|rfl|rfl
        · exact Ux ((by decide):_<=100) (by omega)
        · exact Ux ((Ux hid (by omega)):_<=100) (by omega)
        · exact Ux (rH x.week:_<=100) (by omega)
        · exact Ux (ZL (d:=x.frm):_<=100) (by omega)
        · exact Ux (ZL (d:=x.to):_<=100) (by omega)
       have m0:Bl w1 w1.drew:=qH (qB w1);refine wp_region_held_drew (S:=(fun W'=>W'.cell? ⟨wr.heap.size,0,none⟩=some (qP x.id)/\W'.cell? ⟨wr.heap.size,1,none⟩=some (.bool x.week.d0)/\W'.cell? ⟨wr.heap.size,2,none⟩=some (.bool x.week.d1)/\W'.cell? ⟨wr.heap.size,3,none⟩=some (.bool x.week.d2)/\W'.cell? ⟨wr.heap.size,4,none⟩=some (.bool x.week.d3)/\W'.cell? ⟨wr.heap.size,5,none⟩=some (.bool x.week.d4)/\W'.cell? ⟨wr.heap.size,6,none⟩=some (.bool x.week.d5)/\W'.cell? ⟨wr.heap.size,7,none⟩=some (.bool x.week.d6)/\W'.cell? ⟨wr.heap.size,8,none⟩=some (.int .i64 x.frm)/\W'.cell? ⟨wr.heap.size,9,none⟩=some (.int .i64 x.to))) (by kernel_rfl) (HS1.out _ (Kp.of_bl (qH (qB w1)) HW1.out.size)) (fun hHeld=>?_);refine qI 0 ?_;try simp only[Act.put]
       refine qI 1 ?_;try simp only[Act.put]
       refine qI 2 ?_;try simp only[Act.put]
       refine qI 3 ?_;try simp only[Act.put]
       refine qI 4 ?_;try simp only[Act.put]
       refine qI 6 ?_;try simp only[Act.put]
       refine qI 7 ?_;try simp only[Act.put]
       refine qI 9 ?_;try simp only[Act.put]
       refine qI 10 ?_;try simp only[Act.put]
       refine zh 5 (fun KK hKK=>?_);go_simp;go_at_call 72
       refine(NW x.week _).mono ?_;rintro y1 z1 ⟨rfl,b1⟩;have m1:Bl w1 z1:=qF m0 b1;clear b1;clear hHeld;refine hKK.out _ _ ?_ (fun hHeld=>?_)
       · exact HS1.out _ (Kp.of_bl m1 HW1.out.size)
       clear hKK KK;try simp only[Act.put]
       refine zh 8 (fun KK hKK=>?_);go_simp;go_at_call 73
       refine(lD x.frm (jb x.frm).1 (jb x.frm).2 (qA rfl) _).mono ?_;rintro y2 z2 ⟨rfl,b2⟩;have m2:Bl w1 z2:=qF m1 b2;clear b2;clear hHeld;refine hKK.out _ _ ?_ (fun hHeld=>?_)
       · exact HS1.out _ (Kp.of_bl m2 HW1.out.size)
       clear hKK KK;try simp only[Act.put]
       refine zh 11 (fun KK hKK=>?_);go_simp;go_at_call 73
       refine(lD x.to (jb x.to).1 (jb x.to).2 (qA rfl) _).mono ?_;rintro y3 z3 ⟨rfl,b3⟩;have m3:Bl w1 z3:=qF m2 b3;clear b3;clear hHeld;refine hKK.out _ _ ?_ (fun hHeld=>?_)
       · exact HS1.out _ (Kp.of_bl m3 HW1.out.size)
       clear hKK KK;try simp only[Act.put]
       refine zh 12 (fun KK hKK=>?_);go_simp;skip
       clear hHeld;refine hKK.out _ _ ?_ (fun hHeld=>?_)
       · exact HS1.out _ (Kp.of_bl (qE m3 _) HW1.out.size)
       clear hKK KK;try simp only[Act.put]
       refine zh 13 (fun KK hKK=>?_);go_simp;have msz:=m3.size;have bsz:=HW1.out.size;go_at_call 68
       refine(QO B gw _ [(kw 2),x.id,(Qk x.week),(jb x.frm).1,(jb x.to).1] (zL [(kw 2),x.id,(Qk x.week),(jb x.frm).1,(jb x.to).1]).1 (zL [(kw 2),x.id,(Qk x.week),(jb x.frm).1,(jb x.to).1]).2 (qA rfl) HFL _ _ _ (vJ (cells:=strCells) (sz:=1) (fun _=>rfl) [(kw 2),x.id,(Qk x.week),(jb x.frm).1,(jb x.to).1] z3 #[.string ⟨#[99,97,108,101,110,100,97,114]⟩,qP x.id,qP (Qk x.week),qP (jb x.frm).1,qP (jb x.to).1] 9 5 5 rfl (U3 _) (by unfold maxLen;omega) rfl) (U3 _) (by simp;omega) ((HW1.out.wr.bl m3).bl (qE (qB _) _)) hll).mono ?_;rintro y9 w9 ⟨rfl,p1,p2,p3⟩;have K9:Kp B w1 w9:=(Kp.of_bl (qE m3 _) HW1.out.size).trans ⟨p2,p3⟩;have HS9:=qA (HW1.out.put hlt p1 K9);clear p1 p2 p3 msz bsz;clear hHeld;refine hKK.out _ _ ?_ (fun hHeld=>?_)
       · exact HS1.out _ K9
       clear hKK KK;try simp only[Act.put]
       refine wpAnyH_done (by kernel_rfl) ?_ _;try change Exit.then _ _ .normal _ w9
       clear HS1 HFL K9 hll m0 m1 m2 m3;have HS10:=qA (HS9.out.row hx (f:=Qp) (A:=A2) (show Qp x=(zL [(kw 2),x.id,(Qk x.week),(jb x.frm).1,(jb x.to).1]).1 from rfl));clear HS9 HS;go_wp2;go_roundw;case rel=>exact⟨k+1,⟨by omega,by go_num⟩,HS10⟩
       case measure=>simp[intOf];omega
      ·
       skip
       have HSe:WS B gw w.heap.size (JQ t ts a0 k0 a1 k1 a2 k2 a3 k3 a4 k4 a5 k5 a6 k6 a7 k7 a8 k8 a9 k9) ts t w (A2++t.cals.map Qp) wr:=by have:=HS.out;rw[U9 (by omega)]at this;exact this
       obtain⟨A3,hA3⟩: ∃ A',A2++t.cals.map Qp=A':=⟨_,rfl⟩;rw[hA3]at HSe;have HA3:=qA hA3;have lA3:A3.length<=20192:=by rw[<-hA3,U1,U4];omega
       clear HS hA3;have HS:=qA HSe;clear HSe;have uu:wr.cell? ⟨w.heap.size,3,none⟩=some (.slice a3 t.excs.length k3):=qC HS.out.tt 3 _ rfl;go_wp2_with fail;clear uu;go_loopw [89] (fun i wr=> ∃ k:Nat,(k<=t.excs.length/\i= .int .i64 k)/\Hid (WS B gw w.heap.size (JQ t ts a0 k0 a1 k1 a2 k2 a3 k3 a4 k4 a5 k5 a6 k6 a7 k7 a8 k8 a9 k9) ts t w (A3++(t.excs.take k).map (wX t)) wr)) (fun i _=>t.excs.length-(intOf i).toNat)
       case atStart=>exact⟨0,⟨qAD _,rfl⟩,by show WS B gw w.heap.size (JQ t ts a0 k0 a1 k1 a2 k2 a3 k3 a4 k4 a5 k5 a6 k6 a7 k7 a8 k8 a9 k9) ts t w _ _;rw[List.take_zero,List.map_nil,List.append_nil];exact HS.out⟩
       case round=>
        clear HS;obtain⟨k,⟨hk,rfl⟩,HS⟩:=hrel;by_cases hlx:k<t.excs.length
        ·
         obtain⟨x,hx⟩: ∃ x,t.excs[k]? =some x:=⟨_,U2 hlx⟩;obtain⟨bx,ox,rfl,lx,cx⟩:=HS.out.rd.excs.openB (by first|omega|(rw[U4];omega));have hxm:=Uz hx;have hkI:(k:Int)<(t.excs.length:Int):=by omega
         have hll:(A3++(t.excs.take k).map (wX t)).length<=1000000:=by have:=xC A3 t.excs (wX t) k;omega
         obtain⟨hc0,⟨z0,z1⟩⟩:=HV.out.excs x hxm;obtain⟨ad,had⟩: ∃ ad,x.added=ad:=⟨_,rfl⟩;obtain⟨q0,e0,hq0,he0⟩:=Qm (l:=t.cals) hc0;have li0:(q0:Int)<(t.cals.length:Int):=by have:=(Uw.1 he0).1;omega
         have li0n:q0<t.cals.length:=(Uw.1 he0).1;have d0:wr.cell? ⟨bx,ox+k*3,none⟩=some (.int .i64 (q0:Int)):=by rw[<-hq0];exact cx k _ hx 0 _ rfl
         have d1:wr.cell? ⟨bx,ox+k*3+1,none⟩=some (.int .i64 x.day):=by exact cx k _ hx 1 _ rfl
         have d2:wr.cell? ⟨bx,ox+k*3+2,none⟩=some (.bool ad):=by rw[<-had];exact cx k _ hx 2 _ rfl
         obtain⟨w1,hw1⟩: ∃ w1,wr.alloc (.cells #[.int .i64 (q0:Int), .int .i64 x.day, .bool ad] 124)=w1:=⟨_,rfl⟩;have HX:=qA (show w1.heap[wr.heap.size]? =some (.cells #[.int .i64 (q0:Int), .int .i64 x.day, .bool ad] 124 (0,0)) by rw[<-hw1];exact heap_alloc_new wr _);have b1:Bl wr w1:=by rw[<-hw1];exact qE (qB _) _
         have HW1:=qA (HS.out.bl hlt b1);have t0:w1.cell? ⟨wr.heap.size,0,none⟩=some (.int .i64 (q0:Int)):=qC HX.out 0 _ rfl;have t1:w1.cell? ⟨wr.heap.size,1,none⟩=some (.int .i64 x.day):=qC HX.out 1 _ rfl;have t2:w1.cell? ⟨wr.heap.size,2,none⟩=some (.bool ad):=qC HX.out 2 _ rfl;clear b1;obtain⟨b0,o0,rfl,l0,cc0⟩:=HW1.out.rd.cals.openB (by omega);have u0:w1.cell? ⟨w.heap.size,2,none⟩=some (.slice (some ⟨b0,o0,none⟩) t.cals.length k2):=qC HW1.out.tt 2 _ rfl;have v0:w1.cell? ⟨b0,o0+q0*10,none⟩=some (qP e0.id):=cc0 q0 _ he0 0 _ rfl;clear cx cc0;cases ad with
         |true=>
          have HW:=qA hw1;clear hw1;go_wp2_with fail;rw[HW.out];have hw1:=HW.out;clear HW;clear hw1 d0 d1 d2;have HS1:Hid (∀ W,Kp B w1 W->(fun W'=>W'.cell? ⟨wr.heap.size,0,none⟩=some (.int .i64 (q0:Int))/\W'.cell? ⟨wr.heap.size,1,none⟩=some (.int .i64 x.day)/\W'.cell? ⟨w.heap.size,2,none⟩=some (.slice (some ⟨b0,o0,none⟩) t.cals.length k2)/\W'.cell? ⟨b0,o0+q0*10,none⟩=some (qP e0.id)) W):=fun W k=>⟨k.cellT HX.out (by decide) (by decide) t0,k.cellT HX.out (by decide) (by decide) t1,k.cellT HW1.out.tt (by decide) (by decide) u0,k.cellB l0 v0⟩
          have HFL:Hid (∀ y∈([(kw 3),e0.id,(jb x.day).1,yN]:List (List UInt8)),y.length<=131072):=fun y hy=>by
           simp only[List.mem_cons,List.not_mem_nil,or_false]at hy;rcases hy with rfl|rfl|rfl|rfl
           · exact Ux ((by decide):_<=100) (by omega)
           · exact Ux ((Ux (HV.out.cals _ (Uz he0)).1 (by omega)):_<=100) (by omega)
           · exact Ux (ZL (d:=x.day):_<=100) (by omega)
           · exact Ux ((by decide):_<=100) (by omega)
          have m0:Bl w1 w1.drew:=qH (qB w1);refine wp_region_held_drew (S:=(fun W'=>W'.cell? ⟨wr.heap.size,0,none⟩=some (.int .i64 (q0:Int))/\W'.cell? ⟨wr.heap.size,1,none⟩=some (.int .i64 x.day)/\W'.cell? ⟨w.heap.size,2,none⟩=some (.slice (some ⟨b0,o0,none⟩) t.cals.length k2)/\W'.cell? ⟨b0,o0+q0*10,none⟩=some (qP e0.id))) (by kernel_rfl) (HS1.out _ (Kp.of_bl (qH (qB w1)) HW1.out.size)) (fun hHeld=>?_);refine qI 0 ?_;try simp only[Act.put]
          refine qI 1 ?_;try simp only[Act.put]
          refine qI 2 ?_;try simp only[Act.put]
          refine qI 3 ?_;try simp only[Act.put]
          refine qI 4 ?_;try simp only[Act.put]
          refine qI 5 ?_;try simp only[Act.put]
          refine qI 6 ?_;try simp only[Act.put]
          refine qI 7 ?_;try simp only[Act.put]
          refine qI 8 ?_;try simp only[Act.put]
          refine qI 9 ?_;try simp only[Act.put]
          refine qI 11 ?_;try simp only[Act.put]
          refine zh 10 (fun KK hKK=>?_);go_simp;go_at_call 73
          refine(lD x.day (jb x.day).1 (jb x.day).2 (qA rfl) _).mono ?_;rintro y1 z1 ⟨rfl,b1⟩;have m1:Bl w1 z1:=qF m0 b1;clear b1;clear hHeld;refine hKK.out _ _ ?_ (fun hHeld=>?_)
          · exact HS1.out _ (Kp.of_bl m1 HW1.out.size)
          clear hKK KK;try simp only[Act.put]
          refine zh 12 (fun KK hKK=>?_);go_simp;skip
          clear hHeld;refine hKK.out _ _ ?_ (fun hHeld=>?_)
          · exact HS1.out _ (Kp.of_bl (qE m1 _) HW1.out.size)
          clear hKK KK;try simp only[Act.put]
          refine zh 13 (fun KK hKK=>?_);go_simp;have msz:=m1.size;have bsz:=HW1.out.size;go_at_call 68
          refine(QO B gw _ [(kw 3),e0.id,(jb x.day).1,yN] (zL [(kw 3),e0.id,(jb x.day).1,yN]).1 (zL [(kw 3),e0.id,(jb x.day).1,yN]).2 (qA rfl) HFL _ _ _ (vJ (cells:=strCells) (sz:=1) (fun _=>rfl) [(kw 3),e0.id,(jb x.day).1,yN] z1 #[.string ⟨#[101,120,99,101,112,116,105,111,110]⟩,qP e0.id,qP (jb x.day).1,qP yN] 9 4 4 rfl (U3 _) (by unfold maxLen;omega) rfl) (U3 _) (by simp;omega) ((HW1.out.wr.bl m1).bl (qE (qB _) _)) hll).mono ?_;rintro y9 w9 ⟨rfl,p1,p2,p3⟩;have K9:Kp B w1 w9:=(Kp.of_bl (qE m1 _) HW1.out.size).trans ⟨p2,p3⟩;have HS9:=qA (HW1.out.put hlt p1 K9);clear p1 p2 p3 msz bsz;clear hHeld;refine hKK.out _ _ ?_ (fun hHeld=>?_)
          · exact HS1.out _ K9
          clear hKK KK;try simp only[Act.put]
          refine wpAnyH_done (by kernel_rfl) ?_ _;try change Exit.then _ _ .normal _ w9
          clear HS1 HFL K9 hll m0 m1;have HS10:=qA (HS9.out.row hx (f:=(wX t)) (A:=A3) (show(wX t) x=(zL [(kw 3),e0.id,(jb x.day).1,yN]).1 from by unfold wX jZ;rw[hq0,Qv he0,had];rfl));clear HS9 HS;go_wp2;go_roundw;case rel=>exact⟨k+1,⟨by omega,by go_num⟩,HS10⟩
          case measure=>simp[intOf];omega
         |false=>
          have HW:=qA hw1;clear hw1;go_wp2_with fail;rw[HW.out];have hw1:=HW.out;clear HW;clear hw1 d0 d1 d2;have HS1:Hid (∀ W,Kp B w1 W->(fun W'=>W'.cell? ⟨wr.heap.size,0,none⟩=some (.int .i64 (q0:Int))/\W'.cell? ⟨wr.heap.size,1,none⟩=some (.int .i64 x.day)/\W'.cell? ⟨w.heap.size,2,none⟩=some (.slice (some ⟨b0,o0,none⟩) t.cals.length k2)/\W'.cell? ⟨b0,o0+q0*10,none⟩=some (qP e0.id)) W):=fun W k=>⟨k.cellT HX.out (by decide) (by decide) t0,k.cellT HX.out (by decide) (by decide) t1,k.cellT HW1.out.tt (by decide) (by decide) u0,k.cellB l0 v0⟩
          have HFL:Hid (∀ y∈([(kw 3),e0.id,(jb x.day).1,jM]:List (List UInt8)),y.length<=131072):=fun y hy=>by
           simp only[List.mem_cons,List.not_mem_nil,or_false]at hy;rcases hy with rfl|rfl|rfl|rfl
           · exact Ux ((by decide):_<=100) (by omega)
           · exact Ux ((Ux (HV.out.cals _ (Uz he0)).1 (by omega)):_<=100) (by omega)
           · exact Ux (ZL (d:=x.day):_<=100) (by omega)
           · exact Ux ((by decide):_<=100) (by omega)
          have m0:Bl w1 w1.drew:=qH (qB w1);refine wp_region_held_drew (S:=(fun W'=>W'.cell? ⟨wr.heap.size,0,none⟩=some (.int .i64 (q0:Int))/\W'.cell? ⟨wr.heap.size,1,none⟩=some (.int .i64 x.day)/\W'.cell? ⟨w.heap.size,2,none⟩=some (.slice (some ⟨b0,o0,none⟩) t.cals.length k2)/\W'.cell? ⟨b0,o0+q0*10,none⟩=some (qP e0.id))) (by kernel_rfl) (HS1.out _ (Kp.of_bl (qH (qB w1)) HW1.out.size)) (fun hHeld=>?_);refine qI 0 ?_;try simp only[Act.put]
          refine qI 1 ?_;try simp only[Act.put]
          refine qI 2 ?_;try simp only[Act.put]
          refine qI 3 ?_;try simp only[Act.put]
          refine qI 4 ?_;try simp only[Act.put]
          refine qI 5 ?_;try simp only[Act.put]
          refine qI 6 ?_;try simp only[Act.put]
          refine qI 7 ?_;try simp only[Act.put]
          refine qI 8 ?_;try simp only[Act.put]
          refine qI 9 ?_;try simp only[Act.put]
          refine qI 11 ?_;try simp only[Act.put]
          refine zh 10 (fun KK hKK=>?_);go_simp;go_at_call 73
          refine(lD x.day (jb x.day).1 (jb x.day).2 (qA rfl) _).mono ?_;rintro y1 z1 ⟨rfl,b1⟩;have m1:Bl w1 z1:=qF m0 b1;clear b1;clear hHeld;refine hKK.out _ _ ?_ (fun hHeld=>?_)
          · exact HS1.out _ (Kp.of_bl m1 HW1.out.size)
          clear hKK KK;try simp only[Act.put]
          refine zh 12 (fun KK hKK=>?_);go_simp;skip
          clear hHeld;refine hKK.out _ _ ?_ (fun hHeld=>?_)
          · exact HS1.out _ (Kp.of_bl (qE m1 _) HW1.out.size)
          clear hKK KK;try simp only[Act.put]
          refine zh 13 (fun KK hKK=>?_);go_simp;have msz:=m1.size;have bsz:=HW1.out.size;go_at_call 68
          refine(QO B gw _ [(kw 3),e0.id,(jb x.day).1,jM] (zL [(kw 3),e0.id,(jb x.day).1,jM]).1 (zL [(kw 3),e0.id,(jb x.day).1,jM]).2 (qA rfl) HFL _ _ _ (vJ (cells:=strCells) (sz:=1) (fun _=>rfl) [(kw 3),e0.id,(jb x.day).1,jM] z1 #[.string ⟨#[101,120,99,101,112,116,105,111,110]⟩,qP e0.id,qP (jb x.day).1,qP jM] 9 4 4 rfl (U3 _) (by unfold maxLen;omega) rfl) (U3 _) (by simp;omega) ((HW1.out.wr.bl m1).bl (qE (qB _) _)) hll).mono ?_;rintro y9 w9 ⟨rfl,p1,p2,p3⟩;have K9:Kp B w1 w9:=(Kp.of_bl (qE m1 _) HW1.out.size).trans ⟨p2,p3⟩;have HS9:=qA (HW1.out.put hlt p1 K9);clear p1 p2 p3 msz bsz;clear hHeld;refine hKK.out _ _ ?_ (fun hHeld=>?_)
          · exact HS1.out _ K9
          clear hKK KK;try simp only[Act.put]
          refine wpAnyH_done (by kernel_rfl) ?_ _;try change Exit.then _ _ .normal _ w9
          clear HS1 HFL K9 hll m0 m1;have HS10:=qA (HS9.out.row hx (f:=(wX t)) (A:=A3) (show(wX t) x=(zL [(kw 3),e0.id,(jb x.day).1,jM]).1 from by unfold wX jZ;rw[hq0,Qv he0,had];rfl));clear HS9 HS;go_wp2;go_roundw;case rel=>exact⟨k+1,⟨by omega,by go_num⟩,HS10⟩
          case measure=>simp[intOf];omega
        ·
         skip
         have HSe:WS B gw w.heap.size (JQ t ts a0 k0 a1 k1 a2 k2 a3 k3 a4 k4 a5 k5 a6 k6 a7 k7 a8 k8 a9 k9) ts t w (A3++t.excs.map (wX t)) wr:=by have:=HS.out;rw[U9 (by omega)]at this;exact this
         obtain⟨A4,hA4⟩: ∃ A',A3++t.excs.map (wX t)=A':=⟨_,rfl⟩;rw[hA4]at HSe;have HA4:=qA hA4;have lA4:A4.length<=20448:=by rw[<-hA4,U1,U4];omega
         clear HS hA4;have HS:=qA HSe;clear HSe;have uu:wr.cell? ⟨w.heap.size,4,none⟩=some (.slice a4 ts.length k4):=qC HS.out.tt 4 _ rfl;go_wp2_with fail;clear uu;go_loopw [113] (fun i wr=> ∃ k:Nat,(k<=ts.length/\i= .int .i64 k)/\Hid (WS B gw w.heap.size (JQ t ts a0 k0 a1 k1 a2 k2 a3 k3 a4 k4 a5 k5 a6 k6 a7 k7 a8 k8 a9 k9) ts t w (A4++(ts.take k).flatMap (fun x=>yG t (xOf x))) wr)) (fun i _=>ts.length-(intOf i).toNat)
         case atStart=>exact⟨0,⟨qAD _,rfl⟩,by show WS B gw w.heap.size (JQ t ts a0 k0 a1 k1 a2 k2 a3 k3 a4 k4 a5 k5 a6 k6 a7 k7 a8 k8 a9 k9) ts t w _ _;rw[List.take_zero,List.flatMap_nil,List.append_nil];exact HS.out⟩
         case round=>
          clear HS;obtain⟨k,⟨hk,rfl⟩,HS⟩:=hrel;by_cases hlx:k<ts.length
          ·
           obtain⟨x,hx⟩: ∃ x,ts[k]? =some x:=⟨_,U2 hlx⟩;obtain⟨bx,ox,rfl,lx,cx⟩:=HS.out.rd.trips.sl.openB (by first|omega|(rw[U4];omega));have hxm:=Uz hx;have hxt:xOf x∈t.trips:=by rw[HSAME.out];exact List.mem_map_of_mem hxm
           have hkI:(k:Int)<(ts.length:Int):=by omega
           obtain⟨A5,hA5⟩: ∃ A5,A4++(ts.take k).flatMap (fun x=>yG t (xOf x))=A5:=⟨_,rfl⟩;have hl5:A5.length<=40000:=by
            have h1:=Vt (t:=t) ((ts.take k).map xOf) (fun y hy=>HL10.out y (by obtain⟨z,hz,rfl⟩:=List.mem_map.1 hy;rw[HSAME.out];exact List.mem_map_of_mem (List.mem_of_mem_take hz)));rw[List.flatMap_map,U4,List.length_take]at h1;rw[<-hA5,U1];have h3:=HLEN5.out;have h2:((ts.take k).flatMap (fun x=>yG t (xOf x))).length<=33*min k ts.length:=h1;omega
           rw[hA5]at HS;have HA5:=qA hA5;have hll:A5.length<=1000000:=by omega
           clear hA5;obtain⟨hid,hr0,hr1,hcs⟩:=HV.out.trips (xOf x) hxt;have hid':x.id.data.toList.length<=32:=hid;have HCS:=qA hcs;have hcl:x.calls.length<=32:=HL10.out (xOf x) hxt;obtain⟨av,cv,hv,-,-⟩:=(HS.out.rd.trips.ok x hxm).calls.val;have HVX:=qA hv;clear hcs hv hid;change 0<=x.rt/\x.rt<_ at hr0;change 0<=x.cal/\x.cal<_ at hr1;obtain⟨q0,e0,hq0,he0⟩:=Qm (l:=t.routes) hr0;have li0:(q0:Int)<(t.routes.length:Int):=by have:=(Uw.1 he0).1;omega
           have li0n:q0<t.routes.length:=(Uw.1 he0).1;obtain⟨q1,e1,hq1,he1⟩:=Qm (l:=t.cals) hr1;have li1:(q1:Int)<(t.cals.length:Int):=by have:=(Uw.1 he1).1;omega
           have li1n:q1<t.cals.length:=(Uw.1 he1).1;have d0:wr.cell? ⟨bx,ox+k*5,none⟩=some (.string x.id):=by exact cx k _ hx 0 _ rfl
           have d1:wr.cell? ⟨bx,ox+k*5+1,none⟩=some (.int .i64 (q0:Int)):=by rw[<-hq0];exact cx k _ hx 1 _ rfl
           have d2:wr.cell? ⟨bx,ox+k*5+2,none⟩=some (.int .i64 (q1:Int)):=by rw[<-hq1];exact cx k _ hx 2 _ rfl
           have d3:wr.cell? ⟨bx,ox+k*5+3,none⟩=some (.bool x.step):=by exact cx k _ hx 3 _ rfl
           have d4:wr.cell? ⟨bx,ox+k*5+4,none⟩=some (.slice av x.calls.length cv):=by rw[<-HVX.out];exact cx k _ hx 4 _ rfl
           obtain⟨w1,hw1⟩: ∃ w1,wr.alloc (.cells #[.string x.id, .int .i64 (q0:Int), .int .i64 (q1:Int), .bool x.step, .slice av x.calls.length cv] 56)=w1:=⟨_,rfl⟩;have HX:=qA (show w1.heap[wr.heap.size]? =some (.cells #[.string x.id, .int .i64 (q0:Int), .int .i64 (q1:Int), .bool x.step, .slice av x.calls.length cv] 56 (0,0)) by rw[<-hw1];exact heap_alloc_new wr _);have b1:Bl wr w1:=by rw[<-hw1];exact qE (qB _) _
           have HW1:=qA (HS.out.bl hlt b1);have t0:w1.cell? ⟨wr.heap.size,0,none⟩=some (.string x.id):=qC HX.out 0 _ rfl;have t1:w1.cell? ⟨wr.heap.size,1,none⟩=some (.int .i64 (q0:Int)):=qC HX.out 1 _ rfl;have t2:w1.cell? ⟨wr.heap.size,2,none⟩=some (.int .i64 (q1:Int)):=qC HX.out 2 _ rfl;have t3:w1.cell? ⟨wr.heap.size,3,none⟩=some (.bool x.step):=qC HX.out 3 _ rfl;have t4:w1.cell? ⟨wr.heap.size,4,none⟩=some (.slice av x.calls.length cv):=qC HX.out 4 _ rfl;clear b1;obtain⟨b0,o0,rfl,l0,cc0⟩:=HW1.out.rd.routes.openB (by omega);have u0:w1.cell? ⟨w.heap.size,1,none⟩=some (.slice (some ⟨b0,o0,none⟩) t.routes.length k1):=qC HW1.out.tt 1 _ rfl;have v0:w1.cell? ⟨b0,o0+q0*3,none⟩=some (qP e0.id):=cc0 q0 _ he0 0 _ rfl;obtain⟨b1,o1,rfl,l1,cc1⟩:=HW1.out.rd.cals.openB (by omega);have u1:w1.cell? ⟨w.heap.size,2,none⟩=some (.slice (some ⟨b1,o1,none⟩) t.cals.length k2):=qC HW1.out.tt 2 _ rfl;have v1:w1.cell? ⟨b1,o1+q1*10,none⟩=some (qP e1.id):=cc1 q1 _ he1 0 _ rfl;clear cx cc0 cc1;go_wp2_with fail;clear hw1 d0 d1 d2 d3 d4;have HS1:Hid (∀ W,Kp B w1 W->(fun W'=>W'.cell? ⟨wr.heap.size,0,none⟩=some (.string x.id)/\W'.cell? ⟨wr.heap.size,1,none⟩=some (.int .i64 (q0:Int))/\W'.cell? ⟨wr.heap.size,2,none⟩=some (.int .i64 (q1:Int))/\W'.cell? ⟨wr.heap.size,3,none⟩=some (.bool x.step)/\W'.cell? ⟨w.heap.size,1,none⟩=some (.slice (some ⟨b0,o0,none⟩) t.routes.length k1)/\W'.cell? ⟨b0,o0+q0*3,none⟩=some (qP e0.id)/\W'.cell? ⟨w.heap.size,2,none⟩=some (.slice (some ⟨b1,o1,none⟩) t.cals.length k2)/\W'.cell? ⟨b1,o1+q1*10,none⟩=some (qP e1.id)) W):=fun W k=>⟨k.cellT HX.out (by decide) (by decide) t0,k.cellT HX.out (by decide) (by decide) t1,k.cellT HX.out (by decide) (by decide) t2,k.cellT HX.out (by decide) (by decide) t3,k.cellT HW1.out.tt (by decide) (by decide) u0,k.cellB l0 v0,k.cellT HW1.out.tt (by decide) (by decide) u1,k.cellB l1 v1⟩
           have HFL:Hid (∀ y∈([(kw 4),x.id.data.toList,e0.id,e1.id,(kG x.step)]:List (List UInt8)),y.length<=131072):=fun y hy=>by
            simp only[List.mem_cons,List.not_mem_nil,or_false]at hy;rcases hy with rfl|rfl|rfl|rfl|rfl
            · exact Ux ((by decide):_<=100) (by omega)
            · exact Ux ((Ux hid' (by omega)):_<=100) (by omega)
            · exact Ux ((Ux (HV.out.routes _ (Uz he0)).1 (by omega)):_<=100) (by omega)
            · exact Ux ((Ux (HV.out.cals _ (Uz he1)).1 (by omega)):_<=100) (by omega)
            · exact Ux (Jo x.step:_<=100) (by omega)
           have m0:Bl w1 w1.drew:=qH (qB w1);refine wp_region_held_drew (S:=(fun W'=>W'.cell? ⟨wr.heap.size,0,none⟩=some (.string x.id)/\W'.cell? ⟨wr.heap.size,1,none⟩=some (.int .i64 (q0:Int))/\W'.cell? ⟨wr.heap.size,2,none⟩=some (.int .i64 (q1:Int))/\W'.cell? ⟨wr.heap.size,3,none⟩=some (.bool x.step)/\W'.cell? ⟨w.heap.size,1,none⟩=some (.slice (some ⟨b0,o0,none⟩) t.routes.length k1)/\W'.cell? ⟨b0,o0+q0*3,none⟩=some (qP e0.id)/\W'.cell? ⟨w.heap.size,2,none⟩=some (.slice (some ⟨b1,o1,none⟩) t.cals.length k2)/\W'.cell? ⟨b1,o1+q1*10,none⟩=some (qP e1.id))) (by kernel_rfl) (HS1.out _ (Kp.of_bl (qH (qB w1)) HW1.out.size)) (fun hHeld=>?_);refine qI 0 ?_;try simp only[Act.put]
           refine qI 1 ?_;try simp only[Act.put]
           refine qI 2 ?_;try simp only[Act.put]
           refine qI 3 ?_;try simp only[Act.put]
           refine qI 4 ?_;try simp only[Act.put]
           refine qI 5 ?_;try simp only[Act.put]
           refine qI 6 ?_;try simp only[Act.put]
           refine qI 7 ?_;try simp only[Act.put]
           refine qI 8 ?_;try simp only[Act.put]
           refine qI 9 ?_;try simp only[Act.put]
           refine qI 10 ?_;try simp only[Act.put]
           refine qI 11 ?_;try simp only[Act.put]
           refine qI 12 ?_;try simp only[Act.put]
           refine qI 13 ?_;try simp only[Act.put]
           refine qI 14 ?_;try simp only[Act.put]
           refine qI 15 ?_;try simp only[Act.put]
           refine qI 16 ?_;try simp only[Act.put]
           refine qI 17 ?_;try simp only[Act.put]
           refine qI 18 ?_;try simp only[Act.put]
           refine zh 19 (fun KK hKK=>?_);go_simp;go_at_call 70
           refine(Wv x.step _).mono ?_;rintro y1 z1 ⟨rfl,b1⟩;have m1:Bl w1 z1:=by rw[b1];exact m0
           clear b1;clear hHeld;refine hKK.out _ _ ?_ (fun hHeld=>?_)
           · exact HS1.out _ (Kp.of_bl m1 HW1.out.size)
           clear hKK KK;try simp only[Act.put]
           refine zh 20 (fun KK hKK=>?_);go_simp;skip
           clear hHeld;refine hKK.out _ _ ?_ (fun hHeld=>?_)
           · exact HS1.out _ (Kp.of_bl (qE m1 _) HW1.out.size)
           clear hKK KK;try simp only[Act.put]
           refine zh 21 (fun KK hKK=>?_);go_simp;have msz:=m1.size;have bsz:=HW1.out.size;go_at_call 68
           refine(QO B gw _ [(kw 4),x.id.data.toList,e0.id,e1.id,(kG x.step)] (zL [(kw 4),x.id.data.toList,e0.id,e1.id,(kG x.step)]).1 (zL [(kw 4),x.id.data.toList,e0.id,e1.id,(kG x.step)]).2 (qA rfl) HFL _ _ _ (vJ (cells:=strCells) (sz:=1) (fun _=>rfl) [(kw 4),x.id.data.toList,e0.id,e1.id,(kG x.step)] z1 #[.string ⟨#[116,114,105,112]⟩, .string x.id,qP e0.id,qP e1.id,qP (kG x.step)] 9 5 5 rfl (U3 _) (by unfold maxLen;omega) rfl) (U3 _) (by simp;omega) ((HW1.out.wr.bl m1).bl (qE (qB _) _)) hll).mono ?_;rintro y9 w9 ⟨rfl,p1,p2,p3⟩;have K9:Kp B w1 w9:=(Kp.of_bl (qE m1 _) HW1.out.size).trans ⟨p2,p3⟩;have HS9:=qA (HW1.out.put hlt p1 K9);clear p1 p2 p3 msz bsz;clear hHeld;refine hKK.out _ _ ?_ (fun hHeld=>?_)
           · exact HS1.out _ K9
           clear hKK KK;try simp only[Act.put]
           refine wpAnyH_done (by kernel_rfl) ?_ _;try change Exit.then _ _ .normal _ w9
           have x4:w9.cell? ⟨wr.heap.size,4,none⟩=some (.slice av x.calls.length cv):=K9.cellT HX.out (by decide) (by decide) t4;clear HS1 HFL K9 hll m0 m1;obtain⟨A6,hA6⟩: ∃ A6,A5++[(zL [(kw 4),x.id.data.toList,e0.id,e1.id,(kG x.step)]).1]=A6:=⟨_,rfl⟩;have hrow:(zL [(kw 4),x.id.data.toList,e0.id,e1.id,(kG x.step)]).1=iH t (xOf x):=by
            show _=jZ [kw 4,x.id.data.toList,jF _ x.rt,jF _ x.cal,kG x.step]
            unfold jZ;rw[hq0,Qv he0,hq1,Qv he1]
           have HA6:Hid (A5++[iH t (xOf x)]=A6):=by show _=_;rw[<-hA6,hrow]
           have lA6:A6.length<=40001:=by rw[<-hA6,U1];simp;omega
           rw[hA6]at HS9;clear HS hA6 hrow t0 t1 t2 t3 t4 u0 v0 u1 v1;have HS:=HS9;clear HS9;go_wp2_with fail;clear x4;go_loopw [142] (fun i wi=> ∃ j:Nat,(j<=x.calls.length/\i= .int .i64 j)/\Hid (WS B gw w.heap.size (JQ t ts a0 k0 (some ⟨b0,o0,none⟩) k1 (some ⟨b1,o1,none⟩) k2 a3 k3 (some ⟨bx,ox,none⟩) k4 a5 k5 a6 k6 a7 k7 a8 k8 a9 k9) ts t w (A6++(x.calls.take j).map (Qs t)) wi)) (fun i _=>x.calls.length-(intOf i).toNat)
           case atStart=>exact⟨0,⟨qAD _,rfl⟩,by show WS B gw w.heap.size (JQ t ts a0 k0 (some ⟨b0,o0,none⟩) k1 (some ⟨b1,o1,none⟩) k2 a3 k3 (some ⟨bx,ox,none⟩) k4 a5 k5 a6 k6 a7 k7 a8 k8 a9 k9) ts t w _ _;rw[List.take_zero,List.map_nil,List.append_nil];exact HS.out⟩
           case round=>
            clear HS HW1 HX;obtain⟨j,⟨hj,rfl⟩,HS⟩:=hrel;by_cases hlj:j<x.calls.length
            ·
             obtain⟨c,hc⟩: ∃ c,x.calls[j]? =some c:=⟨_,U2 hlj⟩;have hci:=(HS.out.rd.trips.ok x hxm).calls;rw[HVX.out]at hci;obtain⟨by',oy,rfl,ly,cy⟩:=hci.openB (by omega);have hcm:=Uz hc;have hjI:(j:Int)<(x.calls.length:Int):=by omega
             have hll:(A6++(x.calls.take j).map (Qs t)).length<=1000000:=by have:=xC A6 x.calls (Qs t) j;omega
             obtain⟨hs0,⟨z0,z1⟩,⟨g0,g1⟩⟩:=HCS.out c hcm;obtain⟨q2,e2,hq2,he2⟩:=Qm (l:=t.stops) hs0;have li2:(q2:Int)<(t.stops.length:Int):=by have:=(Uw.1 he2).1;omega
             have li2n:q2<t.stops.length:=(Uw.1 he2).1;have d0:wr.cell? ⟨by',oy+j*5,none⟩=some (.int .i64 (q2:Int)):=by rw[<-hq2];exact cy j _ hc 0 _ rfl
             have d1:wr.cell? ⟨by',oy+j*5+1,none⟩=some (.int .i64 c.arrive):=by exact cy j _ hc 1 _ rfl
             have d2:wr.cell? ⟨by',oy+j*5+2,none⟩=some (.int .i64 c.depart):=by exact cy j _ hc 2 _ rfl
             have d3:wr.cell? ⟨by',oy+j*5+3,none⟩=some (.bool c.board):=by exact cy j _ hc 3 _ rfl
             have d4:wr.cell? ⟨by',oy+j*5+4,none⟩=some (.bool c.alight):=by exact cy j _ hc 4 _ rfl
             obtain⟨w7,hw1⟩: ∃ w1,wr.alloc (.cells #[.int .i64 (q2:Int), .int .i64 c.arrive, .int .i64 c.depart, .bool c.board, .bool c.alight] 58)=w1:=⟨_,rfl⟩;have HX:=qA (show w7.heap[wr.heap.size]? =some (.cells #[.int .i64 (q2:Int), .int .i64 c.arrive, .int .i64 c.depart, .bool c.board, .bool c.alight] 58 (0,0)) by rw[<-hw1];exact heap_alloc_new wr _);have b1:Bl wr w7:=by rw[<-hw1];exact qE (qB _) _
             have HW7:=qA (HS.out.bl hlt b1);have t0:w7.cell? ⟨wr.heap.size,0,none⟩=some (.int .i64 (q2:Int)):=qC HX.out 0 _ rfl;have t1:w7.cell? ⟨wr.heap.size,1,none⟩=some (.int .i64 c.arrive):=qC HX.out 1 _ rfl;have t2:w7.cell? ⟨wr.heap.size,2,none⟩=some (.int .i64 c.depart):=qC HX.out 2 _ rfl;have t3:w7.cell? ⟨wr.heap.size,3,none⟩=some (.bool c.board):=qC HX.out 3 _ rfl;have t4:w7.cell? ⟨wr.heap.size,4,none⟩=some (.bool c.alight):=qC HX.out 4 _ rfl;clear b1;obtain⟨b2,o2,rfl,l2,cc2⟩:=HW7.out.rd.stops.openB (by omega);have u2:w7.cell? ⟨w.heap.size,0,none⟩=some (.slice (some ⟨b2,o2,none⟩) t.stops.length k0):=qC HW7.out.tt 0 _ rfl;have v2:w7.cell? ⟨b2,o2+q2*4,none⟩=some (qP e2.id):=cc2 q2 _ he2 0 _ rfl;clear cy cc2;go_wp2_with fail;clear hw1 d0 d1 d2 d3 d4;have HS1:Hid (∀ W,Kp B w7 W->(fun W'=>W'.cell? ⟨wr.heap.size,0,none⟩=some (.int .i64 (q2:Int))/\W'.cell? ⟨wr.heap.size,1,none⟩=some (.int .i64 c.arrive)/\W'.cell? ⟨wr.heap.size,2,none⟩=some (.int .i64 c.depart)/\W'.cell? ⟨wr.heap.size,3,none⟩=some (.bool c.board)/\W'.cell? ⟨wr.heap.size,4,none⟩=some (.bool c.alight)/\W'.cell? ⟨w.heap.size,0,none⟩=some (.slice (some ⟨b2,o2,none⟩) t.stops.length k0)/\W'.cell? ⟨b2,o2+q2*4,none⟩=some (qP e2.id)) W):=fun W k=>⟨k.cellT HX.out (by decide) (by decide) t0,k.cellT HX.out (by decide) (by decide) t1,k.cellT HX.out (by decide) (by decide) t2,k.cellT HX.out (by decide) (by decide) t3,k.cellT HX.out (by decide) (by decide) t4,k.cellT HW7.out.tt (by decide) (by decide) u2,k.cellB l2 v2⟩
             have HFL:Hid (∀ y∈([(kw 10),e2.id,(xU c.arrive).1,(xU c.depart).1,(Qh (⟨(q2:Int),c.arrive,c.depart,c.board,c.alight⟩:CallD))]:List (List UInt8)),y.length<=131072):=fun y hy=>by
              simp only[List.mem_cons,List.not_mem_nil,or_false]at hy;rcases hy with rfl|rfl|rfl|rfl|rfl
              · exact Ux ((by decide):_<=100) (by omega)
              · exact Ux ((Ux (HV.out.stops _ (Uz he2)).1 (by omega)):_<=100) (by omega)
              · exact Ux (Zj (t:=c.arrive):_<=100) (by omega)
              · exact Ux (Zj (t:=c.depart):_<=100) (by omega)
              · exact Ux (oG (⟨(q2:Int),c.arrive,c.depart,c.board,c.alight⟩:CallD):_<=100) (by omega)
             have m0:Bl w7 w7.drew:=qH (qB w7);refine wp_region_held_drew (S:=(fun W'=>W'.cell? ⟨wr.heap.size,0,none⟩=some (.int .i64 (q2:Int))/\W'.cell? ⟨wr.heap.size,1,none⟩=some (.int .i64 c.arrive)/\W'.cell? ⟨wr.heap.size,2,none⟩=some (.int .i64 c.depart)/\W'.cell? ⟨wr.heap.size,3,none⟩=some (.bool c.board)/\W'.cell? ⟨wr.heap.size,4,none⟩=some (.bool c.alight)/\W'.cell? ⟨w.heap.size,0,none⟩=some (.slice (some ⟨b2,o2,none⟩) t.stops.length k0)/\W'.cell? ⟨b2,o2+q2*4,none⟩=some (qP e2.id))) (by kernel_rfl) (HS1.out _ (Kp.of_bl (qH (qB w7)) HW7.out.size)) (fun hHeld=>?_);refine qI 0 ?_;try simp only[Act.put]
             refine qI 1 ?_;try simp only[Act.put]
             refine qI 2 ?_;try simp only[Act.put]
             refine qI 3 ?_;try simp only[Act.put]
             refine qI 4 ?_;try simp only[Act.put]
             refine qI 5 ?_;try simp only[Act.put]
             refine qI 6 ?_;try simp only[Act.put]
             refine qI 7 ?_;try simp only[Act.put]
             refine qI 8 ?_;try simp only[Act.put]
             refine qI 9 ?_;try simp only[Act.put]
             refine qI 11 ?_;try simp only[Act.put]
             refine qI 12 ?_;try simp only[Act.put]
             refine qI 14 ?_;try simp only[Act.put]
             refine zh 10 (fun KK hKK=>?_);go_simp;go_at_call 74
             refine(Wx c.arrive (xU c.arrive).1 (xU c.arrive).2 (qA rfl) _).mono ?_;rintro y1 z1 ⟨rfl,b1⟩;have m1:Bl w7 z1:=qF m0 b1;clear b1;clear hHeld;refine hKK.out _ _ ?_ (fun hHeld=>?_)
             · exact HS1.out _ (Kp.of_bl m1 HW7.out.size)
             clear hKK KK;try simp only[Act.put]
             refine zh 13 (fun KK hKK=>?_);go_simp;go_at_call 74
             refine(Wx c.depart (xU c.depart).1 (xU c.depart).2 (qA rfl) _).mono ?_;rintro y2 z2 ⟨rfl,b2⟩;have m2:Bl w7 z2:=qF m1 b2;clear b2;clear hHeld;refine hKK.out _ _ ?_ (fun hHeld=>?_)
             · exact HS1.out _ (Kp.of_bl m2 HW7.out.size)
             clear hKK KK;try simp only[Act.put]
             refine zh 15 (fun KK hKK=>?_);go_simp;go_at_call 75
             refine(NU (⟨(q2:Int),c.arrive,c.depart,c.board,c.alight⟩:CallD) _).mono ?_;rintro y3 z3 ⟨rfl,b3⟩;have m3:Bl w7 z3:=qF m2 b3;clear b3;clear hHeld;refine hKK.out _ _ ?_ (fun hHeld=>?_)
             · exact HS1.out _ (Kp.of_bl m3 HW7.out.size)
             clear hKK KK;try simp only[Act.put]
             refine zh 16 (fun KK hKK=>?_);go_simp;skip
             clear hHeld;refine hKK.out _ _ ?_ (fun hHeld=>?_)
             · exact HS1.out _ (Kp.of_bl (qE m3 _) HW7.out.size)
             clear hKK KK;try simp only[Act.put]
             refine zh 17 (fun KK hKK=>?_);go_simp;have msz:=m3.size;have bsz:=HW7.out.size;go_at_call 68
             refine(QO B gw _ [(kw 10),e2.id,(xU c.arrive).1,(xU c.depart).1,(Qh (⟨(q2:Int),c.arrive,c.depart,c.board,c.alight⟩:CallD))] (zL [(kw 10),e2.id,(xU c.arrive).1,(xU c.depart).1,(Qh (⟨(q2:Int),c.arrive,c.depart,c.board,c.alight⟩:CallD))]).1 (zL [(kw 10),e2.id,(xU c.arrive).1,(xU c.depart).1,(Qh (⟨(q2:Int),c.arrive,c.depart,c.board,c.alight⟩:CallD))]).2 (qA rfl) HFL _ _ _ (vJ (cells:=strCells) (sz:=1) (fun _=>rfl) [(kw 10),e2.id,(xU c.arrive).1,(xU c.depart).1,(Qh (⟨(q2:Int),c.arrive,c.depart,c.board,c.alight⟩:CallD))] z3 #[.string ⟨#[99,97,108,108]⟩,qP e2.id,qP (xU c.arrive).1,qP (xU c.depart).1,qP (Qh (⟨(q2:Int),c.arrive,c.depart,c.board,c.alight⟩:CallD))] 9 5 5 rfl (U3 _) (by unfold maxLen;omega) rfl) (U3 _) (by simp;omega) ((HW7.out.wr.bl m3).bl (qE (qB _) _)) hll).mono ?_;rintro y9 w9 ⟨rfl,p1,p2,p3⟩;have K9:Kp B w7 w9:=(Kp.of_bl (qE m3 _) HW7.out.size).trans ⟨p2,p3⟩;have HS9:=qA (HW7.out.put hlt p1 K9);clear p1 p2 p3 msz bsz;clear hHeld;refine hKK.out _ _ ?_ (fun hHeld=>?_)
             · exact HS1.out _ K9
             clear hKK KK;try simp only[Act.put]
             refine wpAnyH_done (by kernel_rfl) ?_ _;try change Exit.then _ _ .normal _ w9
             clear HS1 HFL K9 hll m0 m1 m2 m3;have HS10:=qA (HS9.out.row hc (f:=Qs t) (A:=A6) (show Qs t c=(zL [(kw 10),e2.id,(xU c.arrive).1,(xU c.depart).1,(Qh (⟨(q2:Int),c.arrive,c.depart,c.board,c.alight⟩:CallD))]).1 from by unfold Qs jZ;rw[hq2,Qv he2,<-hq2]));clear HS9 HS;go_wp2;go_roundw;case rel=>exact⟨j+1,⟨by omega,by go_num⟩,HS10⟩
             case measure=>simp[intOf];omega
            ·
             have HSe:=HS.out.all (by omega);have HS10:=qA (HSe.reshape (show A6++x.calls.map (Qs t)=A4++(ts.take (k+1)).flatMap (fun x=>yG t (xOf x)) by
              rw[ql hx,List.flatMap_append,<-List.append_assoc,HA5.out,<-HA6.out,List.append_assoc];simp[yG,xOf]))
             clear HSe HS;go_wp2;go_roundw;case rel=>exact⟨k+1,⟨by omega,by go_num⟩,HS10⟩
             case measure=>simp[intOf];omega
          ·
           have HSe:WS B gw w.heap.size (JQ t ts a0 k0 a1 k1 a2 k2 a3 k3 a4 k4 a5 k5 a6 k6 a7 k7 a8 k8 a9 k9) ts t w (A4++ts.flatMap (fun x=>yG t (xOf x))) wr:=by have:=HS.out;rw[U9 (by omega)]at this;exact this
           have hfin:A4++ts.flatMap (fun x=>yG t (xOf x))=A0++t.stops.map xK++t.routes.map ve++t.cals.map Qp++t.excs.map (wX t)++t.trips.flatMap (yG t):=by
            rw[<-HA4.out,<-HA3.out,<-HA2.out,<-HA1.out,HSAME.out,List.flatMap_map]
           rw[hfin]at HSe;have HF:=qA HSe;clear HSe hfin HS;go_wp2;go_end0;exact⟨rfl,HF.out.wr,HF.out.bel⟩
end Go.Proofs.YtakedkcjplfgeaaGreatDoor
