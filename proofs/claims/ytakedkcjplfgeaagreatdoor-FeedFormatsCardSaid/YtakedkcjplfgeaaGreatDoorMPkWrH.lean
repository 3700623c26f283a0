/- Contracts, proved. Conditions: each contract's own. -/
import Derived.Test.YtakedkcjplfgeaaGreatDoorMPkWrB
import Derived.Test.YtakedkcjplfgeaaGreatDoorMPkRecA
set_option maxRecDepth 1000000
set_option maxHeartbeats 32000000
namespace Go.Proofs.YtakedkcjplfgeaaGreatDoor
open Go.RowKit
open Frq Thr Tt Num Clk Dat Fld
theorem NV (B gw:Nat) (V:TtV) (ts:List TripD) (t:TtD) (v:Hid (AY t)) (lim:Hid (Rj t)) (hlt:0<B) (A0:List (List UInt8)) (lA0:A0.length<=20000) (w:World) (rd:yA B w V ts t) (wat:Ea B gw A0 w) (nm:yS w) (hB:B<=w.heap.size):
  Calls Tryz.prog 31 #[.pointer (some ⟨gw,0,none⟩),JP V t] w fun q w'=>q= .returned (.tuple #[])/\Ea B gw (eQ t A0) w'/\Below B w w':=by
 have HV:=v;have HSAME:=qA rd.same;have hlen5:ts.length=t.trips.length:=by have:=congrArg List.length rd.same;rw[U4]at this;exact this.symm
 have HLEN5:=qA hlen5;obtain⟨L0,L1,L2,L3,L4,L5,L6,L7,L8,L9,L10⟩:=lim.out;have HL10:=qA L10;have RD:=qA rd;obtain⟨v0,v1,v2,v3,v4,v5,v6,v7,v8,v9⟩:=V;obtain⟨a0,k0,(rfl:v0=_),-,-⟩:=rd.stops.val;obtain⟨a1,k1,(rfl:v1=_),-,-⟩:=rd.routes.val;obtain⟨a2,k2,(rfl:v2=_),-,-⟩:=rd.cals.val;obtain⟨a3,k3,(rfl:v3=_),-,-⟩:=rd.excs.val;obtain⟨a4,k4,(rfl:v4=_),-,-⟩:=rd.trips.sl.val;obtain⟨a5,k5,(rfl:v5=_),-,-⟩:=rd.freqs.val;obtain⟨a6,k6,(rfl:v6=_),-,-⟩:=rd.thrus.val;obtain⟨a7,k7,(rfl:v7=_),-,-⟩:=rd.guars.val;obtain⟨a8,k8,(rfl:v8=_),-,-⟩:=rd.paths.val;obtain⟨a9,k9,(rfl:v9=_),-,-⟩:=rd.prods.val;have hts:ts.length<=256:=by omega
 clear rd L10 v lim hlen5;unfold JP;simp only[U4]at RD ⊢;change Hid (yA B w (JQ t ts a0 k0 a1 k1 a2 k2 a3 k3 a4 k4 a5 k5 a6 k6 a7 k7 a8 k8 a9 k9) ts t)at RD;obtain⟨w0,hw0⟩: ∃ w0,w.alloc (.cells (Qa (JQ t ts a0 k0 a1 k1 a2 k2 a3 k3 a4 k4 a5 k5 a6 k6 a7 k7 a8 k8 a9 k9) t.fares) 36)=w0:=⟨_,rfl⟩;have b0:Bl w w0:=by rw[<-hw0];exact qE (qB _) _
 have HS0:Hid (WS B gw w.heap.size (JQ t ts a0 k0 a1 k1 a2 k2 a3 k3 a4 k4 a5 k5 a6 k6 a7 k7 a8 k8 a9 k9) ts t w A0 w0):=⟨RD.out.bl b0 hB,by rw[<-hw0];exact heap_alloc_new w _,wat.bl b0,nm.bl b0,b0.mono hB,Ux hB b0.size⟩;clear b0 wat nm RD;have HS:=HS0;clear HS0;simp only[Qa]at hw0;have uu:w0.cell? ⟨w.heap.size,5,none⟩=some (.slice a5 t.freqs.length k5):=qC HS.out.tt 5 _ rfl;go_enter Tryz.func31,Tryz.ntmps31
 go_wp2_with fail;clear hw0 uu;go_loopw [20] (fun i wr=> ∃ k:Nat,(k<=t.freqs.length/\i= .int .i64 k)/\Hid (WS B gw w.heap.size (JQ t ts a0 k0 a1 k1 a2 k2 a3 k3 a4 k4 a5 k5 a6 k6 a7 k7 a8 k8 a9 k9) ts t w (A0++(t.freqs.take k).map (Q5 t)) wr)) (fun i _=>t.freqs.length-(intOf i).toNat)
 case atStart=>exact⟨0,⟨qAD _,rfl⟩,by show WS B gw w.heap.size (JQ t ts a0 k0 a1 k1 a2 k2 a3 k3 a4 k4 a5 k5 a6 k6 a7 k7 a8 k8 a9 k9) ts t w _ _;rw[List.take_zero,List.map_nil,List.append_nil];exact HS.out⟩
 case round=>
  clear HS;obtain⟨k,⟨hk,rfl⟩,HS⟩:=hrel;by_cases hlx:k<t.freqs.length
  ·
   obtain⟨x,hx⟩: ∃ x,t.freqs[k]? =some x:=⟨_,U2 hlx⟩;obtain⟨bx,ox,rfl,lx,cx⟩:=HS.out.rd.freqs.openB (by first|omega|(rw[U4];omega));have hxm:=Uz hx;have hkI:(k:Int)<(t.freqs.length:Int):=by omega
   have hll:(A0++(t.freqs.take k).map (Q5 t)).length<=1000000:=by have:=xC A0 t.freqs (Q5 t) k;omega
   obtain⟨hc0,⟨z0,z1⟩,⟨g0,g1⟩,⟨f0,f1⟩⟩:=HV.out.freqs x hxm;rw[<-HLEN5.out]at hc0;obtain⟨q0,e0,hq0,he0⟩:=Qm (l:=ts) hc0;have li0:(q0:Int)<(ts.length:Int):=by have:=(Uw.1 he0).1;omega
   have li0n:q0<ts.length:=(Uw.1 he0).1;have hxe:(t.freqs.map zS)[k]? =some (zS x):=by rw[List.getElem?_map,hx];rfl
   have d0:wr.cell? ⟨bx,ox+k*4,none⟩=some (.int .i64 (q0:Int)):=by rw[<-hq0];exact cx k _ hxe 0 _ rfl
   have d1:wr.cell? ⟨bx,ox+k*4+1,none⟩=some (.int .i64 x.frm):=by exact cx k _ hxe 1 _ rfl
   have d2:wr.cell? ⟨bx,ox+k*4+2,none⟩=some (.int .i64 x.to):=by exact cx k _ hxe 2 _ rfl
   have d3:wr.cell? ⟨bx,ox+k*4+3,none⟩=some (.int .i64 x.every):=by exact cx k _ hxe 3 _ rfl
   obtain⟨w1,hw1⟩: ∃ w1,wr.alloc (.cells #[.int .i64 (q0:Int), .int .i64 x.frm, .int .i64 x.to, .int .i64 x.every] 126)=w1:=⟨_,rfl⟩;have HX:=qA (show w1.heap[wr.heap.size]? =some (.cells #[.int .i64 (q0:Int), .int .i64 x.frm, .int .i64 x.to, .int .i64 x.every] 126 (0,0)) by rw[<-hw1];exact heap_alloc_new wr _);have b1:Bl wr w1:=by rw[<-hw1];exact qE (qB _) _
   have HW1:=qA (HS.out.bl hlt b1);have t0:w1.cell? ⟨wr.heap.size,0,none⟩=some (.int .i64 (q0:Int)):=qC HX.out 0 _ rfl;have t1:w1.cell? ⟨wr.heap.size,1,none⟩=some (.int .i64 x.frm):=qC HX.out 1 _ rfl;have t2:w1.cell? ⟨wr.heap.size,2,none⟩=some (.int .i64 x.to):=qC HX.out 2 _ rfl;have t3:w1.cell? ⟨wr.heap.size,3,none⟩=some (.int .i64 x.every):=qC HX.out 3 _ rfl;clear b1;obtain⟨b0,o0,rfl,l0,cc0⟩:=HW1.out.rd.trips.sl.openB (by omega);have u0:w1.cell? ⟨w.heap.size,4,none⟩=some (.slice (some ⟨b0,o0,none⟩) ts.length k4):=qC HW1.out.tt 4 _ rfl;have v0:w1.cell? ⟨b0,o0+q0*5,none⟩=some (.string e0.id):=cc0 q0 _ he0 0 _ rfl;clear cx cc0;go_wp2_with fail;clear hw1 d0 d1 d2 d3;have HS1:Hid (∀ W,Kp B w1 W->(fun W'=>W'.cell? ⟨wr.heap.size,0,none⟩=some (.int .i64 (q0:Int))/\W'.cell? ⟨wr.heap.size,1,none⟩=some (.int .i64 x.frm)/\W'.cell? ⟨wr.heap.size,2,none⟩=some (.int .i64 x.to)/\W'.cell? ⟨wr.heap.size,3,none⟩=some (.int .i64 x.every)/\W'.cell? ⟨w.heap.size,4,none⟩=some (.slice (some ⟨b0,o0,none⟩) ts.length k4)/\W'.cell? ⟨b0,o0+q0*5,none⟩=some (.string e0.id)) W):=fun W k=>⟨k.cellT HX.out (by decide) (by decide) t0,k.cellT HX.out (by decide) (by decide) t1,k.cellT HX.out (by decide) (by decide) t2,k.cellT HX.out (by decide) (by decide) t3,k.cellT HW1.out.tt (by decide) (by decide) u0,k.cellB l0 v0⟩
   have HFL:Hid (∀ y∈([(kw 5),e0.id.data.toList,(xU x.frm).1,(xU x.to).1,(jc x.every)]:List (List UInt8)),y.length<=131072):=fun y hy=>by
    simp only[List.mem_cons,List.not_mem_nil,or_false]at hy;rcases hy with rfl|rfl|rfl|rfl|rfl
    · exact Ux ((by decide):_<=100) (by omega)
    · exact Ux ((Ux (HV.out.trips (xOf e0) (by rw[HSAME.out];exact List.mem_map_of_mem (Uz he0))).1 (by omega)):_<=100) (by omega)
    · exact Ux (Zj (t:=x.frm):_<=100) (by omega)
    · exact Ux (Zj (t:=x.to):_<=100) (by omega)
    · exact Ux (Zh (n:=x.every):_<=100) (by omega)
   have m0:Bl w1 w1.drew:=qH (qB w1);refine wp_region_held_drew (S:=(fun W'=>W'.cell? ⟨wr.heap.size,0,none⟩=some (.int .i64 (q0:Int))/\W'.cell? ⟨wr.heap.size,1,none⟩=some (.int .i64 x.frm)/\W'.cell? ⟨wr.heap.size,2,none⟩=some (.int .i64 x.to)/\W'.cell? ⟨wr.heap.size,3,none⟩=some (.int .i64 x.every)/\W'.cell? ⟨w.heap.size,4,none⟩=some (.slice (some ⟨b0,o0,none⟩) ts.length k4)/\W'.cell? ⟨b0,o0+q0*5,none⟩=some (.string e0.id))) (by kernel_rfl) (HS1.out _ (Kp.of_bl (qH (qB w1)) HW1.out.size)) (fun hHeld=>?_);refine qI 0 ?_;try simp only[Act.put]
   refine qI 1 ?_;try simp only[Act.put]
   refine qI 2 ?_;try simp only[Act.put]
   refine qI 3 ?_;try simp only[Act.put]
   refine qI 4 ?_;try simp only[Act.put]
   refine qI 5 ?_;try simp only[Act.put]
   refine qI 6 ?_;try simp only[Act.put]
   refine qI 7 ?_;try simp only[Act.put]
   refine qI 8 ?_;try simp only[Act.put]
   refine qI 9 ?_;try simp only[Act.put]
   refine qI 11 ?_;try simp only[Act.put]
   refine qI 12 ?_;try simp only[Act.put]
   refine qI 14 ?_;try simp only[Act.put]
   refine qI 15 ?_;try simp only[Act.put]
   refine zh 10 (fun KK hKK=>?_);go_simp;go_at_call 74
   refine(Wx x.frm (xU x.frm).1 (xU x.frm).2 (qA rfl) _).mono ?_;rintro y1 z1 ⟨rfl,b1⟩;have m1:Bl w1 z1:=qF m0 b1;clear b1;clear hHeld;refine hKK.out _ _ ?_ (fun hHeld=>?_)
   · exact HS1.out _ (Kp.of_bl m1 HW1.out.size)
   clear hKK KK;try simp only[Act.put]
   refine zh 13 (fun KK hKK=>?_);go_simp;go_at_call 74
   refine(Wx x.to (xU x.to).1 (xU x.to).2 (qA rfl) _).mono ?_;rintro y2 z2 ⟨rfl,b2⟩;have m2:Bl w1 z2:=qF m1 b2;clear b2;clear hHeld;refine hKK.out _ _ ?_ (fun hHeld=>?_)
   · exact HS1.out _ (Kp.of_bl m2 HW1.out.size)
   clear hKK KK;try simp only[Act.put]
   refine zh 16 (fun KK hKK=>?_);go_simp;go_at_call 76
   refine(lF x.every (jc x.every) (Ck.gW x.every).2 (qA (Prod.ext (Yx x.every) rfl)) _).mono ?_;rintro y3 z3 ⟨rfl,b3⟩;have m3:Bl w1 z3:=qF m2 b3;clear b3;clear hHeld;refine hKK.out _ _ ?_ (fun hHeld=>?_)
   · exact HS1.out _ (Kp.of_bl m3 HW1.out.size)
   clear hKK KK;try simp only[Act.put]
   refine zh 17 (fun KK hKK=>?_);go_simp;skip
   clear hHeld;refine hKK.out _ _ ?_ (fun hHeld=>?_)
   · exact HS1.out _ (Kp.of_bl (qE m3 _) HW1.out.size)
   clear hKK KK;try simp only[Act.put]
   refine zh 18 (fun KK hKK=>?_);go_simp;have msz:=m3.size;have bsz:=HW1.out.size;go_at_call 68
   refine(QO B gw _ [(kw 5),e0.id.data.toList,(xU x.frm).1,(xU x.to).1,(jc x.every)] (zL [(kw 5),e0.id.data.toList,(xU x.frm).1,(xU x.to).1,(jc x.every)]).1 (zL [(kw 5),e0.id.data.toList,(xU x.frm).1,(xU x.to).1,(jc x.every)]).2 (qA rfl) HFL _ _ _ (vJ (cells:=strCells) (sz:=1) (fun _=>rfl) [(kw 5),e0.id.data.toList,(xU x.frm).1,(xU x.to).1,(jc x.every)] z3 #[.string ⟨#[102,114,101,113,117,101,110,99,121]⟩, .string e0.id,qP (xU x.frm).1,qP (xU x.to).1,qP (jc x.every)] 9 5 5 rfl (U3 _) (by unfold maxLen;omega) rfl) (U3 _) (by simp;omega) ((HW1.out.wr.bl m3).bl (qE (qB _) _)) hll).mono ?_;rintro y9 w9 ⟨rfl,p1,p2,p3⟩;have K9:Kp B w1 w9:=(Kp.of_bl (qE m3 _) HW1.out.size).trans ⟨p2,p3⟩;have HS9:=qA (HW1.out.put hlt p1 K9);clear p1 p2 p3 msz bsz;clear hHeld;refine hKK.out _ _ ?_ (fun hHeld=>?_)
   · exact HS1.out _ K9
   clear hKK KK;try simp only[Act.put]
   refine wpAnyH_done (by kernel_rfl) ?_ _;try change Exit.then _ _ .normal _ w9
   clear HS1 HFL K9 hll m0 m1 m2 m3;have HS10:=qA (HS9.out.row hx (f:=(Q5 t)) (A:=A0) (show(Q5 t) x=(zL [(kw 5),e0.id.data.toList,(xU x.frm).1,(xU x.to).1,(jc x.every)]).1 from by unfold Q5 jZ;rw[hq0,JE HSAME.out he0]));clear HS9 HS;go_wp2;go_roundw;case rel=>exact⟨k+1,⟨by omega,by go_num⟩,HS10⟩
   case measure=>simp[intOf];omega
  ·
   skip
   have HSe:WS B gw w.heap.size (JQ t ts a0 k0 a1 k1 a2 k2 a3 k3 a4 k4 a5 k5 a6 k6 a7 k7 a8 k8 a9 k9) ts t w (A0++t.freqs.map (Q5 t)) wr:=by have:=HS.out;rw[U9 (by omega)]at this;exact this
   obtain⟨A1,hA1⟩: ∃ A',A0++t.freqs.map (Q5 t)=A':=⟨_,rfl⟩;rw[hA1]at HSe;have HA1:=qA hA1;have lA1:A1.length<=20064:=by rw[<-hA1,U1,U4];omega
   clear HS hA1;have HS:=qA HSe;clear HSe;have uu:wr.cell? ⟨w.heap.size,6,none⟩=some (.slice a6 t.thrus.length k6):=qC HS.out.tt 6 _ rfl;go_wp2_with fail;clear uu;go_loopw [47] (fun i wr=> ∃ k:Nat,(k<=t.thrus.length/\i= .int .i64 k)/\Hid (WS B gw w.heap.size (JQ t ts a0 k0 a1 k1 a2 k2 a3 k3 a4 k4 a5 k5 a6 k6 a7 k7 a8 k8 a9 k9) ts t w (A1++(t.thrus.take k).map (Q8 t)) wr)) (fun i _=>t.thrus.length-(intOf i).toNat)
   case atStart=>exact⟨0,⟨qAD _,rfl⟩,by show WS B gw w.heap.size (JQ t ts a0 k0 a1 k1 a2 k2 a3 k3 a4 k4 a5 k5 a6 k6 a7 k7 a8 k8 a9 k9) ts t w _ _;rw[List.take_zero,List.map_nil,List.append_nil];exact HS.out⟩
   case round=>
    clear HS;obtain⟨k,⟨hk,rfl⟩,HS⟩:=hrel;by_cases hlx:k<t.thrus.length
    ·
     obtain⟨x,hx⟩: ∃ x,t.thrus[k]? =some x:=⟨_,U2 hlx⟩;obtain⟨bx,ox,rfl,lx,cx⟩:=HS.out.rd.thrus.openB (by first|omega|(rw[U4];omega));have hxm:=Uz hx;have hkI:(k:Int)<(t.thrus.length:Int):=by omega
     have hll:(A1++(t.thrus.take k).map (Q8 t)).length<=1000000:=by have:=xC A1 t.thrus (Q8 t) k;omega
     obtain⟨hc0,hc1⟩:=HV.out.thrus x hxm;rw[<-HLEN5.out]at hc0 hc1;obtain⟨q0,e0,hq0,he0⟩:=Qm (l:=ts) hc0;have li0:(q0:Int)<(ts.length:Int):=by have:=(Uw.1 he0).1;omega
     have li0n:q0<ts.length:=(Uw.1 he0).1;obtain⟨q1,e1,hq1,he1⟩:=Qm (l:=ts) hc1;have li1:(q1:Int)<(ts.length:Int):=by have:=(Uw.1 he1).1;omega
     have li1n:q1<ts.length:=(Uw.1 he1).1;have hxe:(t.thrus.map ja)[k]? =some (ja x):=by rw[List.getElem?_map,hx];rfl
     have d0:wr.cell? ⟨bx,ox+k*2,none⟩=some (.int .i64 (q0:Int)):=by rw[<-hq0];exact cx k _ hxe 0 _ rfl
     have d1:wr.cell? ⟨bx,ox+k*2+1,none⟩=some (.int .i64 (q1:Int)):=by rw[<-hq1];exact cx k _ hxe 1 _ rfl
     obtain⟨w1,hw1⟩: ∃ w1,wr.alloc (.cells #[.int .i64 (q0:Int), .int .i64 (q1:Int)] 128)=w1:=⟨_,rfl⟩;have HX:=qA (show w1.heap[wr.heap.size]? =some (.cells #[.int .i64 (q0:Int), .int .i64 (q1:Int)] 128 (0,0)) by rw[<-hw1];exact heap_alloc_new wr _);have b1:Bl wr w1:=by rw[<-hw1];exact qE (qB _) _
     have HW1:=qA (HS.out.bl hlt b1);have t0:w1.cell? ⟨wr.heap.size,0,none⟩=some (.int .i64 (q0:Int)):=qC HX.out 0 _ rfl;have t1:w1.cell? ⟨wr.heap.size,1,none⟩=some (.int .i64 (q1:Int)):=qC HX.out 1 _ rfl;clear b1;obtain⟨b0,o0,rfl,l0,cc0⟩:=HW1.out.rd.trips.sl.openB (by omega);have u0:w1.cell? ⟨w.heap.size,4,none⟩=some (.slice (some ⟨b0,o0,none⟩) ts.length k4):=qC HW1.out.tt 4 _ rfl;have v0:w1.cell? ⟨b0,o0+q0*5,none⟩=some (.string e0.id):=cc0 q0 _ he0 0 _ rfl;have v1:w1.cell? ⟨b0,o0+q1*5,none⟩=some (.string e1.id):=cc0 q1 _ he1 0 _ rfl;clear cx cc0;go_wp2_with fail;clear hw1 d0 d1;have HS1:Hid (∀ W,Kp B w1 W->(fun W'=>W'.cell? ⟨wr.heap.size,0,none⟩=some (.int .i64 (q0:Int))/\W'.cell? ⟨wr.heap.size,1,none⟩=some (.int .i64 (q1:Int))/\W'.cell? ⟨w.heap.size,4,none⟩=some (.slice (some ⟨b0,o0,none⟩) ts.length k4)/\W'.cell? ⟨b0,o0+q0*5,none⟩=some (.string e0.id)/\W'.cell? ⟨b0,o0+q1*5,none⟩=some (.string e1.id)) W):=fun W k=>⟨k.cellT HX.out (by decide) (by decide) t0,k.cellT HX.out (by decide) (by decide) t1,k.cellT HW1.out.tt (by decide) (by decide) u0,k.cellB l0 v0,k.cellB l0 v1⟩
     have HFL:Hid (∀ y∈([(kw 6),e0.id.data.toList,e1.id.data.toList]:List (List UInt8)),y.length<=131072):=fun y hy=>by
      simp only[List.mem_cons,List.not_mem_nil,or_false]at hy;rcases hy with rfl|rfl|rfl
      · exact Ux ((by decide):_<=100) (by omega)
      · exact Ux ((Ux (HV.out.trips (xOf e0) (by rw[HSAME.out];exact List.mem_map_of_mem (Uz he0))).1 (by omega)):_<=100) (by omega)
      · exact Ux ((Ux (HV.out.trips (xOf e1) (by rw[HSAME.out];exact List.mem_map_of_mem (Uz he1))).1 (by omega)):_<=100) (by omega)
     have m0:Bl w1 w1.drew:=qH (qB w1);refine wp_region_held_drew (S:=(fun W'=>W'.cell? ⟨wr.heap.size,0,none⟩=some (.int .i64 (q0:Int))/\W'.cell? ⟨wr.heap.size,1,none⟩=some (.int .i64 (q1:Int))/\W'.cell? ⟨w.heap.size,4,none⟩=some (.slice (some ⟨b0,o0,none⟩) ts.length k4)/\W'.cell? ⟨b0,o0+q0*5,none⟩=some (.string e0.id)/\W'.cell? ⟨b0,o0+q1*5,none⟩=some (.string e1.id))) (by kernel_rfl) (HS1.out _ (Kp.of_bl (qH (qB w1)) HW1.out.size)) (fun hHeld=>?_);refine qI 0 ?_;try simp only[Act.put]
     refine qI 1 ?_;try simp only[Act.put]
     refine qI 2 ?_;try simp only[Act.put]
     refine qI 3 ?_;try simp only[Act.put]
     refine qI 4 ?_;try simp only[Act.put]
     refine qI 5 ?_;try simp only[Act.put]
     refine qI 6 ?_;try simp only[Act.put]
     refine qI 7 ?_;try simp only[Act.put]
     refine qI 8 ?_;try simp only[Act.put]
     refine qI 9 ?_;try simp only[Act.put]
     refine qI 10 ?_;try simp only[Act.put]
     refine qI 11 ?_;try simp only[Act.put]
     refine qI 12 ?_;try simp only[Act.put]
     refine qI 13 ?_;try simp only[Act.put]
     refine qI 14 ?_;try simp only[Act.put]
     refine zh 15 (fun KK hKK=>?_);go_simp;skip
     clear hHeld;refine hKK.out _ _ ?_ (fun hHeld=>?_)
     · exact HS1.out _ (Kp.of_bl (qE m0 _) HW1.out.size)
     clear hKK KK;try simp only[Act.put]
     refine zh 16 (fun KK hKK=>?_);go_simp;have msz:=m0.size;have bsz:=HW1.out.size;go_at_call 68
     refine(QO B gw _ [(kw 6),e0.id.data.toList,e1.id.data.toList] (zL [(kw 6),e0.id.data.toList,e1.id.data.toList]).1 (zL [(kw 6),e0.id.data.toList,e1.id.data.toList]).2 (qA rfl) HFL _ _ _ (vJ (cells:=strCells) (sz:=1) (fun _=>rfl) [(kw 6),e0.id.data.toList,e1.id.data.toList] w1.drew #[.string ⟨#[116,104,114,111,117,103,104]⟩, .string e0.id, .string e1.id] 9 3 3 rfl (U3 _) (by unfold maxLen;omega) rfl) (U3 _) (by simp;omega) ((HW1.out.wr.bl m0).bl (qE (qB _) _)) hll).mono ?_;rintro y9 w9 ⟨rfl,p1,p2,p3⟩;have K9:Kp B w1 w9:=(Kp.of_bl (qE m0 _) HW1.out.size).trans ⟨p2,p3⟩;have HS9:=qA (HW1.out.put hlt p1 K9);clear p1 p2 p3 msz bsz;clear hHeld;refine hKK.out _ _ ?_ (fun hHeld=>?_)
     · exact HS1.out _ K9
     clear hKK KK;try simp only[Act.put]
     refine wpAnyH_done (by kernel_rfl) ?_ _;try change Exit.then _ _ .normal _ w9
     clear HS1 HFL K9 hll m0;have HS10:=qA (HS9.out.row hx (f:=(Q8 t)) (A:=A1) (show(Q8 t) x=(zL [(kw 6),e0.id.data.toList,e1.id.data.toList]).1 from by unfold Q8 jZ;rw[hq0,JE HSAME.out he0,hq1,JE HSAME.out he1]));clear HS9 HS;go_wp2;go_roundw;case rel=>exact⟨k+1,⟨by omega,by go_num⟩,HS10⟩
     case measure=>simp[intOf];omega
    ·
     skip
     have HSe:WS B gw w.heap.size (JQ t ts a0 k0 a1 k1 a2 k2 a3 k3 a4 k4 a5 k5 a6 k6 a7 k7 a8 k8 a9 k9) ts t w (A1++t.thrus.map (Q8 t)) wr:=by have:=HS.out;rw[U9 (by omega)]at this;exact this
     obtain⟨A2,hA2⟩: ∃ A',A1++t.thrus.map (Q8 t)=A':=⟨_,rfl⟩;rw[hA2]at HSe;have HA2:=qA hA2;have lA2:A2.length<=20192:=by rw[<-hA2,U1,U4];omega
     clear HS hA2;have HS:=qA HSe;clear HSe;have uu:wr.cell? ⟨w.heap.size,7,none⟩=some (.slice a7 t.guars.length k7):=qC HS.out.tt 7 _ rfl;go_wp2_with fail;clear uu;go_loopw [72] (fun i wr=> ∃ k:Nat,(k<=t.guars.length/\i= .int .i64 k)/\Hid (WS B gw w.heap.size (JQ t ts a0 k0 a1 k1 a2 k2 a3 k3 a4 k4 a5 k5 a6 k6 a7 k7 a8 k8 a9 k9) ts t w (A2++(t.guars.take k).map (Je t)) wr)) (fun i _=>t.guars.length-(intOf i).toNat)
     case atStart=>exact⟨0,⟨qAD _,rfl⟩,by show WS B gw w.heap.size (JQ t ts a0 k0 a1 k1 a2 k2 a3 k3 a4 k4 a5 k5 a6 k6 a7 k7 a8 k8 a9 k9) ts t w _ _;rw[List.take_zero,List.map_nil,List.append_nil];exact HS.out⟩
     case round=>
      clear HS;obtain⟨k,⟨hk,rfl⟩,HS⟩:=hrel;by_cases hlx:k<t.guars.length
      ·
       obtain⟨x,hx⟩: ∃ x,t.guars[k]? =some x:=⟨_,U2 hlx⟩;obtain⟨bx,ox,rfl,lx,cx⟩:=HS.out.rd.guars.openB (by first|omega|(rw[U4];omega));have hxm:=Uz hx;have hkI:(k:Int)<(t.guars.length:Int):=by omega
       have hll:(A2++(t.guars.take k).map (Je t)).length<=1000000:=by have:=xC A2 t.guars (Je t) k;omega
       obtain⟨hc0,hc1,hc2⟩:=HV.out.guars x hxm;rw[<-HLEN5.out]at hc0 hc1;obtain⟨q0,e0,hq0,he0⟩:=Qm (l:=ts) hc0;have li0:(q0:Int)<(ts.length:Int):=by have:=(Uw.1 he0).1;omega
       have li0n:q0<ts.length:=(Uw.1 he0).1;obtain⟨q1,e1,hq1,he1⟩:=Qm (l:=ts) hc1;have li1:(q1:Int)<(ts.length:Int):=by have:=(Uw.1 he1).1;omega
       have li1n:q1<ts.length:=(Uw.1 he1).1;obtain⟨q2,e2,hq2,he2⟩:=Qm (l:=t.stops) hc2;have li2:(q2:Int)<(t.stops.length:Int):=by have:=(Uw.1 he2).1;omega
       have li2n:q2<t.stops.length:=(Uw.1 he2).1;have d0:wr.cell? ⟨bx,ox+k*3,none⟩=some (.int .i64 (q0:Int)):=by rw[<-hq0];exact cx k _ hx 0 _ rfl
       have d1:wr.cell? ⟨bx,ox+k*3+1,none⟩=some (.int .i64 (q1:Int)):=by rw[<-hq1];exact cx k _ hx 1 _ rfl
       have d2:wr.cell? ⟨bx,ox+k*3+2,none⟩=some (.int .i64 (q2:Int)):=by rw[<-hq2];exact cx k _ hx 2 _ rfl
       obtain⟨w1,hw1⟩: ∃ w1,wr.alloc (.cells #[.int .i64 (q0:Int), .int .i64 (q1:Int), .int .i64 (q2:Int)] 130)=w1:=⟨_,rfl⟩;have HX:=qA (show w1.heap[wr.heap.size]? =some (.cells #[.int .i64 (q0:Int), .int .i64 (q1:Int), .int .i64 (q2:Int)] 130 (0,0)) by rw[<-hw1];exact heap_alloc_new wr _);have b1:Bl wr w1:=by rw[<-hw1];exact qE (qB _) _
       have HW1:=qA (HS.out.bl hlt b1);have t0:w1.cell? ⟨wr.heap.size,0,none⟩=some (.int .i64 (q0:Int)):=qC HX.out 0 _ rfl;have t1:w1.cell? ⟨wr.heap.size,1,none⟩=some (.int .i64 (q1:Int)):=qC HX.out 1 _ rfl;have t2:w1.cell? ⟨wr.heap.size,2,none⟩=some (.int .i64 (q2:Int)):=qC HX.out 2 _ rfl;clear b1;obtain⟨b0,o0,rfl,l0,cc0⟩:=HW1.out.rd.trips.sl.openB (by omega);have u0:w1.cell? ⟨w.heap.size,4,none⟩=some (.slice (some ⟨b0,o0,none⟩) ts.length k4):=qC HW1.out.tt 4 _ rfl;have v0:w1.cell? ⟨b0,o0+q0*5,none⟩=some (.string e0.id):=cc0 q0 _ he0 0 _ rfl;have v1:w1.cell? ⟨b0,o0+q1*5,none⟩=some (.string e1.id):=cc0 q1 _ he1 0 _ rfl;obtain⟨b2,o2,rfl,l2,cc2⟩:=HW1.out.rd.stops.openB (by omega);have u2:w1.cell? ⟨w.heap.size,0,none⟩=some (.slice (some ⟨b2,o2,none⟩) t.stops.length k0):=qC HW1.out.tt 0 _ rfl;have v2:w1.cell? ⟨b2,o2+q2*4,none⟩=some (qP e2.id):=cc2 q2 _ he2 0 _ rfl;clear cx cc0 cc2;go_wp2_with fail;clear hw1 d0 d1 d2;have HS1:Hid (∀ W,Kp B w1 W->(fun W'=>W'.cell? ⟨wr.heap.size,0,none⟩=some (.int .i64 (q0:Int))/\W'.cell? ⟨wr.heap.size,1,none⟩=some (.int .i64 (q1:Int))/\W'.cell? ⟨wr.heap.size,2,none⟩=some (.int .i64 (q2:Int))/\W'.cell? ⟨w.heap.size,4,none⟩=some (.slice (some ⟨b0,o0,none⟩) ts.length k4)/\W'.cell? ⟨b0,o0+q0*5,none⟩=some (.string e0.id)/\W'.cell? ⟨b0,o0+q1*5,none⟩=some (.string e1.id)/\W'.cell? ⟨w.heap.size,0,none⟩=some (.slice (some ⟨b2,o2,none⟩) t.stops.length k0)/\W'.cell? ⟨b2,o2+q2*4,none⟩=some (qP e2.id)) W):=fun W k=>⟨k.cellT HX.out (by decide) (by decide) t0,k.cellT HX.out (by decide) (by decide) t1,k.cellT HX.out (by decide) (by decide) t2,k.cellT HW1.out.tt (by decide) (by decide) u0,k.cellB l0 v0,k.cellB l0 v1,k.cellT HW1.out.tt (by decide) (by decide) u2,k.cellB l2 v2⟩
       have HFL:Hid (∀ y∈([(kw 7),e0.id.data.toList,e1.id.data.toList,e2.id]:List (List UInt8)),y.length<=131072):=fun y hy=>by
        simp only[List.mem_cons,List.not_mem_nil,or_false]at hy;rcases hy with rfl|rfl|rfl|rfl
        · exact Ux ((by decide):_<=100) (by omega)
        · exact Ux ((Ux (HV.out.trips (xOf e0) (by rw[HSAME.out];exact List.mem_map_of_mem (Uz he0))).1 (by omega)):_<=100) (by omega)
        · exact Ux ((Ux (HV.out.trips (xOf e1) (by rw[HSAME.out];exact List.mem_map_of_mem (Uz he1))).1 (by omega)):_<=100) (by omega)
        · exact Ux ((Ux (HV.out.stops _ (Uz he2)).1 (by omega)):_<=100) (by omega)
       have m0:Bl w1 w1.drew:=qH (qB w1);refine wp_region_held_drew (S:=(fun W'=>W'.cell? ⟨wr.heap.size,0,none⟩=some (.int .i64 (q0:Int))/\W'.cell? ⟨wr.heap.size,1,none⟩=some (.int .i64 (q1:Int))/\W'.cell? ⟨wr.heap.size,2,none⟩=some (.int .i64 (q2:Int))/\W'.cell? ⟨w.heap.size,4,none⟩=some (.slice (some ⟨b0,o0,none⟩) ts.length k4)/\W'.cell? ⟨b0,o0+q0*5,none⟩=some (.string e0.id)/\W'.cell? ⟨b0,o0+q1*5,none⟩=some (.string e1.id)/\W'.cell? ⟨w.heap.size,0,none⟩=some (.slice (some ⟨b2,o2,none⟩) t.stops.length k0)/\W'.cell? ⟨b2,o2+q2*4,none⟩=some (qP e2.id))) (by kernel_rfl) (HS1.out _ (Kp.of_bl (qH (qB w1)) HW1.out.size)) (fun hHeld=>?_);refine qI 0 ?_;try simp only[Act.put]
       refine qI 1 ?_;try simp only[Act.put]
       refine qI 2 ?_;try simp only[Act.put]
       refine qI 3 ?_;try simp only[Act.put]
       refine qI 4 ?_;try simp only[Act.put]
       refine qI 5 ?_;try simp only[Act.put]
       refine qI 6 ?_;try simp only[Act.put]
       refine qI 7 ?_;try simp only[Act.put]
       refine qI 8 ?_;try simp only[Act.put]
       refine qI 9 ?_;try simp only[Act.put]
       refine qI 10 ?_;try simp only[Act.put]
       refine qI 11 ?_;try simp only[Act.put]
       refine qI 12 ?_;try simp only[Act.put]
       refine qI 13 ?_;try simp only[Act.put]
       refine qI 14 ?_;try simp only[Act.put]
       refine qI 15 ?_;try simp only[Act.put]
       refine qI 16 ?_;try simp only[Act.put]
       refine qI 17 ?_;try simp only[Act.put]
       refine qI 18 ?_;try simp only[Act.put]
       refine qI 19 ?_;try simp only[Act.put]
       refine qI 20 ?_;try simp only[Act.put]
       refine qI 21 ?_;try simp only[Act.put]
       refine zh 22 (fun KK hKK=>?_);go_simp;skip
       clear hHeld;refine hKK.out _ _ ?_ (fun hHeld=>?_)
       · exact HS1.out _ (Kp.of_bl (qE m0 _) HW1.out.size)
       clear hKK KK;try simp only[Act.put]
       refine zh 23 (fun KK hKK=>?_);go_simp;have msz:=m0.size;have bsz:=HW1.out.size;go_at_call 68
       refine(QO B gw _ [(kw 7),e0.id.data.toList,e1.id.data.toList,e2.id] (zL [(kw 7),e0.id.data.toList,e1.id.data.toList,e2.id]).1 (zL [(kw 7),e0.id.data.toList,e1.id.data.toList,e2.id]).2 (qA rfl) HFL _ _ _ (vJ (cells:=strCells) (sz:=1) (fun _=>rfl) [(kw 7),e0.id.data.toList,e1.id.data.toList,e2.id] w1.drew #[.string ⟨#[103,117,97,114,97,110,116,101,101]⟩, .string e0.id, .string e1.id,qP e2.id] 9 4 4 rfl (U3 _) (by unfold maxLen;omega) rfl) (U3 _) (by simp;omega) ((HW1.out.wr.bl m0).bl (qE (qB _) _)) hll).mono ?_;rintro y9 w9 ⟨rfl,p1,p2,p3⟩;have K9:Kp B w1 w9:=(Kp.of_bl (qE m0 _) HW1.out.size).trans ⟨p2,p3⟩;have HS9:=qA (HW1.out.put hlt p1 K9);clear p1 p2 p3 msz bsz;clear hHeld;refine hKK.out _ _ ?_ (fun hHeld=>?_)
       · exact HS1.out _ K9
       clear hKK KK;try simp only[Act.put]
       refine wpAnyH_done (by kernel_rfl) ?_ _;try change Exit.then _ _ .normal _ w9
       clear HS1 HFL K9 hll m0;have HS10:=qA (HS9.out.row hx (f:=(Je t)) (A:=A2) (show(Je t) x=(zL [(kw 7),e0.id.data.toList,e1.id.data.toList,e2.id]).1 from by unfold Je jZ;rw[hq0,JE HSAME.out he0,hq1,JE HSAME.out he1,hq2,Qv he2]));clear HS9 HS;go_wp2;go_roundw;case rel=>exact⟨k+1,⟨by omega,by go_num⟩,HS10⟩
       case measure=>simp[intOf];omega
      ·
       skip
       have HSe:WS B gw w.heap.size (JQ t ts a0 k0 a1 k1 a2 k2 a3 k3 a4 k4 a5 k5 a6 k6 a7 k7 a8 k8 a9 k9) ts t w (A2++t.guars.map (Je t)) wr:=by have:=HS.out;rw[U9 (by omega)]at this;exact this
       obtain⟨A3,hA3⟩: ∃ A',A2++t.guars.map (Je t)=A':=⟨_,rfl⟩;rw[hA3]at HSe;have HA3:=qA hA3;have lA3:A3.length<=20320:=by rw[<-hA3,U1,U4];omega
       clear HS hA3;have HS:=qA HSe;clear HSe;have uu:wr.cell? ⟨w.heap.size,8,none⟩=some (.slice a8 t.paths.length k8):=qC HS.out.tt 8 _ rfl;go_wp2_with fail;clear uu;go_loopw [104] (fun i wr=> ∃ k:Nat,(k<=t.paths.length/\i= .int .i64 k)/\Hid (WS B gw w.heap.size (JQ t ts a0 k0 a1 k1 a2 k2 a3 k3 a4 k4 a5 k5 a6 k6 a7 k7 a8 k8 a9 k9) ts t w (A3++(t.paths.take k).map (Q7 t)) wr)) (fun i _=>t.paths.length-(intOf i).toNat)
       case atStart=>exact⟨0,⟨qAD _,rfl⟩,by show WS B gw w.heap.size (JQ t ts a0 k0 a1 k1 a2 k2 a3 k3 a4 k4 a5 k5 a6 k6 a7 k7 a8 k8 a9 k9) ts t w _ _;rw[List.take_zero,List.map_nil,List.append_nil];exact HS.out⟩
       case round=>
        clear HS;obtain⟨k,⟨hk,rfl⟩,HS⟩:=hrel;by_cases hlx:k<t.paths.length
        ·
         obtain⟨x,hx⟩: ∃ x,t.paths[k]? =some x:=⟨_,U2 hlx⟩;obtain⟨bx,ox,rfl,lx,cx⟩:=HS.out.rd.paths.openB (by first|omega|(rw[U4];omega));have hxm:=Uz hx;have hkI:(k:Int)<(t.paths.length:Int):=by omega
         have hll:(A3++(t.paths.take k).map (Q7 t)).length<=1000000:=by have:=xC A3 t.paths (Q7 t) k;omega
         obtain⟨hc0,hc1,⟨z0,z1⟩⟩:=HV.out.paths x hxm;obtain⟨q0,e0,hq0,he0⟩:=Qm (l:=t.stops) hc0;have li0:(q0:Int)<(t.stops.length:Int):=by have:=(Uw.1 he0).1;omega
         have li0n:q0<t.stops.length:=(Uw.1 he0).1;obtain⟨q1,e1,hq1,he1⟩:=Qm (l:=t.stops) hc1;have li1:(q1:Int)<(t.stops.length:Int):=by have:=(Uw.1 he1).1;omega
         have li1n:q1<t.stops.length:=(Uw.1 he1).1;have d0:wr.cell? ⟨bx,ox+k*4,none⟩=some (.int .i64 (q0:Int)):=by rw[<-hq0];exact cx k _ hx 0 _ rfl
         have d1:wr.cell? ⟨bx,ox+k*4+1,none⟩=some (.int .i64 (q1:Int)):=by rw[<-hq1];exact cx k _ hx 1 _ rfl
         have d2:wr.cell? ⟨bx,ox+k*4+2,none⟩=some (.int .i64 x.secs):=by exact cx k _ hx 2 _ rfl
         have d3:wr.cell? ⟨bx,ox+k*4+3,none⟩=some (.bool x.free):=by exact cx k _ hx 3 _ rfl
         obtain⟨w1,hw1⟩: ∃ w1,wr.alloc (.cells #[.int .i64 (q0:Int), .int .i64 (q1:Int), .int .i64 x.secs, .bool x.free] 63)=w1:=⟨_,rfl⟩;have HX:=qA (show w1.heap[wr.heap.size]? =some (.cells #[.int .i64 (q0:Int), .int .i64 (q1:Int), .int .i64 x.secs, .bool x.free] 63 (0,0)) by rw[<-hw1];exact heap_alloc_new wr _);have b1:Bl wr w1:=by rw[<-hw1];exact qE (qB _) _
         have HW1:=qA (HS.out.bl hlt b1);have t0:w1.cell? ⟨wr.heap.size,0,none⟩=some (.int .i64 (q0:Int)):=qC HX.out 0 _ rfl;have t1:w1.cell? ⟨wr.heap.size,1,none⟩=some (.int .i64 (q1:Int)):=qC HX.out 1 _ rfl;have t2:w1.cell? ⟨wr.heap.size,2,none⟩=some (.int .i64 x.secs):=qC HX.out 2 _ rfl;have t3:w1.cell? ⟨wr.heap.size,3,none⟩=some (.bool x.free):=qC HX.out 3 _ rfl;clear b1;obtain⟨b0,o0,rfl,l0,cc0⟩:=HW1.out.rd.stops.openB (by omega);have u0:w1.cell? ⟨w.heap.size,0,none⟩=some (.slice (some ⟨b0,o0,none⟩) t.stops.length k0):=qC HW1.out.tt 0 _ rfl;have v0:w1.cell? ⟨b0,o0+q0*4,none⟩=some (qP e0.id):=cc0 q0 _ he0 0 _ rfl;have v1:w1.cell? ⟨b0,o0+q1*4,none⟩=some (qP e1.id):=cc0 q1 _ he1 0 _ rfl;clear cx cc0;go_wp2_with fail;clear hw1 d0 d1 d2 d3;have HS1:Hid (∀ W,Kp B w1 W->(fun W'=>W'.cell? ⟨wr.heap.size,0,none⟩=some (.int .i64 (q0:Int))/\W'.cell? ⟨wr.heap.size,1,none⟩=some (.int .i64 (q1:Int))/\W'.cell? ⟨wr.heap.size,2,none⟩=some (.int .i64 x.secs)/\W'.cell? ⟨wr.heap.size,3,none⟩=some (.bool x.free)/\W'.cell? ⟨w.heap.size,0,none⟩=some (.slice (some ⟨b0,o0,none⟩) t.stops.length k0)/\W'.cell? ⟨b0,o0+q0*4,none⟩=some (qP e0.id)/\W'.cell? ⟨b0,o0+q1*4,none⟩=some (qP e1.id)) W):=fun W k=>⟨k.cellT HX.out (by decide) (by decide) t0,k.cellT HX.out (by decide) (by decide) t1,k.cellT HX.out (by decide) (by decide) t2,k.cellT HX.out (by decide) (by decide) t3,k.cellT HW1.out.tt (by decide) (by decide) u0,k.cellB l0 v0,k.cellB l0 v1⟩
         have HFL:Hid (∀ y∈([(kw 8),e0.id,e1.id,(jc x.secs),(kG x.free)]:List (List UInt8)),y.length<=131072):=fun y hy=>by
          simp only[List.mem_cons,List.not_mem_nil,or_false]at hy;rcases hy with rfl|rfl|rfl|rfl|rfl
          · exact Ux ((by decide):_<=100) (by omega)
          · exact Ux ((Ux (HV.out.stops _ (Uz he0)).1 (by omega)):_<=100) (by omega)
          · exact Ux ((Ux (HV.out.stops _ (Uz he1)).1 (by omega)):_<=100) (by omega)
          · exact Ux (Zh (n:=x.secs):_<=100) (by omega)
          · exact Ux (Jo x.free:_<=100) (by omega)
         have m0:Bl w1 w1.drew:=qH (qB w1);refine wp_region_held_drew (S:=(fun W'=>W'.cell? ⟨wr.heap.size,0,none⟩=some (.int .i64 (q0:Int))/\W'.cell? ⟨wr.heap.size,1,none⟩=some (.int .i64 (q1:Int))/\W'.cell? ⟨wr.heap.size,2,none⟩=some (.int .i64 x.secs)/\W'.cell? ⟨wr.heap.size,3,none⟩=some (.bool x.free)/\W'.cell? ⟨w.heap.size,0,none⟩=some (.slice (some ⟨b0,o0,none⟩) t.stops.length k0)/\W'.cell? ⟨b0,o0+q0*4,none⟩=some (qP e0.id)/\W'.cell? ⟨b0,o0+q1*4,none⟩=some (qP e1.id))) (by kernel_rfl) (HS1.out _ (Kp.of_bl (qH (qB w1)) HW1.out.size)) (fun hHeld=>?_);refine qI 0 ?_;try simp only[Act.put]
         refine qI 1 ?_;try simp only[Act.put]
         refine qI 2 ?_;try simp only[Act.put]
         refine qI 3 ?_;try simp only[Act.put]
         refine qI 4 ?_;try simp only[Act.put]
         refine qI 5 ?_;try simp only[Act.put]
         refine qI 6 ?_;try simp only[Act.put]
         refine qI 7 ?_;try simp only[Act.put]
         refine qI 8 ?_;try simp only[Act.put]
         refine qI 9 ?_;try simp only[Act.put]
         refine qI 10 ?_;try simp only[Act.put]
         refine qI 11 ?_;try simp only[Act.put]
         refine qI 12 ?_;try simp only[Act.put]
         refine qI 13 ?_;try simp only[Act.put]
         refine qI 14 ?_;try simp only[Act.put]
         refine qI 15 ?_;try simp only[Act.put]
         refine qI 16 ?_;try simp only[Act.put]
         refine qI 18 ?_;try simp only[Act.put]
         refine qI 19 ?_;try simp only[Act.put]
         refine zh 17 (fun KK hKK=>?_);go_simp;go_at_call 76
         refine(lF x.secs (jc x.secs) (Ck.gW x.secs).2 (qA (Prod.ext (Yx x.secs) rfl)) _).mono ?_;rintro y1 z1 ⟨rfl,b1⟩;have m1:Bl w1 z1:=qF m0 b1;clear b1;clear hHeld;refine hKK.out _ _ ?_ (fun hHeld=>?_)
         · exact HS1.out _ (Kp.of_bl m1 HW1.out.size)
         clear hKK KK;try simp only[Act.put]
         refine zh 20 (fun KK hKK=>?_);go_simp;go_at_call 70
         refine(Wv x.free _).mono ?_;rintro y2 z2 ⟨rfl,b2⟩;have m2:Bl w1 z2:=by rw[b2];exact m1
         clear b2;clear hHeld;refine hKK.out _ _ ?_ (fun hHeld=>?_)
         · exact HS1.out _ (Kp.of_bl m2 HW1.out.size)
         clear hKK KK;try simp only[Act.put]
         refine zh 21 (fun KK hKK=>?_);go_simp;skip
         clear hHeld;refine hKK.out _ _ ?_ (fun hHeld=>?_)
         · exact HS1.out _ (Kp.of_bl (qE m2 _) HW1.out.size)
         clear hKK KK;try simp only[Act.put]
         refine zh 22 (fun KK hKK=>?_);go_simp;have msz:=m2.size;have bsz:=HW1.out.size;go_at_call 68
         refine(QO B gw _ [(kw 8),e0.id,e1.id,(jc x.secs),(kG x.free)] (zL [(kw 8),e0.id,e1.id,(jc x.secs),(kG x.free)]).1 (zL [(kw 8),e0.id,e1.id,(jc x.secs),(kG x.free)]).2 (qA rfl) HFL _ _ _ (vJ (cells:=strCells) (sz:=1) (fun _=>rfl) [(kw 8),e0.id,e1.id,(jc x.secs),(kG x.free)] z2 #[.string ⟨#[112,97,116,104]⟩,qP e0.id,qP e1.id,qP (jc x.secs),qP (kG x.free)] 9 5 5 rfl (U3 _) (by unfold maxLen;omega) rfl) (U3 _) (by simp;omega) ((HW1.out.wr.bl m2).bl (qE (qB _) _)) hll).mono ?_;rintro y9 w9 ⟨rfl,p1,p2,p3⟩;have K9:Kp B w1 w9:=(Kp.of_bl (qE m2 _) HW1.out.size).trans ⟨p2,p3⟩;have HS9:=qA (HW1.out.put hlt p1 K9);clear p1 p2 p3 msz bsz;clear hHeld;refine hKK.out _ _ ?_ (fun hHeld=>?_)
         · exact HS1.out _ K9
         clear hKK KK;try simp only[Act.put]
         refine wpAnyH_done (by kernel_rfl) ?_ _;try change Exit.then _ _ .normal _ w9
         clear HS1 HFL K9 hll m0 m1 m2;have HS10:=qA (HS9.out.row hx (f:=(Q7 t)) (A:=A3) (show(Q7 t) x=(zL [(kw 8),e0.id,e1.id,(jc x.secs),(kG x.free)]).1 from by unfold Q7 jZ;rw[hq0,Qv he0,hq1,Qv he1]));clear HS9 HS;go_wp2;go_roundw;case rel=>exact⟨k+1,⟨by omega,by go_num⟩,HS10⟩
         case measure=>simp[intOf];omega
        ·
         skip
         have HSe:WS B gw w.heap.size (JQ t ts a0 k0 a1 k1 a2 k2 a3 k3 a4 k4 a5 k5 a6 k6 a7 k7 a8 k8 a9 k9) ts t w (A3++t.paths.map (Q7 t)) wr:=by have:=HS.out;rw[U9 (by omega)]at this;exact this
         obtain⟨A4,hA4⟩: ∃ A',A3++t.paths.map (Q7 t)=A':=⟨_,rfl⟩;rw[hA4]at HSe;have HA4:=qA hA4;have lA4:A4.length<=20832:=by rw[<-hA4,U1,U4];omega
         clear HS hA4;have HS:=qA HSe;clear HSe;have uu0:wr.cell? ⟨w.heap.size,9,none⟩=some (.slice a9 t.fares.prods.length k9):=qC HS.out.tt 9 _ rfl;have uu1:wr.cell? ⟨w.heap.size,10,none⟩=some (.int .i64 t.fares.disc):=qC HS.out.tt 10 _ rfl;have uu2:wr.cell? ⟨w.heap.size,11,none⟩=some (.int .i64 t.fares.within):=qC HS.out.tt 11 _ rfl;have uu3:wr.cell? ⟨w.heap.size,12,none⟩=some (.int .i64 t.fares.cap):=qC HS.out.tt 12 _ rfl;obtain⟨wf,hwf⟩: ∃ w1,wr.alloc (.cells #[.slice a9 t.fares.prods.length k9, .int .i64 t.fares.disc, .int .i64 t.fares.within, .int .i64 t.fares.cap] 34)=w1:=⟨_,rfl⟩;have HX:=qA (show wf.heap[wr.heap.size]? =some (.cells #[.slice a9 t.fares.prods.length k9, .int .i64 t.fares.disc, .int .i64 t.fares.within, .int .i64 t.fares.cap] 34 (0,0)) by rw[<-hwf];exact heap_alloc_new wr _);have bf:Bl wr wf:=by rw[<-hwf];exact qE (qB _) _
         have HWF:=qA (HS.out.bl hlt bf);have t0:wf.cell? ⟨wr.heap.size,0,none⟩=some (.slice a9 t.fares.prods.length k9):=qC HX.out 0 _ rfl;have t1:wf.cell? ⟨wr.heap.size,1,none⟩=some (.int .i64 t.fares.disc):=qC HX.out 1 _ rfl;have t2:wf.cell? ⟨wr.heap.size,2,none⟩=some (.int .i64 t.fares.within):=qC HX.out 2 _ rfl;have t3:wf.cell? ⟨wr.heap.size,3,none⟩=some (.int .i64 t.fares.cap):=qC HX.out 3 _ rfl;clear bf HS;obtain⟨A5,hA5⟩: ∃ A5,A4++dK t=A5:=⟨_,rfl⟩;have HA5:=qA hA5;have lA5:A5.length<=20833:=by rw[<-hA5,U1];unfold dK;split<;>simp<;>omega
         clear hA5;obtain⟨bz,hbz⟩: ∃ bz,decide (t.fares.disc=0/\t.fares.within=0/\t.fares.cap=0)=bz:=⟨_,rfl⟩;have HBZ:=qA hbz;clear hbz;go_upto_region 22 with fail
         clear hwf uu0 uu1 uu2 uu3;go_cut [146] from 191 (fun s wx=>s= .bool (!bz)/\Hid (wx=wf))
         case first=>
          by_cases e1:t.fares.disc=0
          ·
           by_cases e2:t.fares.within=0
           ·
            by_cases e3:t.fares.cap=0
            ·
             have hb:bz=true:=by rw[<-HBZ.out];simp[e1,e2,e3]
             have f1:(t.fares.disc != 0)=false:=by rw[bne_eq_false_iff_eq];exact e1
             have f2:(t.fares.within != 0)=false:=by rw[bne_eq_false_iff_eq];exact e2
             have f3:(t.fares.cap != 0)=false:=by rw[bne_eq_false_iff_eq];exact e3
             clear e1 e2 e3;go_wp2;go_meet
             case rel=>exact⟨by rw[hb];rfl,qA rfl⟩
            ·
             have hb:bz=false:=by rw[<-HBZ.out];simp[e1,e2,e3]
             have f1:(t.fares.disc != 0)=false:=by rw[bne_eq_false_iff_eq];exact e1
             have f2:(t.fares.within != 0)=false:=by rw[bne_eq_false_iff_eq];exact e2
             have f3:(t.fares.cap != 0)=true:=by rw[bne_iff_ne];exact e3
             clear e1 e2 e3;go_wp2;go_meet
             case rel=>exact⟨by rw[hb];rfl,qA rfl⟩
           ·
            have hb:bz=false:=by rw[<-HBZ.out];simp[e1,e2]
            have f1:(t.fares.disc != 0)=false:=by rw[bne_eq_false_iff_eq];exact e1
            have f2:(t.fares.within != 0)=true:=by rw[bne_iff_ne];exact e2
            clear e1 e2;go_wp2;go_meet
            case rel=>exact⟨by rw[hb];rfl,qA rfl⟩
          ·
           have hb:bz=false:=by rw[<-HBZ.out];simp[e1]
           have f1:(t.fares.disc != 0)=true:=by rw[bne_iff_ne];exact e1
           clear e1;go_wp2;go_meet
           case rel=>exact⟨by rw[hb];rfl,qA rfl⟩
         case rest=>
          obtain⟨rfl,hwc⟩:=hcut;obtain rfl:=hwc.out.symm;clear hwc;go_upto_if 146 with fail
          go_cut [] from 191 (fun wx=>Hid (WS B gw w.heap.size (JQ t ts a0 k0 a1 k1 a2 k2 a3 k3 a4 k4 a5 k5 a6 k6 a7 k7 a8 k8 a9 k9) ts t w A5 wx)/\wx.cell? ⟨wr.heap.size,0,none⟩=some (.slice a9 t.fares.prods.length k9))
          case first=>
           rename_i J0 K0 hJ0 hK0;cases bz with
           |true=>
            go_wp2;go_meet
            case rel=>exact⟨by show WS B gw w.heap.size (JQ t ts a0 k0 a1 k1 a2 k2 a3 k3 a4 k4 a5 k5 a6 k6 a7 k7 a8 k8 a9 k9) ts t w _ _;rw[<-HA5.out,show dK t=[] from U6 (of_decide_eq_true HBZ.out),List.append_nil];exact HWF.out,t0⟩
           |false=>
            have hll:A4.length<=1000000:=by omega
            go_wp2_with fail;have HS1:Hid (∀ W,Kp B wf W->(fun W'=>W'.cell? ⟨wr.heap.size,1,none⟩=some (.int .i64 t.fares.disc)/\W'.cell? ⟨wr.heap.size,2,none⟩=some (.int .i64 t.fares.within)/\W'.cell? ⟨wr.heap.size,3,none⟩=some (.int .i64 t.fares.cap)) W):=fun W k=>⟨k.cellT HX.out (by decide) (by decide) t1,k.cellT HX.out (by decide) (by decide) t2,k.cellT HX.out (by decide) (by decide) t3⟩
            have HFL:Hid (∀ y∈([(kw 11),(qW t.fares.disc).1,(jc t.fares.within),(qW t.fares.cap).1]:List (List UInt8)),y.length<=131072):=fun y hy=>by
             simp only[List.mem_cons,List.not_mem_nil,or_false]at hy;rcases hy with rfl|rfl|rfl|rfl
             · exact Ux ((by decide):_<=100) (by omega)
             · exact Ux (ZG (c:=t.fares.disc):_<=100) (by omega)
             · exact Ux (Zh (n:=t.fares.within):_<=100) (by omega)
             · exact Ux (ZG (c:=t.fares.cap):_<=100) (by omega)
            have m0:Bl wf wf.drew:=qH (qB wf);refine wp_region_held_drew (S:=(fun W'=>W'.cell? ⟨wr.heap.size,1,none⟩=some (.int .i64 t.fares.disc)/\W'.cell? ⟨wr.heap.size,2,none⟩=some (.int .i64 t.fares.within)/\W'.cell? ⟨wr.heap.size,3,none⟩=some (.int .i64 t.fares.cap))) (by kernel_rfl) (HS1.out _ (Kp.of_bl (qH (qB wf)) HWF.out.size)) (fun hHeld=>?_);refine qI 0 ?_;try simp only[Act.put]
            refine qI 1 ?_;try simp only[Act.put]
            refine qI 2 ?_;try simp only[Act.put]
            refine qI 4 ?_;try simp only[Act.put]
            refine qI 5 ?_;try simp only[Act.put]
            refine qI 7 ?_;try simp only[Act.put]
            refine qI 8 ?_;try simp only[Act.put]
            refine zh 3 (fun KK hKK=>?_);go_simp;go_at_call 77
            refine(ag t.fares.disc (qW t.fares.disc).1 (qW t.fares.disc).2 (qA rfl) _).mono ?_;rintro y1 z1 ⟨rfl,b1⟩;have m1:Bl wf z1:=qF m0 b1;clear b1;clear hHeld;refine hKK.out _ _ ?_ (fun hHeld=>?_)
            · exact HS1.out _ (Kp.of_bl m1 HWF.out.size)
            clear hKK KK;try simp only[Act.put]
            refine zh 6 (fun KK hKK=>?_);go_simp;go_at_call 76
            refine(lF t.fares.within (jc t.fares.within) (Ck.gW t.fares.within).2 (qA (Prod.ext (Yx t.fares.within) rfl)) _).mono ?_;rintro y2 z2 ⟨rfl,b2⟩;have m2:Bl wf z2:=qF m1 b2;clear b2;clear hHeld;refine hKK.out _ _ ?_ (fun hHeld=>?_)
            · exact HS1.out _ (Kp.of_bl m2 HWF.out.size)
            clear hKK KK;try simp only[Act.put]
            refine zh 9 (fun KK hKK=>?_);go_simp;go_at_call 77
            refine(ag t.fares.cap (qW t.fares.cap).1 (qW t.fares.cap).2 (qA rfl) _).mono ?_;rintro y3 z3 ⟨rfl,b3⟩;have m3:Bl wf z3:=qF m2 b3;clear b3;clear hHeld;refine hKK.out _ _ ?_ (fun hHeld=>?_)
            · exact HS1.out _ (Kp.of_bl m3 HWF.out.size)
            clear hKK KK;try simp only[Act.put]
            refine zh 10 (fun KK hKK=>?_);go_simp;skip
            clear hHeld;refine hKK.out _ _ ?_ (fun hHeld=>?_)
            · exact HS1.out _ (Kp.of_bl (qE m3 _) HWF.out.size)
            clear hKK KK;try simp only[Act.put]
            refine zh 11 (fun KK hKK=>?_);go_simp;have msz:=m3.size;have bsz:=HWF.out.size;go_at_call 68
            refine(QO B gw _ [(kw 11),(qW t.fares.disc).1,(jc t.fares.within),(qW t.fares.cap).1] (zL [(kw 11),(qW t.fares.disc).1,(jc t.fares.within),(qW t.fares.cap).1]).1 (zL [(kw 11),(qW t.fares.disc).1,(jc t.fares.within),(qW t.fares.cap).1]).2 (qA rfl) HFL _ _ _ (vJ (cells:=strCells) (sz:=1) (fun _=>rfl) [(kw 11),(qW t.fares.disc).1,(jc t.fares.within),(qW t.fares.cap).1] z3 #[.string ⟨#[102,97,114,101,115]⟩,qP (qW t.fares.disc).1,qP (jc t.fares.within),qP (qW t.fares.cap).1] 9 4 4 rfl (U3 _) (by unfold maxLen;omega) rfl) (U3 _) (by simp;omega) ((HWF.out.wr.bl m3).bl (qE (qB _) _)) hll).mono ?_;rintro y9 w9 ⟨rfl,p1,p2,p3⟩;have K9:Kp B wf w9:=(Kp.of_bl (qE m3 _) HWF.out.size).trans ⟨p2,p3⟩;have HS9:=qA (HWF.out.put hlt p1 K9);clear p1 p2 p3 msz bsz;clear hHeld;refine hKK.out _ _ ?_ (fun hHeld=>?_)
            · exact HS1.out _ K9
            clear hKK KK;try simp only[Act.put]
            refine wpAnyH_done (by kernel_rfl) ?_ _;try change Exit.then _ _ .normal _ w9
            have x0:w9.cell? ⟨wr.heap.size,0,none⟩=some (.slice a9 t.fares.prods.length k9):=K9.cellT HX.out (by decide) (by decide) t0;clear HS1 HFL K9 hll m0 m1 m2 m3;have HS:Hid (WS B gw w.heap.size (JQ t ts a0 k0 a1 k1 a2 k2 a3 k3 a4 k4 a5 k5 a6 k6 a7 k7 a8 k8 a9 k9) ts t w A5 w9):=by show WS B gw w.heap.size (JQ t ts a0 k0 a1 k1 a2 k2 a3 k3 a4 k4 a5 k5 a6 k6 a7 k7 a8 k8 a9 k9) ts t w _ _;rw[<-HA5.out,show dK t=[iG t] from U5 (of_decide_eq_false HBZ.out),show iG t=(zL [(kw 11),(qW t.fares.disc).1,(jc t.fares.within),(qW t.fares.cap).1]).1 from rfl];exact HS9.out
            refine hK0 _ _ (Met.intro (hJ0 _ _ ?_));repeat apply Exists.intro
            refine⟨?rel,rfl⟩;case rel=>exact⟨HS,x0⟩
          case rest=>
           obtain⟨HS,x0⟩:=hcut;clear HX HWF t0 t1 t2 t3;go_wp2_with fail;clear x0;go_loopw [162] (fun i wr=> ∃ k:Nat,(k<=t.fares.prods.length/\i= .int .i64 k)/\Hid (WS B gw w.heap.size (JQ t ts a0 k0 a1 k1 a2 k2 a3 k3 a4 k4 a5 k5 a6 k6 a7 k7 a8 k8 a9 k9) ts t w (A5++(t.fares.prods.take k).map Jf) wr)) (fun i _=>t.fares.prods.length-(intOf i).toNat)
           case atStart=>exact⟨0,⟨qAD _,rfl⟩,by show WS B gw w.heap.size (JQ t ts a0 k0 a1 k1 a2 k2 a3 k3 a4 k4 a5 k5 a6 k6 a7 k7 a8 k8 a9 k9) ts t w _ _;rw[List.take_zero,List.map_nil,List.append_nil];exact HS.out⟩
           case round=>
            clear HS;obtain⟨k,⟨hk,rfl⟩,HS⟩:=hrel;by_cases hlx:k<t.fares.prods.length
            ·
             obtain⟨x,hx⟩: ∃ x,t.fares.prods[k]? =some x:=⟨_,U2 hlx⟩;obtain⟨bx,ox,rfl,lx,cx⟩:=HS.out.rd.prods.openB (by first|omega|(rw[U4];omega));have hxm:=Uz hx;have hkI:(k:Int)<(t.fares.prods.length:Int):=by omega
             have hll:(A5++(t.fares.prods.take k).map Jf).length<=1000000:=by have:=xC A5 t.fares.prods Jf k;omega
             obtain⟨hid,hpr,⟨z0,z1⟩,⟨g0,g1⟩,hse,hmo⟩:=HV.out.prods x hxm;have d0:wr.cell? ⟨bx,ox+k*6,none⟩=some (qP x.id):=by exact cx k _ hx 0 _ rfl
             have d1:wr.cell? ⟨bx,ox+k*6+1,none⟩=some (.int .i64 x.price):=by exact cx k _ hx 1 _ rfl
             have d2:wr.cell? ⟨bx,ox+k*6+2,none⟩=some (.int .i64 x.rides):=by exact cx k _ hx 2 _ rfl
             have d3:wr.cell? ⟨bx,ox+k*6+3,none⟩=some (.int .i64 x.zones):=by exact cx k _ hx 3 _ rfl
             have d4:wr.cell? ⟨bx,ox+k*6+4,none⟩=some (.int .i64 x.secs):=by exact cx k _ hx 4 _ rfl
             have d5:wr.cell? ⟨bx,ox+k*6+5,none⟩=some (.int .i64 x.modes):=by exact cx k _ hx 5 _ rfl
             obtain⟨w1,hw1⟩: ∃ w1,wr.alloc (.cells #[qP x.id, .int .i64 x.price, .int .i64 x.rides, .int .i64 x.zones, .int .i64 x.secs, .int .i64 x.modes] 65)=w1:=⟨_,rfl⟩;have HX:=qA (show w1.heap[wr.heap.size]? =some (.cells #[qP x.id, .int .i64 x.price, .int .i64 x.rides, .int .i64 x.zones, .int .i64 x.secs, .int .i64 x.modes] 65 (0,0)) by rw[<-hw1];exact heap_alloc_new wr _);have b1:Bl wr w1:=by rw[<-hw1];exact qE (qB _) _
             have HW1:=qA (HS.out.bl hlt b1);have t0:w1.cell? ⟨wr.heap.size,0,none⟩=some (qP x.id):=qC HX.out 0 _ rfl;have t1:w1.cell? ⟨wr.heap.size,1,none⟩=some (.int .i64 x.price):=qC HX.out 1 _ rfl;have t2:w1.cell? ⟨wr.heap.size,2,none⟩=some (.int .i64 x.rides):=qC HX.out 2 _ rfl;have t3:w1.cell? ⟨wr.heap.size,3,none⟩=some (.int .i64 x.zones):=qC HX.out 3 _ rfl;have t4:w1.cell? ⟨wr.heap.size,4,none⟩=some (.int .i64 x.secs):=qC HX.out 4 _ rfl;have t5:w1.cell? ⟨wr.heap.size,5,none⟩=some (.int .i64 x.modes):=qC HX.out 5 _ rfl;clear b1;clear cx;go_wp2_with (go_at_call 78;refine(Ic x.modes hmo _ HW1.out.nm).mono ?_;rintro y2 w2 ⟨rfl,bm⟩)
             clear hw1 d0 d1 d2 d3 d4 d5;have HX2:=qA (qX HX.out bm);have HW2:=qA (HW1.out.bl hlt bm);have s0:w2.cell? ⟨wr.heap.size,0,none⟩=some (qP x.id):=qC HX2.out 0 _ rfl;have s1:w2.cell? ⟨wr.heap.size,1,none⟩=some (.int .i64 x.price):=qC HX2.out 1 _ rfl;have s2:w2.cell? ⟨wr.heap.size,2,none⟩=some (.int .i64 x.rides):=qC HX2.out 2 _ rfl;have s3:w2.cell? ⟨wr.heap.size,3,none⟩=some (.int .i64 x.zones):=qC HX2.out 3 _ rfl;have s4:w2.cell? ⟨wr.heap.size,4,none⟩=some (.int .i64 x.secs):=qC HX2.out 4 _ rfl;clear bm t0 t1 t2 t3 t4 t5;have HS1:Hid (∀ W,Kp B w2 W->(fun W'=>W'.cell? ⟨wr.heap.size,0,none⟩=some (qP x.id)/\W'.cell? ⟨wr.heap.size,1,none⟩=some (.int .i64 x.price)/\W'.cell? ⟨wr.heap.size,2,none⟩=some (.int .i64 x.rides)/\W'.cell? ⟨wr.heap.size,3,none⟩=some (.int .i64 x.zones)/\W'.cell? ⟨wr.heap.size,4,none⟩=some (.int .i64 x.secs)) W):=fun W k=>⟨k.cellT HX2.out (by decide) (by decide) s0,k.cellT HX2.out (by decide) (by decide) s1,k.cellT HX2.out (by decide) (by decide) s2,k.cellT HX2.out (by decide) (by decide) s3,k.cellT HX2.out (by decide) (by decide) s4⟩
             have HFL:Hid (∀ y∈([(kw 9),x.id,(qW x.price).1,(jO x.rides),(jO x.zones),(jc x.secs),(vU x.modes)]:List (List UInt8)),y.length<=131072):=fun y hy=>by
              simp only[List.mem_cons,List.not_mem_nil,or_false]at hy;rcases hy with rfl|rfl|rfl|rfl|rfl|rfl|rfl
              · exact Ux ((by decide):_<=100) (by omega)
              · exact Ux ((Ux hid (by omega)):_<=100) (by omega)
              · exact Ux (ZG (c:=x.price):_<=100) (by omega)
              · exact Ux (Qd (n:=x.rides) ⟨by omega,by omega⟩:_<=100) (by omega)
              · exact Ux (Qd (n:=x.zones) ⟨by omega,by omega⟩:_<=100) (by omega)
              · exact Ux (Zh (n:=x.secs):_<=100) (by omega)
              · exact Ux ((dm hmo):_<=100) (by omega)
             have m0:Bl w2 w2.drew:=qH (qB w2);refine wp_region_held_drew (S:=(fun W'=>W'.cell? ⟨wr.heap.size,0,none⟩=some (qP x.id)/\W'.cell? ⟨wr.heap.size,1,none⟩=some (.int .i64 x.price)/\W'.cell? ⟨wr.heap.size,2,none⟩=some (.int .i64 x.rides)/\W'.cell? ⟨wr.heap.size,3,none⟩=some (.int .i64 x.zones)/\W'.cell? ⟨wr.heap.size,4,none⟩=some (.int .i64 x.secs))) (by kernel_rfl) (HS1.out _ (Kp.of_bl (qH (qB w2)) HW2.out.size)) (fun hHeld=>?_);refine qI 0 ?_;try simp only[Act.put]
             refine qI 1 ?_;try simp only[Act.put]
             refine qI 2 ?_;try simp only[Act.put]
             refine qI 3 ?_;try simp only[Act.put]
             refine qI 4 ?_;try simp only[Act.put]
             refine qI 6 ?_;try simp only[Act.put]
             refine qI 7 ?_;try simp only[Act.put]
             refine qI 9 ?_;try simp only[Act.put]
             refine qI 10 ?_;try simp only[Act.put]
             refine qI 12 ?_;try simp only[Act.put]
             refine qI 13 ?_;try simp only[Act.put]
             refine qI 15 ?_;try simp only[Act.put]
             refine zh 5 (fun KK hKK=>?_);go_simp;go_at_call 77
             refine(ag x.price (qW x.price).1 (qW x.price).2 (qA rfl) _).mono ?_;rintro y1 z1 ⟨rfl,b1⟩;have m1:Bl w2 z1:=qF m0 b1;clear b1;clear hHeld;refine hKK.out _ _ ?_ (fun hHeld=>?_)
             · exact HS1.out _ (Kp.of_bl m1 HW2.out.size)
             clear hKK KK;try simp only[Act.put]
             refine zh 8 (fun KK hKK=>?_);go_simp;go_at_call 69
             refine(Nu.KA x.rides (by omega) (by omega) _).mono ?_;rintro y2 z2 ⟨rfl,b2⟩;have m2:Bl w2 z2:=qF m1 b2;clear b2;clear hHeld;refine hKK.out _ _ ?_ (fun hHeld=>?_)
             · exact HS1.out _ (Kp.of_bl m2 HW2.out.size)
             clear hKK KK;try simp only[Act.put]
             refine zh 11 (fun KK hKK=>?_);go_simp;go_at_call 69
             refine(Nu.KA x.zones (by omega) (by omega) _).mono ?_;rintro y3 z3 ⟨rfl,b3⟩;have m3:Bl w2 z3:=qF m2 b3;clear b3;clear hHeld;refine hKK.out _ _ ?_ (fun hHeld=>?_)
             · exact HS1.out _ (Kp.of_bl m3 HW2.out.size)
             clear hKK KK;try simp only[Act.put]
             refine zh 14 (fun KK hKK=>?_);go_simp;go_at_call 76
             refine(lF x.secs (jc x.secs) (Ck.gW x.secs).2 (qA (Prod.ext (Yx x.secs) rfl)) _).mono ?_;rintro y4 z4 ⟨rfl,b4⟩;have m4:Bl w2 z4:=qF m3 b4;clear b4;clear hHeld;refine hKK.out _ _ ?_ (fun hHeld=>?_)
             · exact HS1.out _ (Kp.of_bl m4 HW2.out.size)
             clear hKK KK;try simp only[Act.put]
             refine zh 16 (fun KK hKK=>?_);go_simp;skip
             clear hHeld;refine hKK.out _ _ ?_ (fun hHeld=>?_)
             · exact HS1.out _ (Kp.of_bl (qE m4 _) HW2.out.size)
             clear hKK KK;try simp only[Act.put]
             refine zh 17 (fun KK hKK=>?_);go_simp;have msz:=m4.size;have bsz:=HW2.out.size;go_at_call 68
             refine(QO B gw _ [(kw 9),x.id,(qW x.price).1,(jO x.rides),(jO x.zones),(jc x.secs),(vU x.modes)] (zL [(kw 9),x.id,(qW x.price).1,(jO x.rides),(jO x.zones),(jc x.secs),(vU x.modes)]).1 (zL [(kw 9),x.id,(qW x.price).1,(jO x.rides),(jO x.zones),(jc x.secs),(vU x.modes)]).2 (qA rfl) HFL _ _ _ (vJ (cells:=strCells) (sz:=1) (fun _=>rfl) [(kw 9),x.id,(qW x.price).1,(jO x.rides),(jO x.zones),(jc x.secs),(vU x.modes)] z4 #[.string ⟨#[112,114,111,100,117,99,116]⟩,qP x.id,qP (qW x.price).1,qP (jO x.rides),qP (jO x.zones),qP (jc x.secs),qP (vU x.modes)] 9 7 7 rfl (U3 _) (by unfold maxLen;omega) rfl) (U3 _) (by simp;omega) ((HW2.out.wr.bl m4).bl (qE (qB _) _)) hll).mono ?_;rintro y9 w9 ⟨rfl,p1,p2,p3⟩;have K9:Kp B w2 w9:=(Kp.of_bl (qE m4 _) HW2.out.size).trans ⟨p2,p3⟩;have HS9:=qA (HW2.out.put hlt p1 K9);clear p1 p2 p3 msz bsz;clear hHeld;refine hKK.out _ _ ?_ (fun hHeld=>?_)
             · exact HS1.out _ K9
             clear hKK KK;try simp only[Act.put]
             refine wpAnyH_done (by kernel_rfl) ?_ _;try change Exit.then _ _ .normal _ w9
             clear HS1 HFL K9 hll m0 m1 m2 m3 m4;have HS10:=qA (HS9.out.row hx (f:=Jf) (A:=A5) (show Jf x=(zL [(kw 9),x.id,(qW x.price).1,(jO x.rides),(jO x.zones),(jc x.secs),(vU x.modes)]).1 from rfl));clear HS9 HS;go_wp2;go_roundw;case rel=>exact⟨k+1,⟨by omega,by go_num⟩,HS10⟩
             case measure=>simp[intOf];omega
            ·
             have HSe:=HS.out.all (by omega);have hfin:A5++t.fares.prods.map Jf=eQ t A0:=by unfold eQ;rw[<-HA5.out,<-HA4.out,<-HA3.out,<-HA2.out,<-HA1.out]
             have HF:=qA (HSe.reshape hfin);clear HSe hfin HS;go_wp2;go_end0;exact⟨rfl,HF.out.wr,HF.out.bel⟩
end Go.Proofs.YtakedkcjplfgeaaGreatDoor
