/- Contracts, proved. Conditions: each contract's own. -/
import Derived.Test.YtakedkcjplfgeaaGreatDoorMRfC
import Derived.Test.YtakedkcjplfgeaaGreatDoorMRkC
set_option maxRecDepth 1000000
set_option maxHeartbeats 32000000
namespace Go.Proofs.YtakedkcjplfgeaaGreatDoor
open Go.RowKit
open Frq Thr Tt Num Clk Dat Fld
theorem UY (B:Nat) (V:TtV) (ts:List TripD) (t:TtD) (v:Hid (AY t)) (lim:Hid (Rj t)) (w:World) (rd:yA B w V ts t) (hB:B<=w.heap.size):
  Calls Tryz.prog 35 #[JP V t] w fun q w'=>(∃ z,q= .returned (qP z)/\Hid (SY (TL t) z))/\Bl w w':=by
 have HV:=v;have HSAME:=qA rd.same;have hlen5:ts.length=t.trips.length:=by have:=congrArg List.length rd.same;rw[U4]at this;exact this.symm
 have HLEN5:=qA hlen5;obtain⟨L0,L1,L2,L3,L4,L5,L6,L7,L8,L9,L10⟩:=lim.out;have HL10:=qA L10;have RD:=qA rd;obtain⟨v0,v1,v2,v3,v4,v5,v6,v7,v8,v9⟩:=V;obtain⟨a0,k0,(rfl:v0=_),-,-⟩:=rd.stops.val;obtain⟨a1,k1,(rfl:v1=_),-,-⟩:=rd.routes.val;obtain⟨a2,k2,(rfl:v2=_),-,-⟩:=rd.cals.val;obtain⟨a3,k3,(rfl:v3=_),-,-⟩:=rd.excs.val;obtain⟨a4,k4,(rfl:v4=_),-,-⟩:=rd.trips.sl.val;obtain⟨a5,k5,(rfl:v5=_),-,-⟩:=rd.freqs.val;obtain⟨a6,k6,(rfl:v6=_),-,-⟩:=rd.thrus.val;obtain⟨a7,k7,(rfl:v7=_),-,-⟩:=rd.guars.val;obtain⟨a8,k8,(rfl:v8=_),-,-⟩:=rd.paths.val;obtain⟨a9,k9,(rfl:v9=_),-,-⟩:=rd.prods.val;have hts:ts.length<=256:=by omega
 clear rd L10 v lim hlen5;unfold JP;simp only[U4]at RD ⊢;change Hid (yA B w (JQ t ts a0 k0 a1 k1 a2 k2 a3 k3 a4 k4 a5 k5 a6 k6 a7 k7 a8 k8 a9 k9) ts t)at RD;obtain⟨w0,hw0⟩: ∃ w0,w.alloc (.cells (Qa (JQ t ts a0 k0 a1 k1 a2 k2 a3 k3 a4 k4 a5 k5 a6 k6 a7 k7 a8 k8 a9 k9) t.fares) 36)=w0:=⟨_,rfl⟩;have b0:Bl w w0:=by rw[<-hw0];exact qE (qB _) _
 have HS:Hid (FS B w.heap.size (JQ t ts a0 k0 a1 k1 a2 k2 a3 k3 a4 k4 a5 k5 a6 k6 a7 k7 a8 k8 a9 k9) ts t w w0):=⟨RD.out.bl b0 hB,by rw[<-hw0];exact heap_alloc_new w _,b0,Ux hB b0.size⟩;clear b0 RD;simp only[Qa]at hw0;obtain⟨A0,hA0⟩: ∃ A0:List (List UInt8),[]=A0:=⟨_,rfl⟩;have HA0:=qA hA0;have lA0:A0.length<=0:=by rw[<-hA0];exact U3 _
 have HT:Hid (SY A0 []):=by show SY _ _;rw[<-hA0];exact TR
 clear hA0;go_enter Tryz.func35,Tryz.ntmps35
 go_wp2_with fail;clear hw0;go_loopw [4,3] (fun i s wr=> ∃ (k:Nat) (xs:List UInt8),(k<=t.paths.length/\i= .int .i64 k/\s=qP xs)/\Hid (SY (A0++(t.paths.take k).map (Q7 t)) xs)/\Hid (FS B w.heap.size (JQ t ts a0 k0 a1 k1 a2 k2 a3 k3 a4 k4 a5 k5 a6 k6 a7 k7 a8 k8 a9 k9) ts t w wr)) (fun i _ _=>t.paths.length-(intOf i).toNat)
 case atStart=>exact⟨0,[],⟨qAD _,rfl,rfl⟩,by show SY _ _;rw[List.take_zero,List.map_nil,List.append_nil];exact HT.out,HS.out⟩
 case round=>
  clear HS HT;obtain⟨k,xs,⟨hk,rfl,rfl⟩,HT,HS⟩:=hrel;have ux:wr.cell? ⟨w.heap.size,8,none⟩=some (.slice a8 t.paths.length k8):=qC HS.out.tt 8 _ rfl;by_cases hlx:k<t.paths.length
  ·
   obtain⟨x,hx⟩: ∃ x,t.paths[k]? =some x:=⟨_,U2 hlx⟩;obtain⟨bx,ox,rfl,lx,cx⟩:=HS.out.rd.paths.openB (by first|omega|(rw[U4];omega));have hxm:=Uz hx;have hkI:(k:Int)<(t.paths.length:Int):=by omega
   have hll:(A0++(t.paths.take k).map (Q7 t)).length<=1000000:=by have:=xC A0 t.paths (Q7 t) k;omega
   have hxl:=HT.out.bound hll;obtain⟨hc0,hc1,⟨z0,z1⟩⟩:=HV.out.paths x hxm;obtain⟨q0,e0,hq0,he0⟩:=Qm (l:=t.stops) hc0;have li0:(q0:Int)<(t.stops.length:Int):=by have:=(Uw.1 he0).1;omega
   have li0n:q0<t.stops.length:=(Uw.1 he0).1;obtain⟨q1,e1,hq1,he1⟩:=Qm (l:=t.stops) hc1;have li1:(q1:Int)<(t.stops.length:Int):=by have:=(Uw.1 he1).1;omega
   have li1n:q1<t.stops.length:=(Uw.1 he1).1;have d0:wr.cell? ⟨bx,ox+k*4,none⟩=some (.int .i64 (q0:Int)):=by rw[<-hq0];exact cx k _ hx 0 _ rfl
   have d1:wr.cell? ⟨bx,ox+k*4+1,none⟩=some (.int .i64 (q1:Int)):=by rw[<-hq1];exact cx k _ hx 1 _ rfl
   have d2:wr.cell? ⟨bx,ox+k*4+2,none⟩=some (.int .i64 x.secs):=by exact cx k _ hx 2 _ rfl
   have d3:wr.cell? ⟨bx,ox+k*4+3,none⟩=some (.bool x.free):=by exact cx k _ hx 3 _ rfl
   obtain⟨w1,hw1⟩: ∃ w1,wr.alloc (.cells #[.int .i64 (q0:Int), .int .i64 (q1:Int), .int .i64 x.secs, .bool x.free] 63)=w1:=⟨_,rfl⟩;have HX:=qA (show w1.heap[wr.heap.size]? =some (.cells #[.int .i64 (q0:Int), .int .i64 (q1:Int), .int .i64 x.secs, .bool x.free] 63 (0,0)) by rw[<-hw1];exact heap_alloc_new wr _);have b1:Bl wr w1:=by rw[<-hw1];exact qE (qB _) _
   have HW1:=qA (HS.out.bl b1);have lx:wr.heap.size<w1.heap.size:=lt_of_block HX.out;have t0:w1.cell? ⟨wr.heap.size,0,none⟩=some (.int .i64 (q0:Int)):=qC HX.out 0 _ rfl;have t1:w1.cell? ⟨wr.heap.size,1,none⟩=some (.int .i64 (q1:Int)):=qC HX.out 1 _ rfl;have t2:w1.cell? ⟨wr.heap.size,2,none⟩=some (.int .i64 x.secs):=qC HX.out 2 _ rfl;have t3:w1.cell? ⟨wr.heap.size,3,none⟩=some (.bool x.free):=qC HX.out 3 _ rfl;clear b1;obtain⟨b0,o0,rfl,l0,cc0⟩:=HW1.out.rd.stops.openB (by omega);have lz0:b0<w1.heap.size:=Nat.lt_of_lt_of_le l0 HW1.out.size;have u0:w1.cell? ⟨w.heap.size,0,none⟩=some (.slice (some ⟨b0,o0,none⟩) t.stops.length k0):=qC HW1.out.tt 0 _ rfl;have v0:w1.cell? ⟨b0,o0+q0*4,none⟩=some (qP e0.id):=cc0 q0 _ he0 0 _ rfl;have v1:w1.cell? ⟨b0,o0+q1*4,none⟩=some (qP e1.id):=cc0 q1 _ he1 0 _ rfl;have lt0:w.heap.size<w1.heap.size:=lt_of_block HW1.out.tt;clear cx cc0;go_wp2_with fail;clear hw1 ux d0 d1 d2 d3;have HS1:Hid (∀ W,Bl w1 W->(fun W'=>W'.cell? ⟨wr.heap.size,0,none⟩=some (.int .i64 (q0:Int))/\W'.cell? ⟨wr.heap.size,1,none⟩=some (.int .i64 (q1:Int))/\W'.cell? ⟨wr.heap.size,2,none⟩=some (.int .i64 x.secs)/\W'.cell? ⟨wr.heap.size,3,none⟩=some (.bool x.free)/\W'.cell? ⟨w.heap.size,0,none⟩=some (.slice (some ⟨b0,o0,none⟩) t.stops.length k0)/\W'.cell? ⟨b0,o0+q0*4,none⟩=some (qP e0.id)/\W'.cell? ⟨b0,o0+q1*4,none⟩=some (qP e1.id)) W):=fun W k=>⟨((qG k).1 _ _ lx).trans t0,((qG k).1 _ _ lx).trans t1,((qG k).1 _ _ lx).trans t2,((qG k).1 _ _ lx).trans t3,((qG k).1 _ _ lt0).trans u0,((qG k).1 _ _ lz0).trans v0,((qG k).1 _ _ lz0).trans v1⟩
   have HFL:Hid (∀ y∈([(kw 8),e0.id,e1.id,(jc x.secs),(kG x.free)]:List (List UInt8)),y.length<=131072):=fun y hy=>by
    simp only[List.mem_cons,List.not_mem_nil,or_false]at hy;rcases hy with rfl|rfl|rfl|rfl|rfl
    · exact Ux ((by decide):_<=100) (by omega)
    · exact Ux ((Ux (HV.out.stops _ (Uz he0)).1 (by omega)):_<=100) (by omega)
    · exact Ux ((Ux (HV.out.stops _ (Uz he1)).1 (by omega)):_<=100) (by omega)
    · exact Ux (Zh (n:=x.secs):_<=100) (by omega)
    · exact Ux (Jo x.free:_<=100) (by omega)
   obtain⟨yr,hyr⟩: ∃ yr,jZ [(kw 8),e0.id,e1.id,(jc x.secs),(kG x.free)]++[10]=yr:=⟨_,rfl⟩;have hyl: ¬ 9223372036854775807<xs.length+yr.length:=by have:=SS [(kw 8),e0.id,e1.id,(jc x.secs),(kG x.free)];rw[<-hyr,U1];simp only[U7,List.length_nil];omega
   have HYR:=qA hyr;clear hyr;have m0:Bl w1 w1.drew:=qH (qB w1);refine wp_region_held_drew (S:=(fun W'=>W'.cell? ⟨wr.heap.size,0,none⟩=some (.int .i64 (q0:Int))/\W'.cell? ⟨wr.heap.size,1,none⟩=some (.int .i64 (q1:Int))/\W'.cell? ⟨wr.heap.size,2,none⟩=some (.int .i64 x.secs)/\W'.cell? ⟨wr.heap.size,3,none⟩=some (.bool x.free)/\W'.cell? ⟨w.heap.size,0,none⟩=some (.slice (some ⟨b0,o0,none⟩) t.stops.length k0)/\W'.cell? ⟨b0,o0+q0*4,none⟩=some (qP e0.id)/\W'.cell? ⟨b0,o0+q1*4,none⟩=some (qP e1.id))) (by kernel_rfl) (HS1.out _ (qH (qB w1))) (fun hHeld=>?_);refine qI 0 ?_;try simp only[Act.put]
   refine qI 1 ?_;try simp only[Act.put]
   refine qI 2 ?_;try simp only[Act.put]
   refine qI 3 ?_;try simp only[Act.put]
   refine qI 4 ?_;try simp only[Act.put]
   refine qI 5 ?_;try simp only[Act.put]
   refine qI 6 ?_;try simp only[Act.put]
   refine qI 7 ?_;try simp only[Act.put]
   refine qI 8 ?_;try simp only[Act.put]
   refine qI 9 ?_;try simp only[Act.put]
   refine qI 10 ?_;try simp only[Act.put]
   refine qI 11 ?_;try simp only[Act.put]
   refine qI 12 ?_;try simp only[Act.put]
   refine qI 13 ?_;try simp only[Act.put]
   refine qI 14 ?_;try simp only[Act.put]
   refine qI 15 ?_;try simp only[Act.put]
   refine qI 16 ?_;try simp only[Act.put]
   refine qI 18 ?_;try simp only[Act.put]
   refine qI 19 ?_;try simp only[Act.put]
   refine zh 17 (fun KK hKK=>?_);go_simp;go_at_call 90
   refine(S9 x.secs (jc x.secs) (Ck.gW x.secs).2 (qA (Prod.ext (Yx x.secs) rfl)) _).mono ?_;rintro y1 z1 ⟨rfl,b1⟩;have m1:Bl w1 z1:=qF m0 b1;clear b1;clear hHeld;refine hKK.out _ _ ?_ (fun hHeld=>?_)
   · exact HS1.out _ m1
   clear hKK KK;try simp only[Act.put]
   refine zh 20 (fun KK hKK=>?_);go_simp;go_at_call 85
   refine(TQ x.free _).mono ?_;rintro y2 z2 ⟨rfl,b2⟩;have m2:Bl w1 z2:=by rw[b2];exact m1
   clear b2;clear hHeld;refine hKK.out _ _ ?_ (fun hHeld=>?_)
   · exact HS1.out _ m2
   clear hKK KK;try simp only[Act.put]
   refine zh 21 (fun KK hKK=>?_);go_simp;skip
   clear hHeld;refine hKK.out _ _ ?_ (fun hHeld=>?_)
   · exact HS1.out _ (qE m2 _)
   clear hKK KK;try simp only[Act.put]
   refine zh 22 (fun KK hKK=>?_);go_simp;go_at_call 83
   refine(Sl _ [(kw 8),e0.id,e1.id,(jc x.secs),(kG x.free)] HFL _ _ (vJ (cells:=strCells) (sz:=1) (fun _=>rfl) [(kw 8),e0.id,e1.id,(jc x.secs),(kG x.free)] z2 #[.string ⟨#[112,97,116,104]⟩,qP e0.id,qP e1.id,qP (jc x.secs),qP (kG x.free)] 9 5 5 rfl (U3 _) (by unfold maxLen;omega) rfl) (U3 _)).mono ?_;rw[HYR.out];rintro y9 w9 ⟨rfl,b9⟩;have M9:Bl w1 w9:=qF (qE m2 _) b9;have HS9:=qA (HW1.out.bl M9);clear hHeld;refine hKK.out _ _ ?_ (fun hHeld=>?_)
   · exact HS1.out _ M9
   clear hKK KK;try simp only[Act.put]
   refine qI 23 ?_;try simp only[Act.put]
   refine qI 24 ?_;try simp only[Act.put]
   refine wpAnyH_done (by kernel_rfl) ?_ _;try change Exit.then _ _ .normal _ w9
   clear HS1 HFL b9 M9 m0 m1 m2;have HT10:=qA (HT.out.row hx HYR.out (f:=(Q7 t)) (A:=A0) (by unfold Q7;rw[hq0,Qv he0,hq1,Qv he1]));clear HS HT hxl hll hyl;go_wp2;go_roundw;case rel=>exact⟨k+1,xs++yr,⟨by omega,by go_num,SV xs yr⟩,HT10,HS9⟩
   case measure=>simp[intOf];omega
  ·
   skip
   have HTe:SY (A0++t.paths.map (Q7 t)) xs:=by have:=HT.out;rw[U9 (by omega)]at this;exact this
   obtain⟨A1,hA1⟩: ∃ A',A0++t.paths.map (Q7 t)=A':=⟨_,rfl⟩;rw[hA1]at HTe;have HA1:=qA hA1;have lA1:A1.length<=512:=by rw[<-hA1,U1,U4];omega
   clear HT hA1;have HT:=qA HTe;clear HTe;have uu0:wr.cell? ⟨w.heap.size,9,none⟩=some (.slice a9 t.fares.prods.length k9):=qC HS.out.tt 9 _ rfl;have uu1:wr.cell? ⟨w.heap.size,10,none⟩=some (.int .i64 t.fares.disc):=qC HS.out.tt 10 _ rfl;have uu2:wr.cell? ⟨w.heap.size,11,none⟩=some (.int .i64 t.fares.within):=qC HS.out.tt 11 _ rfl;have uu3:wr.cell? ⟨w.heap.size,12,none⟩=some (.int .i64 t.fares.cap):=qC HS.out.tt 12 _ rfl;rename World=>wo
   obtain⟨wf,hwf⟩: ∃ w1,wo.alloc (.cells #[.slice a9 t.fares.prods.length k9, .int .i64 t.fares.disc, .int .i64 t.fares.within, .int .i64 t.fares.cap] 34)=w1:=⟨_,rfl⟩;have HX:=qA (show wf.heap[wo.heap.size]? =some (.cells #[.slice a9 t.fares.prods.length k9, .int .i64 t.fares.disc, .int .i64 t.fares.within, .int .i64 t.fares.cap] 34 (0,0)) by rw[<-hwf];exact heap_alloc_new wo _);have bf:Bl wo wf:=by rw[<-hwf];exact qE (qB _) _
   have HWF:=qA (HS.out.bl bf);have lx:wo.heap.size<wf.heap.size:=lt_of_block HX.out;have t0:wf.cell? ⟨wo.heap.size,0,none⟩=some (.slice a9 t.fares.prods.length k9):=qC HX.out 0 _ rfl;have t1:wf.cell? ⟨wo.heap.size,1,none⟩=some (.int .i64 t.fares.disc):=qC HX.out 1 _ rfl;have t2:wf.cell? ⟨wo.heap.size,2,none⟩=some (.int .i64 t.fares.within):=qC HX.out 2 _ rfl;have t3:wf.cell? ⟨wo.heap.size,3,none⟩=some (.int .i64 t.fares.cap):=qC HX.out 3 _ rfl;have T0:=qA t0;clear bf HS;obtain⟨A2,hA2⟩: ∃ A2,A1++dK t=A2:=⟨_,rfl⟩;have HA2:=qA hA2;have lA2:A2.length<=513:=by rw[<-hA2,U1];unfold dK;split<;>simp<;>omega
   clear hA2;obtain⟨bz,hbz⟩: ∃ bz,decide (t.fares.disc=0/\t.fares.within=0/\t.fares.cap=0)=bz:=⟨_,rfl⟩;have HBZ:=qA hbz;clear hbz;go_upto_region 8 with fail
   clear hwf uu0 uu1 uu2 uu3;go_cut [61] from 113 (fun s wx=>s= .bool (!bz)/\Hid (wx=wf))
   case first=>
    by_cases e1:t.fares.disc=0
    ·
     by_cases e2:t.fares.within=0
     ·
      by_cases e3:t.fares.cap=0
      ·
       have hb:bz=true:=by rw[<-HBZ.out];simp[e1,e2,e3]
       have f1:(t.fares.disc != 0)=false:=by rw[bne_eq_false_iff_eq];exact e1
       have f2:(t.fares.within != 0)=false:=by rw[bne_eq_false_iff_eq];exact e2
       have f3:(t.fares.cap != 0)=false:=by rw[bne_eq_false_iff_eq];exact e3
       clear e1 e2 e3;go_wp2;go_meet
       case rel=>exact⟨by rw[hb];rfl,qA rfl⟩
      ·
       have hb:bz=false:=by rw[<-HBZ.out];simp[e1,e2,e3]
       have f1:(t.fares.disc != 0)=false:=by rw[bne_eq_false_iff_eq];exact e1
       have f2:(t.fares.within != 0)=false:=by rw[bne_eq_false_iff_eq];exact e2
       have f3:(t.fares.cap != 0)=true:=by rw[bne_iff_ne];exact e3
       clear e1 e2 e3;go_wp2;go_meet
       case rel=>exact⟨by rw[hb];rfl,qA rfl⟩
     ·
      have hb:bz=false:=by rw[<-HBZ.out];simp[e1,e2]
      have f1:(t.fares.disc != 0)=false:=by rw[bne_eq_false_iff_eq];exact e1
      have f2:(t.fares.within != 0)=true:=by rw[bne_iff_ne];exact e2
      clear e1 e2;go_wp2;go_meet
      case rel=>exact⟨by rw[hb];rfl,qA rfl⟩
    ·
     have hb:bz=false:=by rw[<-HBZ.out];simp[e1]
     have f1:(t.fares.disc != 0)=true:=by rw[bne_iff_ne];exact e1
     clear e1;go_wp2;go_meet
     case rel=>exact⟨by rw[hb];rfl,qA rfl⟩
   case rest=>
    obtain⟨rfl,hwc⟩:=hcut;obtain rfl:=hwc.out.symm;clear hwc;go_upto_if 61 with fail
    go_cut [3] from 113 (fun s wx=> ∃ xs:List UInt8,s=qP xs/\Hid (SY A2 xs)/\Hid (FS B w.heap.size (JQ t ts a0 k0 a1 k1 a2 k2 a3 k3 a4 k4 a5 k5 a6 k6 a7 k7 a8 k8 a9 k9) ts t w wx)/\Hid (Bl wf wx))
    case first=>
     rename_i J0 K0 hJ0 hK0;cases bz with
     |true=>
      have HT2:Hid (SY A2 xs):=by show SY _ _;rw[<-HA2.out,show dK t=[] from U6 (of_decide_eq_true HBZ.out),List.append_nil];exact HT.out
      go_wp2;go_meet
      case rel=>exact⟨xs,rfl,HT2,HWF,qB _⟩
     |false=>
      have hll:A1.length<=1000000:=by omega
      have hxl:=HT.out.bound hll;go_wp2_with fail;have HS1:Hid (∀ W,Bl wf W->(fun W'=>W'.cell? ⟨wo.heap.size,1,none⟩=some (.int .i64 t.fares.disc)/\W'.cell? ⟨wo.heap.size,2,none⟩=some (.int .i64 t.fares.within)/\W'.cell? ⟨wo.heap.size,3,none⟩=some (.int .i64 t.fares.cap)) W):=fun W k=>⟨((qG k).1 _ _ lx).trans t1,((qG k).1 _ _ lx).trans t2,((qG k).1 _ _ lx).trans t3⟩
      have HFL:Hid (∀ y∈([(kw 11),(qW t.fares.disc).1,(jc t.fares.within),(qW t.fares.cap).1]:List (List UInt8)),y.length<=131072):=fun y hy=>by
       simp only[List.mem_cons,List.not_mem_nil,or_false]at hy;rcases hy with rfl|rfl|rfl|rfl
       · exact Ux ((by decide):_<=100) (by omega)
       · exact Ux (ZG (c:=t.fares.disc):_<=100) (by omega)
       · exact Ux (Zh (n:=t.fares.within):_<=100) (by omega)
       · exact Ux (ZG (c:=t.fares.cap):_<=100) (by omega)
      obtain⟨yr,hyr⟩: ∃ yr,jZ [(kw 11),(qW t.fares.disc).1,(jc t.fares.within),(qW t.fares.cap).1]++[10]=yr:=⟨_,rfl⟩;have hyl: ¬ 9223372036854775807<xs.length+yr.length:=by have:=SS [(kw 11),(qW t.fares.disc).1,(jc t.fares.within),(qW t.fares.cap).1];rw[<-hyr,U1];simp only[U7,List.length_nil];omega
      have HYR:=qA hyr;clear hyr;have m0:Bl wf wf.drew:=qH (qB wf);refine wp_region_held_drew (S:=(fun W'=>W'.cell? ⟨wo.heap.size,1,none⟩=some (.int .i64 t.fares.disc)/\W'.cell? ⟨wo.heap.size,2,none⟩=some (.int .i64 t.fares.within)/\W'.cell? ⟨wo.heap.size,3,none⟩=some (.int .i64 t.fares.cap))) (by kernel_rfl) (HS1.out _ (qH (qB wf))) (fun hHeld=>?_);refine qI 0 ?_;try simp only[Act.put]
      refine qI 1 ?_;try simp only[Act.put]
      refine qI 2 ?_;try simp only[Act.put]
      refine qI 4 ?_;try simp only[Act.put]
      refine qI 5 ?_;try simp only[Act.put]
      refine qI 7 ?_;try simp only[Act.put]
      refine qI 8 ?_;try simp only[Act.put]
      refine zh 3 (fun KK hKK=>?_);go_simp;go_at_call 91
      refine(TJ t.fares.disc (qW t.fares.disc).1 (qW t.fares.disc).2 (qA rfl) _).mono ?_;rintro y1 z1 ⟨rfl,b1⟩;have m1:Bl wf z1:=by rw[b1];exact m0
      clear b1;clear hHeld;refine hKK.out _ _ ?_ (fun hHeld=>?_)
      · exact HS1.out _ m1
      clear hKK KK;try simp only[Act.put]
      refine zh 6 (fun KK hKK=>?_);go_simp;go_at_call 90
      refine(S9 t.fares.within (jc t.fares.within) (Ck.gW t.fares.within).2 (qA (Prod.ext (Yx t.fares.within) rfl)) _).mono ?_;rintro y2 z2 ⟨rfl,b2⟩;have m2:Bl wf z2:=qF m1 b2;clear b2;clear hHeld;refine hKK.out _ _ ?_ (fun hHeld=>?_)
      · exact HS1.out _ m2
      clear hKK KK;try simp only[Act.put]
      refine zh 9 (fun KK hKK=>?_);go_simp;go_at_call 91
      refine(TJ t.fares.cap (qW t.fares.cap).1 (qW t.fares.cap).2 (qA rfl) _).mono ?_;rintro y3 z3 ⟨rfl,b3⟩;have m3:Bl wf z3:=by rw[b3];exact m2
      clear b3;clear hHeld;refine hKK.out _ _ ?_ (fun hHeld=>?_)
      · exact HS1.out _ m3
      clear hKK KK;try simp only[Act.put]
      refine zh 10 (fun KK hKK=>?_);go_simp;skip
      clear hHeld;refine hKK.out _ _ ?_ (fun hHeld=>?_)
      · exact HS1.out _ (qE m3 _)
      clear hKK KK;try simp only[Act.put]
      refine zh 11 (fun KK hKK=>?_);go_simp;go_at_call 83
      refine(Sl _ [(kw 11),(qW t.fares.disc).1,(jc t.fares.within),(qW t.fares.cap).1] HFL _ _ (vJ (cells:=strCells) (sz:=1) (fun _=>rfl) [(kw 11),(qW t.fares.disc).1,(jc t.fares.within),(qW t.fares.cap).1] z3 #[.string ⟨#[102,97,114,101,115]⟩,qP (qW t.fares.disc).1,qP (jc t.fares.within),qP (qW t.fares.cap).1] 9 4 4 rfl (U3 _) (by unfold maxLen;omega) rfl) (U3 _)).mono ?_;rw[HYR.out];rintro y9 w9 ⟨rfl,b9⟩;have M9:Bl wf w9:=qF (qE m3 _) b9;have HS9:=qA (HWF.out.bl M9);clear hHeld;refine hKK.out _ _ ?_ (fun hHeld=>?_)
      · exact HS1.out _ M9
      clear hKK KK;try simp only[Act.put]
      refine qI 12 ?_;try simp only[Act.put]
      refine qI 13 ?_;try simp only[Act.put]
      refine wpAnyH_done (by kernel_rfl) ?_ _;try change Exit.then _ _ .normal _ w9
      have HB9:=qA M9;clear HS1 HFL b9 M9 m0 m1 m2 m3;have HT2:Hid (SY A2 (xs++yr)):=by show SY _ _;rw[<-HA2.out,show dK t=[iG t] from U5 (of_decide_eq_false HBZ.out)];exact HT.out.snoc HYR.out rfl
      refine hK0 _ _ (Met.intro (hJ0 _ _ ?_));repeat apply Exists.intro
      refine⟨?rel,rfl⟩;case rel=>exact⟨xs++yr,SV xs yr,HT2,HS9,HB9⟩
    case rest=>
     obtain⟨xs,rfl,HT,HS,HBX⟩:=hcut;clear HX HWF t0 t1 t2 t3;go_wp2_with fail;go_loopw [7,3] (fun i s wr=> ∃ (k:Nat) (xs:List UInt8),(k<=t.fares.prods.length/\i= .int .i64 k/\s=qP xs)/\Hid (SY (A2++(t.fares.prods.take k).map Jf) xs)/\Hid (FS B w.heap.size (JQ t ts a0 k0 a1 k1 a2 k2 a3 k3 a4 k4 a5 k5 a6 k6 a7 k7 a8 k8 a9 k9) ts t w wr)/\Hid (Bl wf wr)) (fun i _ _=>t.fares.prods.length-(intOf i).toNat)
     case atStart=>exact⟨0,xs,⟨qAD _,rfl,rfl⟩,by show SY _ _;rw[List.take_zero,List.map_nil,List.append_nil];exact HT.out,HS,HBX⟩
     case round=>
      clear HS HT HBX;obtain⟨k,xs,⟨hk,rfl,rfl⟩,HT,HS,HBX⟩:=hrel;have x0:wr.cell? ⟨wo.heap.size,0,none⟩=some (.slice a9 t.fares.prods.length k9):=((qG HBX.out).1 _ _ lx).trans T0.out;by_cases hlx:k<t.fares.prods.length
      ·
       obtain⟨x,hx⟩: ∃ x,t.fares.prods[k]? =some x:=⟨_,U2 hlx⟩;obtain⟨bx,ox,rfl,lx,cx⟩:=HS.out.rd.prods.openB (by first|omega|(rw[U4];omega));have hxm:=Uz hx;have hkI:(k:Int)<(t.fares.prods.length:Int):=by omega
       have hll:(A2++(t.fares.prods.take k).map Jf).length<=1000000:=by have:=xC A2 t.fares.prods Jf k;omega
       have hxl:=HT.out.bound hll;obtain⟨hid,hpr,⟨z0,z1⟩,⟨g0,g1⟩,hse,hmo⟩:=HV.out.prods x hxm;have d0:wr.cell? ⟨bx,ox+k*6,none⟩=some (qP x.id):=by exact cx k _ hx 0 _ rfl
       have d1:wr.cell? ⟨bx,ox+k*6+1,none⟩=some (.int .i64 x.price):=by exact cx k _ hx 1 _ rfl
       have d2:wr.cell? ⟨bx,ox+k*6+2,none⟩=some (.int .i64 x.rides):=by exact cx k _ hx 2 _ rfl
       have d3:wr.cell? ⟨bx,ox+k*6+3,none⟩=some (.int .i64 x.zones):=by exact cx k _ hx 3 _ rfl
       have d4:wr.cell? ⟨bx,ox+k*6+4,none⟩=some (.int .i64 x.secs):=by exact cx k _ hx 4 _ rfl
       have d5:wr.cell? ⟨bx,ox+k*6+5,none⟩=some (.int .i64 x.modes):=by exact cx k _ hx 5 _ rfl
       obtain⟨w1,hw1⟩: ∃ w1,wr.alloc (.cells #[qP x.id, .int .i64 x.price, .int .i64 x.rides, .int .i64 x.zones, .int .i64 x.secs, .int .i64 x.modes] 65)=w1:=⟨_,rfl⟩;have HX:=qA (show w1.heap[wr.heap.size]? =some (.cells #[qP x.id, .int .i64 x.price, .int .i64 x.rides, .int .i64 x.zones, .int .i64 x.secs, .int .i64 x.modes] 65 (0,0)) by rw[<-hw1];exact heap_alloc_new wr _);have b1:Bl wr w1:=by rw[<-hw1];exact qE (qB _) _
       have HW1:=qA (HS.out.bl b1);have lp:wr.heap.size<w1.heap.size:=lt_of_block HX.out;have t0:w1.cell? ⟨wr.heap.size,0,none⟩=some (qP x.id):=qC HX.out 0 _ rfl;have t1:w1.cell? ⟨wr.heap.size,1,none⟩=some (.int .i64 x.price):=qC HX.out 1 _ rfl;have t2:w1.cell? ⟨wr.heap.size,2,none⟩=some (.int .i64 x.rides):=qC HX.out 2 _ rfl;have t3:w1.cell? ⟨wr.heap.size,3,none⟩=some (.int .i64 x.zones):=qC HX.out 3 _ rfl;have t4:w1.cell? ⟨wr.heap.size,4,none⟩=some (.int .i64 x.secs):=qC HX.out 4 _ rfl;have t5:w1.cell? ⟨wr.heap.size,5,none⟩=some (.int .i64 x.modes):=qC HX.out 5 _ rfl;clear b1;have HBY:=qA (show Bl wf w1 by rw[<-hw1];exact qE HBX.out _);clear cx;go_wp2_with (go_at_call 92;refine(UL x.modes hmo _).mono ?_;rintro y2 w2 ⟨rfl,bm⟩)
       clear hw1 d0 d1 d2 d3 d4 d5 x0;have HW2:=qA (HW1.out.bl bm);have HBW:=qA (qF HBY.out bm);have lq:=Nat.lt_of_lt_of_le lp bm.size;have s0:w2.cell? ⟨wr.heap.size,0,none⟩=some (qP x.id):=((qG bm).1 _ _ lp).trans t0;have s1:w2.cell? ⟨wr.heap.size,1,none⟩=some (.int .i64 x.price):=((qG bm).1 _ _ lp).trans t1;have s2:w2.cell? ⟨wr.heap.size,2,none⟩=some (.int .i64 x.rides):=((qG bm).1 _ _ lp).trans t2;have s3:w2.cell? ⟨wr.heap.size,3,none⟩=some (.int .i64 x.zones):=((qG bm).1 _ _ lp).trans t3;have s4:w2.cell? ⟨wr.heap.size,4,none⟩=some (.int .i64 x.secs):=((qG bm).1 _ _ lp).trans t4;clear bm t0 t1 t2 t3 t4 t5;have HS1:Hid (∀ W,Bl w2 W->(fun W'=>W'.cell? ⟨wr.heap.size,0,none⟩=some (qP x.id)/\W'.cell? ⟨wr.heap.size,1,none⟩=some (.int .i64 x.price)/\W'.cell? ⟨wr.heap.size,2,none⟩=some (.int .i64 x.rides)/\W'.cell? ⟨wr.heap.size,3,none⟩=some (.int .i64 x.zones)/\W'.cell? ⟨wr.heap.size,4,none⟩=some (.int .i64 x.secs)) W):=fun W k=>⟨((qG k).1 _ _ lq).trans s0,((qG k).1 _ _ lq).trans s1,((qG k).1 _ _ lq).trans s2,((qG k).1 _ _ lq).trans s3,((qG k).1 _ _ lq).trans s4⟩
       have HFL:Hid (∀ y∈([(kw 9),x.id,(qW x.price).1,(jO x.rides),(jO x.zones),(jc x.secs),(vU x.modes)]:List (List UInt8)),y.length<=131072):=fun y hy=>by
        simp only[List.mem_cons,List.not_mem_nil,or_false]at hy;rcases hy with rfl|rfl|rfl|rfl|rfl|rfl|rfl
        · exact Ux ((by decide):_<=100) (by omega)
        · exact Ux ((Ux hid (by omega)):_<=100) (by omega)
        · exact Ux (ZG (c:=x.price):_<=100) (by omega)
        · exact Ux (Qd (n:=x.rides) ⟨by omega,by omega⟩:_<=100) (by omega)
        · exact Ux (Qd (n:=x.zones) ⟨by omega,by omega⟩:_<=100) (by omega)
        · exact Ux (Zh (n:=x.secs):_<=100) (by omega)
        · exact Ux ((dm hmo):_<=100) (by omega)
       obtain⟨yr,hyr⟩: ∃ yr,jZ [(kw 9),x.id,(qW x.price).1,(jO x.rides),(jO x.zones),(jc x.secs),(vU x.modes)]++[10]=yr:=⟨_,rfl⟩;have hyl: ¬ 9223372036854775807<xs.length+yr.length:=by have:=SS [(kw 9),x.id,(qW x.price).1,(jO x.rides),(jO x.zones),(jc x.secs),(vU x.modes)];rw[<-hyr,U1];simp only[U7,List.length_nil];omega
       have HYR:=qA hyr;clear hyr;have m0:Bl w2 w2.drew:=qH (qB w2);refine wp_region_held_drew (S:=(fun W'=>W'.cell? ⟨wr.heap.size,0,none⟩=some (qP x.id)/\W'.cell? ⟨wr.heap.size,1,none⟩=some (.int .i64 x.price)/\W'.cell? ⟨wr.heap.size,2,none⟩=some (.int .i64 x.rides)/\W'.cell? ⟨wr.heap.size,3,none⟩=some (.int .i64 x.zones)/\W'.cell? ⟨wr.heap.size,4,none⟩=some (.int .i64 x.secs))) (by kernel_rfl) (HS1.out _ (qH (qB w2))) (fun hHeld=>?_);refine qI 0 ?_;try simp only[Act.put]
       refine qI 1 ?_;try simp only[Act.put]
       refine qI 2 ?_;try simp only[Act.put]
       refine qI 3 ?_;try simp only[Act.put]
       refine qI 4 ?_;try simp only[Act.put]
       refine qI 6 ?_;try simp only[Act.put]
       refine qI 7 ?_;try simp only[Act.put]
       refine qI 9 ?_;try simp only[Act.put]
       refine qI 10 ?_;try simp only[Act.put]
       refine qI 12 ?_;try simp only[Act.put]
       refine qI 13 ?_;try simp only[Act.put]
       refine qI 15 ?_;try simp only[Act.put]
       refine zh 5 (fun KK hKK=>?_);go_simp;go_at_call 91
       refine(TJ x.price (qW x.price).1 (qW x.price).2 (qA rfl) _).mono ?_;rintro y1 z1 ⟨rfl,b1⟩;have m1:Bl w2 z1:=by rw[b1];exact m0
       clear b1;clear hHeld;refine hKK.out _ _ ?_ (fun hHeld=>?_)
       · exact HS1.out _ m1
       clear hKK KK;try simp only[Act.put]
       refine zh 8 (fun KK hKK=>?_);go_simp;go_at_call 84
       refine(Nu.oL x.rides (by omega) (by omega) _).mono ?_;rintro y2 z2 ⟨rfl,b2⟩;have m2:Bl w2 z2:=by rw[<-b2];exact m1
       clear b2;clear hHeld;refine hKK.out _ _ ?_ (fun hHeld=>?_)
       · exact HS1.out _ m2
       clear hKK KK;try simp only[Act.put]
       refine zh 11 (fun KK hKK=>?_);go_simp;go_at_call 84
       refine(Nu.oL x.zones (by omega) (by omega) _).mono ?_;rintro y3 z3 ⟨rfl,b3⟩;have m3:Bl w2 z3:=by rw[<-b3];exact m2
       clear b3;clear hHeld;refine hKK.out _ _ ?_ (fun hHeld=>?_)
       · exact HS1.out _ m3
       clear hKK KK;try simp only[Act.put]
       refine zh 14 (fun KK hKK=>?_);go_simp;go_at_call 90
       refine(S9 x.secs (jc x.secs) (Ck.gW x.secs).2 (qA (Prod.ext (Yx x.secs) rfl)) _).mono ?_;rintro y4 z4 ⟨rfl,b4⟩;have m4:Bl w2 z4:=qF m3 b4;clear b4;clear hHeld;refine hKK.out _ _ ?_ (fun hHeld=>?_)
       · exact HS1.out _ m4
       clear hKK KK;try simp only[Act.put]
       refine zh 16 (fun KK hKK=>?_);go_simp;skip
       clear hHeld;refine hKK.out _ _ ?_ (fun hHeld=>?_)
       · exact HS1.out _ (qE m4 _)
       clear hKK KK;try simp only[Act.put]
       refine zh 17 (fun KK hKK=>?_);go_simp;go_at_call 83
       refine(Sl _ [(kw 9),x.id,(qW x.price).1,(jO x.rides),(jO x.zones),(jc x.secs),(vU x.modes)] HFL _ _ (vJ (cells:=strCells) (sz:=1) (fun _=>rfl) [(kw 9),x.id,(qW x.price).1,(jO x.rides),(jO x.zones),(jc x.secs),(vU x.modes)] z4 #[.string ⟨#[112,114,111,100,117,99,116]⟩,qP x.id,qP (qW x.price).1,qP (jO x.rides),qP (jO x.zones),qP (jc x.secs),qP (vU x.modes)] 9 7 7 rfl (U3 _) (by unfold maxLen;omega) rfl) (U3 _)).mono ?_;rw[HYR.out];rintro y9 w9 ⟨rfl,b9⟩;have M9:Bl w2 w9:=qF (qE m4 _) b9;have HS9:=qA (HW2.out.bl M9);clear hHeld;refine hKK.out _ _ ?_ (fun hHeld=>?_)
       · exact HS1.out _ M9
       clear hKK KK;try simp only[Act.put]
       refine qI 18 ?_;try simp only[Act.put]
       refine qI 19 ?_;try simp only[Act.put]
       refine wpAnyH_done (by kernel_rfl) ?_ _;try change Exit.then _ _ .normal _ w9
       have HB9:=qA (qF HBW.out M9);clear HS1 HFL b9 M9 m0 m1 m2 m3 m4;have HT10:=qA (HT.out.row hx HYR.out (f:=Jf) (A:=A2) rfl);clear HS HT hxl hll hyl;go_wp2;go_roundw;case rel=>exact⟨k+1,xs++yr,⟨by omega,by go_num,SV xs yr⟩,HT10,HS9,HB9⟩
       case measure=>simp[intOf];omega
      ·
       skip
       have HTe:SY (A2++t.fares.prods.map Jf) xs:=by have:=HT.out;rw[U9 (by omega)]at this;exact this
       obtain⟨A3,hA3⟩: ∃ A',A2++t.fares.prods.map Jf=A':=⟨_,rfl⟩;rw[hA3]at HTe;have HA3:=qA hA3;have lA3:A3.length<=600:=by rw[<-hA3,U1,U4];omega
       clear HT hA3;have HT:=qA HTe;clear HTe;have HF:Hid (SY (TL t) xs):=by show SY _ _;have:=HT.out;rw[<-HA3.out,<-HA2.out,<-HA1.out,<-HA0.out]at this;exact this
       have HBE:=qA HS.out.bel;clear HT HS;go_wp2;go_ret;exact⟨⟨xs,rfl,HF⟩,HBE.out⟩
theorem Ti (t:TtD):vK (TC t)++vK (Sz t)++vK (TL t)=vK (JO t):=by
 unfold TC Sz TL JO dK vK;simp only[List.append_assoc,List.nil_append,List.flatMap_append];rfl
theorem Tz {t:TtD} (l:Rj t):(TC t).length<=1000000:=by
 have h1:=l.stops;have h2:=l.routes;have h3:=l.cals;have h4:=l.excs;unfold TC;simp only[U1,U4,List.length_nil];omega
theorem TZ {t:TtD} (l:Rj t):(Sz t).length<=1000000:=by
 have h0:=Vt (t:=t) t.trips l.calls;have h1:=l.trips;have h2:=l.freqs;have h3:=l.thrus;have h4:=l.guars;unfold Sz;simp only[U1,U4,List.length_nil];omega
theorem UG {t:TtD} (l:Rj t):(TL t).length<=1000000:=by
 have h1:=l.paths;have h2:=l.prods;have h3:(dK t).length<=1:=by unfold dK;split<;>simp
 unfold TL;simp only[U1,U4,List.length_nil];omega
theorem Tj (x y:List UInt8):(⟨x.toArray⟩++⟨y.toArray⟩:ByteArray)=⟨(x++y).toArray⟩:=by
 apply ByteArray.ext
 simp
theorem TT {t:TtD} {s:List UInt8} {e:Int} (h:xI t=(s,e)) (hv:(Qj t).2.2=0):(65536<(vK (JO t)).length/\s=[]/\e=5)∨((vK (JO t)).length<=65536/\s=vK (JO t)/\e=0):=by
 unfold xI at h;rw[U5 (fun k=>k hv)]at h;unfold Zu at h;rw[U5 (by rw[Dw];decide)]at h;split at h
 ·
  rename_i hl;rw[qAF]at h;exact .inl ⟨hl,h.1.symm,h.2.symm⟩
 ·
  rename_i hl;rw[qAF]at h;exact .inr ⟨by omega,h.1.symm,h.2.symm⟩
theorem UE (V:TtV) (ts:List TripD) (t:TtD) (s:List UInt8) (e:Int) (H:Hid (xI t=(s,e))) (ok:Hid (ZZ t)) (B:Nat) (w:World) (rd:yA B w V ts t) (hB:B<=w.heap.size):
  Calls Tryz.prog 15 #[JP V t] w fun q w'=>q= .returned (.tuple #[qP s, .int .i64 e])/\Bl w w':=by
 have RA:=qA rd;obtain⟨v0,v1,v2,v3,v4,v5,v6,v7,v8,v9⟩:=V;obtain⟨a0,k0,(rfl:v0=_),-,-⟩:=rd.stops.val;obtain⟨a1,k1,(rfl:v1=_),-,-⟩:=rd.routes.val;obtain⟨a2,k2,(rfl:v2=_),-,-⟩:=rd.cals.val;obtain⟨a3,k3,(rfl:v3=_),-,-⟩:=rd.excs.val;obtain⟨a4,k4,(rfl:v4=_),-,-⟩:=rd.trips.sl.val;obtain⟨a5,k5,(rfl:v5=_),-,-⟩:=rd.freqs.val;obtain⟨a6,k6,(rfl:v6=_),-,-⟩:=rd.thrus.val;obtain⟨a7,k7,(rfl:v7=_),-,-⟩:=rd.guars.val;obtain⟨a8,k8,(rfl:v8=_),-,-⟩:=rd.paths.val;obtain⟨a9,k9,(rfl:v9=_),-,-⟩:=rd.prods.val;obtain⟨⟨q1,q2,q3⟩,hq⟩: ∃ p,Qj t=p:=⟨_,rfl⟩;have HQ:=qA hq;clear rd hq;unfold JP;simp only[U4]at RA ⊢;obtain⟨w2,hw2⟩: ∃ w2,w.alloc (.cells #[.slice a0 t.stops.length k0, .slice a1 t.routes.length k1, .slice a2 t.cals.length k2, .slice a3 t.excs.length k3, .slice a4 ts.length k4, .slice a5 t.freqs.length k5, .slice a6 t.thrus.length k6, .slice a7 t.guars.length k7, .slice a8 t.paths.length k8, .slice a9 t.fares.prods.length k9, .int .i64 t.fares.disc, .int .i64 t.fares.within, .int .i64 t.fares.cap] 36)=w2:=⟨_,rfl⟩;have HA:=qA (show w2.heap[w.heap.size]? =some (.cells #[.slice a0 t.stops.length k0, .slice a1 t.routes.length k1, .slice a2 t.cals.length k2, .slice a3 t.excs.length k3, .slice a4 ts.length k4, .slice a5 t.freqs.length k5, .slice a6 t.thrus.length k6, .slice a7 t.guars.length k7, .slice a8 t.paths.length k8, .slice a9 t.fares.prods.length k9, .int .i64 t.fares.disc, .int .i64 t.fares.within, .int .i64 t.fares.cap] 36 (0,0)) by rw[<-hw2];exact heap_alloc_new w _);have B2:=qA (show Bl w w2 by rw[<-hw2];exact qE (qB _) _);have R2:=qA (RA.out.bl B2.out hB);have hck:=RG ⟨.slice a0 t.stops.length k0, .slice a1 t.routes.length k1, .slice a2 t.cals.length k2, .slice a3 t.excs.length k3, .slice a4 ts.length k4, .slice a5 t.freqs.length k5, .slice a6 t.thrus.length k6, .slice a7 t.guars.length k7, .slice a8 t.paths.length k8, .slice a9 t.fares.prods.length k9⟩ ts t q1 q2 q3 HQ ok.out B w2 R2.out (Ux hB B2.out.size);unfold JP at hck;simp only at hck;have HE:=qA hck;obtain⟨p0,p1,p2,p3,p4,p5,p6,p7,p8,p9,p10,p11,p12⟩:=kW HA.out;by_cases h0:q3=0
 rotate_left
 ·
  have g1:(q3 != 0)=true:=by rw[bne_iff_ne];exact h0
  have HF:Hid (([],q3)=(s,e)):=by show _=_;rw[<-H.out];unfold xI;rw[HQ.out,U6 h0]
  obtain⟨d1,d2⟩:=qAE HF.out;clear HF H;subst d1 d2;clear h0;go_enter Tryz.func15,Tryz.ntmps15
  go_wp2_with (go_at_call 16;refine hck.mono ?_;rintro y1 w1 ⟨rfl,b1⟩)
  go_ret2;exact⟨rfl,qF B2.out b1⟩
 subst h0;have hv:(Qj t).2.2=0:=by rw[HQ.out]
 have HV:=qA hv;have VD:Hid (AY t):=rG hv;have LM:Hid (Rj t):=Om hv;have HT:=qA (TT H.out hv);have l1:=qA (Tz LM.out);have l2:=qA (TZ LM.out);have l3:=qA (UG LM.out);clear hv H;go_enter Tryz.func15,Tryz.ntmps15
 go_wp2_with (go_at_call 16;refine hck.mono ?_;rintro y1 w1 ⟨rfl,b1⟩)
 clear hw2 hck p0 p1 p2 p3 p4 p5 p6 p7 p8 p9 p10 p11 p12;have HA1:=qA (qX HA.out b1);have B1:=qA (qF B2.out b1);have R1:=qA (R2.out.bl b1 (Ux hB B2.out.size));have hzB:B<=w1.heap.size:=Ux hB B1.out.size;clear b1 HA HE B2 R2;have HS1:Hid (∀ W,Bl w1 W->(fun W'=>W'.cell? ⟨w.heap.size,0,none⟩=some (.slice a0 t.stops.length k0)/\W'.cell? ⟨w.heap.size,1,none⟩=some (.slice a1 t.routes.length k1)/\W'.cell? ⟨w.heap.size,2,none⟩=some (.slice a2 t.cals.length k2)/\W'.cell? ⟨w.heap.size,3,none⟩=some (.slice a3 t.excs.length k3)/\W'.cell? ⟨w.heap.size,4,none⟩=some (.slice a4 ts.length k4)/\W'.cell? ⟨w.heap.size,5,none⟩=some (.slice a5 t.freqs.length k5)/\W'.cell? ⟨w.heap.size,6,none⟩=some (.slice a6 t.thrus.length k6)/\W'.cell? ⟨w.heap.size,7,none⟩=some (.slice a7 t.guars.length k7)/\W'.cell? ⟨w.heap.size,8,none⟩=some (.slice a8 t.paths.length k8)/\W'.cell? ⟨w.heap.size,9,none⟩=some (.slice a9 t.fares.prods.length k9)/\W'.cell? ⟨w.heap.size,10,none⟩=some (.int .i64 t.fares.disc)/\W'.cell? ⟨w.heap.size,11,none⟩=some (.int .i64 t.fares.within)/\W'.cell? ⟨w.heap.size,12,none⟩=some (.int .i64 t.fares.cap)) W):=fun W k=>kW (qX HA1.out k)
 have m0:Bl w1 w1.drew:=qH (qB w1);refine wp_region_held_drew (S:=(fun W'=>W'.cell? ⟨w.heap.size,0,none⟩=some (.slice a0 t.stops.length k0)/\W'.cell? ⟨w.heap.size,1,none⟩=some (.slice a1 t.routes.length k1)/\W'.cell? ⟨w.heap.size,2,none⟩=some (.slice a2 t.cals.length k2)/\W'.cell? ⟨w.heap.size,3,none⟩=some (.slice a3 t.excs.length k3)/\W'.cell? ⟨w.heap.size,4,none⟩=some (.slice a4 ts.length k4)/\W'.cell? ⟨w.heap.size,5,none⟩=some (.slice a5 t.freqs.length k5)/\W'.cell? ⟨w.heap.size,6,none⟩=some (.slice a6 t.thrus.length k6)/\W'.cell? ⟨w.heap.size,7,none⟩=some (.slice a7 t.guars.length k7)/\W'.cell? ⟨w.heap.size,8,none⟩=some (.slice a8 t.paths.length k8)/\W'.cell? ⟨w.heap.size,9,none⟩=some (.slice a9 t.fares.prods.length k9)/\W'.cell? ⟨w.heap.size,10,none⟩=some (.int .i64 t.fares.disc)/\W'.cell? ⟨w.heap.size,11,none⟩=some (.int .i64 t.fares.within)/\W'.cell? ⟨w.heap.size,12,none⟩=some (.int .i64 t.fares.cap))) (by kernel_rfl) (HS1.out _ (qH (qB w1))) (fun hHeld=>?_);refine qI 0 ?_;try simp only[Act.put]
 refine qI 2 ?_;try simp only[Act.put]
 refine qI 5 ?_;try simp only[Act.put]
 refine zh 1 (fun KK hKK=>?_);go_simp;go_at_call 33
 have hc1:=UK B ⟨.slice a0 t.stops.length k0, .slice a1 t.routes.length k1, .slice a2 t.cals.length k2, .slice a3 t.excs.length k3, .slice a4 ts.length k4, .slice a5 t.freqs.length k5, .slice a6 t.thrus.length k6, .slice a7 t.guars.length k7, .slice a8 t.paths.length k8, .slice a9 t.fares.prods.length k9⟩ ts t VD LM _ (by simpa only[U4]using R1.out.bl m0 hzB) (Ux hzB m0.size);unfold JP at hc1;simp only at hc1;refine hc1.mono ?_;rintro y1 z1 ⟨⟨x1,rfl,T1⟩,b1⟩;have m1:Bl w1 z1:=qF m0 b1;have n1:=T1.out.bound l1.out;clear b1 hc1;clear hHeld;refine hKK.out _ _ ?_ (fun hHeld=>?_)
 · exact HS1.out _ m1
 clear hKK KK;try simp only[Act.put]
 refine zh 3 (fun KK hKK=>?_);go_simp;go_at_call 34
 have hc2:=UF B ⟨.slice a0 t.stops.length k0, .slice a1 t.routes.length k1, .slice a2 t.cals.length k2, .slice a3 t.excs.length k3, .slice a4 ts.length k4, .slice a5 t.freqs.length k5, .slice a6 t.thrus.length k6, .slice a7 t.guars.length k7, .slice a8 t.paths.length k8, .slice a9 t.fares.prods.length k9⟩ ts t VD LM _ (by simpa only[U4]using R1.out.bl m1 hzB) (Ux hzB m1.size);unfold JP at hc2;simp only at hc2;refine hc2.mono ?_;rintro y2 z2 ⟨⟨x2,rfl,T2⟩,b2⟩;have m2:Bl w1 z2:=qF m1 b2;have n2:=T2.out.bound l2.out;clear b2 hc2;have o2: ¬ 9223372036854775807<x1.length+x2.length:=by omega
 obtain⟨x4,hx4⟩: ∃ x4,x1++x2=x4:=⟨_,rfl⟩;have h12:(⟨x1.toArray⟩++⟨x2.toArray⟩:ByteArray)=⟨x4.toArray⟩:=by rw[<-hx4];exact Tj x1 x2
 have n4:x4.length<=200000000000:=by rw[<-hx4,U1];omega
 have HX4:=qA hx4;clear hx4;clear hHeld;refine hKK.out _ _ ?_ (fun hHeld=>?_)
 · exact HS1.out _ m2
 clear hKK KK;try simp only[Act.put]
 refine qI 4 ?_;try simp only[Act.put]
 refine zh 6 (fun KK hKK=>?_);go_simp;go_at_call 35
 have hc3:=UY B ⟨.slice a0 t.stops.length k0, .slice a1 t.routes.length k1, .slice a2 t.cals.length k2, .slice a3 t.excs.length k3, .slice a4 ts.length k4, .slice a5 t.freqs.length k5, .slice a6 t.thrus.length k6, .slice a7 t.guars.length k7, .slice a8 t.paths.length k8, .slice a9 t.fares.prods.length k9⟩ ts t VD LM _ (by simpa only[U4]using R1.out.bl m2 hzB) (Ux hzB m2.size);unfold JP at hc3;simp only at hc3;refine hc3.mono ?_;rintro y3 z3 ⟨⟨x3,rfl,T3⟩,b3⟩;have m3:Bl w1 z3:=qF m2 b3;have n3:=T3.out.bound l3.out;clear b3 hc3;have o3: ¬ 9223372036854775807<x4.length+x3.length:=by omega
 obtain⟨x5,hx5⟩: ∃ x5,x4++x3=x5:=⟨_,rfl⟩;have h34:(⟨x4.toArray⟩++⟨x3.toArray⟩:ByteArray)=⟨x5.toArray⟩:=by rw[<-hx5];exact Tj x4 x3
 have HX5:=qA hx5;clear hx5;clear hHeld;refine hKK.out _ _ ?_ (fun hHeld=>?_)
 · exact HS1.out _ m3
 clear hKK KK;try simp only[Act.put]
 refine qI 7 ?_;try simp only[Act.put]
 refine qI 8 ?_;try simp only[Act.put]
 refine wpAnyH_done (by kernel_rfl) ?_ _;try change Exit.then _ _ .normal _ z3
 have HTX:Hid (vK (JO t)=x5):=by
  show _=_
  rw[<-HX5.out,<-HX4.out,<-Ti,T1.out.1,T2.out.1,T3.out.1]
 have B9:=qA (qF B1.out m3);rw[HTX.out]at HT;clear HS1 m0 m1 m2 m3 o2 o3 n1 n2 n3 n4 h12 T1 T2 T3;rcases HT.out with⟨h1,rfl,rfl⟩|⟨h1,rfl,rfl⟩
 ·
  have h2:(65536:Int)<(x5.length:Int):=by omega
  clear HT h1;go_wp2;go_ret2;exact⟨rfl,B9.out⟩
 ·
  have h2: ¬ (65536:Int)<(s.length:Int):=by omega
  clear HT h1;go_wp2;go_ret2;exact⟨rfl,B9.out⟩
end Go.Proofs.YtakedkcjplfgeaaGreatDoor
