/- Contracts, proved. Conditions: each contract's own. -/
import Derived.Test.YtakedkcjplfgeaaGreatDoorMRfA
set_option maxRecDepth 1000000
set_option maxHeartbeats 32000000
namespace Go.Proofs.YtakedkcjplfgeaaGreatDoor
open Go.RowKit
open Frq Thr Tt Num Clk Dat Fld
theorem UF (B:Nat) (V:TtV) (ts:List TripD) (t:TtD) (v:Hid (AY t)) (lim:Hid (Rj t)) (w:World) (rd:yA B w V ts t) (hB:B<=w.heap.size):
  Calls Tryz.prog 34 #[JP V t] w fun q w'=>(∃ z,q= .returned (qP z)/\Hid (SY (Sz t) z))/\Bl w w':=by
 have HV:=v;have HSAME:=qA rd.same;have hlen5:ts.length=t.trips.length:=by have:=congrArg List.length rd.same;rw[U4]at this;exact this.symm
 have HLEN5:=qA hlen5;obtain⟨L0,L1,L2,L3,L4,L5,L6,L7,L8,L9,L10⟩:=lim.out;have HL10:=qA L10;have RD:=qA rd;obtain⟨v0,v1,v2,v3,v4,v5,v6,v7,v8,v9⟩:=V;obtain⟨a0,k0,(rfl:v0=_),-,-⟩:=rd.stops.val;obtain⟨a1,k1,(rfl:v1=_),-,-⟩:=rd.routes.val;obtain⟨a2,k2,(rfl:v2=_),-,-⟩:=rd.cals.val;obtain⟨a3,k3,(rfl:v3=_),-,-⟩:=rd.excs.val;obtain⟨a4,k4,(rfl:v4=_),-,-⟩:=rd.trips.sl.val;obtain⟨a5,k5,(rfl:v5=_),-,-⟩:=rd.freqs.val;obtain⟨a6,k6,(rfl:v6=_),-,-⟩:=rd.thrus.val;obtain⟨a7,k7,(rfl:v7=_),-,-⟩:=rd.guars.val;obtain⟨a8,k8,(rfl:v8=_),-,-⟩:=rd.paths.val;obtain⟨a9,k9,(rfl:v9=_),-,-⟩:=rd.prods.val;have hts:ts.length<=256:=by omega
 clear rd L10 v lim hlen5;unfold JP;simp only[U4]at RD ⊢;change Hid (yA B w (JQ t ts a0 k0 a1 k1 a2 k2 a3 k3 a4 k4 a5 k5 a6 k6 a7 k7 a8 k8 a9 k9) ts t)at RD;obtain⟨w0,hw0⟩: ∃ w0,w.alloc (.cells (Qa (JQ t ts a0 k0 a1 k1 a2 k2 a3 k3 a4 k4 a5 k5 a6 k6 a7 k7 a8 k8 a9 k9) t.fares) 36)=w0:=⟨_,rfl⟩;have b0:Bl w w0:=by rw[<-hw0];exact qE (qB _) _
 have HS:Hid (FS B w.heap.size (JQ t ts a0 k0 a1 k1 a2 k2 a3 k3 a4 k4 a5 k5 a6 k6 a7 k7 a8 k8 a9 k9) ts t w w0):=⟨RD.out.bl b0 hB,by rw[<-hw0];exact heap_alloc_new w _,b0,Ux hB b0.size⟩;clear b0 RD;simp only[Qa]at hw0;obtain⟨A0,hA0⟩: ∃ A0:List (List UInt8),[]=A0:=⟨_,rfl⟩;have HA0:=qA hA0;have lA0:A0.length<=0:=by rw[<-hA0];exact U3 _
 have HT:Hid (SY A0 []):=by show SY _ _;rw[<-hA0];exact TR
 clear hA0;go_enter Tryz.func34,Tryz.ntmps34
 go_wp2_with fail;clear hw0;go_loopw [4,3] (fun i s wr=> ∃ (k:Nat) (xs:List UInt8),(k<=ts.length/\i= .int .i64 k/\s=qP xs)/\Hid (SY (A0++(ts.take k).flatMap (fun x=>yG t (xOf x))) xs)/\Hid (FS B w.heap.size (JQ t ts a0 k0 a1 k1 a2 k2 a3 k3 a4 k4 a5 k5 a6 k6 a7 k7 a8 k8 a9 k9) ts t w wr)) (fun i _ _=>ts.length-(intOf i).toNat)
 case atStart=>exact⟨0,[],⟨qAD _,rfl,rfl⟩,by show SY _ _;rw[List.take_zero,List.flatMap_nil,List.append_nil];exact HT.out,HS.out⟩
 case round=>
  clear HS HT;obtain⟨k,xs,⟨hk,rfl,rfl⟩,HT,HS⟩:=hrel;have ux:wr.cell? ⟨w.heap.size,4,none⟩=some (.slice a4 ts.length k4):=qC HS.out.tt 4 _ rfl;by_cases hlx:k<ts.length
  ·
   rename World=>wo
   obtain⟨x,hx⟩: ∃ x,ts[k]? =some x:=⟨_,U2 hlx⟩;obtain⟨bx,ox,rfl,lx,cx⟩:=HS.out.rd.trips.sl.openB (by first|omega|(rw[U4];omega));have hxm:=Uz hx;have hxt:xOf x∈t.trips:=by rw[HSAME.out];exact List.mem_map_of_mem hxm
   have hkI:(k:Int)<(ts.length:Int):=by omega
   obtain⟨A5,hA5⟩: ∃ A5,A0++(ts.take k).flatMap (fun x=>yG t (xOf x))=A5:=⟨_,rfl⟩;have hl5:A5.length<=40000:=by
    have h1:=Vt (t:=t) ((ts.take k).map xOf) (fun y hy=>HL10.out y (by obtain⟨z,hz,rfl⟩:=List.mem_map.1 hy;rw[HSAME.out];exact List.mem_map_of_mem (List.mem_of_mem_take hz)));rw[List.flatMap_map,U4,List.length_take]at h1;rw[<-hA5,U1];have h3:=HLEN5.out;have h2:((ts.take k).flatMap (fun x=>yG t (xOf x))).length<=33*min k ts.length:=h1;omega
   rw[hA5]at HT;have HA5:=qA hA5;have hll:A5.length<=1000000:=by omega
   have hxl:=HT.out.bound hll;clear hA5;obtain⟨hid,hr0,hr1,hcs⟩:=HV.out.trips (xOf x) hxt;have hid':x.id.data.toList.length<=32:=hid;have HCS:=qA hcs;have hcl:x.calls.length<=32:=HL10.out (xOf x) hxt;obtain⟨av,cv,hv,-,-⟩:=(HS.out.rd.trips.ok x hxm).calls.val;have HVX:=qA hv;clear hcs hv hid;change 0<=x.rt/\x.rt<_ at hr0;change 0<=x.cal/\x.cal<_ at hr1;obtain⟨q0,e0,hq0,he0⟩:=Qm (l:=t.routes) hr0;have li0:(q0:Int)<(t.routes.length:Int):=by have:=(Uw.1 he0).1;omega
   have li0n:q0<t.routes.length:=(Uw.1 he0).1;obtain⟨q1,e1,hq1,he1⟩:=Qm (l:=t.cals) hr1;have li1:(q1:Int)<(t.cals.length:Int):=by have:=(Uw.1 he1).1;omega
   have li1n:q1<t.cals.length:=(Uw.1 he1).1;have d0:wo.cell? ⟨bx,ox+k*5,none⟩=some (.string x.id):=by exact cx k _ hx 0 _ rfl
   have d1:wo.cell? ⟨bx,ox+k*5+1,none⟩=some (.int .i64 (q0:Int)):=by rw[<-hq0];exact cx k _ hx 1 _ rfl
   have d2:wo.cell? ⟨bx,ox+k*5+2,none⟩=some (.int .i64 (q1:Int)):=by rw[<-hq1];exact cx k _ hx 2 _ rfl
   have d3:wo.cell? ⟨bx,ox+k*5+3,none⟩=some (.bool x.step):=by exact cx k _ hx 3 _ rfl
   have d4:wo.cell? ⟨bx,ox+k*5+4,none⟩=some (.slice av x.calls.length cv):=by rw[<-HVX.out];exact cx k _ hx 4 _ rfl
   obtain⟨w1,hw1⟩: ∃ w1,wo.alloc (.cells #[.string x.id, .int .i64 (q0:Int), .int .i64 (q1:Int), .bool x.step, .slice av x.calls.length cv] 56)=w1:=⟨_,rfl⟩;have HX:=qA (show w1.heap[wo.heap.size]? =some (.cells #[.string x.id, .int .i64 (q0:Int), .int .i64 (q1:Int), .bool x.step, .slice av x.calls.length cv] 56 (0,0)) by rw[<-hw1];exact heap_alloc_new wo _);have b1:Bl wo w1:=by rw[<-hw1];exact qE (qB _) _
   have HW1:=qA (HS.out.bl b1);have lx:wo.heap.size<w1.heap.size:=lt_of_block HX.out;have t0:w1.cell? ⟨wo.heap.size,0,none⟩=some (.string x.id):=qC HX.out 0 _ rfl;have t1:w1.cell? ⟨wo.heap.size,1,none⟩=some (.int .i64 (q0:Int)):=qC HX.out 1 _ rfl;have t2:w1.cell? ⟨wo.heap.size,2,none⟩=some (.int .i64 (q1:Int)):=qC HX.out 2 _ rfl;have t3:w1.cell? ⟨wo.heap.size,3,none⟩=some (.bool x.step):=qC HX.out 3 _ rfl;have t4:w1.cell? ⟨wo.heap.size,4,none⟩=some (.slice av x.calls.length cv):=qC HX.out 4 _ rfl;clear b1;obtain⟨b0,o0,rfl,l0,cc0⟩:=HW1.out.rd.routes.openB (by omega);have lz0:b0<w1.heap.size:=Nat.lt_of_lt_of_le l0 HW1.out.size;have u0:w1.cell? ⟨w.heap.size,1,none⟩=some (.slice (some ⟨b0,o0,none⟩) t.routes.length k1):=qC HW1.out.tt 1 _ rfl;have v0:w1.cell? ⟨b0,o0+q0*3,none⟩=some (qP e0.id):=cc0 q0 _ he0 0 _ rfl;obtain⟨b1,o1,rfl,l1,cc1⟩:=HW1.out.rd.cals.openB (by omega);have lz1:b1<w1.heap.size:=Nat.lt_of_lt_of_le l1 HW1.out.size;have u1:w1.cell? ⟨w.heap.size,2,none⟩=some (.slice (some ⟨b1,o1,none⟩) t.cals.length k2):=qC HW1.out.tt 2 _ rfl;have v1:w1.cell? ⟨b1,o1+q1*10,none⟩=some (qP e1.id):=cc1 q1 _ he1 0 _ rfl;have lt0:w.heap.size<w1.heap.size:=lt_of_block HW1.out.tt;clear cx cc0 cc1;go_wp2_with fail;clear hw1 ux d0 d1 d2 d3 d4;have HS1:Hid (∀ W,Bl w1 W->(fun W'=>W'.cell? ⟨wo.heap.size,0,none⟩=some (.string x.id)/\W'.cell? ⟨wo.heap.size,1,none⟩=some (.int .i64 (q0:Int))/\W'.cell? ⟨wo.heap.size,2,none⟩=some (.int .i64 (q1:Int))/\W'.cell? ⟨wo.heap.size,3,none⟩=some (.bool x.step)/\W'.cell? ⟨w.heap.size,1,none⟩=some (.slice (some ⟨b0,o0,none⟩) t.routes.length k1)/\W'.cell? ⟨b0,o0+q0*3,none⟩=some (qP e0.id)/\W'.cell? ⟨w.heap.size,2,none⟩=some (.slice (some ⟨b1,o1,none⟩) t.cals.length k2)/\W'.cell? ⟨b1,o1+q1*10,none⟩=some (qP e1.id)) W):=fun W k=>⟨((qG k).1 _ _ lx).trans t0,((qG k).1 _ _ lx).trans t1,((qG k).1 _ _ lx).trans t2,((qG k).1 _ _ lx).trans t3,((qG k).1 _ _ lt0).trans u0,((qG k).1 _ _ lz0).trans v0,((qG k).1 _ _ lt0).trans u1,((qG k).1 _ _ lz1).trans v1⟩
   have HFL:Hid (∀ y∈([(kw 4),x.id.data.toList,e0.id,e1.id,(kG x.step)]:List (List UInt8)),y.length<=131072):=fun y hy=>by
    simp only[List.mem_cons,List.not_mem_nil,or_false]at hy;rcases hy with rfl|rfl|rfl|rfl|rfl
    · exact Ux ((by decide):_<=100) (by omega)
    · exact Ux ((Ux hid' (by omega)):_<=100) (by omega)
    · exact Ux ((Ux (HV.out.routes _ (Uz he0)).1 (by omega)):_<=100) (by omega)
    · exact Ux ((Ux (HV.out.cals _ (Uz he1)).1 (by omega)):_<=100) (by omega)
    · exact Ux (Jo x.step:_<=100) (by omega)
   obtain⟨yr,hyr⟩: ∃ yr,jZ [(kw 4),x.id.data.toList,e0.id,e1.id,(kG x.step)]++[10]=yr:=⟨_,rfl⟩;have hyl: ¬ 9223372036854775807<xs.length+yr.length:=by have:=SS [(kw 4),x.id.data.toList,e0.id,e1.id,(kG x.step)];rw[<-hyr,U1];simp only[U7,List.length_nil];omega
   have HYR:=qA hyr;clear hyr;have m0:Bl w1 w1.drew:=qH (qB w1);refine wp_region_held_drew (S:=(fun W'=>W'.cell? ⟨wo.heap.size,0,none⟩=some (.string x.id)/\W'.cell? ⟨wo.heap.size,1,none⟩=some (.int .i64 (q0:Int))/\W'.cell? ⟨wo.heap.size,2,none⟩=some (.int .i64 (q1:Int))/\W'.cell? ⟨wo.heap.size,3,none⟩=some (.bool x.step)/\W'.cell? ⟨w.heap.size,1,none⟩=some (.slice (some ⟨b0,o0,none⟩) t.routes.length k1)/\W'.cell? ⟨b0,o0+q0*3,none⟩=some (qP e0.id)/\W'.cell? ⟨w.heap.size,2,none⟩=some (.slice (some ⟨b1,o1,none⟩) t.cals.length k2)/\W'.cell? ⟨b1,o1+q1*10,none⟩=some (qP e1.id))) (by kernel_rfl) (HS1.out _ (qH (qB w1))) (fun hHeld=>?_);refine qI 0 ?_;try simp only[Act.put]
   refine qI 1 ?_;try simp only[Act.put]
   refine qI 2 ?_;try simp only[Act.put]
   refine qI 3 ?_;try simp only[Act.put]
   refine qI 4 ?_;try simp only[Act.put]
   refine qI 5 ?_;try simp only[Act.put]
   refine qI 6 ?_;try simp only[Act.put]
   refine qI 7 ?_;try simp only[Act.put]
   refine qI 8 ?_;try simp only[Act.put]
   refine qI 9 ?_;try simp only[Act.put]
   refine qI 10 ?_;try simp only[Act.put]
   refine qI 11 ?_;try simp only[Act.put]
   refine qI 12 ?_;try simp only[Act.put]
   refine qI 13 ?_;try simp only[Act.put]
   refine qI 14 ?_;try simp only[Act.put]
   refine qI 15 ?_;try simp only[Act.put]
   refine qI 16 ?_;try simp only[Act.put]
   refine qI 17 ?_;try simp only[Act.put]
   refine qI 18 ?_;try simp only[Act.put]
   refine zh 19 (fun KK hKK=>?_);go_simp;go_at_call 85
   refine(TQ x.step _).mono ?_;rintro y1 z1 ⟨rfl,b1⟩;have m1:Bl w1 z1:=by rw[b1];exact m0
   clear b1;clear hHeld;refine hKK.out _ _ ?_ (fun hHeld=>?_)
   · exact HS1.out _ m1
   clear hKK KK;try simp only[Act.put]
   refine zh 20 (fun KK hKK=>?_);go_simp;skip
   clear hHeld;refine hKK.out _ _ ?_ (fun hHeld=>?_)
   · exact HS1.out _ (qE m1 _)
   clear hKK KK;try simp only[Act.put]
   refine zh 21 (fun KK hKK=>?_);go_simp;go_at_call 83
   refine(Sl _ [(kw 4),x.id.data.toList,e0.id,e1.id,(kG x.step)] HFL _ _ (vJ (cells:=strCells) (sz:=1) (fun _=>rfl) [(kw 4),x.id.data.toList,e0.id,e1.id,(kG x.step)] z1 #[.string ⟨#[116,114,105,112]⟩, .string x.id,qP e0.id,qP e1.id,qP (kG x.step)] 9 5 5 rfl (U3 _) (by unfold maxLen;omega) rfl) (U3 _)).mono ?_;rw[HYR.out];rintro y9 w9 ⟨rfl,b9⟩;have M9:Bl w1 w9:=qF (qE m1 _) b9;have HS9:=qA (HW1.out.bl M9);clear hHeld;refine hKK.out _ _ ?_ (fun hHeld=>?_)
   · exact HS1.out _ M9
   clear hKK KK;try simp only[Act.put]
   refine qI 22 ?_;try simp only[Act.put]
   refine qI 23 ?_;try simp only[Act.put]
   refine wpAnyH_done (by kernel_rfl) ?_ _;try change Exit.then _ _ .normal _ w9
   have HBW:=qA M9;clear HS1 HFL b9 M9 m0 m1;have HT6:=qA (HT.out.snoc HYR.out (fs:=iH t (xOf x)) (by
    show jZ [kw 4,x.id.data.toList,jF _ x.rt,jF _ x.cal,kG x.step]=_
    rw[hq0,Qv he0,hq1,Qv he1]))
   obtain⟨A6,hA6⟩: ∃ A6,A5++[iH t (xOf x)]=A6:=⟨_,rfl⟩;obtain⟨x6,hx6⟩: ∃ x6,x6=xs++yr:=⟨_,rfl⟩;have lA6:A6.length<=40001:=by rw[<-hA6,U1];simp;omega
   rw[hA6,<-hx6]at HT6;have HA6:=qA hA6;have x4:w9.cell? ⟨wo.heap.size,4,none⟩=some (.slice av x.calls.length cv):=((qG HBW.out).1 _ _ lx).trans t4;have T4:=qA t4;have HX6:=qA (show Value.string (⟨xs.toArray⟩++⟨yr.toArray⟩)=qP x6 by rw[hx6];exact SV xs yr);clear HS HT hA6 hx6 t0 t1 t2 t3 t4 u0 v0 u1 v1 hxl hll hyl;have HS:=HS9;clear HS9;go_wp2_with fail;try rw[HX6.out]
   clear x4;go_loopw [6,3] (fun i s wi=> ∃ (j:Nat) (xs:List UInt8),(j<=x.calls.length/\i= .int .i64 j/\s=qP xs)/\Hid (SY (A6++(x.calls.take j).map (Qs t)) xs)/\Hid (FS B w.heap.size (JQ t ts a0 k0 (some ⟨b0,o0,none⟩) k1 (some ⟨b1,o1,none⟩) k2 a3 k3 (some ⟨bx,ox,none⟩) k4 a5 k5 a6 k6 a7 k7 a8 k8 a9 k9) ts t w wi)/\Hid (Bl w1 wi)) (fun i _ _=>x.calls.length-(intOf i).toNat)
   case atStart=>exact⟨0,x6,⟨qAD _,rfl,by first|rfl|exact HX6.out⟩,by show SY _ _;rw[List.take_zero,List.map_nil,List.append_nil];exact HT6.out,HS.out,HBW.out⟩
   case round=>
    clear HS HW1 HT6 HBW HX6;obtain⟨j,xs,⟨hj,rfl,rfl⟩,HT,HS,HBW⟩:=hrel;have x4:wr.cell? ⟨wo.heap.size,4,none⟩=some (.slice av x.calls.length cv):=((qG HBW.out).1 _ _ lx).trans T4.out;by_cases hlj:j<x.calls.length
    ·
     obtain⟨c,hc⟩: ∃ c,x.calls[j]? =some c:=⟨_,U2 hlj⟩;have hci:=(HS.out.rd.trips.ok x hxm).calls;rw[HVX.out]at hci;obtain⟨by',oy,rfl,ly,cy⟩:=hci.openB (by omega);have hcm:=Uz hc;have hjI:(j:Int)<(x.calls.length:Int):=by omega
     have hll:(A6++(x.calls.take j).map (Qs t)).length<=1000000:=by have:=xC A6 x.calls (Qs t) j;omega
     have hxl:=HT.out.bound hll;obtain⟨hs0,⟨z0,z1⟩,⟨g0,g1⟩⟩:=HCS.out c hcm;obtain⟨q2,e2,hq2,he2⟩:=Qm (l:=t.stops) hs0;have li2:(q2:Int)<(t.stops.length:Int):=by have:=(Uw.1 he2).1;omega
     have li2n:q2<t.stops.length:=(Uw.1 he2).1;have d0:wr.cell? ⟨by',oy+j*5,none⟩=some (.int .i64 (q2:Int)):=by rw[<-hq2];exact cy j _ hc 0 _ rfl
     have d1:wr.cell? ⟨by',oy+j*5+1,none⟩=some (.int .i64 c.arrive):=by exact cy j _ hc 1 _ rfl
     have d2:wr.cell? ⟨by',oy+j*5+2,none⟩=some (.int .i64 c.depart):=by exact cy j _ hc 2 _ rfl
     have d3:wr.cell? ⟨by',oy+j*5+3,none⟩=some (.bool c.board):=by exact cy j _ hc 3 _ rfl
     have d4:wr.cell? ⟨by',oy+j*5+4,none⟩=some (.bool c.alight):=by exact cy j _ hc 4 _ rfl
     clear HX lx;obtain⟨w7,hw1⟩: ∃ w1,wr.alloc (.cells #[.int .i64 (q2:Int), .int .i64 c.arrive, .int .i64 c.depart, .bool c.board, .bool c.alight] 58)=w1:=⟨_,rfl⟩;have HX:=qA (show w7.heap[wr.heap.size]? =some (.cells #[.int .i64 (q2:Int), .int .i64 c.arrive, .int .i64 c.depart, .bool c.board, .bool c.alight] 58 (0,0)) by rw[<-hw1];exact heap_alloc_new wr _);have b1:Bl wr w7:=by rw[<-hw1];exact qE (qB _) _
     have HW7:=qA (HS.out.bl b1);have lx:wr.heap.size<w7.heap.size:=lt_of_block HX.out;have t0:w7.cell? ⟨wr.heap.size,0,none⟩=some (.int .i64 (q2:Int)):=qC HX.out 0 _ rfl;have t1:w7.cell? ⟨wr.heap.size,1,none⟩=some (.int .i64 c.arrive):=qC HX.out 1 _ rfl;have t2:w7.cell? ⟨wr.heap.size,2,none⟩=some (.int .i64 c.depart):=qC HX.out 2 _ rfl;have t3:w7.cell? ⟨wr.heap.size,3,none⟩=some (.bool c.board):=qC HX.out 3 _ rfl;have t4:w7.cell? ⟨wr.heap.size,4,none⟩=some (.bool c.alight):=qC HX.out 4 _ rfl;clear b1;have HBX:=qA (show Bl w1 w7 by rw[<-hw1];exact qE HBW.out _);obtain⟨b2,o2,rfl,l2,cc2⟩:=HW7.out.rd.stops.openB (by omega);have lz2:b2<w7.heap.size:=Nat.lt_of_lt_of_le l2 HW7.out.size;have u2:w7.cell? ⟨w.heap.size,0,none⟩=some (.slice (some ⟨b2,o2,none⟩) t.stops.length k0):=qC HW7.out.tt 0 _ rfl;have v2:w7.cell? ⟨b2,o2+q2*4,none⟩=some (qP e2.id):=cc2 q2 _ he2 0 _ rfl;have lt0:w.heap.size<w7.heap.size:=lt_of_block HW7.out.tt;clear cy cc2;go_wp2_with fail;clear hw1 d0 d1 d2 d3 d4 x4;have HS1:Hid (∀ W,Bl w7 W->(fun W'=>W'.cell? ⟨wr.heap.size,0,none⟩=some (.int .i64 (q2:Int))/\W'.cell? ⟨wr.heap.size,1,none⟩=some (.int .i64 c.arrive)/\W'.cell? ⟨wr.heap.size,2,none⟩=some (.int .i64 c.depart)/\W'.cell? ⟨wr.heap.size,3,none⟩=some (.bool c.board)/\W'.cell? ⟨wr.heap.size,4,none⟩=some (.bool c.alight)/\W'.cell? ⟨w.heap.size,0,none⟩=some (.slice (some ⟨b2,o2,none⟩) t.stops.length k0)/\W'.cell? ⟨b2,o2+q2*4,none⟩=some (qP e2.id)) W):=fun W k=>⟨((qG k).1 _ _ lx).trans t0,((qG k).1 _ _ lx).trans t1,((qG k).1 _ _ lx).trans t2,((qG k).1 _ _ lx).trans t3,((qG k).1 _ _ lx).trans t4,((qG k).1 _ _ lt0).trans u2,((qG k).1 _ _ lz2).trans v2⟩
     have HFL:Hid (∀ y∈([(kw 10),e2.id,(xU c.arrive).1,(xU c.depart).1,(Qh (⟨(q2:Int),c.arrive,c.depart,c.board,c.alight⟩:CallD))]:List (List UInt8)),y.length<=131072):=fun y hy=>by
      simp only[List.mem_cons,List.not_mem_nil,or_false]at hy;rcases hy with rfl|rfl|rfl|rfl|rfl
      · exact Ux ((by decide):_<=100) (by omega)
      · exact Ux ((Ux (HV.out.stops _ (Uz he2)).1 (by omega)):_<=100) (by omega)
      · exact Ux (Zj (t:=c.arrive):_<=100) (by omega)
      · exact Ux (Zj (t:=c.depart):_<=100) (by omega)
      · exact Ux (oG (⟨(q2:Int),c.arrive,c.depart,c.board,c.alight⟩:CallD):_<=100) (by omega)
     obtain⟨yr,hyr⟩: ∃ yr,jZ [(kw 10),e2.id,(xU c.arrive).1,(xU c.depart).1,(Qh (⟨(q2:Int),c.arrive,c.depart,c.board,c.alight⟩:CallD))]++[10]=yr:=⟨_,rfl⟩;have hyl: ¬ 9223372036854775807<xs.length+yr.length:=by have:=SS [(kw 10),e2.id,(xU c.arrive).1,(xU c.depart).1,(Qh (⟨(q2:Int),c.arrive,c.depart,c.board,c.alight⟩:CallD))];rw[<-hyr,U1];simp only[U7,List.length_nil];omega
     have HYR:=qA hyr;clear hyr;have m0:Bl w7 w7.drew:=qH (qB w7);refine wp_region_held_drew (S:=(fun W'=>W'.cell? ⟨wr.heap.size,0,none⟩=some (.int .i64 (q2:Int))/\W'.cell? ⟨wr.heap.size,1,none⟩=some (.int .i64 c.arrive)/\W'.cell? ⟨wr.heap.size,2,none⟩=some (.int .i64 c.depart)/\W'.cell? ⟨wr.heap.size,3,none⟩=some (.bool c.board)/\W'.cell? ⟨wr.heap.size,4,none⟩=some (.bool c.alight)/\W'.cell? ⟨w.heap.size,0,none⟩=some (.slice (some ⟨b2,o2,none⟩) t.stops.length k0)/\W'.cell? ⟨b2,o2+q2*4,none⟩=some (qP e2.id))) (by kernel_rfl) (HS1.out _ (qH (qB w7))) (fun hHeld=>?_);refine qI 0 ?_;try simp only[Act.put]
     refine qI 1 ?_;try simp only[Act.put]
     refine qI 2 ?_;try simp only[Act.put]
     refine qI 3 ?_;try simp only[Act.put]
     refine qI 4 ?_;try simp only[Act.put]
     refine qI 5 ?_;try simp only[Act.put]
     refine qI 6 ?_;try simp only[Act.put]
     refine qI 7 ?_;try simp only[Act.put]
     refine qI 8 ?_;try simp only[Act.put]
     refine qI 9 ?_;try simp only[Act.put]
     refine qI 11 ?_;try simp only[Act.put]
     refine qI 12 ?_;try simp only[Act.put]
     refine qI 14 ?_;try simp only[Act.put]
     refine zh 10 (fun KK hKK=>?_);go_simp;go_at_call 88
     refine(TB c.arrive (xU c.arrive).1 (xU c.arrive).2 (qA rfl) _).mono ?_;rintro y1 z1 ⟨rfl,b1⟩;have m1:Bl w7 z1:=qF m0 b1;clear b1;clear hHeld;refine hKK.out _ _ ?_ (fun hHeld=>?_)
     · exact HS1.out _ m1
     clear hKK KK;try simp only[Act.put]
     refine zh 13 (fun KK hKK=>?_);go_simp;go_at_call 88
     refine(TB c.depart (xU c.depart).1 (xU c.depart).2 (qA rfl) _).mono ?_;rintro y2 z2 ⟨rfl,b2⟩;have m2:Bl w7 z2:=qF m1 b2;clear b2;clear hHeld;refine hKK.out _ _ ?_ (fun hHeld=>?_)
     · exact HS1.out _ m2
     clear hKK KK;try simp only[Act.put]
     refine zh 15 (fun KK hKK=>?_);go_simp;go_at_call 89
     refine(Uc (⟨(q2:Int),c.arrive,c.depart,c.board,c.alight⟩:CallD) _).mono ?_;rintro y3 z3 ⟨rfl,b3⟩;have m3:Bl w7 z3:=qF m2 b3;clear b3;clear hHeld;refine hKK.out _ _ ?_ (fun hHeld=>?_)
     · exact HS1.out _ m3
     clear hKK KK;try simp only[Act.put]
     refine zh 16 (fun KK hKK=>?_);go_simp;skip
     clear hHeld;refine hKK.out _ _ ?_ (fun hHeld=>?_)
     · exact HS1.out _ (qE m3 _)
     clear hKK KK;try simp only[Act.put]
     refine zh 17 (fun KK hKK=>?_);go_simp;go_at_call 83
     refine(Sl _ [(kw 10),e2.id,(xU c.arrive).1,(xU c.depart).1,(Qh (⟨(q2:Int),c.arrive,c.depart,c.board,c.alight⟩:CallD))] HFL _ _ (vJ (cells:=strCells) (sz:=1) (fun _=>rfl) [(kw 10),e2.id,(xU c.arrive).1,(xU c.depart).1,(Qh (⟨(q2:Int),c.arrive,c.depart,c.board,c.alight⟩:CallD))] z3 #[.string ⟨#[99,97,108,108]⟩,qP e2.id,qP (xU c.arrive).1,qP (xU c.depart).1,qP (Qh (⟨(q2:Int),c.arrive,c.depart,c.board,c.alight⟩:CallD))] 9 5 5 rfl (U3 _) (by unfold maxLen;omega) rfl) (U3 _)).mono ?_;rw[HYR.out];rintro y9 w9 ⟨rfl,b9⟩;have M9:Bl w7 w9:=qF (qE m3 _) b9;have HS9:=qA (HW7.out.bl M9);clear hHeld;refine hKK.out _ _ ?_ (fun hHeld=>?_)
     · exact HS1.out _ M9
     clear hKK KK;try simp only[Act.put]
     refine qI 18 ?_;try simp only[Act.put]
     refine qI 19 ?_;try simp only[Act.put]
     refine wpAnyH_done (by kernel_rfl) ?_ _;try change Exit.then _ _ .normal _ w9
     have HB9:=qA (qF HBX.out M9);clear HS1 HFL b9 M9 m0 m1 m2 m3;have HT10:=qA (HT.out.row hc HYR.out (f:=Qs t) (A:=A6) (by unfold Qs;rw[hq2,Qv he2,<-hq2]));clear HS HT hxl hll hyl;go_wp2;go_roundw;case rel=>exact⟨j+1,xs++yr,⟨by omega,by go_num,SV xs yr⟩,HT10,HS9,HB9⟩
     case measure=>simp[intOf];omega
    ·
     have HTe:SY (A6++x.calls.map (Qs t)) xs:=by have:=HT.out;rw[U9 (by omega)]at this;exact this
     have HT10:=qA (show SY (A0++(ts.take (k+1)).flatMap (fun x=>yG t (xOf x))) xs by
      rw[show A0++(ts.take (k+1)).flatMap (fun x=>yG t (xOf x))=A6++x.calls.map (Qs t) by
       rw[ql hx,List.flatMap_append,<-List.append_assoc,HA5.out,<-HA6.out,List.append_assoc];simp[yG,xOf]]
      exact HTe)
     clear HTe HT;go_wp2;go_roundw;case rel=>exact⟨k+1,xs,⟨by omega,by go_num,rfl⟩,HT10,HS⟩
     case measure=>simp[intOf];omega
  ·
   skip
   have HTe:SY (A0++ts.flatMap (fun x=>yG t (xOf x))) xs:=by have:=HT.out;rw[U9 (by omega)]at this;exact this
   obtain⟨A1,hA1⟩: ∃ A',A0++t.trips.flatMap (yG t)=A':=⟨_,rfl⟩;have hA1':A0++ts.flatMap (fun x=>yG t (xOf x))=A1:=by rw[<-hA1,HSAME.out,List.flatMap_map]
   rw[hA1']at HTe;have HA1:=qA hA1;have lA1:A1.length<=40000:=by
    have h1:=Vt (t:=t) t.trips HL10.out;rw[<-hA1,U1];have h3:=HLEN5.out;omega
   clear HT hA1 hA1';have HT:=qA HTe;clear HTe;go_wp2_with fail;clear ux;go_loopw [8,3] (fun i s wr=> ∃ (k:Nat) (xs:List UInt8),(k<=t.freqs.length/\i= .int .i64 k/\s=qP xs)/\Hid (SY (A1++(t.freqs.take k).map (Q5 t)) xs)/\Hid (FS B w.heap.size (JQ t ts a0 k0 a1 k1 a2 k2 a3 k3 a4 k4 a5 k5 a6 k6 a7 k7 a8 k8 a9 k9) ts t w wr)) (fun i _ _=>t.freqs.length-(intOf i).toNat)
   case atStart=>exact⟨0,xs,⟨qAD _,rfl,rfl⟩,by show SY _ _;rw[List.take_zero,List.map_nil,List.append_nil];exact HT.out,HS.out⟩
   case round=>
    clear HS HT;obtain⟨k,xs,⟨hk,rfl,rfl⟩,HT,HS⟩:=hrel;have ux:wr.cell? ⟨w.heap.size,5,none⟩=some (.slice a5 t.freqs.length k5):=qC HS.out.tt 5 _ rfl;by_cases hlx:k<t.freqs.length
    ·
     obtain⟨x,hx⟩: ∃ x,t.freqs[k]? =some x:=⟨_,U2 hlx⟩;obtain⟨bx,ox,rfl,lx,cx⟩:=HS.out.rd.freqs.openB (by first|omega|(rw[U4];omega));have hxm:=Uz hx;have hkI:(k:Int)<(t.freqs.length:Int):=by omega
     have hll:(A1++(t.freqs.take k).map (Q5 t)).length<=1000000:=by have:=xC A1 t.freqs (Q5 t) k;omega
     have hxl:=HT.out.bound hll;obtain⟨hc0,⟨z0,z1⟩,⟨g0,g1⟩,⟨f0,f1⟩⟩:=HV.out.freqs x hxm;rw[<-HLEN5.out]at hc0;obtain⟨q0,e0,hq0,he0⟩:=Qm (l:=ts) hc0;have li0:(q0:Int)<(ts.length:Int):=by have:=(Uw.1 he0).1;omega
     have li0n:q0<ts.length:=(Uw.1 he0).1;have hxe:(t.freqs.map zS)[k]? =some (zS x):=by rw[List.getElem?_map,hx];rfl
     have d0:wr.cell? ⟨bx,ox+k*4,none⟩=some (.int .i64 (q0:Int)):=by rw[<-hq0];exact cx k _ hxe 0 _ rfl
     have d1:wr.cell? ⟨bx,ox+k*4+1,none⟩=some (.int .i64 x.frm):=by exact cx k _ hxe 1 _ rfl
     have d2:wr.cell? ⟨bx,ox+k*4+2,none⟩=some (.int .i64 x.to):=by exact cx k _ hxe 2 _ rfl
     have d3:wr.cell? ⟨bx,ox+k*4+3,none⟩=some (.int .i64 x.every):=by exact cx k _ hxe 3 _ rfl
     obtain⟨w1,hw1⟩: ∃ w1,wr.alloc (.cells #[.int .i64 (q0:Int), .int .i64 x.frm, .int .i64 x.to, .int .i64 x.every] 126)=w1:=⟨_,rfl⟩;have HX:=qA (show w1.heap[wr.heap.size]? =some (.cells #[.int .i64 (q0:Int), .int .i64 x.frm, .int .i64 x.to, .int .i64 x.every] 126 (0,0)) by rw[<-hw1];exact heap_alloc_new wr _);have b1:Bl wr w1:=by rw[<-hw1];exact qE (qB _) _
     have HW1:=qA (HS.out.bl b1);have lx:wr.heap.size<w1.heap.size:=lt_of_block HX.out;have t0:w1.cell? ⟨wr.heap.size,0,none⟩=some (.int .i64 (q0:Int)):=qC HX.out 0 _ rfl;have t1:w1.cell? ⟨wr.heap.size,1,none⟩=some (.int .i64 x.frm):=qC HX.out 1 _ rfl;have t2:w1.cell? ⟨wr.heap.size,2,none⟩=some (.int .i64 x.to):=qC HX.out 2 _ rfl;have t3:w1.cell? ⟨wr.heap.size,3,none⟩=some (.int .i64 x.every):=qC HX.out 3 _ rfl;clear b1;obtain⟨b0,o0,rfl,l0,cc0⟩:=HW1.out.rd.trips.sl.openB (by omega);have lz0:b0<w1.heap.size:=Nat.lt_of_lt_of_le l0 HW1.out.size;have u0:w1.cell? ⟨w.heap.size,4,none⟩=some (.slice (some ⟨b0,o0,none⟩) ts.length k4):=qC HW1.out.tt 4 _ rfl;have v0:w1.cell? ⟨b0,o0+q0*5,none⟩=some (.string e0.id):=cc0 q0 _ he0 0 _ rfl;have lt0:w.heap.size<w1.heap.size:=lt_of_block HW1.out.tt;clear cx cc0;go_wp2_with fail;clear hw1 ux d0 d1 d2 d3;have HS1:Hid (∀ W,Bl w1 W->(fun W'=>W'.cell? ⟨wr.heap.size,0,none⟩=some (.int .i64 (q0:Int))/\W'.cell? ⟨wr.heap.size,1,none⟩=some (.int .i64 x.frm)/\W'.cell? ⟨wr.heap.size,2,none⟩=some (.int .i64 x.to)/\W'.cell? ⟨wr.heap.size,3,none⟩=some (.int .i64 x.every)/\W'.cell? ⟨w.heap.size,4,none⟩=some (.slice (some ⟨b0,o0,none⟩) ts.length k4)/\W'.cell? ⟨b0,o0+q0*5,none⟩=some (.string e0.id)) W):=fun W k=>⟨((qG k).1 _ _ lx).trans t0,((qG k).1 _ _ lx).trans t1,((qG k).1 _ _ lx).trans t2,((qG k).1 _ _ lx).trans t3,((qG k).1 _ _ lt0).trans u0,((qG k).1 _ _ lz0).trans v0⟩
     have HFL:Hid (∀ y∈([(kw 5),e0.id.data.toList,(xU x.frm).1,(xU x.to).1,(jc x.every)]:List (List UInt8)),y.length<=131072):=fun y hy=>by
      simp only[List.mem_cons,List.not_mem_nil,or_false]at hy;rcases hy with rfl|rfl|rfl|rfl|rfl
      · exact Ux ((by decide):_<=100) (by omega)
      · exact Ux ((Ux (HV.out.trips (xOf e0) (by rw[HSAME.out];exact List.mem_map_of_mem (Uz he0))).1 (by omega)):_<=100) (by omega)
      · exact Ux (Zj (t:=x.frm):_<=100) (by omega)
      · exact Ux (Zj (t:=x.to):_<=100) (by omega)
      · exact Ux (Zh (n:=x.every):_<=100) (by omega)
     obtain⟨yr,hyr⟩: ∃ yr,jZ [(kw 5),e0.id.data.toList,(xU x.frm).1,(xU x.to).1,(jc x.every)]++[10]=yr:=⟨_,rfl⟩;have hyl: ¬ 9223372036854775807<xs.length+yr.length:=by have:=SS [(kw 5),e0.id.data.toList,(xU x.frm).1,(xU x.to).1,(jc x.every)];rw[<-hyr,U1];simp only[U7,List.length_nil];omega
     have HYR:=qA hyr;clear hyr;have m0:Bl w1 w1.drew:=qH (qB w1);refine wp_region_held_drew (S:=(fun W'=>W'.cell? ⟨wr.heap.size,0,none⟩=some (.int .i64 (q0:Int))/\W'.cell? ⟨wr.heap.size,1,none⟩=some (.int .i64 x.frm)/\W'.cell? ⟨wr.heap.size,2,none⟩=some (.int .i64 x.to)/\W'.cell? ⟨wr.heap.size,3,none⟩=some (.int .i64 x.every)/\W'.cell? ⟨w.heap.size,4,none⟩=some (.slice (some ⟨b0,o0,none⟩) ts.length k4)/\W'.cell? ⟨b0,o0+q0*5,none⟩=some (.string e0.id))) (by kernel_rfl) (HS1.out _ (qH (qB w1))) (fun hHeld=>?_);refine qI 0 ?_;try simp only[Act.put]
     refine qI 1 ?_;try simp only[Act.put]
     refine qI 2 ?_;try simp only[Act.put]
     refine qI 3 ?_;try simp only[Act.put]
     refine qI 4 ?_;try simp only[Act.put]
     refine qI 5 ?_;try simp only[Act.put]
     refine qI 6 ?_;try simp only[Act.put]
     refine qI 7 ?_;try simp only[Act.put]
     refine qI 8 ?_;try simp only[Act.put]
     refine qI 9 ?_;try simp only[Act.put]
     refine qI 11 ?_;try simp only[Act.put]
     refine qI 12 ?_;try simp only[Act.put]
     refine qI 14 ?_;try simp only[Act.put]
     refine qI 15 ?_;try simp only[Act.put]
     refine zh 10 (fun KK hKK=>?_);go_simp;go_at_call 88
     refine(TB x.frm (xU x.frm).1 (xU x.frm).2 (qA rfl) _).mono ?_;rintro y1 z1 ⟨rfl,b1⟩;have m1:Bl w1 z1:=qF m0 b1;clear b1;clear hHeld;refine hKK.out _ _ ?_ (fun hHeld=>?_)
     · exact HS1.out _ m1
     clear hKK KK;try simp only[Act.put]
     refine zh 13 (fun KK hKK=>?_);go_simp;go_at_call 88
     refine(TB x.to (xU x.to).1 (xU x.to).2 (qA rfl) _).mono ?_;rintro y2 z2 ⟨rfl,b2⟩;have m2:Bl w1 z2:=qF m1 b2;clear b2;clear hHeld;refine hKK.out _ _ ?_ (fun hHeld=>?_)
     · exact HS1.out _ m2
     clear hKK KK;try simp only[Act.put]
     refine zh 16 (fun KK hKK=>?_);go_simp;go_at_call 90
     refine(S9 x.every (jc x.every) (Ck.gW x.every).2 (qA (Prod.ext (Yx x.every) rfl)) _).mono ?_;rintro y3 z3 ⟨rfl,b3⟩;have m3:Bl w1 z3:=qF m2 b3;clear b3;clear hHeld;refine hKK.out _ _ ?_ (fun hHeld=>?_)
     · exact HS1.out _ m3
     clear hKK KK;try simp only[Act.put]
     refine zh 17 (fun KK hKK=>?_);go_simp;skip
     clear hHeld;refine hKK.out _ _ ?_ (fun hHeld=>?_)
     · exact HS1.out _ (qE m3 _)
     clear hKK KK;try simp only[Act.put]
     refine zh 18 (fun KK hKK=>?_);go_simp;go_at_call 83
     refine(Sl _ [(kw 5),e0.id.data.toList,(xU x.frm).1,(xU x.to).1,(jc x.every)] HFL _ _ (vJ (cells:=strCells) (sz:=1) (fun _=>rfl) [(kw 5),e0.id.data.toList,(xU x.frm).1,(xU x.to).1,(jc x.every)] z3 #[.string ⟨#[102,114,101,113,117,101,110,99,121]⟩, .string e0.id,qP (xU x.frm).1,qP (xU x.to).1,qP (jc x.every)] 9 5 5 rfl (U3 _) (by unfold maxLen;omega) rfl) (U3 _)).mono ?_;rw[HYR.out];rintro y9 w9 ⟨rfl,b9⟩;have M9:Bl w1 w9:=qF (qE m3 _) b9;have HS9:=qA (HW1.out.bl M9);clear hHeld;refine hKK.out _ _ ?_ (fun hHeld=>?_)
     · exact HS1.out _ M9
     clear hKK KK;try simp only[Act.put]
     refine qI 19 ?_;try simp only[Act.put]
     refine qI 20 ?_;try simp only[Act.put]
     refine wpAnyH_done (by kernel_rfl) ?_ _;try change Exit.then _ _ .normal _ w9
     clear HS1 HFL b9 M9 m0 m1 m2 m3;have HT10:=qA (HT.out.row hx HYR.out (f:=(Q5 t)) (A:=A1) (by unfold Q5;rw[hq0,JE HSAME.out he0]));clear HS HT hxl hll hyl;go_wp2;go_roundw;case rel=>exact⟨k+1,xs++yr,⟨by omega,by go_num,SV xs yr⟩,HT10,HS9⟩
     case measure=>simp[intOf];omega
    ·
     skip
     have HTe:SY (A1++t.freqs.map (Q5 t)) xs:=by have:=HT.out;rw[U9 (by omega)]at this;exact this
     obtain⟨A2,hA2⟩: ∃ A',A1++t.freqs.map (Q5 t)=A':=⟨_,rfl⟩;rw[hA2]at HTe;have HA2:=qA hA2;have lA2:A2.length<=40064:=by rw[<-hA2,U1,U4];omega
     clear HT hA2;have HT:=qA HTe;clear HTe;go_wp2_with fail;clear ux;go_loopw [10,3] (fun i s wr=> ∃ (k:Nat) (xs:List UInt8),(k<=t.thrus.length/\i= .int .i64 k/\s=qP xs)/\Hid (SY (A2++(t.thrus.take k).map (Q8 t)) xs)/\Hid (FS B w.heap.size (JQ t ts a0 k0 a1 k1 a2 k2 a3 k3 a4 k4 a5 k5 a6 k6 a7 k7 a8 k8 a9 k9) ts t w wr)) (fun i _ _=>t.thrus.length-(intOf i).toNat)
     case atStart=>exact⟨0,xs,⟨qAD _,rfl,rfl⟩,by show SY _ _;rw[List.take_zero,List.map_nil,List.append_nil];exact HT.out,HS.out⟩
     case round=>
      clear HS HT;obtain⟨k,xs,⟨hk,rfl,rfl⟩,HT,HS⟩:=hrel;have ux:wr.cell? ⟨w.heap.size,6,none⟩=some (.slice a6 t.thrus.length k6):=qC HS.out.tt 6 _ rfl;by_cases hlx:k<t.thrus.length
      ·
       obtain⟨x,hx⟩: ∃ x,t.thrus[k]? =some x:=⟨_,U2 hlx⟩;obtain⟨bx,ox,rfl,lx,cx⟩:=HS.out.rd.thrus.openB (by first|omega|(rw[U4];omega));have hxm:=Uz hx;have hkI:(k:Int)<(t.thrus.length:Int):=by omega
       have hll:(A2++(t.thrus.take k).map (Q8 t)).length<=1000000:=by have:=xC A2 t.thrus (Q8 t) k;omega
       have hxl:=HT.out.bound hll;obtain⟨hc0,hc1⟩:=HV.out.thrus x hxm;rw[<-HLEN5.out]at hc0 hc1;have HW1:=HS;have sz1:=HS.out.size;obtain⟨q0,e0,hq0,he0⟩:=Qm (l:=ts) hc0;have li0:(q0:Int)<(ts.length:Int):=by have:=(Uw.1 he0).1;omega
       have li0n:q0<ts.length:=(Uw.1 he0).1;obtain⟨q1,e1,hq1,he1⟩:=Qm (l:=ts) hc1;have li1:(q1:Int)<(ts.length:Int):=by have:=(Uw.1 he1).1;omega
       have li1n:q1<ts.length:=(Uw.1 he1).1;have hxe:(t.thrus.map ja)[k]? =some (ja x):=by rw[List.getElem?_map,hx];rfl
       have d0:wr.cell? ⟨bx,ox+k*2,none⟩=some (.int .i64 (q0:Int)):=by rw[<-hq0];exact cx k _ hxe 0 _ rfl
       have d1:wr.cell? ⟨bx,ox+k*2+1,none⟩=some (.int .i64 (q1:Int)):=by rw[<-hq1];exact cx k _ hxe 1 _ rfl
       have lzx:bx<wr.heap.size:=Nat.lt_of_lt_of_le lx HS.out.size;obtain⟨b0,o0,rfl,l0,cc0⟩:=HW1.out.rd.trips.sl.openB (by omega);have lz0:b0<wr.heap.size:=Nat.lt_of_lt_of_le l0 HW1.out.size;have u0:wr.cell? ⟨w.heap.size,4,none⟩=some (.slice (some ⟨b0,o0,none⟩) ts.length k4):=qC HW1.out.tt 4 _ rfl;have v0:wr.cell? ⟨b0,o0+q0*5,none⟩=some (.string e0.id):=cc0 q0 _ he0 0 _ rfl;have v1:wr.cell? ⟨b0,o0+q1*5,none⟩=some (.string e1.id):=cc0 q1 _ he1 0 _ rfl;have lt0:w.heap.size<wr.heap.size:=lt_of_block HW1.out.tt;clear cx cc0;go_wp2_with fail;have HS1:Hid (∀ W,Bl wr W->(fun W'=>W'.cell? ⟨w.heap.size,6,none⟩=some (.slice (some ⟨bx,ox,none⟩) t.thrus.length k6)/\W'.cell? ⟨bx,ox+k*2,none⟩=some (.int .i64 (q0:Int))/\W'.cell? ⟨bx,ox+k*2+1,none⟩=some (.int .i64 (q1:Int))/\W'.cell? ⟨w.heap.size,4,none⟩=some (.slice (some ⟨b0,o0,none⟩) ts.length k4)/\W'.cell? ⟨b0,o0+q0*5,none⟩=some (.string e0.id)/\W'.cell? ⟨b0,o0+q1*5,none⟩=some (.string e1.id)) W):=fun W k=>⟨((qG k).1 _ _ lt0).trans ux,((qG k).1 _ _ lzx).trans d0,((qG k).1 _ _ lzx).trans d1,((qG k).1 _ _ lt0).trans u0,((qG k).1 _ _ lz0).trans v0,((qG k).1 _ _ lz0).trans v1⟩
       have HFL:Hid (∀ y∈([(kw 6),e0.id.data.toList,e1.id.data.toList]:List (List UInt8)),y.length<=131072):=fun y hy=>by
        simp only[List.mem_cons,List.not_mem_nil,or_false]at hy;rcases hy with rfl|rfl|rfl
        · exact Ux ((by decide):_<=100) (by omega)
        · exact Ux ((Ux (HV.out.trips (xOf e0) (by rw[HSAME.out];exact List.mem_map_of_mem (Uz he0))).1 (by omega)):_<=100) (by omega)
        · exact Ux ((Ux (HV.out.trips (xOf e1) (by rw[HSAME.out];exact List.mem_map_of_mem (Uz he1))).1 (by omega)):_<=100) (by omega)
       obtain⟨yr,hyr⟩: ∃ yr,jZ [(kw 6),e0.id.data.toList,e1.id.data.toList]++[10]=yr:=⟨_,rfl⟩;have hyl: ¬ 9223372036854775807<xs.length+yr.length:=by have:=SS [(kw 6),e0.id.data.toList,e1.id.data.toList];rw[<-hyr,U1];simp only[U7,List.length_nil];omega
       have HYR:=qA hyr;clear hyr;have m0:Bl wr wr.drew:=qH (qB wr);refine wp_region_held_drew (S:=(fun W'=>W'.cell? ⟨w.heap.size,6,none⟩=some (.slice (some ⟨bx,ox,none⟩) t.thrus.length k6)/\W'.cell? ⟨bx,ox+k*2,none⟩=some (.int .i64 (q0:Int))/\W'.cell? ⟨bx,ox+k*2+1,none⟩=some (.int .i64 (q1:Int))/\W'.cell? ⟨w.heap.size,4,none⟩=some (.slice (some ⟨b0,o0,none⟩) ts.length k4)/\W'.cell? ⟨b0,o0+q0*5,none⟩=some (.string e0.id)/\W'.cell? ⟨b0,o0+q1*5,none⟩=some (.string e1.id))) (by kernel_rfl) (HS1.out _ (qH (qB wr))) (fun hHeld=>?_);refine qI 0 ?_;try simp only[Act.put]
       refine qI 1 ?_;try simp only[Act.put]
       refine qI 2 ?_;try simp only[Act.put]
       refine qI 3 ?_;try simp only[Act.put]
       refine qI 4 ?_;try simp only[Act.put]
       refine qI 5 ?_;try simp only[Act.put]
       refine qI 6 ?_;try simp only[Act.put]
       refine qI 7 ?_;try simp only[Act.put]
       refine qI 8 ?_;try simp only[Act.put]
       refine qI 9 ?_;try simp only[Act.put]
       refine qI 10 ?_;try simp only[Act.put]
       refine qI 11 ?_;try simp only[Act.put]
       refine qI 12 ?_;try simp only[Act.put]
       refine qI 13 ?_;try simp only[Act.put]
       refine qI 14 ?_;try simp only[Act.put]
       refine qI 15 ?_;try simp only[Act.put]
       refine qI 16 ?_;try simp only[Act.put]
       refine qI 17 ?_;try simp only[Act.put]
       refine qI 18 ?_;try simp only[Act.put]
       refine qI 19 ?_;try simp only[Act.put]
       refine qI 20 ?_;try simp only[Act.put]
       refine qI 21 ?_;try simp only[Act.put]
       refine qI 22 ?_;try simp only[Act.put]
       refine zh 23 (fun KK hKK=>?_);go_simp;skip
       clear hHeld;refine hKK.out _ _ ?_ (fun hHeld=>?_)
       · exact HS1.out _ (qE m0 _)
       clear hKK KK;try simp only[Act.put]
       refine zh 24 (fun KK hKK=>?_);go_simp;go_at_call 83
       refine(Sl _ [(kw 6),e0.id.data.toList,e1.id.data.toList] HFL _ _ (vJ (cells:=strCells) (sz:=1) (fun _=>rfl) [(kw 6),e0.id.data.toList,e1.id.data.toList] wr.drew #[.string ⟨#[116,104,114,111,117,103,104]⟩, .string e0.id, .string e1.id] 9 3 3 rfl (U3 _) (by unfold maxLen;omega) rfl) (U3 _)).mono ?_;rw[HYR.out];rintro y9 w9 ⟨rfl,b9⟩;have M9:Bl wr w9:=qF (qE m0 _) b9;have HS9:=qA (HS.out.bl M9);clear hHeld;refine hKK.out _ _ ?_ (fun hHeld=>?_)
       · exact HS1.out _ M9
       clear hKK KK;try simp only[Act.put]
       refine qI 25 ?_;try simp only[Act.put]
       refine qI 26 ?_;try simp only[Act.put]
       refine wpAnyH_done (by kernel_rfl) ?_ _;try change Exit.then _ _ .normal _ w9
       clear HS1 HFL b9 M9 m0;have HT10:=qA (HT.out.row hx HYR.out (f:=(Q8 t)) (A:=A2) (by unfold Q8;rw[hq0,JE HSAME.out he0,hq1,JE HSAME.out he1]));clear HS HT hxl hll hyl;go_wp2;go_roundw;case rel=>exact⟨k+1,xs++yr,⟨by omega,by go_num,SV xs yr⟩,HT10,HS9⟩
       case measure=>simp[intOf];omega
      ·
       skip
       have HTe:SY (A2++t.thrus.map (Q8 t)) xs:=by have:=HT.out;rw[U9 (by omega)]at this;exact this
       obtain⟨A3,hA3⟩: ∃ A',A2++t.thrus.map (Q8 t)=A':=⟨_,rfl⟩;rw[hA3]at HTe;have HA3:=qA hA3;have lA3:A3.length<=40192:=by rw[<-hA3,U1,U4];omega
       clear HT hA3;have HT:=qA HTe;clear HTe;go_wp2_with fail;clear ux;go_loopw [11,3] (fun i s wr=> ∃ (k:Nat) (xs:List UInt8),(k<=t.guars.length/\i= .int .i64 k/\s=qP xs)/\Hid (SY (A3++(t.guars.take k).map (Je t)) xs)/\Hid (FS B w.heap.size (JQ t ts a0 k0 a1 k1 a2 k2 a3 k3 a4 k4 a5 k5 a6 k6 a7 k7 a8 k8 a9 k9) ts t w wr)) (fun i _ _=>t.guars.length-(intOf i).toNat)
       case atStart=>exact⟨0,xs,⟨qAD _,rfl,rfl⟩,by show SY _ _;rw[List.take_zero,List.map_nil,List.append_nil];exact HT.out,HS.out⟩
       case round=>
        clear HS HT;obtain⟨k,xs,⟨hk,rfl,rfl⟩,HT,HS⟩:=hrel;have ux:wr.cell? ⟨w.heap.size,7,none⟩=some (.slice a7 t.guars.length k7):=qC HS.out.tt 7 _ rfl;by_cases hlx:k<t.guars.length
        ·
         obtain⟨x,hx⟩: ∃ x,t.guars[k]? =some x:=⟨_,U2 hlx⟩;obtain⟨bx,ox,rfl,lx,cx⟩:=HS.out.rd.guars.openB (by first|omega|(rw[U4];omega));have hxm:=Uz hx;have hkI:(k:Int)<(t.guars.length:Int):=by omega
         have hll:(A3++(t.guars.take k).map (Je t)).length<=1000000:=by have:=xC A3 t.guars (Je t) k;omega
         have hxl:=HT.out.bound hll;obtain⟨hc0,hc1,hc2⟩:=HV.out.guars x hxm;rw[<-HLEN5.out]at hc0 hc1;obtain⟨q0,e0,hq0,he0⟩:=Qm (l:=ts) hc0;have li0:(q0:Int)<(ts.length:Int):=by have:=(Uw.1 he0).1;omega
         have li0n:q0<ts.length:=(Uw.1 he0).1;obtain⟨q1,e1,hq1,he1⟩:=Qm (l:=ts) hc1;have li1:(q1:Int)<(ts.length:Int):=by have:=(Uw.1 he1).1;omega
         have li1n:q1<ts.length:=(Uw.1 he1).1;obtain⟨q2,e2,hq2,he2⟩:=Qm (l:=t.stops) hc2;have li2:(q2:Int)<(t.stops.length:Int):=by have:=(Uw.1 he2).1;omega
         have li2n:q2<t.stops.length:=(Uw.1 he2).1;have d0:wr.cell? ⟨bx,ox+k*3,none⟩=some (.int .i64 (q0:Int)):=by rw[<-hq0];exact cx k _ hx 0 _ rfl
         have d1:wr.cell? ⟨bx,ox+k*3+1,none⟩=some (.int .i64 (q1:Int)):=by rw[<-hq1];exact cx k _ hx 1 _ rfl
         have d2:wr.cell? ⟨bx,ox+k*3+2,none⟩=some (.int .i64 (q2:Int)):=by rw[<-hq2];exact cx k _ hx 2 _ rfl
         obtain⟨w1,hw1⟩: ∃ w1,wr.alloc (.cells #[.int .i64 (q0:Int), .int .i64 (q1:Int), .int .i64 (q2:Int)] 130)=w1:=⟨_,rfl⟩;have HX:=qA (show w1.heap[wr.heap.size]? =some (.cells #[.int .i64 (q0:Int), .int .i64 (q1:Int), .int .i64 (q2:Int)] 130 (0,0)) by rw[<-hw1];exact heap_alloc_new wr _);have b1:Bl wr w1:=by rw[<-hw1];exact qE (qB _) _
         have HW1:=qA (HS.out.bl b1);have lx:wr.heap.size<w1.heap.size:=lt_of_block HX.out;have t0:w1.cell? ⟨wr.heap.size,0,none⟩=some (.int .i64 (q0:Int)):=qC HX.out 0 _ rfl;have t1:w1.cell? ⟨wr.heap.size,1,none⟩=some (.int .i64 (q1:Int)):=qC HX.out 1 _ rfl;have t2:w1.cell? ⟨wr.heap.size,2,none⟩=some (.int .i64 (q2:Int)):=qC HX.out 2 _ rfl;clear b1;obtain⟨b0,o0,rfl,l0,cc0⟩:=HW1.out.rd.trips.sl.openB (by omega);have lz0:b0<w1.heap.size:=Nat.lt_of_lt_of_le l0 HW1.out.size;have u0:w1.cell? ⟨w.heap.size,4,none⟩=some (.slice (some ⟨b0,o0,none⟩) ts.length k4):=qC HW1.out.tt 4 _ rfl;have v0:w1.cell? ⟨b0,o0+q0*5,none⟩=some (.string e0.id):=cc0 q0 _ he0 0 _ rfl;have v1:w1.cell? ⟨b0,o0+q1*5,none⟩=some (.string e1.id):=cc0 q1 _ he1 0 _ rfl;obtain⟨b2,o2,rfl,l2,cc2⟩:=HW1.out.rd.stops.openB (by omega);have lz2:b2<w1.heap.size:=Nat.lt_of_lt_of_le l2 HW1.out.size;have u2:w1.cell? ⟨w.heap.size,0,none⟩=some (.slice (some ⟨b2,o2,none⟩) t.stops.length k0):=qC HW1.out.tt 0 _ rfl;have v2:w1.cell? ⟨b2,o2+q2*4,none⟩=some (qP e2.id):=cc2 q2 _ he2 0 _ rfl;have lt0:w.heap.size<w1.heap.size:=lt_of_block HW1.out.tt;clear cx cc0 cc2;go_wp2_with fail;clear hw1 ux d0 d1 d2;have HS1:Hid (∀ W,Bl w1 W->(fun W'=>W'.cell? ⟨wr.heap.size,0,none⟩=some (.int .i64 (q0:Int))/\W'.cell? ⟨wr.heap.size,1,none⟩=some (.int .i64 (q1:Int))/\W'.cell? ⟨wr.heap.size,2,none⟩=some (.int .i64 (q2:Int))/\W'.cell? ⟨w.heap.size,4,none⟩=some (.slice (some ⟨b0,o0,none⟩) ts.length k4)/\W'.cell? ⟨b0,o0+q0*5,none⟩=some (.string e0.id)/\W'.cell? ⟨b0,o0+q1*5,none⟩=some (.string e1.id)/\W'.cell? ⟨w.heap.size,0,none⟩=some (.slice (some ⟨b2,o2,none⟩) t.stops.length k0)/\W'.cell? ⟨b2,o2+q2*4,none⟩=some (qP e2.id)) W):=fun W k=>⟨((qG k).1 _ _ lx).trans t0,((qG k).1 _ _ lx).trans t1,((qG k).1 _ _ lx).trans t2,((qG k).1 _ _ lt0).trans u0,((qG k).1 _ _ lz0).trans v0,((qG k).1 _ _ lz0).trans v1,((qG k).1 _ _ lt0).trans u2,((qG k).1 _ _ lz2).trans v2⟩
         have HFL:Hid (∀ y∈([(kw 7),e0.id.data.toList,e1.id.data.toList,e2.id]:List (List UInt8)),y.length<=131072):=fun y hy=>by
          simp only[List.mem_cons,List.not_mem_nil,or_false]at hy;rcases hy with rfl|rfl|rfl|rfl
          · exact Ux ((by decide):_<=100) (by omega)
          · exact Ux ((Ux (HV.out.trips (xOf e0) (by rw[HSAME.out];exact List.mem_map_of_mem (Uz he0))).1 (by omega)):_<=100) (by omega)
          · exact Ux ((Ux (HV.out.trips (xOf e1) (by rw[HSAME.out];exact List.mem_map_of_mem (Uz he1))).1 (by omega)):_<=100) (by omega)
          · exact Ux ((Ux (HV.out.stops _ (Uz he2)).1 (by omega)):_<=100) (by omega)
         obtain⟨yr,hyr⟩: ∃ yr,jZ [(kw 7),e0.id.data.toList,e1.id.data.toList,e2.id]++[10]=yr:=⟨_,rfl⟩;have hyl: ¬ 9223372036854775807<xs.length+yr.length:=by have:=SS [(kw 7),e0.id.data.toList,e1.id.data.toList,e2.id];rw[<-hyr,U1];simp only[U7,List.length_nil];omega
         have HYR:=qA hyr;clear hyr;have m0:Bl w1 w1.drew:=qH (qB w1);refine wp_region_held_drew (S:=(fun W'=>W'.cell? ⟨wr.heap.size,0,none⟩=some (.int .i64 (q0:Int))/\W'.cell? ⟨wr.heap.size,1,none⟩=some (.int .i64 (q1:Int))/\W'.cell? ⟨wr.heap.size,2,none⟩=some (.int .i64 (q2:Int))/\W'.cell? ⟨w.heap.size,4,none⟩=some (.slice (some ⟨b0,o0,none⟩) ts.length k4)/\W'.cell? ⟨b0,o0+q0*5,none⟩=some (.string e0.id)/\W'.cell? ⟨b0,o0+q1*5,none⟩=some (.string e1.id)/\W'.cell? ⟨w.heap.size,0,none⟩=some (.slice (some ⟨b2,o2,none⟩) t.stops.length k0)/\W'.cell? ⟨b2,o2+q2*4,none⟩=some (qP e2.id))) (by kernel_rfl) (HS1.out _ (qH (qB w1))) (fun hHeld=>?_);refine qI 0 ?_;try simp only[Act.put]
         refine qI 1 ?_;try simp only[Act.put]
         refine qI 2 ?_;try simp only[Act.put]
         refine qI 3 ?_;try simp only[Act.put]
         refine qI 4 ?_;try simp only[Act.put]
         refine qI 5 ?_;try simp only[Act.put]
         refine qI 6 ?_;try simp only[Act.put]
         refine qI 7 ?_;try simp only[Act.put]
         refine qI 8 ?_;try simp only[Act.put]
         refine qI 9 ?_;try simp only[Act.put]
         refine qI 10 ?_;try simp only[Act.put]
         refine qI 11 ?_;try simp only[Act.put]
         refine qI 12 ?_;try simp only[Act.put]
         refine qI 13 ?_;try simp only[Act.put]
         refine qI 14 ?_;try simp only[Act.put]
         refine qI 15 ?_;try simp only[Act.put]
         refine qI 16 ?_;try simp only[Act.put]
         refine qI 17 ?_;try simp only[Act.put]
         refine qI 18 ?_;try simp only[Act.put]
         refine qI 19 ?_;try simp only[Act.put]
         refine qI 20 ?_;try simp only[Act.put]
         refine qI 21 ?_;try simp only[Act.put]
         refine zh 22 (fun KK hKK=>?_);go_simp;skip
         clear hHeld;refine hKK.out _ _ ?_ (fun hHeld=>?_)
         · exact HS1.out _ (qE m0 _)
         clear hKK KK;try simp only[Act.put]
         refine zh 23 (fun KK hKK=>?_);go_simp;go_at_call 83
         refine(Sl _ [(kw 7),e0.id.data.toList,e1.id.data.toList,e2.id] HFL _ _ (vJ (cells:=strCells) (sz:=1) (fun _=>rfl) [(kw 7),e0.id.data.toList,e1.id.data.toList,e2.id] w1.drew #[.string ⟨#[103,117,97,114,97,110,116,101,101]⟩, .string e0.id, .string e1.id,qP e2.id] 9 4 4 rfl (U3 _) (by unfold maxLen;omega) rfl) (U3 _)).mono ?_;rw[HYR.out];rintro y9 w9 ⟨rfl,b9⟩;have M9:Bl w1 w9:=qF (qE m0 _) b9;have HS9:=qA (HW1.out.bl M9);clear hHeld;refine hKK.out _ _ ?_ (fun hHeld=>?_)
         · exact HS1.out _ M9
         clear hKK KK;try simp only[Act.put]
         refine qI 24 ?_;try simp only[Act.put]
         refine qI 25 ?_;try simp only[Act.put]
         refine wpAnyH_done (by kernel_rfl) ?_ _;try change Exit.then _ _ .normal _ w9
         clear HS1 HFL b9 M9 m0;have HT10:=qA (HT.out.row hx HYR.out (f:=(Je t)) (A:=A3) (by unfold Je;rw[hq0,JE HSAME.out he0,hq1,JE HSAME.out he1,hq2,Qv he2]));clear HS HT hxl hll hyl;go_wp2;go_roundw;case rel=>exact⟨k+1,xs++yr,⟨by omega,by go_num,SV xs yr⟩,HT10,HS9⟩
         case measure=>simp[intOf];omega
        ·
         skip
         have HTe:SY (A3++t.guars.map (Je t)) xs:=by have:=HT.out;rw[U9 (by omega)]at this;exact this
         obtain⟨A4,hA4⟩: ∃ A',A3++t.guars.map (Je t)=A':=⟨_,rfl⟩;rw[hA4]at HTe;have HA4:=qA hA4;have lA4:A4.length<=40320:=by rw[<-hA4,U1,U4];omega
         clear HT hA4;have HT:=qA HTe;clear HTe;have HF:Hid (SY (Sz t) xs):=by show SY _ _;have:=HT.out;rw[<-HA4.out,<-HA3.out,<-HA2.out,<-HA1.out,<-HA0.out]at this;exact this
         have HBE:=qA HS.out.bel;clear HT HS;go_wp2;go_ret;exact⟨⟨xs,rfl,HF⟩,HBE.out⟩
end Go.Proofs.YtakedkcjplfgeaaGreatDoor
