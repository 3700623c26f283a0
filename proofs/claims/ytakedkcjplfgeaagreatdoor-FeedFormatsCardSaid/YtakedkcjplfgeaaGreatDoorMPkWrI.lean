/- Contracts, proved. Conditions: each contract's own. -/
import Derived.Test.YtakedkcjplfgeaaGreatDoorMPkWrG
import Derived.Test.YtakedkcjplfgeaaGreatDoorMPkWrH
import Derived.Test.YtakedkcjplfgeaaGreatDoorMPkChkB
set_option maxRecDepth 1000000
set_option maxHeartbeats 32000000
namespace Go.Proofs.YtakedkcjplfgeaaGreatDoor
open Go.RowKit
open Frq Thr Tt Num Clk Dat Fld
theorem eU (f:List (List UInt8)):(jZ f).length<=131072:=by
 have:=C9 (l:=f) (o:=(zL f).1) (e:=(zL f).2) rfl;unfold jZ;omega
theorem uh (t:TtD): ∀ l∈JO t,l.length<=131072:=by
 unfold JO;intro l hl;simp only[List.mem_append,List.mem_map,List.mem_flatMap,List.mem_cons]at hl;rcases hl with⟨x,-,rfl⟩|⟨x,-,rfl⟩|⟨x,-,rfl⟩|⟨x,-,rfl⟩|⟨x,-,rfl|⟨c,-,rfl⟩⟩|⟨x,-,rfl⟩|⟨x,-,rfl⟩|⟨x,-,rfl⟩|⟨x,-,rfl⟩|h|⟨x,-,rfl⟩
 all_goals first
  |exact eU _
  |skip
 split at h
 · cases h
 ·
  rw[List.mem_singleton]at h;rw[h];exact eU _
theorem yA.mono {B B':Nat} {w:World} {V:TtV} {ts:List TripD} {t:TtD} (h:yA B w V ts t) (hB:B<=B'):yA B' w V ts t:=
 ⟨h.stops.mono hB,h.routes.mono hB,h.cals.mono hB,h.excs.mono hB,⟨h.trips.sl.mono hB,fun x hx=>⟨(h.trips.ok x hx).calls.mono hB,(h.trips.ok x hx).ok⟩⟩,h.same,h.freqs.mono hB,h.thrus.mono hB,h.guars.mono hB,h.paths.mono hB,h.prods.mono hB⟩
theorem Vg (V:TtV) (ts:List TripD) (t:TtD) (s:List UInt8) (e:Int) (H:Hid (xI t=(s,e))) (ok:Hid (ZZ t)) (B:Nat) (w:World) (rd:yA B w V ts t) (hB:B<=w.heap.size) (nm:yS w):
  Calls Tryz.prog 14 #[JP V t] w fun q w'=>q= .returned (.tuple #[qP s, .int .i64 e])/\Bl w w':=by
 obtain⟨⟨p,i,ec⟩,hck⟩: ∃ q,Qj t=q:=⟨_,rfl⟩;have HCK:=qA hck;have RD:=qA rd;have NM:=qA nm;have hnl:0<w.heap.size:=World.block_lt_of_cell? w _ (nm 0 _ rfl);have hlen5:ts.length=t.trips.length:=by have:=congrArg List.length rd.same;rw[U4]at this;exact this.symm
 have HLEN5:=qA hlen5;obtain⟨v0,v1,v2,v3,v4,v5,v6,v7,v8,v9⟩:=V;obtain⟨a0,k0,(rfl:v0=_),-,-⟩:=rd.stops.val;obtain⟨a1,k1,(rfl:v1=_),-,-⟩:=rd.routes.val;obtain⟨a2,k2,(rfl:v2=_),-,-⟩:=rd.cals.val;obtain⟨a3,k3,(rfl:v3=_),-,-⟩:=rd.excs.val;obtain⟨a4,k4,(rfl:v4=_),-,-⟩:=rd.trips.sl.val;obtain⟨a5,k5,(rfl:v5=_),-,-⟩:=rd.freqs.val;obtain⟨a6,k6,(rfl:v6=_),-,-⟩:=rd.thrus.val;obtain⟨a7,k7,(rfl:v7=_),-,-⟩:=rd.guars.val;obtain⟨a8,k8,(rfl:v8=_),-,-⟩:=rd.paths.val;obtain⟨a9,k9,(rfl:v9=_),-,-⟩:=rd.prods.val;clear rd hlen5 nm hck;simp only[U4]at RD ⊢;obtain⟨V,hV⟩: ∃ V:TtV,V=⟨.slice a0 t.stops.length k0, .slice a1 t.routes.length k1, .slice a2 t.cals.length k2, .slice a3 t.excs.length k3, .slice a4 ts.length k4, .slice a5 t.freqs.length k5, .slice a6 t.thrus.length k6, .slice a7 t.guars.length k7, .slice a8 t.paths.length k8, .slice a9 t.fares.prods.length k9⟩:=⟨_,rfl⟩;rw[<-hV]at RD;have HVV:=qA hV;clear hV;unfold JP;obtain⟨w0,hw0⟩: ∃ w0,w.alloc (.cells (Qa V t.fares) 36)=w0:=⟨_,rfl⟩;have A0:=qA (show JV w.heap.size V t.fares w0 by rw[<-hw0];exact heap_alloc_new w _);have b0:Bl w w0:=by rw[<-hw0];exact qE (qB _) _
 have B0:=qA b0;have s0:w0.heap.size=w.heap.size+1:=by rw[<-hw0];simp
 have R0:=qA (RD.out.bl b0 hB);have hcheck:=pY V ts t p i ec HCK ok B w0 R0.out (by omega);rw[HVV.out]at hcheck;unfold JP at hcheck;simp only at hcheck;have CE: ∀ (W:World),JV w.heap.size V t.fares W-> ∀ (j:Nat) (u:Value),(Qa V t.fares)[j]? =some u->W.cell? ⟨w.heap.size,j,none⟩=some u:=fun W h j u hu=>qC h j u hu
 rw[HVV.out]at CE;have c0:=CE w0 (by rw[<-HVV.out];exact A0.out) 0 _ rfl;have c1:=CE w0 (by rw[<-HVV.out];exact A0.out) 1 _ rfl;have c2:=CE w0 (by rw[<-HVV.out];exact A0.out) 2 _ rfl;have c3:=CE w0 (by rw[<-HVV.out];exact A0.out) 3 _ rfl;have c4:=CE w0 (by rw[<-HVV.out];exact A0.out) 4 _ rfl;have c5:=CE w0 (by rw[<-HVV.out];exact A0.out) 5 _ rfl;have c6:=CE w0 (by rw[<-HVV.out];exact A0.out) 6 _ rfl;have c7:=CE w0 (by rw[<-HVV.out];exact A0.out) 7 _ rfl;have c8:=CE w0 (by rw[<-HVV.out];exact A0.out) 8 _ rfl;have c9:=CE w0 (by rw[<-HVV.out];exact A0.out) 9 _ rfl;have c10:=CE w0 (by rw[<-HVV.out];exact A0.out) 10 _ rfl;have c11:=CE w0 (by rw[<-HVV.out];exact A0.out) 11 _ rfl;have c12:=CE w0 (by rw[<-HVV.out];exact A0.out) 12 _ rfl;have HCE:=qA CE;rw[HVV.out]at hw0;simp only[Qa]at hw0;clear CE b0;by_cases he:ec=0
 ·
  subst he;have HF:=qA (show Zu (JO t)=(s,e) by rw[<-H.out];unfold xI;rw[HCK.out,U5 (by simp)]);have hval:=qA (rG (t:=t) (by rw[HCK.out]));have hlim:=qA (Om (t:=t) (by rw[HCK.out]));have HRS:=qA (uh t);go_enter Tryz.func14,Tryz.ntmps14
  go_wp2_with (go_at_call 21;refine hcheck.mono ?_)
  rintro y2 w2 ⟨rfl,b2⟩;obtain⟨w3,hw3⟩: ∃ w3,w2.alloc (.cells #[.slice none 0 0] 90)=w3:=⟨_,rfl⟩;have b3:Bl w2 w3:=by rw[<-hw3];exact qE (qB _) _
  have s2:=b2.size;have s3:w3.heap.size=w2.heap.size+1:=by rw[<-hw3];simp
  have B3:=qA (qF B0.out (qF b2 b3));have R3:=qA ((R0.out.bl (qF b2 b3) (by omega)).mono (show B<=w2.heap.size by omega));have A3:=qA (show JV w.heap.size V t.fares w3 from qX A0.out (qF b2 b3));have WA3:Hid (Ea w2.heap.size w2.heap.size [] w3):=⟨U3 _,_,by rw[<-hw3];exact heap_alloc_new w2 _,ZP _ _⟩;have N3:Hid (yS w3):=NM.out.bl B3.out;have htab:=EZ w2.heap.size w2.heap.size V ts t hval hlim (by omega) [] (by simp) w3 R3.out WA3.out N3.out (by omega);rw[HVV.out]at htab;unfold JP at htab;simp only at htab;have A3':=A3.out;rw[HVV.out]at A3';have d0:=HCE.out w3 A3' 0 _ rfl;have d1:=HCE.out w3 A3' 1 _ rfl;have d2:=HCE.out w3 A3' 2 _ rfl;have d3:=HCE.out w3 A3' 3 _ rfl;have d4:=HCE.out w3 A3' 4 _ rfl;have d5:=HCE.out w3 A3' 5 _ rfl;have d6:=HCE.out w3 A3' 6 _ rfl;have d7:=HCE.out w3 A3' 7 _ rfl;have d8:=HCE.out w3 A3' 8 _ rfl;have d9:=HCE.out w3 A3' 9 _ rfl;have d10:=HCE.out w3 A3' 10 _ rfl;have d11:=HCE.out w3 A3' 11 _ rfl;have d12:=HCE.out w3 A3' 12 _ rfl;clear A3' b2 b3 c0 c1 c2 c3 c4 c5 c6 c7 c8 c9 c10 c11 c12 hcheck hw0;go_wp2_with (go_at_call 30;refine htab.mono ?_)
  rintro y4 w4 ⟨rfl,wa4,be4⟩;have HWA4:=qA wa4;have HBE4:=qA be4;have R4:=qA (R3.out.far be4);have A4:=qA (show JV w.heap.size V t.fares w4 from(be4.block w.heap.size (by omega)).trans A3.out);have N4:Hid (yS w4):=N3.out.far (show _<w2.heap.size by omega) be4;have s4:=be4.size;have hrest:=NV w2.heap.size w2.heap.size V ts t hval hlim (by omega) ([]++t.stops.map xK++t.routes.map ve++t.cals.map Qp++t.excs.map (wX t)++t.trips.flatMap (yG t)) (by
   have h1:=Vt (t:=t) t.trips hlim.out.calls;have h2:=hlim.out.stops;have h3:=hlim.out.routes;have h4:=hlim.out.cals;have h5:=hlim.out.excs;have h6:=hlim.out.trips;simp only[U1,U4,List.length_nil];omega) w4 R4.out wa4 N4.out (by omega)
  rw[HVV.out]at hrest;unfold JP at hrest;simp only at hrest;have A4':=A4.out;rw[HVV.out]at A4';have d0:=HCE.out w4 A4' 0 _ rfl;have d1:=HCE.out w4 A4' 1 _ rfl;have d2:=HCE.out w4 A4' 2 _ rfl;have d3:=HCE.out w4 A4' 3 _ rfl;have d4:=HCE.out w4 A4' 4 _ rfl;have d5:=HCE.out w4 A4' 5 _ rfl;have d6:=HCE.out w4 A4' 6 _ rfl;have d7:=HCE.out w4 A4' 7 _ rfl;have d8:=HCE.out w4 A4' 8 _ rfl;have d9:=HCE.out w4 A4' 9 _ rfl;have d10:=HCE.out w4 A4' 10 _ rfl;have d11:=HCE.out w4 A4' 11 _ rfl;have d12:=HCE.out w4 A4' 12 _ rfl;clear A4' wa4 be4 htab;go_wp2_with (go_at_call 31;refine hrest.mono ?_)
  rintro y5 w5 ⟨rfl,⟨-,vl,hl5,ol5⟩,be5⟩;have s5:=be5.size;have hrows:eQ t ([]++t.stops.map xK++t.routes.map ve++t.cals.map Qp++t.excs.map (wX t)++t.trips.flatMap (yG t))=JO t:=IA t;rw[hrows]at ol5;have htx:=PO vl (JO t) s e HF HRS w5.heap.size w5 (Qz ol5) (U3 _);have B5:Hid (Bl w w5):=B3.out.trans ((HBE4.out.trans be5).mono (by omega));obtain⟨al,cl,rfl⟩:=YH ol5;have cw:w5.cell? ⟨w2.heap.size,0,none⟩=some (.slice al (JO t).length cl):=qC hl5 0 _ rfl;clear hl5 ol5 hrows be5 hrest d0 d1 d2 d3 d4 d5 d6 d7 d8 d9 d10 d11 d12;go_wp2_with (go_at_call 32;refine htx.mono ?_)
  rintro y6 w6 ⟨rfl,b6⟩;have B6:=qA (qF B5.out b6);clear b6 htx cw;go_wp2;go_ret2;exact⟨rfl,B6.out⟩
 ·
  have HF:=qA (show(([]:List UInt8),ec)=(s,e) by rw[<-H.out];unfold xI;rw[HCK.out,U6 he]);have f0:(ec != 0)=true:=by rw[bne_iff_ne];exact he
  obtain⟨d1,d2⟩:=qAE HF.out;clear HF H;subst d1 d2;go_enter Tryz.func14,Tryz.ntmps14
  go_wp2_with (go_at_call 21;refine hcheck.mono ?_)
  rintro y2 w2 ⟨rfl,b2⟩;have B2:=qA (qF B0.out b2);clear b2;go_wp2;go_ret2;exact⟨rfl,B2.out⟩
end Go.Proofs.YtakedkcjplfgeaaGreatDoor
