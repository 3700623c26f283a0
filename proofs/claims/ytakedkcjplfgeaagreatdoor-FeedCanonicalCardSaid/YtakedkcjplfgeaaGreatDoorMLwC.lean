/- Contracts of the feed, proved. Conditions: those of each contract. -/
import Derived.Test.YtakedkcjplfgeaaGreatDoorMPkEx2
import Derived.Test.YtakedkcjplfgeaaGreatDoorMRkC
import Derived.Test.YtakedkcjplfgeaaGreatDoorMXP
set_option maxRecDepth 1000000
set_option maxHeartbeats 32000000
namespace Go.Proofs.YtakedkcjplfgeaaGreatDoor
open Go.RowKit
open Frq Thr Tt Num Clk Dat Fld
theorem sW {t:TtD} {s:List UInt8} {e:Int} (h:xI t=(s,e)):s.length<=65536:=by
 unfold xI at h;split at h
 ·
  rw[Prod.mk.injEq]at h;rw[<-h.1];decide
 · exact ES h
theorem IX (B:Nat) (w:World):yA B w ⟨.slice none 0 0, .slice none 0 0, .slice none 0 0, .slice none 0 0, .slice none 0 0, .slice none 0 0, .slice none 0 0, .slice none 0 0, .slice none 0 0, .slice none 0 0⟩ [] emptyT:=
 ⟨zJ,zJ,zJ,zJ,⟨zJ,fun _ h=>by cases h⟩,rfl,zJ,zJ,zJ,zJ,zJ⟩
theorem WT (s:ByteArray) (hs0:s.size<=9223372036854775807) (m:Int) (w:World) (env:ah m w):
  Calls Tryz.prog 6 #[.string s] w fun q w'=>q= .returned (.bool true)/\Bl w w':=by
 have HE:=qA env;by_cases hbig:8192<s.size
 ·
  have h8:(8192:Int)<(s.size:Int):=by omega
  have hex:=Kv m w env;clear env;go_enter Tryz.func6,Tryz.ntmps6
  go_wp2_with (go_at_call 9;refine hex.mono ?_)
  first|rintro y1 w1 rfl b1|rintro y1 w1 ⟨rfl,b1⟩
  go_wp2;go_ret;exact⟨rfl,b1⟩
 have h8: ¬ (8192:Int)<(s.size:Int):=by omega
 obtain⟨⟨t,n,e⟩,hp⟩: ∃ p,vC s.data.toList=p:=⟨_,rfl⟩;have HP:=qA hp;have hpc:=mW s (by omega) m t n e HP w env;clear hp env;go_enter Tryz.func6,Tryz.ntmps6
 go_wp2_with (go_at_call 10;refine hpc.mono ?_)
 rintro y1 w1 ⟨ts,a0,a1,a2,a3,a4,a5,a6,a7,a8,a9,k0,k1,k2,k3,k4,k5,k6,k7,k8,k9,rfl,RD1,⟨ok,-⟩,B1⟩;have OK:=qA ok;clear ok hpc;obtain⟨w2,hww2⟩: ∃ w',w1.alloc (.cells #[.slice a0 t.stops.length k0, .slice a1 t.routes.length k1, .slice a2 t.cals.length k2, .slice a3 t.excs.length k3, .slice a4 ts.length k4, .slice a5 t.freqs.length k5, .slice a6 t.thrus.length k6, .slice a7 t.guars.length k7, .slice a8 t.paths.length k8, .slice a9 t.fares.prods.length k9, .int .i64 t.fares.disc, .int .i64 t.fares.within, .int .i64 t.fares.cap] 36)=w':=⟨_,rfl⟩;have b2:Bl w1 w2:=by rw[<-hww2];exact qE (qB _) _
 have HA2:=qA (show w2.heap[w1.heap.size]? =some (.cells #[.slice a0 t.stops.length k0, .slice a1 t.routes.length k1, .slice a2 t.cals.length k2, .slice a3 t.excs.length k3, .slice a4 ts.length k4, .slice a5 t.freqs.length k5, .slice a6 t.thrus.length k6, .slice a7 t.guars.length k7, .slice a8 t.paths.length k8, .slice a9 t.fares.prods.length k9, .int .i64 t.fares.disc, .int .i64 t.fares.within, .int .i64 t.fares.cap] 36 (0,0)) by rw[<-hww2];exact heap_alloc_new w1 _);have B2:=qA (qF B1.out b2);have R2:=qA ((RD1.out.bl b2 (Nat.le_refl _)).up b2.size);have HW2:=qA hww2;clear b2 RD1 B1 hww2;by_cases he:e=0
 rotate_left
 ·
  have f1:(e != 0)=true:=by rw[bne_iff_ne];exact he
  obtain⟨p0,p1,p2,p3,p4,p5,p6,p7,p8,p9,p10,p11,p12⟩:=kW HA2.out;go_wp2_with fail;rw[HW2.out];clear p0 p1 p2 p3 p4 p5 p6 p7 p8 p9 p10 p11 p12;obtain rfl:=ni HP.out he;obtain⟨rfl,-⟩:ts=[]/\True:=⟨by have:=R2.out.same;exact List.map_eq_nil_iff.1 this.symm,trivial⟩;have heq:=Ah ⟨.slice a0 emptyT.stops.length k0, .slice a1 emptyT.routes.length k1, .slice a2 emptyT.cals.length k2, .slice a3 emptyT.excs.length k3, .slice a4 ([]:List TripD).length k4, .slice a5 emptyT.freqs.length k5, .slice a6 emptyT.thrus.length k6, .slice a7 emptyT.guars.length k7, .slice a8 emptyT.paths.length k8, .slice a9 emptyT.fares.prods.length k9⟩ ⟨.slice none 0 0, .slice none 0 0, .slice none 0 0, .slice none 0 0, .slice none 0 0, .slice none 0 0, .slice none 0 0, .slice none 0 0, .slice none 0 0, .slice none 0 0⟩ [] [] emptyT w2.heap.size w2 R2.out (IX _ _) (Nat.le_refl _);unfold JP at heq;clear he;go_wp2_with (go_at_call 12;refine heq.mono ?_)
  first|rintro y7 w7 rfl b7|rintro y7 w7 ⟨rfl,b7⟩
  have B7:=qA (qF B2.out b7);clear heq b7;have hx8:=Kv m w7 (HE.out.bl B7.out);go_wp2_with (go_at_call 9;refine hx8.mono ?_)
  first|rintro y8 z8 rfl c8|rintro y8 z8 ⟨rfl,c8⟩
  go_wp2;go_ret;exact⟨rfl,qF B7.out c8⟩
 subst he;obtain⟨hv,rfl⟩:=ny HP.out;have HV:=qA hv;obtain⟨e0,he0⟩: ∃ n:Int,0=n:=⟨0,rfl⟩;have HE0:=qA he0;have g1:(e0 != 0)=false:=by rw[<-he0];rfl
 obtain⟨⟨q1,q2,q3⟩,hq⟩: ∃ p,Qj t=p:=⟨_,rfl⟩;have HQ:=qA hq;have hq3:q3=0:=by rw[hq]at hv;exact hv
 have g2:(q3 != 0)=false:=by rw[hq3];rfl
 clear hv hq he0 hq3;have hck:=RG ⟨.slice a0 t.stops.length k0, .slice a1 t.routes.length k1, .slice a2 t.cals.length k2, .slice a3 t.excs.length k3, .slice a4 ts.length k4, .slice a5 t.freqs.length k5, .slice a6 t.thrus.length k6, .slice a7 t.guars.length k7, .slice a8 t.paths.length k8, .slice a9 t.fares.prods.length k9⟩ ts t q1 q2 q3 HQ OK.out w2.heap.size w2 R2.out (Nat.le_refl _);unfold JP at hck;simp only at hck;obtain⟨p0,p1,p2,p3,p4,p5,p6,p7,p8,p9,p10,p11,p12⟩:=kW HA2.out;go_wp2_with fail;rw[HW2.out];go_wp2_with (go_at_call 16;refine hck.mono ?_)
 first|rintro y3 w3 rfl b3|rintro y3 w3 ⟨rfl,b3⟩
 have HA3:=qA (qX HA2.out b3);have B3:=qA (qF B2.out b3);have R3:=qA ((R2.out.bl b3 (Nat.le_refl _)).up b3.size);clear hck b3 p0 p1 p2 p3 p4 p5 p6 p7 p8 p9 p10 p11 p12 HA2 B2 HW2 R2;obtain⟨⟨u,f⟩,hf⟩: ∃ p,xI t=p:=⟨_,rfl⟩;have HF:=qA hf;have hf05:f=0∨f=5:=by have:=gX HV.out;rw[hf]at this;exact this
 have hfmt:=Vg ⟨.slice a0 t.stops.length k0, .slice a1 t.routes.length k1, .slice a2 t.cals.length k2, .slice a3 t.excs.length k3, .slice a4 ts.length k4, .slice a5 t.freqs.length k5, .slice a6 t.thrus.length k6, .slice a7 t.guars.length k7, .slice a8 t.paths.length k8, .slice a9 t.fares.prods.length k9⟩ ts t u f HF OK w3.heap.size w3 R3.out (Nat.le_refl _) (HE.out.bl B3.out).nm;unfold JP at hfmt;simp only at hfmt;obtain⟨p0,p1,p2,p3,p4,p5,p6,p7,p8,p9,p10,p11,p12⟩:=kW HA3.out;clear hf;go_wp2_with (go_at_call 14;refine hfmt.mono ?_)
 first|rintro y4 w4 rfl b4|rintro y4 w4 ⟨rfl,b4⟩
 have HA4:=qA (qX HA3.out b4);have B4:=qA (qF B3.out b4);have R4:=qA ((R3.out.bl b4 (Nat.le_refl _)).up b4.size);clear hfmt b4 p0 p1 p2 p3 p4 p5 p6 p7 p8 p9 p10 p11 p12 HA3 B3 R3;rcases hf05 with rfl|rfl
 rotate_left
 ·
  clear HF;have hx6:=Kv m w4 (HE.out.bl B4.out);go_wp2_with (go_at_call 9;refine hx6.mono ?_)
  first|rintro y6 z6 rfl c6|rintro y6 z6 ⟨rfl,c6⟩
  go_wp2;go_ret;exact⟨rfl,qF B4.out c6⟩
 have hsl:=sW HF.out;obtain⟨n1,hn1⟩: ∃ n:Int,0=n:=⟨0,rfl⟩;obtain⟨e1,he1⟩: ∃ n:Int,0=n:=⟨0,rfl⟩;have hpc:=mW ⟨u.toArray⟩ (by show u.toArray.size<=_;rw[List.size_toArray];omega) m t n1 e1 (qA (by rw[<-hn1,<-he1];exact ug HF.out)) w4 (HE.out.bl B4.out);have f2:(e1==0)=true:=by rw[<-he1];rfl
 clear hsl hn1 he1;go_wp2_with (go_at_call 10;refine hpc.mono ?_)
 rintro y5 w5 ⟨us,d0,d1,d2,d3,d4,d5,d6,d7,d8,d9,dk0,dk1,dk2,dk3,dk4,dk5,dk6,dk7,dk8,dk9,rfl,RD5,-,B5⟩;obtain⟨w6,hww6⟩: ∃ w',w5.alloc (.cells #[.slice d0 t.stops.length dk0, .slice d1 t.routes.length dk1, .slice d2 t.cals.length dk2, .slice d3 t.excs.length dk3, .slice d4 us.length dk4, .slice d5 t.freqs.length dk5, .slice d6 t.thrus.length dk6, .slice d7 t.guars.length dk7, .slice d8 t.paths.length dk8, .slice d9 t.fares.prods.length dk9, .int .i64 t.fares.disc, .int .i64 t.fares.within, .int .i64 t.fares.cap] 36)=w':=⟨_,rfl⟩;have b6:Bl w5 w6:=by rw[<-hww6];exact qE (qB _) _
 have A6:=qA (show w6.heap[w5.heap.size]? =some (.cells #[.slice d0 t.stops.length dk0, .slice d1 t.routes.length dk1, .slice d2 t.cals.length dk2, .slice d3 t.excs.length dk3, .slice d4 us.length dk4, .slice d5 t.freqs.length dk5, .slice d6 t.thrus.length dk6, .slice d7 t.guars.length dk7, .slice d8 t.paths.length dk8, .slice d9 t.fares.prods.length dk9, .int .i64 t.fares.disc, .int .i64 t.fares.within, .int .i64 t.fares.cap] 36 (0,0)) by rw[<-hww6];exact heap_alloc_new w5 _);have HW6:=qA hww6;have HA6:=qA (qX HA4.out (qF B5.out b6));have B6:=qA (qF B4.out (qF B5.out b6));have RT6:=qA ((R4.out.bl (qF B5.out b6) (Nat.le_refl _)).up (qF B5.out b6).size);have RU6:=qA ((RD5.out.bl b6 (Nat.le_refl _)).up b6.size);have hfmt:=Vg ⟨.slice d0 t.stops.length dk0, .slice d1 t.routes.length dk1, .slice d2 t.cals.length dk2, .slice d3 t.excs.length dk3, .slice d4 us.length dk4, .slice d5 t.freqs.length dk5, .slice d6 t.thrus.length dk6, .slice d7 t.guars.length dk7, .slice d8 t.paths.length dk8, .slice d9 t.fares.prods.length dk9⟩ us t u 0 HF OK w6.heap.size w6 RU6.out (Nat.le_refl _) (HE.out.bl B6.out).nm;unfold JP at hfmt;simp only at hfmt;clear b6 hpc RD5 B5 HA4 B4 hww6;obtain⟨q0,q1,q2,q3,q4,q5,q6,q7,q8,q9,q10,q11,q12⟩:=kW A6.out;go_wp2_with fail;rw[HW6.out];go_wp2_with (go_at_call 14;refine hfmt.mono ?_)
 first|rintro y7 w7 rfl b7|rintro y7 w7 ⟨rfl,b7⟩
 have HA7:=qA (qX HA6.out b7);have A7:=qA (qX A6.out b7);have B7:=qA (qF B6.out b7);have heq:=Ah ⟨.slice a0 t.stops.length k0, .slice a1 t.routes.length k1, .slice a2 t.cals.length k2, .slice a3 t.excs.length k3, .slice a4 ts.length k4, .slice a5 t.freqs.length k5, .slice a6 t.thrus.length k6, .slice a7 t.guars.length k7, .slice a8 t.paths.length k8, .slice a9 t.fares.prods.length k9⟩ ⟨.slice d0 t.stops.length dk0, .slice d1 t.routes.length dk1, .slice d2 t.cals.length dk2, .slice d3 t.excs.length dk3, .slice d4 us.length dk4, .slice d5 t.freqs.length dk5, .slice d6 t.thrus.length dk6, .slice d7 t.guars.length dk7, .slice d8 t.paths.length dk8, .slice d9 t.fares.prods.length dk9⟩ ts us t w7.heap.size w7 ((RT6.out.bl b7 (Nat.le_refl _)).up b7.size) ((RU6.out.bl b7 (Nat.le_refl _)).up b7.size) (Nat.le_refl _);unfold JP at heq;simp only at heq;clear hfmt b7 q0 q1 q2 q3 q4 q5 q6 q7 q8 q9 q10 q11 q12 HA6 A6 B6 RT6 RU6 HW6 HF;obtain⟨p0,p1,p2,p3,p4,p5,p6,p7,p8,p9,p10,p11,p12⟩:=kW HA7.out;obtain⟨q0,q1,q2,q3,q4,q5,q6,q7,q8,q9,q10,q11,q12⟩:=kW A7.out;go_wp2_with (go_at_call 12;refine heq.mono ?_)
 first|rintro y8 w8 rfl b8|rintro y8 w8 ⟨rfl,b8⟩
 have B8:=qA (qF B7.out b8);clear heq b8 p0 p1 p2 p3 p4 p5 p6 p7 p8 p9 p10 p11 p12 q0 q1 q2 q3 q4 q5 q6 q7 q8 q9 q10 q11 q12 HA7 A7 B7;have hx9:=Kv m w8 (HE.out.bl B8.out);go_wp2_with (go_at_call 9;refine hx9.mono ?_)
 first|rintro y9 z9 rfl c9|rintro y9 z9 ⟨rfl,c9⟩
 go_wp2;go_ret;exact⟨rfl,qF B8.out c9⟩
end Go.Proofs.YtakedkcjplfgeaaGreatDoor
