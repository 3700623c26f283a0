/-
  PkLw2: what the law of feed needs of FedLw2. Conditions: those of each lemma.
-/
import Derived.Test.YtakedkcjplfgeaaGreatDoorPkLw
import Derived.Test.YtakedkcjplfgeaaGreatDoorPkEx2
set_option maxRecDepth 1000000
set_option maxHeartbeats 32000000
namespace Go.Proofs.YtakedkcjplfgeaaGreatDoor
open Go.RowKit
open Frq Thr Tt Num Clk Dat Fld
theorem feedLines_c (s:ByteArray) (hs0:s.size≤9223372036854775807) (m:Int) (w:World) (env:Env m w):
  Calls Tryz.prog 8 #[.string s] w fun q w'=>q= .returned (.bool true)∧Bl w w':=by
 by_cases hbig:8192<s.size
 ·
  have h8:(8192:Int)<(s.size:Int):=by omega
  have hex:=exHolds_c m w env;clear env;go_enter Tryz.func8,Tryz.ntmps8
  go_wp2_with (go_at_call 9;refine hex.mono ?_)
  rintro y1 w1 ⟨rfl,b1⟩;go_wp2;go_ret;exact⟨rfl,b1⟩
 ·
  have h8: ¬ (8192:Int)<(s.size:Int):=by omega
  have hn:=len_bytes s;obtain⟨⟨t,n,e⟩,hp⟩: ∃ p,parseF s.data.toList=p:=⟨_,rfl⟩;have hpc:=fparse_p s (by omega) m t n e (Lib.hid hp) w env;have HE:=Lib.hid env;have HPF:=Lib.hid hp;clear hp env;go_enter Tryz.func8,Tryz.ntmps8
  go_wp2_with (go_at_call 10;refine hpc.mono ?_)
  rintro y1 w1 ⟨V,ts,rfl,rd,-,b1⟩;have hE1:=HE.out.bl b1;have HB1:=Lib.hid b1;obtain⟨v0,v1,v2,v3,v4,v5,v6,v7,v8,v9⟩:=V;obtain⟨a0,k0,(rfl:v0=_),-,-⟩:=rd.stops.val;obtain⟨a1,k1,(rfl:v1=_),-,-⟩:=rd.routes.val;obtain⟨a2,k2,(rfl:v2=_),-,-⟩:=rd.cals.val;obtain⟨a3,k3,(rfl:v3=_),-,-⟩:=rd.excs.val;obtain⟨a4,k4,(rfl:v4=_),-,-⟩:=rd.trips.sl.val;obtain⟨a5,k5,(rfl:v5=_),-,-⟩:=rd.freqs.val;obtain⟨a6,k6,(rfl:v6=_),-,-⟩:=rd.thrus.val;obtain⟨a7,k7,(rfl:v7=_),-,-⟩:=rd.guars.val;obtain⟨a8,k8,(rfl:v8=_),-,-⟩:=rd.paths.val;obtain⟨a9,k9,(rfl:v9=_),-,-⟩:=rd.prods.val;clear rd b1 hpc;simp only[ttV];by_cases h0:s.size=0
  ·
   have hs1:=toList_nil h0;have hnil:s.data.toList=[]:=List.length_eq_zero_iff.1 (hn.trans h0);have HQ:=Lib.hid (show(emptyT,(0:Int),(0:Int))=(t,n,e) by rw[←HPF.out,hnil];exact parse_nil.symm);obtain⟨d1,d2⟩:=Prod.mk.inj HQ.out;obtain⟨d3,d4⟩:=Prod.mk.inj d2;clear HQ HPF d2 hnil;subst d1 d3 d4;go_wp2_with (go_at_call 9;refine(exHolds_c m _ (hE1.bl (bl_alloc (bl_refl _) _))).mono ?_)
   rintro y2 w2 ⟨rfl,b2⟩;have HB2:=Lib.hid (bl_next (bl_next HB1.out (bl_alloc (bl_refl _) _)) b2);clear b2;go_wp2;go_ret;exact⟨rfl,HB2.out⟩
  ·
   have hp0:0<s.size:=Nat.pos_of_ne_zero h0;have hne:=toList_ne h0;have hne':=toList_ne' h0;have hnl:s.data.toList≠[]:=fun h=>by rw[h]at hn;simp at hn;omega
   have e7:=fun W=>Nu.idx_c s ((s.size:Int)-1) (s.size-1) (by omega) (show s.size-1<s.size by omega) W
   have hla:=last_at s hp0;obtain⟨c,hc⟩: ∃ c,s[s.size-1]'(by omega)=c:=⟨_,rfl⟩;rw[hc]at e7 hla;have HLA:=Lib.hid hla;clear hc hla;by_cases h10:c=10
   ·
    have HL10:=Lib.hid (show s.data.toList.getLast?=some 10 by rw[HLA.out,h10]);obtain⟨u1,u2⟩:=u8_is (n:=10) (k:=10) (by omega) rfl h10;clear h10 HLA;by_cases he:e=0
    ·
     subst he;have hn0:=(parse_valid HPF.out).2;subst hn0;clear HPF;go_wp2_with (go_at_call 9;refine(exHolds_c m _ (hE1.bl (bl_alloc (bl_refl _) _))).mono ?_)
     rintro y2 w2 ⟨rfl,b2⟩;have HB2:=Lib.hid (bl_next (bl_next HB1.out (bl_alloc (bl_refl _) _)) b2);clear b2;go_wp2;go_ret;exact⟨rfl,HB2.out⟩
    ·
     have f1:(e==0)=false:=by rw[beq_eq_false_iff_ne];exact he
     obtain⟨hn1,i,d,hbg,hid',hd1,hd2⟩:=line_law HPF.out he (by omega) HL10.out;have hls:linesS s.data.toList=(splitL 10 s.data.toList.dropLast,0):=by
      unfold linesS;rw[if_neg (by omega),if_neg hnl,if_pos HL10.out]
     have hn2:n≤70000:=by
      obtain⟨q,l,hq,-,hqn⟩:=parse_line HPF.out he (by rw[hls]);have h1:=(lines_size hls).1;rw[hls]at hq;have h2:=(List.getElem?_eq_some_iff.1 hq).1;simp only at h2;omega
     have hil:i<s.size:=by have:=(List.getElem?_eq_some_iff.1 hid').1;omega
     have hbc:=fun W=>begins_c s (by omega) (n-1) i (Lib.hid hbg) W
     have e8:=fun W=>Nu.idx_c s (i:Int) i rfl hil W
     have hdi:s[i]=d:=by
      have h1:=List.getElem?_eq_some_iff.1 hid';obtain⟨h2,h3⟩:=h1;rw[←h3];rfl
     rw[hdi]at e8;obtain⟨t1,t2⟩:=u8_not (n:=10) (k:=10) rfl hd1;obtain⟨r1,r2⟩:=u8_not (n:=35) (k:=35) rfl hd2;have i0:(0:Int)≤(i:Int):=by omega
     have i1:(i:Int)<(s.size:Int):=by omega
     have n1: ¬ n<1:=by omega
     clear hbg hid' hd1 hd2 hls hdi HPF he hnl;go_wp2_with (go_at_call 17;refine(hbc _).mono ?_;rintro y3 w3 ⟨rfl,hw3⟩;obtain rfl:=hw3.symm)
     go_wp2_with (go_at_call 9;refine(exHolds_c m _ (hE1.bl (bl_alloc (bl_refl _) _))).mono ?_)
     rintro y2 w2 ⟨rfl,b2⟩;have HB2:=Lib.hid (bl_next (bl_next HB1.out (bl_alloc (bl_refl _) _)) b2);clear b2;go_wp2;go_ret;exact⟨rfl,HB2.out⟩
   ·
    have HQ:=Lib.hid (show(emptyT,(0:Int),(4:Int))=(t,n,e) by rw[←HPF.out];exact(parse_last hnl (by rw[HLA.out];intro h;exact h10 (Option.some.inj h)) (by omega)).symm);obtain⟨d1,d2⟩:=Prod.mk.inj HQ.out;obtain⟨d3,d4⟩:=Prod.mk.inj d2;obtain⟨u1,u2⟩:=u8_not (n:=10) (k:=10) rfl h10;clear HQ HPF d2 HLA h10 hnl;subst d1 d3 d4;go_wp2_with (go_at_call 9;refine(exHolds_c m _ (hE1.bl (bl_alloc (bl_refl _) _))).mono ?_)
    rintro y2 w2 ⟨rfl,b2⟩;have HB2:=Lib.hid (bl_next (bl_next HB1.out (bl_alloc (bl_refl _) _)) b2);clear b2;go_wp2;go_ret;exact⟨rfl,HB2.out⟩
end Go.Proofs.YtakedkcjplfgeaaGreatDoor
