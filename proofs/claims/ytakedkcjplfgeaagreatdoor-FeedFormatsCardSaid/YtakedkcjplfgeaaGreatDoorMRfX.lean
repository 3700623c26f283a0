/- Contracts, proved. Conditions: each contract's own. -/
import Derived.Test.YtakedkcjplfgeaaGreatDoorMXA
import Derived.StillTailTactics
set_option maxRecDepth 1000000
set_option maxHeartbeats 32000000
namespace Go.Proofs.YtakedkcjplfgeaaGreatDoor.Da
open Go.RowKit
open Num Clk
theorem Sm (t:Int) (b:Bool) (h:Hid (vW t=b)) (w:World):Calls Tryz.prog 223 #[.int .i64 t] w fun e w'=>e= .returned (.bool b)/\w=w':=by
 by_cases h0:0<=t
 ·
  by_cases h1:t<=172800
  ·
   have HB:=qA (show b=true by rw[<-h.out];simp[vW,h0,h1]);go_enter Tryz.func223,Tryz.ntmps223
   go_wp2;go_ret;exact⟨qO (by rw[HB.out]),rfl⟩
  ·
   have HB:=qA (show b=false by rw[<-h.out];simp[vW,h1]);go_enter Tryz.func223,Tryz.ntmps223
   go_wp2;go_ret;exact⟨qO (by rw[HB.out]),rfl⟩
 ·
  have HB:=qA (show b=false by rw[<-h.out];simp[vW,h0]);go_enter Tryz.func223,Tryz.ntmps223
  go_wp2;go_ret;exact⟨qO (by rw[HB.out]),rfl⟩
theorem SX (n:Int) (h0:0<=n) (h1:n<=99) (w:World):Calls Tryz.prog 224 #[.int .i64 n] w fun e w'=>e= .returned (qP (ZW n.toNat))/\Bl w w':=by
 have hcv:=lV;have HT:Hid ((⟨#[UInt8.ofNat (48+n / 10).toNat,UInt8.ofNat (48+n%10).toNat]⟩:ByteArray)=⟨(ZW n.toNat).toArray⟩):=by
  show _=_
  unfold ZW;rw[show(48+n / 10).toNat=48+n.toNat / 10 by omega,show(48+n%10).toNat=48+n.toNat%10 by omega]
 go_enter Tryz.func224,Tryz.ntmps224
 go_wp2;go_ret;exact⟨VL HT.out,qE (qB _) _⟩
theorem TV (t:Int) (l:List UInt8) (e:Int) (H:Hid (xU t=(l,e))) (w:World):
  Calls Tryz.prog 159 #[.int .i64 t] w fun r w'=>r= .returned (.tuple #[qP l, .int .i64 e])/\Bl w w':=by
 have H':=H.out;unfold xU at H';by_cases h:0<=t/\t<=172800
 ·
  rw[U6 h,qAF]at H';obtain⟨rfl,rfl⟩:=H';clear H;obtain⟨h0,h1⟩:=h;go_enter Tryz.func159,Tryz.ntmps159
  go_wp2_with fail;refine(Sm t true (YO h0 h1) _).mono ?_;rintro e w1 ⟨rfl,rfl⟩;go_wp2_with fail;refine(SX _ (by omega) (by omega) _).mono ?_;rintro e w1 ⟨rfl,b1⟩;go_wp2_with fail;refine(SX _ (by omega) (by omega) _).mono ?_;rintro e w2 ⟨rfl,b2⟩;go_wp2_with fail;refine(SX _ (by omega) (by omega) _).mono ?_;rintro e w3 ⟨rfl,b3⟩;go_wp2;go_ret2;exact⟨VK (by
   apply ByteArray.ext
   unfold ZA;rw[show(t / 3600).toNat=t.toNat / 3600 by omega,show(t / 60%60).toNat=t.toNat / 60%60 by omega,show(t%60).toNat=t.toNat%60 by omega];simp),qF (qF b1 b2) b3⟩
 ·
  rw[U5 h,qAF]at H';obtain⟨rfl,rfl⟩:=H';clear H;have HN:=qA h;clear h;go_enter Tryz.func159,Tryz.ntmps159
  go_wp2_with fail;refine(Sm t false (VS HN.out) _).mono ?_;rintro e w1 ⟨rfl,rfl⟩;go_wp2;go_ret2;exact⟨rfl,qB _⟩
end Go.Proofs.YtakedkcjplfgeaaGreatDoor.Da
namespace Go.Proofs.YtakedkcjplfgeaaGreatDoor.Dat
open Num Clk
theorem UD {d:Int} {i:Nat} (h:i<1200) (h0:Zy i<=d) (h1:d<Zy i+jB (2000+(i:Int) / 12) (1+(i:Int)%12)):kZ d=2000+(i:Int) / 12/\jl d=1+(i:Int)%12/\QJ d=d-Zy i+1:=by
 have e:Gf d=i:=Gh h ⟨h0,by rw[J5];exact h1⟩;unfold kZ jl QJ;rw[e];exact⟨rfl,rfl,rfl⟩
end Go.Proofs.YtakedkcjplfgeaaGreatDoor.Dat
namespace Go.Proofs.YtakedkcjplfgeaaGreatDoor.Da
open Go.RowKit
open Num Clk Dat
theorem Tc (d:Int) (h0:0<=d) (h1:d<=36524) (w:World):
  Calls Tryz.prog 221 #[.int .i64 d] w fun e w'=>fK d e/\w=w':=by
 have HV:=sN h0 h1;go_enter Tryz.func221,Tryz.ntmps221
 go_wp2_with (go_at_call 168;refine(Vq _ _ HV _).mono ?_;rintro e w1 ⟨rfl,rfl⟩)
 go_loop [6,7] (fun s i=> ∃ k:Nat,k<=1200/\i= .int .i64 k/\s= .int .i64 (d-Zy k)/\Zy k<=d) (fun _ i=>(1200-intOf i).toNat)
 case atStart=>exact⟨0,by simp,rfl,by simp[Zy],h0⟩
 case round=>
  obtain⟨k,hk,rfl,rfl,hcd⟩:=hrel;have hc:=OB k (by omega);obtain⟨c0,c1⟩:=hc;have hlt:(k:Int)<1200:=by
   have h1200:=WZ;rcases Nat.lt_or_ge k 1200 with h|h
   · omega
   ·
    have:k=1200:=by omega
    rw[this,h1200]at hcd;omega
  have hltn:k<1200:=by omega
  have HK:Hid (Zz (2000+(k:Int) / 12) (1+(k:Int)%12)=(jB (2000+(k:Int) / 12) (1+(k:Int)%12),true)):=Ir k (by omega);have HC:=qA (J5 k);have HX:Hid (d<Zy k+jB (2000+(k:Int) / 12) (1+(k:Int)%12)->_):=UD hltn hcd;have hb:=QX (2000+(k:Int) / 12) (1+(k:Int)%12);generalize jB (2000+(k:Int) / 12) (1+(k:Int)%12)=x at HK HC hb HX
  obtain⟨b0,b1⟩:=hb;by_cases hf:d-Zy k<x
  ·
   go_wp2_with (go_at_call 267;refine(Bd _ _ _ _ HK _).mono ?_;rintro e w1 ⟨rfl,rfl⟩)
   exact bodyPost_ret (v:= .tuple #[.int .i64 (2000+(k:Int) / 12), .int .i64 (1+(k:Int)%12), .int .i64 (d-Zy k+1), .bool true]) (by simp[results,Tryz.results221,go_sem]) rfl ⟨cZ (HX.out (by omega)),rfl⟩
  ·
   have hf':x<=d-Zy k:=by omega
   clear hf;go_wp2_with (go_at_call 267;refine(Bd _ _ _ _ HK _).mono ?_;rintro e w1 ⟨rfl,rfl⟩)
   go_round;case rel=>exact⟨k+1,by omega,by go_num,by rw[HC.out];go_num,by rw[HC.out];omega⟩
   case measure=>simp[intOf];omega
theorem Tu (n q t j:Nat) (l:List UInt8) (h:xx n (j+(t+1))=xx q (t+1)++l):xx n (j+1+t)=xx (q / 10) t++(UInt8.ofNat (48+q%10)::l):=by
 rw[show j+1+t=j+(t+1) by omega,h];simp[xx]
theorem UQ (l:List UInt8) (n:Nat):(⟨#[48+UInt8.ofNat (n%10)]⟩:ByteArray)++⟨l.toArray⟩=⟨(UInt8.ofNat (48+n%10)::l).toArray⟩:=by
 apply ByteArray.ext
 simp
theorem TD (n:Int) (k:Nat) (l:List UInt8) (H:Hid (xx n.toNat k=l)) (h0:0<=n) (h1:n<=9999) (hk:k<=4) (w:World):
  Calls Tryz.prog 222 #[.int .i64 n, .int .i64 (k:Int)] w fun e w'=>e= .returned (qP l)/\Bl w w':=by
 have hcv:=Na;go_enter Tryz.func222,Tryz.ntmps222
 go_wp2;go_loopw [0,5,6] (fun x s i wr=> ∃ j t q:Nat,∃ m:List UInt8,m.length<=j/\j+t=k/\q<=9999/\Hid (xx n.toNat (j+t)=xx q t++m)/\i= .int .i64 j/\x= .int .i64 q/\s=qP m/\Bl w wr) (fun _ _ i _=>k-(intOf i).toNat)
 case atStart=>exact⟨0,k,n.toNat,[],by simp,by omega,by omega,by show _=_;simp,rfl,by rw[show((n.toNat:Nat):Int)=n by omega],rfl,qB _⟩
 case round=>
  obtain⟨j,t,q,m,hml,hjt,hq,HD,rfl,rfl,rfl,hb⟩:=hrel;have HJ:=qA hjt;clear hjt;cases t with
  |zero=>
   have hlt:(j:Int)=k:=by have:=HJ.out;omega
   have HM:Hid (m=l):=by
    show _=_
    have:=HD.out;rw[HJ.out,H.out]at this;simpa[xx]using this.symm
   have hge: ¬ ((j:Int)<k):=by omega
   clear hlt;go_wp2;go_ret;exact⟨VL (by rw[HM.out]),hb⟩
  |succ t=>
   have hlt:(j:Int)<k:=by have:=HJ.out;omega
   have HN:=qA (Tu n.toNat q t j m HD.out);have HC:=qA (UQ m q);have hji:j+1<=1000:=by have:=HJ.out;omega
   clear HD;go_wp2;go_roundw;case rel=>exact⟨j+1,t,q / 10,UInt8.ofNat (48+q%10)::m,by simp;omega,by have:=HJ.out;omega,by omega,HN,by go_num,by rw[show((q / 10:Nat):Int)=(q:Int) / 10 by omega],by first|rw[HC.out]|exact congrArg Value.string HC.out,qE hb _⟩
   case measure=>simp[intOf];have:=HJ.out;omega
theorem Tq (d:Int) (h0:0<=d) (h1:d<=36524) (l:List UInt8) (h:V4 d=l) (a b c:List UInt8) (ha:xx (kZ d).toNat 4=a) (hb:xx (jl d).toNat 2=b) (hc:xx (QJ d).toNat 2=c):
  (⟨a.toArray⟩++⟨#[45]⟩++⟨b.toArray⟩++⟨#[45]⟩++⟨c.toArray⟩:ByteArray)=⟨l.toArray⟩:=by
 have:=sK d h0 h1;rw[ha,hb,hc,h]at this;rw[<-this];apply ByteArray.ext
 simp
theorem TE (n k:Nat):(xx n k).length=k:=by
 induction k generalizing n with
 |zero=>rfl
 |succ k ih=>simp[xx,ih]
theorem UB (d:Int) (l:List UInt8) (e:Int) (H:Hid (jb d=(l,e))) (w:World):
  Calls Tryz.prog 158 #[.int .i64 d] w fun r w'=>r= .returned (.tuple #[qP l, .int .i64 e])/\Bl w w':=by
 rcases sD d with⟨h0,h1,k⟩|⟨h,k⟩
 ·
  obtain⟨e1,rfl⟩:=qAE (k.symm.trans H.out);have HT:=qA (Tq d h0 h1 l e1);clear k H e1;obtain⟨⟨y0,y1⟩,⟨m0,m1⟩,⟨d0,d1⟩⟩:=Yt d h0 h1;have hm:=(QX (kZ d) (jl d)).2;have d2:QJ d<=99:=by omega
  clear d1 hm;go_enter Tryz.func158,Tryz.ntmps158
  go_wp2_with fail;refine(Tc d h0 h1 _).mono ?_;rintro e w1 ⟨he,rfl⟩;unfold fK at he;subst he;generalize kZ d=y at*
  generalize jl d=m at*
  generalize QJ d=x at*
  obtain⟨A,hA⟩: ∃ A,xx y.toNat 4=A:=⟨_,rfl⟩;obtain⟨B,hB⟩: ∃ B,xx m.toNat 2=B:=⟨_,rfl⟩;obtain⟨C,hC⟩: ∃ C,xx x.toNat 2=C:=⟨_,rfl⟩;have lA:A.length<=4:=by rw[<-hA,TE];exact U3 _
  have lB:B.length<=2:=by rw[<-hB,TE];exact U3 _
  have lC:C.length<=2:=by rw[<-hC,TE];exact U3 _
  have HA:=qA hA;have HB:=qA hB;have HC:=qA hC;clear hA hB hC;go_wp2_with fail;refine(TD y 4 A HA (by omega) (by omega) (by omega) _).mono ?_;rintro e w1 ⟨rfl,b1⟩;go_wp2_with fail;refine(TD m 2 B HB (by omega) (by omega) (by omega) _).mono ?_;rintro e w2 ⟨rfl,b2⟩;go_wp2_with fail;refine(TD x 2 C HC (by omega) (by omega) (by omega) _).mono ?_;rintro e w3 ⟨rfl,b3⟩;go_wp2;go_ret2;exact⟨VK (HT.out A B C HA.out HB.out HC.out),qF (qF b1 b2) b3⟩
 ·
  obtain⟨rfl,rfl⟩:=qAE (k.symm.trans H.out);have HN:=qA h;clear h k H;go_enter Tryz.func158,Tryz.ntmps158
  go_wp2_with fail;refine(UA d HN.out _).mono ?_;rintro e w1 ⟨rfl,rfl⟩;go_wp2;go_ret2;exact⟨rfl,qB _⟩
end Go.Proofs.YtakedkcjplfgeaaGreatDoor.Da
namespace Go.Proofs.YtakedkcjplfgeaaGreatDoor.Ck
open Go.RowKit
open Num Clk
theorem Sm (t:Int) (b:Bool) (h:Hid (vW t=b)) (w:World):Calls Tryz.prog 223 #[.int .i64 t] w fun e w'=>e= .returned (.bool b)/\w=w':=by
 by_cases h0:0<=t
 ·
  by_cases h1:t<=172800
  ·
   have HB:=qA (show b=true by rw[<-h.out];simp[vW,h0,h1]);go_enter Tryz.func223,Tryz.ntmps223
   go_wp2;go_ret;exact⟨qO (by rw[HB.out]),rfl⟩
  ·
   have HB:=qA (show b=false by rw[<-h.out];simp[vW,h1]);go_enter Tryz.func223,Tryz.ntmps223
   go_wp2;go_ret;exact⟨qO (by rw[HB.out]),rfl⟩
 ·
  have HB:=qA (show b=false by rw[<-h.out];simp[vW,h0]);go_enter Tryz.func223,Tryz.ntmps223
  go_wp2;go_ret;exact⟨qO (by rw[HB.out]),rfl⟩
theorem SX (n:Int) (h0:0<=n) (h1:n<=99) (w:World):Calls Tryz.prog 224 #[.int .i64 n] w fun e w'=>e= .returned (qP (ZW n.toNat))/\Bl w w':=by
 have hcv:=lV;have HT:Hid ((⟨#[UInt8.ofNat (48+n / 10).toNat,UInt8.ofNat (48+n%10).toNat]⟩:ByteArray)=⟨(ZW n.toNat).toArray⟩):=by
  show _=_
  unfold ZW;rw[show(48+n / 10).toNat=48+n.toNat / 10 by omega,show(48+n%10).toNat=48+n.toNat%10 by omega]
 go_enter Tryz.func224,Tryz.ntmps224
 go_wp2;go_ret;exact⟨VL HT.out,qE (qB _) _⟩
theorem TV (t:Int) (l:List UInt8) (e:Int) (H:Hid (xU t=(l,e))) (w:World):
  Calls Tryz.prog 159 #[.int .i64 t] w fun r w'=>r= .returned (.tuple #[qP l, .int .i64 e])/\Bl w w':=by
 have H':=H.out;unfold xU at H';by_cases h:0<=t/\t<=172800
 ·
  rw[U6 h,qAF]at H';obtain⟨rfl,rfl⟩:=H';clear H;obtain⟨h0,h1⟩:=h;go_enter Tryz.func159,Tryz.ntmps159
  go_wp2_with fail;refine(Sm t true (YO h0 h1) _).mono ?_;rintro e w1 ⟨rfl,rfl⟩;go_wp2_with fail;refine(SX _ (by omega) (by omega) _).mono ?_;rintro e w1 ⟨rfl,b1⟩;go_wp2_with fail;refine(SX _ (by omega) (by omega) _).mono ?_;rintro e w2 ⟨rfl,b2⟩;go_wp2_with fail;refine(SX _ (by omega) (by omega) _).mono ?_;rintro e w3 ⟨rfl,b3⟩;go_wp2;go_ret2;exact⟨VK (by
   apply ByteArray.ext
   unfold ZA;rw[show(t / 3600).toNat=t.toNat / 3600 by omega,show(t / 60%60).toNat=t.toNat / 60%60 by omega,show(t%60).toNat=t.toNat%60 by omega];simp),qF (qF b1 b2) b3⟩
 ·
  rw[U5 h,qAF]at H';obtain⟨rfl,rfl⟩:=H';clear H;have HN:=qA h;clear h;go_enter Tryz.func159,Tryz.ntmps159
  go_wp2_with fail;refine(Sm t false (VS HN.out) _).mono ?_;rintro e w1 ⟨rfl,rfl⟩;go_wp2;go_ret2;exact⟨rfl,qB _⟩
theorem UC (n:Int) (l:List UInt8) (e:Int) (H:Hid (gW n=(l,e))) (w:World):
  Calls Tryz.prog 160 #[.int .i64 n] w fun r w'=>r= .returned (.tuple #[qP l, .int .i64 e])/\Bl w w':=by
 have H':=H.out;unfold gW at H';by_cases h:0<=n/\n<=359999
 ·
  rw[U6 h,qAF]at H';obtain⟨rfl,rfl⟩:=H';clear H;obtain⟨h0,h1⟩:=h;obtain⟨N,rfl⟩:=Int.eq_ofNat_of_zero_le h0;rw[Int.toNat_natCast];have hl1:(ZW (N / 60%60)).length<=2:=U3 _;have hl2:(ZW (N%60)).length<=2:=U3 _;by_cases hh:(3600:Int)<=(N:Int)
  ·
   have ht:=kL (N / 3600) (by omega);have HT:=qA (show kJ N=qL (N / 3600)++104::(ZW (N / 60%60)++109::(ZW (N%60)++[115])) by unfold kJ;rw[U6 (by omega)]);go_enter Tryz.func160,Tryz.ntmps160
   go_wp2_with fail;refine(ZN (N / 3600) (by omega) _).mono ?_;rintro e w1 ⟨rfl,b1⟩;go_wp2_with fail;refine(SX _ (by omega) (by omega) _).mono ?_;rintro e w2 ⟨rfl,b2⟩;go_wp2_with fail;refine(SX _ (by omega) (by omega) _).mono ?_;rintro e w3 ⟨rfl,b3⟩;go_wp2;go_ret2;exact⟨VK (by
    apply ByteArray.ext
    rw[HT.out];simp),qF (qF b1 b2) b3⟩
  by_cases hm:(60:Int)<=(N:Int)
  ·
   have ht:=kL (N / 60) (by omega);have HT:=qA (show kJ N=qL (N / 60)++109::(ZW (N%60)++[115]) by unfold kJ;rw[U5 (by omega),U6 (by omega)]);go_enter Tryz.func160,Tryz.ntmps160
   go_wp2_with fail;refine(ZN (N / 60) (by omega) _).mono ?_;rintro e w1 ⟨rfl,b1⟩;go_wp2_with fail;refine(SX _ (by omega) (by omega) _).mono ?_;rintro e w3 ⟨rfl,b3⟩;go_wp2;go_ret2;exact⟨VK (by
    apply ByteArray.ext
    rw[HT.out];simp),qF b1 b3⟩
  ·
   have ht:=kL N (by omega);have HT:=qA (show kJ N=qL N++[115] by unfold kJ;rw[U5 (by omega),U5 (by omega)]);go_enter Tryz.func160,Tryz.ntmps160
   go_wp2_with fail;refine(ZN N (by omega) _).mono ?_;rintro e w1 ⟨rfl,b1⟩;go_wp2;go_ret2;exact⟨VK (by
    apply ByteArray.ext
    rw[HT.out];simp),b1⟩
 ·
  rw[U5 h,qAF]at H';obtain⟨rfl,rfl⟩:=H';clear H;by_cases h0:n<0
  ·
   clear h;go_enter Tryz.func160,Tryz.ntmps160
   go_wp2;go_ret2;exact⟨rfl,qB _⟩
  ·
   have h1:359999<n:=by omega
   clear h;go_enter Tryz.func160,Tryz.ntmps160
   go_wp2;go_ret2;exact⟨rfl,qB _⟩
end Go.Proofs.YtakedkcjplfgeaaGreatDoor.Ck
namespace Go.Proofs.YtakedkcjplfgeaaGreatDoor
open Go.RowKit
open Fld
theorem TG (b:UInt8) (w:World):
  Calls Tryz.prog 201 #[.int .u8 b.toNat] w fun e w'=>e= .returned (.bool (Ey b))/\w=w':=by
 go_enter Tryz.func201,Tryz.ntmps201
 go_wp2;all_goals
  go_ret;refine⟨qO ?_,rfl⟩;rw[Bool.eq_iff_iff];simp[Ey]
  omega
theorem Uk (n:Nat) (hn:n<16) (w:World):
  Calls Tryz.prog 203 #[.int .u8 n] w fun e w'=>e= .returned (.int .u8 (KE n).toNat)/\w=w':=by
 have HX:=qA (Xe hn);go_enter Tryz.func203,Tryz.ntmps203
 go_wp2
 ·
  go_ret;refine⟨qR ?_,rfl⟩;rw[HX.out,U6 (by omega)];omega
 ·
  go_ret;refine⟨qR ?_,rfl⟩;rw[HX.out,U5 (by omega)];omega
theorem TW (b:UInt8):Qi b=true↔b.toNat=44∨b.toNat=34∨b.toNat=92∨Ey b=true:=by
 unfold Qi;simp
theorem UM (s:ByteArray) (hs:s.size<=maxLen) (w:World):
  Calls Tryz.prog 132 #[.string s] w fun e w'=>e= .returned (.bool (jq s.data.toList))/\w=w':=by
 unfold maxLen at hs;obtain⟨p,hp,hd,hn⟩:=sS s;have HD:=qA hd;have HN:=qA hn;clear hd hn;go_enter Tryz.func132,Tryz.ntmps132
 go_wp2;go_loop [3] (fun i=> ∃ k:Nat,k<=p/\i= .int .i64 k) (fun i=>s.size-(intOf i).toNat)
 case atStart=>exact⟨0,by omega,rfl⟩
 case round=>
  obtain⟨k,hk,rfl⟩:=hrel;by_cases h1:k<s.size
  ·
   have HC:=qA (TW (s[k]'h1));by_cases h44:((s[k]'h1).toNat:Int)=44∨((s[k]'h1).toNat:Int)=34∨((s[k]'h1).toNat:Int)=92
   ·
    have HF:=qA (iP h1 (HC.out.2 (by omega)));rcases h44 with h|h|h
    all_goals
     go_wp2;go_ret;exact⟨qO HF.out.symm,rfl⟩
   ·
    have q1: ¬ ((s[k]'h1).toNat:Int)=44:=fun e=>h44 (.inl e)
    have q2: ¬ ((s[k]'h1).toNat:Int)=34:=fun e=>h44 (.inr (.inl e))
    have q3: ¬ ((s[k]'h1).toNat:Int)=92:=fun e=>h44 (.inr (.inr e))
    clear h44;go_wp2_with (go_at_call 201;refine(TG (s[k]'h1) _).mono ?_)
    all_goals rename_i hcb
    ·
     have hcb:Ey (s[k]'h1)=true:=by
      rcases hcb with((h|h)|h)|h
      · exact absurd (beq_iff_eq.1 h) q1
      · exact absurd (beq_iff_eq.1 h) q2
      · exact absurd (beq_iff_eq.1 h) q3
      · exact h
     have HF:=qA (iP h1 (HC.out.2 (.inr (.inr (.inr hcb)))));go_ret;exact⟨qO HF.out.symm,rfl⟩
    ·
     have hkp:k<p:=by
      rcases Nat.lt_or_ge k p with h|h
      · exact h
      ·
       exfalso
       obtain rfl:k=p:=by omega
       rcases HC.out.1 (HN.out h1)with h|h|h|h
       · omega
       · omega
       · omega
       · rw[hcb.2]at h;cases h
     go_round;case rel=>exact⟨k+1,by omega,by go_num⟩
     case measure=>simp[intOf];omega
  ·
   have had:=uZ (s:=s) (fun j hj=>HD.out j hj (by omega));by_cases h0:s.size=0
   ·
    have hs:s.toList=[]:=wK h0;have HF:=qA (show jq s.data.toList=false by rw[had,dif_neg (by omega)]);clear had;go_wp2;go_ret;exact⟨qO HF.out.symm,rfl⟩
   ·
    have hps:0<s.size:=by omega
    have HF:=qA (show jq s.data.toList=(!((s[0]'hps).toNat==32)&& !((s[s.size-1]'(by omega)).toNat==32)) by rw[had,dif_pos hps]);have hne:=jG h0;have hne':=jQ h0;clear had;by_cases h4:((s[0]'hps).toNat:Int)=32
    ·
     have h6:((s[0]'hps).toNat==32)=true:=by rw[beq_iff_eq];omega
     have HG:=qA (show jq s.data.toList=false by rw[HF.out,h6];rfl);clear h6;go_wp2;go_ret;exact⟨qO HG.out.symm,rfl⟩
    ·
     go_wp2;go_ret;exact⟨qO (by rw[HF.out,<-Nj,<-Nj]),rfl⟩
theorem TM {B:Nat} {v':Value} {l m:List UInt8} {w:World} {n:Nat} (h:w.ownsRow B 5 1 v' n (Lib.byteCells l++Lib.byteCells m)) (hn:n=l.length+m.length):xO B v' (l++m) w:=by
 subst hn;exact ZO h
theorem Ua (z:Int) (h:0<=z/\z<16) (w:World):
  Calls Tryz.prog 203 #[.int .u8 z] w fun e w'=>e= .returned (.int .u8 (KE z.toNat).toNat)/\w=w':=by
 have:=Uk z.toNat (by omega) w;rw[show((z.toNat:Nat):Int)=z by omega]at this;exact this
theorem UN (s:ByteArray) (q:List UInt8) (H:Hid (zg s.data.toList=q)) (hs:s.size<=34359738368) (w:World):
  Calls Tryz.prog 134 #[.string s] w fun e w'=>e= .returned (qP q)/\Bl w w':=by
 obtain⟨i0,hi,hz0,hz1,hz2⟩:=info_parts vk;obtain⟨p,hp⟩: ∃ p,jq s.data.toList=p:=⟨_,rfl⟩;have HP:=qA hp;clear hp;go_enter Tryz.func134,Tryz.ntmps134
 go_wp2_with (go_at_call 132;refine(UM s (by unfold maxLen;omega) _).mono ?_)
 rintro e w1 ⟨rfl,rfl⟩;rw[HP.out];cases p with
 |true=>
  have HF:=qA ((xm HP.out).symm.trans H.out);go_wp2;go_ret;exact⟨by rw[<-HF.out];rfl,qB _⟩
 |false=>
  have HF:=qA ((JM HP.out).symm.trans H.out);go_wp2_with fail;have b2:Bl w (w.alloc (.cells #[.int .u8 34] 5)):=qE (qB _) _;have o2:xO w.heap.size (.slice (some ⟨w.heap.size,0,none⟩) 1 1) [34] (w.alloc (.cells #[.int .u8 34] 5)):=Gw _ _ (U3 _) _ _ rfl 1 rfl (by omega);generalize hw2:w.alloc (.cells #[.int .u8 34] 5)=w2 at b2 o2
  have B2:=qA b2;have O2:=qA o2;clear b2 o2 hw2;go_loopw [3,4] (fun vo i wr=> ∃ k:Nat,k<=s.size/\i= .int .i64 k/\Hid (xO w.heap.size vo (34::jR (s.data.toList.take k)) wr)/\Hid (Bl w wr)) (fun _ i _=>s.size-(intOf i).toNat)
  case atStart=>exact⟨0,qAD _,rfl,O2,B2⟩
  case round=>
   obtain⟨k,hk,rfl,HO,HB⟩:=hrel;by_cases hlt:k<s.size
   ·
    have HT:=qA (tK hlt);have HL:=Xi s k hk;obtain⟨c,hc⟩: ∃ c,Ey (s[k]'hlt)=c:=⟨_,rfl⟩;have HC:=qA hc;clear hc;go_wp2_with (go_at_call 201;refine(TG (s[k]'hlt) _).mono ?_)
    rintro e w3 ⟨rfl,rfl⟩;rw[HC.out];cases c with
    |true=>
     have hbl:(s[k]'hlt).toNat<256:=rD _;have hcc:=(Ad _).2 HC.out;have HE:=qA (OI (b:=s[k]'hlt) (by omega) (by omega) HC.out);clear hcc;obtain⟨z1,hz1'⟩: ∃ z:Int,((s[k]'hlt).toNat:Int) / 16=z:=⟨_,rfl⟩;obtain⟨z2,hz2'⟩: ∃ z:Int,((s[k]'hlt).toNat:Int)%16=z:=⟨_,rfl⟩;have g1:0<=z1/\z1<16:=by omega
     have g2:0<=z2/\z2<16:=by omega
     rw[show(s[k]'hlt).toNat / 16=z1.toNat by omega,show(s[k]'hlt).toNat%16=z2.toNat by omega]at HE;have e2:IntKind.u8.wrap z2=z2:=IntWalk.u8_in _ (by omega);have e1:IntKind.u8.wrap (((s[k]'hlt).toNat:Int) / 16)=z1:=by rw[hz1'];exact IntWalk.u8_in _ (by omega)
     have e3:(((s[k]'hlt).toNat:Int).tmod 16)=z2:=by rw[<-hz2'];exact IntWalk.rem_in _ _ (by omega)
     clear hz1' hz2';go_wp2_with fail;go_region_held3 (fun _=>True) (trivial)
      ((first
       |(go_at_call 203;refine(Ua _ (by first|exact g1|exact g2) _).mono ?_;rintro e w' ⟨rfl,rfl⟩)
       |(refine step_append_lies _ (by rfl) _ _ _ (by rfl) w.heap.size 5 i0 _ 1 1 Tryz.underlying140 hi hz0 hz1 hz2 rfl (by omega) u3 _ _ (by rfl) ((kQ HO.out _).drew) ⟨wr.heap.size,0,none⟩ 4 4 [.int .u8 92, .int .u8 120, .int .u8 (KE z1.toNat).toNat, .int .u8 (KE z2.toNat).toNat] (by rfl) (by rfl) (World.news_of_block (cs:= #[.int .u8 92, .int .u8 120, .int .u8 (KE z1.toNat).toNat, .int .u8 (KE z2.toNat).toNat]) (t:=5) (fr:=(0,0)) (heap_alloc_new wr _)) (by simp[Value.oneCell']) (by omega) (by unfold maxLen;rw[U7];omega) (by rw[U7];omega) (by have:=HB.out.size;simp;omega) (wr.heap.size+1) (by simp) ?_;intro gg cap w3 hown3 hgrow3 hat hlt3)
       |fail))
     all_goals
      have O3:=qA (ZO (m:=[92,120,KE z1.toNat,KE z2.toNat]) hown3);have B3:Hid (Bl w w3):=(Below.drew (HB.out.alloc HB.out.size _)).grown hgrow3 (by have:=HB.out.size;simp;omega) (fun k hk=>(qAG HO.out k hk).1);clear hown3 hgrow3 hat hlt3;go_wp2;go_roundw;case rel=>exact⟨k+1,by omega,by go_num,by have:=O3.out;rw[HT.out,HE.out];exact this,B3⟩
      case measure=>simp[intOf];omega
    |false=>
     by_cases hq:((s[k]'hlt).toNat:Int)=34
     ·
      have HE:=qA (show xR (s[k]'hlt)=[92,34] by rw[FV (by omega),Nr (s[k]'hlt) 34 (by omega)];rfl);go_wp2_with (at_builtin;refine wpList_append_own _ rfl _ _ 140 rfl w.heap.size 5 i0 (.int .u8 0) 1 1 Tryz.underlying140 hi hz0 hz1 hz2 rfl (by decide) _ _ _ rfl (kQ HO.out _) ⟨wr.heap.size,0,none⟩ 1 1 [.int .u8 92] rfl rfl ?c1 ?c2 ?c3 ?c4 ?c5 ?_)
      case c1=>exact zl _ (fun j u h=>by simpa using h)
      case c2=>simp[Value.oneCell']
      case c3=>unfold maxLen;rw[U7];omega
      case c4=>rw[U7];omega
      case c5=>have:=HB.out.size;simp;omega
      intro v3 w3 hown3 hgrow3 _;have O3:=qA (ZO (m:=[92]) hown3);have B3:Hid (Bl w w3):=(HB.out.alloc HB.out.size _).grown hgrow3 (by have:=HB.out.size;simp;omega) (fun k hk=>(qAG HO.out k hk).1);clear hown3 hgrow3;go_wp2_with (at_builtin;refine wpList_append_own _ rfl _ _ 140 rfl w.heap.size 5 i0 (.int .u8 0) 1 1 Tryz.underlying140 hi hz0 hz1 hz2 rfl (by decide) _ _ _ rfl (kQ O3.out _) ⟨w3.heap.size,0,none⟩ 1 1 [.int .u8 34] rfl rfl ?c1 ?c2 ?c3 ?c4 ?c5 ?_)
      case c1=>exact zl _ (fun j u h=>by simpa using h)
      case c2=>simp[Value.oneCell']
      case c3=>unfold maxLen;rw[U1,U7];simp only[U7,List.length_nil];omega
      case c4=>rw[U1,U7];simp only[U7,List.length_nil];omega
      case c5=>have:=B3.out.size;simp;omega
      intro v4 w4 hown4 hgrow4 _;have O4:=qA (TM (m:=[34]) hown4 (by simp));have B4:Hid (Bl w w4):=(B3.out.alloc B3.out.size _).grown hgrow4 (by have:=B3.out.size;simp;omega) (fun k hk=>(qAG O3.out k hk).1);clear hown4 hgrow4;go_wp2;go_roundw;case rel=>exact⟨k+1,by omega,by go_num,by have:=O4.out;rw[HT.out,HE.out];show xO _ _ _ _;simpa using this,B4⟩
      case measure=>simp[intOf];omega
     by_cases hq2:((s[k]'hlt).toNat:Int)=92
     ·
      have HE:=qA (show xR (s[k]'hlt)=[92,92] by rw[FV (by omega),Nr (s[k]'hlt) 92 (by omega)];rfl);go_wp2_with (at_builtin;refine wpList_append_own _ rfl _ _ 140 rfl w.heap.size 5 i0 (.int .u8 0) 1 1 Tryz.underlying140 hi hz0 hz1 hz2 rfl (by decide) _ _ _ rfl (kQ HO.out _) ⟨wr.heap.size,0,none⟩ 1 1 [.int .u8 92] rfl rfl ?c1 ?c2 ?c3 ?c4 ?c5 ?_)
      case c1=>exact zl _ (fun j u h=>by simpa using h)
      case c2=>simp[Value.oneCell']
      case c3=>unfold maxLen;rw[U7];omega
      case c4=>rw[U7];omega
      case c5=>have:=HB.out.size;simp;omega
      intro v3 w3 hown3 hgrow3 _;have O3:=qA (ZO (m:=[92]) hown3);have B3:Hid (Bl w w3):=(HB.out.alloc HB.out.size _).grown hgrow3 (by have:=HB.out.size;simp;omega) (fun k hk=>(qAG HO.out k hk).1);clear hown3 hgrow3;go_wp2_with (at_builtin;refine wpList_append_own _ rfl _ _ 140 rfl w.heap.size 5 i0 (.int .u8 0) 1 1 Tryz.underlying140 hi hz0 hz1 hz2 rfl (by decide) _ _ _ rfl (kQ O3.out _) ⟨w3.heap.size,0,none⟩ 1 1 [.int .u8 92] rfl rfl ?c1 ?c2 ?c3 ?c4 ?c5 ?_)
      case c1=>exact zl _ (fun j u h=>by simpa using h)
      case c2=>simp[Value.oneCell']
      case c3=>unfold maxLen;rw[U1,U7];simp only[U7,List.length_nil];omega
      case c4=>rw[U1,U7];simp only[U7,List.length_nil];omega
      case c5=>have:=B3.out.size;simp;omega
      intro v4 w4 hown4 hgrow4 _;have O4:=qA (TM (m:=[92]) hown4 (by simp));have B4:Hid (Bl w w4):=(B3.out.alloc B3.out.size _).grown hgrow4 (by have:=B3.out.size;simp;omega) (fun k hk=>(qAG O3.out k hk).1);clear hown4 hgrow4;go_wp2;go_roundw;case rel=>exact⟨k+1,by omega,by go_num,by have:=O4.out;rw[HT.out,HE.out];show xO _ _ _ _;simpa using this,B4⟩
      case measure=>simp[intOf];omega
     have f1:(((s[k]'hlt).toNat:Int)==34)=false:=by rw[U0];exact hq
     have f2:(((s[k]'hlt).toNat:Int)==92)=false:=by rw[U0];exact hq2
     have HE:=qA (OH (b:=s[k]'hlt) (by omega) (by omega) HC.out);clear hq hq2;go_wp2_with (at_builtin;refine wpList_append_own _ rfl _ _ 140 rfl w.heap.size 5 i0 (.int .u8 0) 1 1 Tryz.underlying140 hi hz0 hz1 hz2 rfl (by decide) _ _ _ rfl (kQ HO.out _) ⟨wr.heap.size,0,none⟩ 1 1 [.int .u8 (s[k]'hlt).toNat] rfl rfl ?c1 ?c2 ?c3 ?c4 ?c5 ?_)
     case c1=>exact zl _ (fun j u h=>by simpa using h)
     case c2=>simp[Value.oneCell']
     case c3=>unfold maxLen;rw[U7];omega
     case c4=>rw[U7];omega
     case c5=>have:=HB.out.size;simp;omega
     intro v3 w3 hown3 hgrow3 _;have O3:=qA (ZO (m:=[s[k]'hlt]) hown3);have B3:Hid (Bl w w3):=(HB.out.alloc HB.out.size _).grown hgrow3 (by have:=HB.out.size;simp;omega) (fun k hk=>(qAG HO.out k hk).1);clear hown3 hgrow3;go_wp2;go_roundw;case rel=>exact⟨k+1,by omega,by go_num,by have:=O3.out;rw[HT.out,HE.out];exact this,B3⟩
     case measure=>simp[intOf];omega
   ·
    obtain rfl:k=s.size:=by omega
    have hall:s.data.toList.take s.size=s.data.toList:=U9 (by simp);rw[hall]at HO;have HQ:=qA (show(34::jR s.data.toList)++[34]=q from HF.out);have HL:=xe s.data.toList;have hsl:s.data.toList.length=s.size:=by simp
    clear hall;go_wp2_with (at_builtin;refine wpList_append_own _ rfl _ _ 140 rfl w.heap.size 5 i0 (.int .u8 0) 1 1 Tryz.underlying140 hi hz0 hz1 hz2 rfl (by decide) _ _ _ rfl (kQ HO.out _) ⟨wr.heap.size,0,none⟩ 1 1 [.int .u8 34] rfl rfl ?c1 ?c2 ?c3 ?c4 ?c5 ?_)
    case c1=>exact zl _ (fun j u h=>by simpa using h)
    case c2=>simp[Value.oneCell']
    case c3=>unfold maxLen;rw[U7];omega
    case c4=>rw[U7];omega
    case c5=>have:=HB.out.size;simp;omega
    intro v3 w3 hown3 hgrow3 _;have O3:=qA (ZO (m:=[34]) hown3);have B3:Hid (Bl w w3):=(HB.out.alloc HB.out.size _).grown hgrow3 (by have:=HB.out.size;simp;omega) (fun k hk=>(qAG HO.out k hk).1);clear hown3 hgrow3;rw[HQ.out]at O3;have hcv:=YG O3.out;go_wp2;go_ret;exact⟨rfl,B3.out⟩
theorem TU {B:Nat} {v':Value} {l q:List UInt8} {w:World} {n:Nat} (h:w.ownsRow B 5 1 v' n (Lib.byteCells l++Lib.strCells ⟨q.toArray⟩)) (hn:n=l.length+q.length):xO B v' (l++q) w:=by
 unfold xO;rw[vg,U1];subst hn;exact h
theorem Ub (v:Value) (l:List (List UInt8)) (o:List UInt8) (e:Int) (H:Hid (zL l=(o,e))) (HL:Hid (∀ x∈l,x.length<=131072)) (B:Nat) (w:World) (hv:VW B w v l) (hB:B<=w.heap.size):
  Calls Tryz.prog 156 #[v] w fun r w'=>r= .returned (.tuple #[qP o, .int .i64 e])/\Bl w w':=by
 obtain⟨i0,hi,hz0,hz1,hz2⟩:=info_parts vk;by_cases hbig:64<l.length
 ·
  obtain⟨b1,o1,cap1,rfl,l1,m1,hb1,hc1⟩:=hv.open (by omega);have HF:=qA (show(([]:List UInt8),(5:Int))=(o,e) by rw[<-H.out];unfold zL;rw[U6 hbig]);obtain⟨e1,e2⟩:=qAE HF.out;clear H HF hv hc1;subst e1 e2;go_enter Tryz.func156,Tryz.ntmps156
  go_wp2;go_ret2;exact⟨rfl,qB _⟩
 by_cases h0:0<l.length
 ·
  obtain⟨b1,o1,cap1,rfl,l1,m1,hb1,hc1⟩:=hv.open h0;have H1:=qA hc1;clear hv hc1;go_enter Tryz.func156,Tryz.ntmps156
  go_wp2;go_loopw [4,5] (fun vo i wr=> ∃ (k:Nat) (line:List UInt8),k<=l.length/\i= .int .i64 k/\line.length<=k*600000/\Hid (xO w.heap.size vo line wr)/\Hid (kK (l.take k)=line)/\Hid (Bl w wr)) (fun _ i _=>l.length-(intOf i).toNat)
  case atStart=>exact⟨0,[],qAD _,rfl,by decide,Xw _ _,by show _=_;rfl,qB _⟩
  case round=>
   obtain⟨k,line,hk,rfl,hll,HO,HJ,HB⟩:=hrel;by_cases hlt:k<l.length
   ·
    obtain⟨x,hx⟩: ∃ x,l[k]? =some x:=⟨_,U2 hlt⟩;have hxl:x.length<=131072:=HL.out x (Uz hx);have i1:(k:Int)<(l.length:Int):=by omega
    obtain⟨q,hq⟩: ∃ q,zg x=q:=⟨_,rfl⟩;have hql:q.length<=524290:=by rw[<-hq];have:=(YJ x).2;omega
    have HQ:=qA hq;have hqc:=UN ⟨x.toArray⟩ q HQ (by show x.toArray.size<=_;rw[List.size_toArray];omega);by_cases hk0:0<k
    ·
     have HN:=qA (show kK (l.take (k+1))=(line++[44])++q by rw[DC hk0 hx,HJ.out,hq]);have HX:=qA hx;clear hx hq;go_wp2_with (at_builtin;refine wpList_append_own _ rfl _ _ 140 rfl w.heap.size 5 i0 (.int .u8 0) 1 1 Tryz.underlying140 hi hz0 hz1 hz2 rfl (by decide) _ _ _ rfl (kQ HO.out _) ⟨wr.heap.size,0,none⟩ 1 1 [.int .u8 44] rfl rfl ?c1 ?c2 ?c3 ?c4 ?c5 ?_)
     case c1=>exact zl _ (fun j u h=>by simpa using h)
     case c2=>simp[Value.oneCell']
     case c3=>unfold maxLen;omega
     case c4=>omega
     case c5=>have:=HB.out.size;simp;omega
     intro v3 w3 hown3 hgrow3 _;have O3:=qA (ZO (m:=[44]) hown3);have B3:Hid (Bl w w3):=(HB.out.alloc HB.out.size _).grown hgrow3 (by have:=HB.out.size;simp;omega) (fun k hk=>(qAG HO.out k hk).1);clear hown3 hgrow3;have c1:w3.cell? ⟨b1,o1+k,none⟩=some (qP x):=by rw[(qG B3.out).1 _ _ (by omega)];exact(by have:=H1.out k x HX.out 0 _ rfl;simpa using this)
     have hl44:(line++[44]).length=line.length+1:=by simp
     go_wp2_with (go_at_call 134;refine(hqc _).mono ?_)
     rintro r w4 ⟨rfl,b4⟩;have B4:Hid (Bl w w4):=qF B3.out b4;have O4:=qA (MK O3.out b4);clear b4 hqc;go_wp2_with (at_builtin;refine Lib.wpList_append_own_string _ rfl _ _ 140 9 rfl w.heap.size 5 i0 Tryz.underlying140 Tryz.underlying9 hi hz0 hz1 hz2 _ _ _ rfl O4.out ⟨q.toArray⟩ rfl ?d3 ?d4 ?d5 ?_)
     case d3=>show(line++[44]).length+q.toArray.size<=_;rw[List.size_toArray];unfold maxLen;omega
     case d4=>show(line++[44]).length+q.toArray.size<=_;rw[List.size_toArray];omega
     case d5=>exact B4.out.size
     intro v5 w5 hown5 hgrow5 _;have O5:=qA (TU hown5 (by simp));have B5:Hid (Bl w w5):=B4.out.grown hgrow5 B4.out.size (fun k hk=>(qAG O4.out k hk).1);clear hown5 hgrow5;go_wp2;go_roundw;case rel=>exact⟨k+1,(line++[44])++q,by omega,by go_num,by simp;omega,O5,HN,B5⟩
     case measure=>simp[intOf];omega
    ·
     have HN:=qA (show kK (l.take (k+1))=line++q by
      have hkz:k=0:=by omega
      have hl0:line=[]:=by rw[<-HJ.out,hkz];rfl
      rw[hl0,List.nil_append,hkz,tV (by rw[<-hkz];exact hx),hq])
     have c1:wr.cell? ⟨b1,o1+k,none⟩=some (qP x):=by rw[(qG HB.out).1 _ _ (by omega)];exact(by have:=H1.out k x hx 0 _ rfl;simpa using this)
     clear hx hq;go_wp2_with (go_at_call 134;refine(hqc _).mono ?_)
     rintro r w4 ⟨rfl,b4⟩;have B4:Hid (Bl w w4):=qF HB.out b4;have O4:=qA (MK HO.out b4);clear b4 hqc;go_wp2_with (at_builtin;refine Lib.wpList_append_own_string _ rfl _ _ 140 9 rfl w.heap.size 5 i0 Tryz.underlying140 Tryz.underlying9 hi hz0 hz1 hz2 _ _ _ rfl O4.out ⟨q.toArray⟩ rfl ?d3 ?d4 ?d5 ?_)
     case d3=>show line.length+q.toArray.size<=_;rw[List.size_toArray];unfold maxLen;omega
     case d4=>show line.length+q.toArray.size<=_;rw[List.size_toArray];omega
     case d5=>exact B4.out.size
     intro v5 w5 hown5 hgrow5 _;have O5:=qA (TU hown5 (by simp));have B5:Hid (Bl w w5):=B4.out.grown hgrow5 B4.out.size (fun k hk=>(qAG O4.out k hk).1);clear hown5 hgrow5;go_wp2;go_roundw;case rel=>exact⟨k+1,line++q,by omega,by go_num,by simp;omega,O5,HN,B5⟩
     case measure=>simp[intOf];omega
   ·
    have HK:=qA (show kK l=line by rw[<-HJ.out,U9 (by omega)]);by_cases hover:65536<line.length
    ·
     have HF:=qA (show(([]:List UInt8),(5:Int))=(o,e) by
      rw[<-H.out];unfold zL;rw[U5 hbig,U6 (by rw[HK.out];exact hover)])
     obtain⟨e1,e2⟩:=qAE HF.out;clear H HF;subst e1 e2;obtain⟨a3,c3,rfl⟩:=Xy HO.out;go_wp2;go_ret2;exact⟨rfl,HB.out⟩
    ·
     have HF:=qA (show(line,(0:Int))=(o,e) by
      rw[<-H.out];unfold zL;rw[U5 hbig,U5 (by rw[HK.out];exact hover),HK.out])
     obtain⟨e1,e2⟩:=qAE HF.out;clear H HF;subst e1 e2;obtain⟨a3,c3,rfl⟩:=Xy HO.out;have hcv:=YG HO.out;go_wp2;go_ret2;exact⟨rfl,HB.out⟩
 ·
  obtain⟨a1,c1,rfl,m1,rfl⟩:=hv.empty (by omega);have HF:=qA (show(([]:List UInt8),(0:Int))=(o,e) by rw[<-H.out];rfl);obtain⟨e1,e2⟩:=qAE HF.out;clear H HF hv;subst e1 e2;go_enter Tryz.func156,Tryz.ntmps156
  have hcv:=YG (Xw w.heap.size w);go_wp2_with fail;refine wp_loop_rounds 1 ?_;rw[rounds_succ];go_wp2;go_ret2;exact⟨rfl,qB _⟩
end Go.Proofs.YtakedkcjplfgeaaGreatDoor
