/- Contracts, proved. Conditions: theirs. -/
import Derived.Test.YtakedkcjplfgeaaGreatDoorMPkRdC
import Derived.Test.YtakedkcjplfgeaaGreatDoorMXA
set_option maxRecDepth 1000000
set_option maxHeartbeats 32000000
open Go.Proofs.Tryz
namespace Go.Proofs.YtakedkcjplfgeaaGreatDoor.Num
theorem qAm {l:Ψ} (h:zN l=true):qL (val l)=l:=by
 generalize hn:l.length=n
 induction n using Nat.strongRecOn generalizing l with
 |_ n ih=>
  rcases Yd l with rfl|⟨k,c,rfl⟩
  · simp[zN]at h
  obtain⟨hc,hk⟩:=rZ h;rw[jg]at hc;rw[ZY];have hb:UInt8.ofNat (48+(c.toNat-48))=c:=by
   rw[show 48+(c.toNat-48)=c.toNat by omega];simp
  rcases hk with rfl|⟨hk,hk0⟩
  ·
   rw[NP,zD ω];simp only[Nat.mul_zero,Nat.zero_add,hb,List.nil_append]
  have hp:=NQ hk hk0;rw[jC ω,show(10*val k+(c.toNat-48)) / 10=val k by omega,show(10*val k+(c.toNat-48))%10=c.toNat-48 by omega,hb,
   ih k.length (by rw[<-hn];simp) hk rfl]
end Go.Proofs.YtakedkcjplfgeaaGreatDoor.Num
namespace Go.Proofs.YtakedkcjplfgeaaGreatDoor.Nu
open Go.RowKit
open Num
theorem TD (s:Φ) (hs:s.size<=maxLen) (w:World):
  Calls prog 253 #[s] w λe w'=>e=.returned (.bool (zN s.data.toList))/\w=w':=by
 unfold maxLen at hs;have hcan:=qA (Zd s);by_cases h0:s.size=0
 ·
  have hs:s.toList=[]:=wK h0;have HF:=qA (show zN s.data.toList=false by rw[hcan.o];simp[h0]);clear hcan;go_enter func253,ntmps253
  go_wp2;go_ret;exact⟨qO HF.o.symm,rfl⟩
 have hne:=jG h0;have hne':=jQ h0;have hps:0<s.size:=ω
 by_cases hz:((s[0]'hps).toNat:Int)=48/\1<(s.size:Int)
 ·
  obtain⟨h4,h5⟩:=hz;have h6:(s[0]'hps).toNat=48:=ω
  have HF:=qA (show zN s.data.toList=false by rw[hcan.o,dif_pos hps,h6];simp;omega);clear hcan;go_enter func253,ntmps253
  go_wp2;go_ret;exact⟨qO HF.o.symm,rfl⟩
 have HF:=qA (show zN s.data.toList=zC s.data.toList by
  rw[hcan.o,dif_pos hps];by_cases h4:(s[0]'hps).toNat=48
  ·
   have:s.size=1:=ω
   simp[this]
  simp[h0,h4])
 clear hcan;obtain⟨p,hp,hd,hn⟩:=CY s;have HD:=qA hd;have HN:=qA hn;clear hd hn;have hz':(((s[0]'hps).toNat:Int)=48/\ ¬ 1<(s.size:Int))∨ ¬ ((s[0]'hps).toNat:Int)=48:=by
  by_cases h4:((s[0]'hps).toNat:Int)=48
  · exact .inl ⟨h4,λh=>hz ⟨h4,h⟩⟩
  exact .inr h4
 clear hz;rcases hz' with⟨h4,h5⟩|h4
 all_goals
  go_enter func253,ntmps253
  go_wp2;go_loop [3] (λi=> ∃ k:Nat,k<=p/\i=k) (λi=>s.size-(intOf i).toNat)
  case atStart=>exact⟨0,ω,rfl⟩
  obtain⟨k,hk,rfl⟩:=hrel;by_cases h1:k<p
  ·
   have hb:=yY (HD.o k ω h1);go_wp2;go_round;case rel=>exact⟨k+1,ω,by go_num⟩
   simp[intOf];omega
  obtain rfl:k=p:=ω
  by_cases h2:k<s.size
  ·
   have hnd:=VF (HN.o h2);have HA:=qA (show zC s.data.toList=false by
    rw[Bool.eq_false_iff,Ne,yt];intro h;have:=h k h2;rw[HN.o h2]at this;simp at this)
   rcases hnd with hnd|hnd
   all_goals
    go_wp2;go_ret;exact⟨qO (by rw[HF.o,HA.o]),rfl⟩
  have HA:=qA (show zC s.data.toList=true by
   rw[yt];intro j hj;exact HD.o j hj ω)
  go_wp2;go_ret;exact⟨qO (by rw[HF.o,HA.o]),rfl⟩
theorem qAM (s:Φ) (b:Bool) (h:Hid (zN s.data.toList=b)) (hs:s.size<=maxLen) (w:World):
  Calls prog 253 #[s] w λe w'=>e=.returned (b:Z)/\w=w':=
 (TD s hs w).mono λ_ _ ⟨he,hw⟩=>⟨by rw[he,h.o],hw⟩
theorem qAt (v k:Int) (h9:k<=9):(-v<Int.tdiv (-9223372036854775808+k) 10)↔9223372036854775808<10*v+k:=by
 have e:Int.tdiv (-9223372036854775808+k) 10= -((9223372036854775808-k) / 10):=by
  have:(-9223372036854775808+k)= -(9223372036854775808-k):=ω
  rw[this,Int.neg_tdiv,Int.tdiv_eq_ediv_of_nonneg ω]
 rw[e];omega
theorem qAR (s:Φ) (n e:Int) (H:Hid (kF s.data.toList=(n,e))) (hs:s.size<=maxLen) (w:World):
  Calls prog 204 #[s] w λr w'=>r=.returned (.tuple #[n,e])/\w=w':=by
 unfold maxLen at hs;have hts:(s.extract 1 s.size).size<=maxLen:=by rw[EP];unfold maxLen;omega
 have HTS:=qA hts;clear hts;rcases DZ H.o with⟨h,h45,hc,rfl,rfl⟩|⟨h,h45,hc,hz,rfl,rfl⟩|⟨h,h45,hc,hz,hv,rfl,rfl⟩|⟨h,h45,hc,hz,v,hv,hp,hm,hn,rfl⟩|⟨h,hc,rfl,rfl⟩|⟨h0,h,hc,v,hv,hm,hn,rfl⟩|⟨h0,h,hc,hv,rfl,rfl⟩
 ·
  go_enter func204,ntmps204
  go_wp2_with (go_at_call 253;refine(qAM _ _ hc HTS.o _).mono ?_;rintro e w1 ⟨rfl,rfl⟩)
  go_ret2;exact⟨rfl,rfl⟩
 ·
  go_enter func204,ntmps204
  go_wp2_with (go_at_call 253;refine(qAM _ _ hc HTS.o _).mono ?_;rintro e w1 ⟨rfl,rfl⟩)
  go_ret2;exact⟨rfl,rfl⟩
 ·
  go_enter func204,ntmps204
  go_wp2_with (go_at_call 253;refine(qAM _ _ hc HTS.o _).mono ?_;rintro e w1 ⟨rfl,rfl⟩)
  generalize s.extract 1 s.size=d at*
  have hds:(d).size<=9223372036854775807:=by have:=HTS.o;unfold maxLen at this;omega
  have HD:=qA ((yt (d)).1 (Q9 hc.o));go_loop [6,7] (λm i=> ∃ k v:Nat,k<=(d).size/\i=k/\m=.int .i64 (-(v:Int))/\v<=9223372036854775808/\Hid (val ((d).data.toList.take k)=v)) (λ_ i=>(d).size-(intOf i).toNat)
  case atStart=>exact⟨0,0,ω,rfl,rfl,ω,rfl⟩
  obtain⟨k,u,hk,rfl,rfl,hvl,HV⟩:=hrel;by_cases hlt:k<(d).size
  ·
   have hb:=yY (HD.o k hlt);have HS:=qA (Kq (d) k hlt);have HL:=qA (qAt u ((((d)[k]'hlt).toNat:Int)-48) ω);have HLE:=qA (rF (d).data.toList (k+1));by_cases hover:9223372036854775808<10*(u:Int)+((((d)[k]'hlt).toNat:Int)-48)
   ·
    have hno:=HL.o.2 hover;go_wp2;go_ret2;exact⟨rfl,rfl⟩
   have hno: ¬ (-(u:Int)<Int.tdiv (-9223372036854775808+((((d)[k]'hlt).toNat:Int)-48)) 10):=λh=>hover (HL.o.1 h)
   go_wp2;go_round;case rel=>exact⟨k+1,10*u+(((d)[k]'hlt).toNat-48),ω,by go_num,by go_num,ω,by rw[<-HV.o];exact HS.o⟩
   simp[intOf];omega
  have HE:=qA (show u=val (d).data.toList by rw[<-HV.o,U9 τ]);exfalso
  have:=hv.o;have:=HE.o;omega
 ·
  have HN:=qA hn;clear hn;go_enter func204,ntmps204
  go_wp2_with (go_at_call 253;refine(qAM _ _ hc HTS.o _).mono ?_;rintro e w1 ⟨rfl,rfl⟩)
  generalize s.extract 1 s.size=d at*
  have hds:(d).size<=9223372036854775807:=by have:=HTS.o;unfold maxLen at this;omega
  have HD:=qA ((yt (d)).1 (Q9 hc.o));go_loop [6,7] (λm i=> ∃ k v:Nat,k<=(d).size/\i=k/\m=.int .i64 (-(v:Int))/\v<=9223372036854775808/\Hid (val ((d).data.toList.take k)=v)) (λ_ i=>(d).size-(intOf i).toNat)
  case atStart=>exact⟨0,0,ω,rfl,rfl,ω,rfl⟩
  obtain⟨k,u,hk,rfl,rfl,hvl,HV⟩:=hrel;by_cases hlt:k<(d).size
  ·
   have hb:=yY (HD.o k hlt);have HS:=qA (Kq (d) k hlt);have HL:=qA (qAt u ((((d)[k]'hlt).toNat:Int)-48) ω);have HLE:=qA (rF (d).data.toList (k+1));by_cases hover:9223372036854775808<10*(u:Int)+((((d)[k]'hlt).toNat:Int)-48)
   ·
    exfalso
    have h1:=HLE.o;rw[HS.o,HV.o,hv.o]at h1;omega
   have hno: ¬ (-(u:Int)<Int.tdiv (-9223372036854775808+((((d)[k]'hlt).toNat:Int)-48)) 10):=λh=>hover (HL.o.1 h)
   go_wp2;go_round;case rel=>exact⟨k+1,10*u+(((d)[k]'hlt).toNat-48),ω,by go_num,by go_num,ω,by rw[<-HV.o];exact HS.o⟩
   simp[intOf];omega
  have HE:=qA (show u=val (d).data.toList by rw[<-HV.o,U9 τ]);go_wp2;go_ret2;exact⟨wI (by rw[HN.o,HE.o,hv.o]),rfl⟩
 ·
  by_cases h0:0<s.size
  ·
   have h':=h h0;clear h;go_enter func204,ntmps204
   go_wp2_with (go_at_call 253;refine(qAM _ _ hc hs _).mono ?_;rintro e w1 ⟨rfl,rfl⟩)
   go_ret2;exact⟨rfl,rfl⟩
  clear h;go_enter func204,ntmps204
  go_wp2_with (go_at_call 253;refine(qAM _ _ hc hs _).mono ?_;rintro e w1 ⟨rfl,rfl⟩)
  go_ret2;exact⟨rfl,rfl⟩
 ·
  have HN:=qA hn;have hvn: ¬ ((v:Int)=9223372036854775808):=ω
  clear hn;go_enter func204,ntmps204
  go_wp2_with (go_at_call 253;refine(qAM _ _ hc hs _).mono ?_;rintro e w1 ⟨rfl,rfl⟩)
  have hds:(s).size<=9223372036854775807:=by have:=hs;unfold maxLen at this;omega
  have HD:=qA ((yt (s)).1 (Q9 hc.o));go_loop [6,7] (λm i=> ∃ k v:Nat,k<=(s).size/\i=k/\m=.int .i64 (-(v:Int))/\v<=9223372036854775808/\Hid (val ((s).data.toList.take k)=v)) (λ_ i=>(s).size-(intOf i).toNat)
  case atStart=>exact⟨0,0,ω,rfl,rfl,ω,rfl⟩
  obtain⟨k,u,hk,rfl,rfl,hvl,HV⟩:=hrel;by_cases hlt:k<(s).size
  ·
   have hb:=yY (HD.o k hlt);have HS:=qA (Kq (s) k hlt);have HL:=qA (qAt u ((((s)[k]'hlt).toNat:Int)-48) ω);have HLE:=qA (rF (s).data.toList (k+1));by_cases hover:9223372036854775808<10*(u:Int)+((((s)[k]'hlt).toNat:Int)-48)
   ·
    exfalso
    have h1:=HLE.o;rw[HS.o,HV.o,hv.o]at h1;omega
   have hno: ¬ (-(u:Int)<Int.tdiv (-9223372036854775808+((((s)[k]'hlt).toNat:Int)-48)) 10):=λh=>hover (HL.o.1 h)
   go_wp2;go_round;case rel=>exact⟨k+1,10*u+(((s)[k]'hlt).toNat-48),ω,by go_num,by go_num,ω,by rw[<-HV.o];exact HS.o⟩
   simp[intOf];omega
  have HE:=qA (show u=val (s).data.toList by rw[<-HV.o,U9 τ]);have hu:u=v:=HE.o.trans hv.o;subst hu;go_wp2;go_ret2;exact⟨wI (by rw[HN.o]),rfl⟩
 go_enter func204,ntmps204
 go_wp2_with (go_at_call 253;refine(qAM _ _ hc hs _).mono ?_;rintro e w1 ⟨rfl,rfl⟩)
 have hds:(s).size<=9223372036854775807:=by have:=hs;unfold maxLen at this;omega
 have HD:=qA ((yt (s)).1 (Q9 hc.o));go_loop [6,7] (λm i=> ∃ k v:Nat,k<=(s).size/\i=k/\m=.int .i64 (-(v:Int))/\v<=9223372036854775808/\Hid (val ((s).data.toList.take k)=v)) (λ_ i=>(s).size-(intOf i).toNat)
 case atStart=>exact⟨0,0,ω,rfl,rfl,ω,rfl⟩
 obtain⟨k,u,hk,rfl,rfl,hvl,HV⟩:=hrel;by_cases hlt:k<(s).size
 ·
  have hb:=yY (HD.o k hlt);have HS:=qA (Kq (s) k hlt);have HL:=qA (qAt u ((((s)[k]'hlt).toNat:Int)-48) ω);have HLE:=qA (rF (s).data.toList (k+1));by_cases hover:9223372036854775808<10*(u:Int)+((((s)[k]'hlt).toNat:Int)-48)
  ·
   have hno:=HL.o.2 hover;go_wp2;go_ret2;exact⟨rfl,rfl⟩
  have hno: ¬ (-(u:Int)<Int.tdiv (-9223372036854775808+((((s)[k]'hlt).toNat:Int)-48)) 10):=λh=>hover (HL.o.1 h)
  go_wp2;go_round;case rel=>exact⟨k+1,10*u+(((s)[k]'hlt).toNat-48),ω,by go_num,by go_num,ω,by rw[<-HV.o];exact HS.o⟩
  simp[intOf];omega
 have HE:=qA (show u=val (s).data.toList by rw[<-HV.o,U9 τ]);have hu:u=9223372036854775808:=by have:=hv.o;have:=HE.o;omega
 subst hu;go_wp2;go_ret2;exact⟨rfl,rfl⟩
end Go.Proofs.YtakedkcjplfgeaaGreatDoor.Nu
namespace Go.Proofs.YtakedkcjplfgeaaGreatDoor
open Go.RowKit
theorem qCK {a w:World} (h:a=w):Bl a w:=h ▸ qB a
end Go.Proofs.YtakedkcjplfgeaaGreatDoor
namespace Go.Proofs.YtakedkcjplfgeaaGreatDoor.Nu
open Go.RowKit
open Num
section
variable {s:ByteArray} {a:List UInt8} {x y:UInt8} (hs:s.data.toList=a++[46,x,y])
include hs
end
theorem qA8 (s:Φ) (c:UInt8) (i j:Nat) (hi:1<=i) (hs:1<=s.size):(ByteArray.mk #[c]++s.extract i j:Φ).size<=s.size:=by
 rw[ByteArray.size_append,ByteArray.size_extract];show 1+_<=_
 omega
theorem qAv {a:Ψ} (h:zN a=true):kF a=if val a<=Num.big then((val a:Int),0)else(0,2):=by
 unfold kF;rw[U5 (GG h),U6 h]
theorem qA6 (s:Φ) (n e:Int) (H:Price s.data.toList n e) (hs:s.size<=maxLen) (w:World):
  Calls prog 208 #[s] w λr w'=>r=.returned (.tuple #[n,e])/\Bl w w':=by
 unfold maxLen at hs;have hs4: ∀ b:Φ,b.size<=s.size->b.size<=maxLen:=λb hb=>by unfold maxLen;omega
 have HS:=qA hs4;clear hs4;generalize hl:s.data.toList=l at H
 cases H with
 |bad h=>
  rw[<-hl]at h;clear hl;have HB:=qA h;clear h;by_cases h4:s.size<4
  ·
   go_enter func208,ntmps208
   go_wp2;go_ret2;exact⟨rfl,qB _⟩
  have hlt:s.size-3<s.size:=ω
  by_cases h46:((s[s.size-3]'hlt).toNat:Int)=46
  ·
   cases hc:zN (s.extract 0 (s.size-3)).data.toList with
   |false=>
    have HC:=qA hc;clear hc;go_enter func208,ntmps208
    go_wp2_with (go_at_call 253;refine(qAM _ _ HC (HS.o _ (OM _ _ _)) _).mono ?_;rintro e w1 ⟨rfl,rfl⟩)
    go_ret2;exact⟨rfl,qB _⟩
   |true=>
    have HD:=qA (uK HB.o (s.size-3) ω h46 hc (s.size-2) s.size ω rfl);have HC:=qA hc;clear hc;go_enter func208,ntmps208
    go_wp2_with fail;refine(qAM _ _ HC (HS.o _ (OM _ _ _)) _).mono ?_;rintro e w1 ⟨rfl,rfl⟩;go_wp2_with fail;refine(qAM _ _ HD (HS.o _ (qA8 _ _ _ _ ω ω)) _).mono ?_;rintro e w1 ⟨rfl,rfl⟩;go_wp2;go_ret2;exact⟨rfl,qB _⟩
  go_enter func208,ntmps208
  go_wp2;go_ret2;exact⟨rfl,qB _⟩
 | @big a x y ha hx hy hb=>
  have hsz:=BZ hl;have hL:1<=a.length:=by
   have:=Eo ha;cases a with
   |nil=>exact absurd rfl this
   |cons _ _=>simp
  have hlt:s.size-3<s.size:=ω
  have hlt2:s.size-2<s.size:=ω
  have hlt1:s.size-1<s.size:=ω
  have h46:=Oz hl (s.size-3) hlt ω;have hea:=MN hl (s.size-3) ω;have HC:Hid (zN (s.extract 0 (s.size-3)).data.toList=true):=by show _=_;rw[hea];exact ha
  have HD:Hid (zN (ByteArray.mk #[49]++s.extract (s.size-2) s.size:Φ).data.toList=true):=by
   show _=_
   rw[lT,lS,MO hl _ _ ω rfl];simp[zC,hx,hy]
  have HP:=qA (qAv ha);have ex:=Ru hl _ hlt2 ω;have ey:=Rw hl _ hlt1 ω;have bx:=yY hx;have b_y:=yY hy;rw[<-ex]at bx;rw[<-ey]at b_y;have HEX:=qA ex;have HEY:=qA ey;have HEA:=qA hea;have hs4:4<=s.size:=ω
  clear ex ey hea hl hsz hL hx hy;by_cases hv0:Num.big<val a
  ·
   have HQ:Hid (kF (s.extract 0 (s.size-3)).data.toList=(0,2)):=by show _=_;rw[HEA.o,HP.o,U5 ω]
   clear hb hv0;go_enter func208,ntmps208
   go_wp2_with fail;refine(qAM _ _ HC (HS.o _ (OM _ _ _)) _).mono ?_;rintro e w1 ⟨rfl,rfl⟩;go_wp2_with fail;refine(qAM _ _ HD (HS.o _ (qA8 _ _ _ _ ω ω)) _).mono ?_;rintro e w1 ⟨rfl,rfl⟩;go_wp2_with (go_at_call 204;refine(qAR _ _ _ HQ (HS.o _ (OM _ _ _)) _).mono ?_;rintro e w1 ⟨rfl,rfl⟩)
   go_ret2;exact⟨rfl,qB _⟩
  obtain⟨v,hv⟩: ∃ v:Nat,v=val a:=⟨_,rfl⟩;have HQ:Hid (kF (s.extract 0 (s.size-3)).data.toList=((v:Int),0)):=by show _=_;rw[HEA.o,HP.o,U6 ω,hv]
  have hvb:(v:Int)<=9223372036854775807:=by unfold Num.big at hv0;omega
  rw[<-hv,<-HEX.o,<-HEY.o]at hb;clear hv0 hv;by_cases hv1:10000<(v:Int)
  ·
   clear hb;go_enter func208,ntmps208
   go_wp2_with fail;refine(qAM _ _ HC (HS.o _ (OM _ _ _)) _).mono ?_;rintro e w1 ⟨rfl,rfl⟩;go_wp2_with fail;refine(qAM _ _ HD (HS.o _ (qA8 _ _ _ _ ω ω)) _).mono ?_;rintro e w1 ⟨rfl,rfl⟩;go_wp2_with (go_at_call 204;refine(qAR _ _ _ HQ (HS.o _ (OM _ _ _)) _).mono ?_;rintro e w1 ⟨rfl,rfl⟩)
   go_ret2;exact⟨rfl,qB _⟩
  have hb':1000000<(v:Int)*100+(((s[s.size-2]'hlt2).toNat:Int)-48)*10+(((s[s.size-1]'hlt1).toNat:Int)-48):=ω
  clear hb;have E9:=qA (IntWalk.i64_in ((s.size:Int)-2) ω);have E10:=qA (IntWalk.i64_in ((s.size:Int)-1) ω);have E11:=qA (λW=>KI s ((s.size:Int)-2) (s.size-2) ω hlt2 W);have E12:=qA (λW=>KI s ((s.size:Int)-1) (s.size-1) ω hlt1 W);have E1:=qA (IntWalk.u8_in (((s[s.size-2]'hlt2).toNat:Int)-48) ω);have E2:=qA (IntWalk.i64_in (((s[s.size-2]'hlt2).toNat:Int)-48) ω);have E3:=qA (IntWalk.i64_in ((((s[s.size-2]'hlt2).toNat:Int)-48)*10) ω);have E4:=qA (IntWalk.i64_in ((v:Int)*100) ω);have E5:=qA (IntWalk.i64_in ((v:Int)*100+(((s[s.size-2]'hlt2).toNat:Int)-48)*10) ω);have E6:=qA (IntWalk.u8_in (((s[s.size-1]'hlt1).toNat:Int)-48) ω);have E7:=qA (IntWalk.i64_in (((s[s.size-1]'hlt1).toNat:Int)-48) ω);have E8:=qA (IntWalk.i64_in ((v:Int)*100+(((s[s.size-2]'hlt2).toNat:Int)-48)*10+(((s[s.size-1]'hlt1).toNat:Int)-48)) ω);go_enter func208,ntmps208
  go_wp2_with fail;refine(qAM _ _ HC (HS.o _ (OM _ _ _)) _).mono ?_;rintro e w1 ⟨rfl,rfl⟩;go_wp2_with fail;refine(qAM _ _ HD (HS.o _ (qA8 _ _ _ _ ω ω)) _).mono ?_;rintro e w1 ⟨rfl,rfl⟩;go_wp2_with (go_at_call 204;refine(qAR _ _ _ HQ (HS.o _ (OM _ _ _)) _).mono ?_;rintro e w1 ⟨rfl,rfl⟩)
  have e1:=E1.o;have e2:=E2.o;have e3:=E3.o;have e4:=E4.o;have e5:=E5.o;have e6:=E6.o;have e7:=E7.o;have e8:=E8.o;have e9:=E9.o;have e10:=E10.o;have e11:=E11.o;have e12:=E12.o;go_quiet (fail)
  clear e1 e2 e3 e4 e5 e6 e7 e8 e9 e10 e11 e12;go_wp2;go_ret2;exact⟨rfl,by repeat(first|exact qB _|refine qH ?_|refine qM ?_ _)⟩
 | @ok a x y ha hx hy hv hb=>
  have hsz:=BZ hl;have hL:1<=a.length:=by
   have:=Eo ha;cases a with
   |nil=>exact absurd rfl this
   |cons _ _=>simp
  have hlt:s.size-3<s.size:=ω
  have hlt2:s.size-2<s.size:=ω
  have hlt1:s.size-1<s.size:=ω
  have h46:=Oz hl (s.size-3) hlt ω;have hea:=MN hl (s.size-3) ω;have HC:Hid (zN (s.extract 0 (s.size-3)).data.toList=true):=by show _=_;rw[hea];exact ha
  have HD:Hid (zN (ByteArray.mk #[49]++s.extract (s.size-2) s.size:Φ).data.toList=true):=by
   show _=_
   rw[lT,lS,MO hl _ _ ω rfl];simp[zC,hx,hy]
  have HP:=qA (qAv ha);have ex:=Ru hl _ hlt2 ω;have ey:=Rw hl _ hlt1 ω;have bx:=yY hx;have b_y:=yY hy;rw[<-ex]at bx;rw[<-ey]at b_y;have HEX:=qA ex;have HEY:=qA ey;have HEA:=qA hea;have hs4:4<=s.size:=ω
  clear ex ey hea hl hsz hL hx hy;obtain⟨v,hv'⟩: ∃ v:Nat,v=val a:=⟨_,rfl⟩;have HQ:Hid (kF (s.extract 0 (s.size-3)).data.toList=((v:Int),0)):=by show _=_;rw[HEA.o,HP.o,U6 (by unfold Num.big;omega),hv']
  rw[<-hv',<-HEX.o,<-HEY.o]at hb;rw[<-hv']at hv;have HR:=qA (show((100*val a+10*(x.toNat-48)+(y.toNat-48):Nat):Int)=(v:Int)*100+(((s[s.size-2]'hlt2).toNat:Int)-48)*10+(((s[s.size-1]'hlt1).toNat:Int)-48) by rw[<-hv',<-HEX.o,<-HEY.o];omega);have hb':(v:Int)*100+(((s[s.size-2]'hlt2).toNat:Int)-48)*10+(((s[s.size-1]'hlt1).toNat:Int)-48)<=1000000:=ω
  clear hb hv';skip
  have E9:=qA (IntWalk.i64_in ((s.size:Int)-2) ω);have E10:=qA (IntWalk.i64_in ((s.size:Int)-1) ω);have E11:=qA (λW=>KI s ((s.size:Int)-2) (s.size-2) ω hlt2 W);have E12:=qA (λW=>KI s ((s.size:Int)-1) (s.size-1) ω hlt1 W);have E1:=qA (IntWalk.u8_in (((s[s.size-2]'hlt2).toNat:Int)-48) ω);have E2:=qA (IntWalk.i64_in (((s[s.size-2]'hlt2).toNat:Int)-48) ω);have E3:=qA (IntWalk.i64_in ((((s[s.size-2]'hlt2).toNat:Int)-48)*10) ω);have E4:=qA (IntWalk.i64_in ((v:Int)*100) ω);have E5:=qA (IntWalk.i64_in ((v:Int)*100+(((s[s.size-2]'hlt2).toNat:Int)-48)*10) ω);have E6:=qA (IntWalk.u8_in (((s[s.size-1]'hlt1).toNat:Int)-48) ω);have E7:=qA (IntWalk.i64_in (((s[s.size-1]'hlt1).toNat:Int)-48) ω);have E8:=qA (IntWalk.i64_in ((v:Int)*100+(((s[s.size-2]'hlt2).toNat:Int)-48)*10+(((s[s.size-1]'hlt1).toNat:Int)-48)) ω);go_enter func208,ntmps208
  go_wp2_with fail;refine(qAM _ _ HC (HS.o _ (OM _ _ _)) _).mono ?_;rintro e w1 ⟨rfl,rfl⟩;go_wp2_with fail;refine(qAM _ _ HD (HS.o _ (qA8 _ _ _ _ ω ω)) _).mono ?_;rintro e w1 ⟨rfl,rfl⟩;go_wp2_with (go_at_call 204;refine(qAR _ _ _ HQ (HS.o _ (OM _ _ _)) _).mono ?_;rintro e w1 ⟨rfl,rfl⟩)
  have e1:=E1.o;have e2:=E2.o;have e3:=E3.o;have e4:=E4.o;have e5:=E5.o;have e6:=E6.o;have e7:=E7.o;have e8:=E8.o;have e9:=E9.o;have e10:=E10.o;have e11:=E11.o;have e12:=E12.o;go_quiet (fail)
  clear e1 e2 e3 e4 e5 e6 e7 e8 e9 e10 e11 e12;go_wp2;go_ret2;exact⟨wI (by rw[HR.o]),by repeat(first|exact qB _|refine qH ?_|refine qM ?_ _)⟩
end Go.Proofs.YtakedkcjplfgeaaGreatDoor.Nu
namespace Go.Proofs.YtakedkcjplfgeaaGreatDoor.Da
open Go.RowKit
open Num Clk Dat
theorem qBw (y m d n:Int) (ok:Bool) (H:Hid (jV y m d=(n,ok))) (w:World):
  Calls prog 255 #[y,m,d] w λe w'=>e=.returned (.tuple #[n,ok])/\w=w':=by
 rcases Fa y m d with⟨hy,hm,hd⟩|⟨hc,k⟩
 ·
  obtain⟨rfl,rfl⟩:=qAE ((OO hy hm hd).symm.trans H.o);exact PW y m d _ hy hm hd rfl w
 obtain⟨rfl,rfl⟩:=qAE (k.symm.trans H.o);clear k H;rcases hc with hc|⟨n,hc,hd|⟨hd,hd'⟩⟩
 all_goals
  have HD:=qA hc;clear hc;go_enter func255,ntmps255
  go_wp2_with (go_at_call 267;refine(Bd _ _ _ _ HD _).mono ?_;rintro e w1 ⟨rfl,rfl⟩)
  go_ret2;exact⟨rfl,rfl⟩
theorem qAb (s:Φ) (n:Int) (H:Hid (YQ s.data.toList=(n,true))) (hs:s.size<=4) (w:World):
  Calls prog 256 #[s] w λe w'=>e=.returned (n:Z)/\w=w':=by
 have hall:Hid (zC s.data.toList=true):=by
  have:=H.o;unfold YQ at this;split at this
  · assumption
  simp at this
 have hn:Hid (n=val s.data.toList):=by
  have:=H.o;unfold YQ at this;rw[U6 hall.o]at this;exact((qAE this).1).symm
 go_enter func256,ntmps256
 go_wp2;go_loop [3,4] (λx i=> ∃ k:Nat,k<=s.size/\i=k/\x=(val (s.data.toList.take k))/\zC (s.data.toList.take k)=true) (λ_ i=>s.size-(intOf i).toNat)
 case atStart=>exact⟨0,qAD _,rfl,rfl,rfl⟩
 obtain⟨k,hk,rfl,rfl,hd⟩:=hrel;have HD:=qA hd;clear hd;by_cases hlt:k<s.size
 ·
  have hv:=PR HD.o 3 (by rw[List.length_take];omega);have e7:=λW=>KI s (k:Int) k rfl hlt W
  have HV:=qA (Ji s k hlt);have HN:=qA (λhc=>uJ s k hlt hc);obtain⟨c,hc⟩:=ε (s[k]);rw[hc]at e7 HV HN;have hcs:=qA hc;clear hc;obtain⟨v,hv'⟩:=ε (val (s.data.toList.take k));rw[hv']at hv ⊢;have HVV:=qA hv';clear hv';rcases OC (c:=c)with⟨hdc,c0,c1⟩|⟨hdc,_⟩
  ·
   have HDC:=qA hdc;clear hdc;have hv3:(v:Int)<=1000:=ω
   have hk4:(k:Int)<4:=ω
   have E1:=IntWalk.u8_in ((c.toNat:Int)-48) ω;go_wp2;go_round;case rel=>exact⟨k+1,ω,by go_num,by rw[HV.o,ZY,HVV.o];exact congrArg _ ω,by rw[HV.o,Jy,HD.o,HDC.o];rfl⟩
   simp[intOf];omega
  have:=HN.o hdc;rw[hall.o]at this;simp at this
 have HB:Hid (val (s.data.toList.take k)=n):=by
  show _=_
  rw[U9 τ,hn.o]
 go_wp2;go_ret;exact⟨qR HB.o,rfl⟩
theorem qBe {l p:Ψ} {k:Nat} {c q:UInt8} (hc:l[k]? =some c) (hq:p[k]? =some q):vG (l.drop k) (p.drop k)=((if q==48 then qV c else c==q)&&vG (l.drop (k+1)) (p.drop (k+1))):=by
 obtain⟨h1,rfl⟩:=Uw.1 hc;obtain⟨h2,rfl⟩:=Uw.1 hq;rw[List.drop_eq_getElem_cons h1,List.drop_eq_getElem_cons h2,vG]
theorem qBJ (s p:Φ) (b:Bool) (H:Hid (vG s.data.toList p.data.toList=b)) (hp:p.size<=100) (w:World):
  Calls prog 254 #[s,p] w λe w'=>e=.returned (b:Z)/\Bl w w':=by
 by_cases hsz:s.size=p.size
 ·
  have q0:((s.size:Int) != (p.size:Int))=false:=by rw[bne_eq_false_iff_eq];omega
  have HSZ:=qA hsz;have hs1:s.size<=100:=ω
  clear hsz;go_enter func254,ntmps254
  go_wp2;go_loopw [5] (λi wr=> ∃ k:Nat,k<=s.size/\i=k/\Hid (vG (s.data.toList.drop k) (p.data.toList.drop k)=b)/\Bl w wr) (λi _=>s.size-(intOf i).toNat)
  case atStart=>exact⟨0,qAD _,rfl,by show _=_;exact H.o,qB _⟩
  obtain⟨k,hk,rfl,HB,hb⟩:=hrel;by_cases hlt:k<s.size
  ·
   obtain⟨c,hc⟩: ∃ c,s.data.toList[k]? =some c:=⟨_,Uw.2 ⟨by simpa using hlt,rfl⟩⟩;obtain⟨q,hq⟩: ∃ q,p.data.toList[k]? =some q:=⟨_,Uw.2 ⟨by have:=HSZ.o;simp;omega,rfl⟩⟩;have e1:=λW=>Xh s (k:Int) k rfl c hc W
   have e2:=λW=>Xh p (k:Int) k rfl q hq W
   have HS:=qA (qBe hc hq);clear hc hq;by_cases hq:q=48
   ·
    subst hq;rcases OC (c:=c)with⟨hdc,c0,c1⟩|⟨hdc,c0|⟨c0,c1⟩⟩
    ·
     have HN:Hid (vG (s.data.toList.drop (k+1)) (p.data.toList.drop (k+1))=b):=by
      show _=_
      rw[<-HB.o,HS.o];simp[hdc]
     have d1:decide ((c.toNat:Int)<48)=false:=decide_eq_false ω;have d2:decide ((57:Int)<(c.toNat:Int))=false:=decide_eq_false ω;clear hdc HS HB;go_wp2_with fail;go_quiet (fail)
     go_wp2;go_roundw;case rel=>exact⟨k+1,ω,by go_num,HN,qM hb _⟩
     simp[intOf];omega
    ·
     have HN:Hid (b=false):=by
      show _=_
      rw[<-HB.o,HS.o];simp[hdc]
     have d1:decide ((c.toNat:Int)<48)=true:=decide_eq_true ω;clear hdc HS HB;go_wp2_with fail;go_quiet (fail)
     go_wp2;go_ret;exact⟨qO (by rw[HN.o]),qM hb _⟩
    have HN:Hid (b=false):=by
     show _=_
     rw[<-HB.o,HS.o];simp[hdc]
    have d1:decide ((c.toNat:Int)<48)=false:=decide_eq_false ω;have d2:decide ((57:Int)<(c.toNat:Int))=true:=decide_eq_true ω;clear hdc HS HB;go_wp2_with fail;go_quiet (fail)
    go_wp2;go_ret;exact⟨qO (by rw[HN.o]),qM hb _⟩
   have d0:((q.toNat:Int)==48)=false:=by rw[U0];exact Ns (b:=48) hq
   have d0':((q.toNat:Int) != 48)=true:=by rw[bne_iff_ne];exact Ns (b:=48) hq
   have hq2:(q==48)=false:=by rw[U0];exact hq
   by_cases hcq:c=q
   ·
    have HN:Hid (vG (s.data.toList.drop (k+1)) (p.data.toList.drop (k+1))=b):=by
     show _=_
     rw[<-HB.o,HS.o];simp[hq2,hcq]
    have d1:((c.toNat:Int) != (q.toNat:Int))=false:=by rw[bne_eq_false_iff_eq,hcq]
    clear hcq hq hq2 HS HB;go_wp2_with fail;go_quiet (fail)
    go_wp2;go_roundw;case rel=>exact⟨k+1,ω,by go_num,HN,qM hb _⟩
    simp[intOf];omega
   have HN:Hid (b=false):=by
    show _=_
    rw[<-HB.o,HS.o];simp[hq2,hcq]
   have d1:((c.toNat:Int) != (q.toNat:Int))=true:=by rw[bne_iff_ne];exact Ns hcq
   clear hcq hq hq2 HS HB;go_wp2_with fail;go_quiet (fail)
   go_wp2;go_ret;exact⟨qO (by rw[HN.o]),qM hb _⟩
  have HN:Hid (b=true):=by
   show _=_
   rw[<-HB.o,List.drop_of_length_le (by rw[aV];omega),List.drop_of_length_le (by rw[aV];have:=HSZ.o;omega)];rfl
  go_wp2;go_ret;exact⟨qO (by rw[HN.o]),hb⟩
 have HN:Hid (b=false):=by
  show _=_
  rw[<-H.o];cases h:vG s.data.toList p.data.toList with
  |false=>rfl
  |true=>
   have:=um h;rw[aV,aV]at this;exact absurd this hsz
 have q0:((s.size:Int) != (p.size:Int))=true:=by rw[bne_iff_ne];omega
 clear hsz;go_enter func254,ntmps254
 go_wp2;go_ret;exact⟨qO (by rw[HN.o]),qB _⟩
theorem qA3:(ByteArray.mk #[48,48,48,48,45,48,48,45,48,48]).data.toList=pat10:=rfl
theorem qCY (s:Φ) (n e:Int) (H:Day s.data.toList n e) (w:World):
  Calls prog 205 #[s] w λr w'=>r=.returned (.tuple #[n,e])/\Bl w w':=by
 generalize hl:s.data.toList=l at H
 cases H with
 |bad h=>
  have HF:Hid (vG s.data.toList (ByteArray.mk #[48,48,48,48,45,48,48,45,48,48]).data.toList=false):=by show _=_;rw[hl,qA3];exact h
  clear h hl;go_enter func205,ntmps205
  go_wp2_with fail;refine(qBJ s _ _ HF δ _).mono ?_;rintro e w1 ⟨rfl,b1⟩;go_wp2;go_ret2;exact⟨rfl,b1⟩
 |out h k=>
  rename_i y m d;have hd:DF s.data.toList y m d:=by rw[hl];exact h
  have HF:Hid (vG s.data.toList (ByteArray.mk #[48,48,48,48,45,48,48,45,48,48]).data.toList=true):=by show _=_;rw[hl,qA3];exact oU h
  obtain⟨h10,h4,h7,n1,n2,n3⟩:=FP hd;have N1:=qA n1;have N2:=qA n2;have N3:=qA n3;have HK:=qA k;have hs1:10<=s.size:=ω
  have hs2:s.size<=10:=ω
  clear h hl k hd h4 h7 n1 n2 n3 h10;go_enter func205,ntmps205
  go_wp2_with fail;refine(qBJ s _ _ HF δ _).mono ?_;rintro e w1 ⟨rfl,b1⟩;go_wp2_with fail;have i4:(4:Int)<=(s.size:Int):=ω
  have i7:(7:Int)<=(s.size:Int):=ω
  have i8:(8:Int)<=(s.size:Int):=ω
  go_quiet ((first
   |(go_at_call 256;with_reducible exact Calls.quiet_of_same ((qAb _ _ N1 (by rw[vH _ _ _ ω ω];omega) _).mono λ_ _ ⟨he,hw⟩=>⟨he,hw.symm⟩))
   |(go_at_call 256;with_reducible exact Calls.quiet_of_same ((qAb _ _ N2 (by rw[vH _ _ _ ω ω];omega) _).mono λ_ _ ⟨he,hw⟩=>⟨he,hw.symm⟩))
   |(go_at_call 256;with_reducible exact Calls.quiet_of_same ((qAb _ _ N3 (by rw[vH _ _ _ ω ω];omega) _).mono λ_ _ ⟨he,hw⟩=>⟨he,hw.symm⟩))
   |(go_at_call 255;with_reducible exact Calls.quiet_of_same ((qBw _ _ _ _ _ HK _).mono λ_ _ ⟨he,hw⟩=>⟨he,hw.symm⟩))))
  go_wp2;go_ret2;exact⟨rfl,qM b1 _⟩
 |ok _ h k=>
  rename_i y m d;have hd:DF s.data.toList y m d:=by rw[hl];exact h
  have HF:Hid (vG s.data.toList (ByteArray.mk #[48,48,48,48,45,48,48,45,48,48]).data.toList=true):=by show _=_;rw[hl,qA3];exact oU h
  obtain⟨h10,h4,h7,n1,n2,n3⟩:=FP hd;have N1:=qA n1;have N2:=qA n2;have N3:=qA n3;have HK:=qA k;have hs1:10<=s.size:=ω
  have hs2:s.size<=10:=ω
  clear h hl k hd h4 h7 n1 n2 n3 h10;go_enter func205,ntmps205
  go_wp2_with fail;refine(qBJ s _ _ HF δ _).mono ?_;rintro e w1 ⟨rfl,b1⟩;go_wp2_with fail;have i4:(4:Int)<=(s.size:Int):=ω
  have i7:(7:Int)<=(s.size:Int):=ω
  have i8:(8:Int)<=(s.size:Int):=ω
  go_quiet ((first
   |(go_at_call 256;with_reducible exact Calls.quiet_of_same ((qAb _ _ N1 (by rw[vH _ _ _ ω ω];omega) _).mono λ_ _ ⟨he,hw⟩=>⟨he,hw.symm⟩))
   |(go_at_call 256;with_reducible exact Calls.quiet_of_same ((qAb _ _ N2 (by rw[vH _ _ _ ω ω];omega) _).mono λ_ _ ⟨he,hw⟩=>⟨he,hw.symm⟩))
   |(go_at_call 256;with_reducible exact Calls.quiet_of_same ((qAb _ _ N3 (by rw[vH _ _ _ ω ω];omega) _).mono λ_ _ ⟨he,hw⟩=>⟨he,hw.symm⟩))
   |(go_at_call 255;with_reducible exact Calls.quiet_of_same ((qBw _ _ _ _ _ HK _).mono λ_ _ ⟨he,hw⟩=>⟨he,hw.symm⟩))))
  go_wp2;go_ret2;exact⟨rfl,qM b1 _⟩
