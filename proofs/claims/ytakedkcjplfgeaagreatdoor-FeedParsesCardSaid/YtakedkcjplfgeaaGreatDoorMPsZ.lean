/- Contracts, proved. Conditions: theirs. -/
import Derived.Test.YtakedkcjplfgeaaGreatDoorMPsX
set_option maxRecDepth 1000000
set_option maxHeartbeats 32000000
open Go.Proofs.Tryz
namespace Go.Proofs.YtakedkcjplfgeaaGreatDoor.Clk
open Num
theorem qCM {a b:UInt8} (ha:qV a=true) (hb:qV b=true) (n:Nat) (h:(n:Int)=wH a b):ZW n=[a,b]:=by
 have h1:=wV ha;have h2:=wV hb;unfold wH at h;have e1:n / 10=a.toNat-48:=ω
 have e2:n%10=b.toNat-48:=ω
 have e3:UInt8.ofNat (48+(a.toNat-48))=a:=by rw[show 48+(a.toNat-48)=a.toNat by omega];simp
 have e4:UInt8.ofNat (48+(b.toNat-48))=b:=by rw[show 48+(b.toNat-48)=b.toNat by omega];simp
 unfold ZW;rw[e1,e2,e3,e4]
end Go.Proofs.YtakedkcjplfgeaaGreatDoor.Clk
namespace Go.Proofs.YtakedkcjplfgeaaGreatDoor.Ck
open Go.RowKit
open Num Clk
theorem qBR (h m s n:Int) (ok:Bool) (H:Hid (join h m s=(n,ok))) (w:World):
  Calls prog 258 #[h,m,s] w λe w'=>e=.returned (.tuple #[n,ok])/\w=w':=by
 cases ok with
 |true=>
  obtain⟨⟨⟨a0,a1⟩,⟨b0,b1⟩,⟨c0,c1⟩,hs⟩,hn⟩:=nH H.o;have HN:=qA (show n=h*3600+m*60+s by omega);clear hn;go_enter func258,ntmps258
  go_wp2;go_ret2;exact⟨wI (by rw[HN.o]),rfl⟩
 |false=>
  obtain⟨rfl,hc⟩:=BM H.o;rcases(show h<0∨(0<=h/\48<h)∨(0<=h/\h<=48/\m<0)∨(0<=h/\h<=48/\0<=m/\59<m)∨(0<=h/\h<=48/\0<=m/\m<=59/\s<0)∨(0<=h/\h<=48/\0<=m/\m<=59/\0<=s/\59<s)∨(0<=h/\h<=48/\0<=m/\m<=59/\0<=s/\s<=59/\172800<3600*h+60*m+s) by omega)with
   k|⟨k1,k2⟩|⟨k1,k2,k3⟩|⟨k1,k2,k3,k4⟩|⟨k1,k2,k3,k4,k5⟩|⟨k1,k2,k3,k4,k5,k6⟩|⟨k1,k2,k3,k4,k5,k6,k7⟩
  all_goals clear hc
  all_goals
   go_enter func258,ntmps258
   go_wp2;go_ret2;exact⟨rfl,rfl⟩
theorem qAa (s:Φ) (i:Nat) (a b:UInt8) (h0:i<s.size) (h1:i+1<s.size) (ea:Hid (s[i]'h0=a)) (eb:Hid (s[i+1]'h1=b)) (ha:qV a=true) (hb:qV b=true) (hi:i<=1000) (w:World):
  Calls prog 259 #[s,i] w λe w'=>e=.returned ((wH a b):Z)/\ ∃ m,w'=w.drewN m:=by
 have ba:=wV ha;have bb:=wV hb;rw[<-ea.o]at ba;rw[<-eb.o]at bb;have HP:=qA (show wH a b=(10:Int)*(((s[i]'h0).toNat:Int)-(48:Int))+(((s[i+1]'h1).toNat:Int)-48) by rw[ea.o,eb.o];rfl);clear ha hb;have E0:=qA (IntWalk.i64_in ((i:Int)+1) ω);have E1:=qA (IntWalk.u8_in (((s[i]'h0).toNat:Int)-48) ω);have E2:=qA (IntWalk.i64_in (((s[i]'h0).toNat:Int)-48) ω);have E3:=qA (IntWalk.i64_in ((10:Int)*(((s[i]'h0).toNat:Int)-(48:Int))) ω);have E4:=qA (IntWalk.u8_in (((s[i+1]'h1).toNat:Int)-48) ω);have E5:=qA (IntWalk.i64_in (((s[i+1]'h1).toNat:Int)-48) ω);have E6:=qA (IntWalk.i64_in ((10:Int)*(((s[i]'h0).toNat:Int)-(48:Int))+(((s[i+1]'h1).toNat:Int)-48)) ω);go_enter func259,ntmps259
 go_wp2;have e0:=E0.o;have e1:=E1.o;have e2:=E2.o;have e3:=E3.o;have e4:=E4.o;have e5:=E5.o;have e6:=E6.o;have e7:=λW=>KI s (i:Int) i rfl h0 W
 have e8:=λW=>KI s ((i:Int)+1) (i+1) ω h1 W
 go_quiet (fail)
 clear e0 e1 e2 e3 e4 e5 e6 e7 e8;go_wp2;go_ret;exact⟨qR (by rw[HP.o]),nq,rfl⟩
theorem qBX (pos:Nat):(((pos:Int) != 2)=false/\(pos=2∨pos=5))∨(((pos:Int) != 2)=true/\((pos:Int) != 5)=false/\(pos=2∨pos=5))∨(((pos:Int) != 2)=true/\((pos:Int) != 5)=true/\ ¬ (pos=2∨pos=5)):=by
 rcases Nq pos with⟨h,i⟩|⟨h,k,i⟩|⟨h,k,i⟩
 · exact .inl ⟨by simp only[bne,h];rfl,i⟩
 · exact .inr (.inl ⟨by simp only[bne,h];rfl,by simp only[bne,k];rfl,i⟩)
 exact .inr (.inr ⟨by simp only[bne,h];rfl,by simp only[bne,k];rfl,i⟩)
theorem qBW (s:Φ) (h: ¬ AV s) (w:World):
  Calls prog 206 #[s] w λr w'=>r=.returned (.tuple #["",.int .i64 3])/\Bl w w':=by
 have HS:=qA h;clear h;by_cases h8:(s.size:Int)=8
 ·
  have hs1:8<=s.size:=ω
  have hs2:s.size<=8:=ω
  have h2:2<s.size:=ω
  have h5:5<s.size:=ω
  by_cases d2:((s[2]'h2).toNat:Int)=58
  ·
   by_cases d5:((s[5]'h5).toNat:Int)=58
   ·
    obtain⟨p,hp,hd,hn⟩:=Vh Qo s;have hp8:p<s.size:=by
     rcases Nat.lt_or_ge p s.size with k|k
     · exact k
     exact absurd ⟨ω,λi hi=>hd i hi ω⟩ HS.o
    have hnb:=hn hp8;have hp25: ¬ (p=2∨p=5):=by
     rintro(rfl|rfl)
     · exact bU hnb (.inl rfl) d2
     exact bU hnb (.inr rfl) d5
    have HD:=qA hd;have HN:=qA (Bv hnb hp25);have HP:=qA hp25;clear hd hn hnb hp25;go_enter func206,ntmps206
    go_wp2;go_loop [4] (λi=> ∃ k:Nat,k<=p/\i=k) (λi=>8-(intOf i).toNat)
    case atStart=>exact⟨0,qAD _,rfl⟩
    obtain⟨k,hk,rfl⟩:=hrel;by_cases h1:k<p
    ·
     have hks:k<s.size:=ω
     have hok:=HD.o k hks h1;rcases qBX k with⟨g2,hi⟩|⟨g2,g3,hi⟩|⟨g2,g3,hi⟩
     ·
      clear hok hi;go_wp2;go_round;case rel=>exact⟨k+1,ω,by go_num⟩
      simp[intOf];omega
     ·
      clear hok hi;go_wp2;go_round;case rel=>exact⟨k+1,ω,by go_num⟩
      simp[intOf];omega
     have HO:=qA (Gp hok hi);clear hok hi;go_wp2_with (go_at_call 257;refine(Ag _ true HO _).mono ?_;rintro e w1 ⟨rfl,rfl⟩)
     go_round;case rel=>exact⟨k+1,ω,by go_num⟩
     simp[intOf];omega
    obtain rfl:k=p:=ω
    rcases qBX k with⟨g2,hi⟩|⟨g2,g3,hi⟩|⟨g2,g3,hi⟩
    · exact absurd hi HP.o
    · exact absurd hi HP.o
    clear hi;go_wp2_with (go_at_call 257;refine(Ag _ false HN _).mono ?_;rintro e w1 ⟨rfl,rfl⟩)
    go_ret2;exact⟨rfl,qB _⟩
   go_enter func206,ntmps206
   go_wp2;go_ret2;exact⟨rfl,qB _⟩
  go_enter func206,ntmps206
  go_wp2;go_ret2;exact⟨rfl,qB _⟩
 go_enter func206,ntmps206
 go_wp2;go_ret2;exact⟨rfl,qB _⟩
theorem qAo (s:Φ) (a b c d e f:UInt8) (n:Int) (ok:Bool) (hl:s.data.toList=[a,b,58,c,d,58,e,f]) (ha:qV a=true) (hb:qV b=true) (hc:qV c=true) (hd:qV d=true) (he:qV e=true) (hf:qV f=true)
  (hj:join (wH a b) (wH c d) (wH e f)=(n,ok)) (w:World):
  Calls prog 206 #[s] w λr w'=>r=.returned (.tuple #[n,.int .i64 (if ok then 0 else 10)])/\Bl w w':=by
 have HS:=qA ((aJ s).2 ⟨a,b,c,d,e,f,hl,ha,hb,hc,hd,he,hf⟩);have h8:s.size=8:=HS.o.1;have hs1:8<=s.size:=ω
 have hs2:s.size<=8:=ω
 have h0:0<s.size:=ω
 have h1:1<s.size:=ω
 have h2:2<s.size:=ω
 have h3:3<s.size:=ω
 have h4:4<s.size:=ω
 have h5:5<s.size:=ω
 have h6:6<s.size:=ω
 have h7:7<s.size:=ω
 have d2:((s[2]'h2).toNat:Int)=58:=nY (HS.o.2 2 h2) (.inl rfl);have d5:((s[5]'h5).toNat:Int)=58:=nY (HS.o.2 5 h5) (.inr rfl);have E0:Hid (s[0]'h0=a):=by show _=_;rw[<-qw s 0 h0];simp[hl]
 have E1:Hid (s[1]'h1=b):=by show _=_;rw[<-qw s 1 h1];simp[hl]
 have E3:Hid (s[3]'h3=c):=by show _=_;rw[<-qw s 3 h3];simp[hl]
 have E4:Hid (s[4]'h4=d):=by show _=_;rw[<-qw s 4 h4];simp[hl]
 have E6:Hid (s[6]'h6=e):=by show _=_;rw[<-qw s 6 h6];simp[hl]
 have E7:Hid (s[7]'h7=f):=by show _=_;rw[<-qw s 7 h7];simp[hl]
 have HJ:=qA hj;have D:=qA (And.intro ha (And.intro hb (And.intro hc (And.intro hd (And.intro he hf)))));have hio:ok=true∨ok=false:=by cases ok<;>simp
 clear hl hj ha hb hc hd he hf h8;rcases hio with rfl|rfl
 ·
  skip
  go_enter func206,ntmps206
  go_wp2;go_loop [4] (λi=> ∃ k:Nat,k<=8/\i=k) (λi=>8-(intOf i).toNat)
  case atStart=>exact⟨0,qAD _,rfl⟩
  obtain⟨k,hk,rfl⟩:=hrel;by_cases hk8:k<8
  ·
   have hks:k<s.size:=ω
   have hok:=HS.o.2 k hks;rcases qBX k with⟨g2,hi⟩|⟨g2,g3,hi⟩|⟨g2,g3,hi⟩
   ·
    clear hok hi;go_wp2;go_round;case rel=>exact⟨k+1,ω,by go_num⟩
    simp[intOf];omega
   ·
    clear hok hi;go_wp2;go_round;case rel=>exact⟨k+1,ω,by go_num⟩
    simp[intOf];omega
   have HO:=qA (Gp hok hi);clear hok hi;go_wp2_with (go_at_call 257;refine(Ag _ true HO _).mono ?_;rintro e w1 ⟨rfl,rfl⟩)
   go_round;case rel=>exact⟨k+1,ω,by go_num⟩
   simp[intOf];omega
  go_wp2_with fail;refine(qAa s 0 a b h0 h1 E0 E1 D.o.1 D.o.2.1 ω _).mono ?_;rintro e w1 ⟨rfl,m1,rfl⟩;go_wp2_with fail;refine(qAa s 3 c d h3 h4 E3 E4 D.o.2.2.1 D.o.2.2.2.1 ω _).mono ?_;rintro e w1 ⟨rfl,m2,rfl⟩;go_wp2_with fail;refine(qAa s 6 e f h6 h7 E6 E7 D.o.2.2.2.2.1 D.o.2.2.2.2.2 ω _).mono ?_;rintro e w1 ⟨rfl,m3,rfl⟩;go_wp2_with fail;refine(qBR _ _ _ _ _ HJ _).mono ?_;rintro e w1 ⟨rfl,rfl⟩;go_wp2;go_ret2;exact⟨rfl,qM (qB _) _⟩
 obtain⟨rfl,_⟩:=BM HJ.o;go_enter func206,ntmps206
 go_wp2;go_loop [4] (λi=> ∃ k:Nat,k<=8/\i=k) (λi=>8-(intOf i).toNat)
 case atStart=>exact⟨0,qAD _,rfl⟩
 obtain⟨k,hk,rfl⟩:=hrel;by_cases hk8:k<8
 ·
  have hks:k<s.size:=ω
  have hok:=HS.o.2 k hks;rcases qBX k with⟨g2,hi⟩|⟨g2,g3,hi⟩|⟨g2,g3,hi⟩
  ·
   clear hok hi;go_wp2;go_round;case rel=>exact⟨k+1,ω,by go_num⟩
   simp[intOf];omega
  ·
   clear hok hi;go_wp2;go_round;case rel=>exact⟨k+1,ω,by go_num⟩
   simp[intOf];omega
  have HO:=qA (Gp hok hi);clear hok hi;go_wp2_with (go_at_call 257;refine(Ag _ true HO _).mono ?_;rintro e w1 ⟨rfl,rfl⟩)
  go_round;case rel=>exact⟨k+1,ω,by go_num⟩
  simp[intOf];omega
 go_wp2_with fail;refine(qAa s 0 a b h0 h1 E0 E1 D.o.1 D.o.2.1 ω _).mono ?_;rintro e w1 ⟨rfl,m1,rfl⟩;go_wp2_with fail;refine(qAa s 3 c d h3 h4 E3 E4 D.o.2.2.1 D.o.2.2.2.1 ω _).mono ?_;rintro e w1 ⟨rfl,m2,rfl⟩;go_wp2_with fail;refine(qAa s 6 e f h6 h7 E6 E7 D.o.2.2.2.2.1 D.o.2.2.2.2.2 ω _).mono ?_;rintro e w1 ⟨rfl,m3,rfl⟩;go_wp2_with fail;refine(qBR _ _ _ _ _ HJ _).mono ?_;rintro e w1 ⟨rfl,rfl⟩;go_wp2;go_ret2;exact⟨rfl,qM (qB _) _⟩
theorem qAR (s:Φ) (n e:Int) (H:Time s.data.toList n e) (w:World):
  Calls prog 206 #[s] w λr w'=>r=.returned (.tuple #[n,e])/\Bl w w':=by
 generalize hl:s.data.toList=l at H
 cases H with
 |bad h=>exact qBW s (by rw[aJ,hl];exact h) w
 |out ha hb hc hd he hf h=>exact qAo s _ _ _ _ _ _ _ _ hl ha hb hc hd he hf h w
 |ok _ ha hb hc hd he hf h=>exact qAo s _ _ _ _ _ _ _ _ hl ha hb hc hd he hf h w
theorem qAW (s:Φ) (n:Int) (ok:Bool) (H:Hid (wF s.data.toList=(n,ok))) (w:World):
  Calls prog 262 #[s] w λe w'=>e=.returned (ok:Z)/\w=w':=by
 rcases IY H.o with⟨x,y,ht,hn,rfl⟩|⟨ht,rfl,rfl⟩
 ·
  obtain⟨h2,ex,ey⟩:=Ro ht;have h0:0<s.size:=ω
  have h1:1<s.size:=ω
  have b6:((s[0]'h0).toNat:Int)<54:=by rw[ex h0];have:=ht.2.2.2;omega
  have D0:Hid (qV (s[0]'h0)=true):=by show _=_;rw[ex h0];exact ht.2.1
  have D1:Hid (qV (s[1]'h1)=true):=by show _=_;rw[ey h1];exact ht.2.2.1
  have hs2:(s.size:Int)=2:=ω
  clear H ht hn ex ey h2;go_enter func262,ntmps262
  go_wp2_with fail;refine(Ag _ true D0 _).mono ?_;rintro e w1 ⟨rfl,rfl⟩;go_wp2_with fail;refine(Ag _ true D1 _).mono ?_;rintro e w1 ⟨rfl,rfl⟩;go_wp2;go_ret;exact⟨rfl,rfl⟩
 clear H;by_cases h2:s.size=2
 ·
  have h0:0<s.size:=ω
  have h1:1<s.size:=ω
  have hs2:(s.size:Int)=2:=ω
  have hc:=P7 ht h2 h0 h1;clear ht h2;cases h5:qV (s[0]'h0)with
  |false=>
   have D0:=qA h5;clear h5 hc;go_enter func262,ntmps262
   go_wp2_with fail;refine(Ag _ false D0 _).mono ?_;rintro e w1 ⟨rfl,rfl⟩;go_wp2;go_ret;exact⟨rfl,rfl⟩
  |true=>
   have b0:=wV h5;have D0:=qA h5;clear h5;cases h6:qV (s[1]'h1)with
   |false=>
    have D1:=qA h6;clear h6 hc;go_enter func262,ntmps262
    go_wp2_with fail;refine(Ag _ true D0 _).mono ?_;rintro e w1 ⟨rfl,rfl⟩;go_wp2_with fail;refine(Ag _ false D1 _).mono ?_;rintro e w1 ⟨rfl,rfl⟩;go_wp2;go_ret;exact⟨rfl,rfl⟩
   |true=>
    have b1:=wV h6;have D1:=qA h6;have b6: ¬ ((s[0]'h0).toNat:Int)<54:=ω
    have b7:decide (((s[0]'h0).toNat:Int)<54)=false:=decide_eq_false b6;clear h6 hc b0 b1;go_enter func262,ntmps262
    go_wp2_with fail;refine(Ag _ true D0 _).mono ?_;rintro e w1 ⟨rfl,rfl⟩;go_wp2_with fail;refine(Ag _ true D1 _).mono ?_;rintro e w1 ⟨rfl,rfl⟩;go_wp2;go_ret;exact⟨rfl,rfl⟩
 have hs2: ¬ (s.size:Int)=2:=ω
 have hs3:((s.size:Int)==2)=false:=by simpa using hs2
 clear ht h2;go_enter func262,ntmps262
 go_wp2;go_ret;exact⟨rfl,rfl⟩
theorem qAb (s:Φ) (hd:zC s.data.toList=true) (hs:s.size<=maxLen) (w:World):
  Calls prog 261 #[s] w λe w'=>e=.returned (.int .i64 (if s.size<=6 then(val s.data.toList:Int)else 1000000))/\w=w':=by
 unfold maxLen at hs;have HD:=qA ((yt s).1 hd);clear hd;by_cases h6:s.size<=6
 ·
  have h6i:(s.size:Int)<=6:=ω
  rw[U6 h6];clear h6;go_enter func261,ntmps261
  go_wp2;go_loop [3,4] (λn i=> ∃ k v:Nat,k<=s.size/\i=k/\n=v/\v+1<=10 ^ k/\Hid (val (s.data.toList.take k)=v)) (λ_ i=>s.size-(intOf i).toNat)
  case atStart=>exact⟨0,0,ω,rfl,rfl,ω,rfl⟩
  obtain⟨k,v,hk,rfl,rfl,hv,HV⟩:=hrel;have hv6:v<=1000000:=by
   have:10 ^ k<=10 ^ 6:=Nat.pow_le_pow_right δ ω;omega
  have HVB:=qA hv;clear hv;by_cases hlt:k<s.size
  ·
   have hb:=wV (HD.o k hlt);have HS:=qA (Kq s k hlt);go_wp2;go_round;case rel=>exact⟨k+1,10*v+((s[k]'hlt).toNat-48),ω,by go_num,by go_num,by have:=HVB.o;rw[Nat.pow_succ];omega,by rw[<-HV.o];exact HS.o⟩
   simp[intOf];omega
  have HE:=qA (show v=val s.data.toList by rw[<-HV.o,U9 τ]);go_wp2;go_ret;exact⟨qR (by rw[HE.o]),rfl⟩
 have h6i:(6:Int)<(s.size:Int):=ω
 rw[U5 h6];clear h6;go_enter func261,ntmps261
 go_wp2;go_ret;exact⟨rfl,rfl⟩
end Go.Proofs.YtakedkcjplfgeaaGreatDoor.Ck
namespace Go.Proofs.YtakedkcjplfgeaaGreatDoor.Ck
open Num Clk Tt
theorem mM (s:Φ) (i j:Nat):(s.extract i j).data.toList=(s.data.toList.take j).drop i:=by
 rw[ByteArray.data_extract,Array.toList_extract,List.extract_eq_take_drop,List.drop_take]
theorem ry {c:UInt8} {a b:Ψ} (h:c∉a):Lib.cut (a++c::b) [c]=(a,b,true):=by
 unfold Lib.cut;rw[GL c a b h,U6 ω];simp
theorem Ae {c:UInt8} {l:Ψ} (h:c∉l):Lib.cut l [c]=(l,[],false):=by
 unfold Lib.cut;rw[Cm c l h,U5 δ]
theorem qBb {c:UInt8} {l a b:Ψ} (h:Lib.cut l [c]=(a,b,true)):l=a++c::b:=by
 by_cases k:c∈l
 ·
  obtain⟨x,y,rfl,hx⟩:=List.eq_append_cons_of_mem k;rw[ry hx]at h;rw[qAF,qAF]at h;rw[h.1,h.2.1]
 rw[Ae k]at h;simp at h
theorem ik (u:Ψ):Lib.trimSuffix (u++[115]) [115]=u:=by
 unfold Lib.trimSuffix;rw[U6 (iZ u)];simp
theorem qCe {l:Ψ} (h:Lib.hasSuffix l [115]=true):l=Lib.trimSuffix l [115]++[115]:=by
 unfold Lib.hasSuffix at h;rw[List.isSuffixOf_iff_suffix]at h;obtain⟨u,rfl⟩:=h;rw[ik]
def qBz:List Ψ->Ψ
 |[a]=>a++[115]
 |[a,b]=>a++109::(b++[115])
 |[a,b,c]=>a++104::(b++109::(c++[115]))
 |_=>[]
theorem qAr {l:Ψ} {ls:List Ψ} (h:yL l=some ls):l=qBz ls:=by
 unfold yL at h;by_cases h1:Lib.hasSuffix l [115]=true
 ·
  rw[U6 h1]at h;have hl:=qCe h1;generalize Lib.trimSuffix l [115]=u at h hl
  rcases hc:Lib.cut u [109]with⟨a,b,f⟩
  rw[hc]at h;cases f with
  |false=>
   rw[U5 σ,qAA]at h;subst h;exact hl
  |true=>
   have hu:=qBb hc;rw[U6 rfl]at h;dsimp only at h
   rcases hc':Lib.cut a [104]with⟨a',b',f'⟩
   rw[hc']at h;cases f' with
   |false=>
    rw[U5 σ,qAA]at h;subst h;rw[hl,hu];simp[qBz]
   |true=>
    have ha:=qBb hc';rw[U6 rfl,qAA]at h;subst h;rw[hl,hu,ha];simp[qBz]
 rw[U5 h1]at h;simp at h
theorem qA1 {l:Ψ} {n:Int} (h:wF l=(n,true)): ∃ k:Nat,n=k/\k<60/\l=ZW k:=by
 unfold wF at h;split at h
 ·
  split at h
  ·
   rename_i x y hc;obtain⟨h1,h2,h3⟩:=hc;obtain⟨rfl,_⟩:=qAE h;have b1:=wV h1;have b2:=wV h2;refine⟨(wH x y).toNat, ?_, ?_, ?_⟩
   · unfold wH;omega
   · unfold wH;omega
   exact(qCM h1 h2 _ (by unfold wH;omega)).symm
  simp at h
 simp at h
theorem qB1 {l:Ψ} {v:Int} (h:xB l=(v,true)): ∃ k:Nat,v=((min 1000000 k:Nat):Int)/\l=qL k:=by
 unfold xB at h;split at h
 ·
  rename_i hc;obtain⟨rfl,_⟩:=qAE h;exact⟨val l,rfl,(qAm hc).symm⟩
 simp at h
open Go.RowKit
def qAL (l:Ψ):Int:=if l.length<=6 then(val l:Int)else 1000000
theorem qCi (l:Ψ) (h:zC l=true): ∀ m:Nat,l.foldl (λm c=>10*m+(c.toNat-48)) m+1<=(m+1)*10 ^ l.length:=by
 induction l with
 |nil=>intro m;simp
 |cons c l ih=>
  intro m;have hc:qV c=true/\zC l=true:=by simpa[zC]using h
  have h9:=(jg c).1 hc.1;have k:=ih hc.2 (10*m+(c.toNat-48));have k2:(10*m+(c.toNat-48)+1)*10 ^ l.length<=(10*(m+1))*10 ^ l.length:=Nat.mul_le_mul_right _ ω;rw[List.foldl_cons,U7,Nat.pow_succ,show(m+1)*(10 ^ l.length*10)=(10*(m+1))*10 ^ l.length by rw[Nat.mul_comm (10 ^ l.length) 10,<-Nat.mul_assoc,Nat.mul_comm (m+1) 10]];omega
theorem qC2 (l:Ψ) (h:zC l=true):val l+1<=10 ^ l.length:=by
 have:=qCi l h 0;unfold val;omega
theorem qBY (l:Ψ) (h:zC l=true):0<=qAL l/\qAL l<=1000000:=by
 unfold qAL;split
 ·
  rename_i h6;have:=qC2 l h;have k:10 ^ l.length<=10 ^ 6:=Nat.pow_le_pow_right δ h6;omega
 exact⟨δ,δ⟩
def qAn (l:Ψ) (sec:Int):Int×Int:=
 if zN l=true/\0<qAL l/\qAL l<60 then(60*qAL l+sec,0)
 else if 4<=l.length/\l.getD (l.length-3) 0=104/\(wF (l.drop (l.length-2))).2=true/\zN (l.take (l.length-3))=true/\ ¬ qAL (l.take (l.length-3))=0 then
  (if 3600*qAL (l.take (l.length-3))+60*qAL (l.drop (l.length-2))+sec<=359999 then(3600*qAL (l.take (l.length-3))+60*qAL (l.drop (l.length-2))+sec,0)else(0,2))
 else(0,3)
def qAz (l:Ψ):Int×Int:=
 if 2<=l.length/\l.getD (l.length-1) 0=115 then
  (if zN (l.take (l.length-1))=true/\qAL (l.take (l.length-1))<60 then(qAL (l.take (l.length-1)),0)
  else if 5<=l.length/\l.getD (l.length-4) 0=109/\(wF ((l.take (l.length-1)).drop (l.length-3))).2=true then
   qAn (l.take (l.length-4)) (qAL ((l.take (l.length-1)).drop (l.length-3)))
  else(0,3))
 else(0,3)
theorem qAV (s:Φ) (v:Int) (hd:zC s.data.toList=true) (H:Hid (qAL s.data.toList=v)) (hs:s.size<=maxLen) (w:World):
  Calls prog 261 #[s] w λe w'=>e=.returned (v:Z)/\w=w':=
 (qAb s hd hs w).mono λ_ _ ⟨he,hw⟩=>⟨by rw[he,<-H.o];unfold qAL;rw[show s.data.toList.length=s.size by simp],hw⟩
theorem qA0 (s:Φ) (j:Nat):(s.extract 0 j).data.toList=s.data.toList.take j:=by rw[mM];rfl
theorem qBA (s:Φ) (i:Nat) (h:i<s.size):s.data.toList.getD i 0=s[i]'h:=by
 rw[<-qw s i h];simp[List.getD,h]
structure qCu (s t:Φ) (v sn sec:Int):Prop where
 hs:s.size<=131072
 hi5:(5:Int)<=s.size
 ht:s.extract 0 (s.size-4)=t
 hts:t.size+4=s.size
 hp:s.size-1<s.size
 hp4:s.size-4<s.size
 q:(((s[s.size-1]'hp).toNat:Int) != 115)=false
 q4:(((s[s.size-4]'hp4).toNat:Int) != 109)=false
 hus:(s.extract 0 (s.size-1)).size<=maxLen
 hw:Hid (zN (s.extract 0 (s.size-1)).data.toList=false)∨Hid (zN (s.extract 0 (s.size-1)).data.toList=true)/\Hid (qAL (s.extract 0 (s.size-1)).data.toList=v)/\(60:Int)<=v
 HF:Hid (wF (s.extract (s.size-3) (s.size-1)).data.toList=(sn,true))
 HD:Hid (zC (s.extract (s.size-3) (s.size-1)).data.toList=true)
 HS:Hid (qAL (s.extract (s.size-3) (s.size-1)).data.toList=sec)
 hss:(s.extract (s.size-3) (s.size-1)).size<=maxLen
 hsec:0<=sec/\sec<=1000000
theorem cO {l:Ψ} (h:zN l=true):zC l=true:=by
 unfold zN at h;rw[Bool.and_eq_true,Bool.and_eq_true]at h;exact h.1.1
theorem qCx (s t:Φ) (v sn sec vt:Int) (L:qCu s t v sn sec) (HCt:Hid (zN t.data.toList=true)) (HVt:Hid (qAL t.data.toList=vt)) (h0:0<vt) (h6:vt<60) (w:World):
  Calls prog 207 #[s] w λee w'=>ee=.returned (.tuple #[.int .i64 (60*vt+sec),""])/\Bl w w':=by
 obtain⟨hs,hi5,ht,hts,hp,hp4,q,q4,hus,hw,HF,HD,HS,hss,hsec⟩:=L;have q2:decide ((s.size:Int)<2)=false:=decide_eq_false ω;have q5:decide ((s.size:Int)<5)=false:=decide_eq_false ω;have i1:=(IntWalk.i64_in ((s.size:Int)-1) ω);have i3:=(IntWalk.i64_in ((s.size:Int)-3) ω);have i4:=(IntWalk.i64_in ((s.size:Int)-4) ω);go_enter func207,ntmps207
 go_upto_region 4 with fail
 go_cut [32] (λs32 wx=>s32=false/\Bl w wx)
 case first=>
  rcases hw with HC|⟨HC,HV,h60⟩
  ·
   go_wp2_with fail;refine(VG _ false HC hus _).mono ?_;rintro ee w1 ⟨rfl,rfl⟩;go_wp2;go_meet
   exact⟨rfl,qB _⟩
  go_wp2_with fail;refine(VG _ true HC hus _).mono ?_;rintro ee w1 ⟨rfl,rfl⟩;go_wp2_with fail;refine(qAV _ _ (cO HC.o) HV hus _).mono ?_;rintro ee w1 ⟨rfl,rfl⟩;have q60:decide (v<60)=false:=decide_eq_false ω;go_wp2;go_meet
  exact⟨rfl,qB _⟩
 obtain⟨rfl,hb1⟩:=hcut;go_wp2_with fail;refine(qAW _ sn true HF _).mono ?_;rintro ee w1 ⟨rfl,rfl⟩;go_wp2_with fail;go_quiet ((first
  |(go_at_call 261;with_reducible exact Calls.quiet_of_same ((qAV _ _ HD.o HS hss _).mono λ_ _ ⟨he,hw⟩=>⟨he,hw.symm⟩))))
 rw[ht];have htm:t.size<=maxLen:=ζ
 have e1:=(IntWalk.i64_in (60*vt) ω);have e2:=(IntWalk.i64_in (60*vt+sec) ω);have HDt:=qA (cO HCt.o);go_wp2_with fail;refine(VG _ true HCt htm _).mono ?_;rintro ee w1 ⟨rfl,rfl⟩;go_wp2_with fail;refine(qAV _ vt HDt.o HVt htm _).mono ?_;rintro ee w1 ⟨rfl,rfl⟩;go_wp2_with fail;refine(qAV _ vt HDt.o HVt htm _).mono ?_;rintro ee w1 ⟨rfl,rfl⟩;go_wp2_with fail;refine(qAV _ vt HDt.o HVt htm _).mono ?_;rintro ee w1 ⟨rfl,rfl⟩;go_wp2;go_ret2;exact⟨rfl,qM hb1 _⟩
def qC6 (t:Φ) (vt:Int):Prop:=
 Hid (zN t.data.toList=false)∨Hid (zN t.data.toList=true)/\Hid (qAL t.data.toList=vt)/\vt<=0∨Hid (zN t.data.toList=true)/\Hid (qAL t.data.toList=vt)/\(0:Int)<vt/\(60:Int)<=vt
theorem ZX {x:UInt8} {n:Nat} (hn:n<256):x=UInt8.ofNat n↔(x.toNat:Int)=n:=by
 constructor
 ·
  rintro rfl;rw[UInt8.toNat_ofNat'];omega
 intro k;apply UInt8.toNat.inj
 rw[UInt8.toNat_ofNat'];omega
theorem qCy (s t:Φ) (v sn sec vt r e:Int) (L:qCu s t v sn sec) (hx:qC6 t vt) (H:Hid ((if 4<=t.data.toList.length/\t.data.toList.getD (t.data.toList.length-3) 0=104/\(wF (t.data.toList.drop (t.data.toList.length-2))).2=true/\zN (t.data.toList.take (t.data.toList.length-3))=true/\ ¬ qAL (t.data.toList.take (t.data.toList.length-3))=0 then
  (if 3600*qAL (t.data.toList.take (t.data.toList.length-3))+60*qAL (t.data.toList.drop (t.data.toList.length-2))+sec<=359999 then(3600*qAL (t.data.toList.take (t.data.toList.length-3))+60*qAL (t.data.toList.drop (t.data.toList.length-2))+sec,0)else(0,2))
 else(0,3))=(r,e))) (w:World):
  Calls prog 207 #[s] w λee w'=>ee=.returned (.tuple #[r,e])/\Bl w w':=by
 obtain⟨hs,hi5,ht,hts,hp,hp4,q,q4,hus,hw,HF,HD,HS,hss,hsec⟩:=L;have q2:decide ((s.size:Int)<2)=false:=decide_eq_false ω;have q5:decide ((s.size:Int)<5)=false:=decide_eq_false ω;have i1:=(IntWalk.i64_in ((s.size:Int)-1) ω);have i3:=(IntWalk.i64_in ((s.size:Int)-3) ω);have i4:=(IntWalk.i64_in ((s.size:Int)-4) ω);have htm:t.size<=maxLen:=ζ
 go_enter func207,ntmps207
 go_upto_region 4 with fail
 go_cut [32] (λs32 wx=>s32=false/\Bl w wx)
 case first=>
  rcases hw with HC|⟨HC,HV,h60⟩
  ·
   go_wp2_with fail;refine(VG _ false HC hus _).mono ?_;rintro ee w1 ⟨rfl,rfl⟩;go_wp2;go_meet
   exact⟨rfl,qB _⟩
  go_wp2_with fail;refine(VG _ true HC hus _).mono ?_;rintro ee w1 ⟨rfl,rfl⟩;go_wp2_with fail;refine(qAV _ _ (cO HC.o) HV hus _).mono ?_;rintro ee w1 ⟨rfl,rfl⟩;have q60:decide (v<60)=false:=decide_eq_false ω;go_wp2;go_meet
  exact⟨rfl,qB _⟩
 obtain⟨rfl,hb1⟩:=hcut;go_wp2_with fail;refine(qAW _ sn true HF _).mono ?_;rintro ee w1 ⟨rfl,rfl⟩;go_wp2_with fail;go_quiet ((first
  |(go_at_call 261;with_reducible exact Calls.quiet_of_same ((qAV _ _ HD.o HS hss _).mono λ_ _ ⟨he,hw⟩=>⟨he,hw.symm⟩))))
 rw[ht];go_upto_region 9 with fail
 go_cut [79] (λs79 wx=>s79=false/\Bl w wx)
 case first=>
  rcases hx with HCt|⟨HCt,HVt,h0⟩|⟨HCt,HVt,h0,h6⟩
  ·
   go_wp2_with fail;refine(VG _ false HCt htm _).mono ?_;rintro ee w1 ⟨rfl,rfl⟩;go_wp2;go_meet
   exact⟨rfl,qM hb1 _⟩
  ·
   go_wp2_with fail;refine(VG _ true HCt htm _).mono ?_;rintro ee w1 ⟨rfl,rfl⟩;go_wp2_with fail;refine(qAV _ vt (cO HCt.o) HVt htm _).mono ?_;rintro ee w1 ⟨rfl,rfl⟩;go_wp2;go_meet
   exact⟨rfl,qM hb1 _⟩
  go_wp2_with fail;refine(VG _ true HCt htm _).mono ?_;rintro ee w1 ⟨rfl,rfl⟩;go_wp2_with fail;refine(qAV _ vt (cO HCt.o) HVt htm _).mono ?_;rintro ee w1 ⟨rfl,rfl⟩;go_wp2_with fail;refine(qAV _ vt (cO HCt.o) HVt htm _).mono ?_;rintro ee w1 ⟨rfl,rfl⟩;have q60:decide (vt<60)=false:=decide_eq_false ω;go_wp2;go_meet
  exact⟨rfl,qM hb1 _⟩
 obtain⟨rfl,hb2⟩:=hcut;have h:=H.o;have hl:t.data.toList.length=t.size:=σ
 rw[hl]at h;by_cases h4:t.size<4
 ·
  rw[U5 ω]at h;obtain⟨rfl,rfl⟩:=qAE h;have q6:(t.size:Int)<4:=ω
  clear h H hl;go_wp2;go_ret2;exact⟨rfl,hb2⟩
 have hi4:(4:Int)<=t.size:=ω
 have p3:t.size-3<t.size:=ω
 have hg:=qBA t (t.size-3) p3;have q6:decide ((t.size:Int)<4)=false:=decide_eq_false ω;have j3:=(IntWalk.i64_in ((t.size:Int)-3) ω);have j2:=(IntWalk.i64_in ((t.size:Int)-2) ω);by_cases h104:t[t.size-3]'p3=UInt8.ofNat 104
 case neg=>
  rw[hg,U5 (λk=>h104 k.2.1)]at h;obtain⟨rfl,rfl⟩:=qAE h;rw[ZX δ]at h104;have q7:(((t[t.size-3]'p3).toNat:Int) != 104)=true:=by rw[bne_iff_ne];exact h104
  clear h H h104 hg hl;go_wp2;go_ret2;exact⟨rfl,hb2⟩
 obtain⟨fn,fok,hfo⟩: ∃ n ok,wF (t.data.toList.drop (t.size-2))=(n,ok):=⟨_,_,rfl⟩;have hdr:(t.extract (t.size-2) t.size).data.toList=t.data.toList.drop (t.size-2):=by rw[mM,U9 (by rw[hl];exact U3 _)]
 have htk:(t.extract 0 (t.size-3)).data.toList=t.data.toList.take (t.size-3):=qA0 _ _;have HG:Hid (wF (t.extract (t.size-2) t.size).data.toList=(fn,fok)):=by show _=_;rw[hdr];exact hfo
 have hcs:(t.extract 0 (t.size-3)).size<=maxLen:=by unfold maxLen;simp;omega
 have hds:(t.extract (t.size-2) t.size).size<=maxLen:=by unfold maxLen;simp;omega
 have e104:=h104;rw[ZX δ]at h104;have q7:(((t[t.size-3]'p3).toNat:Int) != 104)=false:=by rw[bne_eq_false_iff_eq];exact h104
 clear h104;cases fok with
 |false=>
  rw[U5 (by rw[hfo];simp)]at h;obtain⟨rfl,rfl⟩:=qAE h;clear h H e104 hg hl hfo hdr htk;go_wp2_with fail;refine(qAW _ fn false HG _).mono ?_;rintro ee w1 ⟨rfl,rfl⟩;go_wp2;go_ret2;exact⟨rfl,hb2⟩
 |true=>
  cases hcn:zN (t.data.toList.take (t.size-3))with
  |false=>
   rw[U5 (by rw[hcn];simp)]at h;obtain⟨rfl,rfl⟩:=qAE h;have HK:Hid (zN (t.extract 0 (t.size-3)).data.toList=false):=by show _=_;rw[htk];exact hcn
   clear h H e104 hg hl hfo hdr htk hcn;go_wp2_with fail;refine(qAW _ fn true HG _).mono ?_;rintro ee w1 ⟨rfl,rfl⟩;go_wp2_with fail;refine(VG _ false HK hcs _).mono ?_;rintro ee w1 ⟨rfl,rfl⟩;go_wp2;go_ret2;exact⟨rfl,hb2⟩
  |true=>
   have HK:Hid (zN (t.extract 0 (t.size-3)).data.toList=true):=by show _=_;rw[htk];exact hcn
   obtain⟨hv,hhv⟩:=ε (qAL (t.data.toList.take (t.size-3)));have HV2:Hid (qAL (t.extract 0 (t.size-3)).data.toList=hv):=by show _=_;rw[htk];exact hhv
   have hvb:=qBY _ (cO hcn);rw[hhv]at h hvb;obtain⟨hv0,hv1⟩:=hvb;by_cases hz:hv=0
   ·
    subst hz;rw[U5 σ]at h;obtain⟨rfl,rfl⟩:=qAE h;clear h H e104 hg hl hfo hdr htk hcn hhv;go_wp2_with fail;refine(qAW _ fn true HG _).mono ?_;rintro ee w1 ⟨rfl,rfl⟩;go_wp2_with fail;refine(VG _ true HK hcs _).mono ?_;rintro ee w1 ⟨rfl,rfl⟩;go_wp2_with fail;refine(qAV _ 0 (cO HK.o) HV2 hcs _).mono ?_;rintro ee w1 ⟨rfl,rfl⟩;go_wp2;go_ret2;exact⟨rfl,hb2⟩
   rw[U6 ⟨ω,by rw[hg];exact e104,by rw[hfo],hcn,hz⟩]at h;obtain⟨k,_,k60,hk⟩:=qA1 hfo;have hmd:zC (t.data.toList.drop (t.size-2))=true:=by rw[hk];exact NJ k ω
   have HMD:Hid (zC (t.extract (t.size-2) t.size).data.toList=true):=by show _=_;rw[hdr];exact hmd
   obtain⟨mv,hmv⟩:=ε (qAL (t.data.toList.drop (t.size-2)));have HM2:Hid (qAL (t.extract (t.size-2) t.size).data.toList=mv):=by show _=_;rw[hdr];exact hmv
   have hmb:=qBY _ hmd;rw[hmv]at h hmb;obtain⟨mv0,mv1⟩:=hmb;obtain⟨sec0,sec1⟩:=hsec;have qz:(hv==0)=false:=by rw[U0];exact hz
   have E1:=(IntWalk.i64_in (3600*hv) ω);have E2:=(IntWalk.i64_in (60*mv) ω);have E3:=(IntWalk.i64_in (3600*hv+60*mv) ω);have E4:=(IntWalk.i64_in (3600*hv+60*mv+sec) ω);have i3:((t.size:Int)-3)<=t.size:=ω
   have i3':0<=((t.size:Int)-3):=ω
   have i2:((t.size:Int)-2)<=t.size:=ω
   have i2':0<=((t.size:Int)-2):=ω
   clear H e104 hg hl hfo hdr htk hcn hhv hmv hmd hk k60 hz;go_wp2_with fail;refine(qAW _ fn true HG _).mono ?_;rintro ee w1 ⟨rfl,rfl⟩;go_wp2_with fail;refine(VG _ true HK hcs _).mono ?_;rintro ee w1 ⟨rfl,rfl⟩;go_wp2_with fail;refine(qAV _ hv (cO HK.o) HV2 hcs _).mono ?_;rintro ee w1 ⟨rfl,rfl⟩;go_wp2_with fail;go_quiet ((first
    |(go_at_call 261;with_reducible exact Calls.quiet_of_same ((qAV _ _ (cO HK.o) HV2 hcs _).mono λ_ _ ⟨he,hw⟩=>⟨he,hw.symm⟩))
    |(go_at_call 261;with_reducible exact Calls.quiet_of_same ((qAV _ _ HMD.o HM2 hds _).mono λ_ _ ⟨he,hw⟩=>⟨he,hw.symm⟩))))
   by_cases htot:3600*hv+60*mv+sec<=359999
   ·
    rw[U6 htot]at h;obtain⟨rfl,rfl⟩:=qAE h;have q9:decide (359999<3600*hv+60*mv+sec)=false:=decide_eq_false ω;clear h htot;go_wp2;go_ret2;exact⟨rfl,qM hb2 _⟩
   rw[U5 htot]at h;obtain⟨rfl,rfl⟩:=qAE h;have q9:decide (359999<3600*hv+60*mv+sec)=true:=decide_eq_true ω;clear h htot;go_wp2;go_ret2;exact⟨rfl,qM hb2 _⟩
theorem qCF (s t:Φ) (v sn sec r e:Int) (L:qCu s t v sn sec) (h:qAn t.data.toList sec=(r,e)) (w:World):
  Calls prog 207 #[s] w λee w'=>ee=.returned (.tuple #[r,e])/\Bl w w':=by
 unfold qAn at h;by_cases hc:zN t.data.toList=true/\0<qAL t.data.toList/\qAL t.data.toList<60
 ·
  rw[U6 hc]at h;obtain⟨rfl,rfl⟩:=qAE h;exact qCx s t v sn sec _ L hc.1 rfl hc.2.1 hc.2.2 w
 rw[U5 hc]at h;refine qCy s t v sn sec (qAL t.data.toList) r e L ?_ h w;cases hb:zN t.data.toList with
 |false=>exact .inl hb
 |true=>
  by_cases h0:qAL t.data.toList<=0
  · exact .inr (.inl ⟨hb,rfl,h0⟩)
  exact .inr (.inr ⟨hb,rfl,ω,by
   rcases Int.lt_or_le (qAL t.data.toList) 60 with k|k
   · exact absurd ⟨hb,ω,k⟩ hc
   exact k⟩)
theorem qC0 (s:Φ) (r e:Int) (H:Hid (qAz s.data.toList=(r,e))) (hs:s.size<=131072) (w:World):
  Calls prog 207 #[s] w λee w'=>ee=.returned (.tuple #[r,e])/\Bl w w':=by
 have hlen:s.data.toList.length=s.size:=σ
 have HL:=qA hlen;clear hlen;by_cases h2:s.size<2
 ·
  have h:=H.o;unfold qAz at h;rw[U5 (by have:=HL.o;omega)]at h;obtain⟨rfl,rfl⟩:=qAE h;clear h H;have q:(s.size:Int)<2:=ω
  go_enter func207,ntmps207
  go_wp2;go_ret2;exact⟨rfl,qB _⟩
 have hi2:(2:Int)<=s.size:=ω
 have hp:s.size-1<s.size:=ω
 have hg:=qBA s (s.size-1) hp;by_cases h115:s[s.size-1]'hp=UInt8.ofNat 115
 case neg=>
  have h:=H.o;unfold qAz at h;rw[HL.o,U5 (by rw[hg];exact λk=>h115 k.2)]at h;obtain⟨rfl,rfl⟩:=qAE h;rw[ZX δ]at h115;have q:(((s[s.size-1]'hp).toNat:Int) != 115)=true:=by rw[bne_iff_ne];exact h115
  clear h H h115 hg;go_enter func207,ntmps207
  go_wp2;go_ret2;exact⟨rfl,qB _⟩
 have H1:Hid ((if zN (s.data.toList.take (s.size-1))=true/\qAL (s.data.toList.take (s.size-1))<60 then(qAL (s.data.toList.take (s.size-1)),0)
  else if 5<=s.size/\s.data.toList.getD (s.size-4) 0=109/\(wF ((s.data.toList.take (s.size-1)).drop (s.size-3))).2=true then
   qAn (s.data.toList.take (s.size-4)) (qAL ((s.data.toList.take (s.size-1)).drop (s.size-3)))
  else(0,3))=(r,e)):=by
  have h:=H.o;unfold qAz at h;rw[HL.o,U6 (by rw[hg];exact⟨ω,h115⟩)]at h;exact h
 rw[ZX δ]at h115;have q:(((s[s.size-1]'hp).toNat:Int) != 115)=false:=by rw[bne_eq_false_iff_eq];exact h115
 clear H h115 hg;have hu:(s.extract 0 (s.size-1)).data.toList=s.data.toList.take (s.size-1):=qA0 _ _;have hus:(s.extract 0 (s.size-1)).size<=maxLen:=by unfold maxLen;simp;omega
 have HU:=qA hu;clear hu;by_cases hcan:zN (s.data.toList.take (s.size-1))=true/\qAL (s.data.toList.take (s.size-1))<60
 ·
  have h:=H1.o;rw[U6 hcan]at h;obtain⟨rfl,rfl⟩:=qAE h;obtain⟨hc1,hc2⟩:=hcan;have HC:=qA (show zN (s.extract 0 (s.size-1)).data.toList=true by rw[HU.o];exact hc1);have hd:zC (s.extract 0 (s.size-1)).data.toList=true:=cO HC.o;have HV:Hid (qAL (s.extract 0 (s.size-1)).data.toList=qAL (s.data.toList.take (s.size-1))):=by show _=_;rw[HU.o]
  generalize qAL (s.data.toList.take (s.size-1))=v at*
  clear h H1 hc1;go_enter func207,ntmps207
  go_wp2_with fail;refine(VG _ true HC hus _).mono ?_;rintro ee w1 ⟨rfl,rfl⟩;go_wp2_with fail;refine(qAV _ v hd HV hus _).mono ?_;rintro ee w1 ⟨rfl,rfl⟩;go_wp2_with fail;refine(qAV _ v hd HV hus _).mono ?_;rintro ee w1 ⟨rfl,rfl⟩;go_wp2;go_ret2;exact⟨rfl,qB _⟩
 have hw:Hid (zN (s.extract 0 (s.size-1)).data.toList=false)∨Hid (zN (s.extract 0 (s.size-1)).data.toList=true)/\Hid (qAL (s.extract 0 (s.size-1)).data.toList=qAL (s.data.toList.take (s.size-1)))/\(60:Int)<=qAL (s.data.toList.take (s.size-1)):=by
  rw[HU.o];cases hcb:zN (s.data.toList.take (s.size-1))with
  |false=>exact .inl rfl
  |true=>exact .inr ⟨rfl,rfl,by rcases Int.lt_or_le (qAL (s.data.toList.take (s.size-1))) 60 with k|k;exact absurd ⟨hcb,k⟩ hcan;exact k⟩
 have H2:Hid ((if 5<=s.size/\s.data.toList.getD (s.size-4) 0=109/\(wF ((s.data.toList.take (s.size-1)).drop (s.size-3))).2=true then
   qAn (s.data.toList.take (s.size-4)) (qAL ((s.data.toList.take (s.size-1)).drop (s.size-3)))
  else(0,3))=(r,e)):=by
  have h:=H1.o;rw[U5 hcan]at h;exact h
 clear H1 hcan HU;generalize qAL (s.data.toList.take (s.size-1))=v at*
 by_cases h5:s.size<5
 ·
  have h:=H2.o;rw[U5 ω]at h;obtain⟨rfl,rfl⟩:=qAE h;clear h H2;have q5:(s.size:Int)<5:=ω
  go_enter func207,ntmps207
  go_upto_region 4 with fail
  go_cut [32] (λs32 wx=>s32=false/\Bl w wx)
  case first=>
   rcases hw with HC|⟨HC,HV,h60⟩
   ·
    go_wp2_with fail;refine(VG _ false HC hus _).mono ?_;rintro ee w1 ⟨rfl,rfl⟩;go_wp2;go_meet
    exact⟨rfl,qB _⟩
   go_wp2_with fail;refine(VG _ true HC hus _).mono ?_;rintro ee w1 ⟨rfl,rfl⟩;go_wp2_with fail;refine(qAV _ _ (cO HC.o) HV hus _).mono ?_;rintro ee w1 ⟨rfl,rfl⟩;have q60:decide (v<60)=false:=decide_eq_false ω;go_wp2;go_meet
   exact⟨rfl,qB _⟩
  obtain⟨rfl,hb1⟩:=hcut;go_wp2;go_ret2;exact⟨rfl,hb1⟩
 have hi5:(5:Int)<=s.size:=ω
 have hp4:s.size-4<s.size:=ω
 have hg4:=qBA s (s.size-4) hp4;by_cases h109:s[s.size-4]'hp4=UInt8.ofNat 109
 case neg=>
  have h:=H2.o;rw[U5 (by rw[hg4];exact λk=>h109 k.2.1)]at h;obtain⟨rfl,rfl⟩:=qAE h;rw[ZX δ]at h109;have q4:(((s[s.size-4]'hp4).toNat:Int) != 109)=true:=by rw[bne_iff_ne];exact h109
  clear h H2 h109 hg4;go_enter func207,ntmps207
  go_upto_region 4 with fail
  go_cut [32] (λs32 wx=>s32=false/\Bl w wx)
  case first=>
   rcases hw with HC|⟨HC,HV,h60⟩
   ·
    go_wp2_with fail;refine(VG _ false HC hus _).mono ?_;rintro ee w1 ⟨rfl,rfl⟩;go_wp2;go_meet
    exact⟨rfl,qB _⟩
   go_wp2_with fail;refine(VG _ true HC hus _).mono ?_;rintro ee w1 ⟨rfl,rfl⟩;go_wp2_with fail;refine(qAV _ _ (cO HC.o) HV hus _).mono ?_;rintro ee w1 ⟨rfl,rfl⟩;have q60:decide (v<60)=false:=decide_eq_false ω;go_wp2;go_meet
   exact⟨rfl,qB _⟩
  obtain⟨rfl,hb1⟩:=hcut;go_wp2;go_ret2;exact⟨rfl,hb1⟩
 obtain⟨sn,sok,hfo⟩: ∃ n ok,wF ((s.data.toList.take (s.size-1)).drop (s.size-3))=(n,ok):=⟨_,_,rfl⟩;have HF:Hid (wF (s.extract (s.size-3) (s.size-1)).data.toList=(sn,sok)):=by show _=_;rw[mM];exact hfo
 have H3:Hid ((if sok=true then qAn (s.data.toList.take (s.size-4)) (qAL ((s.data.toList.take (s.size-1)).drop (s.size-3)))else(0,3))=(r,e)):=by
  have h:=H2.o;rw[hfo,hg4]at h;cases sok with
  |true=>rw[U6 ⟨ω,h109,rfl⟩]at h;exact h
  |false=>rw[U5 σ]at h;exact h
 rw[ZX δ]at h109;have q4:(((s[s.size-4]'hp4).toNat:Int) != 109)=false:=by rw[bne_eq_false_iff_eq];exact h109
 clear H2 h109 hg4;cases sok with
 |false=>
  have h:=H3.o;rw[U5 σ]at h;obtain⟨rfl,rfl⟩:=qAE h;clear h H3 hfo;go_enter func207,ntmps207
  go_upto_region 4 with fail
  go_cut [32] (λs32 wx=>s32=false/\Bl w wx)
  case first=>
   rcases hw with HC|⟨HC,HV,h60⟩
   ·
    go_wp2_with fail;refine(VG _ false HC hus _).mono ?_;rintro ee w1 ⟨rfl,rfl⟩;go_wp2;go_meet
    exact⟨rfl,qB _⟩
   go_wp2_with fail;refine(VG _ true HC hus _).mono ?_;rintro ee w1 ⟨rfl,rfl⟩;go_wp2_with fail;refine(qAV _ _ (cO HC.o) HV hus _).mono ?_;rintro ee w1 ⟨rfl,rfl⟩;have q60:decide (v<60)=false:=decide_eq_false ω;go_wp2;go_meet
   exact⟨rfl,qB _⟩
  obtain⟨rfl,hb1⟩:=hcut;go_wp2_with fail;refine(qAW _ sn false HF _).mono ?_;rintro ee w1 ⟨rfl,rfl⟩;go_wp2;go_ret2;exact⟨rfl,hb1⟩
 |true=>
  have h:=H3.o;rw[U6 rfl,<-mM,<-qA0]at h;obtain⟨k,_,k60,hk⟩:=qA1 HF.o;have HD:Hid (zC (s.extract (s.size-3) (s.size-1)).data.toList=true):=by show _=_;rw[hk];exact NJ k ω
  refine qCF s (s.extract 0 (s.size-4)) v sn _ r e ⟨hs,hi5,rfl,τ,hp,hp4,q,q4,hus,hw,HF,HD,rfl,by unfold maxLen;simp;omega,qBY _ HD.o⟩ h w
end Go.Proofs.YtakedkcjplfgeaaGreatDoor.Ck
namespace Go.Proofs.YtakedkcjplfgeaaGreatDoor.Ck
open Num Clk Tt
theorem qAh (v:Nat):qAL (qL v)=(v:Int)∨(qAL (qL v)=1000000/\1000000<=v):=by
 unfold qAL;rw[xE];by_cases h:(qL v).length<=6
 · rw[U6 h];exact .inl rfl
 rw[U5 h];refine .inr ⟨rfl, ?_⟩;rcases Nat.lt_or_ge v 1000000 with k|k
 · exact absurd (bG 5 v (by simpa using k)) h
 exact k
theorem qBh (p:Nat) (h:p<60):qAL (ZW p)=(p:Int):=by
 obtain⟨h1,h2,h3⟩:=vV p ω;have b1:=(jg _).1 h1;have b2:=(jg _).1 h2;unfold qAL;rw[U6 (by simp[ZW])];rw[<-h3];unfold ZW wH;simp only[val,List.foldl_cons,List.foldl_nil];omega
theorem qBg (p:Nat): ∃ x y,ZW p=[x,y]:=⟨_,_,rfl⟩
def F1 (v:Nat):List UInt8:=qL v++[115]
def F2 (v p:Nat):List UInt8:=qL v++109::(ZW p++[115])
def F3 (v p q:Nat):List UInt8:=qL v++104::(ZW p++109::(ZW q++[115]))
theorem qBF (v:Nat):(109:UInt8)∉qL v/\(104:UInt8)∉qL v:=
 ⟨gJ (cO (kP v)) δ,gJ (cO (kP v)) δ⟩
theorem qBD (v:Nat):xB (qL v)=(((min 1000000 v:Nat):Int),true):=by
 unfold xB;rw[U6 (kP v),xE]
theorem qCk (v:Nat) (h:v<60):wE (F1 v)=((v:Int),0):=by
 unfold wE F1;rw[Dc (qBF v).1];dsimp only[bQ]
 rw[qBD];dsimp only
 rw[U6 ⟨rfl,ω⟩,qAF];exact⟨ω,rfl⟩
theorem qCl (v p:Nat) (h0:0<v) (h:v<60) (hp:p<60):wE (F2 v p)=(60*(v:Int)+p,0):=by
 unfold wE F2;rw[Df (qBF v).1 (qBF v).2];dsimp only[bQ]
 rw[qBD,Xa p hp];dsimp only
 rw[U6 ⟨rfl,ω,ω,rfl⟩,qAF];exact⟨ω,rfl⟩
theorem qCm (v p q:Nat) (h0:0<v) (hp:p<60) (hq:q<60):wE (F3 v p q)=if 3600*(v:Int)+60*p+q<=359999 then(3600*(v:Int)+60*p+q,0)else(0,2):=by
 unfold wE F3;rw[oC (qBF v).1 (qBF v).2 (gJ (NJ p ω) δ)];dsimp only[bQ]
 rw[qBD,Xa p hp,Xa q hq];dsimp only
 rw[U6 ⟨rfl,ω,rfl,rfl⟩];by_cases h:3600*(v:Int)+60*p+q<=359999
 ·
  rw[U6 h,U6 ω,qAF];exact⟨ω,rfl⟩
 rw[U5 h,U5 ω]
theorem qBa {l:Ψ} {c:UInt8} (h:c∈l) (hc:57<c.toNat):zN l=false:=by
 cases k:zN l with
 |false=>rfl
 |true=>exact absurd h (gJ (cO k) hc)
theorem qCr (v:Nat) (h:v<60):qAz (F1 v)=((v:Int),0):=by
 have hp:=YX v;have e1:(F1 v).length=(qL v).length+1:=by simp[F1]
 have hv:qAL (qL v)=v:=by rcases qAh v with k|⟨_,k⟩;exact k;omega
 unfold qAz;rw[e1,show(qL v).length+1-1=(qL v).length by omega,U6 ⟨ω,by simp[F1,List.getD]⟩,show(F1 v).take (qL v).length=qL v by simp[F1],hv,U6 ⟨kP v,ω⟩]
theorem qBc (a:Ψ) (ha:0<a.length) (p:Nat) (hp:p<60):qAz (a++109::(ZW p++[115]))=qAn a p:=by
 have hv:=qBh p hp;have hf:=Xa p hp;obtain⟨x,y,e⟩:=qBg p;rw[e]at hv hf ⊢;have e1:(a++109::([x,y]++[115])).length=a.length+4:=σ
 unfold qAz;rw[e1,show a.length+4-1=a.length+3 by omega,show a.length+4-4=a.length by omega,show a.length+4-3=a.length+1 by omega];have t1:(a++109::([x,y]++[115])).take (a.length+3)=a++[109,x,y]:=by rw[List.take_append,U9 ω,show a.length+3-a.length=3 by omega];rfl
 have t2:(a++[109,x,y]).drop (a.length+1)=[x,y]:=by simp[List.drop_append]
 have t3:(a++109::([x,y]++[115])).take a.length=a:=σ
 have g1:(a++109::([x,y]++[115])).getD (a.length+3) 0=115:=by simp[List.getD]
 have g2:(a++109::([x,y]++[115])).getD a.length 0=109:=by simp[List.getD]
 rw[t1,t2,t3,g1,g2,hv,hf,U6 ⟨ω,rfl⟩,U5 (λk=>by rw[qBa (c:=109) σ δ]at k;exact absurd k.1 σ),U6 ⟨ω,rfl,rfl⟩]
theorem qCs (v p:Nat) (h0:0<v) (h:v<60) (hp:p<60):qAz (F2 v p)=(60*(v:Int)+p,0):=by
 unfold F2;rw[qBc _ (YX v) p hp];have hv:qAL (qL v)=v:=by rcases qAh v with k|⟨_,k⟩;exact k;omega
 unfold qAn;rw[hv,U6 ⟨kP v,ω,ω⟩]
theorem qCt (v p q:Nat) (h0:0<v) (hp:p<60) (hq:q<60):qAz (F3 v p q)=if 3600*(v:Int)+60*p+q<=359999 then(3600*(v:Int)+60*p+q,0)else(0,2):=by
 have hl:=YX v;have e0:F3 v p q=(qL v++104::ZW p)++109::(ZW q++[115]):=by simp[F3]
 rw[e0,qBc _ τ q hq];have hv:=qBh p hp;have hf:=Xa p hp;obtain⟨x,y,e⟩:=qBg p;rw[e]at hv hf ⊢;have e1:(qL v++104::[x,y]).length=(qL v).length+3:=σ
 unfold qAn;rw[e1,show(qL v).length+3-3=(qL v).length by omega,show(qL v).length+3-2=(qL v).length+1 by omega];have t1:(qL v++104::[x,y]).take (qL v).length=qL v:=σ
 have t2:(qL v++104::[x,y]).drop ((qL v).length+1)=[x,y]:=by simp[List.drop_append]
 have g1:(qL v++104::[x,y]).getD (qL v).length 0=104:=by simp[List.getD]
 have hz: ¬ qAL (qL v)=0:=by rcases qAh v with k|⟨k,_⟩<;>rw[k]<;>omega
 rw[t1,t2,g1,hv,hf,U5 (λk=>by rw[qBa (c:=104) σ δ]at k;exact absurd k.1 σ),U6 ⟨ω,rfl,rfl,kP v,hz⟩];rcases qAh v with k|⟨k,kv⟩
 · rw[k]
 rw[k,U5 ω,U5 ω]
def qCg (l:Ψ):Prop:=(∃ v,v<60/\l=F1 v)∨(∃ v p,0<v/\v<60/\p<60/\l=F2 v p)∨ ∃ v p q,0<v/\p<60/\q<60/\l=F3 v p q
theorem qCj {l:Ψ} (h:qCg l):qAz l=wE l:=by
 rcases h with⟨v,h,rfl⟩|⟨v,p,h0,h,hp,rfl⟩|⟨v,p,q,h0,hp,hq,rfl⟩
 · rw[qCr v h,qCk v h]
 · rw[qCs v p h0 h hp,qCl v p h0 h hp]
 rw[qCt v p q h0 hp hq,qCm v p q h0 hp hq]
theorem qA2 {l:Ψ} (h:(xB l).2=true): ∃ k:Nat,(xB l).1=((min 1000000 k:Nat):Int)/\l=qL k:=qB1 (v:=(xB l).1) (by rw[<-h])
theorem qAc {l:Ψ} (h:(wF l).2=true): ∃ k:Nat,(wF l).1=(k:Int)/\k<60/\l=ZW k:=qA1 (n:=(wF l).1) (by rw[<-h])
theorem qB4 {l:Ψ} (h: ¬ qCg l):wE l=(0,3):=by
 unfold wE;rcases iD l with k|⟨a,k⟩|⟨a,b,k⟩|⟨a,b,c,k⟩
 · rw[k]
 ·
  rw[k];have hl:=qAr k;dsimp only[bQ,qBz]at hl ⊢
  rw[U5];rintro⟨h1,h2⟩;obtain⟨v,hv,rfl⟩:=qA2 h1;exact h (.inl ⟨v,ω,hl⟩)
 ·
  rw[k];have hl:=qAr k;dsimp only[bQ,qBz]at hl ⊢
  rw[U5];rintro⟨h1,h2,h3,h4⟩;obtain⟨v,hv,rfl⟩:=qA2 h1;obtain⟨p,hp,hp6,rfl⟩:=qAc h4;exact h (.inr (.inl ⟨v,p,ω,ω,hp6,hl⟩))
 rw[k];have hl:=qAr k;dsimp only[bQ,qBz]at hl ⊢
 rw[U5];rintro⟨h1,h3,h4,h5⟩;obtain⟨v,hv,rfl⟩:=qA2 h1;obtain⟨p,hp,hp6,rfl⟩:=qAc h4;obtain⟨q,hq,hq6,rfl⟩:=qAc h5;exact h (.inr (.inr ⟨v,p,q,ω,hp6,hq6,hl⟩))
theorem qBK {l:Ψ} {n:Nat} {c:UInt8} (h:n<l.length) (hc:l.getD n 0=c):l=l.take n++c::l.drop (n+1):=by
 have e:l[n]=c:=by rw[<-hc];simp[List.getD,h]
 conv=>lhs;rw[<-List.take_append_drop n l,List.drop_eq_getElem_cons h,e]
theorem qBS {a:Ψ} (h:zN a=true):a=qL (val a):=(qAm h).symm
theorem qBx {a:Ψ} (h:zN a=true) (h6:qAL a<60):(val a:Int)=qAL a:=by
 have e:=qBS h;rcases qAh (val a)with k|⟨k,_⟩
 · rw[<-e]at k;exact k.symm
 rw[<-e]at k;omega
theorem qCE {l:Ψ} (h: ¬ qCg l):qAz l=(0,3):=by
 unfold qAz;by_cases h1:2<=l.length/\l.getD (l.length-1) 0=115
 ·
  rw[U6 h1];have hl:=qBK (n:=l.length-1) ω h1.2;rw[show l.length-1+1=l.length by omega,List.drop_length]at hl;by_cases h2:zN (l.take (l.length-1))=true/\qAL (l.take (l.length-1))<60
  · exact absurd (.inl ⟨val (l.take (l.length-1)),by have:=qBx h2.1 h2.2;omega,by unfold F1;rw[<-qBS h2.1];exact hl⟩) h
  rw[U5 h2];by_cases h3:5<=l.length/\l.getD (l.length-4) 0=109/\(wF ((l.take (l.length-1)).drop (l.length-3))).2=true
  ·
   rw[U6 h3];obtain⟨q,hq,hq6,eq⟩:=qAc h3.2.2;have hl4:=qBK (n:=l.length-4) ω h3.2.1;have e3:l.drop (l.length-4+1)=ZW q++[115]:=by
    rw[show l.length-4+1=l.length-3 by omega,<-eq];have k:=congrArg (List.drop (l.length-3)) hl;rw[List.drop_append_of_le_length τ]at k;exact k
   rw[e3]at hl4;generalize l.take (l.length-4)=a at*
   unfold qAn;by_cases h4:zN a=true/\0<qAL a/\qAL a<60
   ·
    have:=qBx h4.1 h4.2.2;exact absurd (.inr (.inl ⟨val a,q,ω,ω,hq6,by unfold F2;rw[<-qBS h4.1];exact hl4⟩)) h
   rw[U5 h4];by_cases h5:4<=a.length/\a.getD (a.length-3) 0=104/\(wF (a.drop (a.length-2))).2=true/\zN (a.take (a.length-3))=true/\ ¬ qAL (a.take (a.length-3))=0
   ·
    obtain⟨k1,k2,k3,k4,k5⟩:=h5;obtain⟨p,hp,hp6,ep⟩:=qAc k3;have ha:=qBK (n:=a.length-3) ω k2;rw[show a.length-3+1=a.length-2 by omega,ep]at ha;have e:=qBS k4;have hz:0<val (a.take (a.length-3)):=by
     rcases Nat.eq_zero_or_pos (val (a.take (a.length-3)))with z|z
     ·
      rcases qAh (val (a.take (a.length-3)))with k|⟨k,_⟩
      · rw[<-e,z]at k;exact absurd k k5
      omega
     exact z
    exact absurd (.inr (.inr ⟨val (a.take (a.length-3)),p,q,hz,hp6,hq6,by
     unfold F3;rw[<-e,hl4];conv=>lhs;rw[ha]
     simp⟩)) h
   rw[U5 h5]
  rw[U5 h3]
 rw[U5 h1]
theorem qCq (l:Ψ):qAz l=wE l:=by
 by_cases h:qCg l
 · exact qCj h
 rw[qCE h,qB4 h]
