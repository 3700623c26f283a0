/- Contracts, proved. Conditions: theirs. -/
import Derived.Test.YtakedkcjplfgeaaGreatDoorRows
import Derived.Test.YtakedkcjplfgeaaGreatDoorMPkPlain
import Derived.WalkSpells
import Derived.WalkLawsBesides
import Derived.Test.YtakedkcjplfgeaaGreatDoorMPkBase
import Derived.BigQuiet
import Derived.Lib.SmallJoins
import Derived.Deep.RegionWith
set_option maxRecDepth 1000000
set_option maxHeartbeats 32000000
open Go.Proofs.Tryz
namespace Go.Proofs.YtakedkcjplfgeaaGreatDoor.Nu
open Go.RowKit
open Num
theorem qR {k:IntKind} {a b:Int} (h:a=b):Ending.returned (.int k a)=.returned (.int k b):=by rw[h]
theorem qO {a b:Bool} (h:a=b):Ending.returned (a:Z)=.returned (b:Z):=by rw[h]
theorem CY (s:Φ): ∃ p:Nat,p<=s.size/\(∀ k (h:k<s.size),k<p->qV (s[k]'h)=true)/\ ∀ h:p<s.size,qV (s[p]'h)=false:=by
 suffices H: ∀ n,n<=s.size->(∀ k (h:k<s.size),k<s.size-n->qV (s[k]'h)=true)-> ∃ p:Nat,p<=s.size/\(∀ k (h:k<s.size),k<p->qV (s[k]'h)=true)/\ ∀ h:p<s.size,qV (s[p]'h)=false from
  H s.size (U3 _) (λk h hk=>ω)
 intro n;induction n with
 |zero=>intro _ h;exact⟨s.size,U3 _,λk hk _=>h k hk ω,λh=>absurd h ω⟩
 |succ n ih=>
  intro hn h;by_cases hd:qV (s[s.size-(n+1)]'ω)=true
  ·
   refine ih ω λk hk hlt=>?_
   by_cases e:k=s.size-(n+1)
   · subst e;exact hd
   exact h k hk ω
  exact⟨s.size-(n+1),ω,h,λ_=>by simpa using hd⟩
theorem qw (s:Φ) (k:Nat) (h:k<s.size):s.data.toList[k]'η=s[k]'h:=by simp;rfl
theorem yt (s:Φ):zC s.data.toList=true↔ ∀ k (h:k<s.size),qV (s[k]'h)=true:=by
 simp only[zC,List.all_eq_true];constructor
 ·
  intro h k hk;have:=h (s.data.toList[k]'(by simpa using hk)) (List.getElem_mem _);rwa [qw s k hk]at this
 intro h c hc;obtain⟨k,hk,rfl⟩:=List.getElem_of_mem hc;have hk':k<s.size:=by simpa using hk
 rw[qw s k hk'];exact h k hk'
theorem yY {c:UInt8} (h:qV c=true):48<=(c.toNat:Int)/\(c.toNat:Int)<=57:=by
 rw[jg]at h;omega
theorem VF {c:UInt8} (h:qV c=false):(c.toNat:Int)<48∨57<(c.toNat:Int):=by
 have: ¬ (48<=c.toNat/\c.toNat<=57):=by rw[<-jg,h];simp
 omega
theorem Zd (s:Φ):zN s.data.toList=(zC s.data.toList&& !decide (s.size=0)&&(if h:0<s.size then decide ((s[0]'h).toNat≠48)||decide (s.size=1)else true)):=by
 by_cases h:0<s.size
 ·
  have h':0<s.data.toList.length:=η
  cases hl:s.data.toList with
  |nil=>rw[hl]at h';simp at h'
  |cons a t=>
   have ha:s[0]'h=a:=by rw[<-qw s 0 h];simp[hl]
   have hsz:s.size=t.length+1:=by
    have:s.data.toList.length=s.size:=σ
    rw[hl]at this;simpa using this.symm
   have h48:(a=48)↔a.toNat=48:=⟨λe=>by rw[e];rfl,λe=>UInt8.toNat.inj (by simpa using e)⟩;simp only[zN,ha,hsz];by_cases h1:a=48
   · cases t<;>simp[h1]
   have h2: ¬ a.toNat=48:=λe=>h1 (h48.2 e)
   simp[h1,h2]
 have h0:s.size=0:=ω
 have:s.data.toList=[]:=List.length_eq_zero_iff.1 (by simpa using h0);simp[zN,this,h0]
theorem xP {B:Nat} {w0 w:World} (h:Below B w0 w) (hB:B<=w.heap.size) (s:Φ) (pos:Nat):Below B w0 (w.iter s pos):=h.alloc hB _
theorem wK {s:Φ} (h:s.size=0):s.toList=[]:=by
 rw[ByteArray.toList_eq];exact List.length_eq_zero_iff.1 η
theorem jG {s:Φ} (h: ¬ s.size=0): ¬ s.toList=[]:=by
 rw[ByteArray.toList_eq];intro e;exact h (by simpa using congrArg List.length e)
theorem jQ {s:Φ} (h: ¬ s.size=0):s.toList.isEmpty=false:=by
 have:=jG h;simpa using this
theorem VG (s:Φ) (w:World):
  Calls prog 241 #[s] w λe w'=>e=.returned (.bool (zN s.data.toList))/\Below w.heap.size w w':=by
 obtain⟨p,hp,hd,hn⟩:=CY s;have hcan:=qA (Zd s);go_enter func241,ntmps241
 go_wp2;go_loopw [4] (λ_ w'=> ∃ pos:Nat,pos<=p/\w'=w.iter s pos) (λ_ w'=>s.size-w'.iterPos w.heap.size)
 case atStart=>exact⟨0,qAD _,rfl⟩
 obtain⟨pos,hpos,rfl⟩:=hrel;by_cases h1:pos<p
 ·
  have hps:pos<s.size:=ω
  have hdg:=yY (hd pos hps h1);have hnx: ∀ ty,(Instr.next ((w.heap.size,0):Z) true ty).run prog (w.iter s pos)=_:=λty=>run_next_ascii w s pos ty hps ω
  go_wp2;go_roundw;case rel=>exact⟨pos+1,ω,rfl⟩
  simp;omega
 obtain rfl:pos=p:=ω
 by_cases h2:pos<s.size
 ·
  have hnd:=VF (hn h2);have hf:zN s.data.toList=false:=by
   rw[hcan.o];have:zC s.data.toList=false:=by
    rw[Bool.eq_false_iff,Ne,yt];intro h;have:=h pos h2;rw[hn h2]at this;simp at this
   simp[this]
  have HF:=qA hf;clear hf hcan;by_cases h3:(s[pos]'h2).toNat<128
  ·
   have hnx: ∀ ty,(Instr.next ((w.heap.size,0):Z) true ty).run prog (w.iter s pos)=_:=λty=>run_next_ascii w s pos ty h2 h3
   rcases hnd with hnd|hnd
   all_goals
    go_wp2;go_ret;exact⟨qO HF.o.symm,xP (Below.refl _ _) (U3 _) _ _⟩
  have hnx: ∀ ty,(Instr.next ((w.heap.size,0):Z) true ty).run prog (w.iter s pos)=_:=λty=>run_next_any w s pos ty h2
  have hh:=decode_high s pos h2 ω;obtain⟨r,hr⟩: ∃ r,r=(Utf8.decode s pos).1:=⟨_,rfl⟩;go_wp2;all_goals
   go_ret;exact⟨qO HF.o.symm,xP (Below.refl _ _) (U3 _) _ _⟩
 have hnx: ∀ ty,(Instr.next ((w.heap.size,0):Z) true ty).run prog (w.iter s pos)=_:=λty=>run_next_end w s pos ty h2
 have had:zC s.data.toList=true:=by
  rw[yt];intro k hk;exact hd k hk ω
 by_cases h0:s.size=0
 ·
  have hs:s.toList=[]:=wK h0;have HF:=qA (show zN s.data.toList=false by rw[hcan.o];simp[h0]);clear hcan hd hn;go_wp2;go_ret;exact⟨qO HF.o.symm,xP (Below.refl _ _) (U3 _) _ _⟩
 have HF:=qA (show zN s.data.toList=(decide ((s[0]'ω).toNat≠48)||decide (s.size=1)) by rw[hcan.o,had,dif_pos ω];simp[h0]);have hne:=jG h0;have hne':=jQ h0;have hps:0<s.size:=ω
 clear hcan hd hn;by_cases h4:((s[0]'hps).toNat:Int)=48
 ·
  have h6:(s[0]'hps).toNat=48:=ω
  by_cases h5:(s.size:Int)=1
  ·
   have h7:s.size=1:=ω
   go_wp2;go_ret;exact⟨qO (by rw[HF.o];simp[h6,h7]),xP (Below.refl _ _) (U3 _) _ _⟩
  have h7: ¬ s.size=1:=ω
  go_wp2;go_ret;exact⟨qO (by rw[HF.o];simp[h6,h7,h5]),xP (Below.refl _ _) (U3 _) _ _⟩
 have h6: ¬ (s[0]'hps).toNat=48:=ω
 go_wp2;go_ret;exact⟨qO (by rw[HF.o];simp[h6]),xP (Below.refl _ _) (U3 _) _ _⟩
theorem Kq (s:Φ) (k:Nat) (h:k<s.size):val (s.data.toList.take (k+1))=10*val (s.data.toList.take k)+((s[k]'h).toNat-48):=by
 have hk:k<s.data.toList.length:=η
 rw[List.take_succ_eq_append_getElem hk,ZY,qw s k h]
theorem VT (s:Φ) (lim:Nat) (hl:lim<=9223372036854775808) (hd:zC s.data.toList=true) (hs:s.size<=maxLen) (hv:val s.data.toList<=lim) (w:World):
  Calls prog 242 #[s,.int .u64 lim] w λe w'=>e=.returned (.tuple #[.int .u64 (val s.data.toList),true])/\w=w':=by
 unfold maxLen at hs;rw[yt]at hd;have HD:=qA hd;clear hd;go_enter func242,ntmps242
 go_wp2;go_loop [6,11] (λm i=> ∃ k v:Nat,k<=s.size/\i=k/\m=.int .u64 v/\v<=lim/\Hid (val (s.data.toList.take k)=v)) (λ_ i=>s.size-(intOf i).toNat)
 case atStart=>exact⟨0,0,ω,rfl,rfl,ω,rfl⟩
 obtain⟨k,v,hk,rfl,rfl,hvl,HV⟩:=hrel;by_cases hlt:k<s.size
 ·
  have hb:=yY (HD.o k hlt);have hst:=Kq s k hlt;have hle:=rF s.data.toList (k+1);rw[hst,HV.o]at hle;have HS:=qA hst;have hno: ¬ ((lim:Int)-(((s[k]'hlt).toNat:Int)-48)) / 10<(v:Int):=ω
  have hnw:10*(v:Int)+(((s[k]'hlt).toNat:Int)-48)<=9223372036854775808:=ω
  clear hst;go_wp2;go_round;case rel=>exact⟨k+1,10*v+((s[k]'hlt).toNat-48),ω,by go_num,by go_num,ω,by rw[<-HV.o];exact HS.o⟩
  simp[intOf];omega
 have HE:=qA (show v=val s.data.toList by rw[<-HV.o,U9 τ]);go_wp2;go_ret2;exact⟨by rw[<-HE.o];rfl,rfl⟩
theorem aZ (s:Φ) (lim:Nat) (h9:9<=lim) (hl:lim<=9223372036854775808) (hd:zC s.data.toList=true) (hs:s.size<=maxLen) (hv:lim<val s.data.toList) (w:World):
  Calls prog 242 #[s,.int .u64 lim] w λe w'=>e=.returned (.tuple #[.int .u64 0,false])/\w=w':=by
 unfold maxLen at hs;rw[yt]at hd;have HD:=qA hd;clear hd;go_enter func242,ntmps242
 go_wp2;go_loop [6,11] (λm i=> ∃ k v:Nat,k<=s.size/\i=k/\m=.int .u64 v/\v<=lim/\Hid (val (s.data.toList.take k)=v)) (λ_ i=>s.size-(intOf i).toNat)
 case atStart=>exact⟨0,0,ω,rfl,rfl,ω,rfl⟩
 obtain⟨k,v,hk,rfl,rfl,hvl,HV⟩:=hrel;by_cases hlt:k<s.size
 ·
  have hb:=yY (HD.o k hlt);have HS:=qA (Kq s k hlt);by_cases hover:10*(v:Int)+(((s[k]'hlt).toNat:Int)-48)<=lim
  ·
   have hno: ¬ ((lim:Int)-(((s[k]'hlt).toNat:Int)-48)) / 10<(v:Int):=ω
   go_wp2;go_round;case rel=>exact⟨k+1,10*v+((s[k]'hlt).toNat-48),ω,by go_num,by go_num,ω,by rw[<-HV.o];exact HS.o⟩
   simp[intOf];omega
  have hno:((lim:Int)-(((s[k]'hlt).toNat:Int)-48)) / 10<(v:Int):=ω
  go_wp2;go_ret2;exact⟨rfl,rfl⟩
 exfalso
 have:v=val s.data.toList:=by rw[<-HV.o,U9 τ]
 omega
theorem wI {k:IntKind} {a b:Int} {x:Value} (h:a=b):Ending.returned (.tuple #[.int k a,x])=.returned (.tuple #[.int k b,x]):=by rw[h]
theorem yf (s:Φ) (b:Bool) (h:Hid (zN s.data.toList=b)) (w:World):
  Calls prog 241 #[s] w λe w'=>e=.returned (b:Z)/\Below w.heap.size w w':=
 (VG s w).mono λ_ _ ⟨he,hw⟩=>⟨by rw[he,h.o],hw⟩
theorem Q9 {l:Ψ} (h:zN l=true):zC l=true:=by
 simp only[zN,Bool.and_eq_true]at h;exact h.1.1
theorem Eo {l:Ψ} (h:zN l=true):l≠[]:=by
 rintro rfl;simp[zN]at h
theorem KZ {s:Φ} (h:s.size=0):s.data.toList=[]:=List.length_eq_zero_iff.1 η
theorem EO (s:Φ):(s.extract 1 s.size).data.toList=s.data.toList.tail:=by
 rw[Lib.extract_data];simp[U9]
theorem EP (s:Φ):(s.extract 1 s.size).size=s.size-1:=by simp[ByteArray.size_extract]
theorem Pn (s:Φ):(s.toList==[48])=decide (s.data.toList=[48]):=by
 rw[ByteArray.toList_eq,Bool.eq_iff_iff];simp
theorem dQ (s:Φ) (h:0<s.size):s.data.toList.head?=some (s[0]'h):=by
 rw[List.head?_eq_getElem?,U2 η,qw s 0 h]
theorem Ci (s:Φ) (h: ¬ 0<s.size):s.data.toList.head?=none:=by
 have:s.data.toList=[]:=KZ ω;rw[this];rfl
inductive Way (s:Φ) (n e:Int):Prop
 |minusBad (h:0<s.size) (h45:((s[0]'h).toNat:Int)=45) (hc:Hid (zN (s.extract 1 s.size).data.toList=false)) (hn:n=0) (he:e=3)
 |minusZero (h:0<s.size) (h45:((s[0]'h).toNat:Int)=45) (hc:Hid (zN (s.extract 1 s.size).data.toList=true)) (hz:((s.extract 1 s.size).toList==[48])=true) (hn:n=0) (he:e=3)
 |minusBig (h:0<s.size) (h45:((s[0]'h).toNat:Int)=45) (hc:Hid (zN (s.extract 1 s.size).data.toList=true)) (hz:((s.extract 1 s.size).toList==[48])=false) (hv:Hid (9223372036854775808<val (s.extract 1 s.size).data.toList)) (hn:n=0) (he:e=2)
 |minus (h:0<s.size) (h45:((s[0]'h).toNat:Int)=45) (hc:Hid (zN (s.extract 1 s.size).data.toList=true)) (hz:((s.extract 1 s.size).toList==[48])=false) (v:Nat) (hv:Hid (val (s.extract 1 s.size).data.toList=v)) (hp:0<v) (hm:v<=9223372036854775808) (hn:n= -(v:Int)) (he:e=0)
 |bad (h: ∀ h:0<s.size,¬ ((s[0]'h).toNat:Int)=45) (hc:Hid (zN s.data.toList=false)) (hn:n=0) (he:e=3)
 |plus (h0:0<s.size) (h: ¬ ((s[0]'h0).toNat:Int)=45) (hc:Hid (zN s.data.toList=true)) (v:Nat) (hv:Hid (val s.data.toList=v)) (hm:v<=9223372036854775807) (hn:n=(v:Int)) (he:e=0)
 |plusBig (h0:0<s.size) (h: ¬ ((s[0]'h0).toNat:Int)=45) (hc:Hid (zN s.data.toList=true)) (hv:Hid (9223372036854775807<val s.data.toList)) (hn:n=0) (he:e=2)
theorem DZ {s:Φ} {n e:Int} (h:kF s.data.toList=(n,e)):Way s n e:=by
 unfold kF at h;by_cases hs:0<s.size
 ·
  by_cases h45:((s[0]'hs).toNat:Int)=45
  ·
   have e45:s[0]'hs=45:=UInt8.toNat.inj (by simpa using(by omega:(s[0]'hs).toNat=45));rw[U6 (by rw[dQ s hs,e45])]at h;rw[<-EO]at h;by_cases hc:zN (s.extract 1 s.size).data.toList=true
   ·
    by_cases hz:(s.extract 1 s.size).data.toList=[48]
    ·
     rw[U5 (λk=>k.2 hz),qAF]at h;exact .minusZero hs h45 hc (by rw[Pn];exact decide_eq_true hz) h.1.symm h.2.symm
    rw[U6 ⟨hc,hz⟩]at h;have hz':((s.extract 1 s.size).toList==[48])=false:=by rw[Pn];exact decide_eq_false hz
    have hp:=NQ hc hz;by_cases hv:val (s.extract 1 s.size).data.toList<=big+1
    ·
     rw[U6 hv,qAF]at h;exact .minus hs h45 hc hz' _ rfl hp (by unfold big at hv;exact hv) h.1.symm h.2.symm
    rw[U5 hv,qAF]at h;exact .minusBig hs h45 hc hz' (by unfold big at hv;show _<_;omega) h.1.symm h.2.symm
   rw[U5 (λk=>hc k.1),qAF]at h;exact .minusBad hs h45 (Bool.eq_false_iff.2 hc) h.1.symm h.2.symm
  have h45': ¬ s.data.toList.head?=some 45:=by
   rw[dQ s hs];intro k;simp only[qAA]at k;rw[k]at h45;exact h45 rfl
  rw[U5 h45']at h;by_cases hc:zN s.data.toList=true
  ·
   rw[U6 hc]at h;by_cases hv:val s.data.toList<=big
   ·
    rw[U6 hv,qAF]at h;exact .plus hs h45 hc _ rfl (by unfold big at hv;exact hv) h.1.symm h.2.symm
   rw[U5 hv,qAF]at h;exact .plusBig hs h45 hc (by unfold big at hv;show _<_;omega) h.1.symm h.2.symm
  rw[U5 hc,qAF]at h;exact .bad (λ_=>h45) (Bool.eq_false_iff.2 hc) h.1.symm h.2.symm
 rw[U5 (by rw[Ci s hs];simp)]at h;have hc:zN s.data.toList=false:=by
  have:s.data.toList=[]:=KZ ω;rw[this];rfl
 rw[hc,U5 σ,qAF]at h;exact .bad (λk=>absurd k hs) hc h.1.symm h.2.symm
theorem Lu (v:Nat) (h0:0<v) (h1:v<=9223372036854775808):wrap64 (IntKind.u64.wrap (-(v:Int)))= -(v:Int):=by
 have e:IntKind.u64.wrap (-(v:Int))=(-(v:Int))%18446744073709551616:=by
  simp[IntKind.wrap,IntKind.signed,IntKind.bits]
 rw[e];unfold wrap64;omega
theorem iC (s:Φ) (n e:Int) (H:Hid (kF s.data.toList=(n,e))) (hs:s.size<=maxLen) (w:World):
  Calls prog 185 #[s] w λr w'=>r=.returned (.tuple #[n,e])/\Below w.heap.size w w':=by
 unfold maxLen at hs;have hts:(s.extract 1 s.size).size<=maxLen:=by rw[EP];unfold maxLen;omega
 have HTS:=qA hts;clear hts;rcases DZ H.o with⟨h,h45,hc,rfl,rfl⟩|⟨h,h45,hc,hz,rfl,rfl⟩|⟨h,h45,hc,hz,hv,rfl,rfl⟩|⟨h,h45,hc,hz,v,hv,hp,hm,hn,rfl⟩|⟨h,hc,rfl,rfl⟩|⟨h0,h,hc,v,hv,hm,hn,rfl⟩|⟨h0,h,hc,hv,rfl,rfl⟩
 ·
  have hne:=jG (s:=s) ω;have hne':=jQ (s:=s) ω;go_enter func185,ntmps185
  go_wp2_with (go_at_call 241;refine(yf _ _ hc _).mono ?_;rintro e w1 ⟨rfl,hb⟩)
  go_ret2;exact⟨rfl,hb⟩
 ·
  have hne:=jG (s:=s) ω;have hne':=jQ (s:=s) ω;go_enter func185,ntmps185
  go_wp2_with (go_at_call 241;refine(yf _ _ hc _).mono ?_;rintro e w1 ⟨rfl,hb⟩)
  go_ret2;exact⟨rfl,hb⟩
 ·
  have hne:=jG (s:=s) ω;have hne':=jQ (s:=s) ω;go_enter func185,ntmps185
  go_wp2_with (first
   |(go_at_call 241;refine(yf _ _ hc _).mono ?_;rintro e w1 ⟨rfl,hb⟩)
   |(go_at_call 242;refine(aZ _ 9223372036854775808 ω ω (Q9 hc.o) HTS.o hv.o _).mono ?_;rintro e w2 ⟨rfl,rfl⟩))
  go_ret2;exact⟨rfl,hb⟩
 ·
  have hne:=jG (s:=s) ω;have hne':=jQ (s:=s) ω;have HN:=qA hn;have HU:=qA (Lu v hp hm);clear hn;go_enter func185,ntmps185
  go_wp2_with (first
   |(go_at_call 241;refine(yf _ _ hc _).mono ?_;rintro e w1 ⟨rfl,hb⟩)
   |(go_at_call 242;refine(VT _ 9223372036854775808 ω (Q9 hc.o) HTS.o (by rw[hv.o];exact hm) _).mono ?_;rintro e w2 ⟨rfl,rfl⟩;rw[hv.o]))
  go_ret2;exact⟨wI (by rw[HU.o,HN.o]),hb⟩
 ·
  by_cases h0:0<s.size
  ·
   have h':=h h0;have hne:=jG (s:=s) ω;have hne':=jQ (s:=s) ω;clear h;go_enter func185,ntmps185
   go_wp2_with (go_at_call 241;refine(yf _ _ hc _).mono ?_;rintro e w1 ⟨rfl,hb⟩)
   go_ret2;exact⟨rfl,hb⟩
  have hne:=wK (s:=s) ω;clear h;go_enter func185,ntmps185
  go_wp2_with (go_at_call 241;refine(yf _ _ hc _).mono ?_;rintro e w1 ⟨rfl,hb⟩)
  go_ret2;exact⟨rfl,hb⟩
 ·
  have hne:=jG (s:=s) ω;have hne':=jQ (s:=s) ω;have HN:=qA hn;clear hn;go_enter func185,ntmps185
  go_wp2_with (first
   |(go_at_call 241;refine(yf _ _ hc _).mono ?_;rintro e w1 ⟨rfl,hb⟩)
   |(go_at_call 242;refine(VT _ 9223372036854775807 ω (Q9 hc.o) hs (by rw[hv.o];exact hm) _).mono ?_;rintro e w2 ⟨rfl,rfl⟩;rw[hv.o]))
  go_ret2;exact⟨wI (by rw[HN.o]),hb⟩
 have hne:=jG (s:=s) ω;have hne':=jQ (s:=s) ω;go_enter func185,ntmps185
 go_wp2_with (first
  |(go_at_call 241;refine(yf _ _ hc _).mono ?_;rintro e w1 ⟨rfl,hb⟩)
  |(go_at_call 242;refine(aZ _ 9223372036854775807 ω ω (Q9 hc.o) hs hv.o _).mono ?_;rintro e w2 ⟨rfl,rfl⟩))
 go_ret2;exact⟨rfl,hb⟩
end Go.Proofs.YtakedkcjplfgeaaGreatDoor.Nu
set_option maxRecDepth 1000000
set_option maxHeartbeats 32000000
namespace Go.Proofs.YtakedkcjplfgeaaGreatDoor.Nu
open Go.RowKit
open Num
section
variable {s:ByteArray} {a:List UInt8} {x y:UInt8} (hs:s.data.toList=a++[46,x,y])
include hs
theorem BZ:s.size=a.length+3:=by
 have:s.data.toList.length=s.size:=σ
 rw[hs]at this;simpa using this.symm
theorem Oz (i:Nat) (h:i<s.size) (hi:i=a.length):((s[i]'h).toNat:Int)=46:=by
 subst hi;rw[<-qw s a.length h];simp[hs]
theorem Ru (i:Nat) (h:i<s.size) (hi:i=a.length+1):(s[i]'h)=x:=by
 subst hi;rw[<-qw s (a.length+1) h];simp[hs]
theorem Rw (i:Nat) (h:i<s.size) (hi:i=a.length+2):(s[i]'h)=y:=by
 subst hi;rw[<-qw s (a.length+2) h];simp[hs]
theorem MN (i:Nat) (hi:i=a.length):(s.extract 0 i).data.toList=a:=by
 subst hi;rw[Lib.extract_data,hs];simp
theorem MO (i j:Nat) (hi:i=a.length+1) (hj:j=s.size):(s.extract i j).data.toList=[x,y]:=by
 subst hi hj;rw[Lib.extract_data,BZ hs,hs];simp
end
theorem lT (c:UInt8) (b:Φ):(ByteArray.mk #[c]++b:Φ).data.toList=c::b.data.toList:=σ
theorem uK {s:Φ} (h: ¬ iL s.data.toList) (i:Nat) (hi:i+3=s.size) (h46:((s[i]'ω).toNat:Int)=46) (hc:zN (s.extract 0 i).data.toList=true) (j k:Nat) (hj:j=i+1) (hk:k=s.size):
  zN (ByteArray.mk #[49]++s.extract j k:Φ).data.toList=false:=by
 subst hj hk;rw[lT,lS,Bool.eq_false_iff];intro hd;apply h
 have hl:s.data.toList.length=i+3:=by simp[hi]
 have e0:s.data.toList=s.data.toList.take i++s.data.toList.drop i:=(List.take_append_drop i _).symm;have e1:(s.extract 0 i).data.toList=s.data.toList.take i:=by rw[Lib.extract_data];simp
 have e2:(s.extract (i+1) s.size).data.toList=s.data.toList.drop (i+1):=by
  rw[Lib.extract_data];exact U9 σ
 have hdl:(s.data.toList.drop i).length=3:=τ
 match hm:s.data.toList.drop i,hdl with
 |[p,x,y],_=>
  have e3:s.data.toList.drop (i+1)=[x,y]:=by
   rw[show i+1=i+1 from rfl,<-List.drop_drop,hm];rfl
  rw[e2,e3]at hd;simp only[zC,List.all_cons,List.all_nil,Bool.and_true,Bool.and_eq_true]at hd;refine⟨s.data.toList.take i,x,y, ?_,by rw[<-e1];exact hc,hd.1,hd.2⟩;have hp:p=46:=by
   have:s[i]'ω=p:=by
    rw[<-qw s i ω];have:=List.getElem_drop (xs:=s.data.toList) (i:=i) (j:=0) (h:=by rw[hm];simp);simp only[hm,Nat.add_zero]at this;exact this.symm
   rw[this]at h46;exact UInt8.toNat.inj (by simpa using(by omega:p.toNat=46))
  rw[<-hp,<-hm];exact e0
theorem OM (s:Φ) (i j:Nat):(s.extract i j).size<=s.size:=by rw[ByteArray.size_extract];omega
theorem KI (s:Φ) (z:Int) (i:Nat) (hz:z=(i:Int)) (hi:i<s.size) (W:World):
  (Instr.index 9 (s:Z) (z:Z)).run prog W=.ok (.int .u8 ((s[i]'hi).toNat:Int)) W:=by
 subst hz;rw[run_index_string W 9 s .i64 _ underlying9,dif_pos ⟨ω,ω⟩];rfl
theorem Xz (s:Φ) (h: ¬ iL s.data.toList) (hs:s.size<=maxLen) (w:World):
  Calls prog 249 #[s] w λr w'=>r=.returned (.tuple #["",.int .i64 3])/\Bl w w':=by
 unfold maxLen at hs;have HB:=qA h;clear h;go_enter func249,ntmps249
 go_wp2;go_loopw [4,5,6] (λst i c w'=> ∃ pos:Nat,st=.int .i64 (-1)/\w'=w.iter s pos) (λ_ _ _ w'=>s.size-w'.iterPos w.heap.size)
 case atStart=>exact⟨0,rfl,rfl⟩
 obtain⟨pos,rfl,rfl⟩:=hrel;by_cases hp:pos<s.size
 ·
  by_cases h46:((s[pos]'hp).toNat:Int)=46
  ·
   have hnx: ∀ ty,(Instr.next ((w.heap.size,0):Z) true ty).run prog (w.iter s pos)=_:=λty=>run_next_ascii w s pos ty hp ω
   by_cases h3:(s.size:Int)-(pos:Int)=3
   ·
    cases hc:zN (s.extract 0 pos).data.toList with
    |false=>
     have HC:=qA hc;have h3': ¬ (pos:Int)<0:=ω
     have h3a:(s.size:Int)<=pos+3:=ω
     have h3b:(pos:Int)+3<=s.size:=ω
     clear hc h3;go_wp2_with (go_at_call 241;refine(yf _ _ HC _).mono ?_;rintro e w1 ⟨rfl,hb1⟩)
     go_ret2;exact⟨rfl,(by repeat(first|exact qB _|assumption|refine qH ?_|refine qM ?_ _|refine yT ?_ _ _|refine qF ?_ hb1|refine qF ?_ hb2))⟩
    |true=>
     have HC:=qA hc;have HD:=qA (uK HB.o pos ω h46 hc (pos+1) s.size rfl rfl);have h3': ¬ (pos:Int)<0:=ω
     have h3a:(s.size:Int)<=pos+3:=ω
     have h3b:(pos:Int)+3<=s.size:=ω
     clear hc h3;go_wp2_with fail;refine(yf _ _ HC _).mono ?_;rintro e w1 ⟨rfl,hb1⟩;go_wp2_with fail;refine(yf _ _ HD _).mono ?_;rintro e w2 ⟨rfl,hb2⟩;go_wp2;go_ret2;exact⟨rfl,(by repeat(first|exact qB _|assumption|refine qH ?_|refine qM ?_ _|refine yT ?_ _ _|refine qF ?_ hb1|refine qF ?_ hb2))⟩
   go_wp2;go_ret2;exact⟨rfl,(by repeat(first|exact qB _|assumption|refine qH ?_|refine qM ?_ _|refine yT ?_ _ _|refine qF ?_ hb1|refine qF ?_ hb2))⟩
  by_cases h128:(s[pos]'hp).toNat<128
  ·
   have hnx: ∀ ty,(Instr.next ((w.heap.size,0):Z) true ty).run prog (w.iter s pos)=_:=λty=>run_next_ascii w s pos ty hp h128
   go_wp2;go_roundw;case rel=>exact⟨pos+1,rfl,rfl⟩
   simp;omega
  have hnx: ∀ ty,(Instr.next ((w.heap.size,0):Z) true ty).run prog (w.iter s pos)=_:=λty=>run_next_any w s pos ty hp
  have hh:=decode_high s pos hp ω;go_wp2;go_roundw;case rel=>exact⟨pos+(Utf8.decode s pos).2,rfl,rfl⟩
  simp;omega
 have hnx: ∀ ty,(Instr.next ((w.heap.size,0):Z) true ty).run prog (w.iter s pos)=_:=λty=>run_next_end w s pos ty hp
 go_wp2;go_ret2;exact⟨rfl,(by repeat(first|exact qB _|assumption|refine qH ?_|refine qM ?_ _|refine yT ?_ _ _|refine qF ?_ hb1|refine qF ?_ hb2))⟩
theorem Zo (s:Φ) (a:Ψ) (x y:UInt8) (n e:Int) (hl:s.data.toList=a++[46,x,y]) (ha:zN a=true) (hx:qV x=true) (hy:qV y=true)
  (hr:(e=2/\n=0/\(10000<val a∨1000000<100*val a+10*(x.toNat-48)+(y.toNat-48)))∨(e=0/\val a<=10000/\100*val a+10*(x.toNat-48)+(y.toNat-48)<=1000000/\n=((100*val a+10*(x.toNat-48)+(y.toNat-48):Nat):Int)))
  (hs:s.size<=maxLen) (w:World):
  Calls prog 249 #[s] w λr w'=>r=.returned (.tuple #[n,e])/\Bl w w':=by
 unfold maxLen at hs;obtain⟨p,hpL⟩: ∃ p:Nat,p=a.length:=⟨_,rfl⟩;have hsz:=BZ hl;rw[<-hpL]at hsz;have hL:1<=p:=by
  have:=Eo ha;cases a with
  |nil=>exact absurd rfl this
  |cons _ _=>simp at hpL;omega
 have hlt:p<s.size:=ω
 have hlt2:p+1<s.size:=ω
 have hlt1:p+2<s.size:=ω
 have h46:=Oz hl p hlt hpL;have hea:=MN hl p hpL;have HC:Hid (zN (s.extract 0 p).data.toList=true):=by show _=_;rw[hea];exact ha
 have HD:Hid (zN (ByteArray.mk #[49]++s.extract (p+1) s.size:Φ).data.toList=true):=by
  show _=_
  rw[lT,lS,MO hl _ _ ω rfl];simp[zC,hx,hy]
 have HDIG:Hid (∀ k (h:k<s.size),k<p->qV (s[k]'h)=true):=by
  intro k hk hkp;have h1:=(yt (s.extract 0 p)).1 (by rw[hea];exact Q9 ha) k (by rw[ByteArray.size_extract];omega);rw[<-qw]at h1;have h2:(s.extract 0 p).data.toList[k]'τ=s[k]'hk:=by
   rw[<-qw s k hk];simp only[hea,hl];rw[List.getElem_append_left]
  rwa [h2]at h1
 have ex:=Ru hl _ hlt2 ω;have ey:=Rw hl _ hlt1 ω;have bx:=yY hx;have b_y:=yY hy;rw[<-ex]at bx;rw[<-ey]at b_y;have HEX:=qA ex;have HEY:=qA ey;have HEA:=qA hea;have HAL:Hid (zC (s.extract 0 p).data.toList=true):=by show _=_;rw[hea];exact Q9 ha
 have HZ:Hid ((s.extract 0 p).size<=maxLen):=by have:=OM s 0 p;show _<=_;unfold maxLen;omega
 have h3a:(s.size:Int)<=p+3:=ω
 have h3b:(p:Int)+3<=s.size:=ω
 have h3': ¬ (p:Int)<0:=ω
 clear ex ey hea hl hsz hx hy hpL;by_cases hv1:10000<val a
 ·
  have HV:Hid (10000<val (s.extract 0 p).data.toList):=by show _<_;rw[HEA.o];exact hv1
  obtain⟨rfl,rfl⟩:e=2/\n=0:=ω
  clear hr hv1;skip
  go_enter func249,ntmps249
  go_wp2;go_loopw [4,5,6] (λst i c w'=> ∃ pos:Nat,pos<=p/\st=.int .i64 (-1)/\w'=w.iter s pos) (λ_ _ _ w'=>s.size-w'.iterPos w.heap.size)
  case atStart=>exact⟨0,qAD _,rfl,rfl⟩
  obtain⟨pos,hpos,rfl,rfl⟩:=hrel;by_cases hlp:pos<p
  ·
   have hps:pos<s.size:=ω
   have hdg:=yY (HDIG.o pos hps hlp);have hnx: ∀ ty,(Instr.next ((w.heap.size,0):Z) true ty).run prog (w.iter s pos)=_:=λty=>run_next_ascii w s pos ty hps ω
   go_wp2;go_roundw;case rel=>exact⟨pos+1,ω,rfl,rfl⟩
   simp;omega
  obtain rfl:pos=p:=ω
  have hnx: ∀ ty,(Instr.next ((w.heap.size,0):Z) true ty).run prog (w.iter s pos)=_:=λty=>run_next_ascii w s pos ty hlt ω
  go_wp2_with fail;refine(yf _ _ HC _).mono ?_;rintro e w1 ⟨rfl,hb1⟩;go_wp2_with fail;refine(yf _ _ HD _).mono ?_;rintro e w2 ⟨rfl,hb2⟩;go_wp2_with fail;refine(aZ _ 10000 ω ω HAL.o HZ.o HV.o _).mono ?_;rintro e w3 ⟨rfl,rfl⟩;go_wp2;go_ret2;exact⟨rfl,(by repeat(first|exact qB _|assumption|refine qH ?_|refine qM ?_ _|refine yT ?_ _ _|refine qF ?_ hb1|refine qF ?_ hb2))⟩
 have HV:Hid (val (s.extract 0 p).data.toList<=10000):=by show _<=_;rw[HEA.o];omega
 obtain⟨v,hv⟩: ∃ v:Nat,v=val a:=⟨_,rfl⟩;have HVV:Hid (val (s.extract 0 p).data.toList=v):=by show _=_;rw[HEA.o,hv]
 rw[<-hv,<-HEX.o,<-HEY.o]at hr;rw[<-hv]at hv1;clear hv;rcases hr with⟨rfl,rfl,hr⟩|⟨rfl,_,hr,hn⟩
 ·
  have hb':1000000<100*(v:Int)+10*(((s[p+1]'hlt2).toNat:Int)-48)+(((s[p+2]'hlt1).toNat:Int)-48):=ω
  clear hr;have E0:=qA (IntWalk.i64_in (v:Int) ω);have E1:=qA (IntWalk.u8_in (((s[p+1]'hlt2).toNat:Int)-48) ω);have E2:=qA (IntWalk.i64_in (((s[p+1]'hlt2).toNat:Int)-48) ω);have E3:=qA (IntWalk.i64_in (10*(((s[p+1]'hlt2).toNat:Int)-48)) ω);have E4:=qA (IntWalk.i64_in (100*(v:Int)) ω);have E5:=qA (IntWalk.i64_in (100*(v:Int)+10*(((s[p+1]'hlt2).toNat:Int)-48)) ω);have E6:=qA (IntWalk.u8_in (((s[p+2]'hlt1).toNat:Int)-48) ω);have E7:=qA (IntWalk.i64_in (((s[p+2]'hlt1).toNat:Int)-48) ω);have E8:=qA (IntWalk.i64_in (100*(v:Int)+10*(((s[p+1]'hlt2).toNat:Int)-48)+(((s[p+2]'hlt1).toNat:Int)-48)) ω);have E9:=qA (IntWalk.i64_in ((p:Int)+1) ω);have E10:=qA (IntWalk.i64_in ((p:Int)+2) ω);have E11:=qA (λW=>KI s ((p:Int)+1) (p+1) ω hlt2 W);have E12:=qA (λW=>KI s ((p:Int)+2) (p+2) ω hlt1 W);go_enter func249,ntmps249
  go_wp2;go_loopw [4,5,6] (λst i c w'=> ∃ pos:Nat,pos<=p/\st=.int .i64 (-1)/\w'=w.iter s pos) (λ_ _ _ w'=>s.size-w'.iterPos w.heap.size)
  case atStart=>exact⟨0,qAD _,rfl,rfl⟩
  obtain⟨pos,hpos,rfl,rfl⟩:=hrel;by_cases hlp:pos<p
  ·
   have hps:pos<s.size:=ω
   have hdg:=yY (HDIG.o pos hps hlp);have hnx: ∀ ty,(Instr.next ((w.heap.size,0):Z) true ty).run prog (w.iter s pos)=_:=λty=>run_next_ascii w s pos ty hps ω
   go_wp2;go_roundw;case rel=>exact⟨pos+1,ω,rfl,rfl⟩
   simp;omega
  obtain rfl:pos=p:=ω
  have hnx: ∀ ty,(Instr.next ((w.heap.size,0):Z) true ty).run prog (w.iter s pos)=_:=λty=>run_next_ascii w s pos ty hlt ω
  go_wp2_with fail;refine(yf _ _ HC _).mono ?_;rintro e w1 ⟨rfl,hb1⟩;go_wp2_with fail;refine(yf _ _ HD _).mono ?_;rintro e w2 ⟨rfl,hb2⟩;go_wp2_with fail;refine(VT _ 10000 ω HAL.o HZ.o HV.o _).mono ?_;rintro e w3 ⟨rfl,rfl⟩;rw[HVV.o];go_wp2;have e0:=E0.o;have e1:=E1.o;have e2:=E2.o;have e3:=E3.o;have e4:=E4.o;have e5:=E5.o;have e6:=E6.o;have e7:=E7.o;have e8:=E8.o;have e9:=E9.o;have e10:=E10.o;have e11:=E11.o;have e12:=E12.o;go_quiet (fail)
  clear e0 e1 e2 e3 e4 e5 e6 e7 e8 e9 e10 e11 e12;go_wp2;go_ret2;exact⟨rfl,(by repeat(first|exact qB _|assumption|refine qH ?_|refine qM ?_ _|refine yT ?_ _ _|refine qF ?_ hb1|refine qF ?_ hb2))⟩
 have hb':100*(v:Int)+10*(((s[p+1]'hlt2).toNat:Int)-48)+(((s[p+2]'hlt1).toNat:Int)-48)<=1000000:=ω
 have HR:=qA (show n=100*(v:Int)+10*(((s[p+1]'hlt2).toNat:Int)-48)+(((s[p+2]'hlt1).toNat:Int)-48) by omega);clear hr hn;have E0:=qA (IntWalk.i64_in (v:Int) ω);have E1:=qA (IntWalk.u8_in (((s[p+1]'hlt2).toNat:Int)-48) ω);have E2:=qA (IntWalk.i64_in (((s[p+1]'hlt2).toNat:Int)-48) ω);have E3:=qA (IntWalk.i64_in (10*(((s[p+1]'hlt2).toNat:Int)-48)) ω);have E4:=qA (IntWalk.i64_in (100*(v:Int)) ω);have E5:=qA (IntWalk.i64_in (100*(v:Int)+10*(((s[p+1]'hlt2).toNat:Int)-48)) ω);have E6:=qA (IntWalk.u8_in (((s[p+2]'hlt1).toNat:Int)-48) ω);have E7:=qA (IntWalk.i64_in (((s[p+2]'hlt1).toNat:Int)-48) ω);have E8:=qA (IntWalk.i64_in (100*(v:Int)+10*(((s[p+1]'hlt2).toNat:Int)-48)+(((s[p+2]'hlt1).toNat:Int)-48)) ω);have E9:=qA (IntWalk.i64_in ((p:Int)+1) ω);have E10:=qA (IntWalk.i64_in ((p:Int)+2) ω);have E11:=qA (λW=>KI s ((p:Int)+1) (p+1) ω hlt2 W);have E12:=qA (λW=>KI s ((p:Int)+2) (p+2) ω hlt1 W);go_enter func249,ntmps249
 go_wp2;go_loopw [4,5,6] (λst i c w'=> ∃ pos:Nat,pos<=p/\st=.int .i64 (-1)/\w'=w.iter s pos) (λ_ _ _ w'=>s.size-w'.iterPos w.heap.size)
 case atStart=>exact⟨0,qAD _,rfl,rfl⟩
 obtain⟨pos,hpos,rfl,rfl⟩:=hrel;by_cases hlp:pos<p
 ·
  have hps:pos<s.size:=ω
  have hdg:=yY (HDIG.o pos hps hlp);have hnx: ∀ ty,(Instr.next ((w.heap.size,0):Z) true ty).run prog (w.iter s pos)=_:=λty=>run_next_ascii w s pos ty hps ω
  go_wp2;go_roundw;case rel=>exact⟨pos+1,ω,rfl,rfl⟩
  simp;omega
 obtain rfl:pos=p:=ω
 have hnx: ∀ ty,(Instr.next ((w.heap.size,0):Z) true ty).run prog (w.iter s pos)=_:=λty=>run_next_ascii w s pos ty hlt ω
 go_wp2_with fail;refine(yf _ _ HC _).mono ?_;rintro e w1 ⟨rfl,hb1⟩;go_wp2_with fail;refine(yf _ _ HD _).mono ?_;rintro e w2 ⟨rfl,hb2⟩;go_wp2_with fail;refine(VT _ 10000 ω HAL.o HZ.o HV.o _).mono ?_;rintro e w3 ⟨rfl,rfl⟩;rw[HVV.o];go_wp2;have e0:=E0.o;have e1:=E1.o;have e2:=E2.o;have e3:=E3.o;have e4:=E4.o;have e5:=E5.o;have e6:=E6.o;have e7:=E7.o;have e8:=E8.o;have e9:=E9.o;have e10:=E10.o;have e11:=E11.o;have e12:=E12.o;go_quiet (fail)
 clear e0 e1 e2 e3 e4 e5 e6 e7 e8 e9 e10 e11 e12;go_wp2;go_ret2;exact⟨wI (by rw[HR.o]),(by repeat(first|exact qB _|assumption|refine qH ?_|refine qM ?_ _|refine yT ?_ _ _|refine qF ?_ hb1|refine qF ?_ hb2))⟩
theorem gz (s:Φ) (n e:Int) (H:Price s.data.toList n e) (hs:s.size<=maxLen) (w:World):
  Calls prog 249 #[s] w λr w'=>r=.returned (.tuple #[n,e])/\Bl w w':=by
 generalize hl:s.data.toList=l at H
 cases H with
 |bad h=>exact Xz s (by rw[hl];exact h) hs w
 |big ha hx hy h=>exact Zo s _ _ _ _ _ hl ha hx hy (.inl ⟨rfl,rfl,h⟩) hs w
 |ok ha hx hy hv h=>exact Zo s _ _ _ _ _ hl ha hx hy (.inr ⟨rfl,hv,h,rfl⟩) hs w
end Go.Proofs.YtakedkcjplfgeaaGreatDoor.Nu
set_option maxRecDepth 1000000
set_option maxHeartbeats 32000000
namespace Go.Proofs.YtakedkcjplfgeaaGreatDoor.Nu
open Go.RowKit
open Num
abbrev qP (l:Ψ):Value:=.string ⟨l.toArray⟩
def Jw (w:World) (b:Nat) (xs:List Int):Prop:= ∀ j,j<xs.length->w.cell? ⟨b,j,none⟩=some (.int .u8 (xs.getD j 0))/\w.frozen? ⟨b,j,none⟩=false
theorem Jw.set {w:World} {b:Nat} {xs:List Int} (h:Jw w b xs) (i:Nat) (hi:i<xs.length) (v:Int):Jw (w.setCell (b,i) (.int .u8 v)) b (xs.set i v):=by
 intro j hj;simp only[List.length_set]at hj;obtain⟨hc,hf⟩:=h j hj;by_cases e:j=i
 ·
  subst e;refine⟨?_,by rw[World.frozen?_setCell];exact hf⟩;rw[World.cell?_setCell_same (h:=hc)];simp[List.getD,hi]
 refine⟨?_,by rw[World.frozen?_setCell];exact hf⟩;rw[World.cell?_setCell_other (h:=by intro k;exact e (by simpa using k.symm)),hc];simp[List.getD,Ne.symm e]
def PZ (w:World) (n:Int) (N:Nat) (a':Act) (w':World):Prop:=
 ∃ (i m:Nat) (xs:List Int) (ds:Ψ) (u6 u7 u8 u9 u10 u11 u12 u13 u14 u15 u16 u17 u18 u19 u20 u21 u22 u23:Value),a'={ tmps:= #[.int .i64 n,undef, .string ⟨#[]⟩, .pointer (some ⟨w.heap.size,0,none⟩), .int .i64 i, .int .u64 m,u6,u7,u8,u9,u10,u11,u12,u13,u14,u15,u16,u17,u18,u19,u20,u21,u22,u23,undef,undef,undef,undef,undef,undef,undef,undef,undef],defers:=[] }/\
  i+ds.length=20/\0<m/\m<=9223372036854775808/\qL N=qL m++ds/\xs.length=20/\xs.drop i=ds.map (λc=>(c.toNat:Int))/\Jw w' w.heap.size xs/\Below w.heap.size w w'
theorem Yw (k:Nat) (xs:List Int) (h:k<xs.length) (v:Int):(xs.set k v).drop k=v::xs.drop (k+1):=by
 induction xs generalizing k with
 |nil=>simp at h
 |cons a t ih=>
  cases k with
  |zero=>simp
  |succ k=>simpa using ih k η
theorem xn (w:World) (xs:List Int) (c:Array Value) (hc:c=(xs.map (Value.int .u8)).toArray) (T:TypeId):Jw (w.alloc (.cells c T)) w.heap.size xs:=by
 intro j hj;subst hc;refine⟨?_, ?_⟩
 ·
  rw[Uy (hn:=rfl)];simp[List.getD,hj]
 simp[go_sem]
theorem yQ (l:Ψ):strOfNums (l.map (λc=>(c.toNat:Int)))=⟨l.toArray⟩:=by
 unfold strOfNums;rw[List.map_map];congr 2
 have:((λn:Int=>UInt8.ofNat n.toNat) ∘ λc:UInt8=>(c.toNat:Int))=id:=by
  funext c
  simp
 rw[this,List.map_id]
theorem Ws (b:Nat) (z:Int) (k:Nat) (hz:z=(k:Int)) (hk:k<20) (W:World):
  (Instr.sliceAt 188 (.pointer (some ⟨b,0,none⟩)) (some (.int .i64 z)) none none).run prog W= .ok (.slice (some ⟨b,k,none⟩) (20-k) (20-k)) W:=by
 subst hz;have h20:prog.arrayLen 188=20:=κ
 have hs:(sizeOf (prog.elem 188)).run prog W= .ok 1 W:=κ
 rw[run_sliceAt_array_l (P:=prog) W 188 ⟨b,0,none⟩ κ .i64 k ω (by rw[h20];omega),hs,h20];have: ¬ 20=k:=ω
 simp[Result.andThen,slicedAt,this,Addr.add]
 intro h;omega
theorem xQ (m:Nat):(((UInt8.ofNat (48+m%10)).toNat:Nat):Int)=48+(m:Int)%10:=by
 rw[zi (m%10) ω];omega
theorem mV {i m:Nat} {xs:List Int} {ds:Ψ} (hi:i+ds.length=20) (hi1:1<=i) (hxs:xs.length=20) (hdr:xs.drop i=ds.map (λc=>(c.toNat:Int))):
  (xs.set (i-1) (48+(m:Int)%10)).drop (i-1)=(UInt8.ofNat (48+m%10)::ds).map (λc=>(c.toNat:Int)):=by
 rw[Yw (i-1) xs ω,show i-1+1=i by omega,hdr,List.map_cons,xQ]
theorem KA (n:Int) (h0: -9223372036854775808<=n) (h1:n<=9223372036854775807) (w:World):
  Calls prog 69 #[.int .i64 n] w λe w'=>e= .returned (qP (jO n))/\Below w.heap.size w w':=by
 by_cases hn:n<0
 ·
  obtain⟨N,rfl⟩: ∃ N:Nat,n= -(N:Int):=⟨n.natAbs,ω⟩;have HI:=qA (show jO (-(N:Int))=45::qL N by unfold jO;rw[U6 hn];congr 2;omega);have hNb:N<=9223372036854775808:=ω
  have hu:IntKind.u64.wrap (-IntKind.u64.wrap (-(N:Int)))=(N:Int):=by
   simp only[IntKind.wrap,IntKind.signed,IntKind.bits];simp
   omega
  go_enter func69,ntmps69
  go_wp2;refine wp_scope_jumps 0 (PZ w (-(N:Int)) N) (λa' _=>(intOf (a'.tmps.getD 5 undef)).toNat) rfl ?_ ?_
  ·
   by_cases hm:9<N
   ·
    go_wp2;go_step3
    go_wp2;go_step3
    refine⟨rfl,19,N / 10,[0,0,0,0,0,0,0,0,0,0,0,0,0,0,0,0,0,0,0,48+(N:Int)%10],[UInt8.ofNat (48+N%10)],_,_,_,_,_,_,_,_,_,_,_,_,_,_,_,_,_,_,rfl,rfl,ω,ω,jC ω,rfl, ?_,xn _ _ _ rfl _,(Below.refl _ _).alloc (U3 _) _⟩;rw[List.map_cons,xQ];rfl
   have hdig:qL N=[UInt8.ofNat (48+N%10)]:=by rw[zD ω,Nat.mod_eq_of_lt ω]
   have hcv:=run_convert_bytes_arg (P:=prog) (w.alloc (.cells #[.int .u8 0, .int .u8 0, .int .u8 0, .int .u8 0, .int .u8 0, .int .u8 0, .int .u8 0, .int .u8 0, .int .u8 0, .int .u8 0, .int .u8 0, .int .u8 0, .int .u8 0, .int .u8 0, .int .u8 0, .int .u8 0, .int .u8 0, .int .u8 0, .int .u8 45, .int .u8 (48+(N:Int)%10)] 188)) 140 5 underlying140 underlying5 w.heap.size 18 2 2
    ((45::qL N).map (λc=>(c.toNat:Int))) (by rw[hdig];rfl) (by
     intro j hj;have:=(xn w [0,0,0,0,0,0,0,0,0,0,0,0,0,0,0,0,0,0,45,48+(N:Int)%10] #[.int .u8 0, .int .u8 0, .int .u8 0, .int .u8 0, .int .u8 0, .int .u8 0, .int .u8 0, .int .u8 0, .int .u8 0, .int .u8 0, .int .u8 0, .int .u8 0, .int .u8 0, .int .u8 0, .int .u8 0, .int .u8 0, .int .u8 0, .int .u8 0, .int .u8 45, .int .u8 (48+(N:Int)%10)] rfl 188) (18+j) τ;rw[this.1,hdig];simp only[List.map_cons,xQ];match j,hj with|0,_=>rfl|1,_=>rfl) 9 underlying9
   rw[yQ,<-HI.o]at hcv;clear hdig;go_wp2;go_step3
   go_wp2;simp only[Exit.jump];go_ret;exact⟨rfl,(Below.refl _ _).alloc (U3 _) _⟩
  rintro a' w' ⟨i,m,xs,ds,u6,u7,u8,u9,u10,u11,u12,u13,u14,u15,u16,u17,u18,u19,u20,u21,u22,u23,rfl,hi,hm0,hmb,hD,hxs,hdr,hrow,hbel⟩;have h19:=kL N hNb;have hlp:=YX m;rw[hD,U1]at h19;have hi2:2<=i:=ω
  have HDR:=qA (mV (m:=m) hi ω hxs hdr);have HROW:=qA (hrow.set (i-1) ω (48+(m:Int)%10));obtain⟨hc1,hf1⟩:=hrow (i-1) ω;obtain⟨hc2,hf2⟩:=hrow (i-1-1) ω;have HD:=qA hD;have HX:=qA hxs;have HII:=qA hi;have hi3:i<=20:=ω
  clear hD hxs hdr hrow hi h19 hlp;by_cases hm:9<m
  ·
   go_wp2;go_step3
   rw[show(i:Int)-1=((i-1:Nat):Int) by omega,show(m:Int) / 10=((m / 10:Nat):Int) by omega];refine⟨rfl,⟨i-1,m / 10,_,UInt8.ofNat (48+m%10)::ds,_,_,_,_,_,_,_,_,_,_,_,_,_,_,_,_,_,_,rfl,by have:=HII.o;simp;omega,ω,ω,by rw[HD.o,jC ω];simp,by rw[List.length_set];exact HX.o,HDR.o,HROW.o,hbel.setCell (U3 _) _⟩, ?_⟩;simp[intOf]
   omega
  have hsl:=λW=>Ws w.heap.size ((i:Int)-1-1) (i-1-1) ω ω W
  have HROW2:=qA (HROW.o.set (i-1-1) (by rw[List.length_set,HX.o];omega) 45);have hdig:qL N=UInt8.ofNat (48+m%10)::ds:=by rw[HD.o,zD ω,Nat.mod_eq_of_lt ω];rfl
  have hXS:(((xs.set (i-1) (48+(m:Int)%10)).set (i-1-1) 45).drop (i-1-1))=(45::qL N).map (λc=>(c.toNat:Int)):=by
   rw[Yw (i-1-1) _ (by rw[List.length_set,HX.o];omega),show i-1-1+1=i-1 by omega,HDR.o,hdig];rfl
  have hcv:=run_convert_bytes_arg (P:=prog) ((w'.setCell ⟨w.heap.size,i-1,none⟩ (.int .u8 (48+(m:Int)%10))).setCell ⟨w.heap.size,i-1-1,none⟩ (.int .u8 45)) 140 5 underlying140 underlying5 w.heap.size (i-1-1) (20-(i-1-1)) (20-(i-1-1))
   ((45::qL N).map (λc=>(c.toNat:Int))) (by rw[<-hXS];simp[HX.o]) (by
    intro j hj;have:=HROW2.o ((i-1-1)+j) (by simp[HX.o];omega);rw[this.1,<-hXS];simp[List.getD]) 9 underlying9
  rw[yQ,<-HI.o]at hcv;clear hXS hdig;go_wp2;simp only[Exit.jump];go_ret;exact⟨rfl,(hbel.setCell (U3 _) _).setCell (U3 _) _⟩
 obtain⟨N,rfl⟩:=Int.eq_ofNat_of_zero_le (show 0<=n by omega);have HI:=qA (show jO (N:Int)=qL N by unfold jO;rw[U5 hn];rfl);have hNb:N<=9223372036854775808:=ω
 go_enter func69,ntmps69
 go_wp2;refine wp_scope_jumps 0 (PZ w (N:Int) N) (λa' _=>(intOf (a'.tmps.getD 5 undef)).toNat) rfl ?_ ?_
 ·
  by_cases hm:9<N
  ·
   go_wp2;go_step3
   go_wp2;go_step3
   refine⟨rfl,19,N / 10,[0,0,0,0,0,0,0,0,0,0,0,0,0,0,0,0,0,0,0,48+(N:Int)%10],[UInt8.ofNat (48+N%10)],_,_,_,_,_,_,_,_,_,_,_,_,_,_,_,_,_,_,rfl,rfl,ω,ω,jC ω,rfl, ?_,xn _ _ _ rfl _,(Below.refl _ _).alloc (U3 _) _⟩;rw[List.map_cons,xQ];rfl
  have hdig:qL N=[UInt8.ofNat (48+N%10)]:=by rw[zD ω,Nat.mod_eq_of_lt ω]
  have hcv:=run_convert_bytes_arg (P:=prog) (w.alloc (.cells #[.int .u8 0, .int .u8 0, .int .u8 0, .int .u8 0, .int .u8 0, .int .u8 0, .int .u8 0, .int .u8 0, .int .u8 0, .int .u8 0, .int .u8 0, .int .u8 0, .int .u8 0, .int .u8 0, .int .u8 0, .int .u8 0, .int .u8 0, .int .u8 0, .int .u8 0, .int .u8 (48+(N:Int)%10)] 188)) 140 5 underlying140 underlying5 w.heap.size 19 1 1
   ((qL N).map (λc=>(c.toNat:Int))) (by rw[hdig];rfl) (by
    intro j hj;have:=(xn w [0,0,0,0,0,0,0,0,0,0,0,0,0,0,0,0,0,0,0,48+(N:Int)%10] #[.int .u8 0, .int .u8 0, .int .u8 0, .int .u8 0, .int .u8 0, .int .u8 0, .int .u8 0, .int .u8 0, .int .u8 0, .int .u8 0, .int .u8 0, .int .u8 0, .int .u8 0, .int .u8 0, .int .u8 0, .int .u8 0, .int .u8 0, .int .u8 0, .int .u8 0, .int .u8 (48+(N:Int)%10)] rfl 188) (19+j) τ;rw[this.1,hdig];simp only[List.map_cons,xQ];match j,hj with|0,_=>rfl) 9 underlying9
  rw[yQ,<-HI.o]at hcv;clear hdig;go_wp2;go_step3
  go_wp2;simp only[Exit.jump];go_ret;exact⟨rfl,(Below.refl _ _).alloc (U3 _) _⟩
 rintro a' w' ⟨i,m,xs,ds,u6,u7,u8,u9,u10,u11,u12,u13,u14,u15,u16,u17,u18,u19,u20,u21,u22,u23,rfl,hi,hm0,hmb,hD,hxs,hdr,hrow,hbel⟩;have h19:=kL N hNb;have hlp:=YX m;rw[hD,U1]at h19;have hi2:2<=i:=ω
 have HDR:=qA (mV (m:=m) hi ω hxs hdr);have HROW:=qA (hrow.set (i-1) ω (48+(m:Int)%10));obtain⟨hc1,hf1⟩:=hrow (i-1) ω;obtain⟨hc2,hf2⟩:=hrow (i-1-1) ω;have HD:=qA hD;have HX:=qA hxs;have HII:=qA hi;have hi3:i<=20:=ω
 clear hD hxs hdr hrow hi h19 hlp;by_cases hm:9<m
 ·
  go_wp2;go_step3
  rw[show(i:Int)-1=((i-1:Nat):Int) by omega,show(m:Int) / 10=((m / 10:Nat):Int) by omega];refine⟨rfl,⟨i-1,m / 10,_,UInt8.ofNat (48+m%10)::ds,_,_,_,_,_,_,_,_,_,_,_,_,_,_,_,_,_,_,rfl,by have:=HII.o;simp;omega,ω,ω,by rw[HD.o,jC ω];simp,by rw[List.length_set];exact HX.o,HDR.o,HROW.o,hbel.setCell (U3 _) _⟩, ?_⟩;simp[intOf]
  omega
 have hsl:=λW=>Ws w.heap.size ((i:Int)-1) (i-1) ω ω W
 have HROW2:=qA HROW.o;have hdig:qL N=UInt8.ofNat (48+m%10)::ds:=by rw[HD.o,zD ω,Nat.mod_eq_of_lt ω];rfl
 have hXS:((xs.set (i-1) (48+(m:Int)%10)).drop (i-1))=(qL N).map (λc=>(c.toNat:Int)):=by
  rw[HDR.o,hdig]
 have hcv:=run_convert_bytes_arg (P:=prog) (w'.setCell ⟨w.heap.size,i-1,none⟩ (.int .u8 (48+(m:Int)%10))) 140 5 underlying140 underlying5 w.heap.size (i-1) (20-(i-1)) (20-(i-1))
  ((qL N).map (λc=>(c.toNat:Int))) (by rw[<-hXS];simp[HX.o]) (by
   intro j hj;have:=HROW2.o ((i-1)+j) (by simp[HX.o];omega);rw[this.1,<-hXS];simp[List.getD]) 9 underlying9
 rw[yQ,<-HI.o]at hcv;clear hXS hdig;go_wp2;simp only[Exit.jump];go_ret;exact⟨rfl,hbel.setCell (U3 _) _⟩
theorem VK {a b:Φ} {x:Value} (h:a=b):Ending.returned (.tuple #[a,x])=.returned (.tuple #[b,x]):=by rw[h]
theorem Ph {W w1:World} (hb:Below W.heap.size W w1):(∀ b o,b<W.heap.size->w1.cell? ⟨b,o,none⟩=W.cell? ⟨b,o,none⟩)/\(∀ b o,b<W.heap.size->w1.frozen? ⟨b,o,none⟩=W.frozen? ⟨b,o,none⟩):=
 ⟨λb o h=>hb.cell (p:=⟨b,o,none⟩) h,λb o h=>hb.frozen (p:=⟨b,o,none⟩) h⟩
theorem lV (W:World) (b:Nat) (x y:Int) (h0:W.cell? (b,0)=some (.int .u8 x)) (h1:W.cell? (b,1)=some (.int .u8 y)):
  (convert 140 9 ((b,0,2,2):Z)).run prog W=.ok (.string ⟨#[UInt8.ofNat x.toNat,UInt8.ofNat y.toNat]⟩) W:=
 run_convert_bytes_arg W 140 5 underlying140 underlying5 b 0 2 2 [x,y] rfl (by
  intro i hi
  match i,hi with
  |0,_=>simpa using h0
  |1,_=>simpa using h1) 9 underlying9
theorem az (c:Int) (t:Ψ) (e:Int) (H:Hid (qW c=(t,e))) (w:World):
  Calls prog 152 #[.int .i64 c] w λr w'=>r= .returned (.tuple #[qP t, .int .i64 e])/\Below w.heap.size w w':=by
 have H':=H.o;unfold qW at H';clear H;by_cases h0:c<0
 ·
  rw[U6 (.inl h0),qAF]at H';obtain⟨rfl,rfl⟩:=H';go_enter func152,ntmps152
  go_wp2;go_ret2;exact⟨rfl,Below.refl _ _⟩
 by_cases h1:1000000<c
 ·
  rw[U6 (.inr h1),qAF]at H';obtain⟨rfl,rfl⟩:=H';go_enter func152,ntmps152
  go_wp2;go_ret2;exact⟨rfl,Below.refl _ _⟩
 rw[U5 (λk=>k.elim h0 h1),qAF]at H';obtain⟨rfl,rfl⟩:=H';obtain⟨N,rfl⟩:=Int.eq_ofNat_of_zero_le (show 0<=c by omega);have hl:=kL (N / 100) ω;have HT:=qA (show jO ((N:Int) / 100)=qL (N / 100) by unfold jO;rw[U5 ω];congr 1);have hcv:=lV;have ha1:=λW=>run_string_add_sum (P:=prog) W ⟨(qL (N / 100)).toArray⟩ ⟨#[46]⟩ (by
  show(qL (N / 100)).toArray.size+1<=_
  simp
  omega)
 have ha2:=λW=>run_string_add_sum (P:=prog) W (ByteArray.mk (qL (N / 100)).toArray++⟨#[46]⟩) ⟨#[UInt8.ofNat (48+(N:Int)%100 / 10).toNat,UInt8.ofNat (48+(N:Int)%10).toNat]⟩ (by
  rw[ByteArray.size_append];show(qL (N / 100)).toArray.size+1+2<=_
  simp
  omega)
 have b1: -9223372036854775808<=(N:Int) / 100:=ω
 have b2:(N:Int) / 100<=9223372036854775807:=ω
 go_enter func152,ntmps152
 go_wp2;have e1:IntKind.i64.wrap ((N:Int) / 100)=(N:Int) / 100:=IntWalk.i64_in _ ω;have e2:IntKind.i64.wrap (((N:Int)%100).tdiv 10)=(N:Int)%100 / 10:=by rw[Int.tdiv_eq_ediv_of_nonneg ω];exact IntWalk.i64_in _ ω
 have e3:((N:Int)%100).tmod 10=(N:Int)%10:=by rw[Int.tmod_eq_emod_of_nonneg ω];omega
 have e4:IntKind.i64.wrap (48+(N:Int)%100 / 10)=48+(N:Int)%100 / 10:=IntWalk.i64_in _ ω;have e5:IntKind.u8.wrap (48+(N:Int)%100 / 10)=48+(N:Int)%100 / 10:=IntWalk.u8_in _ ω;have e6:IntKind.i64.wrap (48+(N:Int)%10)=48+(N:Int)%10:=IntWalk.i64_in _ ω;have e7:IntKind.u8.wrap (48+(N:Int)%10)=48+(N:Int)%10:=IntWalk.u8_in _ ω;go_region_with (go_at_call 69;refine(KA _ b1 b2 _).mono ?_;rintro e w1 ⟨rfl,hb⟩;rw[HT.o];obtain⟨hc,hf⟩:=Ph hb)
 all_goals clear e1 e2 e3 e4 e5 e6 e7
 all_goals go_wp2
 all_goals go_ret2
 all_goals
  refine⟨VK ?_, ?_⟩
  ·
   apply ByteArray.ext
   have e8:UInt8.ofNat (48+(N:Int)%100 / 10).toNat=UInt8.ofNat (48+N / 10%10):=by congr 1;omega
   have e9:UInt8.ofNat (48+(N:Int)%10).toNat=UInt8.ofNat (48+N%10):=by congr 1
   rw[e8,e9];simp[JL]
  repeat(first|exact qB _|refine qH ?_|refine qE ?_ _|refine qF ?_ hb)
