/- Contracts, proved. Conditions: each contract's own. -/
import Derived.Test.YtakedkcjplfgeaaGreatDoorRows
import Derived.Test.YtakedkcjplfgeaaGreatDoorMPkPlain
import Derived.WalkSpells
import Derived.WalkLawsBesides
import Derived.Lib.Hide
import Derived.Test.YtakedkcjplfgeaaGreatDoorMPkBase
set_option maxRecDepth 1000000
set_option maxHeartbeats 32000000
namespace Go.Proofs.YtakedkcjplfgeaaGreatDoor.Nu
open Go.RowKit
open Num
theorem qR {k:IntKind} {a b:Int} (h:a=b):Ending.returned (.int k a)= .returned (.int k b):=by rw[h]
theorem qO {a b:Bool} (h:a=b):Ending.returned (.bool a)= .returned (.bool b):=by rw[h]
theorem CY (s:ByteArray): ∃ p:Nat,p<=s.size/\(∀ k (h:k<s.size),k<p->qV (s[k]'h)=true)/\ ∀ h:p<s.size,qV (s[p]'h)=false:=by
 suffices H: ∀ n,n<=s.size->(∀ k (h:k<s.size),k<s.size-n->qV (s[k]'h)=true)-> ∃ p:Nat,p<=s.size/\(∀ k (h:k<s.size),k<p->qV (s[k]'h)=true)/\ ∀ h:p<s.size,qV (s[p]'h)=false from
  H s.size (Nat.le_refl _) (fun k h hk=>by omega)
 intro n;induction n with
 |zero=>intro _ h;exact⟨s.size,Nat.le_refl _,fun k hk _=>h k hk (by omega),fun h=>absurd h (by omega)⟩
 |succ n ih=>
  intro hn h;by_cases hd:qV (s[s.size-(n+1)]'(by omega))=true
  ·
   refine ih (by omega) fun k hk hlt=>?_
   by_cases e:k=s.size-(n+1)
   · subst e;exact hd
   · exact h k hk (by omega)
  · exact⟨s.size-(n+1),by omega,h,fun _=>by simpa using hd⟩
theorem qw (s:ByteArray) (k:Nat) (h:k<s.size):s.data.toList[k]'(by simpa using h)=s[k]'h:=by simp;rfl
theorem yt (s:ByteArray):zC s.data.toList=true↔ ∀ k (h:k<s.size),qV (s[k]'h)=true:=by
 simp only[zC,List.all_eq_true];constructor
 ·
  intro h k hk;have:=h (s.data.toList[k]'(by simpa using hk)) (List.getElem_mem _);rwa [qw s k hk]at this
 ·
  intro h c hc;obtain⟨k,hk,rfl⟩:=List.getElem_of_mem hc;have hk':k<s.size:=by simpa using hk
  rw[qw s k hk'];exact h k hk'
theorem yY {c:UInt8} (h:qV c=true):48<=(c.toNat:Int)/\(c.toNat:Int)<=57:=by
 rw[jg]at h;omega
theorem VF {c:UInt8} (h:qV c=false):(c.toNat:Int)<48∨57<(c.toNat:Int):=by
 have: ¬ (48<=c.toNat/\c.toNat<=57):=by rw[<-jg,h];simp
 omega
theorem Zd (s:ByteArray):zN s.data.toList=(zC s.data.toList&& !decide (s.size=0)&&(if h:0<s.size then decide ((s[0]'h).toNat≠48)||decide (s.size=1)else true)):=by
 by_cases h:0<s.size
 ·
  have h':0<s.data.toList.length:=by simpa using h
  cases hl:s.data.toList with
  |nil=>rw[hl]at h';simp at h'
  |cons a t=>
   have ha:s[0]'h=a:=by rw[<-qw s 0 h];simp[hl]
   have hsz:s.size=t.length+1:=by
    have:s.data.toList.length=s.size:=by simp
    rw[hl]at this;simpa using this.symm
   have h48:(a=48)↔a.toNat=48:=⟨fun e=>by rw[e];rfl,fun e=>UInt8.toNat.inj (by simpa using e)⟩;simp only[zN,ha,hsz];by_cases h1:a=48
   · cases t<;>simp[h1]
   ·
    have h2: ¬ a.toNat=48:=fun e=>h1 (h48.2 e)
    simp[h1,h2]
 ·
  have h0:s.size=0:=by omega
  have:s.data.toList=[]:=List.length_eq_zero_iff.1 (by simpa using h0);simp[zN,this,h0]
theorem xP {B:Nat} {w0 w:World} (h:Below B w0 w) (hB:B<=w.heap.size) (s:ByteArray) (pos:Nat):Below B w0 (w.iter s pos):=h.alloc hB _
theorem wK {s:ByteArray} (h:s.size=0):s.toList=[]:=by
 rw[ByteArray.toList_eq];exact List.length_eq_zero_iff.1 (by simpa using h)
theorem jG {s:ByteArray} (h: ¬ s.size=0): ¬ s.toList=[]:=by
 rw[ByteArray.toList_eq];intro e;exact h (by simpa using congrArg List.length e)
theorem jQ {s:ByteArray} (h: ¬ s.size=0):s.toList.isEmpty=false:=by
 have:=jG h;simpa using this
theorem VG (s:ByteArray) (w:World):
  Calls Tryz.prog 241 #[.string s] w fun e w'=>e= .returned (.bool (zN s.data.toList))/\Below w.heap.size w w':=by
 obtain⟨p,hp,hd,hn⟩:=CY s;have hcan:=qA (Zd s);go_enter Tryz.func241,Tryz.ntmps241
 go_wp2;go_loopw [4] (fun _ w'=> ∃ pos:Nat,pos<=p/\w'=w.iter s pos) (fun _ w'=>s.size-w'.iterPos w.heap.size)
 case atStart=>exact⟨0,Nat.zero_le _,rfl⟩
 case round=>
  obtain⟨pos,hpos,rfl⟩:=hrel;by_cases h1:pos<p
  ·
   have hps:pos<s.size:=by omega
   have hdg:=yY (hd pos hps h1);have hnx: ∀ ty,(Instr.next (.pointer (some ⟨w.heap.size,0,none⟩)) true ty).run Tryz.prog (w.iter s pos)=_:=fun ty=>run_next_ascii w s pos ty hps (by omega)
   go_wp2;go_roundw;case rel=>exact⟨pos+1,by omega,rfl⟩
   case measure=>simp;omega
  ·
   obtain rfl:pos=p:=by omega
   by_cases h2:pos<s.size
   ·
    have hnd:=VF (hn h2);have hf:zN s.data.toList=false:=by
     rw[hcan.out];have:zC s.data.toList=false:=by
      rw[Bool.eq_false_iff,Ne,yt];intro h;have:=h pos h2;rw[hn h2]at this;simp at this
     simp[this]
    have HF:=qA hf;clear hf hcan;by_cases h3:(s[pos]'h2).toNat<128
    ·
     have hnx: ∀ ty,(Instr.next (.pointer (some ⟨w.heap.size,0,none⟩)) true ty).run Tryz.prog (w.iter s pos)=_:=fun ty=>run_next_ascii w s pos ty h2 h3
     rcases hnd with hnd|hnd
     all_goals
      go_wp2;go_ret;exact⟨qO HF.out.symm,xP (Below.refl _ _) (Nat.le_refl _) _ _⟩
    ·
     have hnx: ∀ ty,(Instr.next (.pointer (some ⟨w.heap.size,0,none⟩)) true ty).run Tryz.prog (w.iter s pos)=_:=fun ty=>run_next_any w s pos ty h2
     have hh:=decode_high s pos h2 (by omega);obtain⟨r,hr⟩: ∃ r,r=(Utf8.decode s pos).1:=⟨_,rfl⟩;go_wp2;all_goals
      go_ret;exact⟨qO HF.out.symm,xP (Below.refl _ _) (Nat.le_refl _) _ _⟩
   ·
    have hnx: ∀ ty,(Instr.next (.pointer (some ⟨w.heap.size,0,none⟩)) true ty).run Tryz.prog (w.iter s pos)=_:=fun ty=>run_next_end w s pos ty h2
    have had:zC s.data.toList=true:=by
     rw[yt];intro k hk;exact hd k hk (by omega)
    by_cases h0:s.size=0
    ·
     have hs:s.toList=[]:=wK h0;have HF:=qA (show zN s.data.toList=false by rw[hcan.out];simp[h0]);clear hcan hd hn;go_wp2;go_ret;exact⟨qO HF.out.symm,xP (Below.refl _ _) (Nat.le_refl _) _ _⟩
    ·
     have HF:=qA (show zN s.data.toList=(decide ((s[0]'(by omega)).toNat≠48)||decide (s.size=1)) by rw[hcan.out,had,dif_pos (by omega)];simp[h0]);have hne:=jG h0;have hne':=jQ h0;have hps:0<s.size:=by omega
     clear hcan hd hn;by_cases h4:((s[0]'hps).toNat:Int)=48
     ·
      have h6:(s[0]'hps).toNat=48:=by omega
      by_cases h5:(s.size:Int)=1
      ·
       have h7:s.size=1:=by omega
       go_wp2;go_ret;exact⟨qO (by rw[HF.out];simp[h6,h7]),xP (Below.refl _ _) (Nat.le_refl _) _ _⟩
      ·
       have h7: ¬ s.size=1:=by omega
       go_wp2;go_ret;exact⟨qO (by rw[HF.out];simp[h6,h7,h5]),xP (Below.refl _ _) (Nat.le_refl _) _ _⟩
     ·
      have h6: ¬ (s[0]'hps).toNat=48:=by omega
      go_wp2;go_ret;exact⟨qO (by rw[HF.out];simp[h6]),xP (Below.refl _ _) (Nat.le_refl _) _ _⟩
theorem Kq (s:ByteArray) (k:Nat) (h:k<s.size):val (s.data.toList.take (k+1))=10*val (s.data.toList.take k)+((s[k]'h).toNat-48):=by
 have hk:k<s.data.toList.length:=by simpa using h
 rw[List.take_succ_eq_append_getElem hk,ZY,qw s k h]
theorem VT (s:ByteArray) (lim:Nat) (hl:lim<=9223372036854775808) (hd:zC s.data.toList=true) (hs:s.size<=maxLen) (hv:val s.data.toList<=lim) (w:World):
  Calls Tryz.prog 242 #[.string s, .int .u64 lim] w fun e w'=>e= .returned (.tuple #[.int .u64 (val s.data.toList), .bool true])/\w=w':=by
 unfold maxLen at hs;rw[yt]at hd;have HD:=qA hd;clear hd;go_enter Tryz.func242,Tryz.ntmps242
 go_wp2;go_loop [6,11] (fun m i=> ∃ k v:Nat,k<=s.size/\i= .int .i64 k/\m= .int .u64 v/\v<=lim/\Hid (val (s.data.toList.take k)=v)) (fun _ i=>s.size-(intOf i).toNat)
 case atStart=>exact⟨0,0,by omega,rfl,rfl,by omega,rfl⟩
 case round=>
  obtain⟨k,v,hk,rfl,rfl,hvl,HV⟩:=hrel;by_cases hlt:k<s.size
  ·
   have hb:=yY (HD.out k hlt);have hst:=Kq s k hlt;have hle:=rF s.data.toList (k+1);rw[hst,HV.out]at hle;have HS:=qA hst;have hno: ¬ ((lim:Int)-(((s[k]'hlt).toNat:Int)-48)) / 10<(v:Int):=by omega
   have hnw:10*(v:Int)+(((s[k]'hlt).toNat:Int)-48)<=9223372036854775808:=by omega
   clear hst;go_wp2;go_round;case rel=>exact⟨k+1,10*v+((s[k]'hlt).toNat-48),by omega,by go_num,by go_num,by omega,by rw[<-HV.out];exact HS.out⟩
   case measure=>simp[intOf];omega
  ·
   have HE:=qA (show v=val s.data.toList by rw[<-HV.out,List.take_of_length_le (by simp;omega)]);go_wp2;go_ret2;exact⟨by rw[<-HE.out];rfl,rfl⟩
theorem aZ (s:ByteArray) (lim:Nat) (h9:9<=lim) (hl:lim<=9223372036854775808) (hd:zC s.data.toList=true) (hs:s.size<=maxLen) (hv:lim<val s.data.toList) (w:World):
  Calls Tryz.prog 242 #[.string s, .int .u64 lim] w fun e w'=>e= .returned (.tuple #[.int .u64 0, .bool false])/\w=w':=by
 unfold maxLen at hs;rw[yt]at hd;have HD:=qA hd;clear hd;go_enter Tryz.func242,Tryz.ntmps242
 go_wp2;go_loop [6,11] (fun m i=> ∃ k v:Nat,k<=s.size/\i= .int .i64 k/\m= .int .u64 v/\v<=lim/\Hid (val (s.data.toList.take k)=v)) (fun _ i=>s.size-(intOf i).toNat)
 case atStart=>exact⟨0,0,by omega,rfl,rfl,by omega,rfl⟩
 case round=>
  obtain⟨k,v,hk,rfl,rfl,hvl,HV⟩:=hrel;by_cases hlt:k<s.size
  ·
   have hb:=yY (HD.out k hlt);have HS:=qA (Kq s k hlt);by_cases hover:10*(v:Int)+(((s[k]'hlt).toNat:Int)-48)<=lim
   ·
    have hno: ¬ ((lim:Int)-(((s[k]'hlt).toNat:Int)-48)) / 10<(v:Int):=by omega
    go_wp2;go_round;case rel=>exact⟨k+1,10*v+((s[k]'hlt).toNat-48),by omega,by go_num,by go_num,by omega,by rw[<-HV.out];exact HS.out⟩
    case measure=>simp[intOf];omega
   ·
    have hno:((lim:Int)-(((s[k]'hlt).toNat:Int)-48)) / 10<(v:Int):=by omega
    go_wp2;go_ret2;exact⟨rfl,rfl⟩
  ·
   exfalso
   have:v=val s.data.toList:=by rw[<-HV.out,List.take_of_length_le (by simp;omega)]
   omega
theorem sH (n:Int) (h0:0<=n) (h1:n<=9):(ByteArray.mk #[48,49,50,51,52,53,54,55,56,57]).extract n.toNat (n+1).toNat=⟨#[UInt8.ofNat (48+n.toNat)]⟩:=by
 obtain⟨m,rfl⟩:=Int.eq_ofNat_of_zero_le h0;match m,h1 with
 |0,_|1,_|2,_|3,_|4,_|5,_|6,_|7,_|8,_|9,_=>rfl
 |k+10,h=>omega
theorem We (n:Int) (h0:0<=n) (h1:n<=9) (w:World):
  Calls Tryz.prog 157 #[.int .i64 n] w fun e w'=>e= .returned (.string ⟨#[UInt8.ofNat (48+n.toNat)]⟩)/\w=w':=by
 have ht:=qA (sH n h0 h1);go_enter Tryz.func157,Tryz.ntmps157
 go_wp2;go_ret;exact⟨by rw[<-ht.out];rfl,rfl⟩
theorem wI {k:IntKind} {a b:Int} {x:Value} (h:a=b):Ending.returned (.tuple #[.int k a,x])= .returned (.tuple #[.int k b,x]):=by rw[h]
theorem yf (s:ByteArray) (b:Bool) (h:Hid (zN s.data.toList=b)) (w:World):
  Calls Tryz.prog 241 #[.string s] w fun e w'=>e= .returned (.bool b)/\Below w.heap.size w w':=
 (VG s w).mono fun _ _ ⟨he,hw⟩=>⟨by rw[he,h.out],hw⟩
theorem Q9 {l:List UInt8} (h:zN l=true):zC l=true:=by
 simp only[zN,Bool.and_eq_true]at h;exact h.1.1
theorem Eo {l:List UInt8} (h:zN l=true):l≠[]:=by
 rintro rfl;simp[zN]at h
theorem KZ {s:ByteArray} (h:s.size=0):s.data.toList=[]:=List.length_eq_zero_iff.1 (by simpa using h)
theorem EO (s:ByteArray):(s.extract 1 s.size).data.toList=s.data.toList.tail:=by
 rw[Lib.extract_data];simp[List.take_of_length_le]
theorem EP (s:ByteArray):(s.extract 1 s.size).size=s.size-1:=by simp[ByteArray.size_extract]
theorem Pn (s:ByteArray):(s.toList==[48])=decide (s.data.toList=[48]):=by
 rw[ByteArray.toList_eq,Bool.eq_iff_iff];simp
theorem dQ (s:ByteArray) (h:0<s.size):s.data.toList.head?=some (s[0]'h):=by
 rw[List.head?_eq_getElem?,List.getElem?_eq_getElem (by simpa using h),qw s 0 h]
theorem Ci (s:ByteArray) (h: ¬ 0<s.size):s.data.toList.head?=none:=by
 have:s.data.toList=[]:=KZ (by omega);rw[this];rfl
inductive Way (s:ByteArray) (n e:Int):Prop
 |minusBad (h:0<s.size) (h45:((s[0]'h).toNat:Int)=45) (hc:Hid (zN (s.extract 1 s.size).data.toList=false)) (hn:n=0) (he:e=3)
 |minusZero (h:0<s.size) (h45:((s[0]'h).toNat:Int)=45) (hc:Hid (zN (s.extract 1 s.size).data.toList=true)) (hz:((s.extract 1 s.size).toList==[48])=true) (hn:n=0) (he:e=3)
 |minusBig (h:0<s.size) (h45:((s[0]'h).toNat:Int)=45) (hc:Hid (zN (s.extract 1 s.size).data.toList=true)) (hz:((s.extract 1 s.size).toList==[48])=false) (hv:Hid (9223372036854775808<val (s.extract 1 s.size).data.toList)) (hn:n=0) (he:e=2)
 |minus (h:0<s.size) (h45:((s[0]'h).toNat:Int)=45) (hc:Hid (zN (s.extract 1 s.size).data.toList=true)) (hz:((s.extract 1 s.size).toList==[48])=false) (v:Nat) (hv:Hid (val (s.extract 1 s.size).data.toList=v)) (hp:0<v) (hm:v<=9223372036854775808) (hn:n= -(v:Int)) (he:e=0)
 |bad (h: ∀ h:0<s.size,¬ ((s[0]'h).toNat:Int)=45) (hc:Hid (zN s.data.toList=false)) (hn:n=0) (he:e=3)
 |plus (h0:0<s.size) (h: ¬ ((s[0]'h0).toNat:Int)=45) (hc:Hid (zN s.data.toList=true)) (v:Nat) (hv:Hid (val s.data.toList=v)) (hm:v<=9223372036854775807) (hn:n=(v:Int)) (he:e=0)
 |plusBig (h0:0<s.size) (h: ¬ ((s[0]'h0).toNat:Int)=45) (hc:Hid (zN s.data.toList=true)) (hv:Hid (9223372036854775807<val s.data.toList)) (hn:n=0) (he:e=2)
theorem DZ {s:ByteArray} {n e:Int} (h:kF s.data.toList=(n,e)):Way s n e:=by
 unfold kF at h;by_cases hs:0<s.size
 ·
  by_cases h45:((s[0]'hs).toNat:Int)=45
  ·
   have e45:s[0]'hs=45:=UInt8.toNat.inj (by simpa using(by omega:(s[0]'hs).toNat=45));rw[if_pos (by rw[dQ s hs,e45])]at h;rw[<-EO]at h;by_cases hc:zN (s.extract 1 s.size).data.toList=true
   ·
    by_cases hz:(s.extract 1 s.size).data.toList=[48]
    ·
     rw[if_neg (fun k=>k.2 hz),Prod.mk.injEq]at h;exact .minusZero hs h45 hc (by rw[Pn];exact decide_eq_true hz) h.1.symm h.2.symm
    ·
     rw[if_pos ⟨hc,hz⟩]at h;have hz':((s.extract 1 s.size).toList==[48])=false:=by rw[Pn];exact decide_eq_false hz
     have hp:=NQ hc hz;by_cases hv:val (s.extract 1 s.size).data.toList<=big+1
     ·
      rw[if_pos hv,Prod.mk.injEq]at h;exact .minus hs h45 hc hz' _ rfl hp (by unfold big at hv;exact hv) h.1.symm h.2.symm
     ·
      rw[if_neg hv,Prod.mk.injEq]at h;exact .minusBig hs h45 hc hz' (by unfold big at hv;show _<_;omega) h.1.symm h.2.symm
   ·
    rw[if_neg (fun k=>hc k.1),Prod.mk.injEq]at h;exact .minusBad hs h45 (Bool.eq_false_iff.2 hc) h.1.symm h.2.symm
  ·
   have h45': ¬ s.data.toList.head?=some 45:=by
    rw[dQ s hs];intro k;simp only[Option.some.injEq]at k;rw[k]at h45;exact h45 rfl
   rw[if_neg h45']at h;by_cases hc:zN s.data.toList=true
   ·
    rw[if_pos hc]at h;by_cases hv:val s.data.toList<=big
    ·
     rw[if_pos hv,Prod.mk.injEq]at h;exact .plus hs h45 hc _ rfl (by unfold big at hv;exact hv) h.1.symm h.2.symm
    ·
     rw[if_neg hv,Prod.mk.injEq]at h;exact .plusBig hs h45 hc (by unfold big at hv;show _<_;omega) h.1.symm h.2.symm
   ·
    rw[if_neg hc,Prod.mk.injEq]at h;exact .bad (fun _=>h45) (Bool.eq_false_iff.2 hc) h.1.symm h.2.symm
 ·
  rw[if_neg (by rw[Ci s hs];simp)]at h;have hc:zN s.data.toList=false:=by
   have:s.data.toList=[]:=KZ (by omega);rw[this];rfl
  rw[hc,if_neg (by simp),Prod.mk.injEq]at h;exact .bad (fun k=>absurd k hs) hc h.1.symm h.2.symm
theorem Lu (v:Nat) (h0:0<v) (h1:v<=9223372036854775808):wrap64 (IntKind.u64.wrap (-(v:Int)))= -(v:Int):=by
 have e:IntKind.u64.wrap (-(v:Int))=(-(v:Int))%18446744073709551616:=by
  simp[IntKind.wrap,IntKind.signed,IntKind.bits]
 rw[e];unfold wrap64;omega
theorem iC (s:ByteArray) (n e:Int) (H:Hid (kF s.data.toList=(n,e))) (hs:s.size<=maxLen) (w:World):
  Calls Tryz.prog 185 #[.string s] w fun r w'=>r= .returned (.tuple #[.int .i64 n, .int .i64 e])/\Below w.heap.size w w':=by
 unfold maxLen at hs;have hts:(s.extract 1 s.size).size<=maxLen:=by rw[EP];unfold maxLen;omega
 have HTS:=qA hts;clear hts;rcases DZ H.out with⟨h,h45,hc,rfl,rfl⟩|⟨h,h45,hc,hz,rfl,rfl⟩|⟨h,h45,hc,hz,hv,rfl,rfl⟩|⟨h,h45,hc,hz,v,hv,hp,hm,hn,rfl⟩|⟨h,hc,rfl,rfl⟩|⟨h0,h,hc,v,hv,hm,hn,rfl⟩|⟨h0,h,hc,hv,rfl,rfl⟩
 ·
  have hne:=jG (s:=s) (by omega);have hne':=jQ (s:=s) (by omega);go_enter Tryz.func185,Tryz.ntmps185
  go_wp2_with (go_at_call 241;refine(yf _ _ hc _).mono ?_;rintro e w1 ⟨rfl,hb⟩)
  go_ret2;exact⟨rfl,hb⟩
 ·
  have hne:=jG (s:=s) (by omega);have hne':=jQ (s:=s) (by omega);go_enter Tryz.func185,Tryz.ntmps185
  go_wp2_with (go_at_call 241;refine(yf _ _ hc _).mono ?_;rintro e w1 ⟨rfl,hb⟩)
  go_ret2;exact⟨rfl,hb⟩
 ·
  have hne:=jG (s:=s) (by omega);have hne':=jQ (s:=s) (by omega);go_enter Tryz.func185,Tryz.ntmps185
  go_wp2_with (first
   |(go_at_call 241;refine(yf _ _ hc _).mono ?_;rintro e w1 ⟨rfl,hb⟩)
   |(go_at_call 242;refine(aZ _ 9223372036854775808 (by omega) (by omega) (Q9 hc.out) HTS.out hv.out _).mono ?_;rintro e w2 ⟨rfl,rfl⟩))
  go_ret2;exact⟨rfl,hb⟩
 ·
  have hne:=jG (s:=s) (by omega);have hne':=jQ (s:=s) (by omega);have HN:=qA hn;have HU:=qA (Lu v hp hm);clear hn;go_enter Tryz.func185,Tryz.ntmps185
  go_wp2_with (first
   |(go_at_call 241;refine(yf _ _ hc _).mono ?_;rintro e w1 ⟨rfl,hb⟩)
   |(go_at_call 242;refine(VT _ 9223372036854775808 (by omega) (Q9 hc.out) HTS.out (by rw[hv.out];exact hm) _).mono ?_;rintro e w2 ⟨rfl,rfl⟩;rw[hv.out]))
  go_ret2;exact⟨wI (by rw[HU.out,HN.out]),hb⟩
 ·
  by_cases h0:0<s.size
  ·
   have h':=h h0;have hne:=jG (s:=s) (by omega);have hne':=jQ (s:=s) (by omega);clear h;go_enter Tryz.func185,Tryz.ntmps185
   go_wp2_with (go_at_call 241;refine(yf _ _ hc _).mono ?_;rintro e w1 ⟨rfl,hb⟩)
   go_ret2;exact⟨rfl,hb⟩
  ·
   have hne:=wK (s:=s) (by omega);clear h;go_enter Tryz.func185,Tryz.ntmps185
   go_wp2_with (go_at_call 241;refine(yf _ _ hc _).mono ?_;rintro e w1 ⟨rfl,hb⟩)
   go_ret2;exact⟨rfl,hb⟩
 ·
  have hne:=jG (s:=s) (by omega);have hne':=jQ (s:=s) (by omega);have HN:=qA hn;clear hn;go_enter Tryz.func185,Tryz.ntmps185
  go_wp2_with (first
   |(go_at_call 241;refine(yf _ _ hc _).mono ?_;rintro e w1 ⟨rfl,hb⟩)
   |(go_at_call 242;refine(VT _ 9223372036854775807 (by omega) (Q9 hc.out) hs (by rw[hv.out];exact hm) _).mono ?_;rintro e w2 ⟨rfl,rfl⟩;rw[hv.out]))
  go_ret2;exact⟨wI (by rw[HN.out]),hb⟩
 ·
  have hne:=jG (s:=s) (by omega);have hne':=jQ (s:=s) (by omega);go_enter Tryz.func185,Tryz.ntmps185
  go_wp2_with (first
   |(go_at_call 241;refine(yf _ _ hc _).mono ?_;rintro e w1 ⟨rfl,hb⟩)
   |(go_at_call 242;refine(aZ _ 9223372036854775807 (by omega) (by omega) (Q9 hc.out) hs hv.out _).mono ?_;rintro e w2 ⟨rfl,rfl⟩))
  go_ret2;exact⟨rfl,hb⟩
end Go.Proofs.YtakedkcjplfgeaaGreatDoor.Nu
