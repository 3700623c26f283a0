/-
  PkNuA: what the law of feed needs of FNuNumWalksA, FNuNumWalksB, FNuNumWalksC. Conditions: those of each lemma.
-/
import Derived.Test.YtakedkcjplfgeaaGreatDoorRows
import Derived.Test.YtakedkcjplfgeaaGreatDoorPkPlain
import Derived.WalkKit
import Derived.WalkSpells
import Derived.WalkLawsBesides
import Derived.Lib.Hide
import Derived.Lib.IndexBytes
set_option maxRecDepth 1000000
set_option maxHeartbeats 32000000
namespace Go.Proofs.YtakedkcjplfgeaaGreatDoor.Nu
open Go.RowKit
open Num
theorem ret_int {k:IntKind} {a b:Int} (h:a=b):Ending.returned (.int k a)= .returned (.int k b):=by rw[h]
theorem ret_bool {a b:Bool} (h:a=b):Ending.returned (.bool a)= .returned (.bool b):=by rw[h]
theorem first_non (s:ByteArray): ∃ p:Nat,p≤s.size∧(∀ k (h:k<s.size),k<p→isDig (s[k]'h)=true)∧ ∀ h:p<s.size,isDig (s[p]'h)=false:=by
 suffices H: ∀ n,n≤s.size→(∀ k (h:k<s.size),k<s.size-n→isDig (s[k]'h)=true)→ ∃ p:Nat,p≤s.size∧(∀ k (h:k<s.size),k<p→isDig (s[k]'h)=true)∧ ∀ h:p<s.size,isDig (s[p]'h)=false from
  H s.size (Nat.le_refl _) (fun k h hk=>by omega)
 intro n;induction n with
 |zero=>intro _ h;exact⟨s.size,Nat.le_refl _,fun k hk _=>h k hk (by omega),fun h=>absurd h (by omega)⟩
 |succ n ih=>
  intro hn h;by_cases hd:isDig (s[s.size-(n+1)]'(by omega))=true
  ·
   refine ih (by omega) fun k hk hlt=>?_
   by_cases e:k=s.size-(n+1)
   · subst e;exact hd
   · exact h k hk (by omega)
  · exact⟨s.size-(n+1),by omega,h,fun _=>by simpa using hd⟩
theorem bytes_get (s:ByteArray) (k:Nat) (h:k<s.size):s.data.toList[k]'(by simpa using h)=s[k]'h:=by simp;rfl
theorem allDig_iff (s:ByteArray):allDig s.data.toList=true↔ ∀ k (h:k<s.size),isDig (s[k]'h)=true:=by
 simp only[allDig,List.all_eq_true];constructor
 ·
  intro h k hk;have:=h (s.data.toList[k]'(by simpa using hk)) (List.getElem_mem _);rwa [bytes_get s k hk]at this
 ·
  intro h c hc;obtain⟨k,hk,rfl⟩:=List.getElem_of_mem hc;have hk':k<s.size:=by simpa using hk
  rw[bytes_get s k hk'];exact h k hk'
theorem isDig_bounds {c:UInt8} (h:isDig c=true):48≤(c.toNat:Int)∧(c.toNat:Int)≤57:=by
 rw[isDig_iff]at h;omega
theorem not_dig {c:UInt8} (h:isDig c=false):(c.toNat:Int)<48∨57<(c.toNat:Int):=by
 have: ¬ (48≤c.toNat∧c.toNat≤57):=by rw[←isDig_iff,h];simp
 omega
theorem canon_parts (s:ByteArray):canon s.data.toList=(allDig s.data.toList&& !decide (s.size=0)&&(if h:0<s.size then decide ((s[0]'h).toNat≠48)||decide (s.size=1)else true)):=by
 by_cases h:0<s.size
 ·
  have h':0<s.data.toList.length:=by simpa using h
  cases hl:s.data.toList with
  |nil=>rw[hl]at h';simp at h'
  |cons a t=>
   have ha:s[0]'h=a:=by rw[←bytes_get s 0 h];simp[hl]
   have hsz:s.size=t.length+1:=by
    have:s.data.toList.length=s.size:=by simp
    rw[hl]at this;simpa using this.symm
   have h48:(a=48)↔a.toNat=48:=⟨fun e=>by rw[e];rfl,fun e=>UInt8.toNat.inj (by simpa using e)⟩;simp only[canon,ha,hsz];by_cases h1:a=48
   · cases t<;>simp[h1]
   ·
    have h2: ¬ a.toNat=48:=fun e=>h1 (h48.2 e)
    simp[h1,h2]
 ·
  have h0:s.size=0:=by omega
  have:s.data.toList=[]:=List.length_eq_zero_iff.1 (by simpa using h0);simp[canon,this,h0]
end Go.Proofs.YtakedkcjplfgeaaGreatDoor.Nu
namespace Go.Proofs.YtakedkcjplfgeaaGreatDoor.Nu
open Go.RowKit
open Num
theorem below_iter {B:Nat} {w0 w:World} (h:Below B w0 w) (hB:B≤w.heap.size) (s:ByteArray) (pos:Nat):Below B w0 (w.iter s pos):=h.alloc hB _
theorem toList_nil {s:ByteArray} (h:s.size=0):s.toList=[]:=by
 rw[ByteArray.toList_eq];exact List.length_eq_zero_iff.1 (by simpa using h)
theorem toList_ne {s:ByteArray} (h: ¬ s.size=0): ¬ s.toList=[]:=by
 rw[ByteArray.toList_eq];intro e;exact h (by simpa using congrArg List.length e)
theorem toList_ne' {s:ByteArray} (h: ¬ s.size=0):s.toList.isEmpty=false:=by
 have:=toList_ne h;simpa using this
theorem plain_c (s:ByteArray) (w:World):
  Calls Tryz.prog 241 #[.string s] w fun e w'=>e= .returned (.bool (canon s.data.toList))∧Below w.heap.size w w':=by
 obtain⟨p,hp,hd,hn⟩:=first_non s;have hcan:=Lib.hid (canon_parts s);go_enter Tryz.func241,Tryz.ntmps241
 go_wp2;go_loopw [4] (fun _ w'=> ∃ pos:Nat,pos≤p∧w'=w.iter s pos) (fun _ w'=>s.size-w'.iterPos w.heap.size)
 case atStart=>exact⟨0,Nat.zero_le _,rfl⟩
 case round=>
  obtain⟨pos,hpos,rfl⟩:=hrel;by_cases h1:pos<p
  ·
   have hps:pos<s.size:=by omega
   have hdg:=isDig_bounds (hd pos hps h1);have hnx: ∀ ty,(Instr.next (.pointer (some ⟨w.heap.size,0,none⟩)) true ty).run Tryz.prog (w.iter s pos)=_:=fun ty=>run_next_ascii w s pos ty hps (by omega)
   go_wp2;go_roundw;case rel=>exact⟨pos+1,by omega,rfl⟩
   case measure=>simp;omega
  ·
   obtain rfl:pos=p:=by omega
   by_cases h2:pos<s.size
   ·
    have hnd:=not_dig (hn h2);have hf:canon s.data.toList=false:=by
     rw[hcan.out];have:allDig s.data.toList=false:=by
      rw[Bool.eq_false_iff,Ne,allDig_iff];intro h;have:=h pos h2;rw[hn h2]at this;simp at this
     simp[this]
    have HF:=Lib.hid hf;clear hf hcan;by_cases h3:(s[pos]'h2).toNat<128
    ·
     have hnx: ∀ ty,(Instr.next (.pointer (some ⟨w.heap.size,0,none⟩)) true ty).run Tryz.prog (w.iter s pos)=_:=fun ty=>run_next_ascii w s pos ty h2 h3
     rcases hnd with hnd|hnd
     all_goals
      go_wp2;go_ret;exact⟨ret_bool HF.out.symm,below_iter (Below.refl _ _) (Nat.le_refl _) _ _⟩
    ·
     have hnx: ∀ ty,(Instr.next (.pointer (some ⟨w.heap.size,0,none⟩)) true ty).run Tryz.prog (w.iter s pos)=_:=fun ty=>run_next_any w s pos ty h2
     have hh:=decode_high s pos h2 (by omega);obtain⟨r,hr⟩: ∃ r,r=(Utf8.decode s pos).1:=⟨_,rfl⟩;go_wp2;all_goals
      go_ret;exact⟨ret_bool HF.out.symm,below_iter (Below.refl _ _) (Nat.le_refl _) _ _⟩
   ·
    have hnx: ∀ ty,(Instr.next (.pointer (some ⟨w.heap.size,0,none⟩)) true ty).run Tryz.prog (w.iter s pos)=_:=fun ty=>run_next_end w s pos ty h2
    have had:allDig s.data.toList=true:=by
     rw[allDig_iff];intro k hk;exact hd k hk (by omega)
    by_cases h0:s.size=0
    ·
     have hs:s.toList=[]:=toList_nil h0;have HF:=Lib.hid (show canon s.data.toList=false by rw[hcan.out];simp[h0]);clear hcan hd hn;go_wp2;go_ret;exact⟨ret_bool HF.out.symm,below_iter (Below.refl _ _) (Nat.le_refl _) _ _⟩
    ·
     have HF:=Lib.hid (show canon s.data.toList=(decide ((s[0]'(by omega)).toNat≠48)||decide (s.size=1)) by rw[hcan.out,had,dif_pos (by omega)];simp[h0]);have hne:=toList_ne h0;have hne':=toList_ne' h0;have hps:0<s.size:=by omega
     clear hcan hd hn;by_cases h4:((s[0]'hps).toNat:Int)=48
     ·
      have h6:(s[0]'hps).toNat=48:=by omega
      by_cases h5:(s.size:Int)=1
      ·
       have h7:s.size=1:=by omega
       go_wp2;go_ret;exact⟨ret_bool (by rw[HF.out];simp[h6,h7]),below_iter (Below.refl _ _) (Nat.le_refl _) _ _⟩
      ·
       have h7: ¬ s.size=1:=by omega
       go_wp2;go_ret;exact⟨ret_bool (by rw[HF.out];simp[h6,h7,h5]),below_iter (Below.refl _ _) (Nat.le_refl _) _ _⟩
     ·
      have h6: ¬ (s[0]'hps).toNat=48:=by omega
      go_wp2;go_ret;exact⟨ret_bool (by rw[HF.out];simp[h6]),below_iter (Below.refl _ _) (Nat.le_refl _) _ _⟩
theorem val_step (s:ByteArray) (k:Nat) (h:k<s.size):val (s.data.toList.take (k+1))=10*val (s.data.toList.take k)+((s[k]'h).toNat-48):=by
 have hk:k<s.data.toList.length:=by simpa using h
 rw[List.take_succ_eq_append_getElem hk,val_snoc,bytes_get s k h]
theorem value_ok (s:ByteArray) (lim:Nat) (hl:lim≤9223372036854775808) (hd:allDig s.data.toList=true) (hs:s.size≤maxLen) (hv:val s.data.toList≤lim) (w:World):
  Calls Tryz.prog 242 #[.string s, .int .u64 lim] w fun e w'=>e= .returned (.tuple #[.int .u64 (val s.data.toList), .bool true])∧w=w':=by
 unfold maxLen at hs;rw[allDig_iff]at hd;have HD:=Lib.hid hd;clear hd;go_enter Tryz.func242,Tryz.ntmps242
 go_wp2;go_loop [6,11] (fun m i=> ∃ k v:Nat,k≤s.size∧i= .int .i64 k∧m= .int .u64 v∧v≤lim∧Hid (val (s.data.toList.take k)=v)) (fun _ i=>s.size-(intOf i).toNat)
 case atStart=>exact⟨0,0,by omega,rfl,rfl,by omega,rfl⟩
 case round=>
  obtain⟨k,v,hk,rfl,rfl,hvl,HV⟩:=hrel;by_cases hlt:k<s.size
  ·
   have hb:=isDig_bounds (HD.out k hlt);have hst:=val_step s k hlt;have hle:=val_take_le s.data.toList (k+1);rw[hst,HV.out]at hle;have HS:=Lib.hid hst;have hno: ¬ ((lim:Int)-(((s[k]'hlt).toNat:Int)-48)) / 10<(v:Int):=by omega
   have hnw:10*(v:Int)+(((s[k]'hlt).toNat:Int)-48)≤9223372036854775808:=by omega
   clear hst;go_wp2;go_round;case rel=>exact⟨k+1,10*v+((s[k]'hlt).toNat-48),by omega,by go_num,by go_num,by omega,by rw[←HV.out];exact HS.out⟩
   case measure=>simp[intOf];omega
  ·
   have HE:=Lib.hid (show v=val s.data.toList by rw[←HV.out,List.take_of_length_le (by simp;omega)]);go_wp2;go_ret2;exact⟨by rw[←HE.out];rfl,rfl⟩
theorem value_no (s:ByteArray) (lim:Nat) (h9:9≤lim) (hl:lim≤9223372036854775808) (hd:allDig s.data.toList=true) (hs:s.size≤maxLen) (hv:lim<val s.data.toList) (w:World):
  Calls Tryz.prog 242 #[.string s, .int .u64 lim] w fun e w'=>e= .returned (.tuple #[.int .u64 0, .bool false])∧w=w':=by
 unfold maxLen at hs;rw[allDig_iff]at hd;have HD:=Lib.hid hd;clear hd;go_enter Tryz.func242,Tryz.ntmps242
 go_wp2;go_loop [6,11] (fun m i=> ∃ k v:Nat,k≤s.size∧i= .int .i64 k∧m= .int .u64 v∧v≤lim∧Hid (val (s.data.toList.take k)=v)) (fun _ i=>s.size-(intOf i).toNat)
 case atStart=>exact⟨0,0,by omega,rfl,rfl,by omega,rfl⟩
 case round=>
  obtain⟨k,v,hk,rfl,rfl,hvl,HV⟩:=hrel;by_cases hlt:k<s.size
  ·
   have hb:=isDig_bounds (HD.out k hlt);have HS:=Lib.hid (val_step s k hlt);by_cases hover:10*(v:Int)+(((s[k]'hlt).toNat:Int)-48)≤lim
   ·
    have hno: ¬ ((lim:Int)-(((s[k]'hlt).toNat:Int)-48)) / 10<(v:Int):=by omega
    go_wp2;go_round;case rel=>exact⟨k+1,10*v+((s[k]'hlt).toNat-48),by omega,by go_num,by go_num,by omega,by rw[←HV.out];exact HS.out⟩
    case measure=>simp[intOf];omega
   ·
    have hno:((lim:Int)-(((s[k]'hlt).toNat:Int)-48)) / 10<(v:Int):=by omega
    go_wp2;go_ret2;exact⟨rfl,rfl⟩
  ·
   exfalso
   have:v=val s.data.toList:=by rw[←HV.out,List.take_of_length_le (by simp;omega)]
   omega
theorem digit_text (n:Int) (h0:0≤n) (h1:n≤9):(ByteArray.mk #[48,49,50,51,52,53,54,55,56,57]).extract n.toNat (n+1).toNat=⟨#[UInt8.ofNat (48+n.toNat)]⟩:=by
 obtain⟨m,rfl⟩:=Int.eq_ofNat_of_zero_le h0;match m,h1 with
 |0,_|1,_|2,_|3,_|4,_|5,_|6,_|7,_|8,_|9,_=>rfl
 |k+10,h=>omega
theorem digit_c (n:Int) (h0:0≤n) (h1:n≤9) (w:World):
  Calls Tryz.prog 157 #[.int .i64 n] w fun e w'=>e= .returned (.string ⟨#[UInt8.ofNat (48+n.toNat)]⟩)∧w=w':=by
 have ht:=Lib.hid (digit_text n h0 h1);go_enter Tryz.func157,Tryz.ntmps157
 go_wp2;go_ret;exact⟨by rw[←ht.out];rfl,rfl⟩
end Go.Proofs.YtakedkcjplfgeaaGreatDoor.Nu
namespace Go.Proofs.YtakedkcjplfgeaaGreatDoor.Nu
open Go.RowKit
open Num
theorem ret2_int {k:IntKind} {a b:Int} {x:Value} (h:a=b):Ending.returned (.tuple #[.int k a,x])= .returned (.tuple #[.int k b,x]):=by rw[h]
theorem plain_b (s:ByteArray) (b:Bool) (h:Hid (canon s.data.toList=b)) (w:World):
  Calls Tryz.prog 241 #[.string s] w fun e w'=>e= .returned (.bool b)∧Below w.heap.size w w':=
 (plain_c s w).mono fun _ _ ⟨he,hw⟩=>⟨by rw[he,h.out],hw⟩
theorem canon_all {l:List UInt8} (h:canon l=true):allDig l=true:=by
 simp only[canon,Bool.and_eq_true]at h;exact h.1.1
theorem canon_ne {l:List UInt8} (h:canon l=true):l≠[]:=by
 rintro rfl;simp[canon]at h
theorem size_nil {s:ByteArray} (h:s.size=0):s.data.toList=[]:=List.length_eq_zero_iff.1 (by simpa using h)
theorem tail_data (s:ByteArray):(s.extract 1 s.size).data.toList=s.data.toList.tail:=by
 rw[Lib.extract_data];simp[List.take_of_length_le]
theorem tail_size (s:ByteArray):(s.extract 1 s.size).size=s.size-1:=by simp[ByteArray.size_extract]
theorem eq48 (s:ByteArray):(s.toList==[48])=decide (s.data.toList=[48]):=by
 rw[ByteArray.toList_eq,Bool.eq_iff_iff];simp
theorem head_byte (s:ByteArray) (h:0<s.size):s.data.toList.head?=some (s[0]'h):=by
 rw[List.head?_eq_getElem?,List.getElem?_eq_getElem (by simpa using h),bytes_get s 0 h]
theorem head_none (s:ByteArray) (h: ¬ 0<s.size):s.data.toList.head?=none:=by
 have:s.data.toList=[]:=size_nil (by omega);rw[this];rfl
inductive Way (s:ByteArray) (n e:Int):Prop
 |minusBad (h:0<s.size) (h45:((s[0]'h).toNat:Int)=45) (hc:Hid (canon (s.extract 1 s.size).data.toList=false)) (hn:n=0) (he:e=3)
 |minusZero (h:0<s.size) (h45:((s[0]'h).toNat:Int)=45) (hc:Hid (canon (s.extract 1 s.size).data.toList=true)) (hz:((s.extract 1 s.size).toList==[48])=true) (hn:n=0) (he:e=3)
 |minusBig (h:0<s.size) (h45:((s[0]'h).toNat:Int)=45) (hc:Hid (canon (s.extract 1 s.size).data.toList=true)) (hz:((s.extract 1 s.size).toList==[48])=false) (hv:Hid (9223372036854775808<val (s.extract 1 s.size).data.toList)) (hn:n=0) (he:e=2)
 |minus (h:0<s.size) (h45:((s[0]'h).toNat:Int)=45) (hc:Hid (canon (s.extract 1 s.size).data.toList=true)) (hz:((s.extract 1 s.size).toList==[48])=false) (v:Nat) (hv:Hid (val (s.extract 1 s.size).data.toList=v)) (hp:0<v) (hm:v≤9223372036854775808) (hn:n= -(v:Int)) (he:e=0)
 |bad (h: ∀ h:0<s.size,¬ ((s[0]'h).toNat:Int)=45) (hc:Hid (canon s.data.toList=false)) (hn:n=0) (he:e=3)
 |plus (h0:0<s.size) (h: ¬ ((s[0]'h0).toNat:Int)=45) (hc:Hid (canon s.data.toList=true)) (v:Nat) (hv:Hid (val s.data.toList=v)) (hm:v≤9223372036854775807) (hn:n=(v:Int)) (he:e=0)
 |plusBig (h0:0<s.size) (h: ¬ ((s[0]'h0).toNat:Int)=45) (hc:Hid (canon s.data.toList=true)) (hv:Hid (9223372036854775807<val s.data.toList)) (hn:n=0) (he:e=2)
theorem parse_way {s:ByteArray} {n e:Int} (h:parse s.data.toList=(n,e)):Way s n e:=by
 unfold parse at h;by_cases hs:0<s.size
 ·
  by_cases h45:((s[0]'hs).toNat:Int)=45
  ·
   have e45:s[0]'hs=45:=UInt8.toNat.inj (by simpa using(by omega:(s[0]'hs).toNat=45));rw[if_pos (by rw[head_byte s hs,e45])]at h;rw[←tail_data]at h;by_cases hc:canon (s.extract 1 s.size).data.toList=true
   ·
    by_cases hz:(s.extract 1 s.size).data.toList=[48]
    ·
     rw[if_neg (fun k=>k.2 hz),Prod.mk.injEq]at h;exact .minusZero hs h45 hc (by rw[eq48];exact decide_eq_true hz) h.1.symm h.2.symm
    ·
     rw[if_pos ⟨hc,hz⟩]at h;have hz':((s.extract 1 s.size).toList==[48])=false:=by rw[eq48];exact decide_eq_false hz
     have hp:=val_pos hc hz;by_cases hv:val (s.extract 1 s.size).data.toList≤big+1
     ·
      rw[if_pos hv,Prod.mk.injEq]at h;exact .minus hs h45 hc hz' _ rfl hp (by unfold big at hv;exact hv) h.1.symm h.2.symm
     ·
      rw[if_neg hv,Prod.mk.injEq]at h;exact .minusBig hs h45 hc hz' (by unfold big at hv;show _<_;omega) h.1.symm h.2.symm
   ·
    rw[if_neg (fun k=>hc k.1),Prod.mk.injEq]at h;exact .minusBad hs h45 (Bool.eq_false_iff.2 hc) h.1.symm h.2.symm
  ·
   have h45': ¬ s.data.toList.head?=some 45:=by
    rw[head_byte s hs];intro k;simp only[Option.some.injEq]at k;rw[k]at h45;exact h45 rfl
   rw[if_neg h45']at h;by_cases hc:canon s.data.toList=true
   ·
    rw[if_pos hc]at h;by_cases hv:val s.data.toList≤big
    ·
     rw[if_pos hv,Prod.mk.injEq]at h;exact .plus hs h45 hc _ rfl (by unfold big at hv;exact hv) h.1.symm h.2.symm
    ·
     rw[if_neg hv,Prod.mk.injEq]at h;exact .plusBig hs h45 hc (by unfold big at hv;show _<_;omega) h.1.symm h.2.symm
   ·
    rw[if_neg hc,Prod.mk.injEq]at h;exact .bad (fun _=>h45) (Bool.eq_false_iff.2 hc) h.1.symm h.2.symm
 ·
  rw[if_neg (by rw[head_none s hs];simp)]at h;have hc:canon s.data.toList=false:=by
   have:s.data.toList=[]:=size_nil (by omega);rw[this];rfl
  rw[hc,if_neg (by simp),Prod.mk.injEq]at h;exact .bad (fun k=>absurd k hs) hc h.1.symm h.2.symm
theorem neg_u64 (v:Nat) (h0:0<v) (h1:v≤9223372036854775808):wrap64 (IntKind.u64.wrap (-(v:Int)))= -(v:Int):=by
 have e:IntKind.u64.wrap (-(v:Int))=(-(v:Int))%18446744073709551616:=by
  simp[IntKind.wrap,IntKind.signed,IntKind.bits]
 rw[e];unfold wrap64;omega
theorem parse_c (s:ByteArray) (n e:Int) (H:Hid (parse s.data.toList=(n,e))) (hs:s.size≤maxLen) (w:World):
  Calls Tryz.prog 185 #[.string s] w fun r w'=>r= .returned (.tuple #[.int .i64 n, .int .i64 e])∧Below w.heap.size w w':=by
 unfold maxLen at hs;have hts:(s.extract 1 s.size).size≤maxLen:=by rw[tail_size];unfold maxLen;omega
 have HTS:=Lib.hid hts;clear hts;rcases parse_way H.out with⟨h,h45,hc,rfl,rfl⟩|⟨h,h45,hc,hz,rfl,rfl⟩|⟨h,h45,hc,hz,hv,rfl,rfl⟩|⟨h,h45,hc,hz,v,hv,hp,hm,hn,rfl⟩|⟨h,hc,rfl,rfl⟩|⟨h0,h,hc,v,hv,hm,hn,rfl⟩|⟨h0,h,hc,hv,rfl,rfl⟩
 ·
  have hne:=toList_ne (s:=s) (by omega);have hne':=toList_ne' (s:=s) (by omega);go_enter Tryz.func185,Tryz.ntmps185
  go_wp2_with (go_at_call 241;refine(plain_b _ _ hc _).mono ?_;rintro e w1 ⟨rfl,hb⟩)
  go_ret2;exact⟨rfl,hb⟩
 ·
  have hne:=toList_ne (s:=s) (by omega);have hne':=toList_ne' (s:=s) (by omega);go_enter Tryz.func185,Tryz.ntmps185
  go_wp2_with (go_at_call 241;refine(plain_b _ _ hc _).mono ?_;rintro e w1 ⟨rfl,hb⟩)
  go_ret2;exact⟨rfl,hb⟩
 ·
  have hne:=toList_ne (s:=s) (by omega);have hne':=toList_ne' (s:=s) (by omega);go_enter Tryz.func185,Tryz.ntmps185
  go_wp2_with (first
   |(go_at_call 241;refine(plain_b _ _ hc _).mono ?_;rintro e w1 ⟨rfl,hb⟩)
   |(go_at_call 242;refine(value_no _ 9223372036854775808 (by omega) (by omega) (canon_all hc.out) HTS.out hv.out _).mono ?_;rintro e w2 ⟨rfl,rfl⟩))
  go_ret2;exact⟨rfl,hb⟩
 ·
  have hne:=toList_ne (s:=s) (by omega);have hne':=toList_ne' (s:=s) (by omega);have HN:=Lib.hid hn;have HU:=Lib.hid (neg_u64 v hp hm);clear hn;go_enter Tryz.func185,Tryz.ntmps185
  go_wp2_with (first
   |(go_at_call 241;refine(plain_b _ _ hc _).mono ?_;rintro e w1 ⟨rfl,hb⟩)
   |(go_at_call 242;refine(value_ok _ 9223372036854775808 (by omega) (canon_all hc.out) HTS.out (by rw[hv.out];exact hm) _).mono ?_;rintro e w2 ⟨rfl,rfl⟩;rw[hv.out]))
  go_ret2;exact⟨ret2_int (by rw[HU.out,HN.out]),hb⟩
 ·
  by_cases h0:0<s.size
  ·
   have h':=h h0;have hne:=toList_ne (s:=s) (by omega);have hne':=toList_ne' (s:=s) (by omega);clear h;go_enter Tryz.func185,Tryz.ntmps185
   go_wp2_with (go_at_call 241;refine(plain_b _ _ hc _).mono ?_;rintro e w1 ⟨rfl,hb⟩)
   go_ret2;exact⟨rfl,hb⟩
  ·
   have hne:=toList_nil (s:=s) (by omega);clear h;go_enter Tryz.func185,Tryz.ntmps185
   go_wp2_with (go_at_call 241;refine(plain_b _ _ hc _).mono ?_;rintro e w1 ⟨rfl,hb⟩)
   go_ret2;exact⟨rfl,hb⟩
 ·
  have hne:=toList_ne (s:=s) (by omega);have hne':=toList_ne' (s:=s) (by omega);have HN:=Lib.hid hn;clear hn;go_enter Tryz.func185,Tryz.ntmps185
  go_wp2_with (first
   |(go_at_call 241;refine(plain_b _ _ hc _).mono ?_;rintro e w1 ⟨rfl,hb⟩)
   |(go_at_call 242;refine(value_ok _ 9223372036854775807 (by omega) (canon_all hc.out) hs (by rw[hv.out];exact hm) _).mono ?_;rintro e w2 ⟨rfl,rfl⟩;rw[hv.out]))
  go_ret2;exact⟨ret2_int (by rw[HN.out]),hb⟩
 ·
  have hne:=toList_ne (s:=s) (by omega);have hne':=toList_ne' (s:=s) (by omega);go_enter Tryz.func185,Tryz.ntmps185
  go_wp2_with (first
   |(go_at_call 241;refine(plain_b _ _ hc _).mono ?_;rintro e w1 ⟨rfl,hb⟩)
   |(go_at_call 242;refine(value_no _ 9223372036854775807 (by omega) (by omega) (canon_all hc.out) hs hv.out _).mono ?_;rintro e w2 ⟨rfl,rfl⟩))
  go_ret2;exact⟨rfl,hb⟩
end Go.Proofs.YtakedkcjplfgeaaGreatDoor.Nu
