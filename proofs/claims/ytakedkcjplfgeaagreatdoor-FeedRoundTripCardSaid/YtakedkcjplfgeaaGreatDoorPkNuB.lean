/-
  PkNuB: what the law of feed needs of FNuNumWalksF, FNuNumWalksJ. Conditions: those of each lemma.
-/
import Derived.Test.YtakedkcjplfgeaaGreatDoorPkNuA
import Derived.Test.YtakedkcjplfgeaaGreatDoorPkPlain
import Derived.Test.YtakedkcjplfgeaaGreatDoorPkBase
import Derived.Deep.QuietTactic
import Derived.BigQuiet
set_option maxRecDepth 1000000
set_option maxHeartbeats 32000000
namespace Go.Proofs.YtakedkcjplfgeaaGreatDoor.Nu
open Go.RowKit
open Num
section
variable {s:ByteArray} {a:List UInt8} {x y:UInt8} (hs:s.data.toList=a++[46,x,y])
include hs
theorem pr_size:s.size=a.length+3:=by
 have:s.data.toList.length=s.size:=by simp
 rw[hs]at this;simpa using this.symm
theorem pr_dot (i:Nat) (h:i<s.size) (hi:i=a.length):((s[i]'h).toNat:Int)=46:=by
 subst hi;rw[←bytes_get s a.length h];simp[hs]
theorem pr_x (i:Nat) (h:i<s.size) (hi:i=a.length+1):(s[i]'h)=x:=by
 subst hi;rw[←bytes_get s (a.length+1) h];simp[hs]
theorem pr_y (i:Nat) (h:i<s.size) (hi:i=a.length+2):(s[i]'h)=y:=by
 subst hi;rw[←bytes_get s (a.length+2) h];simp[hs]
theorem pr_head (i:Nat) (hi:i=a.length):(s.extract 0 i).data.toList=a:=by
 subst hi;rw[Lib.extract_data,hs];simp
theorem pr_tail (i j:Nat) (hi:i=a.length+1) (hj:j=s.size):(s.extract i j).data.toList=[x,y]:=by
 subst hi hj;rw[Lib.extract_data,pr_size hs,hs];simp
end
theorem cat_data (c:UInt8) (b:ByteArray):(ByteArray.mk #[c]++b:ByteArray).data.toList=c::b.data.toList:=by simp
theorem not_shaped {s:ByteArray} (h: ¬ shaped s.data.toList) (i:Nat) (hi:i+3=s.size) (h46:((s[i]'(by omega)).toNat:Int)=46) (hc:canon (s.extract 0 i).data.toList=true) (j k:Nat) (hj:j=i+1) (hk:k=s.size):
  canon (ByteArray.mk #[49]++s.extract j k:ByteArray).data.toList=false:=by
 subst hj hk;rw[cat_data,canon_49,Bool.eq_false_iff];intro hd;apply h
 have hl:s.data.toList.length=i+3:=by simp[hi]
 have e0:s.data.toList=s.data.toList.take i++s.data.toList.drop i:=(List.take_append_drop i _).symm;have e1:(s.extract 0 i).data.toList=s.data.toList.take i:=by rw[Lib.extract_data];simp
 have e2:(s.extract (i+1) s.size).data.toList=s.data.toList.drop (i+1):=by
  rw[Lib.extract_data];exact List.take_of_length_le (by simp)
 have hdl:(s.data.toList.drop i).length=3:=by simp;omega
 match hm:s.data.toList.drop i,hdl with
 |[p,x,y],_=>
  have e3:s.data.toList.drop (i+1)=[x,y]:=by
   rw[show i+1=i+1 from rfl,←List.drop_drop,hm];rfl
  rw[e2,e3]at hd;simp only[allDig,List.all_cons,List.all_nil,Bool.and_true,Bool.and_eq_true]at hd;refine⟨s.data.toList.take i,x,y, ?_,by rw[←e1];exact hc,hd.1,hd.2⟩;have hp:p=46:=by
   have:s[i]'(by omega)=p:=by
    rw[←bytes_get s i (by omega)];have:=List.getElem_drop (xs:=s.data.toList) (i:=i) (j:=0) (h:=by rw[hm];simp);simp only[hm,Nat.add_zero]at this;exact this.symm
   rw[this]at h46;exact UInt8.toNat.inj (by simpa using(by omega:p.toNat=46))
  rw[←hp,←hm];exact e0
theorem ext_le (s:ByteArray) (i j:Nat):(s.extract i j).size≤s.size:=by rw[ByteArray.size_extract];omega
theorem idx_c (s:ByteArray) (z:Int) (i:Nat) (hz:z=(i:Int)) (hi:i<s.size) (W:World):
  (Instr.index 9 (.string s) (.int .i64 z)).run Tryz.prog W= .ok (.int .u8 ((s[i]'hi).toNat:Int)) W:=by
 subst hz;rw[run_index_string W 9 s .i64 _ Tryz.underlying9,dif_pos ⟨by omega,by omega⟩];rfl
end Go.Proofs.YtakedkcjplfgeaaGreatDoor.Nu
namespace Go.Proofs.YtakedkcjplfgeaaGreatDoor.Nu
open Go.RowKit
open Num
theorem parsePrice_bad (s:ByteArray) (h: ¬ shaped s.data.toList) (hs:s.size≤maxLen) (w:World):
  Calls Tryz.prog 249 #[.string s] w fun r w'=>r= .returned (.tuple #[.int .i64 0, .int .i64 3])∧Bl w w':=by
 unfold maxLen at hs;have HB:=Lib.hid h;clear h;go_enter Tryz.func249,Tryz.ntmps249
 go_wp2;go_loopw [4,5,6] (fun st i c w'=> ∃ pos:Nat,st= .int .i64 (-1)∧w'=w.iter s pos) (fun _ _ _ w'=>s.size-w'.iterPos w.heap.size)
 case atStart=>exact⟨0,rfl,rfl⟩
 case round=>
  obtain⟨pos,rfl,rfl⟩:=hrel;by_cases hp:pos<s.size
  ·
   by_cases h46:((s[pos]'hp).toNat:Int)=46
   ·
    have hnx: ∀ ty,(Instr.next (.pointer (some ⟨w.heap.size,0,none⟩)) true ty).run Tryz.prog (w.iter s pos)=_:=fun ty=>run_next_ascii w s pos ty hp (by omega)
    by_cases h3:(s.size:Int)-(pos:Int)=3
    ·
     cases hc:canon (s.extract 0 pos).data.toList with
     |false=>
      have HC:=Lib.hid hc;have h3': ¬ (pos:Int)<0:=by omega
      have h3a:(s.size:Int)≤pos+3:=by omega
      have h3b:(pos:Int)+3≤s.size:=by omega
      clear hc h3;go_wp2_with (go_at_call 241;refine(plain_b _ _ HC _).mono ?_;rintro e w1 ⟨rfl,hb1⟩)
      go_ret2;exact⟨rfl,(by repeat(first|exact bl_refl _|assumption|refine bl_drew ?_|refine bl_drewN ?_ _|refine bl_iter ?_ _ _|refine bl_next ?_ hb1|refine bl_next ?_ hb2))⟩
     |true=>
      have HC:=Lib.hid hc;have HD:=Lib.hid (not_shaped HB.out pos (by omega) h46 hc (pos+1) s.size rfl rfl);have h3': ¬ (pos:Int)<0:=by omega
      have h3a:(s.size:Int)≤pos+3:=by omega
      have h3b:(pos:Int)+3≤s.size:=by omega
      clear hc h3;go_wp2_with fail;refine(plain_b _ _ HC _).mono ?_;rintro e w1 ⟨rfl,hb1⟩;go_wp2_with fail;refine(plain_b _ _ HD _).mono ?_;rintro e w2 ⟨rfl,hb2⟩;go_wp2;go_ret2;exact⟨rfl,(by repeat(first|exact bl_refl _|assumption|refine bl_drew ?_|refine bl_drewN ?_ _|refine bl_iter ?_ _ _|refine bl_next ?_ hb1|refine bl_next ?_ hb2))⟩
    ·
     go_wp2;go_ret2;exact⟨rfl,(by repeat(first|exact bl_refl _|assumption|refine bl_drew ?_|refine bl_drewN ?_ _|refine bl_iter ?_ _ _|refine bl_next ?_ hb1|refine bl_next ?_ hb2))⟩
   ·
    by_cases h128:(s[pos]'hp).toNat<128
    ·
     have hnx: ∀ ty,(Instr.next (.pointer (some ⟨w.heap.size,0,none⟩)) true ty).run Tryz.prog (w.iter s pos)=_:=fun ty=>run_next_ascii w s pos ty hp h128
     go_wp2;go_roundw;case rel=>exact⟨pos+1,rfl,rfl⟩
     case measure=>simp;omega
    ·
     have hnx: ∀ ty,(Instr.next (.pointer (some ⟨w.heap.size,0,none⟩)) true ty).run Tryz.prog (w.iter s pos)=_:=fun ty=>run_next_any w s pos ty hp
     have hh:=decode_high s pos hp (by omega);go_wp2;go_roundw;case rel=>exact⟨pos+(Utf8.decode s pos).2,rfl,rfl⟩
     case measure=>simp;omega
  ·
   have hnx: ∀ ty,(Instr.next (.pointer (some ⟨w.heap.size,0,none⟩)) true ty).run Tryz.prog (w.iter s pos)=_:=fun ty=>run_next_end w s pos ty hp
   go_wp2;go_ret2;exact⟨rfl,(by repeat(first|exact bl_refl _|assumption|refine bl_drew ?_|refine bl_drewN ?_ _|refine bl_iter ?_ _ _|refine bl_next ?_ hb1|refine bl_next ?_ hb2))⟩
theorem parsePrice_shaped (s:ByteArray) (a:List UInt8) (x y:UInt8) (n e:Int) (hl:s.data.toList=a++[46,x,y]) (ha:canon a=true) (hx:isDig x=true) (hy:isDig y=true)
  (hr:(e=2∧n=0∧(10000<val a∨1000000<100*val a+10*(x.toNat-48)+(y.toNat-48)))∨(e=0∧val a≤10000∧100*val a+10*(x.toNat-48)+(y.toNat-48)≤1000000∧n=((100*val a+10*(x.toNat-48)+(y.toNat-48):Nat):Int)))
  (hs:s.size≤maxLen) (w:World):
  Calls Tryz.prog 249 #[.string s] w fun r w'=>r= .returned (.tuple #[.int .i64 n, .int .i64 e])∧Bl w w':=by
 unfold maxLen at hs;obtain⟨p,hpL⟩: ∃ p:Nat,p=a.length:=⟨_,rfl⟩;have hsz:=pr_size hl;rw[←hpL]at hsz;have hL:1≤p:=by
  have:=canon_ne ha;cases a with
  |nil=>exact absurd rfl this
  |cons _ _=>simp at hpL;omega
 have hlt:p<s.size:=by omega
 have hlt2:p+1<s.size:=by omega
 have hlt1:p+2<s.size:=by omega
 have h46:=pr_dot hl p hlt hpL;have hea:=pr_head hl p hpL;have HC:Hid (canon (s.extract 0 p).data.toList=true):=by show _=_;rw[hea];exact ha
 have HD:Hid (canon (ByteArray.mk #[49]++s.extract (p+1) s.size:ByteArray).data.toList=true):=by
  show _=_
  rw[cat_data,canon_49,pr_tail hl _ _ (by omega) rfl];simp[allDig,hx,hy]
 have HDIG:Hid (∀ k (h:k<s.size),k<p→isDig (s[k]'h)=true):=by
  intro k hk hkp;have h1:=(allDig_iff (s.extract 0 p)).1 (by rw[hea];exact canon_all ha) k (by rw[ByteArray.size_extract];omega);rw[←bytes_get]at h1;have h2:(s.extract 0 p).data.toList[k]'(by simp;omega)=s[k]'hk:=by
   rw[←bytes_get s k hk];simp only[hea,hl];rw[List.getElem_append_left]
  rwa [h2]at h1
 have ex:=pr_x hl _ hlt2 (by omega);have ey:=pr_y hl _ hlt1 (by omega);have bx:=isDig_bounds hx;have b_y:=isDig_bounds hy;rw[←ex]at bx;rw[←ey]at b_y;have HEX:=Lib.hid ex;have HEY:=Lib.hid ey;have HEA:=Lib.hid hea;have HAL:Hid (allDig (s.extract 0 p).data.toList=true):=by show _=_;rw[hea];exact canon_all ha
 have HZ:Hid ((s.extract 0 p).size≤maxLen):=by have:=ext_le s 0 p;show _≤_;unfold maxLen;omega
 have h3a:(s.size:Int)≤p+3:=by omega
 have h3b:(p:Int)+3≤s.size:=by omega
 have h3': ¬ (p:Int)<0:=by omega
 clear ex ey hea hl hsz hx hy hpL;by_cases hv1:10000<val a
 ·
  have HV:Hid (10000<val (s.extract 0 p).data.toList):=by show _<_;rw[HEA.out];exact hv1
  obtain⟨rfl,rfl⟩:e=2∧n=0:=by omega
  clear hr hv1
  ·
   skip
   go_enter Tryz.func249,Tryz.ntmps249
   go_wp2;go_loopw [4,5,6] (fun st i c w'=> ∃ pos:Nat,pos≤p∧st= .int .i64 (-1)∧w'=w.iter s pos) (fun _ _ _ w'=>s.size-w'.iterPos w.heap.size)
   case atStart=>exact⟨0,Nat.zero_le _,rfl,rfl⟩
   case round=>
    obtain⟨pos,hpos,rfl,rfl⟩:=hrel;by_cases hlp:pos<p
    ·
     have hps:pos<s.size:=by omega
     have hdg:=isDig_bounds (HDIG.out pos hps hlp);have hnx: ∀ ty,(Instr.next (.pointer (some ⟨w.heap.size,0,none⟩)) true ty).run Tryz.prog (w.iter s pos)=_:=fun ty=>run_next_ascii w s pos ty hps (by omega)
     go_wp2;go_roundw;case rel=>exact⟨pos+1,by omega,rfl,rfl⟩
     case measure=>simp;omega
    ·
     obtain rfl:pos=p:=by omega
     have hnx: ∀ ty,(Instr.next (.pointer (some ⟨w.heap.size,0,none⟩)) true ty).run Tryz.prog (w.iter s pos)=_:=fun ty=>run_next_ascii w s pos ty hlt (by omega)
     go_wp2_with fail;refine(plain_b _ _ HC _).mono ?_;rintro e w1 ⟨rfl,hb1⟩;go_wp2_with fail;refine(plain_b _ _ HD _).mono ?_;rintro e w2 ⟨rfl,hb2⟩;go_wp2_with fail;refine(value_no _ 10000 (by omega) (by omega) HAL.out HZ.out HV.out _).mono ?_;rintro e w3 ⟨rfl,rfl⟩;go_wp2;go_ret2;exact⟨rfl,(by repeat(first|exact bl_refl _|assumption|refine bl_drew ?_|refine bl_drewN ?_ _|refine bl_iter ?_ _ _|refine bl_next ?_ hb1|refine bl_next ?_ hb2))⟩
 ·
  have HV:Hid (val (s.extract 0 p).data.toList≤10000):=by show _≤_;rw[HEA.out];omega
  obtain⟨v,hv⟩: ∃ v:Nat,v=val a:=⟨_,rfl⟩;have HVV:Hid (val (s.extract 0 p).data.toList=v):=by show _=_;rw[HEA.out,hv]
  rw[←hv,←HEX.out,←HEY.out]at hr;rw[←hv]at hv1;clear hv;rcases hr with⟨rfl,rfl,hr⟩|⟨rfl,_,hr,hn⟩
  ·
   have hb':1000000<100*(v:Int)+10*(((s[p+1]'hlt2).toNat:Int)-48)+(((s[p+2]'hlt1).toNat:Int)-48):=by omega
   clear hr;have E0:=Lib.hid (IntWalk.i64_in (v:Int) (by omega));have E1:=Lib.hid (IntWalk.u8_in (((s[p+1]'hlt2).toNat:Int)-48) (by omega));have E2:=Lib.hid (IntWalk.i64_in (((s[p+1]'hlt2).toNat:Int)-48) (by omega));have E3:=Lib.hid (IntWalk.i64_in (10*(((s[p+1]'hlt2).toNat:Int)-48)) (by omega));have E4:=Lib.hid (IntWalk.i64_in (100*(v:Int)) (by omega));have E5:=Lib.hid (IntWalk.i64_in (100*(v:Int)+10*(((s[p+1]'hlt2).toNat:Int)-48)) (by omega));have E6:=Lib.hid (IntWalk.u8_in (((s[p+2]'hlt1).toNat:Int)-48) (by omega));have E7:=Lib.hid (IntWalk.i64_in (((s[p+2]'hlt1).toNat:Int)-48) (by omega));have E8:=Lib.hid (IntWalk.i64_in (100*(v:Int)+10*(((s[p+1]'hlt2).toNat:Int)-48)+(((s[p+2]'hlt1).toNat:Int)-48)) (by omega));have E9:=Lib.hid (IntWalk.i64_in ((p:Int)+1) (by omega));have E10:=Lib.hid (IntWalk.i64_in ((p:Int)+2) (by omega));have E11:=Lib.hid (fun W=>idx_c s ((p:Int)+1) (p+1) (by omega) hlt2 W);have E12:=Lib.hid (fun W=>idx_c s ((p:Int)+2) (p+2) (by omega) hlt1 W);go_enter Tryz.func249,Tryz.ntmps249
   go_wp2;go_loopw [4,5,6] (fun st i c w'=> ∃ pos:Nat,pos≤p∧st= .int .i64 (-1)∧w'=w.iter s pos) (fun _ _ _ w'=>s.size-w'.iterPos w.heap.size)
   case atStart=>exact⟨0,Nat.zero_le _,rfl,rfl⟩
   case round=>
    obtain⟨pos,hpos,rfl,rfl⟩:=hrel;by_cases hlp:pos<p
    ·
     have hps:pos<s.size:=by omega
     have hdg:=isDig_bounds (HDIG.out pos hps hlp);have hnx: ∀ ty,(Instr.next (.pointer (some ⟨w.heap.size,0,none⟩)) true ty).run Tryz.prog (w.iter s pos)=_:=fun ty=>run_next_ascii w s pos ty hps (by omega)
     go_wp2;go_roundw;case rel=>exact⟨pos+1,by omega,rfl,rfl⟩
     case measure=>simp;omega
    ·
     obtain rfl:pos=p:=by omega
     have hnx: ∀ ty,(Instr.next (.pointer (some ⟨w.heap.size,0,none⟩)) true ty).run Tryz.prog (w.iter s pos)=_:=fun ty=>run_next_ascii w s pos ty hlt (by omega)
     go_wp2_with fail;refine(plain_b _ _ HC _).mono ?_;rintro e w1 ⟨rfl,hb1⟩;go_wp2_with fail;refine(plain_b _ _ HD _).mono ?_;rintro e w2 ⟨rfl,hb2⟩;go_wp2_with fail;refine(value_ok _ 10000 (by omega) HAL.out HZ.out HV.out _).mono ?_;rintro e w3 ⟨rfl,rfl⟩;rw[HVV.out];go_wp2;have e0:=E0.out;have e1:=E1.out;have e2:=E2.out;have e3:=E3.out;have e4:=E4.out;have e5:=E5.out;have e6:=E6.out;have e7:=E7.out;have e8:=E8.out;have e9:=E9.out;have e10:=E10.out;have e11:=E11.out;have e12:=E12.out;go_quiet (fail)
     clear e0 e1 e2 e3 e4 e5 e6 e7 e8 e9 e10 e11 e12;go_wp2;go_ret2;exact⟨rfl,(by repeat(first|exact bl_refl _|assumption|refine bl_drew ?_|refine bl_drewN ?_ _|refine bl_iter ?_ _ _|refine bl_next ?_ hb1|refine bl_next ?_ hb2))⟩
  ·
   have hb':100*(v:Int)+10*(((s[p+1]'hlt2).toNat:Int)-48)+(((s[p+2]'hlt1).toNat:Int)-48)≤1000000:=by omega
   have HR:=Lib.hid (show n=100*(v:Int)+10*(((s[p+1]'hlt2).toNat:Int)-48)+(((s[p+2]'hlt1).toNat:Int)-48) by omega);clear hr hn;have E0:=Lib.hid (IntWalk.i64_in (v:Int) (by omega));have E1:=Lib.hid (IntWalk.u8_in (((s[p+1]'hlt2).toNat:Int)-48) (by omega));have E2:=Lib.hid (IntWalk.i64_in (((s[p+1]'hlt2).toNat:Int)-48) (by omega));have E3:=Lib.hid (IntWalk.i64_in (10*(((s[p+1]'hlt2).toNat:Int)-48)) (by omega));have E4:=Lib.hid (IntWalk.i64_in (100*(v:Int)) (by omega));have E5:=Lib.hid (IntWalk.i64_in (100*(v:Int)+10*(((s[p+1]'hlt2).toNat:Int)-48)) (by omega));have E6:=Lib.hid (IntWalk.u8_in (((s[p+2]'hlt1).toNat:Int)-48) (by omega));have E7:=Lib.hid (IntWalk.i64_in (((s[p+2]'hlt1).toNat:Int)-48) (by omega));have E8:=Lib.hid (IntWalk.i64_in (100*(v:Int)+10*(((s[p+1]'hlt2).toNat:Int)-48)+(((s[p+2]'hlt1).toNat:Int)-48)) (by omega));have E9:=Lib.hid (IntWalk.i64_in ((p:Int)+1) (by omega));have E10:=Lib.hid (IntWalk.i64_in ((p:Int)+2) (by omega));have E11:=Lib.hid (fun W=>idx_c s ((p:Int)+1) (p+1) (by omega) hlt2 W);have E12:=Lib.hid (fun W=>idx_c s ((p:Int)+2) (p+2) (by omega) hlt1 W);go_enter Tryz.func249,Tryz.ntmps249
   go_wp2;go_loopw [4,5,6] (fun st i c w'=> ∃ pos:Nat,pos≤p∧st= .int .i64 (-1)∧w'=w.iter s pos) (fun _ _ _ w'=>s.size-w'.iterPos w.heap.size)
   case atStart=>exact⟨0,Nat.zero_le _,rfl,rfl⟩
   case round=>
    obtain⟨pos,hpos,rfl,rfl⟩:=hrel;by_cases hlp:pos<p
    ·
     have hps:pos<s.size:=by omega
     have hdg:=isDig_bounds (HDIG.out pos hps hlp);have hnx: ∀ ty,(Instr.next (.pointer (some ⟨w.heap.size,0,none⟩)) true ty).run Tryz.prog (w.iter s pos)=_:=fun ty=>run_next_ascii w s pos ty hps (by omega)
     go_wp2;go_roundw;case rel=>exact⟨pos+1,by omega,rfl,rfl⟩
     case measure=>simp;omega
    ·
     obtain rfl:pos=p:=by omega
     have hnx: ∀ ty,(Instr.next (.pointer (some ⟨w.heap.size,0,none⟩)) true ty).run Tryz.prog (w.iter s pos)=_:=fun ty=>run_next_ascii w s pos ty hlt (by omega)
     go_wp2_with fail;refine(plain_b _ _ HC _).mono ?_;rintro e w1 ⟨rfl,hb1⟩;go_wp2_with fail;refine(plain_b _ _ HD _).mono ?_;rintro e w2 ⟨rfl,hb2⟩;go_wp2_with fail;refine(value_ok _ 10000 (by omega) HAL.out HZ.out HV.out _).mono ?_;rintro e w3 ⟨rfl,rfl⟩;rw[HVV.out];go_wp2;have e0:=E0.out;have e1:=E1.out;have e2:=E2.out;have e3:=E3.out;have e4:=E4.out;have e5:=E5.out;have e6:=E6.out;have e7:=E7.out;have e8:=E8.out;have e9:=E9.out;have e10:=E10.out;have e11:=E11.out;have e12:=E12.out;go_quiet (fail)
     clear e0 e1 e2 e3 e4 e5 e6 e7 e8 e9 e10 e11 e12;go_wp2;go_ret2;exact⟨ret2_int (by rw[HR.out]),(by repeat(first|exact bl_refl _|assumption|refine bl_drew ?_|refine bl_drewN ?_ _|refine bl_iter ?_ _ _|refine bl_next ?_ hb1|refine bl_next ?_ hb2))⟩
theorem parsePrice_c (s:ByteArray) (n e:Int) (H:Price s.data.toList n e) (hs:s.size≤maxLen) (w:World):
  Calls Tryz.prog 249 #[.string s] w fun r w'=>r= .returned (.tuple #[.int .i64 n, .int .i64 e])∧Bl w w':=by
 generalize hl:s.data.toList=l at H
 cases H with
 |bad h=>exact parsePrice_bad s (by rw[hl];exact h) hs w
 |big ha hx hy h=>exact parsePrice_shaped s _ _ _ _ _ hl ha hx hy (.inl ⟨rfl,rfl,h⟩) hs w
 |ok ha hx hy hv h=>exact parsePrice_shaped s _ _ _ _ _ hl ha hx hy (.inr ⟨rfl,hv,h,rfl⟩) hs w
end Go.Proofs.YtakedkcjplfgeaaGreatDoor.Nu
