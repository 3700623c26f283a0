/- Contracts, proved. Conditions: each contract's own. -/
import Derived.Test.YtakedkcjplfgeaaGreatDoorMPkNuA
import Derived.Test.YtakedkcjplfgeaaGreatDoorMPkBase
import Derived.BigQuiet
set_option maxRecDepth 1000000
set_option maxHeartbeats 32000000
namespace Go.Proofs.YtakedkcjplfgeaaGreatDoor.Nu
open Go.RowKit
open Num
section
variable {s:ByteArray} {a:List UInt8} {x y:UInt8} (hs:s.data.toList=a++[46,x,y])
include hs
theorem BZ:s.size=a.length+3:=by
 have:s.data.toList.length=s.size:=by simp
 rw[hs]at this;simpa using this.symm
theorem Oz (i:Nat) (h:i<s.size) (hi:i=a.length):((s[i]'h).toNat:Int)=46:=by
 subst hi;rw[<-qw s a.length h];simp[hs]
theorem Ru (i:Nat) (h:i<s.size) (hi:i=a.length+1):(s[i]'h)=x:=by
 subst hi;rw[<-qw s (a.length+1) h];simp[hs]
theorem Rw (i:Nat) (h:i<s.size) (hi:i=a.length+2):(s[i]'h)=y:=by
 subst hi;rw[<-qw s (a.length+2) h];simp[hs]
theorem MN (i:Nat) (hi:i=a.length):(s.extract 0 i).data.toList=a:=by
 subst hi;rw[Lib.extract_data,hs];simp
theorem MO (i j:Nat) (hi:i=a.length+1) (hj:j=s.size):(s.extract i j).data.toList=[x,y]:=by
 subst hi hj;rw[Lib.extract_data,BZ hs,hs];simp
end
theorem lT (c:UInt8) (b:ByteArray):(ByteArray.mk #[c]++b:ByteArray).data.toList=c::b.data.toList:=by simp
theorem uK {s:ByteArray} (h: ¬ iL s.data.toList) (i:Nat) (hi:i+3=s.size) (h46:((s[i]'(by omega)).toNat:Int)=46) (hc:zN (s.extract 0 i).data.toList=true) (j k:Nat) (hj:j=i+1) (hk:k=s.size):
  zN (ByteArray.mk #[49]++s.extract j k:ByteArray).data.toList=false:=by
 subst hj hk;rw[lT,lS,Bool.eq_false_iff];intro hd;apply h
 have hl:s.data.toList.length=i+3:=by simp[hi]
 have e0:s.data.toList=s.data.toList.take i++s.data.toList.drop i:=(List.take_append_drop i _).symm;have e1:(s.extract 0 i).data.toList=s.data.toList.take i:=by rw[Lib.extract_data];simp
 have e2:(s.extract (i+1) s.size).data.toList=s.data.toList.drop (i+1):=by
  rw[Lib.extract_data];exact U9 (by simp)
 have hdl:(s.data.toList.drop i).length=3:=by simp;omega
 match hm:s.data.toList.drop i,hdl with
 |[p,x,y],_=>
  have e3:s.data.toList.drop (i+1)=[x,y]:=by
   rw[show i+1=i+1 from rfl,<-List.drop_drop,hm];rfl
  rw[e2,e3]at hd;simp only[zC,List.all_cons,List.all_nil,Bool.and_true,Bool.and_eq_true]at hd;refine⟨s.data.toList.take i,x,y, ?_,by rw[<-e1];exact hc,hd.1,hd.2⟩;have hp:p=46:=by
   have:s[i]'(by omega)=p:=by
    rw[<-qw s i (by omega)];have:=List.getElem_drop (xs:=s.data.toList) (i:=i) (j:=0) (h:=by rw[hm];simp);simp only[hm,Nat.add_zero]at this;exact this.symm
   rw[this]at h46;exact UInt8.toNat.inj (by simpa using(by omega:p.toNat=46))
  rw[<-hp,<-hm];exact e0
theorem OM (s:ByteArray) (i j:Nat):(s.extract i j).size<=s.size:=by rw[ByteArray.size_extract];omega
theorem KI (s:ByteArray) (z:Int) (i:Nat) (hz:z=(i:Int)) (hi:i<s.size) (W:World):
  (Instr.index 9 (.string s) (.int .i64 z)).run Tryz.prog W= .ok (.int .u8 ((s[i]'hi).toNat:Int)) W:=by
 subst hz;rw[run_index_string W 9 s .i64 _ Tryz.underlying9,dif_pos ⟨by omega,by omega⟩];rfl
theorem Xz (s:ByteArray) (h: ¬ iL s.data.toList) (hs:s.size<=maxLen) (w:World):
  Calls Tryz.prog 249 #[.string s] w fun r w'=>r= .returned (.tuple #[.int .i64 0, .int .i64 3])/\Bl w w':=by
 unfold maxLen at hs;have HB:=qA h;clear h;go_enter Tryz.func249,Tryz.ntmps249
 go_wp2;go_loopw [4,5,6] (fun st i c w'=> ∃ pos:Nat,st= .int .i64 (-1)/\w'=w.iter s pos) (fun _ _ _ w'=>s.size-w'.iterPos w.heap.size)
 case atStart=>exact⟨0,rfl,rfl⟩
 case round=>
  obtain⟨pos,rfl,rfl⟩:=hrel;by_cases hp:pos<s.size
  ·
   by_cases h46:((s[pos]'hp).toNat:Int)=46
   ·
    have hnx: ∀ ty,(Instr.next (.pointer (some ⟨w.heap.size,0,none⟩)) true ty).run Tryz.prog (w.iter s pos)=_:=fun ty=>run_next_ascii w s pos ty hp (by omega)
    by_cases h3:(s.size:Int)-(pos:Int)=3
    ·
     cases hc:zN (s.extract 0 pos).data.toList with
     |false=>
      have HC:=qA hc;have h3': ¬ (pos:Int)<0:=by omega
      have h3a:(s.size:Int)<=pos+3:=by omega
      have h3b:(pos:Int)+3<=s.size:=by omega
      clear hc h3;go_wp2_with (go_at_call 241;refine(yf _ _ HC _).mono ?_;rintro e w1 ⟨rfl,hb1⟩)
      go_ret2;exact⟨rfl,(by repeat(first|exact qB _|assumption|refine qH ?_|refine qM ?_ _|refine yT ?_ _ _|refine qF ?_ hb1|refine qF ?_ hb2))⟩
     |true=>
      have HC:=qA hc;have HD:=qA (uK HB.out pos (by omega) h46 hc (pos+1) s.size rfl rfl);have h3': ¬ (pos:Int)<0:=by omega
      have h3a:(s.size:Int)<=pos+3:=by omega
      have h3b:(pos:Int)+3<=s.size:=by omega
      clear hc h3;go_wp2_with fail;refine(yf _ _ HC _).mono ?_;rintro e w1 ⟨rfl,hb1⟩;go_wp2_with fail;refine(yf _ _ HD _).mono ?_;rintro e w2 ⟨rfl,hb2⟩;go_wp2;go_ret2;exact⟨rfl,(by repeat(first|exact qB _|assumption|refine qH ?_|refine qM ?_ _|refine yT ?_ _ _|refine qF ?_ hb1|refine qF ?_ hb2))⟩
    ·
     go_wp2;go_ret2;exact⟨rfl,(by repeat(first|exact qB _|assumption|refine qH ?_|refine qM ?_ _|refine yT ?_ _ _|refine qF ?_ hb1|refine qF ?_ hb2))⟩
   ·
    by_cases h128:(s[pos]'hp).toNat<128
    ·
     have hnx: ∀ ty,(Instr.next (.pointer (some ⟨w.heap.size,0,none⟩)) true ty).run Tryz.prog (w.iter s pos)=_:=fun ty=>run_next_ascii w s pos ty hp h128
     go_wp2;go_roundw;case rel=>exact⟨pos+1,rfl,rfl⟩
     case measure=>simp;omega
    ·
     have hnx: ∀ ty,(Instr.next (.pointer (some ⟨w.heap.size,0,none⟩)) true ty).run Tryz.prog (w.iter s pos)=_:=fun ty=>run_next_any w s pos ty hp
     have hh:=decode_high s pos hp (by omega);go_wp2;go_roundw;case rel=>exact⟨pos+(Utf8.decode s pos).2,rfl,rfl⟩
     case measure=>simp;omega
  ·
   have hnx: ∀ ty,(Instr.next (.pointer (some ⟨w.heap.size,0,none⟩)) true ty).run Tryz.prog (w.iter s pos)=_:=fun ty=>run_next_end w s pos ty hp
   go_wp2;go_ret2;exact⟨rfl,(by repeat(first|exact qB _|assumption|refine qH ?_|refine qM ?_ _|refine yT ?_ _ _|refine qF ?_ hb1|refine qF ?_ hb2))⟩
theorem Zo (s:ByteArray) (a:List UInt8) (x y:UInt8) (n e:Int) (hl:s.data.toList=a++[46,x,y]) (ha:zN a=true) (hx:qV x=true) (hy:qV y=true)
  (hr:(e=2/\n=0/\(10000<val a∨1000000<100*val a+10*(x.toNat-48)+(y.toNat-48)))∨(e=0/\val a<=10000/\100*val a+10*(x.toNat-48)+(y.toNat-48)<=1000000/\n=((100*val a+10*(x.toNat-48)+(y.toNat-48):Nat):Int)))
  (hs:s.size<=maxLen) (w:World):
  Calls Tryz.prog 249 #[.string s] w fun r w'=>r= .returned (.tuple #[.int .i64 n, .int .i64 e])/\Bl w w':=by
 unfold maxLen at hs;obtain⟨p,hpL⟩: ∃ p:Nat,p=a.length:=⟨_,rfl⟩;have hsz:=BZ hl;rw[<-hpL]at hsz;have hL:1<=p:=by
  have:=Eo ha;cases a with
  |nil=>exact absurd rfl this
  |cons _ _=>simp at hpL;omega
 have hlt:p<s.size:=by omega
 have hlt2:p+1<s.size:=by omega
 have hlt1:p+2<s.size:=by omega
 have h46:=Oz hl p hlt hpL;have hea:=MN hl p hpL;have HC:Hid (zN (s.extract 0 p).data.toList=true):=by show _=_;rw[hea];exact ha
 have HD:Hid (zN (ByteArray.mk #[49]++s.extract (p+1) s.size:ByteArray).data.toList=true):=by
  show _=_
  rw[lT,lS,MO hl _ _ (by omega) rfl];simp[zC,hx,hy]
 have HDIG:Hid (∀ k (h:k<s.size),k<p->qV (s[k]'h)=true):=by
  intro k hk hkp;have h1:=(yt (s.extract 0 p)).1 (by rw[hea];exact Q9 ha) k (by rw[ByteArray.size_extract];omega);rw[<-qw]at h1;have h2:(s.extract 0 p).data.toList[k]'(by simp;omega)=s[k]'hk:=by
   rw[<-qw s k hk];simp only[hea,hl];rw[List.getElem_append_left]
  rwa [h2]at h1
 have ex:=Ru hl _ hlt2 (by omega);have ey:=Rw hl _ hlt1 (by omega);have bx:=yY hx;have b_y:=yY hy;rw[<-ex]at bx;rw[<-ey]at b_y;have HEX:=qA ex;have HEY:=qA ey;have HEA:=qA hea;have HAL:Hid (zC (s.extract 0 p).data.toList=true):=by show _=_;rw[hea];exact Q9 ha
 have HZ:Hid ((s.extract 0 p).size<=maxLen):=by have:=OM s 0 p;show _<=_;unfold maxLen;omega
 have h3a:(s.size:Int)<=p+3:=by omega
 have h3b:(p:Int)+3<=s.size:=by omega
 have h3': ¬ (p:Int)<0:=by omega
 clear ex ey hea hl hsz hx hy hpL;by_cases hv1:10000<val a
 ·
  have HV:Hid (10000<val (s.extract 0 p).data.toList):=by show _<_;rw[HEA.out];exact hv1
  obtain⟨rfl,rfl⟩:e=2/\n=0:=by omega
  clear hr hv1
  ·
   skip
   go_enter Tryz.func249,Tryz.ntmps249
   go_wp2;go_loopw [4,5,6] (fun st i c w'=> ∃ pos:Nat,pos<=p/\st= .int .i64 (-1)/\w'=w.iter s pos) (fun _ _ _ w'=>s.size-w'.iterPos w.heap.size)
   case atStart=>exact⟨0,qAD _,rfl,rfl⟩
   case round=>
    obtain⟨pos,hpos,rfl,rfl⟩:=hrel;by_cases hlp:pos<p
    ·
     have hps:pos<s.size:=by omega
     have hdg:=yY (HDIG.out pos hps hlp);have hnx: ∀ ty,(Instr.next (.pointer (some ⟨w.heap.size,0,none⟩)) true ty).run Tryz.prog (w.iter s pos)=_:=fun ty=>run_next_ascii w s pos ty hps (by omega)
     go_wp2;go_roundw;case rel=>exact⟨pos+1,by omega,rfl,rfl⟩
     case measure=>simp;omega
    ·
     obtain rfl:pos=p:=by omega
     have hnx: ∀ ty,(Instr.next (.pointer (some ⟨w.heap.size,0,none⟩)) true ty).run Tryz.prog (w.iter s pos)=_:=fun ty=>run_next_ascii w s pos ty hlt (by omega)
     go_wp2_with fail;refine(yf _ _ HC _).mono ?_;rintro e w1 ⟨rfl,hb1⟩;go_wp2_with fail;refine(yf _ _ HD _).mono ?_;rintro e w2 ⟨rfl,hb2⟩;go_wp2_with fail;refine(aZ _ 10000 (by omega) (by omega) HAL.out HZ.out HV.out _).mono ?_;rintro e w3 ⟨rfl,rfl⟩;go_wp2;go_ret2;exact⟨rfl,(by repeat(first|exact qB _|assumption|refine qH ?_|refine qM ?_ _|refine yT ?_ _ _|refine qF ?_ hb1|refine qF ?_ hb2))⟩
 ·
  have HV:Hid (val (s.extract 0 p).data.toList<=10000):=by show _<=_;rw[HEA.out];omega
  obtain⟨v,hv⟩: ∃ v:Nat,v=val a:=⟨_,rfl⟩;have HVV:Hid (val (s.extract 0 p).data.toList=v):=by show _=_;rw[HEA.out,hv]
  rw[<-hv,<-HEX.out,<-HEY.out]at hr;rw[<-hv]at hv1;clear hv;rcases hr with⟨rfl,rfl,hr⟩|⟨rfl,_,hr,hn⟩
  ·
   have hb':1000000<100*(v:Int)+10*(((s[p+1]'hlt2).toNat:Int)-48)+(((s[p+2]'hlt1).toNat:Int)-48):=by omega
   clear hr;have E0:=qA (IntWalk.i64_in (v:Int) (by omega));have E1:=qA (IntWalk.u8_in (((s[p+1]'hlt2).toNat:Int)-48) (by omega));have E2:=qA (IntWalk.i64_in (((s[p+1]'hlt2).toNat:Int)-48) (by omega));have E3:=qA (IntWalk.i64_in (10*(((s[p+1]'hlt2).toNat:Int)-48)) (by omega));have E4:=qA (IntWalk.i64_in (100*(v:Int)) (by omega));have E5:=qA (IntWalk.i64_in (100*(v:Int)+10*(((s[p+1]'hlt2).toNat:Int)-48)) (by omega));have E6:=qA (IntWalk.u8_in (((s[p+2]'hlt1).toNat:Int)-48) (by omega));have E7:=qA (IntWalk.i64_in (((s[p+2]'hlt1).toNat:Int)-48) (by omega));have E8:=qA (IntWalk.i64_in (100*(v:Int)+10*(((s[p+1]'hlt2).toNat:Int)-48)+(((s[p+2]'hlt1).toNat:Int)-48)) (by omega));have E9:=qA (IntWalk.i64_in ((p:Int)+1) (by omega));have E10:=qA (IntWalk.i64_in ((p:Int)+2) (by omega));have E11:=qA (fun W=>KI s ((p:Int)+1) (p+1) (by omega) hlt2 W);have E12:=qA (fun W=>KI s ((p:Int)+2) (p+2) (by omega) hlt1 W);go_enter Tryz.func249,Tryz.ntmps249
   go_wp2;go_loopw [4,5,6] (fun st i c w'=> ∃ pos:Nat,pos<=p/\st= .int .i64 (-1)/\w'=w.iter s pos) (fun _ _ _ w'=>s.size-w'.iterPos w.heap.size)
   case atStart=>exact⟨0,qAD _,rfl,rfl⟩
   case round=>
    obtain⟨pos,hpos,rfl,rfl⟩:=hrel;by_cases hlp:pos<p
    ·
     have hps:pos<s.size:=by omega
     have hdg:=yY (HDIG.out pos hps hlp);have hnx: ∀ ty,(Instr.next (.pointer (some ⟨w.heap.size,0,none⟩)) true ty).run Tryz.prog (w.iter s pos)=_:=fun ty=>run_next_ascii w s pos ty hps (by omega)
     go_wp2;go_roundw;case rel=>exact⟨pos+1,by omega,rfl,rfl⟩
     case measure=>simp;omega
    ·
     obtain rfl:pos=p:=by omega
     have hnx: ∀ ty,(Instr.next (.pointer (some ⟨w.heap.size,0,none⟩)) true ty).run Tryz.prog (w.iter s pos)=_:=fun ty=>run_next_ascii w s pos ty hlt (by omega)
     go_wp2_with fail;refine(yf _ _ HC _).mono ?_;rintro e w1 ⟨rfl,hb1⟩;go_wp2_with fail;refine(yf _ _ HD _).mono ?_;rintro e w2 ⟨rfl,hb2⟩;go_wp2_with fail;refine(VT _ 10000 (by omega) HAL.out HZ.out HV.out _).mono ?_;rintro e w3 ⟨rfl,rfl⟩;rw[HVV.out];go_wp2;have e0:=E0.out;have e1:=E1.out;have e2:=E2.out;have e3:=E3.out;have e4:=E4.out;have e5:=E5.out;have e6:=E6.out;have e7:=E7.out;have e8:=E8.out;have e9:=E9.out;have e10:=E10.out;have e11:=E11.out;have e12:=E12.out;go_quiet (fail)
     clear e0 e1 e2 e3 e4 e5 e6 e7 e8 e9 e10 e11 e12;go_wp2;go_ret2;exact⟨rfl,(by repeat(first|exact qB _|assumption|refine qH ?_|refine qM ?_ _|refine yT ?_ _ _|refine qF ?_ hb1|refine qF ?_ hb2))⟩
  ·
   have hb':100*(v:Int)+10*(((s[p+1]'hlt2).toNat:Int)-48)+(((s[p+2]'hlt1).toNat:Int)-48)<=1000000:=by omega
   have HR:=qA (show n=100*(v:Int)+10*(((s[p+1]'hlt2).toNat:Int)-48)+(((s[p+2]'hlt1).toNat:Int)-48) by omega);clear hr hn;have E0:=qA (IntWalk.i64_in (v:Int) (by omega));have E1:=qA (IntWalk.u8_in (((s[p+1]'hlt2).toNat:Int)-48) (by omega));have E2:=qA (IntWalk.i64_in (((s[p+1]'hlt2).toNat:Int)-48) (by omega));have E3:=qA (IntWalk.i64_in (10*(((s[p+1]'hlt2).toNat:Int)-48)) (by omega));have E4:=qA (IntWalk.i64_in (100*(v:Int)) (by omega));have E5:=qA (IntWalk.i64_in (100*(v:Int)+10*(((s[p+1]'hlt2).toNat:Int)-48)) (by omega));have E6:=qA (IntWalk.u8_in (((s[p+2]'hlt1).toNat:Int)-48) (by omega));have E7:=qA (IntWalk.i64_in (((s[p+2]'hlt1).toNat:Int)-48) (by omega));have E8:=qA (IntWalk.i64_in (100*(v:Int)+10*(((s[p+1]'hlt2).toNat:Int)-48)+(((s[p+2]'hlt1).toNat:Int)-48)) (by omega));have E9:=qA (IntWalk.i64_in ((p:Int)+1) (by omega));have E10:=qA (IntWalk.i64_in ((p:Int)+2) (by omega));have E11:=qA (fun W=>KI s ((p:Int)+1) (p+1) (by omega) hlt2 W);have E12:=qA (fun W=>KI s ((p:Int)+2) (p+2) (by omega) hlt1 W);go_enter Tryz.func249,Tryz.ntmps249
   go_wp2;go_loopw [4,5,6] (fun st i c w'=> ∃ pos:Nat,pos<=p/\st= .int .i64 (-1)/\w'=w.iter s pos) (fun _ _ _ w'=>s.size-w'.iterPos w.heap.size)
   case atStart=>exact⟨0,qAD _,rfl,rfl⟩
   case round=>
    obtain⟨pos,hpos,rfl,rfl⟩:=hrel;by_cases hlp:pos<p
    ·
     have hps:pos<s.size:=by omega
     have hdg:=yY (HDIG.out pos hps hlp);have hnx: ∀ ty,(Instr.next (.pointer (some ⟨w.heap.size,0,none⟩)) true ty).run Tryz.prog (w.iter s pos)=_:=fun ty=>run_next_ascii w s pos ty hps (by omega)
     go_wp2;go_roundw;case rel=>exact⟨pos+1,by omega,rfl,rfl⟩
     case measure=>simp;omega
    ·
     obtain rfl:pos=p:=by omega
     have hnx: ∀ ty,(Instr.next (.pointer (some ⟨w.heap.size,0,none⟩)) true ty).run Tryz.prog (w.iter s pos)=_:=fun ty=>run_next_ascii w s pos ty hlt (by omega)
     go_wp2_with fail;refine(yf _ _ HC _).mono ?_;rintro e w1 ⟨rfl,hb1⟩;go_wp2_with fail;refine(yf _ _ HD _).mono ?_;rintro e w2 ⟨rfl,hb2⟩;go_wp2_with fail;refine(VT _ 10000 (by omega) HAL.out HZ.out HV.out _).mono ?_;rintro e w3 ⟨rfl,rfl⟩;rw[HVV.out];go_wp2;have e0:=E0.out;have e1:=E1.out;have e2:=E2.out;have e3:=E3.out;have e4:=E4.out;have e5:=E5.out;have e6:=E6.out;have e7:=E7.out;have e8:=E8.out;have e9:=E9.out;have e10:=E10.out;have e11:=E11.out;have e12:=E12.out;go_quiet (fail)
     clear e0 e1 e2 e3 e4 e5 e6 e7 e8 e9 e10 e11 e12;go_wp2;go_ret2;exact⟨wI (by rw[HR.out]),(by repeat(first|exact qB _|assumption|refine qH ?_|refine qM ?_ _|refine yT ?_ _ _|refine qF ?_ hb1|refine qF ?_ hb2))⟩
theorem gz (s:ByteArray) (n e:Int) (H:Price s.data.toList n e) (hs:s.size<=maxLen) (w:World):
  Calls Tryz.prog 249 #[.string s] w fun r w'=>r= .returned (.tuple #[.int .i64 n, .int .i64 e])/\Bl w w':=by
 generalize hl:s.data.toList=l at H
 cases H with
 |bad h=>exact Xz s (by rw[hl];exact h) hs w
 |big ha hx hy h=>exact Zo s _ _ _ _ _ hl ha hx hy (.inl ⟨rfl,rfl,h⟩) hs w
 |ok ha hx hy hv h=>exact Zo s _ _ _ _ _ hl ha hx hy (.inr ⟨rfl,hv,h,rfl⟩) hs w
end Go.Proofs.YtakedkcjplfgeaaGreatDoor.Nu
