/- Contracts, proved. Conditions: theirs. -/
import Derived.Test.YtakedkcjplfgeaaGreatDoorMPkFldA
set_option maxRecDepth 1000000
set_option maxHeartbeats 32000000
open Go.Proofs.Tryz
namespace Go.Proofs.YtakedkcjplfgeaaGreatDoor
open Go.RowKit
open Fld
theorem yC (s:Φ) (i j:Nat):(s.extract i j).data.toList=(s.data.toList.drop i).take (j-i):=by rw[Lib.extract_data]
theorem Y1 (s:Φ) (k:Nat):(s.extract k s.size).data.toList=s.data.toList.drop k:=by
 rw[yC,U9];rw[List.length_drop,Array.length_toList];exact U3 _
theorem vH (s:Φ) (i j:Nat) (h:j<=s.size) (hij:i<=j):(s.extract i j).size=j-i:=τ
theorem Iz {s:Φ} {k:Nat} (h:k<s.size):s.data.toList.drop k≠[]:=by
 intro e;have:=congrArg List.length e;rw[List.length_drop,Array.length_toList]at this;have hh:s.data.size=s.size:=rfl;simp at this
 omega
theorem XV (s:Φ) (k:Nat) (h:k<s.size) (h':0<(s.extract k s.size).size):(s.extract k s.size)[0]'h'=s[k]'h:=by
 have e0:=bytes_get? (s.extract k s.size) 0 h';rw[Y1,List.getElem?_drop,Nat.add_zero,bytes_get? s k h]at e0;exact(qAB e0).symm
theorem lm {l out:Ψ} {k n:Nat} {b:UInt8} (h:wP (l.drop k)=some (b,n)) (hr:ZK l=(ZK (l.drop k)).map (out++ ·)):ZK l=(ZK (l.drop (k+n))).map ((out++[b])++ ·):=by
 rw[hr,dD h,List.drop_drop,Option.map_map];congr 1
 funext x
 simp
theorem Ot (s:Φ) (k:Nat) (h:k<s.size) (h92: ¬ (s[k]'h).toNat=92):wP (s.data.toList.drop k)=some (s[k]'h,1):=by
 have hz:0<(s.extract k s.size).size:=by rw[vH _ _ _ (U3 _) ω];omega
 have:=DV (s:=s.extract k s.size) hz (by rw[XV s k h hz];exact h92);rw[Y1,XV s k h hz]at this;exact this
theorem DY {o:Option (UInt8×Nat)} {c:UInt8} {n:Nat} (h:o.getD (0,0)=(c,n)) (hn: ¬ n=0):o=some (c,n):=by
 cases o with
 |none=>exact absurd (qAE h).2.symm hn
 |some p=>exact congrArg some h
theorem DX {l:Ψ} {c:UInt8} (h:(wP l).getD (0,0)=(c,0)):wP l=none:=by
 cases ho:wP l with
 |none=>rfl
 |some p=>
  obtain⟨b,k⟩:=p;rw[ho]at h;have:=(JJ ho).1;have e:k=0:=(qAE (show(b,k)=(c,0) from h)).2;omega
theorem J4 {W W':World} (hb:Bl W W'):W.grownBy W' none:=⟨hb.os,hb.tape,hb.output,hb.size,λk hk _=>hb.block k hk⟩
theorem MK {B:Nat} {v:Value} {l:Ψ} {w w':World} (h:xO B v l w) (hb:Bl w w'):xO B v l w':=World.ownsRow.kept h (J4 hb) (by cases v.ownBlock<;>simp)
def Iu (r:Option Ψ):Ψ×Bool:=match r with
 |some o=>(o,true)
 |none=>([],false)
theorem FO (s:Φ) (hs:s.size<=34359738368) (o:Ψ) (ok:Bool) (H:Hid (Iu (ZK s.data.toList)=(o,ok))) (w:World):
  Calls prog 183 #[s] w λe w'=>e=.returned (.tuple #[qP o,ok])/\Bl w w':=by
 obtain⟨i0,hi,hz0,hz1,hz2⟩:=info_parts vk;go_enter func183,ntmps183
 go_wp2;go_loopw [4,5] (λvo i wr=> ∃ (k:Nat) (out:Ψ),k<=s.size/\out.length<=k/\i=k/\Hid (xO w.heap.size vo out wr)/\Hid (ZK s.data.toList=(ZK (s.data.toList.drop k)).map (out++ ·))/\Hid (Bl w wr)) (λ_ i _=>s.size-(intOf i).toNat)
 case atStart=>exact⟨0,[],qAD _,U3 _,rfl,Xw _ _,by show _=_;simp,qB _⟩
 obtain⟨k,out,hk,hol,rfl,HO,HD,HB⟩:=hrel;by_cases hlt:k<s.size
 ·
  by_cases h92:((s[k]'hlt).toNat:Int)=92
  ·
   have hz:0<(s.extract k s.size).size:=by rw[vH _ _ _ (U3 _) ω];omega
   have hm:(s.extract k s.size).size<=maxLen:=by rw[vH _ _ _ (U3 _) ω];unfold maxLen;omega
   obtain⟨c,n,hcn⟩: ∃ c n,(wP (s.data.toList.drop k)).getD (0,0)=(c,n):=⟨_,_,rfl⟩;have HC:=qA hcn;have HX:=qA (show(wP (s.extract k s.size).data.toList).getD (0,0)=(c,n) by rw[Y1];exact hcn);have he:=FW (s.extract k s.size) hm hz (by rw[XV s k hlt hz];omega) c n HX;clear hcn;have hlen:(s.data.toList.drop k).length=s.size-k:=by rw[List.length_drop,Array.length_toList];rfl
   go_wp2_with (go_at_call 240;refine(he _).mono ?_)
   rintro e w1 ⟨rfl,b1⟩;have B1:Hid (Bl w w1):=qF HB.o b1;have O1:=qA (MK HO.o b1);clear b1 he;by_cases hn:n=0
   ·
    subst hn;have HN:=qA (show([],false)=(o,ok) by rw[<-H.o,HD.o,FK (Iz hlt) (DX HC.o)];rfl);obtain⟨e1,e2⟩:=qAE HN.o;clear H HN;subst e1 e2;go_wp2;go_ret2;exact⟨rfl,B1.o⟩
   have ho:=DY HC.o hn;have hp:=JJ ho;have HS:=qA (lm ho HD.o);have hnz:((n:Nat):Int)≠0:=ω
   rw[hlen]at hp;clear ho hlen;go_wp2_with (at_builtin;refine wpList_append_own _ rfl _ _ 140 rfl w.heap.size 5 i0 (.int .u8 0) 1 1 underlying140 hi hz0 hz1 hz2 rfl δ _ _ _ rfl (kQ O1.o _) (w1.heap.size,0) 1 1 [.int .u8 c.toNat] rfl rfl ?c1 ?c2 ?c3 ?c4 ?c5 ?_)
   case c1=>exact zl _ (λj u h=>η)
   case c2=>simp[Value.oneCell']
   case c3=>unfold maxLen;omega
   case c4=>omega
   case c5=>have:=B1.o.size;simp;omega
   intro v3 w3 hown3 hgrow3 _;have O3:=qA (ZO (m:=[c]) hown3);have B3:Hid (Bl w w3):=(B1.o.alloc B1.o.size _).grown hgrow3 (by have:=B1.o.size;simp;omega) (λk hk=>(qAG O1.o k hk).1);clear hown3 hgrow3;go_wp2;go_roundw;case rel=>exact⟨k+n,out++[c],ω,τ,by go_num,O3,HS,B3⟩
   simp[intOf];omega
  have HS:=qA (lm (Ot s k hlt ω) HD.o);have f1:(((s[k]'hlt).toNat:Int) != 92)=true:=by rw[bne_iff_ne];exact h92
  go_wp2_with (at_builtin;refine wpList_append_own _ rfl _ _ 140 rfl w.heap.size 5 i0 (.int .u8 0) 1 1 underlying140 hi hz0 hz1 hz2 rfl δ _ _ _ rfl (kQ HO.o _) (wr.heap.size,0) 1 1 [.int .u8 (s[k]'hlt).toNat] rfl rfl ?c1 ?c2 ?c3 ?c4 ?c5 ?_)
  case c1=>exact zl _ (λj u h=>η)
  case c2=>simp[Value.oneCell']
  case c3=>unfold maxLen;omega
  case c4=>omega
  case c5=>have:=HB.o.size;simp;omega
  intro v3 w3 hown3 hgrow3 _;have O3:=qA (ZO (m:=[s[k]'hlt]) hown3);have B3:Hid (Bl w w3):=(HB.o.alloc HB.o.size _).grown hgrow3 (by have:=HB.o.size;simp;omega) (λk hk=>(qAG HO.o k hk).1);clear hown3 hgrow3;go_wp2;go_roundw;case rel=>exact⟨k+1,out++[s[k]'hlt],ω,τ,by go_num,O3,HS,B3⟩
  simp[intOf];omega
 have HF:=qA (show(out,true)=(o,ok) by
  rw[<-H.o,HD.o,List.drop_eq_nil_of_le (by rw[Array.length_toList];show s.size<=k;omega),FN];simp[Iu])
 obtain⟨e1,e2⟩:=qAE HF.o;clear H HF;subst e1 e2;have hcv:=YG HO.o;go_wp2;go_ret2;exact⟨rfl,HB.o⟩
theorem lh: ∀ (f:Nat) (s o:Ψ),XP f s=some o->o.length<=s.length
 |0,[],o,h=>by cases h;exact U3 _
 |f+1,[],o,h=>by cases h;exact U3 _
 |0,_::_,o,h=>by cases h
 |f+1,c::r,o,h=>by
  simp only[XP]at h;split at h
  · cases h
  rename_i b k hk;obtain⟨h1,h2⟩:=JJ hk;obtain⟨o',ho',rfl⟩:=Option.map_eq_some_iff.1 h;have:=lh f _ o' ho';rw[List.length_drop]at this;rw[U7];omega
theorem FM {s o:Ψ} (h:ZK s=some o):o.length<=s.length:=lh _ _ _ h
def PP (r:Option Ψ):Ψ×Int:=match r with
 |some o=>(o,0)
 |none=>([],3)
theorem iW {q:Ψ} {s:Φ}:(⟨q.toArray⟩:Φ)=s↔q=s.data.toList:=by
 constructor
 · intro h;rw[<-h]
 intro h;rw[h]
theorem EX {l:Ψ} (h:jq l=true):jJ l=some l:=by unfold jJ;rw[U6 h]
theorem BJ (s:Φ) (h:0<s.size):s.data.toList.head?=some (s[0]'h):=by rw[List.head?_eq_getElem?];exact bytes_get? s 0 h
theorem BN (s:Φ) (h:0<s.size):s.data.toList.getLast?=some (s[s.size-1]'ω):=by
 rw[List.getLast?_eq_getElem?,show s.data.toList.length=s.size by simp];exact bytes_get? s _ ω
theorem iM (b:UInt8):((some b:Option UInt8)==some 34)=(b.toNat==34):=by
 by_cases e:b=34
 · subst e;rfl
 have: ¬ b.toNat=34:=λk=>e (UInt8.toNat.inj (by simpa using k))
 rw[show(b.toNat==34)=false by simpa using this];simpa using e
theorem iq {s:Φ} (h:jq s.data.toList=false) (hb:s.size<2∨(∃ h0:0<s.size,¬ (s[0]'h0).toNat=34∨ ¬ (s[s.size-1]'ω).toNat=34)):jJ s.data.toList=none:=by
 unfold jJ;rw[U5 (by rw[h];decide),U6];rw[show s.data.toList.length=s.size by simp];rcases hb with hb|⟨h0,hb⟩
 · simp[hb]
 rw[BJ s h0,BN s h0,iM,iM];rcases hb with hb|hb<;>simp[hb]
theorem PQ {s:Φ} (h:jq s.data.toList=false) (h2:2<=s.size) (h3:(s[0]'ω).toNat=34) (h4:(s[s.size-1]'ω).toNat=34):
  jJ s.data.toList=match ZK (s.extract 1 (s.size-1)).data.toList with
   |none=>none
   |some o=>if zg o=s.data.toList then some o else none:=by
 have hl:s.data.toList.length=s.size:=σ
 unfold jJ;rw[U5 (by rw[h];decide),U5,yC,List.dropLast_eq_take,List.length_drop,hl]
 · rfl
 rw[hl,BJ s ω,BN s ω,iM,iM,h3,h4];simp
 omega
theorem fH (s:Φ) (hs:s.size<=34359738368) (o:Ψ) (e:Int) (H:Hid (PP (jJ s.data.toList)=(o,e))) (w:World):
  Calls prog 106 #[s] w λr w'=>r=.returned (.tuple #[qP o,e])/\Bl w w':=by
 obtain⟨p,hp⟩:=ε (jq s.data.toList);have HP:=qA hp;clear hp;go_enter func106,ntmps106
 go_wp2_with (go_at_call 182;refine(VG s ζ _).mono ?_)
 rintro r w1 ⟨rfl,b1⟩;rw[HP.o];cases p with
 |true=>
  have HF:=qA (show(s.data.toList,(0:Int))=(o,e) by rw[<-H.o,EX HP.o];rfl);obtain⟨e1,e2⟩:=qAE HF.o;clear H HF;subst e1 e2;go_wp2;go_ret2;exact⟨rfl,b1⟩
 |false=>
  by_cases h2:2<=s.size
  ·
   by_cases h3:((s[0]'ω).toNat:Int)=34
   ·
    by_cases h4:((s[s.size-1]'ω).toNat:Int)=34
    ·
     have HU:=qA (PQ HP.o h2 ω ω);obtain⟨o1,ok1,hd⟩: ∃ o1 ok1,Iu (ZK (s.extract 1 (s.size-1)).data.toList)=(o1,ok1):=⟨_,_,rfl⟩;have HD:=qA hd;have hdc:=FO (s.extract 1 (s.size-1)) (by rw[vH _ _ _ ω ω];omega) o1 ok1 HD;clear hd;have HL:=qA (fun(h:ok1=true)=>show o1.length<=s.size by
      have hx:Iu (ZK (s.extract 1 (s.size-1)).data.toList)=(o1,ok1):=HD.o;cases hy:ZK (s.extract 1 (s.size-1)).data.toList with
      |none=>rw[hy]at hx;rw[h]at hx;cases hx
      |some z=>
       rw[hy]at hx;obtain⟨rfl,-⟩:=qAE hx;have:=FM hy;have h1:(s.extract 1 (s.size-1)).data.toList.length=(s.extract 1 (s.size-1)).size:=σ
       rw[h1,vH _ _ _ ω ω]at this;omega)
     go_wp2_with (go_at_call 183;refine(hdc _).mono ?_)
     rintro r w2 ⟨rfl,b2⟩;clear hdc;cases ok1 with
     |false=>
      have HF:=qA (show(([]:Ψ),(3:Int))=(o,e) by
       have hx:=HD.o;rw[<-H.o,HU.o];cases hy:ZK (s.extract 1 (s.size-1)).data.toList with
       |none=>rfl
       |some z=>rw[hy]at hx;cases hx)
      obtain⟨e1,e2⟩:=qAE HF.o;clear H HF;subst e1 e2;go_wp2;go_ret2;exact⟨rfl,qF b1 b2⟩
     |true=>
      have HO:=qA (show ZK (s.extract 1 (s.size-1)).data.toList=some o1 by
       have hx:=HD.o;cases hy:ZK (s.extract 1 (s.size-1)).data.toList with
       |none=>rw[hy]at hx;cases hx
       |some z=>rw[hy]at hx;rw[(qAE hx).1])
      have hol:o1.length<=s.size:=HL.o rfl;obtain⟨q,hq⟩:=ε (zg o1);have HQ:=qA hq;clear hq HL HD;have hqc:=Bc ⟨o1.toArray⟩ q HQ (by show o1.toArray.size<=_;rw[List.size_toArray];omega);by_cases hqs:(⟨q.toArray⟩:Φ)=s
      ·
       have hbq:(q==s.toList)=true:=by rw[beq_iff_eq,ByteArray.toList_eq];exact iW.1 hqs
       have HF:=qA (show(o1,(0:Int))=(o,e) by
        rw[<-H.o,HU.o,HO.o];symm
        show PP (if zg o1=s.data.toList then some o1 else none)=_
        rw[U6 (HQ.o.trans (iW.1 hqs))];rfl)
       obtain⟨e1,e2⟩:=qAE HF.o;clear H HF;subst e1 e2;go_wp2_with (go_at_call 184;refine(hqc _).mono ?_)
       rintro r w3 ⟨rfl,b3⟩;go_wp2;go_ret2;exact⟨rfl,qF (qF b1 b2) b3⟩
      have hbq:(q==s.toList)=false:=by rw[U0,ByteArray.toList_eq];exact λhc=>hqs (iW.2 hc)
      have HF:=qA (show(([]:Ψ),(3:Int))=(o,e) by
       rw[<-H.o,HU.o,HO.o];symm
       show PP (if zg o1=s.data.toList then some o1 else none)=_
       rw[U5 (λhc=>hqs (iW.2 (HQ.o.symm.trans hc)))];rfl)
      obtain⟨e1,e2⟩:=qAE HF.o;clear H HF;subst e1 e2;go_wp2_with (go_at_call 184;refine(hqc _).mono ?_)
      rintro r w3 ⟨rfl,b3⟩;go_wp2;go_ret2;exact⟨rfl,qF (qF b1 b2) b3⟩
    have f4:(((s[s.size-1]'ω).toNat:Int) != 34)=true:=by rw[bne_iff_ne];exact h4
    have HU:=qA (iq HP.o (.inr ⟨ω,.inr ω⟩));have HF:=qA (show(([]:Ψ),(3:Int))=(o,e) by rw[<-H.o,HU.o];rfl);obtain⟨e1,e2⟩:=qAE HF.o;clear H HF HU;subst e1 e2;go_wp2;go_ret2;exact⟨rfl,b1⟩
   have f3:(((s[0]'ω).toNat:Int) != 34)=true:=by rw[bne_iff_ne];exact h3
   have HU:=qA (iq HP.o (.inr ⟨ω,.inl ω⟩));have HF:=qA (show(([]:Ψ),(3:Int))=(o,e) by rw[<-H.o,HU.o];rfl);obtain⟨e1,e2⟩:=qAE HF.o;clear H HF HU;subst e1 e2;go_wp2;go_ret2;exact⟨rfl,b1⟩
  have HU:=qA (iq HP.o (.inl ω));have HF:=qA (show(([]:Ψ),(3:Int))=(o,e) by rw[<-H.o,HU.o];rfl);obtain⟨e1,e2⟩:=qAE HF.o;clear H HF HU;subst e1 e2;go_wp2;go_ret2;exact⟨rfl,b1⟩
theorem nG: ∀ l:Ψ,Lib.indexByte l 44=if wS l<l.length then(wS l:Int)else -1
 |[]=>rfl
 |c::r=>by
  have ih:=nG r;have hle:=VM r;by_cases h:c=44
  ·
   subst h;unfold wS Lib.indexByte;simp
  have hn: ¬ (c.toNat==44)=true:=by
   intro e;exact h (UInt8.toNat.inj (by simpa using e))
  have hn': ¬ (c==44)=true:=η
  have e1:wS (c::r)=1+wS r:=by
   rw[wS];rw[U5 hn]
  have e2:Lib.indexByte (c::r) 44=if Lib.indexByte r 44== -1 then -1 else Lib.indexByte r 44+1:=by
   rw[Lib.indexByte];rw[U5 hn']
  rw[e1,e2,ih,U7];by_cases h2:wS r<r.length
  ·
   rw[U6 h2,U6 (show 1+wS r<r.length+1 by omega),U5 (by rw[beq_iff_eq];omega)];omega
  rw[U5 h2,U5 (show ¬ 1+wS r<r.length+1 by omega),U6 δ]
theorem QM (s:Φ) (k:Nat) (h:k<s.size):s.data.toList.drop k=(s[k]'h)::s.data.toList.drop (k+1):=by
 rw[List.drop_eq_getElem_cons η,qw s k h]
theorem J7 (s:Φ) (k:Nat) (h:s.size<=k):s.data.toList.drop k=[]:=List.drop_eq_nil_of_le (by rw[Array.length_toList];exact h)
theorem yB (s:Φ):s.data.toList.length=s.size:=σ
def Qr (s:Φ) (i:Nat):Nat:=min (i+yg (s.data.toList.drop i)) s.size
theorem oN (s:Φ) (i:Nat) (h:i<s.size) (h34:(s[i]'h).toNat=34):Qr s i=i+1:=by
 unfold Qr;rw[QM s i h,yg.eq_def];simp only;rw[U6 (by simp[h34])];omega
theorem Dq (s:Φ) (i:Nat) (h:i<s.size) (h92:(s[i]'h).toNat=92):Qr s i=Qr s (i+2):=by
 unfold Qr;rw[QM s i h];by_cases h2:i+1<s.size
 ·
  rw[QM s (i+1) h2];have:(s[i]'h)=92:=UInt8.toNat.inj (by simpa using h92);rw[this,Vr];rw[show i+1+1=i+2 by omega];congr 1
  omega
 rw[J7 s (i+1) ω,J7 s (i+2) ω,yg.eq_def];simp only;rw[U5 (by simp[h92]),U6 (by simp[h92])];simp only[yg];omega
theorem oM (s:Φ) (i:Nat) (h:i<s.size) (h34: ¬ (s[i]'h).toNat=34) (h92: ¬ (s[i]'h).toNat=92):Qr s i=Qr s (i+1):=by
 unfold Qr;rw[QM s i h,Jg _ _ (by simpa using h34) (by simpa using h92)];congr 1
 omega
theorem Dp (s:Φ) (i:Nat) (h:s.size<=i):Qr s i=s.size:=by
 unfold Qr;rw[J7 s i h];simp only[yg];omega
theorem Pq (s:Φ) (i:Nat) (h:i<s.size) (h34:(s[i]'h).toNat=34):i+Qc (s.data.toList.drop i)=Qr s (i+1):=by
 unfold Qr;rw[QM s i h];unfold Qc;simp only;rw[U6 (by simp[h34])];have:=VN (s.data.toList.drop (i+1));rw[List.length_drop,yB]at this;omega
theorem OL (s:Φ) (k:Nat) (h:k<s.size) (h34: ¬ (s[k]'h).toNat=34):Qc (s.data.toList.drop k)=wS (s.data.toList.drop k):=by
 rw[QM s k h];unfold Qc;simp only;rw[U5 (by simpa using h34)]
theorem I7 (s:Φ) (k:Nat) (h:s.size<=k):Qc (s.data.toList.drop k)=wS (s.data.toList.drop k):=by rw[J7 s k h];rfl
theorem FY (s:Φ) (hs:s.size<=34359738368) (k:Nat) (hk:k<=s.size) (r:Nat) (H:Hid (k+Qc (s.data.toList.drop k)=r)) (w:World):
  Calls prog 105 #[s,k] w λe w'=>e=.returned (r:Z)/\w=w':=by
 by_cases hq: ∃ h:k<s.size,(s[k]'h).toNat=34
 ·
  obtain⟨hlt,h34⟩:=hq;have HR:=qA (show Qr s (k+1)=r by rw[<-Pq s k hlt h34];exact H.o);have h34':((s[k]'hlt).toNat:Int)=34:=ω
  clear H h34;go_enter func105,ntmps105
  go_wp2;go_step3
  go_wp2;go_step3
  go_wp2;go_loop [6] (λi=> ∃ j:Nat,j<=s.size+1/\i=j/\Hid (Qr s j=r)) (λi=>s.size+1-(intOf i).toNat)
  case atStart=>exact⟨k+1,ω,by go_num,HR⟩
  obtain⟨j,hj,rfl,HJ⟩:=hrel;by_cases hl:j<s.size
  ·
   by_cases j34:((s[j]'hl).toNat:Int)=34
   ·
    have HF:r=j+1:=by rw[<-HJ.o];exact oN s j hl ω
    have hmin:min ((j:Int)+1) (s.size:Int)=(j:Int)+1:=ω
    go_wp2;go_ret;exact⟨qR ω,rfl⟩
   by_cases j92:((s[j]'hl).toNat:Int)=92
   ·
    have HS:=qA (show Qr s (j+2)=r by rw[<-Dq s j hl ω];exact HJ.o);go_wp2;go_round;case rel=>exact⟨j+2,ω,by go_num,HS⟩
    simp[intOf];omega
   have f1:(((s[j]'hl).toNat:Int)==34)=false:=by rw[U0];exact j34
   have f2:(((s[j]'hl).toNat:Int)==92)=false:=by rw[U0];exact j92
   have HS:=qA (show Qr s (j+1)=r by rw[<-oM s j hl ω ω];exact HJ.o);go_wp2;go_round;case rel=>exact⟨j+1,ω,by go_num,HS⟩
   simp[intOf];omega
  have HF:r=s.size:=by rw[<-HJ.o];exact Dp s j ω
  have hmin:min (j:Int) (s.size:Int)=(s.size:Int):=ω
  go_wp2;go_ret;exact⟨qR ω,rfl⟩
 have he:Qc (s.data.toList.drop k)=wS (s.data.toList.drop k):=by
  rcases Nat.lt_or_ge k s.size with h|h
  · exact OL s k h λe=>hq ⟨h,e⟩
  exact I7 s k h
 have hix:=strings_IndexByte (s.extract k s.size) 44 w;have hle:=VM (s.data.toList.drop k);have hln:(s.data.toList.drop k).length=s.size-k:=by rw[List.length_drop,yB]
 rw[Y1,show((44:Int).toNat.toUInt8)=44 from rfl,nG,hln]at hix;rw[hln]at hle;have hr:k+wS (s.data.toList.drop k)=r:=by rw[<-he];exact H.o
 clear H he hln;generalize wS (s.data.toList.drop k)=n at hix hle hr
 rcases Nat.lt_or_ge k s.size with hlt|hge
 ·
  have h34: ¬ ((s[k]'hlt).toNat:Int)=34:=λe=>hq ⟨hlt,ω⟩
  have f1:(((s[k]'hlt).toNat:Int) != 34)=true:=by rw[bne_iff_ne];exact h34
  clear hq;by_cases hn:n<s.size-k
  ·
   rw[U6 hn]at hix;go_enter func105,ntmps105
   go_wp2;go_step3
   go_wp2_with (go_at_call 79;refine hix.mono ?_)
   rintro e w' ⟨rfl,rfl⟩;go_wp2;rw[Exit.noGoto_ret];go_ret;exact⟨qR ω,rfl⟩
  rw[U5 hn]at hix;go_enter func105,ntmps105
  go_wp2;go_step3
  go_wp2_with (go_at_call 79;refine hix.mono ?_)
  rintro e w' ⟨rfl,rfl⟩;go_wp2;rw[Exit.noGoto_ret];go_ret;exact⟨qR ω,rfl⟩
 obtain rfl:k=s.size:=ω
 clear hq hix;have hix:=strings_IndexByte ByteArray.empty 44 w;rw[show Lib.indexByte ByteArray.empty.data.toList ((44:Int).toNat.toUInt8)= -1 from rfl]at hix;go_enter func105,ntmps105
 go_wp2;go_step3
 go_wp2_with (go_at_call 79;refine hix.mono ?_)
 rintro e w' ⟨rfl,rfl⟩;go_wp2;rw[Exit.noGoto_ret];go_ret;exact⟨qR ω,rfl⟩
abbrev strCells (x:Ψ):List Value:=[qP x]
theorem iV (x:Ψ):(strCells x).length=1:=rfl
abbrev VW (B:Nat) (w:World) (v:Value) (l:List Ψ):Prop:=jA strCells 1 B w v l
def VV (B:Nat) (v:Value) (l:List Ψ) (w:World):Prop:=w.ownsRow B 9 1 v l.length (l.flatMap strCells)
theorem nD:(prog.info? 9).map (λi=>(i.zero,i.size,i.bytes))=some (some (ByteArray.empty:Z),1,16):=κ
theorem ZP (B:Nat) (w:World):VV B () [] w:=World.ownsRow_nil w B _ 1
theorem YZ {B:Nat} {v:Value} {l:List Ψ} {w:World} (h:VV B v l w) (o:Obj):VV B v l (w.alloc o):=World.ownsRow.alloc h o
theorem Wp {B:Nat} {v:Value} {l:List Ψ} {w w':World} (h:VV B v l w) (hb:Bl w w'):VV B v l w':=World.ownsRow.kept h (J4 hb) (by cases v.ownBlock<;>simp)
theorem Xx {B:Nat} {v':Value} {l m:List Ψ} {w:World} (h:w.ownsRow B 9 1 v' (l.length+m.length) (l.flatMap strCells++m.flatMap strCells)):VV B v' (l++m) w:=by
 unfold VV;rw[List.flatMap_append,U1];exact h
theorem Qz {B:Nat} {v:Value} {l:List Ψ} {w:World} (h:VV B v l w):VW w.heap.size w v l:=zq iV h
theorem YH {B:Nat} {v:Value} {l:List Ψ} {w:World} (h:VV B v l w): ∃ a c,v=.slice a l.length c:=by
 rcases h.2 with⟨rfl,h0⟩|⟨g,cap,cur,rfl,_⟩
 · exact⟨_,_,by rw[h0]⟩
 exact⟨_,_,rfl⟩
def pre (out:List Ψ) (r:List Ψ×Int):List Ψ×Int:=if r.2=0 then(out++r.1,0)else r
theorem MP (r:List Ψ×Int):pre [] r=r:=by
 unfold pre;split
 · rename_i h;rw[List.nil_append];exact Prod.ext rfl h.symm
 rfl
theorem MQ (out:List Ψ) (f:Ψ) (r:List Ψ×Int):pre out (pre [f] r)=pre (out++[f]) r:=by
 unfold pre;by_cases h:r.2=0
 ·
  rw[U6 h,U6 h,U6 rfl];simp
 rw[U5 h,U5 h,U5 h]
theorem uo {n:Nat} {s:Ψ} (h:jJ (s.take (Qc s))=none):kS (n+1) s=([],3):=by
 simp only[kS];rw[h]
theorem oZ {n:Nat} {s f:Ψ} (h:jJ (s.take (Qc s))=some f) (hd:s.drop (Qc s)=[]):kS (n+1) s=([f],0):=by
 simp only[kS];rw[h];simp only;rw[hd]
theorem og {n:Nat} {s f r:Ψ} {c:UInt8} (h:jJ (s.take (Qc s))=some f) (hd:s.drop (Qc s)=c::r) (hc:c.toNat=44):kS (n+1) s=pre [f] (kS n r):=by
 simp only[kS];rw[h];simp only;rw[hd];simp only;rw[U6 (by simp[hc])];rfl
theorem iQ {n:Nat} {s f r:Ψ} {c:UInt8} (h:jJ (s.take (Qc s))=some f) (hd:s.drop (Qc s)=c::r) (hc: ¬ c.toNat=44):kS (n+1) s=([],3):=by
 simp only[kS];rw[h];simp only;rw[hd];simp only;rw[U5 (by simpa using hc)]
theorem NE (s:Φ) (hs:s.size<=34359738368) (l:List Ψ) (e:Int) (H:Hid (yM s.data.toList=(l,e))) (w:World):
  Calls prog 39 #[s] w λr w'=> ∃ v,r=.returned (.tuple #[v,e])/\VV w.heap.size v l w'/\Bl w w':=by
 obtain⟨i0,hi,hz0,hz1,hz2⟩:=info_parts nD;by_cases hbig:65536<s.size
 ·
  have HF:=qA (show(([]:List Ψ),(5:Int))=(l,e) by rw[<-H.o];unfold yM;rw[U6 (by rw[yB];exact hbig)]);obtain⟨e1,e2⟩:=qAE HF.o;clear H HF;subst e1 e2;go_enter func39,ntmps39
  go_wp2;go_ret2;exact⟨_,rfl,ZP _ _,qB _⟩
 by_cases h0:s.size=0
 ·
  have hs:s.toList=[]:=wK h0;have hn:=yB s;have HF:=qA (show(([]:List Ψ),(0:Int))=(l,e) by
   rw[<-H.o];unfold yM;rw[U5 (by rw[hn];omega),U6 (List.length_eq_zero_iff.1 (hn.trans h0))])
  obtain⟨e1,e2⟩:=qAE HF.o;clear H HF;subst e1 e2;go_enter func39,ntmps39
  go_wp2;go_ret2;exact⟨_,rfl,ZP _ _,qB _⟩
 have hne:=jG h0;have hne':=jQ h0;have hn:=yB s;have HS:=qA (show pre [] (kS (64-0) (s.data.toList.drop 0))=(l,e) by
  rw[MP,<-H.o];unfold yM;rw[U5 (by rw[hn];omega),U5 (λh=>by rw[h]at hn;simp at hn;omega)];rfl)
 clear H;go_enter func39,ntmps39
 go_wp2;go_loopw [4,5] (λvo i wr=> ∃ (k:Nat) (out:List Ψ),k<=s.size/\out.length<64/\i=k/\Hid (VV w.heap.size vo out wr)/\Hid (pre out (kS (64-out.length) (s.data.toList.drop k))=(l,e))/\Hid (Bl w wr)) (λ_ i _=>s.size+1-(intOf i).toNat)
 case atStart=>exact⟨0,[],qAD _,δ,rfl,ZP _ _,HS,qB _⟩
 obtain⟨k,out,hk,hol,rfl,HO,HD,HB⟩:=hrel;obtain⟨r,hr⟩:=ε (k+Qc (s.data.toList.drop k));have hxl:=I5 (s.data.toList.drop k);rw[List.length_drop,hn]at hxl;have hrs:r<=s.size:=ω
 have hkr:k<=r:=ω
 have HR:=qA hr;have hex:=FY s hs k hk r HR;have HT:=qA (show(s.extract k r).data.toList=(s.data.toList.drop k).take (Qc (s.data.toList.drop k)) by rw[yC,<-hr,Nat.add_sub_cancel_left]);have HE:=qA (show(s.data.toList.drop k).drop (Qc (s.data.toList.drop k))=s.data.toList.drop r by rw[List.drop_drop,hr]);have h64:64-out.length=(63-out.length)+1:=ω
 rw[h64]at HD;clear hr hxl;obtain⟨u,hu⟩:=ε (jJ (s.extract k r).data.toList);have HU:=qA (show jJ ((s.data.toList.drop k).take (Qc (s.data.toList.drop k)))=u by rw[<-HT.o];exact hu);have hsz:(s.extract k r).size<=34359738368:=by rw[vH _ _ _ hrs hkr];omega
 cases u with
 |none=>
  have hun:=fH (s.extract k r) hsz [] 3 (by show _=_;rw[hu];rfl);have HF:=qA (show(([]:List Ψ),(3:Int))=(l,e) by rw[<-HD.o,uo HU.o];rfl);obtain⟨e1,e2⟩:=qAE HF.o;clear HF hu HD;subst e1 e2;go_wp2_with (go_at_call 105;refine(hex _).mono ?_)
  rintro x w1 ⟨rfl,rfl⟩;go_wp2_with (go_at_call 106;refine(hun _).mono ?_)
  rintro x w2 ⟨rfl,b2⟩;go_wp2;go_ret2;exact⟨_,rfl,ZP _ _,qF HB.o b2⟩
 |some f=>
  have hun:=fH (s.extract k r) hsz f 0 (by show _=_;rw[hu];rfl);clear hu;by_cases hend:r<s.size
  ·
   have HC:=qA (QM s r hend);by_cases h44:((s[r]'hend).toNat:Int)=44
   ·
    have HM:=qA (show pre (out++[f]) (kS (63-out.length) (s.data.toList.drop (r+1)))=(l,e) by
     rw[<-HD.o,og HU.o (HE.o.trans HC.o) ω,MQ])
    clear HD;go_wp2_with (go_at_call 105;refine(hex _).mono ?_)
    rintro x w1 ⟨rfl,rfl⟩;go_wp2_with (go_at_call 106;refine(hun _).mono ?_)
    rintro x w2 ⟨rfl,b2⟩;have B2:Hid (Bl w w2):=qF HB.o b2;have O2:=qA (Wp HO.o b2);clear b2 hun hex;go_wp2_with (at_builtin;refine wpList_append_own _ rfl _ _ 66 rfl w.heap.size 9 i0 (ByteArray.empty:Z) 1 16 underlying66 hi hz0 hz1 hz2 rfl δ _ _ _ rfl (YZ O2.o _) (w2.heap.size,0) 1 1 [qP f] rfl rfl ?c1 ?c2 ?c3 ?c4 ?c5 ?_)
    case c1=>exact zl _ (λj u h=>η)
    case c2=>simp[Value.oneCell']
    case c3=>unfold maxLen;omega
    case c4=>omega
    case c5=>have:=B2.o.size;simp;omega
    intro v3 w3 hown3 hgrow3 _;have O3:=qA (Xx (m:=[f]) hown3);have B3:Hid (Bl w w3):=(B2.o.alloc B2.o.size _).grown hgrow3 (by have:=B2.o.size;simp;omega) (λk hk=>(qAG O2.o k hk).1);clear hown3 hgrow3;obtain⟨a3,c3,rfl⟩:=YH O3.o;have hl3:(out++[f]).length=out.length+1:=σ
    rw[hl3]at O3 ⊢;by_cases hfull:out.length=63
    ·
     have HF:=qA (show(([]:List Ψ),(5:Int))=(l,e) by
      rw[<-HM.o,hfull];rfl)
     obtain⟨e1,e2⟩:=qAE HF.o;clear HF HM;subst e1 e2;go_wp2;go_ret2;exact⟨_,rfl,ZP _ _,B3.o⟩
    go_wp2;go_roundw;case rel=>exact⟨r+1,out++[f],ω,ω,by go_num,O3,by rw[hl3,show 64-(out.length+1)=63-out.length by omega];exact HM,B3⟩
    simp[intOf];omega
   have f1:(((s[r]'hend).toNat:Int) != 44)=true:=by rw[bne_iff_ne];exact h44
   have HF:=qA (show(([]:List Ψ),(3:Int))=(l,e) by
    rw[<-HD.o,iQ HU.o (HE.o.trans HC.o) ω];rfl)
   obtain⟨e1,e2⟩:=qAE HF.o;clear HF HD;subst e1 e2;go_wp2_with (go_at_call 105;refine(hex _).mono ?_)
   rintro x w1 ⟨rfl,rfl⟩;go_wp2_with (go_at_call 106;refine(hun _).mono ?_)
   rintro x w2 ⟨rfl,b2⟩;go_wp2;go_ret2;exact⟨_,rfl,ZP _ _,qF HB.o b2⟩
  obtain rfl:r=s.size:=ω
  have HF:=qA (show(out++[f],(0:Int))=(l,e) by
   rw[<-HD.o,oZ HU.o (HE.o.trans (J7 s _ (U3 _)))];rfl)
  obtain⟨e1,e2⟩:=qAE HF.o;clear HF HD;subst e1 e2;go_wp2_with (go_at_call 105;refine(hex _).mono ?_)
  rintro x w1 ⟨rfl,rfl⟩;go_wp2_with (go_at_call 106;refine(hun _).mono ?_)
  rintro x w2 ⟨rfl,b2⟩;have B2:Hid (Bl w w2):=qF HB.o b2;have O2:=qA (Wp HO.o b2);clear b2 hun hex;go_wp2_with (at_builtin;refine wpList_append_own _ rfl _ _ 66 rfl w.heap.size 9 i0 (ByteArray.empty:Z) 1 16 underlying66 hi hz0 hz1 hz2 rfl δ _ _ _ rfl (YZ O2.o _) (w2.heap.size,0) 1 1 [qP f] rfl rfl ?c1 ?c2 ?c3 ?c4 ?c5 ?_)
  case c1=>exact zl _ (λj u h=>η)
  case c2=>simp[Value.oneCell']
  case c3=>unfold maxLen;omega
  case c4=>omega
  case c5=>have:=B2.o.size;simp;omega
  intro v3 w3 hown3 hgrow3 _;have O3:=qA (Xx (m:=[f]) hown3);have B3:Hid (Bl w w3):=(B2.o.alloc B2.o.size _).grown hgrow3 (by have:=B2.o.size;simp;omega) (λk hk=>(qAG O2.o k hk).1);clear hown3 hgrow3;go_wp2;go_ret2;exact⟨_,rfl,O3.o,B3.o⟩
theorem YM {α:Type} {l:List α} {k:Nat} {x:α} (h:l[k]? =some x):l.take (k+1)=l.take k++[x]:=by
 obtain⟨hk,rfl⟩:=Uw.1 h;exact List.take_succ_eq_append_getElem hk
theorem tV {l:List Ψ} {x:Ψ} (h:l[0]? =some x):kK (l.take (0+1))=zg x:=by
 rw[YM h];rfl
theorem DC {l:List Ψ} {k:Nat} {x:Ψ} (h0:0<k) (h:l[k]? =some x):kK (l.take (k+1))=(kK (l.take k)++[44])++zg x:=by
 obtain⟨hk,-⟩:=Uw.1 h;rw[YM h,Xj _ _ (λe=>by have:=congrArg List.length e;rw[List.length_take,List.length_nil]at this;omega)];simp
theorem dV {l:List Ψ} {k:Nat} {line:Ψ} (h:kK (l.take k)=line) (ho:65536<line.length) (h64: ¬ 64<l.length):zL l=([],5):=by
 have:=bF l k;unfold zL;rw[U5 h64,U6 (by rw[h]at this;omega)]
theorem GM {l:List Ψ} {k:Nat} {line:Ψ} (h:kK (l.take k)=line) (hk:l.length<=k) (ho:line.length<=65536) (h64: ¬ 64<l.length):zL l=(line,0):=by
 rw[U9 hk]at h;unfold zL;rw[U5 h64,U5 (by rw[h];omega),h]
theorem gZ (v:Value) (l:List Ψ) (o:Ψ) (e:Int) (H:Hid (zL l=(o,e))) (HL:Hid (∀ x∈l,x.length<=131072)) (B:Nat) (w:World) (hv:VW B w v l) (hB:B<=w.heap.size):
  Calls prog 148 #[v] w λr w'=>r=.returned (.tuple #[qP o,e])/\Bl w w':=by
 by_cases hbig:64<l.length
 ·
  obtain⟨b1,o1,cap1,rfl,l1,m1,hb1,hc1⟩:=hv.open ω;have HF:=qA (show(([]:Ψ),(5:Int))=(o,e) by rw[<-H.o];unfold zL;rw[U6 hbig]);obtain⟨e1,e2⟩:=qAE HF.o;clear H HF hv hc1;subst e1 e2;go_enter func148,ntmps148
  go_wp2;go_ret2;exact⟨rfl,qB _⟩
 by_cases h0:0<l.length
 ·
  obtain⟨b1,o1,cap1,rfl,l1,m1,hb1,hc1⟩:=hv.open h0;have H1:=qA hc1;clear hv hc1;go_enter func148,ntmps148
  go_wp2;go_loopw [4,12] (λvo i wr=> ∃ (k:Nat) (line:Ψ),k<=l.length/\i=k/\vo=qP line/\line.length<=65536/\Hid (kK (l.take k)=line)/\Hid (Bl w wr)) (λ_ i _=>l.length-(intOf i).toNat)
  case atStart=>exact⟨0,[],qAD _,rfl,rfl,δ,by show _=_;rfl,qB _⟩
  obtain⟨k,line,hk,rfl,rfl,hll,HJ,HB⟩:=hrel;by_cases hlt:k<l.length
  ·
   obtain⟨x,hx⟩: ∃ x,l[k]? =some x:=⟨_,U2 hlt⟩;have c1:wr.cell? (b1,o1+k)=some (qP x):=by rw[(qG HB.o).1 _ _ ω];exact(by have:=H1.o k x hx 0 _ rfl;simpa using this)
   have i1:(k:Int)<(l.length:Int):=ω
   have hxl:x.length<=131072:=HL.o x (Uz hx);obtain⟨q,hq⟩:=ε (zg x);have hql:q.length<=524290:=by rw[<-hq];have:=(YJ x).2;omega
   have HQ:=qA hq;have hqc:=Bc ⟨x.toArray⟩ q HQ (by show x.toArray.size<=_;rw[List.size_toArray];omega);by_cases hk0:0<k
   ·
    have HN:=qA (show kK (l.take (k+1))=(line++[44])++q by rw[DC hk0 hx,HJ.o,hq]);clear hx hq;go_wp2_with (go_at_call 210;refine(Yu wr.heap.size 0 2 line [44] _ (by rw[Uy (hn:=rfl)];rfl) (by rw[Uy (hn:=rfl)];rfl) σ (U3 _) τ).mono ?_)
    rintro r w2 ⟨rfl,b2⟩;have B2:Hid (Bl w w2):=qF (qE HB.o _) b2;clear b2;go_wp2_with (go_at_call 184;refine(hqc _).mono ?_)
    rintro r w3 ⟨rfl,b3⟩;have B3:Hid (Bl w w3):=qF B2.o b3;clear b3 hqc;go_wp2_with (go_at_call 210;refine(Yu w3.heap.size 0 2 (line++[44]) q _ (by rw[Uy (hn:=rfl)];rfl) (by rw[Uy (hn:=rfl)];rfl) σ (U3 _) τ).mono ?_)
    rintro r w4 ⟨rfl,b4⟩;have B4:Hid (Bl w w4):=qF (qE B3.o _) b4;clear b4;obtain⟨line',hl'⟩:=ε ((line++[44])++q);rw[hl']at HN ⊢;clear hl';by_cases hover:65536<line'.length
    ·
     have HF:=qA (dV HN.o hover ω);obtain⟨e1,e2⟩:=qAE (HF.o.symm.trans H.o);clear HF H;subst e1 e2;go_wp2;go_ret2;exact⟨rfl,B4.o⟩
    go_wp2;go_roundw;case rel=>exact⟨k+1,line',ω,by go_num,rfl,ω,HN,B4⟩
    simp[intOf];omega
   have HN:=qA (show kK (l.take (k+1))=line++q by
    have hkz:k=0:=ω
    have hl0:line=[]:=by rw[<-HJ.o,hkz];rfl
    rw[hl0,List.nil_append,hkz,tV (by rw[<-hkz];exact hx),hq])
   clear hx hq;go_wp2_with (go_at_call 184;refine(hqc _).mono ?_)
   rintro r w3 ⟨rfl,b3⟩;have B3:Hid (Bl w w3):=qF HB.o b3;clear b3 hqc;go_wp2_with (go_at_call 210;refine(Yu w3.heap.size 0 2 line q _ (by rw[Uy (hn:=rfl)];rfl) (by rw[Uy (hn:=rfl)];rfl) σ (U3 _) ω).mono ?_)
   rintro r w4 ⟨rfl,b4⟩;have B4:Hid (Bl w w4):=qF (qE B3.o _) b4;clear b4;obtain⟨line',hl'⟩:=ε (line++q);rw[hl']at HN ⊢;clear hl';by_cases hover:65536<line'.length
   ·
    have HF:=qA (dV HN.o hover ω);obtain⟨e1,e2⟩:=qAE (HF.o.symm.trans H.o);clear HF H;subst e1 e2;go_wp2;go_ret2;exact⟨rfl,B4.o⟩
   go_wp2;go_roundw;case rel=>exact⟨k+1,line',ω,by go_num,rfl,ω,HN,B4⟩
   simp[intOf];omega
  have HF:=qA (GM HJ.o ω hll ω);obtain⟨e1,e2⟩:=qAE (HF.o.symm.trans H.o);clear HF H;subst e1 e2;go_wp2;go_ret2;exact⟨rfl,HB.o⟩
 obtain⟨a1,c1,rfl,m1,rfl⟩:=hv.empty ω;have HF:=qA (show(([]:Ψ),(0:Int))=(o,e) by rw[<-H.o];rfl);obtain⟨e1,e2⟩:=qAE HF.o;clear H HF hv;subst e1 e2;go_enter func148,ntmps148
 go_wp2_with fail;refine wp_loop_rounds 1 ?_;rw[rounds_succ];go_wp2;go_ret2;exact⟨rfl,qB _⟩
