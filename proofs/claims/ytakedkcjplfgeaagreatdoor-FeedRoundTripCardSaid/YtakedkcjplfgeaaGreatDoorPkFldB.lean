/-
  PkFldB: what the law of feed needs of FFldWalksF, FFldWalksG, FFldWalksH, FFldWalksI, FFldWalksJ, FFldWalksK, FFldWalksL. Conditions: those of each lemma.
-/
import Derived.Test.YtakedkcjplfgeaaGreatDoorPkFldA
import Derived.Test.YtakedkcjplfgeaaGreatDoorPkPlain
import Derived.Test.YtakedkcjplfgeaaGreatDoorPkBase
import Derived.Lib.Strings
set_option maxRecDepth 1000000
set_option maxHeartbeats 32000000
namespace Go.Proofs.YtakedkcjplfgeaaGreatDoor
open Go.RowKit
open Fld
theorem ext_list (s:ByteArray) (i j:Nat):(s.extract i j).data.toList=(s.data.toList.drop i).take (j-i):=by rw[Lib.extract_data]
theorem ext_tail (s:ByteArray) (k:Nat):(s.extract k s.size).data.toList=s.data.toList.drop k:=by
 rw[ext_list,List.take_of_length_le];rw[List.length_drop,Array.length_toList];exact Nat.le_refl _
theorem ext_size (s:ByteArray) (i j:Nat) (h:j≤s.size) (hij:i≤j):(s.extract i j).size=j-i:=by simp;omega
theorem drop_ne {s:ByteArray} {k:Nat} (h:k<s.size):s.data.toList.drop k≠[]:=by
 intro e;have:=congrArg List.length e;rw[List.length_drop,Array.length_toList]at this;have hh:s.data.size=s.size:=rfl;simp at this
 omega
theorem ext_head (s:ByteArray) (k:Nat) (h:k<s.size) (h':0<(s.extract k s.size).size):(s.extract k s.size)[0]'h'=s[k]'h:=by
 have e0:=bytes_get? (s.extract k s.size) 0 h';rw[ext_tail,List.getElem?_drop,Nat.add_zero,bytes_get? s k h]at e0;exact(Option.some.inj e0).symm
theorem dec_step {l out:List UInt8} {k n:Nat} {b:UInt8} (h:oneS (l.drop k)=some (b,n)) (hr:decS l=(decS (l.drop k)).map (out++ ·)):decS l=(decS (l.drop (k+n))).map ((out++[b])++ ·):=by
 rw[hr,decS_step h,List.drop_drop,Option.map_map];congr 1
 funext x
 simp
theorem one_at (s:ByteArray) (k:Nat) (h:k<s.size) (h92: ¬ (s[k]'h).toNat=92):oneS (s.data.toList.drop k)=some (s[k]'h,1):=by
 have hz:0<(s.extract k s.size).size:=by rw[ext_size _ _ _ (Nat.le_refl _) (by omega)];omega
 have:=one_plain (s:=s.extract k s.size) hz (by rw[ext_head s k h hz];exact h92);rw[ext_tail,ext_head s k h hz]at this;exact this
theorem pair_some {o:Option (UInt8×Nat)} {c:UInt8} {n:Nat} (h:o.getD (0,0)=(c,n)) (hn: ¬ n=0):o=some (c,n):=by
 cases o with
 |none=>exact absurd (Prod.mk.inj h).2.symm hn
 |some p=>exact congrArg some h
theorem pair_none {l:List UInt8} {c:UInt8} (h:(oneS l).getD (0,0)=(c,0)):oneS l=none:=by
 cases ho:oneS l with
 |none=>rfl
 |some p=>
  obtain⟨b,k⟩:=p;rw[ho]at h;have:=(oneS_pos ho).1;have e:k=0:=(Prod.mk.inj (show(b,k)=(c,0) from h)).2;omega
theorem bl_grown {W W':World} (hb:Bl W W'):W.grownBy W' none:=⟨hb.os,hb.tape,hb.output,hb.size,fun k hk _=>hb.block k hk⟩
theorem ownB_bl {B:Nat} {v:Value} {l:List UInt8} {w w':World} (h:OwnB B v l w) (hb:Bl w w'):OwnB B v l w':=World.ownsRow.kept h (bl_grown hb) (by cases v.ownBlock<;>simp)
def decR (r:Option (List UInt8)):List UInt8×Bool:=match r with
 |some o=>(o,true)
 |none=>([],false)
theorem decode_c (s:ByteArray) (hs:s.size≤34359738368) (o:List UInt8) (ok:Bool) (H:Hid (decR (decS s.data.toList)=(o,ok))) (w:World):
  Calls Tryz.prog 183 #[.string s] w fun e w'=>e= .returned (.tuple #[str o, .bool ok])∧Bl w w':=by
 obtain⟨i0,hi,hz0,hz1,hz2⟩:=info_parts info_byte;go_enter Tryz.func183,Tryz.ntmps183
 go_wp2;go_loopw [4,5] (fun vo i wr=> ∃ (k:Nat) (out:List UInt8),k≤s.size∧out.length≤k∧i= .int .i64 k∧Hid (OwnB w.heap.size vo out wr)∧Hid (decS s.data.toList=(decS (s.data.toList.drop k)).map (out++ ·))∧Hid (Bl w wr)) (fun _ i _=>s.size-(intOf i).toNat)
 case atStart=>exact⟨0,[],Nat.zero_le _,Nat.le_refl _,rfl,ownB_nil _ _,by show _=_;simp,bl_refl _⟩
 case round=>
  obtain⟨k,out,hk,hol,rfl,HO,HD,HB⟩:=hrel;by_cases hlt:k<s.size
  ·
   by_cases h92:((s[k]'hlt).toNat:Int)=92
   ·
    have hz:0<(s.extract k s.size).size:=by rw[ext_size _ _ _ (Nat.le_refl _) (by omega)];omega
    have hm:(s.extract k s.size).size≤maxLen:=by rw[ext_size _ _ _ (Nat.le_refl _) (by omega)];unfold maxLen;omega
    obtain⟨c,n,hcn⟩: ∃ c n,(oneS (s.data.toList.drop k)).getD (0,0)=(c,n):=⟨_,_,rfl⟩;have HC:=Lib.hid hcn;have HX:=Lib.hid (show(oneS (s.extract k s.size).data.toList).getD (0,0)=(c,n) by rw[ext_tail];exact hcn);have he:=escape_c (s.extract k s.size) hm hz (by rw[ext_head s k hlt hz];omega) c n HX;clear hcn;have hlen:(s.data.toList.drop k).length=s.size-k:=by rw[List.length_drop,Array.length_toList];rfl
    go_wp2_with (go_at_call 240;refine(he _).mono ?_)
    rintro e w1 ⟨rfl,b1⟩;have B1:Hid (Bl w w1):=bl_next HB.out b1;have O1:=Lib.hid (ownB_bl HO.out b1);clear b1 he;by_cases hn:n=0
    ·
     subst hn;have HN:=Lib.hid (show([],false)=(o,ok) by rw[←H.out,HD.out,decS_bad (drop_ne hlt) (pair_none HC.out)];rfl);obtain⟨e1,e2⟩:=Prod.mk.inj HN.out;clear H HN;subst e1 e2;go_wp2;go_ret2;exact⟨rfl,B1.out⟩
    ·
     have ho:=pair_some HC.out hn;have hp:=oneS_pos ho;have HS:=Lib.hid (dec_step ho HD.out);have hnz:((n:Nat):Int)≠0:=by omega
     rw[hlen]at hp;clear ho hlen;go_wp2_with (at_builtin;refine wpList_append_own _ rfl _ _ 140 rfl w.heap.size 5 i0 (.int .u8 0) 1 1 Tryz.underlying140 hi hz0 hz1 hz2 rfl (by decide) _ _ _ rfl (ownB_alloc O1.out _) ⟨w1.heap.size,0,none⟩ 1 1 [.int .u8 c.toNat] rfl rfl ?c1 ?c2 ?c3 ?c4 ?c5 ?_)
     case c1=>exact cells_of_lit _ (fun j u h=>by simpa using h)
     case c2=>simp[Value.oneCell']
     case c3=>unfold maxLen;omega
     case c4=>omega
     case c5=>have:=B1.out.size;simp;omega
     intro v3 w3 hown3 hgrow3 _;have O3:=Lib.hid (ownB_app (m:=[c]) hown3);have B3:Hid (Bl w w3):=(B1.out.alloc B1.out.size _).grown hgrow3 (by have:=B1.out.size;simp;omega) (fun k hk=>(World.ownsRow.lt O1.out k hk).1);clear hown3 hgrow3;go_wp2;go_roundw;case rel=>exact⟨k+n,out++[c],by omega,by simp;omega,by go_num,O3,HS,B3⟩
     case measure=>simp[intOf];omega
   ·
    have HS:=Lib.hid (dec_step (one_at s k hlt (by omega)) HD.out);have f1:(((s[k]'hlt).toNat:Int) != 92)=true:=by rw[bne_iff_ne];exact h92
    go_wp2_with (at_builtin;refine wpList_append_own _ rfl _ _ 140 rfl w.heap.size 5 i0 (.int .u8 0) 1 1 Tryz.underlying140 hi hz0 hz1 hz2 rfl (by decide) _ _ _ rfl (ownB_alloc HO.out _) ⟨wr.heap.size,0,none⟩ 1 1 [.int .u8 (s[k]'hlt).toNat] rfl rfl ?c1 ?c2 ?c3 ?c4 ?c5 ?_)
    case c1=>exact cells_of_lit _ (fun j u h=>by simpa using h)
    case c2=>simp[Value.oneCell']
    case c3=>unfold maxLen;omega
    case c4=>omega
    case c5=>have:=HB.out.size;simp;omega
    intro v3 w3 hown3 hgrow3 _;have O3:=Lib.hid (ownB_app (m:=[s[k]'hlt]) hown3);have B3:Hid (Bl w w3):=(HB.out.alloc HB.out.size _).grown hgrow3 (by have:=HB.out.size;simp;omega) (fun k hk=>(World.ownsRow.lt HO.out k hk).1);clear hown3 hgrow3;go_wp2;go_roundw;case rel=>exact⟨k+1,out++[s[k]'hlt],by omega,by simp;omega,by go_num,O3,HS,B3⟩
    case measure=>simp[intOf];omega
  ·
   have HF:=Lib.hid (show(out,true)=(o,ok) by
    rw[←H.out,HD.out,List.drop_eq_nil_of_le (by rw[Array.length_toList];show s.size≤k;omega),decS_nil];simp[decR])
   obtain⟨e1,e2⟩:=Prod.mk.inj HF.out;clear H HF;subst e1 e2;have hcv:=ownB_conv HO.out;go_wp2;go_ret2;exact⟨rfl,HB.out⟩
end Go.Proofs.YtakedkcjplfgeaaGreatDoor
namespace Go.Proofs.YtakedkcjplfgeaaGreatDoor
open Go.RowKit
open Fld
theorem decN_len: ∀ (f:Nat) (s o:List UInt8),decN f s=some o→o.length≤s.length
 |0,[],o,h=>by cases h;exact Nat.le_refl _
 |f+1,[],o,h=>by cases h;exact Nat.le_refl _
 |0,_::_,o,h=>by cases h
 |f+1,c::r,o,h=>by
  simp only[decN]at h;split at h
  · cases h
  ·
   rename_i b k hk;obtain⟨h1,h2⟩:=oneS_pos hk;obtain⟨o',ho',rfl⟩:=Option.map_eq_some_iff.1 h;have:=decN_len f _ o' ho';rw[List.length_drop]at this;rw[List.length_cons];omega
theorem decS_len {s o:List UInt8} (h:decS s=some o):o.length≤s.length:=decN_len _ _ _ h
def unqR (r:Option (List UInt8)):List UInt8×Int:=match r with
 |some o=>(o,0)
 |none=>([],3)
theorem str_eq {q:List UInt8} {s:ByteArray}:(⟨q.toArray⟩:ByteArray)=s↔q=s.data.toList:=by
 constructor
 · intro h;rw[←h]
 · intro h;rw[h]
theorem unq_plain {l:List UInt8} (h:plainS l=true):unquoteS l=some l:=by unfold unquoteS;rw[if_pos h]
theorem head_is (s:ByteArray) (h:0<s.size):s.data.toList.head?=some (s[0]'h):=by rw[List.head?_eq_getElem?];exact bytes_get? s 0 h
theorem last_is (s:ByteArray) (h:0<s.size):s.data.toList.getLast?=some (s[s.size-1]'(by omega)):=by
 rw[List.getLast?_eq_getElem?,show s.data.toList.length=s.size by simp];exact bytes_get? s _ (by omega)
theorem some34 (b:UInt8):((some b:Option UInt8)==some 34)=(b.toNat==34):=by
 by_cases e:b=34
 · subst e;rfl
 ·
  have: ¬ b.toNat=34:=fun k=>e (UInt8.toNat.inj (by simpa using k))
  rw[show(b.toNat==34)=false by simpa using this];simpa using e
theorem unq_bad {s:ByteArray} (h:plainS s.data.toList=false) (hb:s.size<2∨(∃ h0:0<s.size,¬ (s[0]'h0).toNat=34∨ ¬ (s[s.size-1]'(by omega)).toNat=34)):unquoteS s.data.toList=none:=by
 unfold unquoteS;rw[if_neg (by rw[h];decide),if_pos];rw[show s.data.toList.length=s.size by simp];rcases hb with hb|⟨h0,hb⟩
 · simp[hb]
 ·
  rw[head_is s h0,last_is s h0,some34,some34];rcases hb with hb|hb<;>simp[hb]
theorem unq_in {s:ByteArray} (h:plainS s.data.toList=false) (h2:2≤s.size) (h3:(s[0]'(by omega)).toNat=34) (h4:(s[s.size-1]'(by omega)).toNat=34):
  unquoteS s.data.toList=match decS (s.extract 1 (s.size-1)).data.toList with
   |none=>none
   |some o=>if quoteS o=s.data.toList then some o else none:=by
 have hl:s.data.toList.length=s.size:=by simp
 unfold unquoteS;rw[if_neg (by rw[h];decide),if_neg,ext_list,List.dropLast_eq_take,List.length_drop,hl]
 · rfl
 ·
  rw[hl,head_is s (by omega),last_is s (by omega),some34,some34,h3,h4];simp
  omega
theorem unquote_c (s:ByteArray) (hs:s.size≤34359738368) (o:List UInt8) (e:Int) (H:Hid (unqR (unquoteS s.data.toList)=(o,e))) (w:World):
  Calls Tryz.prog 106 #[.string s] w fun r w'=>r= .returned (.tuple #[str o, .int .i64 e])∧Bl w w':=by
 obtain⟨p,hp⟩: ∃ p,plainS s.data.toList=p:=⟨_,rfl⟩;have HP:=Lib.hid hp;clear hp;go_enter Tryz.func106,Tryz.ntmps106
 go_wp2_with (go_at_call 182;refine(plain_c s (by unfold maxLen;omega) _).mono ?_)
 rintro r w1 ⟨rfl,b1⟩;rw[HP.out];cases p with
 |true=>
  have HF:=Lib.hid (show(s.data.toList,(0:Int))=(o,e) by rw[←H.out,unq_plain HP.out];rfl);obtain⟨e1,e2⟩:=Prod.mk.inj HF.out;clear H HF;subst e1 e2;go_wp2;go_ret2;exact⟨rfl,b1⟩
 |false=>
  by_cases h2:2≤s.size
  ·
   by_cases h3:((s[0]'(by omega)).toNat:Int)=34
   ·
    by_cases h4:((s[s.size-1]'(by omega)).toNat:Int)=34
    ·
     have HU:=Lib.hid (unq_in HP.out h2 (by omega) (by omega));obtain⟨o1,ok1,hd⟩: ∃ o1 ok1,decR (decS (s.extract 1 (s.size-1)).data.toList)=(o1,ok1):=⟨_,_,rfl⟩;have HD:=Lib.hid hd;have hdc:=decode_c (s.extract 1 (s.size-1)) (by rw[ext_size _ _ _ (by omega) (by omega)];omega) o1 ok1 HD;clear hd;have HL:=Lib.hid (fun(h:ok1=true)=>show o1.length≤s.size by
      have hx:decR (decS (s.extract 1 (s.size-1)).data.toList)=(o1,ok1):=HD.out;cases hy:decS (s.extract 1 (s.size-1)).data.toList with
      |none=>rw[hy]at hx;rw[h]at hx;cases hx
      |some z=>
       rw[hy]at hx;obtain⟨rfl,-⟩:=Prod.mk.inj hx;have:=decS_len hy;have h1:(s.extract 1 (s.size-1)).data.toList.length=(s.extract 1 (s.size-1)).size:=by simp
       rw[h1,ext_size _ _ _ (by omega) (by omega)]at this;omega)
     go_wp2_with (go_at_call 183;refine(hdc _).mono ?_)
     rintro r w2 ⟨rfl,b2⟩;clear hdc;cases ok1 with
     |false=>
      have HF:=Lib.hid (show(([]:List UInt8),(3:Int))=(o,e) by
       have hx:=HD.out;rw[←H.out,HU.out];cases hy:decS (s.extract 1 (s.size-1)).data.toList with
       |none=>rfl
       |some z=>rw[hy]at hx;cases hx)
      obtain⟨e1,e2⟩:=Prod.mk.inj HF.out;clear H HF;subst e1 e2;go_wp2;go_ret2;exact⟨rfl,bl_next b1 b2⟩
     |true=>
      have HO:=Lib.hid (show decS (s.extract 1 (s.size-1)).data.toList=some o1 by
       have hx:=HD.out;cases hy:decS (s.extract 1 (s.size-1)).data.toList with
       |none=>rw[hy]at hx;cases hx
       |some z=>rw[hy]at hx;rw[(Prod.mk.inj hx).1])
      have hol:o1.length≤s.size:=HL.out rfl;obtain⟨q,hq⟩: ∃ q,quoteS o1=q:=⟨_,rfl⟩;have HQ:=Lib.hid hq;clear hq HL HD;have hqc:=quote_c ⟨o1.toArray⟩ q HQ (by show o1.toArray.size≤_;rw[List.size_toArray];omega);by_cases hqs:(⟨q.toArray⟩:ByteArray)=s
      ·
       have hbq:(q==s.toList)=true:=by rw[beq_iff_eq,ByteArray.toList_eq];exact str_eq.1 hqs
       have HF:=Lib.hid (show(o1,(0:Int))=(o,e) by
        rw[←H.out,HU.out,HO.out];symm
        show unqR (if quoteS o1=s.data.toList then some o1 else none)=_
        rw[if_pos (HQ.out.trans (str_eq.1 hqs))];rfl)
       obtain⟨e1,e2⟩:=Prod.mk.inj HF.out;clear H HF;subst e1 e2;go_wp2_with (go_at_call 184;refine(hqc _).mono ?_)
       rintro r w3 ⟨rfl,b3⟩;go_wp2;go_ret2;exact⟨rfl,bl_next (bl_next b1 b2) b3⟩
      ·
       have hbq:(q==s.toList)=false:=by rw[beq_eq_false_iff_ne,ByteArray.toList_eq];exact fun hc=>hqs (str_eq.2 hc)
       have HF:=Lib.hid (show(([]:List UInt8),(3:Int))=(o,e) by
        rw[←H.out,HU.out,HO.out];symm
        show unqR (if quoteS o1=s.data.toList then some o1 else none)=_
        rw[if_neg (fun hc=>hqs (str_eq.2 (HQ.out.symm.trans hc)))];rfl)
       obtain⟨e1,e2⟩:=Prod.mk.inj HF.out;clear H HF;subst e1 e2;go_wp2_with (go_at_call 184;refine(hqc _).mono ?_)
       rintro r w3 ⟨rfl,b3⟩;go_wp2;go_ret2;exact⟨rfl,bl_next (bl_next b1 b2) b3⟩
    ·
     have f4:(((s[s.size-1]'(by omega)).toNat:Int) != 34)=true:=by rw[bne_iff_ne];exact h4
     have HU:=Lib.hid (unq_bad HP.out (.inr ⟨by omega, .inr (by omega)⟩));have HF:=Lib.hid (show(([]:List UInt8),(3:Int))=(o,e) by rw[←H.out,HU.out];rfl);obtain⟨e1,e2⟩:=Prod.mk.inj HF.out;clear H HF HU;subst e1 e2;go_wp2;go_ret2;exact⟨rfl,b1⟩
   ·
    have f3:(((s[0]'(by omega)).toNat:Int) != 34)=true:=by rw[bne_iff_ne];exact h3
    have HU:=Lib.hid (unq_bad HP.out (.inr ⟨by omega, .inl (by omega)⟩));have HF:=Lib.hid (show(([]:List UInt8),(3:Int))=(o,e) by rw[←H.out,HU.out];rfl);obtain⟨e1,e2⟩:=Prod.mk.inj HF.out;clear H HF HU;subst e1 e2;go_wp2;go_ret2;exact⟨rfl,b1⟩
  ·
   have HU:=Lib.hid (unq_bad HP.out (.inl (by omega)));have HF:=Lib.hid (show(([]:List UInt8),(3:Int))=(o,e) by rw[←H.out,HU.out];rfl);obtain⟨e1,e2⟩:=Prod.mk.inj HF.out;clear H HF HU;subst e1 e2;go_wp2;go_ret2;exact⟨rfl,b1⟩
end Go.Proofs.YtakedkcjplfgeaaGreatDoor
namespace Go.Proofs.YtakedkcjplfgeaaGreatDoor
open Go.RowKit
open Fld
theorem ix_scanC: ∀ l:List UInt8,Lib.indexByte l 44=if scanC l<l.length then(scanC l:Int)else -1
 |[]=>rfl
 |c::r=>by
  have ih:=ix_scanC r;have hle:=scanC_le r;by_cases h:c=44
  ·
   subst h;unfold scanC Lib.indexByte;simp
  ·
   have hn: ¬ (c.toNat==44)=true:=by
    intro e;exact h (UInt8.toNat.inj (by simpa using e))
   have hn': ¬ (c==44)=true:=by simpa using h
   have e1:scanC (c::r)=1+scanC r:=by
    rw[scanC];rw[if_neg hn]
   have e2:Lib.indexByte (c::r) 44=if Lib.indexByte r 44== -1 then -1 else Lib.indexByte r 44+1:=by
    rw[Lib.indexByte];rw[if_neg hn']
   rw[e1,e2,ih,List.length_cons];by_cases h2:scanC r<r.length
   ·
    rw[if_pos h2,if_pos (show 1+scanC r<r.length+1 by omega),if_neg (by rw[beq_iff_eq];omega)];omega
   · rw[if_neg h2,if_neg (show ¬ 1+scanC r<r.length+1 by omega),if_pos (by decide)]
theorem drop_cons (s:ByteArray) (k:Nat) (h:k<s.size):s.data.toList.drop k=(s[k]'h)::s.data.toList.drop (k+1):=by
 rw[List.drop_eq_getElem_cons (by simpa using h),bytes_get s k h]
theorem drop_end (s:ByteArray) (k:Nat) (h:s.size≤k):s.data.toList.drop k=[]:=List.drop_eq_nil_of_le (by rw[Array.length_toList];exact h)
theorem len_bytes (s:ByteArray):s.data.toList.length=s.size:=by simp
def restQ (s:ByteArray) (i:Nat):Nat:=min (i+scanQ (s.data.toList.drop i)) s.size
theorem restQ_quote (s:ByteArray) (i:Nat) (h:i<s.size) (h34:(s[i]'h).toNat=34):restQ s i=i+1:=by
 unfold restQ;rw[drop_cons s i h,scanQ.eq_def];simp only;rw[if_pos (by simp[h34])];omega
theorem restQ_esc (s:ByteArray) (i:Nat) (h:i<s.size) (h92:(s[i]'h).toNat=92):restQ s i=restQ s (i+2):=by
 unfold restQ;rw[drop_cons s i h];by_cases h2:i+1<s.size
 ·
  rw[drop_cons s (i+1) h2];have:(s[i]'h)=92:=UInt8.toNat.inj (by simpa using h92);rw[this,scanQ_esc];rw[show i+1+1=i+2 by omega];congr 1
  omega
 ·
  rw[drop_end s (i+1) (by omega),drop_end s (i+2) (by omega),scanQ.eq_def];simp only;rw[if_neg (by simp[h92]),if_pos (by simp[h92])];simp only[scanQ];omega
theorem restQ_other (s:ByteArray) (i:Nat) (h:i<s.size) (h34: ¬ (s[i]'h).toNat=34) (h92: ¬ (s[i]'h).toNat=92):restQ s i=restQ s (i+1):=by
 unfold restQ;rw[drop_cons s i h,scanQ_skip _ _ (by simpa using h34) (by simpa using h92)];congr 1
 omega
theorem restQ_end (s:ByteArray) (i:Nat) (h:s.size≤i):restQ s i=s.size:=by
 unfold restQ;rw[drop_end s i h];simp only[scanQ];omega
theorem ext_q (s:ByteArray) (i:Nat) (h:i<s.size) (h34:(s[i]'h).toNat=34):i+extS (s.data.toList.drop i)=restQ s (i+1):=by
 unfold restQ;rw[drop_cons s i h];unfold extS;simp only;rw[if_pos (by simp[h34])];have:=scanQ_le (s.data.toList.drop (i+1));rw[List.length_drop,len_bytes]at this;omega
theorem ext_c0 (s:ByteArray) (k:Nat) (h:k<s.size) (h34: ¬ (s[k]'h).toNat=34):extS (s.data.toList.drop k)=scanC (s.data.toList.drop k):=by
 rw[drop_cons s k h];unfold extS;simp only;rw[if_neg (by simpa using h34)]
theorem ext_end (s:ByteArray) (k:Nat) (h:s.size≤k):extS (s.data.toList.drop k)=scanC (s.data.toList.drop k):=by rw[drop_end s k h];rfl
theorem extent_c (s:ByteArray) (hs:s.size≤34359738368) (k:Nat) (hk:k≤s.size) (r:Nat) (H:Hid (k+extS (s.data.toList.drop k)=r)) (w:World):
  Calls Tryz.prog 105 #[.string s, .int .i64 k] w fun e w'=>e= .returned (.int .i64 r)∧w=w':=by
 by_cases hq: ∃ h:k<s.size,(s[k]'h).toNat=34
 ·
  obtain⟨hlt,h34⟩:=hq;have HR:=Lib.hid (show restQ s (k+1)=r by rw[←ext_q s k hlt h34];exact H.out);have h34':((s[k]'hlt).toNat:Int)=34:=by omega
  clear H h34;go_enter Tryz.func105,Tryz.ntmps105
  go_wp2;go_step3
  go_wp2;go_step3
  go_wp2;go_loop [6] (fun i=> ∃ j:Nat,j≤s.size+1∧i= .int .i64 j∧Hid (restQ s j=r)) (fun i=>s.size+1-(intOf i).toNat)
  case atStart=>exact⟨k+1,by omega,by go_num,HR⟩
  case round=>
   obtain⟨j,hj,rfl,HJ⟩:=hrel;by_cases hl:j<s.size
   ·
    by_cases j34:((s[j]'hl).toNat:Int)=34
    ·
     have HF:r=j+1:=by rw[←HJ.out];exact restQ_quote s j hl (by omega)
     have hmin:min ((j:Int)+1) (s.size:Int)=(j:Int)+1:=by omega
     go_wp2;go_ret;exact⟨ret_int (by omega),rfl⟩
    ·
     by_cases j92:((s[j]'hl).toNat:Int)=92
     ·
      have HS:=Lib.hid (show restQ s (j+2)=r by rw[←restQ_esc s j hl (by omega)];exact HJ.out);go_wp2;go_round;case rel=>exact⟨j+2,by omega,by go_num,HS⟩
      case measure=>simp[intOf];omega
     ·
      have f1:(((s[j]'hl).toNat:Int)==34)=false:=by rw[beq_eq_false_iff_ne];exact j34
      have f2:(((s[j]'hl).toNat:Int)==92)=false:=by rw[beq_eq_false_iff_ne];exact j92
      have HS:=Lib.hid (show restQ s (j+1)=r by rw[←restQ_other s j hl (by omega) (by omega)];exact HJ.out);go_wp2;go_round;case rel=>exact⟨j+1,by omega,by go_num,HS⟩
      case measure=>simp[intOf];omega
   ·
    have HF:r=s.size:=by rw[←HJ.out];exact restQ_end s j (by omega)
    have hmin:min (j:Int) (s.size:Int)=(s.size:Int):=by omega
    go_wp2;go_ret;exact⟨ret_int (by omega),rfl⟩
 ·
  have he:extS (s.data.toList.drop k)=scanC (s.data.toList.drop k):=by
   rcases Nat.lt_or_ge k s.size with h|h
   · exact ext_c0 s k h fun e=>hq ⟨h,e⟩
   · exact ext_end s k h
  have hix:=Tryz.strings_IndexByte (s.extract k s.size) 44 w;have hle:=scanC_le (s.data.toList.drop k);have hln:(s.data.toList.drop k).length=s.size-k:=by rw[List.length_drop,len_bytes]
  rw[ext_tail,show((44:Int).toNat.toUInt8)=44 from rfl,ix_scanC,hln]at hix;rw[hln]at hle;have hr:k+scanC (s.data.toList.drop k)=r:=by rw[←he];exact H.out
  clear H he hln;generalize scanC (s.data.toList.drop k)=n at hix hle hr
  rcases Nat.lt_or_ge k s.size with hlt|hge
  ·
   have h34: ¬ ((s[k]'hlt).toNat:Int)=34:=fun e=>hq ⟨hlt,by omega⟩
   have f1:(((s[k]'hlt).toNat:Int) != 34)=true:=by rw[bne_iff_ne];exact h34
   clear hq;by_cases hn:n<s.size-k
   ·
    rw[if_pos hn]at hix;go_enter Tryz.func105,Tryz.ntmps105
    go_wp2;go_step3
    go_wp2_with (go_at_call 79;refine hix.mono ?_)
    rintro e w' ⟨rfl,rfl⟩;go_wp2;rw[Exit.noGoto_ret];go_ret;exact⟨ret_int (by omega),rfl⟩
   ·
    rw[if_neg hn]at hix;go_enter Tryz.func105,Tryz.ntmps105
    go_wp2;go_step3
    go_wp2_with (go_at_call 79;refine hix.mono ?_)
    rintro e w' ⟨rfl,rfl⟩;go_wp2;rw[Exit.noGoto_ret];go_ret;exact⟨ret_int (by omega),rfl⟩
  ·
   obtain rfl:k=s.size:=by omega
   clear hq hix;have hix:=Tryz.strings_IndexByte ByteArray.empty 44 w;rw[show Lib.indexByte ByteArray.empty.data.toList ((44:Int).toNat.toUInt8)= -1 from rfl]at hix;go_enter Tryz.func105,Tryz.ntmps105
   go_wp2;go_step3
   go_wp2_with (go_at_call 79;refine hix.mono ?_)
   rintro e w' ⟨rfl,rfl⟩;go_wp2;rw[Exit.noGoto_ret];go_ret;exact⟨ret_int (by omega),rfl⟩
end Go.Proofs.YtakedkcjplfgeaaGreatDoor
namespace Go.Proofs.YtakedkcjplfgeaaGreatDoor
open Go.RowKit
open Fld
abbrev strCells (x:List UInt8):List Value:=[str x]
theorem strCells_len (x:List UInt8):(strCells x).length=1:=rfl
abbrev StrsIn (B:Nat) (w:World) (v:Value) (l:List (List UInt8)):Prop:=SlIn strCells 1 B w v l
def OwnS (B:Nat) (v:Value) (l:List (List UInt8)) (w:World):Prop:=w.ownsRow B 9 1 v l.length (l.flatMap strCells)
theorem info_str:(Tryz.prog.info? 9).map (fun i=>(i.zero,i.size,i.bytes))=some (some (.string ByteArray.empty),1,16):=by kernel_rfl
theorem ownS_nil (B:Nat) (w:World):OwnS B (.slice none 0 0) [] w:=World.ownsRow_nil w B _ 1
theorem ownS_alloc {B:Nat} {v:Value} {l:List (List UInt8)} {w:World} (h:OwnS B v l w) (o:Obj):OwnS B v l (w.alloc o):=World.ownsRow.alloc h o
theorem ownS_bl {B:Nat} {v:Value} {l:List (List UInt8)} {w w':World} (h:OwnS B v l w) (hb:Bl w w'):OwnS B v l w':=World.ownsRow.kept h (bl_grown hb) (by cases v.ownBlock<;>simp)
theorem ownS_app {B:Nat} {v':Value} {l m:List (List UInt8)} {w:World} (h:w.ownsRow B 9 1 v' (l.length+m.length) (l.flatMap strCells++m.flatMap strCells)):OwnS B v' (l++m) w:=by
 unfold OwnS;rw[List.flatMap_append,List.length_append];exact h
theorem ownS_in {B:Nat} {v:Value} {l:List (List UInt8)} {w:World} (h:OwnS B v l w):StrsIn w.heap.size w v l:=slIn_own strCells_len h
theorem ownS_form {B:Nat} {v:Value} {l:List (List UInt8)} {w:World} (h:OwnS B v l w): ∃ a c,v= .slice a l.length c:=by
 rcases h.2 with⟨rfl,h0⟩|⟨g,cap,cur,rfl,_⟩
 · exact⟨_,_,by rw[h0]⟩
 · exact⟨_,_,rfl⟩
def pre (out:List (List UInt8)) (r:List (List UInt8)×Int):List (List UInt8)×Int:=if r.2=0 then(out++r.1,0)else r
theorem pre_nil (r:List (List UInt8)×Int):pre [] r=r:=by
 unfold pre;split
 · rename_i h;rw[List.nil_append];exact Prod.ext rfl h.symm
 · rfl
theorem pre_pre (out:List (List UInt8)) (f:List UInt8) (r:List (List UInt8)×Int):pre out (pre [f] r)=pre (out++[f]) r:=by
 unfold pre;by_cases h:r.2=0
 ·
  rw[if_pos h,if_pos h,if_pos rfl];simp
 · rw[if_neg h,if_neg h,if_neg h]
theorem splitF_bad {n:Nat} {s:List UInt8} (h:unquoteS (s.take (extS s))=none):splitF (n+1) s=([],3):=by
 simp only[splitF];rw[h]
theorem splitF_last {n:Nat} {s f:List UInt8} (h:unquoteS (s.take (extS s))=some f) (hd:s.drop (extS s)=[]):splitF (n+1) s=([f],0):=by
 simp only[splitF];rw[h];simp only;rw[hd]
theorem splitF_more {n:Nat} {s f r:List UInt8} {c:UInt8} (h:unquoteS (s.take (extS s))=some f) (hd:s.drop (extS s)=c::r) (hc:c.toNat=44):splitF (n+1) s=pre [f] (splitF n r):=by
 simp only[splitF];rw[h];simp only;rw[hd];simp only;rw[if_pos (by simp[hc])];rfl
theorem splitF_other {n:Nat} {s f r:List UInt8} {c:UInt8} (h:unquoteS (s.take (extS s))=some f) (hd:s.drop (extS s)=c::r) (hc: ¬ c.toNat=44):splitF (n+1) s=([],3):=by
 simp only[splitF];rw[h];simp only;rw[hd];simp only;rw[if_neg (by simpa using hc)]
theorem split_c (s:ByteArray) (hs:s.size≤34359738368) (l:List (List UInt8)) (e:Int) (H:Hid (splitS s.data.toList=(l,e))) (w:World):
  Calls Tryz.prog 39 #[.string s] w fun r w'=> ∃ v,r= .returned (.tuple #[v, .int .i64 e])∧OwnS w.heap.size v l w'∧Bl w w':=by
 obtain⟨i0,hi,hz0,hz1,hz2⟩:=info_parts info_str;by_cases hbig:65536<s.size
 ·
  have HF:=Lib.hid (show(([]:List (List UInt8)),(5:Int))=(l,e) by rw[←H.out];unfold splitS;rw[if_pos (by rw[len_bytes];exact hbig)]);obtain⟨e1,e2⟩:=Prod.mk.inj HF.out;clear H HF;subst e1 e2;go_enter Tryz.func39,Tryz.ntmps39
  go_wp2;go_ret2;exact⟨_,rfl,ownS_nil _ _,bl_refl _⟩
 by_cases h0:s.size=0
 ·
  have hs:s.toList=[]:=toList_nil h0;have hn:=len_bytes s;have HF:=Lib.hid (show(([]:List (List UInt8)),(0:Int))=(l,e) by
   rw[←H.out];unfold splitS;rw[if_neg (by rw[hn];omega),if_pos (List.length_eq_zero_iff.1 (hn.trans h0))])
  obtain⟨e1,e2⟩:=Prod.mk.inj HF.out;clear H HF;subst e1 e2;go_enter Tryz.func39,Tryz.ntmps39
  go_wp2;go_ret2;exact⟨_,rfl,ownS_nil _ _,bl_refl _⟩
 have hne:=toList_ne h0;have hne':=toList_ne' h0;have hn:=len_bytes s;have HS:=Lib.hid (show pre [] (splitF (64-0) (s.data.toList.drop 0))=(l,e) by
  rw[pre_nil,←H.out];unfold splitS;rw[if_neg (by rw[hn];omega),if_neg (fun h=>by rw[h]at hn;simp at hn;omega)];rfl)
 clear H;go_enter Tryz.func39,Tryz.ntmps39
 go_wp2;go_loopw [4,5] (fun vo i wr=> ∃ (k:Nat) (out:List (List UInt8)),k≤s.size∧out.length<64∧i= .int .i64 k∧Hid (OwnS w.heap.size vo out wr)∧Hid (pre out (splitF (64-out.length) (s.data.toList.drop k))=(l,e))∧Hid (Bl w wr)) (fun _ i _=>s.size+1-(intOf i).toNat)
 case atStart=>exact⟨0,[],Nat.zero_le _,by decide,rfl,ownS_nil _ _,HS,bl_refl _⟩
 case round=>
  obtain⟨k,out,hk,hol,rfl,HO,HD,HB⟩:=hrel;obtain⟨r,hr⟩: ∃ r,k+extS (s.data.toList.drop k)=r:=⟨_,rfl⟩;have hxl:=extS_le (s.data.toList.drop k);rw[List.length_drop,hn]at hxl;have hrs:r≤s.size:=by omega
  have hkr:k≤r:=by omega
  have HR:=Lib.hid hr;have hex:=extent_c s hs k hk r HR;have HT:=Lib.hid (show(s.extract k r).data.toList=(s.data.toList.drop k).take (extS (s.data.toList.drop k)) by rw[ext_list,←hr,Nat.add_sub_cancel_left]);have HE:=Lib.hid (show(s.data.toList.drop k).drop (extS (s.data.toList.drop k))=s.data.toList.drop r by rw[List.drop_drop,hr]);have h64:64-out.length=(63-out.length)+1:=by omega
  rw[h64]at HD;clear hr hxl;obtain⟨u,hu⟩: ∃ u,unquoteS (s.extract k r).data.toList=u:=⟨_,rfl⟩;have HU:=Lib.hid (show unquoteS ((s.data.toList.drop k).take (extS (s.data.toList.drop k)))=u by rw[←HT.out];exact hu);have hsz:(s.extract k r).size≤34359738368:=by rw[ext_size _ _ _ hrs hkr];omega
  cases u with
  |none=>
   have hun:=unquote_c (s.extract k r) hsz [] 3 (by show _=_;rw[hu];rfl);have HF:=Lib.hid (show(([]:List (List UInt8)),(3:Int))=(l,e) by rw[←HD.out,splitF_bad HU.out];rfl);obtain⟨e1,e2⟩:=Prod.mk.inj HF.out;clear HF hu HD;subst e1 e2;go_wp2_with (go_at_call 105;refine(hex _).mono ?_)
   rintro x w1 ⟨rfl,rfl⟩;go_wp2_with (go_at_call 106;refine(hun _).mono ?_)
   rintro x w2 ⟨rfl,b2⟩;go_wp2;go_ret2;exact⟨_,rfl,ownS_nil _ _,bl_next HB.out b2⟩
  |some f=>
   have hun:=unquote_c (s.extract k r) hsz f 0 (by show _=_;rw[hu];rfl);clear hu;by_cases hend:r<s.size
   ·
    have HC:=Lib.hid (drop_cons s r hend);by_cases h44:((s[r]'hend).toNat:Int)=44
    ·
     have HM:=Lib.hid (show pre (out++[f]) (splitF (63-out.length) (s.data.toList.drop (r+1)))=(l,e) by
      rw[←HD.out,splitF_more HU.out (HE.out.trans HC.out) (by omega),pre_pre])
     clear HD;go_wp2_with (go_at_call 105;refine(hex _).mono ?_)
     rintro x w1 ⟨rfl,rfl⟩;go_wp2_with (go_at_call 106;refine(hun _).mono ?_)
     rintro x w2 ⟨rfl,b2⟩;have B2:Hid (Bl w w2):=bl_next HB.out b2;have O2:=Lib.hid (ownS_bl HO.out b2);clear b2 hun hex;go_wp2_with (at_builtin;refine wpList_append_own _ rfl _ _ 66 rfl w.heap.size 9 i0 (.string ByteArray.empty) 1 16 Tryz.underlying66 hi hz0 hz1 hz2 rfl (by decide) _ _ _ rfl (ownS_alloc O2.out _) ⟨w2.heap.size,0,none⟩ 1 1 [str f] rfl rfl ?c1 ?c2 ?c3 ?c4 ?c5 ?_)
     case c1=>exact cells_of_lit _ (fun j u h=>by simpa using h)
     case c2=>simp[Value.oneCell']
     case c3=>unfold maxLen;omega
     case c4=>omega
     case c5=>have:=B2.out.size;simp;omega
     intro v3 w3 hown3 hgrow3 _;have O3:=Lib.hid (ownS_app (m:=[f]) hown3);have B3:Hid (Bl w w3):=(B2.out.alloc B2.out.size _).grown hgrow3 (by have:=B2.out.size;simp;omega) (fun k hk=>(World.ownsRow.lt O2.out k hk).1);clear hown3 hgrow3;obtain⟨a3,c3,rfl⟩:=ownS_form O3.out;have hl3:(out++[f]).length=out.length+1:=by simp
     rw[hl3]at O3 ⊢;by_cases hfull:out.length=63
     ·
      have HF:=Lib.hid (show(([]:List (List UInt8)),(5:Int))=(l,e) by
       rw[←HM.out,hfull];rfl)
      obtain⟨e1,e2⟩:=Prod.mk.inj HF.out;clear HF HM;subst e1 e2;go_wp2;go_ret2;exact⟨_,rfl,ownS_nil _ _,B3.out⟩
     ·
      go_wp2;go_roundw;case rel=>exact⟨r+1,out++[f],by omega,by omega,by go_num,O3,by rw[hl3,show 64-(out.length+1)=63-out.length by omega];exact HM,B3⟩
      case measure=>simp[intOf];omega
    ·
     have f1:(((s[r]'hend).toNat:Int) != 44)=true:=by rw[bne_iff_ne];exact h44
     have HF:=Lib.hid (show(([]:List (List UInt8)),(3:Int))=(l,e) by
      rw[←HD.out,splitF_other HU.out (HE.out.trans HC.out) (by omega)];rfl)
     obtain⟨e1,e2⟩:=Prod.mk.inj HF.out;clear HF HD;subst e1 e2;go_wp2_with (go_at_call 105;refine(hex _).mono ?_)
     rintro x w1 ⟨rfl,rfl⟩;go_wp2_with (go_at_call 106;refine(hun _).mono ?_)
     rintro x w2 ⟨rfl,b2⟩;go_wp2;go_ret2;exact⟨_,rfl,ownS_nil _ _,bl_next HB.out b2⟩
   ·
    obtain rfl:r=s.size:=by omega
    have HF:=Lib.hid (show(out++[f],(0:Int))=(l,e) by
     rw[←HD.out,splitF_last HU.out (HE.out.trans (drop_end s _ (Nat.le_refl _)))];rfl)
    obtain⟨e1,e2⟩:=Prod.mk.inj HF.out;clear HF HD;subst e1 e2;go_wp2_with (go_at_call 105;refine(hex _).mono ?_)
    rintro x w1 ⟨rfl,rfl⟩;go_wp2_with (go_at_call 106;refine(hun _).mono ?_)
    rintro x w2 ⟨rfl,b2⟩;have B2:Hid (Bl w w2):=bl_next HB.out b2;have O2:=Lib.hid (ownS_bl HO.out b2);clear b2 hun hex;go_wp2_with (at_builtin;refine wpList_append_own _ rfl _ _ 66 rfl w.heap.size 9 i0 (.string ByteArray.empty) 1 16 Tryz.underlying66 hi hz0 hz1 hz2 rfl (by decide) _ _ _ rfl (ownS_alloc O2.out _) ⟨w2.heap.size,0,none⟩ 1 1 [str f] rfl rfl ?c1 ?c2 ?c3 ?c4 ?c5 ?_)
    case c1=>exact cells_of_lit _ (fun j u h=>by simpa using h)
    case c2=>simp[Value.oneCell']
    case c3=>unfold maxLen;omega
    case c4=>omega
    case c5=>have:=B2.out.size;simp;omega
    intro v3 w3 hown3 hgrow3 _;have O3:=Lib.hid (ownS_app (m:=[f]) hown3);have B3:Hid (Bl w w3):=(B2.out.alloc B2.out.size _).grown hgrow3 (by have:=B2.out.size;simp;omega) (fun k hk=>(World.ownsRow.lt O2.out k hk).1);clear hown3 hgrow3;go_wp2;go_ret2;exact⟨_,rfl,O3.out,B3.out⟩
end Go.Proofs.YtakedkcjplfgeaaGreatDoor
namespace Go.Proofs.YtakedkcjplfgeaaGreatDoor
open Go.RowKit
open Fld
theorem take_next {α:Type} {l:List α} {k:Nat} {x:α} (h:l[k]? =some x):l.take (k+1)=l.take k++[x]:=by
 obtain⟨hk,rfl⟩:=List.getElem?_eq_some_iff.1 h;exact List.take_succ_eq_append_getElem hk
theorem join_first {l:List (List UInt8)} {x:List UInt8} (h:l[0]? =some x):joinS (l.take (0+1))=quoteS x:=by
 rw[take_next h];rfl
theorem join_next {l:List (List UInt8)} {k:Nat} {x:List UInt8} (h0:0<k) (h:l[k]? =some x):joinS (l.take (k+1))=(joinS (l.take k)++[44])++quoteS x:=by
 obtain⟨hk,-⟩:=List.getElem?_eq_some_iff.1 h;rw[take_next h,joinS_snoc _ _ (fun e=>by have:=congrArg List.length e;rw[List.length_take,List.length_nil]at this;omega)];simp
theorem join_over {l:List (List UInt8)} {k:Nat} {line:List UInt8} (h:joinS (l.take k)=line) (ho:65536<line.length) (h64: ¬ 64<l.length):joinR l=([],5):=by
 have:=joinS_take_le l k;unfold joinR;rw[if_neg h64,if_pos (by rw[h]at this;omega)]
theorem join_all {l:List (List UInt8)} {k:Nat} {line:List UInt8} (h:joinS (l.take k)=line) (hk:l.length≤k) (ho:line.length≤65536) (h64: ¬ 64<l.length):joinR l=(line,0):=by
 rw[List.take_of_length_le hk]at h;unfold joinR;rw[if_neg h64,if_neg (by rw[h];omega),h]
theorem join_c (v:Value) (l:List (List UInt8)) (o:List UInt8) (e:Int) (H:Hid (joinR l=(o,e))) (HL:Hid (∀ x∈l,x.length≤131072)) (B:Nat) (w:World) (hv:StrsIn B w v l) (hB:B≤w.heap.size):
  Calls Tryz.prog 148 #[v] w fun r w'=>r= .returned (.tuple #[str o, .int .i64 e])∧Bl w w':=by
 by_cases hbig:64<l.length
 ·
  obtain⟨b1,o1,cap1,rfl,l1,m1,hb1,hc1⟩:=hv.open (by omega);have HF:=Lib.hid (show(([]:List UInt8),(5:Int))=(o,e) by rw[←H.out];unfold joinR;rw[if_pos hbig]);obtain⟨e1,e2⟩:=Prod.mk.inj HF.out;clear H HF hv hc1;subst e1 e2;go_enter Tryz.func148,Tryz.ntmps148
  go_wp2;go_ret2;exact⟨rfl,bl_refl _⟩
 by_cases h0:0<l.length
 ·
  obtain⟨b1,o1,cap1,rfl,l1,m1,hb1,hc1⟩:=hv.open h0;have H1:=Lib.hid hc1;clear hv hc1;go_enter Tryz.func148,Tryz.ntmps148
  go_wp2;go_loopw [4,12] (fun vo i wr=> ∃ (k:Nat) (line:List UInt8),k≤l.length∧i= .int .i64 k∧vo=str line∧line.length≤65536∧Hid (joinS (l.take k)=line)∧Hid (Bl w wr)) (fun _ i _=>l.length-(intOf i).toNat)
  case atStart=>exact⟨0,[],Nat.zero_le _,rfl,rfl,by decide,by show _=_;rfl,bl_refl _⟩
  case round=>
   obtain⟨k,line,hk,rfl,rfl,hll,HJ,HB⟩:=hrel;by_cases hlt:k<l.length
   ·
    obtain⟨x,hx⟩: ∃ x,l[k]? =some x:=⟨_,List.getElem?_eq_getElem hlt⟩;have c1:wr.cell? ⟨b1,o1+k,none⟩=some (str x):=by rw[(bl_cell HB.out).1 _ _ (by omega)];exact(by have:=H1.out k x hx 0 _ rfl;simpa using this)
    have i1:(k:Int)<(l.length:Int):=by omega
    have hxl:x.length≤131072:=HL.out x (List.mem_of_getElem? hx);obtain⟨q,hq⟩: ∃ q,quoteS x=q:=⟨_,rfl⟩;have hql:q.length≤524290:=by rw[←hq];have:=(quote_len x).2;omega
    have HQ:=Lib.hid hq;have hqc:=quote_c ⟨x.toArray⟩ q HQ (by show x.toArray.size≤_;rw[List.size_toArray];omega);by_cases hk0:0<k
    ·
     have HN:=Lib.hid (show joinS (l.take (k+1))=(line++[44])++q by rw[join_next hk0 hx,HJ.out,hq]);clear hx hq;go_wp2_with (go_at_call 210;refine(concat_c wr.heap.size 0 2 line [44] _ (by rw[World.cell?_alloc_at (hn:=rfl)];rfl) (by rw[World.cell?_alloc_at (hn:=rfl)];rfl) (by simp) (Nat.le_refl _) (by simp;omega)).mono ?_)
     rintro r w2 ⟨rfl,b2⟩;have B2:Hid (Bl w w2):=bl_next (bl_alloc HB.out _) b2;clear b2;go_wp2_with (go_at_call 184;refine(hqc _).mono ?_)
     rintro r w3 ⟨rfl,b3⟩;have B3:Hid (Bl w w3):=bl_next B2.out b3;clear b3 hqc;go_wp2_with (go_at_call 210;refine(concat_c w3.heap.size 0 2 (line++[44]) q _ (by rw[World.cell?_alloc_at (hn:=rfl)];rfl) (by rw[World.cell?_alloc_at (hn:=rfl)];rfl) (by simp) (Nat.le_refl _) (by simp;omega)).mono ?_)
     rintro r w4 ⟨rfl,b4⟩;have B4:Hid (Bl w w4):=bl_next (bl_alloc B3.out _) b4;clear b4;obtain⟨line',hl'⟩: ∃ line',(line++[44])++q=line':=⟨_,rfl⟩;rw[hl']at HN ⊢;clear hl';by_cases hover:65536<line'.length
     ·
      have HF:=Lib.hid (join_over HN.out hover (by omega));obtain⟨e1,e2⟩:=Prod.mk.inj (HF.out.symm.trans H.out);clear HF H;subst e1 e2;go_wp2;go_ret2;exact⟨rfl,B4.out⟩
     ·
      go_wp2;go_roundw;case rel=>exact⟨k+1,line',by omega,by go_num,rfl,by omega,HN,B4⟩
      case measure=>simp[intOf];omega
    ·
     have HN:=Lib.hid (show joinS (l.take (k+1))=line++q by
      have hkz:k=0:=by omega
      have hl0:line=[]:=by rw[←HJ.out,hkz];rfl
      rw[hl0,List.nil_append,hkz,join_first (by rw[←hkz];exact hx),hq])
     clear hx hq;go_wp2_with (go_at_call 184;refine(hqc _).mono ?_)
     rintro r w3 ⟨rfl,b3⟩;have B3:Hid (Bl w w3):=bl_next HB.out b3;clear b3 hqc;go_wp2_with (go_at_call 210;refine(concat_c w3.heap.size 0 2 line q _ (by rw[World.cell?_alloc_at (hn:=rfl)];rfl) (by rw[World.cell?_alloc_at (hn:=rfl)];rfl) (by simp) (Nat.le_refl _) (by omega)).mono ?_)
     rintro r w4 ⟨rfl,b4⟩;have B4:Hid (Bl w w4):=bl_next (bl_alloc B3.out _) b4;clear b4;obtain⟨line',hl'⟩: ∃ line',line++q=line':=⟨_,rfl⟩;rw[hl']at HN ⊢;clear hl';by_cases hover:65536<line'.length
     ·
      have HF:=Lib.hid (join_over HN.out hover (by omega));obtain⟨e1,e2⟩:=Prod.mk.inj (HF.out.symm.trans H.out);clear HF H;subst e1 e2;go_wp2;go_ret2;exact⟨rfl,B4.out⟩
     ·
      go_wp2;go_roundw;case rel=>exact⟨k+1,line',by omega,by go_num,rfl,by omega,HN,B4⟩
      case measure=>simp[intOf];omega
   ·
    have HF:=Lib.hid (join_all HJ.out (by omega) hll (by omega));obtain⟨e1,e2⟩:=Prod.mk.inj (HF.out.symm.trans H.out);clear HF H;subst e1 e2;go_wp2;go_ret2;exact⟨rfl,HB.out⟩
 ·
  obtain⟨a1,c1,rfl,m1,rfl⟩:=hv.empty (by omega);have HF:=Lib.hid (show(([]:List UInt8),(0:Int))=(o,e) by rw[←H.out];rfl);obtain⟨e1,e2⟩:=Prod.mk.inj HF.out;clear H HF hv;subst e1 e2;go_enter Tryz.func148,Tryz.ntmps148
  go_wp2_with fail;refine wp_loop_rounds 1 ?_;rw[rounds_succ];go_wp2;go_ret2;exact⟨rfl,bl_refl _⟩
end Go.Proofs.YtakedkcjplfgeaaGreatDoor
