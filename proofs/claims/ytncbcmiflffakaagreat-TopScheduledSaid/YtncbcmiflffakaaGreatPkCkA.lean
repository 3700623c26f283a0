/-
  What the laws of top need of TChkA. Conditions: those of each lemma.
-/
import Derived.Test.YtncbcmiflffakaaGreatPkMem
import Derived.Test.YtncbcmiflffakaaGreatRows
import Derived.Test.YtncbcmiflffakaaGreatPkPl
import Derived.WalkSpells
import Derived.WalkLawsBesides
import Derived.Laws.BytesArg
import Derived.Lib.Hide
import Derived.Lib.SmallJoins
import Derived.ScopeJumps
import Derived.WalkMore
import Derived.WideShapes
import Derived.Laws.AppendOwn
import Derived.Deep.QuietTactic
import Derived.BigQuiet
import Derived.Deep.RegionHeld3
import Derived.Deep.AppendLies
import Derived.IntWalk
import Derived.Deep.DeepCutAuto
import Derived.StillTailTactics
import Derived.Lib.MinMax
import GoSem.Op.String
import Derived.Lib.IndexMore
set_option maxRecDepth 1000000
set_option maxHeartbeats 32000000
namespace Go.Proofs.YtncbcmiflffakaaGreat.Ms
open Go.RowKit
open Frq Tt
theorem nameCh_cases (b:UInt8):(nameCh b=true∧((97≤(b.toNat:Int)∧(b.toNat:Int)≤122)∨(65≤(b.toNat:Int)∧(b.toNat:Int)≤90)∨(48≤(b.toNat:Int)∧(b.toNat:Int)≤57)∨(b.toNat:Int)=45∨(b.toNat:Int)=95∨(b.toNat:Int)=46))∨
  (nameCh b=false∧((b.toNat:Int)<45∨(b.toNat:Int)=47∨(57<(b.toNat:Int)∧(b.toNat:Int)<65)∨(90<(b.toNat:Int)∧(b.toNat:Int)<95)∨(b.toNat:Int)=96∨122<(b.toNat:Int))):=by
 unfold nameCh;by_cases h1:97≤(b.toNat:Int)∧(b.toNat:Int)≤122
 · left;refine⟨?_, .inl h1⟩;rw[decide_eq_true (by omega),decide_eq_true (by omega)];rfl
 by_cases h2:65≤(b.toNat:Int)∧(b.toNat:Int)≤90
 · left;refine⟨?_, .inr (.inl h2)⟩;simp;omega
 by_cases h3:48≤(b.toNat:Int)∧(b.toNat:Int)≤57
 · left;refine⟨?_, .inr (.inr (.inl h3))⟩;simp;omega
 by_cases h4:(b.toNat:Int)=45
 · left;refine⟨?_, .inr (.inr (.inr (.inl h4)))⟩;simp;omega
 by_cases h5:(b.toNat:Int)=95
 · left;refine⟨?_, .inr (.inr (.inr (.inr (.inl h5))))⟩;simp;omega
 by_cases h6:(b.toNat:Int)=46
 · left;refine⟨?_, .inr (.inr (.inr (.inr (.inr h6))))⟩;simp;omega
 ·
  right
  refine⟨?_,by omega⟩;rw[Bool.eq_false_iff];simp
  omega
theorem all_upto {s:ByteArray} (h: ∀ k (h:k<s.size),nameCh (s[k]'h)=true):s.data.toList.all nameCh=true:=by
 rw[List.all_eq_true];intro b hb;obtain⟨k,hk⟩:=List.getElem?_of_mem hb;have hlt:k<s.size:=by have:=(List.getElem?_eq_some_iff.1 hk).1;rw[len_bytes]at this;exact this
 rw[bytes_get? s k hlt]at hk;rw[←Option.some.inj hk];exact h k hlt
theorem all_bad {s:ByteArray} {k:Nat} (hk:k<s.size) (h:nameCh (s[k]'hk)=false):s.data.toList.all nameCh=false:=by
 rw[Bool.eq_false_iff];intro hc;have:=List.all_eq_true.1 hc _ (List.mem_of_getElem? (bytes_get? s k hk));rw[h]at this;cases this
theorem ident_c (s:ByteArray) (hs:s.size≤maxLen) (b:Bool) (H:Hid (nameB s.data.toList=b)) (w:World):
  Calls Tryz.prog 49 #[.string s] w fun e w'=>e= .returned (.bool b)∧w=w':=by
 unfold maxLen at hs;have hn:=len_bytes s;go_enter Tryz.func49,Tryz.ntmps49
 go_wp2;go_loop [3] (fun i=> ∃ k:Nat,k≤s.size∧i= .int .i64 k∧Hid (∀ j (h:j<s.size),j<k→nameCh (s[j]'h)=true)) (fun i=>s.size-(intOf i).toNat)
 case atStart=>exact⟨0,Nat.zero_le _,rfl,fun j h hj=>absurd hj (by omega)⟩
 case round=>
  obtain⟨k,hk,rfl,HK⟩:=hrel;by_cases hlt:k<s.size
  ·
   rcases nameCh_cases (s[k]'hlt)with⟨h1,hc⟩|⟨h1,hc⟩
   ·
    have HN:=Lib.hid (show ∀ j (h:j<s.size),j<k+1→nameCh (s[j]'h)=true from fun j h hj=>by
     by_cases e:j=k
     · subst e;exact h1
     · exact HK.out j h (by omega))
    clear h1;rcases hc with h|h|h|h|h|h
    all_goals
     go_wp2;go_round;case rel=>exact⟨k+1,by omega,by go_num,HN⟩
     case measure=>simp[intOf];omega
   ·
    have HF:=Lib.hid (show b=false by rw[←H.out];unfold nameB;rw[all_bad hlt h1];rfl);clear h1;rcases hc with h|h|h|h|h|h
    all_goals
     go_wp2;go_ret;exact⟨ret_bool HF.out.symm,rfl⟩
  ·
   have HF:=Lib.hid (show b=(decide (1≤s.size)&&decide (s.size≤32)) by
    rw[←H.out];unfold nameB;rw[all_upto (fun j h=>HK.out j h (by omega)),hn];rfl)
   go_wp2;all_goals
    go_ret;refine⟨ret_bool ?_,rfl⟩;rw[HF.out];rw[Bool.eq_iff_iff];simp
    omega
end Go.Proofs.YtncbcmiflffakaaGreat.Ms
namespace Go.Proofs.YtncbcmiflffakaaGreat
open Go.RowKit
open Frq Thr Tt
theorem ret_r {a b:Int} {r r':Int×Int} (h:r'=(a,b)) (h':r'=r):Ending.returned (.tuple #[.int .i64 a, .int .i64 b])= .returned (.tuple #[.int .i64 r.1, .int .i64 r.2]):=by rw[←h',h]
theorem checkS_many {α:Type} {most:Nat} {err:List α→α→Int} {l:List α} (h:most<l.length):checkS most err l=(0,5):=by unfold checkS;rw[if_pos h]
theorem checkS_few {α:Type} {most:Nat} {err:List α→α→Int} {l:List α} (h:l.length≤most):checkS most err l=chk err (l.take 0) (l.drop 0):=by unfold checkS;rw[if_neg (by omega)];rfl
theorem zero_bool (w:World):(zeroValue 4).run Tryz.prog w= .ok (.bool false) w:=by kernel_rfl
theorem ids_take {α:Type} {l:List α} {k:Nat} {x:α} (f:α→List UInt8) (h:l[k]? =some x):(l.take (k+1)).map f=(l.take k).map f++[f x]:=by rw[take_snoc_at h,List.map_append];rfl
theorem words_any {α:Type} (l:List α) (f:α→List UInt8) {S:Lit→Bool} (h:WordSet (l.map f) S) (x:List UInt8):(l.any fun y=>f y==x)=S (.string x):=by
 rw[h x,List.any_map];rfl
theorem stops_c (vl:Value) (l:List StopD) (r:Int×Int) (H:Hid (checkS 64 stopErr l=r)) (hs:Hid (∀ x∈l,x.id.length≤9223372036854775807)) (B:Nat) (w:World) (hl:SlIn stopCells 4 B w vl l) (hB:B≤w.heap.size):
  Calls Tryz.prog 18 #[vl] w fun e w'=>e= .returned (.tuple #[.int .i64 r.1, .int .i64 r.2])∧Bl w w':=by
 obtain⟨al,capl,rfl,ll1,ll2⟩:=hl.val;have HL:=Lib.hid hl;clear hl;by_cases hmany:64<l.length
 ·
  have HR:=Lib.hid (checkS_many (err:=stopErr) hmany);go_enter Tryz.func18,Tryz.ntmps18
  go_wp2;go_ret2;exact⟨ret_r HR.out H.out,bl_refl _⟩
 ·
  have hfew:l.length≤64:=by omega
  have HR:Hid (chk stopErr (l.take 0) (l.drop 0)=r):=(checkS_few hfew).symm.trans H.out;have hmm:= @run_makeMap Tryz.prog;obtain⟨w1,hw1⟩: ∃ w1,w.alloc (.map #[] 0)=w1:=⟨_,rfl⟩;have HS1:Hid (StrSet w1 w.heap.size 0 (fun _=>false)):=by rw[←hw1];exact ownsSet_made w Tryz.prog 9 4
  have B1:Hid (Bl w w1):=by rw[←hw1];exact bl_alloc (bl_refl _) _
  clear hmany;go_enter Tryz.func18,Tryz.ntmps18
  go_wp2_with fail;clear hw1 hmm;go_loopw [13] (fun i wr=> ∃ (k:Nat) (S:Lit→Bool),(k≤l.length∧i= .int .i64 k)∧Hid (WordSet ((l.take k).map (·.id)) S∧StrSet wr w.heap.size k S)∧Hid (chk stopErr (l.take k) (l.drop k)=r)∧Bl w wr) (fun i _=>l.length-(intOf i).toNat)
  case atStart=>exact⟨0,_,⟨Nat.zero_le _,rfl⟩,⟨wordSet_nil,HS1.out⟩,HR,B1.out⟩
  case round=>
   obtain⟨k,S,⟨hk,rfl⟩,HSS,HC,hbl⟩:=hrel;have z1:=hbl.size;by_cases hlt:k<l.length
   ·
    obtain⟨bl',ol,x,rfl,hbs,hx,hc⟩:=HL.out.get hlt hbl hB;have d0:wr.cell? ⟨bl',ol+k*4,none⟩=some (str x.id):=hc 0 _ rfl;have d1:wr.cell? ⟨bl',ol+k*4+1,none⟩=some (.int .i64 x.zone):=hc 1 _ rfl;have d2:wr.cell? ⟨bl',ol+k*4+2,none⟩=some (.bool x.free):=hc 2 _ rfl;have d3:wr.cell? ⟨bl',ol+k*4+3,none⟩=some (.int .i64 x.change):=hc 3 _ rfl;have hkI:(k:Int)<(l.length:Int):=by omega
    have HX:=Lib.hid hx;have hsz:=hs.out x (List.mem_of_getElem? hx);clear hx hc;obtain⟨p,hp⟩: ∃ p,nameB x.id=p:=⟨_,rfl⟩;obtain⟨q,hq⟩: ∃ q,S (.string x.id)=q:=⟨_,rfl⟩;have HP:=Lib.hid hp;have HQ:Hid (((l.take k).any fun y=>y.id==x.id)=q):=by show _=_;rw[words_any (l.take k) (·.id) HSS.out.1,hq]
    obtain⟨w2,hw2⟩: ∃ w2,wr.alloc (.cells #[str x.id, .int .i64 x.zone, .bool x.free, .int .i64 x.change] 91)=w2:=⟨_,rfl⟩;have b2:Bl wr w2:=by rw[←hw2];exact bl_alloc (bl_refl _) _
    have t0:w2.cell? ⟨wr.heap.size,0,none⟩=some (str x.id):=by rw[←hw2,World.cell?_alloc_at (hn:=rfl)];rfl
    have t1:w2.cell? ⟨wr.heap.size,1,none⟩=some (.int .i64 x.zone):=by rw[←hw2,World.cell?_alloc_at (hn:=rfl)];rfl
    have t3:w2.cell? ⟨wr.heap.size,3,none⟩=some (.int .i64 x.change):=by rw[←hw2,World.cell?_alloc_at (hn:=rfl)];rfl
    have s2:w2.heap.size=wr.heap.size+1:=by rw[←hw2];simp
    have B2:Hid (Bl w w2):=bl_next hbl b2;have hset:=HSS.out.2.bl b2;have hlook:=hset.look str_law Tryz.underlying115 Tryz.underlying4 (zero_bool w2) (key_str hsz);rw[hq]at hlook;obtain⟨wa,ha1,ha2,ha3⟩:=hset.put str_law Tryz.underlying115 Tryz.underlying4 (by unfold maxLen;omega) (key_str hsz);have HA2:=Lib.hid ha2;have HA3:=Lib.hid ha3;clear hp hq b2 hset ha2 ha3;have hid:=fun w=>Ms.ident_c ⟨x.id.toArray⟩ (by show x.id.toArray.size≤_;rw[List.size_toArray];unfold maxLen;omega) p HP w
    cases p with
    |false=>
     have HE:=Lib.hid (chk_bad (err:=stopErr) HX.out (show stopErr (l.take k) x=12 by unfold stopErr;rw[if_pos HP.out]) (by decide));go_wp2_with (go_at_call 49;refine(hid _).mono ?_;rintro e w3 ⟨rfl,rfl⟩)
     go_ret2;exact⟨ret_r HE.out HC.out,B2.out⟩
    |true=>
     have hP1: ¬ nameB x.id=false:=by rw[HP.out];decide
     have HP1:=Lib.hid hP1;clear hP1;cases q with
     |true=>
      have HE:=Lib.hid (chk_bad (err:=stopErr) HX.out (show stopErr (l.take k) x=6 by unfold stopErr;rw[if_neg HP1.out,if_pos HQ.out]) (by decide));go_wp2_with (go_at_call 49;refine(hid _).mono ?_;rintro e w3 ⟨rfl,rfl⟩)
      go_ret2;exact⟨ret_r HE.out HC.out,B2.out⟩
     |false=>
      have HQ1:=Lib.hid (show ¬ ((l.take k).any fun y=>y.id==x.id)=true by rw[HQ.out];decide);go_wp2_with (go_at_call 49;refine(hid _).mono ?_;rintro e w3 ⟨rfl,rfl⟩)
      all_goals first
       |
        go_ret2;have HE:=chk_bad (err:=stopErr) HX.out (show stopErr (l.take k) x=2 by unfold stopErr;rw[if_neg HP1.out,if_neg HQ1.out,if_pos (by unfold outside;simp;omega)]) (by decide);exact⟨ret_r HE HC.out,B2.out⟩
       |have HG:=chk_good (err:=stopErr) HX.out (show stopErr (l.take k) x=0 by unfold stopErr;rw[if_neg HP1.out,if_neg HQ1.out,if_neg (by unfold outside;simp;omega)])
        exact⟨⟨k+1,_,⟨by omega,by go_num⟩,⟨by rw[ids_take (·.id) HX.out];exact HSS.out.1.snoc x.id,HA2.out⟩,HG.symm.trans HC.out,B2.out.grown HA3.out (by omega) (fun k hk=>by cases hk;omega)⟩,by simp[intOf];omega⟩
   ·
    have HE:=Lib.hid (chk_end (err:=stopErr) (show l.length≤k by omega));go_wp2;go_ret2;exact⟨ret_r HE.out HC.out,hbl⟩
end Go.Proofs.YtncbcmiflffakaaGreat
namespace Go.Proofs.YtncbcmiflffakaaGreat.Da
open Go.RowKit
open Num Clk
theorem ret_int {k:IntKind} {a b:Int} (h:a=b):Ending.returned (.int k a)= .returned (.int k b):=by rw[h]
theorem ret_bool {a b:Bool} (h:a=b):Ending.returned (.bool a)= .returned (.bool b):=by rw[h]
abbrev str (l:List UInt8):Value:= .string ⟨l.toArray⟩
theorem bytes_get (s:ByteArray) (k:Nat) (h:k<s.size):s.data.toList[k]'(by simpa using h)=s[k]'h:=by simp;rfl
end Go.Proofs.YtncbcmiflffakaaGreat.Da
namespace Go.Proofs.YtncbcmiflffakaaGreat.Da
open Go.RowKit
open Num Clk Dat
def dvalid (d:Int):Bool:=decide (0≤d)&&decide (d≤36524)
theorem dvalid_cases (t:Int):(0≤t∧t≤36524∧dvalid t=true)∨(t<0∧dvalid t=false)∨(0≤t∧36524<t∧dvalid t=false):=by
 unfold dvalid;by_cases h0:0≤t
 ·
  by_cases h1:t≤36524
  · exact .inl ⟨h0,h1,by simp[h0,h1]⟩
  · exact .inr (.inr ⟨h0,by omega,by simp[h0,h1]⟩)
 · exact .inr (.inl ⟨by omega,by simp[h0]⟩)
theorem dValid_b (t:Int) (b:Bool) (h:Hid (dvalid t=b)) (w:World):Calls Tryz.prog 51 #[.int .i64 t] w fun e w'=>e= .returned (.bool b)∧w=w':=by
 rcases dvalid_cases t with⟨h0,h1,k⟩|⟨h0,k⟩|⟨h0,h1,k⟩
 all_goals
  have HB:=Lib.hid (k.symm.trans h.out).symm;clear k;go_enter Tryz.func51,Tryz.ntmps51
  go_wp2;go_ret;exact⟨ret_bool (by have e:=HB.out;subst e;first|rfl|(simp;done)|(simp;omega)),rfl⟩
end Go.Proofs.YtncbcmiflffakaaGreat.Da
namespace Go.Proofs.YtncbcmiflffakaaGreat
open Go.RowKit
open Frq Thr Tt
theorem known_c (m:Int) (w:World):Calls Tryz.prog 50 #[.int .i64 m] w fun e w'=>e= .returned (.bool (!outside m 0 7))∧w=w':=by
 have h:(m<0∧outside m 0 7=true)∨(0≤m∧m<8∧outside m 0 7=false)∨(0≤m∧8≤m∧outside m 0 7=true):=by
  unfold outside;by_cases h0:m<0
  · exact .inl ⟨h0,by simp[h0]⟩
  ·
   by_cases h1:m<8
   · exact .inr (.inl ⟨by omega,h1,by simp;omega⟩)
   · exact .inr (.inr ⟨by omega,by omega,by simp;omega⟩)
 rcases h with⟨h1,h⟩|⟨h1,h2,h⟩|⟨h1,h2,h⟩
 all_goals
  rw[h];clear h;go_enter Tryz.func50,Tryz.ntmps50
  go_wp2;go_ret;exact⟨ret_bool (by first|rfl|(simp;omega)),rfl⟩
theorem day_valid (d:Int):Da.dvalid d=dayB d:=by
 unfold Da.dvalid dayB;rcases Int.lt_or_le d 0 with h|h
 ·
  first
  |(simp;omega)
  |simp
 · simp
theorem routes_c (vl:Value) (l:List RouteD) (r:Int×Int) (H:Hid (checkS 64 routeErr l=r)) (hs:Hid (∀ x∈l,x.id.length≤9223372036854775807)) (B:Nat) (w:World) (hl:SlIn routeCells 3 B w vl l) (hB:B≤w.heap.size):
  Calls Tryz.prog 20 #[vl] w fun e w'=>e= .returned (.tuple #[.int .i64 r.1, .int .i64 r.2])∧Bl w w':=by
 obtain⟨al,capl,rfl,ll1,ll2⟩:=hl.val;have HL:=Lib.hid hl;clear hl;by_cases hmany:64<l.length
 ·
  have HR:=Lib.hid (checkS_many (err:=routeErr) hmany);go_enter Tryz.func20,Tryz.ntmps20
  go_wp2;go_ret2;exact⟨ret_r HR.out H.out,bl_refl _⟩
 ·
  have hfew:l.length≤64:=by omega
  have HR:Hid (chk routeErr (l.take 0) (l.drop 0)=r):=(checkS_few hfew).symm.trans H.out;have hmm:= @run_makeMap Tryz.prog;obtain⟨w1,hw1⟩: ∃ w1,w.alloc (.map #[] 0)=w1:=⟨_,rfl⟩;have HS1:Hid (StrSet w1 w.heap.size 0 (fun _=>false)):=by rw[←hw1];exact ownsSet_made w Tryz.prog 9 4
  have B1:Hid (Bl w w1):=by rw[←hw1];exact bl_alloc (bl_refl _) _
  clear hmany;go_enter Tryz.func20,Tryz.ntmps20
  go_wp2_with fail;clear hw1 hmm;go_loopw [13] (fun i wr=> ∃ (k:Nat) (S:Lit→Bool),(k≤l.length∧i= .int .i64 k)∧Hid (WordSet ((l.take k).map (·.id)) S∧StrSet wr w.heap.size k S)∧Hid (chk routeErr (l.take k) (l.drop k)=r)∧Bl w wr) (fun i _=>l.length-(intOf i).toNat)
  case atStart=>exact⟨0,_,⟨Nat.zero_le _,rfl⟩,⟨wordSet_nil,HS1.out⟩,HR,B1.out⟩
  case round=>
   obtain⟨k,S,⟨hk,rfl⟩,HSS,HC,hbl⟩:=hrel;have z1:=hbl.size;by_cases hlt:k<l.length
   ·
    obtain⟨bl',ol,x,rfl,hbs,hx,hc⟩:=HL.out.get hlt hbl hB;have d0:wr.cell? ⟨bl',ol+k*3,none⟩=some (str x.id):=hc 0 _ rfl;have d1:wr.cell? ⟨bl',ol+k*3+1,none⟩=some (.int .i64 x.mode):=hc 1 _ rfl;have d2:wr.cell? ⟨bl',ol+k*3+2,none⟩=some (.bool x.bikes):=hc 2 _ rfl;have hkI:(k:Int)<(l.length:Int):=by omega
    have HX:=Lib.hid hx;have hsz:=hs.out x (List.mem_of_getElem? hx);clear hx hc;obtain⟨p,hp⟩: ∃ p,nameB x.id=p:=⟨_,rfl⟩;obtain⟨q,hq⟩: ∃ q,S (.string x.id)=q:=⟨_,rfl⟩;have HP:=Lib.hid hp;have HQ:Hid (((l.take k).any fun y=>y.id==x.id)=q):=by show _=_;rw[words_any (l.take k) (·.id) HSS.out.1,hq]
    obtain⟨w2,hw2⟩: ∃ w2,wr.alloc (.cells #[str x.id, .int .i64 x.mode, .bool x.bikes] 93)=w2:=⟨_,rfl⟩;have b2:Bl wr w2:=by rw[←hw2];exact bl_alloc (bl_refl _) _
    have t0:w2.cell? ⟨wr.heap.size,0,none⟩=some (str x.id):=by rw[←hw2,World.cell?_alloc_at (hn:=rfl)];rfl
    have t1:w2.cell? ⟨wr.heap.size,1,none⟩=some (.int .i64 x.mode):=by rw[←hw2,World.cell?_alloc_at (hn:=rfl)];rfl
    have t2:w2.cell? ⟨wr.heap.size,2,none⟩=some (.bool x.bikes):=by rw[←hw2,World.cell?_alloc_at (hn:=rfl)];rfl
    have s2:w2.heap.size=wr.heap.size+1:=by rw[←hw2];simp
    have B2:Hid (Bl w w2):=bl_next hbl b2;have hset:=HSS.out.2.bl b2;have hlook:=hset.look str_law Tryz.underlying115 Tryz.underlying4 (zero_bool w2) (key_str hsz);rw[hq]at hlook;obtain⟨wa,ha1,ha2,ha3⟩:=hset.put str_law Tryz.underlying115 Tryz.underlying4 (by unfold maxLen;omega) (key_str hsz);have HA2:=Lib.hid ha2;have HA3:=Lib.hid ha3;clear hp hq b2 hset ha2 ha3;have hid:=fun w=>Ms.ident_c ⟨x.id.toArray⟩ (by show x.id.toArray.size≤_;rw[List.size_toArray];unfold maxLen;omega) p HP w
    obtain⟨o,ho⟩: ∃ o,outside x.mode 0 7=o:=⟨_,rfl⟩;have HO:=Lib.hid ho;clear ho;cases p with
    |false=>
     have HE:=Lib.hid (chk_bad (err:=routeErr) HX.out (show routeErr (l.take k) x=12 by unfold routeErr;rw[if_pos HP.out]) (by decide));go_wp2_with (go_at_call 49;refine(hid _).mono ?_;rintro e w3 ⟨rfl,rfl⟩)
     go_ret2;exact⟨ret_r HE.out HC.out,B2.out⟩
    |true=>
     have HP1:=Lib.hid (show ¬ nameB x.id=false by rw[HP.out];decide);cases q with
     |true=>
      have HE:=Lib.hid (chk_bad (err:=routeErr) HX.out (show routeErr (l.take k) x=6 by unfold routeErr;rw[if_neg HP1.out,if_pos HQ.out]) (by decide));go_wp2_with (go_at_call 49;refine(hid _).mono ?_;rintro e w3 ⟨rfl,rfl⟩)
      go_ret2;exact⟨ret_r HE.out HC.out,B2.out⟩
     |false=>
      have HQ1:=Lib.hid (show ¬ ((l.take k).any fun y=>y.id==x.id)=true by rw[HQ.out];decide);go_wp2_with (first
       |(go_at_call 49;refine(hid _).mono ?_;rintro e w3 ⟨rfl,rfl⟩)
       |(go_at_call 50;refine(known_c x.mode _).mono ?_;rintro e w3 ⟨rfl,rfl⟩;rw[HO.out];cases o))
      all_goals first
       |
        go_ret2;have HE:=chk_bad (err:=routeErr) HX.out (show routeErr (l.take k) x=2 by unfold routeErr;rw[if_neg HP1.out,if_neg HQ1.out,if_pos (HO.out)]) (by decide);exact⟨ret_r HE HC.out,B2.out⟩
       |have HG:=chk_good (err:=routeErr) HX.out (show routeErr (l.take k) x=0 by unfold routeErr;rw[if_neg HP1.out,if_neg HQ1.out,if_neg (by rw[HO.out];decide)])
        exact⟨⟨k+1,_,⟨by omega,by go_num⟩,⟨by rw[ids_take (·.id) HX.out];exact HSS.out.1.snoc x.id,HA2.out⟩,HG.symm.trans HC.out,B2.out.grown HA3.out (by omega) (fun k hk=>by cases hk;omega)⟩,by simp[intOf];omega⟩
   ·
    have HE:=Lib.hid (chk_end (err:=routeErr) (show l.length≤k by omega));go_wp2;go_ret2;exact⟨ret_r HE.out HC.out,hbl⟩
theorem cals_c (vl:Value) (l:List CalD) (r:Int×Int) (H:Hid (checkS 64 calErr l=r)) (hs:Hid (∀ x∈l,x.id.length≤9223372036854775807)) (B:Nat) (w:World) (hl:SlIn calCells 10 B w vl l) (hB:B≤w.heap.size):
  Calls Tryz.prog 22 #[vl] w fun e w'=>e= .returned (.tuple #[.int .i64 r.1, .int .i64 r.2])∧Bl w w':=by
 obtain⟨al,capl,rfl,ll1,ll2⟩:=hl.val;have HL:=Lib.hid hl;clear hl;by_cases hmany:64<l.length
 ·
  have HR:=Lib.hid (checkS_many (err:=calErr) hmany);go_enter Tryz.func22,Tryz.ntmps22
  go_wp2;go_ret2;exact⟨ret_r HR.out H.out,bl_refl _⟩
 ·
  have hfew:l.length≤64:=by omega
  have HR:Hid (chk calErr (l.take 0) (l.drop 0)=r):=(checkS_few hfew).symm.trans H.out;have hmm:= @run_makeMap Tryz.prog;obtain⟨w1,hw1⟩: ∃ w1,w.alloc (.map #[] 0)=w1:=⟨_,rfl⟩;have HS1:Hid (StrSet w1 w.heap.size 0 (fun _=>false)):=by rw[←hw1];exact ownsSet_made w Tryz.prog 9 4
  have B1:Hid (Bl w w1):=by rw[←hw1];exact bl_alloc (bl_refl _) _
  clear hmany;go_enter Tryz.func22,Tryz.ntmps22
  go_wp2_with fail;clear hw1 hmm;go_loopw [13] (fun i wr=> ∃ (k:Nat) (S:Lit→Bool),(k≤l.length∧i= .int .i64 k)∧Hid (WordSet ((l.take k).map (·.id)) S∧StrSet wr w.heap.size k S)∧Hid (chk calErr (l.take k) (l.drop k)=r)∧Bl w wr) (fun i _=>l.length-(intOf i).toNat)
  case atStart=>exact⟨0,_,⟨Nat.zero_le _,rfl⟩,⟨wordSet_nil,HS1.out⟩,HR,B1.out⟩
  case round=>
   obtain⟨k,S,⟨hk,rfl⟩,HSS,HC,hbl⟩:=hrel;have z1:=hbl.size;by_cases hlt:k<l.length
   ·
    obtain⟨bl',ol,x,rfl,hbs,hx,hc⟩:=HL.out.get hlt hbl hB;have d0:wr.cell? ⟨bl',ol+k*10,none⟩=some (str x.id):=hc 0 _ rfl;have d1:wr.cell? ⟨bl',ol+k*10+1,none⟩=some (.bool x.week.d0):=hc 1 _ rfl;have d2:wr.cell? ⟨bl',ol+k*10+2,none⟩=some (.bool x.week.d1):=hc 2 _ rfl;have d3:wr.cell? ⟨bl',ol+k*10+3,none⟩=some (.bool x.week.d2):=hc 3 _ rfl;have d4:wr.cell? ⟨bl',ol+k*10+4,none⟩=some (.bool x.week.d3):=hc 4 _ rfl;have d5:wr.cell? ⟨bl',ol+k*10+5,none⟩=some (.bool x.week.d4):=hc 5 _ rfl;have d6:wr.cell? ⟨bl',ol+k*10+6,none⟩=some (.bool x.week.d5):=hc 6 _ rfl;have d7:wr.cell? ⟨bl',ol+k*10+7,none⟩=some (.bool x.week.d6):=hc 7 _ rfl;have d8:wr.cell? ⟨bl',ol+k*10+8,none⟩=some (.int .i64 x.frm):=hc 8 _ rfl;have d9:wr.cell? ⟨bl',ol+k*10+9,none⟩=some (.int .i64 x.to):=hc 9 _ rfl;have hkI:(k:Int)<(l.length:Int):=by omega
    have HX:=Lib.hid hx;have hsz:=hs.out x (List.mem_of_getElem? hx);clear hx hc;obtain⟨p,hp⟩: ∃ p,nameB x.id=p:=⟨_,rfl⟩;obtain⟨q,hq⟩: ∃ q,S (.string x.id)=q:=⟨_,rfl⟩;have HP:=Lib.hid hp;have HQ:Hid (((l.take k).any fun y=>y.id==x.id)=q):=by show _=_;rw[words_any (l.take k) (·.id) HSS.out.1,hq]
    obtain⟨w2,hw2⟩: ∃ w2,wr.alloc (.cells #[str x.id, .bool x.week.d0, .bool x.week.d1, .bool x.week.d2, .bool x.week.d3, .bool x.week.d4, .bool x.week.d5, .bool x.week.d6, .int .i64 x.frm, .int .i64 x.to] 114)=w2:=⟨_,rfl⟩;have b2:Bl wr w2:=by rw[←hw2];exact bl_alloc (bl_refl _) _
    have t0:w2.cell? ⟨wr.heap.size,0,none⟩=some (str x.id):=by rw[←hw2,World.cell?_alloc_at (hn:=rfl)];rfl
    have t1:w2.cell? ⟨wr.heap.size,1,none⟩=some (.bool x.week.d0):=by rw[←hw2,World.cell?_alloc_at (hn:=rfl)];rfl
    have t2:w2.cell? ⟨wr.heap.size,2,none⟩=some (.bool x.week.d1):=by rw[←hw2,World.cell?_alloc_at (hn:=rfl)];rfl
    have t3:w2.cell? ⟨wr.heap.size,3,none⟩=some (.bool x.week.d2):=by rw[←hw2,World.cell?_alloc_at (hn:=rfl)];rfl
    have t4:w2.cell? ⟨wr.heap.size,4,none⟩=some (.bool x.week.d3):=by rw[←hw2,World.cell?_alloc_at (hn:=rfl)];rfl
    have t5:w2.cell? ⟨wr.heap.size,5,none⟩=some (.bool x.week.d4):=by rw[←hw2,World.cell?_alloc_at (hn:=rfl)];rfl
    have t6:w2.cell? ⟨wr.heap.size,6,none⟩=some (.bool x.week.d5):=by rw[←hw2,World.cell?_alloc_at (hn:=rfl)];rfl
    have t7:w2.cell? ⟨wr.heap.size,7,none⟩=some (.bool x.week.d6):=by rw[←hw2,World.cell?_alloc_at (hn:=rfl)];rfl
    have t8:w2.cell? ⟨wr.heap.size,8,none⟩=some (.int .i64 x.frm):=by rw[←hw2,World.cell?_alloc_at (hn:=rfl)];rfl
    have t9:w2.cell? ⟨wr.heap.size,9,none⟩=some (.int .i64 x.to):=by rw[←hw2,World.cell?_alloc_at (hn:=rfl)];rfl
    have s2:w2.heap.size=wr.heap.size+1:=by rw[←hw2];simp
    have B2:Hid (Bl w w2):=bl_next hbl b2;have hset:=HSS.out.2.bl b2;have hlook:=hset.look str_law Tryz.underlying115 Tryz.underlying4 (zero_bool w2) (key_str hsz);rw[hq]at hlook;obtain⟨wa,ha1,ha2,ha3⟩:=hset.put str_law Tryz.underlying115 Tryz.underlying4 (by unfold maxLen;omega) (key_str hsz);have HA2:=Lib.hid ha2;have HA3:=Lib.hid ha3;clear hp hq b2 hset ha2 ha3;have hid:=fun w=>Ms.ident_c ⟨x.id.toArray⟩ (by show x.id.toArray.size≤_;rw[List.size_toArray];unfold maxLen;omega) p HP w
    obtain⟨o1,ho1⟩: ∃ o,dayB x.frm=o:=⟨_,rfl⟩;obtain⟨o2,ho2⟩: ∃ o,dayB x.to=o:=⟨_,rfl⟩;have HO1:=Lib.hid ho1;have HO2:=Lib.hid ho2;have hd1:=fun w=>Da.dValid_b x.frm o1 (by show _=_;rw[day_valid,HO1.out]) w
    have hd2:=fun w=>Da.dValid_b x.to o2 (by show _=_;rw[day_valid,HO2.out]) w
    clear ho1 ho2;cases p with
    |false=>
     have HE:=Lib.hid (chk_bad (err:=calErr) HX.out (show calErr (l.take k) x=12 by unfold calErr;rw[if_pos HP.out]) (by decide));go_wp2_with (go_at_call 49;refine(hid _).mono ?_;rintro e w3 ⟨rfl,rfl⟩)
     go_ret2;exact⟨ret_r HE.out HC.out,B2.out⟩
    |true=>
     have HP1:=Lib.hid (show ¬ nameB x.id=false by rw[HP.out];decide);cases q with
     |true=>
      have HE:=Lib.hid (chk_bad (err:=calErr) HX.out (show calErr (l.take k) x=6 by unfold calErr;rw[if_neg HP1.out,if_pos HQ.out]) (by decide));go_wp2_with (go_at_call 49;refine(hid _).mono ?_;rintro e w3 ⟨rfl,rfl⟩)
      go_ret2;exact⟨ret_r HE.out HC.out,B2.out⟩
     |false=>
      have HQ1:=Lib.hid (show ¬ ((l.take k).any fun y=>y.id==x.id)=true by rw[HQ.out];decide);go_wp2_with (first
       |(go_at_call 49;refine(hid _).mono ?_;rintro e w3 ⟨rfl,rfl⟩)
       |(go_at_call 51;refine(hd1 _).mono ?_;rintro e w3 ⟨rfl,rfl⟩;cases o1)
       |(go_at_call 51;refine(hd2 _).mono ?_;rintro e w3 ⟨rfl,rfl⟩;cases o2))
      all_goals first
       |
        go_ret2;have HE:=chk_bad (err:=calErr) HX.out (show calErr (l.take k) x=11 by unfold calErr;rw[if_neg HP1.out,if_neg HQ1.out,if_pos (by rw[HO1.out];first|rfl|(rw[HO2.out];first|rfl|(simp;omega)))]) (by decide);exact⟨ret_r HE HC.out,B2.out⟩
       |have HG:=chk_good (err:=calErr) HX.out (show calErr (l.take k) x=0 by unfold calErr;rw[if_neg HP1.out,if_neg HQ1.out,if_neg (by rw[HO1.out,HO2.out];simp;omega)])
        exact⟨⟨k+1,_,⟨by omega,by go_num⟩,⟨by rw[ids_take (·.id) HX.out];exact HSS.out.1.snoc x.id,HA2.out⟩,HG.symm.trans HC.out,B2.out.grown HA3.out (by omega) (fun k hk=>by cases hk;omega)⟩,by simp[intOf];omega⟩
   ·
    have HE:=Lib.hid (chk_end (err:=calErr) (show l.length≤k by omega));go_wp2;go_ret2;exact⟨ret_r HE.out HC.out,hbl⟩
end Go.Proofs.YtncbcmiflffakaaGreat
namespace Go.Proofs.YtncbcmiflffakaaGreat.Ms
open Go.RowKit
open Frq Tt
def prevOf (cs:List CallD) (i:Nat):Option CallD:=if i=0 then none else cs[i-1]?
theorem prevOf_succ {cs:List CallD} {i:Nat} {p:CallD} (h:cs[i]? =some p):prevOf cs (i+1)=some p:=by
 unfold prevOf;rw[if_neg (by omega)];exact h
theorem err_ref {stops lo hi:Int} {p:Option CallD} {c:CallD} (h:c.stop<0∨stops≤c.stop):callErr stops lo hi p c=9:=by unfold callErr;rw[if_pos h]
theorem err_stop {stops lo hi:Int} {p c:CallD} (h: ¬ (c.stop<0∨stops≤c.stop)) (h2:p.stop=c.stop):callErr stops lo hi (some p) c=13:=by
 unfold callErr;rw[if_neg h]
 exact if_pos (congrArg some h2)
theorem no_stop {c:CallD}: ¬ ((none:Option CallD).map (·.stop))=some c.stop:=fun h=>by cases h
theorem some_stop {p c:CallD} (h2: ¬ p.stop=c.stop): ¬ ((some p:Option CallD).map (·.stop))=some c.stop:=fun h=>h2 (Option.some.inj h)
theorem early_some (p c:CallD):Tt.early (some p) c=true↔c.arrive<p.depart:=by unfold Tt.early;exact decide_eq_true_iff
theorem err_time0 {stops lo hi:Int} {c:CallD} (h: ¬ (c.stop<0∨stops≤c.stop)) (h3:c.arrive<lo∨c.depart<c.arrive∨hi<c.depart):callErr stops lo hi none c=10:=by
 unfold callErr;rw[if_neg h,if_neg no_stop]
 exact if_pos (by rcases h3 with h|h|h<;>simp[h])
theorem err_ok0 {stops lo hi:Int} {c:CallD} (h: ¬ (c.stop<0∨stops≤c.stop)) (h3: ¬ (c.arrive<lo∨c.depart<c.arrive∨hi<c.depart)):callErr stops lo hi none c=0:=by
 unfold callErr;rw[if_neg h,if_neg no_stop]
 refine if_neg fun hc=>h3 ?_
 rcases hc with h|h|h|h
 · exact .inl h
 · exact .inr (.inl h)
 · exact .inr (.inr h)
 · cases h
theorem err_time1 {stops lo hi:Int} {p c:CallD} (h: ¬ (c.stop<0∨stops≤c.stop)) (h2: ¬ p.stop=c.stop) (h3:c.arrive<lo∨c.depart<c.arrive∨hi<c.depart∨c.arrive<p.depart):callErr stops lo hi (some p) c=10:=by
 unfold callErr;rw[if_neg h,if_neg (some_stop h2)]
 exact if_pos (by rw[early_some];exact h3)
theorem err_ok1 {stops lo hi:Int} {p c:CallD} (h: ¬ (c.stop<0∨stops≤c.stop)) (h2: ¬ p.stop=c.stop) (h3: ¬ (c.arrive<lo∨c.depart<c.arrive∨hi<c.depart∨c.arrive<p.depart)):callErr stops lo hi (some p) c=0:=by
 unfold callErr;rw[if_neg h,if_neg (some_stop h2)]
 exact if_neg (by rw[early_some];exact h3)
theorem one_call (v:Value) (cs:List CallD) (i:Nat) (hi:i<cs.length) (stops lo hi' e:Int) (H:Hid (callErr stops lo hi' (prevOf cs i) (cs[i]'hi)=e)) (B:Nat) (w:World) (hv:CallsIn B w v cs) (hB:B≤w.heap.size):
  Calls Tryz.prog 89 #[v, .int .i64 i, .int .i64 stops, .int .i64 lo, .int .i64 hi'] w fun r w'=>r= .returned (.int .i64 e)∧Bl w w':=by
 obtain⟨b,o,cap,rfl,l1,l2,l3,hc⟩:=SlIn.open hv (by omega);obtain⟨x,hx'⟩: ∃ x,cs[i]'hi=x:=⟨_,rfl⟩;have hx:cs[i]? =some x:=by rw[List.getElem?_eq_getElem hi,hx']
 rw[hx']at H;have hc0:=hc i x hx;have hbw:b<w.heap.size:=by omega
 have g0:w.cell? ⟨b,o+i*5,none⟩=some (.int .i64 x.stop):=hc0 0 _ rfl;have g1:=hc0 1 _ rfl;have g2:=hc0 2 _ rfl;have g3:=hc0 3 _ rfl;have g4:=hc0 4 _ rfl;clear hc0;have iI:(i:Int)<(cs.length:Int):=by omega
 by_cases h1:x.stop<0∨stops≤x.stop
 ·
  have HF:=Lib.hid ((err_ref (lo:=lo) (hi:=hi') (p:=prevOf cs i) h1).symm.trans H.out);have f0:=HF.out;clear H HF hv hc hx hx';subst f0;rcases h1 with h|h
  all_goals
   go_enter Tryz.func89,Tryz.ntmps89
   go_wp2;all_goals
    go_ret;exact⟨rfl,bl_alloc (bl_refl _) _⟩
 have s1: ¬ x.stop<0:=fun h=>h1 (.inl h)
 have s2: ¬ stops≤x.stop:=fun h=>h1 (.inr h)
 by_cases hz:0<i
 ·
  obtain⟨j,hj⟩: ∃ j,i=j+1:=⟨i-1,by omega⟩;have hjl:j<cs.length:=by omega
  obtain⟨p,hp⟩: ∃ p,cs[j]? =some p:=⟨_,List.getElem?_eq_getElem hjl⟩;have hc1:=hc j p hp;have k0:w.cell? ⟨b,o+j*5,none⟩=some (.int .i64 p.stop):=hc1 0 _ rfl;have k1:=hc1 1 _ rfl;have k2:=hc1 2 _ rfl;have k3:=hc1 3 _ rfl;have k4:=hc1 4 _ rfl;have jI:((i:Int)-1)=(j:Int):=by omega
  have jL:(j:Int)<(cs.length:Int):=by omega
  have jW:IntKind.i64.wrap (j:Int)=(j:Int):=IntWalk.i64_in _ (by omega);rw[show prevOf cs i=some p by rw[hj];exact prevOf_succ hp]at H;clear hc hc1 hp hx hx' hv hj;by_cases h2:p.stop=x.stop
  ·
   have HF:=Lib.hid ((err_stop (lo:=lo) (hi:=hi') h1 h2).symm.trans H.out);have f0:=HF.out;clear H HF;subst f0;have h2':(p.stop==x.stop)=true:=by rw[beq_iff_eq];exact h2
   go_enter Tryz.func89,Tryz.ntmps89
   go_wp2_with fail;go_quiet (fail)
   go_wp2;go_ret;exact⟨rfl,(by first|exact bl_drewN (bl_drewN (bl_alloc (bl_refl _) _) _) _|exact bl_drewN (bl_alloc (bl_refl _) _) _|exact bl_alloc (bl_refl _) _)⟩
  ·
   have h2':(p.stop==x.stop)=false:=by rw[beq_eq_false_iff_ne];exact h2
   go_enter Tryz.func89,Tryz.ntmps89
   go_wp2_with fail;go_quiet (fail)
   go_wp2_with fail;generalize hw1:(w.alloc (Obj.cells #[.int .i64 x.stop, .int .i64 x.arrive, .int .i64 x.depart, .bool x.board, .bool x.alight] 68)).drewN nq=w1
   have B1:Bl w w1:=by rw[←hw1];exact bl_drewN (bl_alloc (bl_refl _) _) _
   have z0:w1.cell? ⟨w.heap.size,0,none⟩=some (.int .i64 x.stop):=by rw[←hw1];simp
   have z1:w1.cell? ⟨w.heap.size,1,none⟩=some (.int .i64 x.arrive):=by rw[←hw1];simp
   have z2:w1.cell? ⟨w.heap.size,2,none⟩=some (.int .i64 x.depart):=by rw[←hw1];simp
   have y2:w1.cell? ⟨b,o+j*5+2,none⟩=some (.int .i64 p.depart):=by rw[(bl_cell B1).1 _ _ hbw];exact k2
   clear hw1 k0 k1 k2 k3 k4 g0 g1 g2 g3 g4;by_cases t1:x.arrive<lo
   ·
    have HF:=Lib.hid ((err_time1 h1 h2 (.inl t1)).symm.trans H.out);go_quiet (fail)
    go_wp2;go_ret;exact⟨ret_int HF.out,bl_drewN B1 _⟩
   by_cases t2:x.depart<x.arrive
   ·
    have HF:=Lib.hid ((err_time1 h1 h2 (.inr (.inl t2))).symm.trans H.out);go_quiet (fail)
    go_wp2;go_ret;exact⟨ret_int HF.out,bl_drewN B1 _⟩
   by_cases t3:hi'<x.depart
   ·
    have HF:=Lib.hid ((err_time1 h1 h2 (.inr (.inr (.inl t3)))).symm.trans H.out);go_quiet (fail)
    go_wp2;go_ret;exact⟨ret_int HF.out,bl_drewN B1 _⟩
   by_cases t4:x.arrive<p.depart
   ·
    have HF:=Lib.hid ((err_time1 h1 h2 (.inr (.inr (.inr t4)))).symm.trans H.out);go_quiet (fail)
    go_wp2;go_ret;exact⟨ret_int HF.out,bl_drewN B1 _⟩
   ·
    have HF:=Lib.hid ((err_ok1 (lo:=lo) (hi:=hi') h1 h2 (by omega)).symm.trans H.out);go_quiet (fail)
    go_wp2;go_ret;exact⟨ret_int HF.out,bl_drewN B1 _⟩
 ·
  rw[show prevOf cs i=none by unfold prevOf;rw[if_pos (by omega)]]at H;clear hc hx hx' hv;go_enter Tryz.func89,Tryz.ntmps89
  go_wp2_with fail;go_quiet (fail)
  go_wp2_with fail;generalize hw1:(w.alloc (Obj.cells #[.int .i64 x.stop, .int .i64 x.arrive, .int .i64 x.depart, .bool x.board, .bool x.alight] 68)).drewN nq=w1
  have B1:Bl w w1:=by rw[←hw1];exact bl_drewN (bl_alloc (bl_refl _) _) _
  have z0:w1.cell? ⟨w.heap.size,0,none⟩=some (.int .i64 x.stop):=by rw[←hw1];simp
  have z1:w1.cell? ⟨w.heap.size,1,none⟩=some (.int .i64 x.arrive):=by rw[←hw1];simp
  have z2:w1.cell? ⟨w.heap.size,2,none⟩=some (.int .i64 x.depart):=by rw[←hw1];simp
  clear hw1 g0 g1 g2 g3 g4;by_cases t1:x.arrive<lo
  ·
   have HF:=Lib.hid ((err_time0 h1 (.inl t1)).symm.trans H.out);go_quiet (fail)
   go_wp2;go_ret;exact⟨ret_int HF.out,bl_drewN B1 _⟩
  by_cases t2:x.depart<x.arrive
  ·
   have HF:=Lib.hid ((err_time0 h1 (.inr (.inl t2))).symm.trans H.out);go_quiet (fail)
   go_wp2;go_ret;exact⟨ret_int HF.out,bl_drewN B1 _⟩
  by_cases t3:hi'<x.depart
  ·
   have HF:=Lib.hid ((err_time0 h1 (.inr (.inr t3))).symm.trans H.out);go_quiet (fail)
   go_wp2;go_ret;exact⟨ret_int HF.out,bl_drewN B1 _⟩
  ·
   have HF:=Lib.hid ((err_ok0 (lo:=lo) (hi:=hi') h1 (by omega)).symm.trans H.out);go_quiet (fail)
   go_wp2;go_ret;exact⟨ret_int HF.out,bl_drewN B1 _⟩
end Go.Proofs.YtncbcmiflffakaaGreat.Ms
namespace Go.Proofs.YtncbcmiflffakaaGreat.Ms
open Go.RowKit
open Frq Tt
theorem calls_step {stops lo hi:Int} {cs:List CallD} {k:Nat} {x:CallD} (hx:cs[k]? =some x) (h:callErr stops lo hi (prevOf cs k) x=0):
  callsF stops lo hi (prevOf cs k) (cs.drop k)=callsF stops lo hi (prevOf cs (k+1)) (cs.drop (k+1)):=by
 obtain⟨hk,rfl⟩:=List.getElem?_eq_some_iff.1 hx;rw[List.drop_eq_getElem_cons hk,prevOf_succ hx];show(if callErr stops lo hi (prevOf cs k) cs[k]=0 then callsF stops lo hi (some cs[k]) (cs.drop (k+1))else _)=_
 rw[if_pos h]
theorem calls_stop {stops lo hi:Int} {cs:List CallD} {k:Nat} {x:CallD} (hx:cs[k]? =some x) (h: ¬ callErr stops lo hi (prevOf cs k) x=0):
  callsF stops lo hi (prevOf cs k) (cs.drop k)=callErr stops lo hi (prevOf cs k) x:=by
 obtain⟨hk,rfl⟩:=List.getElem?_eq_some_iff.1 hx;rw[List.drop_eq_getElem_cons hk];show(if callErr stops lo hi (prevOf cs k) cs[k]=0 then _ else callErr stops lo hi (prevOf cs k) cs[k])=_
 rw[if_neg h]
theorem calls_c (v:Value) (cs:List CallD) (stops lo hi e:Int) (H:Hid (callsErr stops lo hi cs=e)) (B:Nat) (w:World) (hv:CallsIn B w v cs) (hB:B≤w.heap.size):
  Calls Tryz.prog 52 #[v, .int .i64 stops, .int .i64 lo, .int .i64 hi] w fun r w'=>(∃ i:Int,r= .returned (.tuple #[.int .i64 i, .int .i64 e]))∧Bl w w':=by
 by_cases hbad:cs.length<2∨32<cs.length
 ·
  have HF:=Lib.hid (show(5:Int)=e by rw[←H.out];unfold callsErr;rw[if_pos hbad]);have f0:=HF.out;clear H HF;subst f0;rcases Nat.eq_zero_or_pos cs.length with h0|h0
  ·
   obtain⟨a1,c1,rfl,m1,rfl⟩:=hv.empty h0;go_enter Tryz.func52,Tryz.ntmps52
   go_wp2;go_ret2;exact⟨⟨0,rfl⟩,bl_refl _⟩
  ·
   obtain⟨b,o,cap,rfl,l1,l2,l3,hc⟩:=hv.open h0;clear hc hv;rcases hbad with h|h
   all_goals
    go_enter Tryz.func52,Tryz.ntmps52
    go_wp2;go_ret2;exact⟨⟨0,rfl⟩,bl_refl _⟩
 have HV:=Lib.hid hv;obtain⟨b,o,cap,rfl,l1,l2,l3,hc⟩:=hv.open (by omega);have n1:2≤cs.length:=by omega
 have n2:cs.length≤32:=by omega
 have HS:=Lib.hid (show callsF stops lo hi (prevOf cs 0) (cs.drop 0)=e by rw[←H.out];unfold callsErr;rw[if_neg hbad];rfl);clear hc hv H hbad;go_enter Tryz.func52,Tryz.ntmps52
 go_wp2;go_loopw [22] (fun i wr=> ∃ k:Nat,k≤cs.length∧i= .int .i64 k∧Hid (callsF stops lo hi (prevOf cs k) (cs.drop k)=e)∧Bl w wr) (fun i _=>cs.length-(intOf i).toNat)
 case atStart=>exact⟨0,Nat.zero_le _,rfl,HS,bl_refl _⟩
 case round=>
  obtain⟨k,hk,rfl,HK,hb⟩:=hrel;by_cases hlt:k<cs.length
  ·
   have hx:cs[k]? =some (cs[k]'hlt):=List.getElem?_eq_getElem hlt;obtain⟨ce,hce⟩: ∃ ce,callErr stops lo hi (prevOf cs k) (cs[k]'hlt)=ce:=⟨_,rfl⟩;have HC:=Lib.hid hce;have hkI:(k:Int)<(cs.length:Int):=by omega
   have hone:=one_call _ cs k hlt stops lo hi ce HC B wr (HV.out.below (hb.mono hB)) (Nat.le_trans hB hb.size);by_cases h0:ce=0
   ·
    have HN:=Lib.hid (show callsF stops lo hi (prevOf cs (k+1)) (cs.drop (k+1))=e by rw[←calls_step hx (by rw[hce,h0])];exact HK.out);subst h0;clear hce hx;go_wp2_with (go_at_call 89;refine hone.mono ?_)
    rintro r w1 ⟨rfl,b1⟩;have B1:=bl_next hb b1;go_wp2;go_roundw;case rel=>exact⟨k+1,by omega,by go_num,HN,B1⟩
    case measure=>simp[intOf];omega
   ·
    have HF:=Lib.hid (show ce=e by rw[←hce,←calls_stop hx (by rw[hce];exact h0)];exact HK.out);have g0:(ce != 0)=true:=by rw[bne_iff_ne];exact h0
    clear hce hx;go_wp2_with (go_at_call 89;refine hone.mono ?_)
    rintro r w1 ⟨rfl,b1⟩;have B1:=bl_next hb b1;go_wp2;go_ret2;exact⟨⟨k,by rw[←HF.out];rfl⟩,B1⟩
  ·
   have HF:=Lib.hid (show(0:Int)=e by rw[←HK.out,List.drop_eq_nil_of_le (by omega)];rfl);have f0:=HF.out;clear HF HK;subst f0;go_wp2;go_ret2;exact⟨⟨0,rfl⟩,hb⟩
end Go.Proofs.YtncbcmiflffakaaGreat.Ms
namespace Go.Proofs.YtncbcmiflffakaaGreat
open Go.RowKit
open Frq Thr Tt
theorem trips_c (vl:Value) (ts:List TripD) (stops routes cals:Int) (l:List TripX) (hts:l=ts.map xOf) (r:Int×Int) (H:Hid (checkS 256 (tripErr stops routes cals) l=r)) (hs:Hid (∀ x∈l,x.id.length≤9223372036854775807)) (B:Nat) (w:World) (hl:TripsRd B w vl ts) (hB:B≤w.heap.size):
  Calls Tryz.prog 26 #[vl, .int .i64 stops, .int .i64 routes, .int .i64 cals] w fun e w'=>e= .returned (.tuple #[.int .i64 r.1, .int .i64 r.2])∧Bl w w':=by
 obtain⟨al,capl,rfl,ll1,ll2⟩:=hl.sl.val;have hlen:l.length=ts.length:=by rw[hts,List.length_map]
 have HL:=Lib.hid hl;have HTS:=Lib.hid hts;clear hl hts;by_cases hmany:256<ts.length
 ·
  have HR:=Lib.hid (checkS_many (err:=tripErr stops routes cals) (l:=l) (most:=256) (by omega));go_enter Tryz.func26,Tryz.ntmps26
  go_wp2;go_ret2;exact⟨ret_r HR.out H.out,bl_refl _⟩
 ·
  have hfew:ts.length≤256:=by omega
  have HR:Hid (chk (tripErr stops routes cals) (l.take 0) (l.drop 0)=r):=(checkS_few (by omega)).symm.trans H.out;have hmm:= @run_makeMap Tryz.prog;obtain⟨w1,hw1⟩: ∃ w1,w.alloc (.map #[] 0)=w1:=⟨_,rfl⟩;have HS1:Hid (StrSet w1 w.heap.size 0 (fun _=>false)):=by rw[←hw1];exact ownsSet_made w Tryz.prog 9 4
  have B1:Hid (Bl w w1):=by rw[←hw1];exact bl_alloc (bl_refl _) _
  clear hmany;go_enter Tryz.func26,Tryz.ntmps26
  go_wp2_with fail;clear hw1 hmm;go_loopw [21] (fun i wr=> ∃ (k:Nat) (S:Lit→Bool),(k≤ts.length∧i= .int .i64 k)∧Hid (WordSet ((l.take k).map (·.id)) S∧StrSet wr w.heap.size k S)∧Hid (chk (tripErr stops routes cals) (l.take k) (l.drop k)=r)∧Bl w wr) (fun i _=>ts.length-(intOf i).toNat)
  case atStart=>exact⟨0,_,⟨Nat.zero_le _,rfl⟩,⟨wordSet_nil,HS1.out⟩,HR,B1.out⟩
  case round=>
   obtain⟨k,S,⟨hk,rfl⟩,HSS,HC,hbl⟩:=hrel;have z1:=hbl.size;by_cases hlt:k<ts.length
   ·
    obtain⟨bl',ol,x,rfl,hbs,hx,hc⟩:=HL.out.sl.get hlt hbl hB;obtain⟨ax,cx,hvx,-,-⟩:=(HL.out.ok x (List.mem_of_getElem? hx)).calls.val;obtain⟨xi,hxi⟩: ∃ xi,x.id.data.toList=xi:=⟨_,rfl⟩;have hse:Value.string x.id=str xi:=by rw[←hxi]
    have d0:wr.cell? ⟨bl',ol+k*5,none⟩=some (str xi):=by rw[←hse];exact hc 0 _ rfl
    have d1:wr.cell? ⟨bl',ol+k*5+1,none⟩=some (.int .i64 x.rt):=hc 1 _ rfl;have d2:wr.cell? ⟨bl',ol+k*5+2,none⟩=some (.int .i64 x.cal):=hc 2 _ rfl;have d3:wr.cell? ⟨bl',ol+k*5+3,none⟩=some (.bool x.step):=hc 3 _ rfl;have d4:wr.cell? ⟨bl',ol+k*5+4,none⟩=some (.slice ax x.calls.length cx):=by rw[←hvx];exact hc 4 _ rfl
    have hkI:(k:Int)<(ts.length:Int):=by omega
    have HX:Hid (l[k]? =some (xOf x)):=by show _=_;rw[HTS.out,List.getElem?_map,hx];rfl
    have HXI:=Lib.hid hxi;have hsz:xi.length≤9223372036854775807:=by have:=hs.out (xOf x) (List.mem_of_getElem? HX.out);rw[←hxi];exact this
    have HCI:=Lib.hid (show CallsIn B w (.slice ax x.calls.length cx) x.calls by rw[←hvx];exact(HL.out.ok x (List.mem_of_getElem? hx)).calls);clear hx hc hse hvx hxi;obtain⟨p,hp⟩: ∃ p,nameB xi=p:=⟨_,rfl⟩;obtain⟨q,hq⟩: ∃ q,S (.string xi)=q:=⟨_,rfl⟩;obtain⟨e9,h9⟩: ∃ e,callsErr stops 0 172800 x.calls=e:=⟨_,rfl⟩;have H9:=Lib.hid h9;have HP:=Lib.hid hp;have HQ:Hid (((l.take k).any fun y=>y.id==(xOf x).id)=q):=by show _=_;rw[show(xOf x).id=xi from HXI.out,words_any (l.take k) (·.id) HSS.out.1,hq]
    obtain⟨w2,hw2⟩: ∃ w2,wr.alloc (.cells #[str xi, .int .i64 x.rt, .int .i64 x.cal, .bool x.step, .slice ax x.calls.length cx] 63)=w2:=⟨_,rfl⟩;have b2:Bl wr w2:=by rw[←hw2];exact bl_alloc (bl_refl _) _
    have t0:w2.cell? ⟨wr.heap.size,0,none⟩=some (str xi):=by rw[←hw2,World.cell?_alloc_at (hn:=rfl)];rfl
    have t1:w2.cell? ⟨wr.heap.size,1,none⟩=some (.int .i64 x.rt):=by rw[←hw2,World.cell?_alloc_at (hn:=rfl)];rfl
    have t2:w2.cell? ⟨wr.heap.size,2,none⟩=some (.int .i64 x.cal):=by rw[←hw2,World.cell?_alloc_at (hn:=rfl)];rfl
    have t4:w2.cell? ⟨wr.heap.size,4,none⟩=some (.slice ax x.calls.length cx):=by rw[←hw2,World.cell?_alloc_at (hn:=rfl)];rfl
    have s2:w2.heap.size=wr.heap.size+1:=by rw[←hw2];simp
    have B2:Hid (Bl w w2):=bl_next hbl b2;have BR2:=Lib.hid b2;have hset:=HSS.out.2.bl b2;have hlook:=hset.look str_law Tryz.underlying115 Tryz.underlying4 (zero_bool w2) (key_str hsz);rw[hq]at hlook;clear hp hq b2 hset h9;have hid:=fun w=>Ms.ident_c ⟨xi.toArray⟩ (by show xi.toArray.size≤_;rw[List.size_toArray];unfold maxLen;omega) p HP w
    cases p with
    |false=>
     have HE:=Lib.hid (chk_bad (err:=tripErr stops routes cals) HX.out (show tripErr stops routes cals (l.take k) (xOf x)=12 by unfold tripErr;rw[show(xOf x).id=xi from HXI.out,if_pos HP.out]) (by decide));go_wp2_with (go_at_call 49;refine(hid _).mono ?_;rintro e w3 ⟨rfl,rfl⟩)
     go_ret2;exact⟨ret_r HE.out HC.out,B2.out⟩
    |true=>
     have HP1:=Lib.hid (show ¬ nameB (xOf x).id=false by rw[show(xOf x).id=xi from HXI.out,HP.out];decide);cases q with
     |true=>
      have HE:=Lib.hid (chk_bad (err:=tripErr stops routes cals) HX.out (show tripErr stops routes cals (l.take k) (xOf x)=6 by unfold tripErr;rw[if_neg HP1.out,if_pos HQ.out]) (by decide));go_wp2_with (go_at_call 49;refine(hid _).mono ?_;rintro e w3 ⟨rfl,rfl⟩)
      go_ret2;exact⟨ret_r HE.out HC.out,B2.out⟩
     |false=>
      have HQ1:=Lib.hid (show ¬ ((l.take k).any fun y=>y.id==(xOf x).id)=true by rw[HQ.out];decide);by_cases hout:(x.rt<0∨routes≤x.rt)∨(x.cal<0∨cals≤x.cal)
      ·
       have HE:=Lib.hid (chk_bad (err:=tripErr stops routes cals) HX.out (show tripErr stops routes cals (l.take k) (xOf x)=9 by unfold tripErr;rw[if_neg HP1.out,if_neg HQ1.out,if_pos (by show(outside x.rt 0 (routes-1)||outside x.cal 0 (cals-1))=true;unfold outside;simp;omega)]) (by decide));go_wp2_with (go_at_call 49;refine(hid _).mono ?_;rintro e w3 ⟨rfl,rfl⟩)
       all_goals first
        |(exfalso;omega)
        |(go_ret2;exact⟨ret_r HE.out HC.out,B2.out⟩)
      ·
       have HO1:=Lib.hid (show ¬ (outside x.rt 0 (routes-1)||outside x.cal 0 (cals-1))=true by unfold outside;simp;omega);have n1:0≤x.rt:=by omega
       have n2:x.rt<routes:=by omega
       have n3:0≤x.cal:=by omega
       have n4:x.cal<cals:=by omega
       have hcc:=Ms.calls_c (.slice ax x.calls.length cx) x.calls stops 0 172800 e9 H9 B w2 (HCI.out.out B2.out hB) (by omega);go_wp2_with (first
        |(go_at_call 49;refine(hid _).mono ?_;rintro e w3 ⟨rfl,rfl⟩)
        |(go_at_call 52;refine hcc.mono ?_;rintro e w4 ⟨⟨i4,rfl⟩,b4⟩;have t0':w4.cell? ⟨wr.heap.size,0,none⟩=some (str xi):=((bl_cell b4).1 _ _ (by omega)).trans t0;obtain⟨wa,ha1,ha2,ha3⟩:=(HSS.out.2.bl (bl_next BR2.out b4)).put str_law Tryz.underlying115 Tryz.underlying4 (by unfold maxLen;omega) (key_str hsz);have HA2:=Lib.hid ha2;have HA3:=Lib.hid ha3;have B4:=Lib.hid b4;clear ha2 ha3 b4;rcases Int.lt_trichotomy e9 0 with h0|h0|h0))
       all_goals
        have HTE:tripErr stops routes cals (l.take k) (xOf x)=e9:=by unfold tripErr;rw[if_neg HP1.out,if_neg HQ1.out,if_neg (show ¬ (outside (xOf x).route 0 (routes-1)||outside (xOf x).cal 0 (cals-1))=true from HO1.out)];exact H9.out
        have hb4:=B4.out.size;first
         |
          go_ret2;have HE:=chk_bad (err:=tripErr stops routes cals) HX.out HTE (by omega);exact⟨ret_r HE HC.out,bl_next B2.out B4.out⟩
         |have HG:=chk_good (err:=tripErr stops routes cals) HX.out (HTE.trans h0)
          exact⟨⟨k+1,_,⟨by omega,by go_num⟩,⟨by rw[ids_take (·.id) HX.out,show(xOf x).id=xi from HXI.out];exact HSS.out.1.snoc xi,HA2.out⟩,HG.symm.trans HC.out,(bl_next B2.out B4.out).grown HA3.out (by omega) (fun k hk=>by cases hk;omega)⟩,by simp[intOf];omega⟩
   ·
    have HE:=Lib.hid (chk_end (err:=tripErr stops routes cals) (show l.length≤k by omega));go_wp2;go_ret2;exact⟨ret_r HE.out HC.out,hbl⟩
end Go.Proofs.YtncbcmiflffakaaGreat
