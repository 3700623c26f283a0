/-
  PkChkA: what the law of feed needs of FedChkA, FedChkB, FedChkC, FedKeys, FedChkE, FedChkF, FedChkG. Conditions: those of each lemma.
-/
import Derived.Test.YtakedkcjplfgeaaGreatDoorPkFedA
import Derived.Test.YtakedkcjplfgeaaGreatDoorPkMs
import Derived.Test.YtakedkcjplfgeaaGreatDoorPkDaA
import Derived.DeepKeys4
set_option maxRecDepth 1000000
set_option maxHeartbeats 32000000
namespace Go.Proofs.YtakedkcjplfgeaaGreatDoor
open Go.RowKit
open Frq Thr Tt
theorem ret_r {a b:Int} {r r':Int×Int} (h:r'=(a,b)) (h':r'=r):Ending.returned (.tuple #[.int .i64 a, .int .i64 b])= .returned (.tuple #[.int .i64 r.1, .int .i64 r.2]):=by rw[←h',h]
theorem checkS_many {α:Type} {most:Nat} {err:List α→α→Int} {l:List α} (h:most<l.length):checkS most err l=(0,5):=by unfold checkS;rw[if_pos h]
theorem checkS_few {α:Type} {most:Nat} {err:List α→α→Int} {l:List α} (h:l.length≤most):checkS most err l=chk err (l.take 0) (l.drop 0):=by unfold checkS;rw[if_neg (by omega)];rfl
theorem zero_bool (w:World):(zeroValue 4).run Tryz.prog w= .ok (.bool false) w:=by kernel_rfl
theorem ids_take {α:Type} {l:List α} {k:Nat} {x:α} (f:α→List UInt8) (h:l[k]? =some x):(l.take (k+1)).map f=(l.take k).map f++[f x]:=by rw[take_snoc_at h,List.map_append];rfl
theorem words_any {α:Type} (l:List α) (f:α→List UInt8) {S:Lit→Bool} (h:WordSet (l.map f) S) (x:List UInt8):(l.any fun y=>f y==x)=S (.string x):=by
 rw[h x,List.any_map];rfl
theorem stops_c (vl:Value) (l:List StopD) (r:Int×Int) (H:Hid (checkS 64 stopErr l=r)) (hs:Hid (∀ x∈l,x.id.length≤9223372036854775807)) (B:Nat) (w:World) (hl:SlIn stopCells 4 B w vl l) (hB:B≤w.heap.size):
  Calls Tryz.prog 43 #[vl] w fun e w'=>e= .returned (.tuple #[.int .i64 r.1, .int .i64 r.2])∧Bl w w':=by
 obtain⟨al,capl,rfl,ll1,ll2⟩:=hl.val;have HL:=Lib.hid hl;clear hl;by_cases hmany:64<l.length
 ·
  have HR:=Lib.hid (checkS_many (err:=stopErr) hmany);go_enter Tryz.func43,Tryz.ntmps43
  go_wp2;go_ret2;exact⟨ret_r HR.out H.out,bl_refl _⟩
 ·
  have hfew:l.length≤64:=by omega
  have HR:Hid (chk stopErr (l.take 0) (l.drop 0)=r):=(checkS_few hfew).symm.trans H.out;have hmm:= @run_makeMap Tryz.prog;obtain⟨w1,hw1⟩: ∃ w1,w.alloc (.map #[] 0)=w1:=⟨_,rfl⟩;have HS1:Hid (StrSet w1 w.heap.size 0 (fun _=>false)):=by rw[←hw1];exact ownsSet_made w Tryz.prog 9 4
  have B1:Hid (Bl w w1):=by rw[←hw1];exact bl_alloc (bl_refl _) _
  clear hmany;go_enter Tryz.func43,Tryz.ntmps43
  go_wp2_with fail;clear hw1 hmm;go_loopw [13] (fun i wr=> ∃ (k:Nat) (S:Lit→Bool),(k≤l.length∧i= .int .i64 k)∧Hid (WordSet ((l.take k).map (·.id)) S∧StrSet wr w.heap.size k S)∧Hid (chk stopErr (l.take k) (l.drop k)=r)∧Bl w wr) (fun i _=>l.length-(intOf i).toNat)
  case atStart=>exact⟨0,_,⟨Nat.zero_le _,rfl⟩,⟨wordSet_nil,HS1.out⟩,HR,B1.out⟩
  case round=>
   obtain⟨k,S,⟨hk,rfl⟩,HSS,HC,hbl⟩:=hrel;have z1:=hbl.size;by_cases hlt:k<l.length
   ·
    obtain⟨bl',ol,x,rfl,hbs,hx,hc⟩:=HL.out.get hlt hbl hB;have d0:wr.cell? ⟨bl',ol+k*4,none⟩=some (str x.id):=hc 0 _ rfl;have d1:wr.cell? ⟨bl',ol+k*4+1,none⟩=some (.int .i64 x.zone):=hc 1 _ rfl;have d2:wr.cell? ⟨bl',ol+k*4+2,none⟩=some (.bool x.free):=hc 2 _ rfl;have d3:wr.cell? ⟨bl',ol+k*4+3,none⟩=some (.int .i64 x.change):=hc 3 _ rfl;have hkI:(k:Int)<(l.length:Int):=by omega
    have HX:=Lib.hid hx;have hsz:=hs.out x (List.mem_of_getElem? hx);clear hx hc;obtain⟨p,hp⟩: ∃ p,nameB x.id=p:=⟨_,rfl⟩;obtain⟨q,hq⟩: ∃ q,S (.string x.id)=q:=⟨_,rfl⟩;have HP:=Lib.hid hp;have HQ:Hid (((l.take k).any fun y=>y.id==x.id)=q):=by show _=_;rw[words_any (l.take k) (·.id) HSS.out.1,hq]
    obtain⟨w2,hw2⟩: ∃ w2,wr.alloc (.cells #[str x.id, .int .i64 x.zone, .bool x.free, .int .i64 x.change] 120)=w2:=⟨_,rfl⟩;have b2:Bl wr w2:=by rw[←hw2];exact bl_alloc (bl_refl _) _
    have t0:w2.cell? ⟨wr.heap.size,0,none⟩=some (str x.id):=by rw[←hw2,World.cell?_alloc_at (hn:=rfl)];rfl
    have t1:w2.cell? ⟨wr.heap.size,1,none⟩=some (.int .i64 x.zone):=by rw[←hw2,World.cell?_alloc_at (hn:=rfl)];rfl
    have t3:w2.cell? ⟨wr.heap.size,3,none⟩=some (.int .i64 x.change):=by rw[←hw2,World.cell?_alloc_at (hn:=rfl)];rfl
    have s2:w2.heap.size=wr.heap.size+1:=by rw[←hw2];simp
    have B2:Hid (Bl w w2):=bl_next hbl b2;have hset:=HSS.out.2.bl b2;have hlook:=hset.look str_law Tryz.underlying166 Tryz.underlying4 (zero_bool w2) (key_str hsz);rw[hq]at hlook;obtain⟨wa,ha1,ha2,ha3⟩:=hset.put str_law Tryz.underlying166 Tryz.underlying4 (by unfold maxLen;omega) (key_str hsz);have HA2:=Lib.hid ha2;have HA3:=Lib.hid ha3;clear hp hq b2 hset ha2 ha3;have hid:=fun w=>Ms.ident_c ⟨x.id.toArray⟩ (by show x.id.toArray.size≤_;rw[List.size_toArray];unfold maxLen;omega) p HP w
    cases p with
    |false=>
     have HE:=Lib.hid (chk_bad (err:=stopErr) HX.out (show stopErr (l.take k) x=12 by unfold stopErr;rw[if_pos HP.out]) (by decide));go_wp2_with (go_at_call 119;refine(hid _).mono ?_;rintro e w3 ⟨rfl,rfl⟩)
     go_ret2;exact⟨ret_r HE.out HC.out,B2.out⟩
    |true=>
     have hP1: ¬ nameB x.id=false:=by rw[HP.out];decide
     have HP1:=Lib.hid hP1;clear hP1;cases q with
     |true=>
      have HE:=Lib.hid (chk_bad (err:=stopErr) HX.out (show stopErr (l.take k) x=6 by unfold stopErr;rw[if_neg HP1.out,if_pos HQ.out]) (by decide));go_wp2_with (go_at_call 119;refine(hid _).mono ?_;rintro e w3 ⟨rfl,rfl⟩)
      go_ret2;exact⟨ret_r HE.out HC.out,B2.out⟩
     |false=>
      have HQ1:=Lib.hid (show ¬ ((l.take k).any fun y=>y.id==x.id)=true by rw[HQ.out];decide);go_wp2_with (go_at_call 119;refine(hid _).mono ?_;rintro e w3 ⟨rfl,rfl⟩)
      all_goals first
       |
        go_ret2;have HE:=chk_bad (err:=stopErr) HX.out (show stopErr (l.take k) x=2 by unfold stopErr;rw[if_neg HP1.out,if_neg HQ1.out,if_pos (by unfold outside;simp;omega)]) (by decide);exact⟨ret_r HE HC.out,B2.out⟩
       |have HG:=chk_good (err:=stopErr) HX.out (show stopErr (l.take k) x=0 by unfold stopErr;rw[if_neg HP1.out,if_neg HQ1.out,if_neg (by unfold outside;simp;omega)])
        exact⟨⟨k+1,_,⟨by omega,by go_num⟩,⟨by rw[ids_take (·.id) HX.out];exact HSS.out.1.snoc x.id,HA2.out⟩,HG.symm.trans HC.out,B2.out.grown HA3.out (by omega) (fun k hk=>by cases hk;omega)⟩,by simp[intOf];omega⟩
   ·
    have HE:=Lib.hid (chk_end (err:=stopErr) (show l.length≤k by omega));go_wp2;go_ret2;exact⟨ret_r HE.out HC.out,hbl⟩
end Go.Proofs.YtakedkcjplfgeaaGreatDoor
namespace Go.Proofs.YtakedkcjplfgeaaGreatDoor
open Go.RowKit
open Frq Thr Tt
theorem known_c (m:Int) (w:World):Calls Tryz.prog 120 #[.int .i64 m] w fun e w'=>e= .returned (.bool (!outside m 0 7))∧w=w':=by
 have h:(m<0∧outside m 0 7=true)∨(0≤m∧m<8∧outside m 0 7=false)∨(0≤m∧8≤m∧outside m 0 7=true):=by
  unfold outside;by_cases h0:m<0
  · exact .inl ⟨h0,by simp[h0]⟩
  ·
   by_cases h1:m<8
   · exact .inr (.inl ⟨by omega,h1,by simp;omega⟩)
   · exact .inr (.inr ⟨by omega,by omega,by simp;omega⟩)
 rcases h with⟨h1,h⟩|⟨h1,h2,h⟩|⟨h1,h2,h⟩
 all_goals
  rw[h];clear h;go_enter Tryz.func120,Tryz.ntmps120
  go_wp2;go_ret;exact⟨ret_bool (by first|rfl|(simp;omega)),rfl⟩
theorem day_valid (d:Int):Da.dvalid d=dayB d:=by
 unfold Da.dvalid dayB;rcases Int.lt_or_le d 0 with h|h
 ·
  first
  |(simp;omega)
  |simp
 · simp
theorem routes_c (vl:Value) (l:List RouteD) (r:Int×Int) (H:Hid (checkS 64 routeErr l=r)) (hs:Hid (∀ x∈l,x.id.length≤9223372036854775807)) (B:Nat) (w:World) (hl:SlIn routeCells 3 B w vl l) (hB:B≤w.heap.size):
  Calls Tryz.prog 45 #[vl] w fun e w'=>e= .returned (.tuple #[.int .i64 r.1, .int .i64 r.2])∧Bl w w':=by
 obtain⟨al,capl,rfl,ll1,ll2⟩:=hl.val;have HL:=Lib.hid hl;clear hl;by_cases hmany:64<l.length
 ·
  have HR:=Lib.hid (checkS_many (err:=routeErr) hmany);go_enter Tryz.func45,Tryz.ntmps45
  go_wp2;go_ret2;exact⟨ret_r HR.out H.out,bl_refl _⟩
 ·
  have hfew:l.length≤64:=by omega
  have HR:Hid (chk routeErr (l.take 0) (l.drop 0)=r):=(checkS_few hfew).symm.trans H.out;have hmm:= @run_makeMap Tryz.prog;obtain⟨w1,hw1⟩: ∃ w1,w.alloc (.map #[] 0)=w1:=⟨_,rfl⟩;have HS1:Hid (StrSet w1 w.heap.size 0 (fun _=>false)):=by rw[←hw1];exact ownsSet_made w Tryz.prog 9 4
  have B1:Hid (Bl w w1):=by rw[←hw1];exact bl_alloc (bl_refl _) _
  clear hmany;go_enter Tryz.func45,Tryz.ntmps45
  go_wp2_with fail;clear hw1 hmm;go_loopw [13] (fun i wr=> ∃ (k:Nat) (S:Lit→Bool),(k≤l.length∧i= .int .i64 k)∧Hid (WordSet ((l.take k).map (·.id)) S∧StrSet wr w.heap.size k S)∧Hid (chk routeErr (l.take k) (l.drop k)=r)∧Bl w wr) (fun i _=>l.length-(intOf i).toNat)
  case atStart=>exact⟨0,_,⟨Nat.zero_le _,rfl⟩,⟨wordSet_nil,HS1.out⟩,HR,B1.out⟩
  case round=>
   obtain⟨k,S,⟨hk,rfl⟩,HSS,HC,hbl⟩:=hrel;have z1:=hbl.size;by_cases hlt:k<l.length
   ·
    obtain⟨bl',ol,x,rfl,hbs,hx,hc⟩:=HL.out.get hlt hbl hB;have d0:wr.cell? ⟨bl',ol+k*3,none⟩=some (str x.id):=hc 0 _ rfl;have d1:wr.cell? ⟨bl',ol+k*3+1,none⟩=some (.int .i64 x.mode):=hc 1 _ rfl;have d2:wr.cell? ⟨bl',ol+k*3+2,none⟩=some (.bool x.bikes):=hc 2 _ rfl;have hkI:(k:Int)<(l.length:Int):=by omega
    have HX:=Lib.hid hx;have hsz:=hs.out x (List.mem_of_getElem? hx);clear hx hc;obtain⟨p,hp⟩: ∃ p,nameB x.id=p:=⟨_,rfl⟩;obtain⟨q,hq⟩: ∃ q,S (.string x.id)=q:=⟨_,rfl⟩;have HP:=Lib.hid hp;have HQ:Hid (((l.take k).any fun y=>y.id==x.id)=q):=by show _=_;rw[words_any (l.take k) (·.id) HSS.out.1,hq]
    obtain⟨w2,hw2⟩: ∃ w2,wr.alloc (.cells #[str x.id, .int .i64 x.mode, .bool x.bikes] 122)=w2:=⟨_,rfl⟩;have b2:Bl wr w2:=by rw[←hw2];exact bl_alloc (bl_refl _) _
    have t0:w2.cell? ⟨wr.heap.size,0,none⟩=some (str x.id):=by rw[←hw2,World.cell?_alloc_at (hn:=rfl)];rfl
    have t1:w2.cell? ⟨wr.heap.size,1,none⟩=some (.int .i64 x.mode):=by rw[←hw2,World.cell?_alloc_at (hn:=rfl)];rfl
    have t2:w2.cell? ⟨wr.heap.size,2,none⟩=some (.bool x.bikes):=by rw[←hw2,World.cell?_alloc_at (hn:=rfl)];rfl
    have s2:w2.heap.size=wr.heap.size+1:=by rw[←hw2];simp
    have B2:Hid (Bl w w2):=bl_next hbl b2;have hset:=HSS.out.2.bl b2;have hlook:=hset.look str_law Tryz.underlying166 Tryz.underlying4 (zero_bool w2) (key_str hsz);rw[hq]at hlook;obtain⟨wa,ha1,ha2,ha3⟩:=hset.put str_law Tryz.underlying166 Tryz.underlying4 (by unfold maxLen;omega) (key_str hsz);have HA2:=Lib.hid ha2;have HA3:=Lib.hid ha3;clear hp hq b2 hset ha2 ha3;have hid:=fun w=>Ms.ident_c ⟨x.id.toArray⟩ (by show x.id.toArray.size≤_;rw[List.size_toArray];unfold maxLen;omega) p HP w
    obtain⟨o,ho⟩: ∃ o,outside x.mode 0 7=o:=⟨_,rfl⟩;have HO:=Lib.hid ho;clear ho;cases p with
    |false=>
     have HE:=Lib.hid (chk_bad (err:=routeErr) HX.out (show routeErr (l.take k) x=12 by unfold routeErr;rw[if_pos HP.out]) (by decide));go_wp2_with (go_at_call 119;refine(hid _).mono ?_;rintro e w3 ⟨rfl,rfl⟩)
     go_ret2;exact⟨ret_r HE.out HC.out,B2.out⟩
    |true=>
     have HP1:=Lib.hid (show ¬ nameB x.id=false by rw[HP.out];decide);cases q with
     |true=>
      have HE:=Lib.hid (chk_bad (err:=routeErr) HX.out (show routeErr (l.take k) x=6 by unfold routeErr;rw[if_neg HP1.out,if_pos HQ.out]) (by decide));go_wp2_with (go_at_call 119;refine(hid _).mono ?_;rintro e w3 ⟨rfl,rfl⟩)
      go_ret2;exact⟨ret_r HE.out HC.out,B2.out⟩
     |false=>
      have HQ1:=Lib.hid (show ¬ ((l.take k).any fun y=>y.id==x.id)=true by rw[HQ.out];decide);go_wp2_with (first
       |(go_at_call 119;refine(hid _).mono ?_;rintro e w3 ⟨rfl,rfl⟩)
       |(go_at_call 120;refine(known_c x.mode _).mono ?_;rintro e w3 ⟨rfl,rfl⟩;rw[HO.out];cases o))
      all_goals first
       |
        go_ret2;have HE:=chk_bad (err:=routeErr) HX.out (show routeErr (l.take k) x=2 by unfold routeErr;rw[if_neg HP1.out,if_neg HQ1.out,if_pos (HO.out)]) (by decide);exact⟨ret_r HE HC.out,B2.out⟩
       |have HG:=chk_good (err:=routeErr) HX.out (show routeErr (l.take k) x=0 by unfold routeErr;rw[if_neg HP1.out,if_neg HQ1.out,if_neg (by rw[HO.out];decide)])
        exact⟨⟨k+1,_,⟨by omega,by go_num⟩,⟨by rw[ids_take (·.id) HX.out];exact HSS.out.1.snoc x.id,HA2.out⟩,HG.symm.trans HC.out,B2.out.grown HA3.out (by omega) (fun k hk=>by cases hk;omega)⟩,by simp[intOf];omega⟩
   ·
    have HE:=Lib.hid (chk_end (err:=routeErr) (show l.length≤k by omega));go_wp2;go_ret2;exact⟨ret_r HE.out HC.out,hbl⟩
theorem cals_c (vl:Value) (l:List CalD) (r:Int×Int) (H:Hid (checkS 64 calErr l=r)) (hs:Hid (∀ x∈l,x.id.length≤9223372036854775807)) (B:Nat) (w:World) (hl:SlIn calCells 10 B w vl l) (hB:B≤w.heap.size):
  Calls Tryz.prog 47 #[vl] w fun e w'=>e= .returned (.tuple #[.int .i64 r.1, .int .i64 r.2])∧Bl w w':=by
 obtain⟨al,capl,rfl,ll1,ll2⟩:=hl.val;have HL:=Lib.hid hl;clear hl;by_cases hmany:64<l.length
 ·
  have HR:=Lib.hid (checkS_many (err:=calErr) hmany);go_enter Tryz.func47,Tryz.ntmps47
  go_wp2;go_ret2;exact⟨ret_r HR.out H.out,bl_refl _⟩
 ·
  have hfew:l.length≤64:=by omega
  have HR:Hid (chk calErr (l.take 0) (l.drop 0)=r):=(checkS_few hfew).symm.trans H.out;have hmm:= @run_makeMap Tryz.prog;obtain⟨w1,hw1⟩: ∃ w1,w.alloc (.map #[] 0)=w1:=⟨_,rfl⟩;have HS1:Hid (StrSet w1 w.heap.size 0 (fun _=>false)):=by rw[←hw1];exact ownsSet_made w Tryz.prog 9 4
  have B1:Hid (Bl w w1):=by rw[←hw1];exact bl_alloc (bl_refl _) _
  clear hmany;go_enter Tryz.func47,Tryz.ntmps47
  go_wp2_with fail;clear hw1 hmm;go_loopw [13] (fun i wr=> ∃ (k:Nat) (S:Lit→Bool),(k≤l.length∧i= .int .i64 k)∧Hid (WordSet ((l.take k).map (·.id)) S∧StrSet wr w.heap.size k S)∧Hid (chk calErr (l.take k) (l.drop k)=r)∧Bl w wr) (fun i _=>l.length-(intOf i).toNat)
  case atStart=>exact⟨0,_,⟨Nat.zero_le _,rfl⟩,⟨wordSet_nil,HS1.out⟩,HR,B1.out⟩
  case round=>
   obtain⟨k,S,⟨hk,rfl⟩,HSS,HC,hbl⟩:=hrel;have z1:=hbl.size;by_cases hlt:k<l.length
   ·
    obtain⟨bl',ol,x,rfl,hbs,hx,hc⟩:=HL.out.get hlt hbl hB;have d0:wr.cell? ⟨bl',ol+k*10,none⟩=some (str x.id):=hc 0 _ rfl;have d1:wr.cell? ⟨bl',ol+k*10+1,none⟩=some (.bool x.week.d0):=hc 1 _ rfl;have d2:wr.cell? ⟨bl',ol+k*10+2,none⟩=some (.bool x.week.d1):=hc 2 _ rfl;have d3:wr.cell? ⟨bl',ol+k*10+3,none⟩=some (.bool x.week.d2):=hc 3 _ rfl;have d4:wr.cell? ⟨bl',ol+k*10+4,none⟩=some (.bool x.week.d3):=hc 4 _ rfl;have d5:wr.cell? ⟨bl',ol+k*10+5,none⟩=some (.bool x.week.d4):=hc 5 _ rfl;have d6:wr.cell? ⟨bl',ol+k*10+6,none⟩=some (.bool x.week.d5):=hc 6 _ rfl;have d7:wr.cell? ⟨bl',ol+k*10+7,none⟩=some (.bool x.week.d6):=hc 7 _ rfl;have d8:wr.cell? ⟨bl',ol+k*10+8,none⟩=some (.int .i64 x.frm):=hc 8 _ rfl;have d9:wr.cell? ⟨bl',ol+k*10+9,none⟩=some (.int .i64 x.to):=hc 9 _ rfl;have hkI:(k:Int)<(l.length:Int):=by omega
    have HX:=Lib.hid hx;have hsz:=hs.out x (List.mem_of_getElem? hx);clear hx hc;obtain⟨p,hp⟩: ∃ p,nameB x.id=p:=⟨_,rfl⟩;obtain⟨q,hq⟩: ∃ q,S (.string x.id)=q:=⟨_,rfl⟩;have HP:=Lib.hid hp;have HQ:Hid (((l.take k).any fun y=>y.id==x.id)=q):=by show _=_;rw[words_any (l.take k) (·.id) HSS.out.1,hq]
    obtain⟨w2,hw2⟩: ∃ w2,wr.alloc (.cells #[str x.id, .bool x.week.d0, .bool x.week.d1, .bool x.week.d2, .bool x.week.d3, .bool x.week.d4, .bool x.week.d5, .bool x.week.d6, .int .i64 x.frm, .int .i64 x.to] 61)=w2:=⟨_,rfl⟩;have b2:Bl wr w2:=by rw[←hw2];exact bl_alloc (bl_refl _) _
    have t0:w2.cell? ⟨wr.heap.size,0,none⟩=some (str x.id):=by rw[←hw2,World.cell?_alloc_at (hn:=rfl)];rfl
    have t1:w2.cell? ⟨wr.heap.size,1,none⟩=some (.bool x.week.d0):=by rw[←hw2,World.cell?_alloc_at (hn:=rfl)];rfl
    have t2:w2.cell? ⟨wr.heap.size,2,none⟩=some (.bool x.week.d1):=by rw[←hw2,World.cell?_alloc_at (hn:=rfl)];rfl
    have t3:w2.cell? ⟨wr.heap.size,3,none⟩=some (.bool x.week.d2):=by rw[←hw2,World.cell?_alloc_at (hn:=rfl)];rfl
    have t4:w2.cell? ⟨wr.heap.size,4,none⟩=some (.bool x.week.d3):=by rw[←hw2,World.cell?_alloc_at (hn:=rfl)];rfl
    have t5:w2.cell? ⟨wr.heap.size,5,none⟩=some (.bool x.week.d4):=by rw[←hw2,World.cell?_alloc_at (hn:=rfl)];rfl
    have t6:w2.cell? ⟨wr.heap.size,6,none⟩=some (.bool x.week.d5):=by rw[←hw2,World.cell?_alloc_at (hn:=rfl)];rfl
    have t7:w2.cell? ⟨wr.heap.size,7,none⟩=some (.bool x.week.d6):=by rw[←hw2,World.cell?_alloc_at (hn:=rfl)];rfl
    have t8:w2.cell? ⟨wr.heap.size,8,none⟩=some (.int .i64 x.frm):=by rw[←hw2,World.cell?_alloc_at (hn:=rfl)];rfl
    have t9:w2.cell? ⟨wr.heap.size,9,none⟩=some (.int .i64 x.to):=by rw[←hw2,World.cell?_alloc_at (hn:=rfl)];rfl
    have s2:w2.heap.size=wr.heap.size+1:=by rw[←hw2];simp
    have B2:Hid (Bl w w2):=bl_next hbl b2;have hset:=HSS.out.2.bl b2;have hlook:=hset.look str_law Tryz.underlying166 Tryz.underlying4 (zero_bool w2) (key_str hsz);rw[hq]at hlook;obtain⟨wa,ha1,ha2,ha3⟩:=hset.put str_law Tryz.underlying166 Tryz.underlying4 (by unfold maxLen;omega) (key_str hsz);have HA2:=Lib.hid ha2;have HA3:=Lib.hid ha3;clear hp hq b2 hset ha2 ha3;have hid:=fun w=>Ms.ident_c ⟨x.id.toArray⟩ (by show x.id.toArray.size≤_;rw[List.size_toArray];unfold maxLen;omega) p HP w
    obtain⟨o1,ho1⟩: ∃ o,dayB x.frm=o:=⟨_,rfl⟩;obtain⟨o2,ho2⟩: ∃ o,dayB x.to=o:=⟨_,rfl⟩;have HO1:=Lib.hid ho1;have HO2:=Lib.hid ho2;have hd1:=fun w=>Da.dValid_b x.frm o1 (by show _=_;rw[day_valid,HO1.out]) w
    have hd2:=fun w=>Da.dValid_b x.to o2 (by show _=_;rw[day_valid,HO2.out]) w
    clear ho1 ho2;cases p with
    |false=>
     have HE:=Lib.hid (chk_bad (err:=calErr) HX.out (show calErr (l.take k) x=12 by unfold calErr;rw[if_pos HP.out]) (by decide));go_wp2_with (go_at_call 119;refine(hid _).mono ?_;rintro e w3 ⟨rfl,rfl⟩)
     go_ret2;exact⟨ret_r HE.out HC.out,B2.out⟩
    |true=>
     have HP1:=Lib.hid (show ¬ nameB x.id=false by rw[HP.out];decide);cases q with
     |true=>
      have HE:=Lib.hid (chk_bad (err:=calErr) HX.out (show calErr (l.take k) x=6 by unfold calErr;rw[if_neg HP1.out,if_pos HQ.out]) (by decide));go_wp2_with (go_at_call 119;refine(hid _).mono ?_;rintro e w3 ⟨rfl,rfl⟩)
      go_ret2;exact⟨ret_r HE.out HC.out,B2.out⟩
     |false=>
      have HQ1:=Lib.hid (show ¬ ((l.take k).any fun y=>y.id==x.id)=true by rw[HQ.out];decide);go_wp2_with (first
       |(go_at_call 119;refine(hid _).mono ?_;rintro e w3 ⟨rfl,rfl⟩)
       |(go_at_call 121;refine(hd1 _).mono ?_;rintro e w3 ⟨rfl,rfl⟩;cases o1)
       |(go_at_call 121;refine(hd2 _).mono ?_;rintro e w3 ⟨rfl,rfl⟩;cases o2))
      all_goals first
       |
        go_ret2;have HE:=chk_bad (err:=calErr) HX.out (show calErr (l.take k) x=11 by unfold calErr;rw[if_neg HP1.out,if_neg HQ1.out,if_pos (by rw[HO1.out];first|rfl|(rw[HO2.out];first|rfl|(simp;omega)))]) (by decide);exact⟨ret_r HE HC.out,B2.out⟩
       |have HG:=chk_good (err:=calErr) HX.out (show calErr (l.take k) x=0 by unfold calErr;rw[if_neg HP1.out,if_neg HQ1.out,if_neg (by rw[HO1.out,HO2.out];simp;omega)])
        exact⟨⟨k+1,_,⟨by omega,by go_num⟩,⟨by rw[ids_take (·.id) HX.out];exact HSS.out.1.snoc x.id,HA2.out⟩,HG.symm.trans HC.out,B2.out.grown HA3.out (by omega) (fun k hk=>by cases hk;omega)⟩,by simp[intOf];omega⟩
   ·
    have HE:=Lib.hid (chk_end (err:=calErr) (show l.length≤k by omega));go_wp2;go_ret2;exact⟨ret_r HE.out HC.out,hbl⟩
end Go.Proofs.YtakedkcjplfgeaaGreatDoor
namespace Go.Proofs.YtakedkcjplfgeaaGreatDoor
open Go.RowKit
open Frq Thr Tt
theorem trips_c (vl:Value) (ts:List TripD) (stops routes cals:Int) (l:List TripX) (hts:l=ts.map xOf) (r:Int×Int) (H:Hid (checkS 256 (tripErr stops routes cals) l=r)) (hs:Hid (∀ x∈l,x.id.length≤9223372036854775807)) (B:Nat) (w:World) (hl:TripsRd B w vl ts) (hB:B≤w.heap.size):
  Calls Tryz.prog 51 #[vl, .int .i64 stops, .int .i64 routes, .int .i64 cals] w fun e w'=>e= .returned (.tuple #[.int .i64 r.1, .int .i64 r.2])∧Bl w w':=by
 obtain⟨al,capl,rfl,ll1,ll2⟩:=hl.sl.val;have hlen:l.length=ts.length:=by rw[hts,List.length_map]
 have HL:=Lib.hid hl;have HTS:=Lib.hid hts;clear hl hts;by_cases hmany:256<ts.length
 ·
  have HR:=Lib.hid (checkS_many (err:=tripErr stops routes cals) (l:=l) (most:=256) (by omega));go_enter Tryz.func51,Tryz.ntmps51
  go_wp2;go_ret2;exact⟨ret_r HR.out H.out,bl_refl _⟩
 ·
  have hfew:ts.length≤256:=by omega
  have HR:Hid (chk (tripErr stops routes cals) (l.take 0) (l.drop 0)=r):=(checkS_few (by omega)).symm.trans H.out;have hmm:= @run_makeMap Tryz.prog;obtain⟨w1,hw1⟩: ∃ w1,w.alloc (.map #[] 0)=w1:=⟨_,rfl⟩;have HS1:Hid (StrSet w1 w.heap.size 0 (fun _=>false)):=by rw[←hw1];exact ownsSet_made w Tryz.prog 9 4
  have B1:Hid (Bl w w1):=by rw[←hw1];exact bl_alloc (bl_refl _) _
  clear hmany;go_enter Tryz.func51,Tryz.ntmps51
  go_wp2_with fail;clear hw1 hmm;go_loopw [21] (fun i wr=> ∃ (k:Nat) (S:Lit→Bool),(k≤ts.length∧i= .int .i64 k)∧Hid (WordSet ((l.take k).map (·.id)) S∧StrSet wr w.heap.size k S)∧Hid (chk (tripErr stops routes cals) (l.take k) (l.drop k)=r)∧Bl w wr) (fun i _=>ts.length-(intOf i).toNat)
  case atStart=>exact⟨0,_,⟨Nat.zero_le _,rfl⟩,⟨wordSet_nil,HS1.out⟩,HR,B1.out⟩
  case round=>
   obtain⟨k,S,⟨hk,rfl⟩,HSS,HC,hbl⟩:=hrel;have z1:=hbl.size;by_cases hlt:k<ts.length
   ·
    obtain⟨bl',ol,x,rfl,hbs,hx,hc⟩:=HL.out.sl.get hlt hbl hB;obtain⟨ax,cx,hvx,-,-⟩:=(HL.out.ok x (List.mem_of_getElem? hx)).calls.val;obtain⟨xi,hxi⟩: ∃ xi,x.id.data.toList=xi:=⟨_,rfl⟩;have hse:Value.string x.id=str xi:=by rw[←hxi]
    have d0:wr.cell? ⟨bl',ol+k*5,none⟩=some (str xi):=by rw[←hse];exact hc 0 _ rfl
    have d1:wr.cell? ⟨bl',ol+k*5+1,none⟩=some (.int .i64 x.rt):=hc 1 _ rfl;have d2:wr.cell? ⟨bl',ol+k*5+2,none⟩=some (.int .i64 x.cal):=hc 2 _ rfl;have d3:wr.cell? ⟨bl',ol+k*5+3,none⟩=some (.bool x.step):=hc 3 _ rfl;have d4:wr.cell? ⟨bl',ol+k*5+4,none⟩=some (.slice ax x.calls.length cx):=by rw[←hvx];exact hc 4 _ rfl
    have hkI:(k:Int)<(ts.length:Int):=by omega
    have HX:Hid (l[k]? =some (xOf x)):=by show _=_;rw[HTS.out,List.getElem?_map,hx];rfl
    have HXI:=Lib.hid hxi;have hsz:xi.length≤9223372036854775807:=by have:=hs.out (xOf x) (List.mem_of_getElem? HX.out);rw[←hxi];exact this
    have HCI:=Lib.hid (show CallsIn B w (.slice ax x.calls.length cx) x.calls by rw[←hvx];exact(HL.out.ok x (List.mem_of_getElem? hx)).calls);clear hx hc hse hvx hxi;obtain⟨p,hp⟩: ∃ p,nameB xi=p:=⟨_,rfl⟩;obtain⟨q,hq⟩: ∃ q,S (.string xi)=q:=⟨_,rfl⟩;obtain⟨e9,h9⟩: ∃ e,callsErr stops 0 172800 x.calls=e:=⟨_,rfl⟩;have H9:=Lib.hid h9;have HP:=Lib.hid hp;have HQ:Hid (((l.take k).any fun y=>y.id==(xOf x).id)=q):=by show _=_;rw[show(xOf x).id=xi from HXI.out,words_any (l.take k) (·.id) HSS.out.1,hq]
    obtain⟨w2,hw2⟩: ∃ w2,wr.alloc (.cells #[str xi, .int .i64 x.rt, .int .i64 x.cal, .bool x.step, .slice ax x.calls.length cx] 56)=w2:=⟨_,rfl⟩;have b2:Bl wr w2:=by rw[←hw2];exact bl_alloc (bl_refl _) _
    have t0:w2.cell? ⟨wr.heap.size,0,none⟩=some (str xi):=by rw[←hw2,World.cell?_alloc_at (hn:=rfl)];rfl
    have t1:w2.cell? ⟨wr.heap.size,1,none⟩=some (.int .i64 x.rt):=by rw[←hw2,World.cell?_alloc_at (hn:=rfl)];rfl
    have t2:w2.cell? ⟨wr.heap.size,2,none⟩=some (.int .i64 x.cal):=by rw[←hw2,World.cell?_alloc_at (hn:=rfl)];rfl
    have t4:w2.cell? ⟨wr.heap.size,4,none⟩=some (.slice ax x.calls.length cx):=by rw[←hw2,World.cell?_alloc_at (hn:=rfl)];rfl
    have s2:w2.heap.size=wr.heap.size+1:=by rw[←hw2];simp
    have B2:Hid (Bl w w2):=bl_next hbl b2;have BR2:=Lib.hid b2;have hset:=HSS.out.2.bl b2;have hlook:=hset.look str_law Tryz.underlying166 Tryz.underlying4 (zero_bool w2) (key_str hsz);rw[hq]at hlook;clear hp hq b2 hset h9;have hid:=fun w=>Ms.ident_c ⟨xi.toArray⟩ (by show xi.toArray.size≤_;rw[List.size_toArray];unfold maxLen;omega) p HP w
    cases p with
    |false=>
     have HE:=Lib.hid (chk_bad (err:=tripErr stops routes cals) HX.out (show tripErr stops routes cals (l.take k) (xOf x)=12 by unfold tripErr;rw[show(xOf x).id=xi from HXI.out,if_pos HP.out]) (by decide));go_wp2_with (go_at_call 119;refine(hid _).mono ?_;rintro e w3 ⟨rfl,rfl⟩)
     go_ret2;exact⟨ret_r HE.out HC.out,B2.out⟩
    |true=>
     have HP1:=Lib.hid (show ¬ nameB (xOf x).id=false by rw[show(xOf x).id=xi from HXI.out,HP.out];decide);cases q with
     |true=>
      have HE:=Lib.hid (chk_bad (err:=tripErr stops routes cals) HX.out (show tripErr stops routes cals (l.take k) (xOf x)=6 by unfold tripErr;rw[if_neg HP1.out,if_pos HQ.out]) (by decide));go_wp2_with (go_at_call 119;refine(hid _).mono ?_;rintro e w3 ⟨rfl,rfl⟩)
      go_ret2;exact⟨ret_r HE.out HC.out,B2.out⟩
     |false=>
      have HQ1:=Lib.hid (show ¬ ((l.take k).any fun y=>y.id==(xOf x).id)=true by rw[HQ.out];decide);by_cases hout:(x.rt<0∨routes≤x.rt)∨(x.cal<0∨cals≤x.cal)
      ·
       have HE:=Lib.hid (chk_bad (err:=tripErr stops routes cals) HX.out (show tripErr stops routes cals (l.take k) (xOf x)=9 by unfold tripErr;rw[if_neg HP1.out,if_neg HQ1.out,if_pos (by show(outside x.rt 0 (routes-1)||outside x.cal 0 (cals-1))=true;unfold outside;simp;omega)]) (by decide));go_wp2_with (go_at_call 119;refine(hid _).mono ?_;rintro e w3 ⟨rfl,rfl⟩)
       all_goals first
        |(exfalso;omega)
        |(go_ret2;exact⟨ret_r HE.out HC.out,B2.out⟩)
      ·
       have HO1:=Lib.hid (show ¬ (outside x.rt 0 (routes-1)||outside x.cal 0 (cals-1))=true by unfold outside;simp;omega);have n1:0≤x.rt:=by omega
       have n2:x.rt<routes:=by omega
       have n3:0≤x.cal:=by omega
       have n4:x.cal<cals:=by omega
       have hcc:=Ms.calls_c (.slice ax x.calls.length cx) x.calls stops 0 172800 e9 H9 B w2 (HCI.out.out B2.out hB) (by omega);go_wp2_with (first
        |(go_at_call 119;refine(hid _).mono ?_;rintro e w3 ⟨rfl,rfl⟩)
        |(go_at_call 122;refine hcc.mono ?_;rintro e w4 ⟨⟨i4,rfl⟩,b4⟩;have t0':w4.cell? ⟨wr.heap.size,0,none⟩=some (str xi):=((bl_cell b4).1 _ _ (by omega)).trans t0;obtain⟨wa,ha1,ha2,ha3⟩:=(HSS.out.2.bl (bl_next BR2.out b4)).put str_law Tryz.underlying166 Tryz.underlying4 (by unfold maxLen;omega) (key_str hsz);have HA2:=Lib.hid ha2;have HA3:=Lib.hid ha3;have B4:=Lib.hid b4;clear ha2 ha3 b4;rcases Int.lt_trichotomy e9 0 with h0|h0|h0))
       all_goals
        have HTE:tripErr stops routes cals (l.take k) (xOf x)=e9:=by unfold tripErr;rw[if_neg HP1.out,if_neg HQ1.out,if_neg (show ¬ (outside (xOf x).route 0 (routes-1)||outside (xOf x).cal 0 (cals-1))=true from HO1.out)];exact H9.out
        have hb4:=B4.out.size;first
         |
          go_ret2;have HE:=chk_bad (err:=tripErr stops routes cals) HX.out HTE (by omega);exact⟨ret_r HE HC.out,bl_next B2.out B4.out⟩
         |have HG:=chk_good (err:=tripErr stops routes cals) HX.out (HTE.trans h0)
          exact⟨⟨k+1,_,⟨by omega,by go_num⟩,⟨by rw[ids_take (·.id) HX.out,show(xOf x).id=xi from HXI.out];exact HSS.out.1.snoc xi,HA2.out⟩,HG.symm.trans HC.out,(bl_next B2.out B4.out).grown HA3.out (by omega) (fun k hk=>by cases hk;omega)⟩,by simp[intOf];omega⟩
   ·
    have HE:=Lib.hid (chk_end (err:=tripErr stops routes cals) (show l.length≤k by omega));go_wp2;go_ret2;exact⟨ret_r HE.out HC.out,hbl⟩
end Go.Proofs.YtakedkcjplfgeaaGreatDoor
namespace Go.Proofs.YtakedkcjplfgeaaGreatDoor
open Go.RowKit Go.Maps
open Go.Maps (Keyed)
open Frq Thr Tt
theorem laidOut:laidOutB Tryz.prog=true:=by kernel_rfl
theorem int_cells:Tryz.prog.cellsOf 3=1:=by kernel_rfl
theorem bool_cells:Tryz.prog.cellsOf 4=1:=by kernel_rfl
theorem types_pos: ∃ n,Tryz.prog.types.size=n+1:=by
 have h:0<Tryz.prog.types.size:=by decide+kernel
 exact⟨Tryz.prog.types.size-1,by omega⟩
theorem exck_law:Keyed Tryz.prog 169:=Keyed.of_law (deep_law_laid laidOut (m:=5) (by omega) (by decide+kernel) (by kernel_rfl) (by kernel_rfl))
def exckV (x:Int×Int):Value:= .agg #[.int .i64 x.1, .int .i64 x.2]
def exckOk (x:Int×Int):Prop:=isInt x.1∧isInt x.2
theorem exck_type:Tryz.prog.keyType 169=true:=by kernel_rfl
theorem exck_cells:Tryz.prog.cellsOf 169=2:=by kernel_rfl
theorem exck_key {x:Int×Int} (h:exckOk x): ∃ kl,keyOf Tryz.prog 169 (exckV x)=some kl:=by
 obtain⟨n,hn⟩:=types_pos;have w0:=wf_int h.1;have w1:=wf_int h.2;unfold keyOf exckV;rw[Tryz.underlying169];simp only[exck_type,Value.formed,Tryz.underlying169,exck_cells,hn];simp[Program.keyLits,Tryz.underlying169,Tryz.underlying3,show List.range 2=[0,1] from rfl,exck_cells,int_cells,w0,w1,Value.cells]
def exckFn (gk:Int×Int→Lit):Prop:= ∀ x,exckOk x→keyOf Tryz.prog 169 (exckV x)=some (gk x)
theorem exckFn_ex: ∃ gk,exckFn gk:=by
 have h: ∀ x:Int×Int,∃ kl,exckOk x→keyOf Tryz.prog 169 (exckV x)=some kl:=fun x=>by
  by_cases hx:exckOk x
  ·
   obtain⟨kl,hk⟩:=exck_key hx;exact⟨kl,fun _=>hk⟩
  · exact⟨.bool false,fun h=>absurd h hx⟩
 exact⟨fun x=>Classical.choose (h x),fun x hx=>Classical.choose_spec (h x) hx⟩
theorem exckFn_inj {gk:Int×Int→Lit} (K:exckFn gk) {x y:Int×Int} (hx:exckOk x) (hy:exckOk y) (h:gk x=gk y):x=y:=by
 have:=exck_law.inj (K x hx) (h ▸ K y hy);cases x
 cases y
 simpa[exckV,Prod.ext_iff]using this
def exckSet (gk:Int×Int→Lit) (l:List (Int×Int)) (S:Lit→Bool):Prop:= ∀ x:Int×Int,exckOk x→S (gk x)=l.any fun y=>y==x
theorem exckSet_snoc {gk:Int×Int→Lit} (K:exckFn gk) {l:List (Int×Int)} {S:Lit→Bool} {x:Int×Int} (h:exckSet gk l S) (hk:exckOk x):exckSet gk (l++[x]) (setPut S (gk x)):=fun y hy=>by
 by_cases e:y=x
 · rw[e,setPut_at _ (exck_law.key (K x hk))];simp
 · rw[setPut_ne (fun e'=>e (exckFn_inj K hy hk e')),h y hy,List.any_append,List.any_cons,List.any_nil,Bool.or_false,show(x==y)=false by rw[beq_eq_false_iff_ne];exact fun e'=>e e'.symm,Bool.or_false]
abbrev exckM (w:World) (b n:Nat) (S:Lit→Bool):Prop:=OwnsSet w Tryz.prog 169 4 b n S
theorem pathk_law:Keyed Tryz.prog 221:=Keyed.of_law (deep_law_laid laidOut (m:=5) (by omega) (by decide+kernel) (by kernel_rfl) (by kernel_rfl))
def pathkV (x:Int×Int×Bool):Value:= .agg #[.int .i64 x.1, .int .i64 x.2.1, .bool x.2.2]
def pathkOk (x:Int×Int×Bool):Prop:=isInt x.1∧isInt x.2.1
theorem pathk_type:Tryz.prog.keyType 221=true:=by kernel_rfl
theorem pathk_cells:Tryz.prog.cellsOf 221=3:=by kernel_rfl
theorem pathk_key {x:Int×Int×Bool} (h:pathkOk x): ∃ kl,keyOf Tryz.prog 221 (pathkV x)=some kl:=by
 obtain⟨n,hn⟩:=types_pos;have w0:=wf_int h.1;have w1:=wf_int h.2;unfold keyOf pathkV;rw[Tryz.underlying221];simp only[pathk_type,Value.formed,Tryz.underlying221,pathk_cells,hn];simp[Program.keyLits,Tryz.underlying221,Tryz.underlying3,Tryz.underlying4,bool_cells,pathk_cells,int_cells,w0,w1,Value.cells]
def pathkFn (gk:Int×Int×Bool→Lit):Prop:= ∀ x,pathkOk x→keyOf Tryz.prog 221 (pathkV x)=some (gk x)
theorem pathkFn_ex: ∃ gk,pathkFn gk:=by
 have h: ∀ x:Int×Int×Bool,∃ kl,pathkOk x→keyOf Tryz.prog 221 (pathkV x)=some kl:=fun x=>by
  by_cases hx:pathkOk x
  ·
   obtain⟨kl,hk⟩:=pathk_key hx;exact⟨kl,fun _=>hk⟩
  · exact⟨.bool false,fun h=>absurd h hx⟩
 exact⟨fun x=>Classical.choose (h x),fun x hx=>Classical.choose_spec (h x) hx⟩
theorem pathkFn_inj {gk:Int×Int×Bool→Lit} (K:pathkFn gk) {x y:Int×Int×Bool} (hx:pathkOk x) (hy:pathkOk y) (h:gk x=gk y):x=y:=by
 have:=pathk_law.inj (K x hx) (h ▸ K y hy);cases x
 cases y
 simpa[pathkV,Prod.ext_iff]using this
def pathkSet (gk:Int×Int×Bool→Lit) (l:List (Int×Int×Bool)) (S:Lit→Bool):Prop:= ∀ x:Int×Int×Bool,pathkOk x→S (gk x)=l.any fun y=>y==x
theorem pathkSet_snoc {gk:Int×Int×Bool→Lit} (K:pathkFn gk) {l:List (Int×Int×Bool)} {S:Lit→Bool} {x:Int×Int×Bool} (h:pathkSet gk l S) (hk:pathkOk x):pathkSet gk (l++[x]) (setPut S (gk x)):=fun y hy=>by
 by_cases e:y=x
 · rw[e,setPut_at _ (pathk_law.key (K x hk))];simp
 · rw[setPut_ne (fun e'=>e (pathkFn_inj K hy hk e')),h y hy,List.any_append,List.any_cons,List.any_nil,Bool.or_false,show(x==y)=false by rw[beq_eq_false_iff_ne];exact fun e'=>e e'.symm,Bool.or_false]
abbrev pathkM (w:World) (b n:Nat) (S:Lit→Bool):Prop:=OwnsSet w Tryz.prog 221 4 b n S
end Go.Proofs.YtakedkcjplfgeaaGreatDoor
namespace Go.Proofs.YtakedkcjplfgeaaGreatDoor
open Go.RowKit
open Frq Thr Tt
theorem excs_c (vl:Value) (l:List ExcD) (calendars:Int) (r:Int×Int) (H:Hid (checkS 256 (excErr calendars) l=r)) (hok:Hid (∀ x∈l,isInt x.cal∧isInt x.day)) (B:Nat) (w:World) (hl:SlIn excCells 3 B w vl l) (hB:B≤w.heap.size):
  Calls Tryz.prog 49 #[vl, .int .i64 calendars] w fun e w'=>e= .returned (.tuple #[.int .i64 r.1, .int .i64 r.2])∧Bl w w':=by
 obtain⟨gk,KG⟩:=exckFn_ex;obtain⟨al,capl,rfl,ll1,ll2⟩:=hl.val;have HL:=Lib.hid hl;clear hl;by_cases hmany:256<l.length
 ·
  have HR:=Lib.hid (checkS_many (err:=(excErr calendars)) hmany);go_enter Tryz.func49,Tryz.ntmps49
  go_wp2;go_ret2;exact⟨ret_r HR.out H.out,bl_refl _⟩
 ·
  have hfew:l.length≤256:=by omega
  have HR:Hid (chk (excErr calendars) (l.take 0) (l.drop 0)=r):=(checkS_few hfew).symm.trans H.out;have hmm:= @run_makeMap Tryz.prog;obtain⟨w1,hw1⟩: ∃ w1,w.alloc (.map #[] 0)=w1:=⟨_,rfl⟩;have HS1:Hid (OwnsSet w1 Tryz.prog 169 4 w.heap.size 0 (fun _=>false)):=by rw[←hw1];exact ownsSet_made w Tryz.prog 169 4
  have B1:Hid (Bl w w1):=by rw[←hw1];exact bl_alloc (bl_refl _) _
  clear hmany;go_enter Tryz.func49,Tryz.ntmps49
  go_wp2_with fail;clear hw1 hmm;go_loopw [16] (fun i wr=> ∃ (k:Nat) (S:Lit→Bool),(k≤l.length∧i= .int .i64 k)∧Hid (exckSet gk ((l.take k).map fun y=>(y.cal,y.day)) S∧exckM wr w.heap.size k S)∧Hid (chk (excErr calendars) (l.take k) (l.drop k)=r)∧Bl w wr) (fun i _=>l.length-(intOf i).toNat)
  case atStart=>exact⟨0,_,⟨Nat.zero_le _,rfl⟩,⟨fun _ _=>rfl,HS1.out⟩,HR,B1.out⟩
  case round=>
   obtain⟨k,S,⟨hk,rfl⟩,HSS,HC,hbl⟩:=hrel;have z1:=hbl.size;by_cases hlt:k<l.length
   ·
    obtain⟨bl',ol,x,rfl,hbs,hx,hc⟩:=HL.out.get hlt hbl hB;have d0:wr.cell? ⟨bl',ol+k*3,none⟩=some (.int .i64 x.cal):=hc 0 _ rfl;have d1:wr.cell? ⟨bl',ol+k*3+1,none⟩=some (.int .i64 x.day):=hc 1 _ rfl;have d2:wr.cell? ⟨bl',ol+k*3+2,none⟩=some (.bool x.added):=hc 2 _ rfl;have hkI:(k:Int)<(l.length:Int):=by omega
    have HX:=Lib.hid hx;have HOK:=Lib.hid (hok.out x (List.mem_of_getElem? hx));have HKO:Hid (exckOk ((x.cal,x.day))):=⟨HOK.out.1,HOK.out.2⟩;clear hx hc;obtain⟨q,hq⟩: ∃ q,S (gk ((x.cal,x.day)))=q:=⟨_,rfl⟩;have HQ:Hid (((l.take k).any fun y=>y.cal==x.cal&&y.day==x.day)=q):=by
     show _=_
     rw[←hq,HSS.out.1 _ HKO.out,List.any_map];refine congrArg (fun f=>(l.take k).any f) (funext fun y=>?_);simp only[Function.comp];rw[Bool.eq_iff_iff];simp[Prod.ext_iff]
    have HQQ:=Lib.hid hq;clear hq;obtain⟨w2,hw2⟩: ∃ w2,wr.alloc (.cells #[.int .i64 x.cal, .int .i64 x.day, .bool x.added] 124)=w2:=⟨_,rfl⟩;obtain⟨w3,hw3⟩: ∃ w3,w2.alloc (.cells #[.int .i64 x.cal, .int .i64 x.day] 169)=w3:=⟨_,rfl⟩;have b2:Bl wr w2:=by rw[←hw2];exact bl_alloc (bl_refl _) _
    have b3:Bl wr w3:=by rw[←hw3];exact bl_alloc b2 _
    have s2:w2.heap.size=wr.heap.size+1:=by rw[←hw2];simp
    have s3:w3.heap.size=wr.heap.size+2:=by rw[←hw3];simp[s2]
    have t0:w2.cell? ⟨wr.heap.size,0,none⟩=some (.int .i64 x.cal):=by rw[←hw2,World.cell?_alloc_at (hn:=rfl)];rfl
    have t1:w2.cell? ⟨wr.heap.size,1,none⟩=some (.int .i64 x.day):=by rw[←hw2,World.cell?_alloc_at (hn:=rfl)];rfl
    have b23:Bl w2 w3:=by rw[←hw3];exact bl_alloc (bl_refl _) _
    have t0':w3.cell? ⟨wr.heap.size,0,none⟩=some (.int .i64 x.cal):=((bl_cell b23).1 _ _ (by omega)).trans t0;have t1':w3.cell? ⟨wr.heap.size,1,none⟩=some (.int .i64 x.day):=((bl_cell b23).1 _ _ (by omega)).trans t1;have k0:w3.cell? ⟨wr.heap.size+1,0,none⟩=some (.int .i64 x.cal):=by rw[←s2,←hw3,World.cell?_alloc_at (hn:=rfl)];rfl
    have k1:w3.cell? ⟨wr.heap.size+1,1,none⟩=some (.int .i64 x.day):=by rw[←s2,←hw3,World.cell?_alloc_at (hn:=rfl)];rfl
    have B3:Hid (Bl w w3):=bl_next hbl b3;have hset:=HSS.out.2.bl b3;have hlook:=hset.look exck_law Tryz.underlying168 Tryz.underlying4 (zero_bool w3) (KG _ HKO.out);rw[HQQ.out]at hlook;obtain⟨wa,ha1,ha2,ha3⟩:=hset.put exck_law Tryz.underlying168 Tryz.underlying4 (by unfold maxLen;omega) (KG _ HKO.out);simp only[exckV]at hlook ha1;have HA2:=Lib.hid ha2;have HA3:=Lib.hid ha3;obtain⟨o,ho⟩: ∃ o,dayB x.day=o:=⟨_,rfl⟩;have HO:=Lib.hid ho;have hd:=fun w=>Da.dValid_b x.day o (by show _=_;rw[day_valid,HO.out]) w
    clear b2 b3 b23 hset ha2 ha3 ho;go_wp2_with (go_at_call 121;refine(hd _).mono ?_;rintro e w4 ⟨rfl,rfl⟩;cases o<;>cases q)
    all_goals first
     |
      go_ret2;have HE:=chk_bad (err:=excErr calendars) (e:=9) HX.out (by unfold excErr;rw[if_pos (by unfold outside;simp;omega)]) (by decide);exact⟨ret_r HE HC.out,B3.out⟩
     |
      go_ret2;have HE:=chk_bad (err:=excErr calendars) (e:=11) HX.out (by unfold excErr;rw[if_neg (by unfold outside;simp;omega),if_pos HO.out]) (by decide);exact⟨ret_r HE HC.out,B3.out⟩
     |
      go_ret2;have HE:=chk_bad (err:=excErr calendars) (e:=6) HX.out (by unfold excErr;rw[if_neg (by unfold outside;simp;omega),if_neg (by rw[HO.out];decide),if_pos HQ.out]) (by decide);exact⟨ret_r HE HC.out,B3.out⟩
     |have HG:=chk_good (err:=excErr calendars) HX.out (by unfold excErr;rw[if_neg (by unfold outside;simp;omega),if_neg (by rw[HO.out];decide),if_neg (by rw[HQ.out];decide)])
      exact⟨⟨k+1,_,⟨by omega,by go_num⟩,⟨by rw[take_snoc_at HX.out,List.map_append];exact exckSet_snoc KG HSS.out.1 HKO.out,HA2.out⟩,HG.symm.trans HC.out,B3.out.grown HA3.out (by omega) (fun k hk=>by cases hk;omega)⟩,by simp[intOf];omega⟩
   ·
    have HE:=Lib.hid (chk_end (err:=(excErr calendars)) (show l.length≤k by omega));go_wp2;go_ret2;exact⟨ret_r HE.out HC.out,hbl⟩
end Go.Proofs.YtakedkcjplfgeaaGreatDoor
namespace Go.Proofs.YtakedkcjplfgeaaGreatDoor
open Go.RowKit
open Frq Thr Tt
theorem psound_c (vl:Value) (l:List PathD) (stops:Int) (r:Int×Int) (H:Hid (chk (pathErr stops) (l.take 0) (l.drop 0)=r)) (hok:Hid (∀ x∈l,isInt x.frm∧isInt x.to)) (B:Nat) (w:World) (hl:SlIn pathCells 4 B w vl l) (hB:B≤w.heap.size):
  Calls Tryz.prog 130 #[vl, .int .i64 stops] w fun e w'=>e= .returned (.tuple #[.int .i64 r.1, .int .i64 r.2])∧Bl w w':=by
 obtain⟨gk,KG⟩:=pathkFn_ex;obtain⟨al,capl,rfl,ll1,ll2⟩:=hl.val;have HL:=Lib.hid hl;clear hl
 ·
  have HR:Hid (chk (pathErr stops) (l.take 0) (l.drop 0)=r):=H.out;have hmm:= @run_makeMap Tryz.prog;obtain⟨w1,hw1⟩: ∃ w1,w.alloc (.map #[] 0)=w1:=⟨_,rfl⟩;have HS1:Hid (OwnsSet w1 Tryz.prog 221 4 w.heap.size 0 (fun _=>false)):=by rw[←hw1];exact ownsSet_made w Tryz.prog 221 4
  have B1:Hid (Bl w w1):=by rw[←hw1];exact bl_alloc (bl_refl _) _
  go_enter Tryz.func130,Tryz.ntmps130
  go_wp2_with fail;clear hw1 hmm;go_loopw [13] (fun i wr=> ∃ (k:Nat) (S:Lit→Bool),(k≤l.length∧i= .int .i64 k)∧Hid (pathkSet gk ((l.take k).map fun y=>(y.frm,y.to,y.free)) S∧pathkM wr w.heap.size k S)∧Hid (chk (pathErr stops) (l.take k) (l.drop k)=r)∧Bl w wr) (fun i _=>l.length-(intOf i).toNat)
  case atStart=>exact⟨0,_,⟨Nat.zero_le _,rfl⟩,⟨fun _ _=>rfl,HS1.out⟩,HR,B1.out⟩
  case round=>
   obtain⟨k,S,⟨hk,rfl⟩,HSS,HC,hbl⟩:=hrel;have z1:=hbl.size;by_cases hlt:k<l.length
   ·
    obtain⟨bl',ol,x,rfl,hbs,hx,hc⟩:=HL.out.get hlt hbl hB;have d0:wr.cell? ⟨bl',ol+k*4,none⟩=some (.int .i64 x.frm):=hc 0 _ rfl;have d1:wr.cell? ⟨bl',ol+k*4+1,none⟩=some (.int .i64 x.to):=hc 1 _ rfl;have d2:wr.cell? ⟨bl',ol+k*4+2,none⟩=some (.int .i64 x.secs):=hc 2 _ rfl;have d3:wr.cell? ⟨bl',ol+k*4+3,none⟩=some (.bool x.free):=hc 3 _ rfl;have hkI:(k:Int)<(l.length:Int):=by omega
    have HX:=Lib.hid hx;have HOK:=Lib.hid (hok.out x (List.mem_of_getElem? hx));have HKO:Hid (pathkOk ((x.frm,x.to,x.free))):=⟨HOK.out.1,HOK.out.2⟩;clear hx hc;obtain⟨q,hq⟩: ∃ q,S (gk ((x.frm,x.to,x.free)))=q:=⟨_,rfl⟩;have HQ:Hid (((l.take k).any fun y=>y.frm==x.frm&&(y.to==x.to&&y.free==x.free))=q):=by
     show _=_
     rw[←hq,HSS.out.1 _ HKO.out,List.any_map];refine congrArg (fun f=>(l.take k).any f) (funext fun y=>?_);simp only[Function.comp];rw[Bool.eq_iff_iff];simp[Prod.ext_iff]
    have HQQ:=Lib.hid hq;clear hq;obtain⟨w2,hw2⟩: ∃ w2,wr.alloc (.cells #[.int .i64 x.frm, .int .i64 x.to, .int .i64 x.secs, .bool x.free] 63)=w2:=⟨_,rfl⟩;obtain⟨w3,hw3⟩: ∃ w3,w2.alloc (.cells #[.int .i64 x.frm, .int .i64 x.to, .bool x.free] 221)=w3:=⟨_,rfl⟩;have b2:Bl wr w2:=by rw[←hw2];exact bl_alloc (bl_refl _) _
    have b3:Bl wr w3:=by rw[←hw3];exact bl_alloc b2 _
    have s2:w2.heap.size=wr.heap.size+1:=by rw[←hw2];simp
    have s3:w3.heap.size=wr.heap.size+2:=by rw[←hw3];simp[s2]
    have t0:w2.cell? ⟨wr.heap.size,0,none⟩=some (.int .i64 x.frm):=by rw[←hw2,World.cell?_alloc_at (hn:=rfl)];rfl
    have t1:w2.cell? ⟨wr.heap.size,1,none⟩=some (.int .i64 x.to):=by rw[←hw2,World.cell?_alloc_at (hn:=rfl)];rfl
    have t2:w2.cell? ⟨wr.heap.size,2,none⟩=some (.int .i64 x.secs):=by rw[←hw2,World.cell?_alloc_at (hn:=rfl)];rfl
    have t3:w2.cell? ⟨wr.heap.size,3,none⟩=some (.bool x.free):=by rw[←hw2,World.cell?_alloc_at (hn:=rfl)];rfl
    have b23:Bl w2 w3:=by rw[←hw3];exact bl_alloc (bl_refl _) _
    have t0':w3.cell? ⟨wr.heap.size,0,none⟩=some (.int .i64 x.frm):=((bl_cell b23).1 _ _ (by omega)).trans t0;have t1':w3.cell? ⟨wr.heap.size,1,none⟩=some (.int .i64 x.to):=((bl_cell b23).1 _ _ (by omega)).trans t1;have t2':w3.cell? ⟨wr.heap.size,2,none⟩=some (.int .i64 x.secs):=((bl_cell b23).1 _ _ (by omega)).trans t2;have k0:w3.cell? ⟨wr.heap.size+1,0,none⟩=some (.int .i64 x.frm):=by rw[←s2,←hw3,World.cell?_alloc_at (hn:=rfl)];rfl
    have k1:w3.cell? ⟨wr.heap.size+1,1,none⟩=some (.int .i64 x.to):=by rw[←s2,←hw3,World.cell?_alloc_at (hn:=rfl)];rfl
    have k2:w3.cell? ⟨wr.heap.size+1,2,none⟩=some (.bool x.free):=by rw[←s2,←hw3,World.cell?_alloc_at (hn:=rfl)];rfl
    have B3:Hid (Bl w w3):=bl_next hbl b3;have hset:=HSS.out.2.bl b3;have hlook:=hset.look pathk_law Tryz.underlying219 Tryz.underlying4 (zero_bool w3) (KG _ HKO.out);rw[HQQ.out]at hlook;obtain⟨wa,ha1,ha2,ha3⟩:=hset.put pathk_law Tryz.underlying219 Tryz.underlying4 (by unfold maxLen;omega) (KG _ HKO.out);simp only[pathkV]at hlook ha1;have HA2:=Lib.hid ha2;have HA3:=Lib.hid ha3;clear b2 b3 b23 hset ha2 ha3;have hP: ∀ e,pathErr stops (l.take k) x=e→Hid (pathErr stops (l.take k) x=e):=fun e h=>h
    by_cases h9:(x.frm<0∨stops≤x.frm)∨(x.to<0∨stops≤x.to)∨x.frm=x.to
    ·
     have HE:=Lib.hid (chk_bad (err:=pathErr stops) (e:=9) HX.out (by unfold pathErr;rw[if_pos (by unfold outside;simp;omega)]) (by decide));by_cases hft:x.frm=x.to
     ·
      have hft':(x.frm==x.to)=true:=by simp[hft]
      clear h9 hft;go_wp2_with fail;all_goals first
       |(go_ret2;exact⟨ret_r HE.out HC.out,B3.out⟩)
       |(exfalso;omega)
     ·
      have hft':(x.frm==x.to)=false:=by simp[hft]
      go_wp2_with fail;all_goals first
       |(exfalso;omega)
       |(go_ret2;exact⟨ret_r HE.out HC.out,B3.out⟩)
    ·
     have n1:0≤x.frm:=by omega
     have n2:x.frm<stops:=by omega
     have n3:0≤x.to:=by omega
     have n4:x.to<stops:=by omega
     have hft':(x.frm==x.to)=false:=by simp;omega
     have H9:=Lib.hid (show ¬ (outside x.frm 0 (stops-1)||(outside x.to 0 (stops-1)||x.frm==x.to))=true by unfold outside;simp;omega);clear h9;cases q with
     |true=>
      go_wp2_with fail;all_goals first
       |
        go_ret2;have HE:=chk_bad (err:=pathErr stops) (e:=2) HX.out (by unfold pathErr;rw[if_neg H9.out,if_pos (by unfold outside;simp;omega)]) (by decide);exact⟨ret_r HE HC.out,B3.out⟩
       |
        go_ret2;have HE:=chk_bad (err:=pathErr stops) (e:=6) HX.out (by unfold pathErr;rw[if_neg H9.out,if_neg (by unfold outside;simp;omega),if_pos HQ.out]) (by decide);exact⟨ret_r HE HC.out,B3.out⟩
     |false=>
      go_wp2_with fail;all_goals first
       |
        go_ret2;have HE:=chk_bad (err:=pathErr stops) (e:=2) HX.out (by unfold pathErr;rw[if_neg H9.out,if_pos (by unfold outside;simp;omega)]) (by decide);exact⟨ret_r HE HC.out,B3.out⟩
       |have HG:=chk_good (err:=pathErr stops) HX.out (by unfold pathErr;rw[if_neg H9.out,if_neg (by unfold outside;simp;omega),if_neg (by rw[HQ.out];decide)])
        exact⟨⟨k+1,_,⟨by omega,by go_num⟩,⟨by rw[take_snoc_at HX.out,List.map_append];exact pathkSet_snoc KG HSS.out.1 HKO.out,HA2.out⟩,HG.symm.trans HC.out,B3.out.grown HA3.out (by omega) (fun k hk=>by cases hk;omega)⟩,by simp[intOf];omega⟩
   ·
    have HE:=Lib.hid (chk_end (err:=(pathErr stops)) (show l.length≤k by omega));go_wp2;go_ret2;exact⟨ret_r HE.out HC.out,hbl⟩
theorem paths_c (vl:Value) (l:List PathD) (stops:Int) (r:Int×Int) (H:Hid (checkS 512 (pathErr stops) l=r)) (hok:Hid (∀ x∈l,isInt x.frm∧isInt x.to)) (B:Nat) (w:World) (hl:SlIn pathCells 4 B w vl l) (hB:B≤w.heap.size):
  Calls Tryz.prog 59 #[vl, .int .i64 stops] w fun e w'=>e= .returned (.tuple #[.int .i64 r.1, .int .i64 r.2])∧Bl w w':=by
 obtain⟨al,capl,rfl,ll1,ll2⟩:=hl.val;by_cases hmany:512<l.length
 ·
  have HR:=Lib.hid (checkS_many (err:=pathErr stops) hmany);go_enter Tryz.func59,Tryz.ntmps59
  go_wp2;go_ret2;exact⟨ret_r HR.out H.out,bl_refl _⟩
 ·
  have hfew:l.length≤512:=by omega
  have hc:=psound_c _ l stops r ((checkS_few hfew).symm.trans H.out) hok B w hl hB;clear hmany;go_enter Tryz.func59,Tryz.ntmps59
  go_wp2_with (go_at_call 130;refine hc.mono ?_;rintro e w1 ⟨rfl,b1⟩;have HB1:=Lib.hid b1;clear b1)
  go_ret2;exact⟨rfl,HB1.out⟩
end Go.Proofs.YtakedkcjplfgeaaGreatDoor
namespace Go.Proofs.YtakedkcjplfgeaaGreatDoor
open Go.RowKit
open Frq Thr Tt
theorem within_c (n lo hi:Int) (w:World):Calls Tryz.prog 131 #[.int .i64 n, .int .i64 lo, .int .i64 hi] w fun e w'=>e= .returned (.bool (!outside n lo hi))∧w=w':=by
 have h:(n<lo∧outside n lo hi=true)∨(lo≤n∧n≤hi∧outside n lo hi=false)∨(lo≤n∧hi<n∧outside n lo hi=true):=by
  unfold outside;by_cases h0:n<lo
  · exact .inl ⟨h0,by simp[h0]⟩
  ·
   by_cases h1:n≤hi
   · exact .inr (.inl ⟨by omega,h1,by simp;omega⟩)
   · exact .inr (.inr ⟨by omega,by omega,by simp;omega⟩)
 rcases h with⟨h1,h⟩|⟨h1,h2,h⟩|⟨h1,h2,h⟩
 all_goals
  rw[h];clear h;go_enter Tryz.func131,Tryz.ntmps131
  go_wp2;go_ret;exact⟨ret_bool (by first|rfl|(simp;omega)),rfl⟩
theorem within_b {n lo hi:Int} {o:Bool} (H:Hid (outside n lo hi=o)) (w:World):Calls Tryz.prog 131 #[.int .i64 n, .int .i64 lo, .int .i64 hi] w fun e w'=>e= .returned (.bool (!o))∧w=w':=by
 rw[←H.out];exact within_c n lo hi w
theorem prods_c (vl:Value) (f:FareD) (r:Int×Int) (H:Hid (fareChk f=r)) (hs:Hid (∀ x∈f.prods,x.id.length≤9223372036854775807)) (B:Nat) (w:World) (hl:SlIn prodCells 6 B w vl f.prods) (hB:B≤w.heap.size):
  Calls Tryz.prog 61 #[fareV vl f] w fun e w'=>e= .returned (.tuple #[.int .i64 r.1, .int .i64 r.2])∧Bl w w':=by
 obtain⟨al,capl,rfl,ll1,ll2⟩:=hl.val;obtain⟨l,disc,wit,cap⟩:=f;have hl:SlIn prodCells 6 B w (.slice al l.length capl) l:=hl;have hs:Hid (∀ x∈l,x.id.length≤9223372036854775807):=hs;have ll1:l.length≤capl:=ll1;have HL:=Lib.hid hl;clear hl;obtain⟨o1,h1⟩: ∃ o,outside disc 0 1000000=o:=⟨_,rfl⟩;obtain⟨o2,h2⟩: ∃ o,outside wit 0 86400=o:=⟨_,rfl⟩;obtain⟨o3,h3⟩: ∃ o,outside cap 0 1000000=o:=⟨_,rfl⟩;have H1:=Lib.hid h1;have H2:=Lib.hid h2;have H3:=Lib.hid h3;obtain⟨w0,hw0⟩: ∃ w0,w.alloc (.cells #[.slice al l.length capl, .int .i64 disc, .int .i64 wit, .int .i64 cap] 34)=w0:=⟨_,rfl⟩;have b0:Bl w w0:=by rw[←hw0];exact bl_alloc (bl_refl _) _
 have s0:w0.heap.size=w.heap.size+1:=by rw[←hw0];simp
 have f0:w0.cell? ⟨w.heap.size,0,none⟩=some (.slice al l.length capl):=by rw[←hw0,World.cell?_alloc_at (hn:=rfl)];rfl
 have f1:w0.cell? ⟨w.heap.size,1,none⟩=some (.int .i64 disc):=by rw[←hw0,World.cell?_alloc_at (hn:=rfl)];rfl
 have f2:w0.cell? ⟨w.heap.size,2,none⟩=some (.int .i64 wit):=by rw[←hw0,World.cell?_alloc_at (hn:=rfl)];rfl
 have f3:w0.cell? ⟨w.heap.size,3,none⟩=some (.int .i64 cap):=by rw[←hw0,World.cell?_alloc_at (hn:=rfl)];rfl
 have HB0:=Lib.hid b0;clear h1 h2 h3 b0;by_cases hbad:(o1||(o2||o3))=true
 ·
  have HR:=Lib.hid (show((-1:Int),(2:Int))=r by rw[←H.out];unfold fareChk;rw[if_pos (by show(outside disc 0 1000000||(outside wit 0 86400||outside cap 0 1000000))=true;rw[H1.out,H2.out,H3.out];exact hbad)]);show Calls Tryz.prog _ #[.agg #[.slice al l.length capl, .int .i64 disc, .int .i64 wit, .int .i64 cap]] w _
  go_enter Tryz.func61,Tryz.ntmps61
  cases o1<;>cases o2<;>cases o3
  all_goals first
   |(exact absurd hbad (by decide))
   |
    go_wp2_with (first
     |(go_at_call 131;(with_reducible refine(within_b H1 _).mono ?_);rintro e w3 ⟨rfl,rfl⟩)
     |(go_at_call 131;(with_reducible refine(within_b H2 _).mono ?_);rintro e w3 ⟨rfl,rfl⟩)
     |(go_at_call 131;(with_reducible refine(within_b H3 _).mono ?_);rintro e w3 ⟨rfl,rfl⟩))
    go_ret2;exact⟨ret_r rfl HR.out,HB0.out⟩
 ·
  have H123:o1=false∧o2=false∧o3=false:=by cases o1<;>cases o2<;>cases o3<;>simp_all
  obtain⟨rfl,rfl,rfl⟩:=H123;have HC0:Hid (checkS 16 prodErr l=r):=by show _=_;rw[←H.out];unfold fareChk;rw[if_neg (by show ¬ (outside disc 0 1000000||(outside wit 0 86400||outside cap 0 1000000))=true;rw[H1.out,H2.out,H3.out];decide)]
  clear hbad;show Calls Tryz.prog _ #[.agg #[.slice al l.length capl, .int .i64 disc, .int .i64 wit, .int .i64 cap]] w _
  by_cases hmany:16<l.length
  ·
   have HR:=Lib.hid (checkS_many (err:=prodErr) hmany);go_enter Tryz.func61,Tryz.ntmps61
   go_wp2_with (first
     |(go_at_call 131;(with_reducible refine(within_b H1 _).mono ?_);rintro e w3 ⟨rfl,rfl⟩)
     |(go_at_call 131;(with_reducible refine(within_b H2 _).mono ?_);rintro e w3 ⟨rfl,rfl⟩)
     |(go_at_call 131;(with_reducible refine(within_b H3 _).mono ?_);rintro e w3 ⟨rfl,rfl⟩))
   go_ret2;exact⟨ret_r HR.out HC0.out,HB0.out⟩
  ·
   have hfew:l.length≤16:=by omega
   have HR:Hid (chk prodErr (l.take 0) (l.drop 0)=r):=(checkS_few hfew).symm.trans HC0.out;have hmm:= @run_makeMap Tryz.prog;obtain⟨w1,hw1⟩: ∃ w1,w0.alloc (.map #[] 0)=w1:=⟨_,rfl⟩;have HS1:Hid (StrSet w1 w0.heap.size 0 (fun _=>false)):=by rw[←hw1];exact ownsSet_made w0 Tryz.prog 9 4
   have b1:Bl w0 w1:=by rw[←hw1];exact bl_alloc (bl_refl _) _
   have g0:w1.cell? ⟨w.heap.size,0,none⟩=some (.slice al l.length capl):=((bl_cell b1).1 _ _ (by omega)).trans f0;have B1:Hid (Bl w w1):=bl_next HB0.out b1;clear hmany b1;go_enter Tryz.func61,Tryz.ntmps61
   go_wp2_with (first
     |(go_at_call 131;(with_reducible refine(within_b H1 _).mono ?_);rintro e w3 ⟨rfl,rfl⟩)
     |(go_at_call 131;(with_reducible refine(within_b H2 _).mono ?_);rintro e w3 ⟨rfl,rfl⟩)
     |(go_at_call 131;(with_reducible refine(within_b H3 _).mono ?_);rintro e w3 ⟨rfl,rfl⟩))
   rw[s0]at HS1;clear hw1 hmm hw0 f0 f1 f2 f3 g0;go_loopw [31] (fun i wr=> ∃ (k:Nat) (S:Lit→Bool),(k≤l.length∧i= .int .i64 k)∧Hid (WordSet ((l.take k).map (·.id)) S∧StrSet wr (w.heap.size+1) k S)∧Hid (chk prodErr (l.take k) (l.drop k)=r)∧Bl w wr) (fun i _=>l.length-(intOf i).toNat)
   case atStart=>exact⟨0,_,⟨Nat.zero_le _,rfl⟩,⟨wordSet_nil,HS1.out⟩,HR,B1.out⟩
   case round=>
    obtain⟨k,S,⟨hk,rfl⟩,HSS,HC,hbl⟩:=hrel;have z1:=hbl.size;by_cases hlt:k<l.length
    ·
     obtain⟨bl',ol,x,rfl,hbs,hx,hc⟩:=HL.out.get hlt hbl hB;have d0:wr.cell? ⟨bl',ol+k*6,none⟩=some (str x.id):=hc 0 _ rfl;have d1:wr.cell? ⟨bl',ol+k*6+1,none⟩=some (.int .i64 x.price):=hc 1 _ rfl;have d2:wr.cell? ⟨bl',ol+k*6+2,none⟩=some (.int .i64 x.rides):=hc 2 _ rfl;have d3:wr.cell? ⟨bl',ol+k*6+3,none⟩=some (.int .i64 x.zones):=hc 3 _ rfl;have d4:wr.cell? ⟨bl',ol+k*6+4,none⟩=some (.int .i64 x.secs):=hc 4 _ rfl;have d5:wr.cell? ⟨bl',ol+k*6+5,none⟩=some (.int .i64 x.modes):=hc 5 _ rfl;have hkI:(k:Int)<(l.length:Int):=by omega
     have HX:=Lib.hid hx;have hsz:=hs.out x (List.mem_of_getElem? hx);clear hx hc;obtain⟨p,hp⟩: ∃ p,nameB x.id=p:=⟨_,rfl⟩;obtain⟨q,hq⟩: ∃ q,S (.string x.id)=q:=⟨_,rfl⟩;have HP:=Lib.hid hp;have HQ:Hid (((l.take k).any fun y=>y.id==x.id)=q):=by show _=_;rw[words_any (l.take k) (·.id) HSS.out.1,hq]
     obtain⟨w2,hw2⟩: ∃ w2,wr.alloc (.cells #[str x.id, .int .i64 x.price, .int .i64 x.rides, .int .i64 x.zones, .int .i64 x.secs, .int .i64 x.modes] 65)=w2:=⟨_,rfl⟩;have b2:Bl wr w2:=by rw[←hw2];exact bl_alloc (bl_refl _) _
     have t0:w2.cell? ⟨wr.heap.size,0,none⟩=some (str x.id):=by rw[←hw2,World.cell?_alloc_at (hn:=rfl)];rfl
     have t1:w2.cell? ⟨wr.heap.size,1,none⟩=some (.int .i64 x.price):=by rw[←hw2,World.cell?_alloc_at (hn:=rfl)];rfl
     have t2:w2.cell? ⟨wr.heap.size,2,none⟩=some (.int .i64 x.rides):=by rw[←hw2,World.cell?_alloc_at (hn:=rfl)];rfl
     have t3:w2.cell? ⟨wr.heap.size,3,none⟩=some (.int .i64 x.zones):=by rw[←hw2,World.cell?_alloc_at (hn:=rfl)];rfl
     have t4:w2.cell? ⟨wr.heap.size,4,none⟩=some (.int .i64 x.secs):=by rw[←hw2,World.cell?_alloc_at (hn:=rfl)];rfl
     have t5:w2.cell? ⟨wr.heap.size,5,none⟩=some (.int .i64 x.modes):=by rw[←hw2,World.cell?_alloc_at (hn:=rfl)];rfl
     have s2:w2.heap.size=wr.heap.size+1:=by rw[←hw2];simp
     have B2:Hid (Bl w w2):=bl_next hbl b2;have hset:=HSS.out.2.bl b2;have hlook:=hset.look str_law Tryz.underlying166 Tryz.underlying4 (zero_bool w2) (key_str hsz);rw[hq]at hlook;obtain⟨wa,ha1,ha2,ha3⟩:=hset.put str_law Tryz.underlying166 Tryz.underlying4 (by unfold maxLen;omega) (key_str hsz);have HA2:=Lib.hid ha2;have HA3:=Lib.hid ha3;clear hp hq b2 hset ha2 ha3;have hid:=fun w=>Ms.ident_c ⟨x.id.toArray⟩ (by show x.id.toArray.size≤_;rw[List.size_toArray];unfold maxLen;omega) p HP w
     obtain⟨c1,h1⟩: ∃ o,outside x.price 0 1000000=o:=⟨_,rfl⟩;obtain⟨c2,h2⟩: ∃ o,outside x.rides 1 8=o:=⟨_,rfl⟩;obtain⟨c3,h3⟩: ∃ o,outside x.zones 1 16=o:=⟨_,rfl⟩;obtain⟨c4,h4⟩: ∃ o,outside x.secs 0 86400=o:=⟨_,rfl⟩;obtain⟨c5,h5⟩: ∃ o,outside x.modes 1 255=o:=⟨_,rfl⟩;have C1:=Lib.hid h1;have C2:=Lib.hid h2;have C3:=Lib.hid h3;have C4:=Lib.hid h4;have C5:=Lib.hid h5;have HW:Hid ((outside x.price 0 1000000||(outside x.rides 1 8||(outside x.zones 1 16||(outside x.secs 0 86400||outside x.modes 1 255))))=(c1||(c2||(c3||(c4||c5))))):=by show _=_;rw[h1,h2,h3,h4,h5]
     clear h1 h2 h3 h4 h5;cases p with
     |false=>
      have HE:=Lib.hid (chk_bad (err:=prodErr) HX.out (show prodErr (l.take k) x=12 by unfold prodErr;rw[if_pos HP.out]) (by decide));go_wp2_with (go_at_call 119;refine(hid _).mono ?_;rintro e w3 ⟨rfl,rfl⟩)
      go_ret2;exact⟨ret_r HE.out HC.out,B2.out⟩
     |true=>
      have HP1:=Lib.hid (show ¬ nameB x.id=false by rw[HP.out];decide);cases q with
      |true=>
       have HE:=Lib.hid (chk_bad (err:=prodErr) HX.out (show prodErr (l.take k) x=6 by unfold prodErr;rw[if_neg HP1.out,if_pos HQ.out]) (by decide));go_wp2_with (go_at_call 119;refine(hid _).mono ?_;rintro e w3 ⟨rfl,rfl⟩)
       go_ret2;exact⟨ret_r HE.out HC.out,B2.out⟩
      |false=>
       have HQ1:=Lib.hid (show ¬ ((l.take k).any fun y=>y.id==x.id)=true by rw[HQ.out];decide);go_wp2_with (first
        |(go_at_call 119;refine(hid _).mono ?_;rintro e w3 ⟨rfl,rfl⟩)
        |(go_at_call 131;(with_reducible refine(within_b C1 _).mono ?_);rintro e w3 ⟨rfl,rfl⟩;cases c1)
        |(go_at_call 131;(with_reducible refine(within_b C2 _).mono ?_);rintro e w3 ⟨rfl,rfl⟩;cases c2)
        |(go_at_call 131;(with_reducible refine(within_b C3 _).mono ?_);rintro e w3 ⟨rfl,rfl⟩;cases c3)
        |(go_at_call 131;(with_reducible refine(within_b C4 _).mono ?_);rintro e w3 ⟨rfl,rfl⟩;cases c4)
        |(go_at_call 131;(with_reducible refine(within_b C5 _).mono ?_);rintro e w3 ⟨rfl,rfl⟩;cases c5))
       all_goals first
        |
         go_ret2;have HE:=chk_bad (err:=prodErr) (e:=2) HX.out (by unfold prodErr;rw[if_neg HP1.out,if_neg HQ1.out,if_pos (by rw[HW.out];simp)]) (by decide);exact⟨ret_r HE HC.out,B2.out⟩
        |have HG:=chk_good (err:=prodErr) HX.out (by unfold prodErr;rw[if_neg HP1.out,if_neg HQ1.out,if_neg (by rw[HW.out];decide)])
         exact⟨⟨k+1,_,⟨by omega,by go_num⟩,⟨by rw[ids_take (·.id) HX.out];exact HSS.out.1.snoc x.id,HA2.out⟩,HG.symm.trans HC.out,B2.out.grown HA3.out (by omega) (fun k hk=>by cases hk;omega)⟩,by simp[intOf];omega⟩
    ·
     have HE:=Lib.hid (chk_end (err:=prodErr) (show l.length≤k by omega));go_wp2;go_ret2;exact⟨ret_r HE.out HC.out,hbl⟩
end Go.Proofs.YtakedkcjplfgeaaGreatDoor
