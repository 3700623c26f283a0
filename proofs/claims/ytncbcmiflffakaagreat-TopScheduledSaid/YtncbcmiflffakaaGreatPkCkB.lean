/-
  What the laws of top need of TChkB. Conditions: those of each lemma.
-/
import Derived.Test.YtncbcmiflffakaaGreatPkMem
import Derived.Test.YtncbcmiflffakaaGreatRows
import Derived.Test.YtncbcmiflffakaaGreatPkPl
import Derived.Test.YtncbcmiflffakaaGreatPkCkA
import GoSem.Op.String
import Derived.Lib.IndexMore
import Derived.ScopeJumps
import Derived.WalkMore
import Derived.Laws.BytesArg
import Derived.Lib.SmallJoins
import Derived.WideShapes
import Derived.Laws.AppendOwn
import Derived.Deep.QuietTactic
import Derived.BigQuiet
import Derived.Deep.RegionHeld3
import Derived.Deep.AppendLies
import Derived.IntWalk
import Derived.Deep.DeepCutAuto
import Derived.StillTailTactics
import Derived.Lib.MinMax
set_option maxRecDepth 1000000
set_option maxHeartbeats 32000000
namespace Go.Proofs.YtncbcmiflffakaaGreat
open Go.RowKit
open Frq Thr Tt
theorem excs_c (vl:Value) (l:List ExcD) (calendars:Int) (r:Int×Int) (H:Hid (checkS 256 (excErr calendars) l=r)) (hok:Hid (∀ x∈l,isInt x.cal∧isInt x.day)) (B:Nat) (w:World) (hl:SlIn excCells 3 B w vl l) (hB:B≤w.heap.size):
  Calls Tryz.prog 24 #[vl, .int .i64 calendars] w fun e w'=>e= .returned (.tuple #[.int .i64 r.1, .int .i64 r.2])∧Bl w w':=by
 obtain⟨gk,KG⟩:=exckFn_ex;obtain⟨al,capl,rfl,ll1,ll2⟩:=hl.val;have HL:=Lib.hid hl;clear hl;by_cases hmany:256<l.length
 ·
  have HR:=Lib.hid (checkS_many (err:=(excErr calendars)) hmany);go_enter Tryz.func24,Tryz.ntmps24
  go_wp2;go_ret2;exact⟨ret_r HR.out H.out,bl_refl _⟩
 ·
  have hfew:l.length≤256:=by omega
  have HR:Hid (chk (excErr calendars) (l.take 0) (l.drop 0)=r):=(checkS_few hfew).symm.trans H.out;have hmm:= @run_makeMap Tryz.prog;obtain⟨w1,hw1⟩: ∃ w1,w.alloc (.map #[] 0)=w1:=⟨_,rfl⟩;have HS1:Hid (OwnsSet w1 Tryz.prog 121 4 w.heap.size 0 (fun _=>false)):=by rw[←hw1];exact ownsSet_made w Tryz.prog 121 4
  have B1:Hid (Bl w w1):=by rw[←hw1];exact bl_alloc (bl_refl _) _
  clear hmany;go_enter Tryz.func24,Tryz.ntmps24
  go_wp2_with fail;clear hw1 hmm;go_loopw [16] (fun i wr=> ∃ (k:Nat) (S:Lit→Bool),(k≤l.length∧i= .int .i64 k)∧Hid (exckSet gk ((l.take k).map fun y=>(y.cal,y.day)) S∧exckM wr w.heap.size k S)∧Hid (chk (excErr calendars) (l.take k) (l.drop k)=r)∧Bl w wr) (fun i _=>l.length-(intOf i).toNat)
  case atStart=>exact⟨0,_,⟨Nat.zero_le _,rfl⟩,⟨fun _ _=>rfl,HS1.out⟩,HR,B1.out⟩
  case round=>
   obtain⟨k,S,⟨hk,rfl⟩,HSS,HC,hbl⟩:=hrel;have z1:=hbl.size;by_cases hlt:k<l.length
   ·
    obtain⟨bl',ol,x,rfl,hbs,hx,hc⟩:=HL.out.get hlt hbl hB;have d0:wr.cell? ⟨bl',ol+k*3,none⟩=some (.int .i64 x.cal):=hc 0 _ rfl;have d1:wr.cell? ⟨bl',ol+k*3+1,none⟩=some (.int .i64 x.day):=hc 1 _ rfl;have d2:wr.cell? ⟨bl',ol+k*3+2,none⟩=some (.bool x.added):=hc 2 _ rfl;have hkI:(k:Int)<(l.length:Int):=by omega
    have HX:=Lib.hid hx;have HOK:=Lib.hid (hok.out x (List.mem_of_getElem? hx));have HKO:Hid (exckOk ((x.cal,x.day))):=⟨HOK.out.1,HOK.out.2⟩;clear hx hc;obtain⟨q,hq⟩: ∃ q,S (gk ((x.cal,x.day)))=q:=⟨_,rfl⟩;have HQ:Hid (((l.take k).any fun y=>y.cal==x.cal&&y.day==x.day)=q):=by
     show _=_
     rw[←hq,HSS.out.1 _ HKO.out,List.any_map];refine congrArg (fun f=>(l.take k).any f) (funext fun y=>?_);simp only[Function.comp];rw[Bool.eq_iff_iff];simp[Prod.ext_iff]
    have HQQ:=Lib.hid hq;clear hq;obtain⟨w2,hw2⟩: ∃ w2,wr.alloc (.cells #[.int .i64 x.cal, .int .i64 x.day, .bool x.added] 120)=w2:=⟨_,rfl⟩;obtain⟨w3,hw3⟩: ∃ w3,w2.alloc (.cells #[.int .i64 x.cal, .int .i64 x.day] 121)=w3:=⟨_,rfl⟩;have b2:Bl wr w2:=by rw[←hw2];exact bl_alloc (bl_refl _) _
    have b3:Bl wr w3:=by rw[←hw3];exact bl_alloc b2 _
    have s2:w2.heap.size=wr.heap.size+1:=by rw[←hw2];simp
    have s3:w3.heap.size=wr.heap.size+2:=by rw[←hw3];simp[s2]
    have t0:w2.cell? ⟨wr.heap.size,0,none⟩=some (.int .i64 x.cal):=by rw[←hw2,World.cell?_alloc_at (hn:=rfl)];rfl
    have t1:w2.cell? ⟨wr.heap.size,1,none⟩=some (.int .i64 x.day):=by rw[←hw2,World.cell?_alloc_at (hn:=rfl)];rfl
    have b23:Bl w2 w3:=by rw[←hw3];exact bl_alloc (bl_refl _) _
    have t0':w3.cell? ⟨wr.heap.size,0,none⟩=some (.int .i64 x.cal):=((bl_cell b23).1 _ _ (by omega)).trans t0;have t1':w3.cell? ⟨wr.heap.size,1,none⟩=some (.int .i64 x.day):=((bl_cell b23).1 _ _ (by omega)).trans t1;have k0:w3.cell? ⟨wr.heap.size+1,0,none⟩=some (.int .i64 x.cal):=by rw[←s2,←hw3,World.cell?_alloc_at (hn:=rfl)];rfl
    have k1:w3.cell? ⟨wr.heap.size+1,1,none⟩=some (.int .i64 x.day):=by rw[←s2,←hw3,World.cell?_alloc_at (hn:=rfl)];rfl
    have B3:Hid (Bl w w3):=bl_next hbl b3;have hset:=HSS.out.2.bl b3;have hlook:=hset.look exck_law Tryz.underlying118 Tryz.underlying4 (zero_bool w3) (KG _ HKO.out);rw[HQQ.out]at hlook;obtain⟨wa,ha1,ha2,ha3⟩:=hset.put exck_law Tryz.underlying118 Tryz.underlying4 (by unfold maxLen;omega) (KG _ HKO.out);simp only[exckV]at hlook ha1;have HA2:=Lib.hid ha2;have HA3:=Lib.hid ha3;obtain⟨o,ho⟩: ∃ o,dayB x.day=o:=⟨_,rfl⟩;have HO:=Lib.hid ho;have hd:=fun w=>Da.dValid_b x.day o (by show _=_;rw[day_valid,HO.out]) w
    clear b2 b3 b23 hset ha2 ha3 ho;go_wp2_with (go_at_call 51;refine(hd _).mono ?_;rintro e w4 ⟨rfl,rfl⟩;cases o<;>cases q)
    all_goals first
     |
      go_ret2;have HE:=chk_bad (err:=excErr calendars) (e:=9) HX.out (by unfold excErr;rw[if_pos (by unfold outside;simp;omega)]) (by decide);exact⟨ret_r HE HC.out,B3.out⟩
     |
      go_ret2;have HE:=chk_bad (err:=excErr calendars) (e:=11) HX.out (by unfold excErr;rw[if_neg (by unfold outside;simp;omega),if_pos HO.out]) (by decide);exact⟨ret_r HE HC.out,B3.out⟩
     |
      go_ret2;have HE:=chk_bad (err:=excErr calendars) (e:=6) HX.out (by unfold excErr;rw[if_neg (by unfold outside;simp;omega),if_neg (by rw[HO.out];decide),if_pos HQ.out]) (by decide);exact⟨ret_r HE HC.out,B3.out⟩
     |have HG:=chk_good (err:=excErr calendars) HX.out (by unfold excErr;rw[if_neg (by unfold outside;simp;omega),if_neg (by rw[HO.out];decide),if_neg (by rw[HQ.out];decide)])
      exact⟨⟨k+1,_,⟨by omega,by go_num⟩,⟨by rw[take_snoc_at HX.out,List.map_append];exact exckSet_snoc KG HSS.out.1 HKO.out,HA2.out⟩,HG.symm.trans HC.out,B3.out.grown HA3.out (by omega) (fun k hk=>by cases hk;omega)⟩,by simp[intOf];omega⟩
   ·
    have HE:=Lib.hid (chk_end (err:=(excErr calendars)) (show l.length≤k by omega));go_wp2;go_ret2;exact⟨ret_r HE.out HC.out,hbl⟩
end Go.Proofs.YtncbcmiflffakaaGreat
namespace Go.Proofs.YtncbcmiflffakaaGreat
open Go.RowKit
open Frq Thr Tt
theorem psound_c (vl:Value) (l:List PathD) (stops:Int) (r:Int×Int) (H:Hid (chk (pathErr stops) (l.take 0) (l.drop 0)=r)) (hok:Hid (∀ x∈l,isInt x.frm∧isInt x.to)) (B:Nat) (w:World) (hl:SlIn pathCells 4 B w vl l) (hB:B≤w.heap.size):
  Calls Tryz.prog 60 #[vl, .int .i64 stops] w fun e w'=>e= .returned (.tuple #[.int .i64 r.1, .int .i64 r.2])∧Bl w w':=by
 obtain⟨gk,KG⟩:=pathkFn_ex;obtain⟨al,capl,rfl,ll1,ll2⟩:=hl.val;have HL:=Lib.hid hl;clear hl
 ·
  have HR:Hid (chk (pathErr stops) (l.take 0) (l.drop 0)=r):=H.out;have hmm:= @run_makeMap Tryz.prog;obtain⟨w1,hw1⟩: ∃ w1,w.alloc (.map #[] 0)=w1:=⟨_,rfl⟩;have HS1:Hid (OwnsSet w1 Tryz.prog 183 4 w.heap.size 0 (fun _=>false)):=by rw[←hw1];exact ownsSet_made w Tryz.prog 183 4
  have B1:Hid (Bl w w1):=by rw[←hw1];exact bl_alloc (bl_refl _) _
  go_enter Tryz.func60,Tryz.ntmps60
  go_wp2_with fail;clear hw1 hmm;go_loopw [13] (fun i wr=> ∃ (k:Nat) (S:Lit→Bool),(k≤l.length∧i= .int .i64 k)∧Hid (pathkSet gk ((l.take k).map fun y=>(y.frm,y.to,y.free)) S∧pathkM wr w.heap.size k S)∧Hid (chk (pathErr stops) (l.take k) (l.drop k)=r)∧Bl w wr) (fun i _=>l.length-(intOf i).toNat)
  case atStart=>exact⟨0,_,⟨Nat.zero_le _,rfl⟩,⟨fun _ _=>rfl,HS1.out⟩,HR,B1.out⟩
  case round=>
   obtain⟨k,S,⟨hk,rfl⟩,HSS,HC,hbl⟩:=hrel;have z1:=hbl.size;by_cases hlt:k<l.length
   ·
    obtain⟨bl',ol,x,rfl,hbs,hx,hc⟩:=HL.out.get hlt hbl hB;have d0:wr.cell? ⟨bl',ol+k*4,none⟩=some (.int .i64 x.frm):=hc 0 _ rfl;have d1:wr.cell? ⟨bl',ol+k*4+1,none⟩=some (.int .i64 x.to):=hc 1 _ rfl;have d2:wr.cell? ⟨bl',ol+k*4+2,none⟩=some (.int .i64 x.secs):=hc 2 _ rfl;have d3:wr.cell? ⟨bl',ol+k*4+3,none⟩=some (.bool x.free):=hc 3 _ rfl;have hkI:(k:Int)<(l.length:Int):=by omega
    have HX:=Lib.hid hx;have HOK:=Lib.hid (hok.out x (List.mem_of_getElem? hx));have HKO:Hid (pathkOk ((x.frm,x.to,x.free))):=⟨HOK.out.1,HOK.out.2⟩;clear hx hc;obtain⟨q,hq⟩: ∃ q,S (gk ((x.frm,x.to,x.free)))=q:=⟨_,rfl⟩;have HQ:Hid (((l.take k).any fun y=>y.frm==x.frm&&(y.to==x.to&&y.free==x.free))=q):=by
     show _=_
     rw[←hq,HSS.out.1 _ HKO.out,List.any_map];refine congrArg (fun f=>(l.take k).any f) (funext fun y=>?_);simp only[Function.comp];rw[Bool.eq_iff_iff];simp[Prod.ext_iff]
    have HQQ:=Lib.hid hq;clear hq;obtain⟨w2,hw2⟩: ∃ w2,wr.alloc (.cells #[.int .i64 x.frm, .int .i64 x.to, .int .i64 x.secs, .bool x.free] 97)=w2:=⟨_,rfl⟩;obtain⟨w3,hw3⟩: ∃ w3,w2.alloc (.cells #[.int .i64 x.frm, .int .i64 x.to, .bool x.free] 183)=w3:=⟨_,rfl⟩;have b2:Bl wr w2:=by rw[←hw2];exact bl_alloc (bl_refl _) _
    have b3:Bl wr w3:=by rw[←hw3];exact bl_alloc b2 _
    have s2:w2.heap.size=wr.heap.size+1:=by rw[←hw2];simp
    have s3:w3.heap.size=wr.heap.size+2:=by rw[←hw3];simp[s2]
    have t0:w2.cell? ⟨wr.heap.size,0,none⟩=some (.int .i64 x.frm):=by rw[←hw2,World.cell?_alloc_at (hn:=rfl)];rfl
    have t1:w2.cell? ⟨wr.heap.size,1,none⟩=some (.int .i64 x.to):=by rw[←hw2,World.cell?_alloc_at (hn:=rfl)];rfl
    have t2:w2.cell? ⟨wr.heap.size,2,none⟩=some (.int .i64 x.secs):=by rw[←hw2,World.cell?_alloc_at (hn:=rfl)];rfl
    have t3:w2.cell? ⟨wr.heap.size,3,none⟩=some (.bool x.free):=by rw[←hw2,World.cell?_alloc_at (hn:=rfl)];rfl
    have b23:Bl w2 w3:=by rw[←hw3];exact bl_alloc (bl_refl _) _
    have t0':w3.cell? ⟨wr.heap.size,0,none⟩=some (.int .i64 x.frm):=((bl_cell b23).1 _ _ (by omega)).trans t0;have t1':w3.cell? ⟨wr.heap.size,1,none⟩=some (.int .i64 x.to):=((bl_cell b23).1 _ _ (by omega)).trans t1;have t2':w3.cell? ⟨wr.heap.size,2,none⟩=some (.int .i64 x.secs):=((bl_cell b23).1 _ _ (by omega)).trans t2;have k0:w3.cell? ⟨wr.heap.size+1,0,none⟩=some (.int .i64 x.frm):=by rw[←s2,←hw3,World.cell?_alloc_at (hn:=rfl)];rfl
    have k1:w3.cell? ⟨wr.heap.size+1,1,none⟩=some (.int .i64 x.to):=by rw[←s2,←hw3,World.cell?_alloc_at (hn:=rfl)];rfl
    have k2:w3.cell? ⟨wr.heap.size+1,2,none⟩=some (.bool x.free):=by rw[←s2,←hw3,World.cell?_alloc_at (hn:=rfl)];rfl
    have B3:Hid (Bl w w3):=bl_next hbl b3;have hset:=HSS.out.2.bl b3;have hlook:=hset.look pathk_law Tryz.underlying181 Tryz.underlying4 (zero_bool w3) (KG _ HKO.out);rw[HQQ.out]at hlook;obtain⟨wa,ha1,ha2,ha3⟩:=hset.put pathk_law Tryz.underlying181 Tryz.underlying4 (by unfold maxLen;omega) (KG _ HKO.out);simp only[pathkV]at hlook ha1;have HA2:=Lib.hid ha2;have HA3:=Lib.hid ha3;clear b2 b3 b23 hset ha2 ha3;have hP: ∀ e,pathErr stops (l.take k) x=e→Hid (pathErr stops (l.take k) x=e):=fun e h=>h
    by_cases h9:(x.frm<0∨stops≤x.frm)∨(x.to<0∨stops≤x.to)∨x.frm=x.to
    ·
     have HE:=Lib.hid (chk_bad (err:=pathErr stops) (e:=9) HX.out (by unfold pathErr;rw[if_pos (by unfold outside;simp;omega)]) (by decide));by_cases hft:x.frm=x.to
     ·
      have hft':(x.frm==x.to)=true:=by simp[hft]
      clear h9 hft;go_wp2_with fail;all_goals first
       |(go_ret2;exact⟨ret_r HE.out HC.out,B3.out⟩)
       |(exfalso;omega)
     ·
      have hft':(x.frm==x.to)=false:=by simp[hft]
      go_wp2_with fail;all_goals first
       |(exfalso;omega)
       |(go_ret2;exact⟨ret_r HE.out HC.out,B3.out⟩)
    ·
     have n1:0≤x.frm:=by omega
     have n2:x.frm<stops:=by omega
     have n3:0≤x.to:=by omega
     have n4:x.to<stops:=by omega
     have hft':(x.frm==x.to)=false:=by simp;omega
     have H9:=Lib.hid (show ¬ (outside x.frm 0 (stops-1)||(outside x.to 0 (stops-1)||x.frm==x.to))=true by unfold outside;simp;omega);clear h9;cases q with
     |true=>
      go_wp2_with fail;all_goals first
       |
        go_ret2;have HE:=chk_bad (err:=pathErr stops) (e:=2) HX.out (by unfold pathErr;rw[if_neg H9.out,if_pos (by unfold outside;simp;omega)]) (by decide);exact⟨ret_r HE HC.out,B3.out⟩
       |
        go_ret2;have HE:=chk_bad (err:=pathErr stops) (e:=6) HX.out (by unfold pathErr;rw[if_neg H9.out,if_neg (by unfold outside;simp;omega),if_pos HQ.out]) (by decide);exact⟨ret_r HE HC.out,B3.out⟩
     |false=>
      go_wp2_with fail;all_goals first
       |
        go_ret2;have HE:=chk_bad (err:=pathErr stops) (e:=2) HX.out (by unfold pathErr;rw[if_neg H9.out,if_pos (by unfold outside;simp;omega)]) (by decide);exact⟨ret_r HE HC.out,B3.out⟩
       |have HG:=chk_good (err:=pathErr stops) HX.out (by unfold pathErr;rw[if_neg H9.out,if_neg (by unfold outside;simp;omega),if_neg (by rw[HQ.out];decide)])
        exact⟨⟨k+1,_,⟨by omega,by go_num⟩,⟨by rw[take_snoc_at HX.out,List.map_append];exact pathkSet_snoc KG HSS.out.1 HKO.out,HA2.out⟩,HG.symm.trans HC.out,B3.out.grown HA3.out (by omega) (fun k hk=>by cases hk;omega)⟩,by simp[intOf];omega⟩
   ·
    have HE:=Lib.hid (chk_end (err:=(pathErr stops)) (show l.length≤k by omega));go_wp2;go_ret2;exact⟨ret_r HE.out HC.out,hbl⟩
theorem paths_c (vl:Value) (l:List PathD) (stops:Int) (r:Int×Int) (H:Hid (checkS 512 (pathErr stops) l=r)) (hok:Hid (∀ x∈l,isInt x.frm∧isInt x.to)) (B:Nat) (w:World) (hl:SlIn pathCells 4 B w vl l) (hB:B≤w.heap.size):
  Calls Tryz.prog 34 #[vl, .int .i64 stops] w fun e w'=>e= .returned (.tuple #[.int .i64 r.1, .int .i64 r.2])∧Bl w w':=by
 obtain⟨al,capl,rfl,ll1,ll2⟩:=hl.val;by_cases hmany:512<l.length
 ·
  have HR:=Lib.hid (checkS_many (err:=pathErr stops) hmany);go_enter Tryz.func34,Tryz.ntmps34
  go_wp2;go_ret2;exact⟨ret_r HR.out H.out,bl_refl _⟩
 ·
  have hfew:l.length≤512:=by omega
  have hc:=psound_c _ l stops r ((checkS_few hfew).symm.trans H.out) hok B w hl hB;clear hmany;go_enter Tryz.func34,Tryz.ntmps34
  go_wp2_with (go_at_call 60;refine hc.mono ?_;rintro e w1 ⟨rfl,b1⟩;have HB1:=Lib.hid b1;clear b1)
  go_ret2;exact⟨rfl,HB1.out⟩
end Go.Proofs.YtncbcmiflffakaaGreat
namespace Go.Proofs.YtncbcmiflffakaaGreat
open Go.RowKit
open Frq Thr Tt
theorem within_c (n lo hi:Int) (w:World):Calls Tryz.prog 61 #[.int .i64 n, .int .i64 lo, .int .i64 hi] w fun e w'=>e= .returned (.bool (!outside n lo hi))∧w=w':=by
 have h:(n<lo∧outside n lo hi=true)∨(lo≤n∧n≤hi∧outside n lo hi=false)∨(lo≤n∧hi<n∧outside n lo hi=true):=by
  unfold outside;by_cases h0:n<lo
  · exact .inl ⟨h0,by simp[h0]⟩
  ·
   by_cases h1:n≤hi
   · exact .inr (.inl ⟨by omega,h1,by simp;omega⟩)
   · exact .inr (.inr ⟨by omega,by omega,by simp;omega⟩)
 rcases h with⟨h1,h⟩|⟨h1,h2,h⟩|⟨h1,h2,h⟩
 all_goals
  rw[h];clear h;go_enter Tryz.func61,Tryz.ntmps61
  go_wp2;go_ret;exact⟨ret_bool (by first|rfl|(simp;omega)),rfl⟩
theorem within_b {n lo hi:Int} {o:Bool} (H:Hid (outside n lo hi=o)) (w:World):Calls Tryz.prog 61 #[.int .i64 n, .int .i64 lo, .int .i64 hi] w fun e w'=>e= .returned (.bool (!o))∧w=w':=by
 rw[←H.out];exact within_c n lo hi w
theorem prods_c (vl:Value) (f:FareD) (r:Int×Int) (H:Hid (fareChk f=r)) (hs:Hid (∀ x∈f.prods,x.id.length≤9223372036854775807)) (B:Nat) (w:World) (hl:SlIn prodCells 6 B w vl f.prods) (hB:B≤w.heap.size):
  Calls Tryz.prog 36 #[fareV vl f] w fun e w'=>e= .returned (.tuple #[.int .i64 r.1, .int .i64 r.2])∧Bl w w':=by
 obtain⟨al,capl,rfl,ll1,ll2⟩:=hl.val;obtain⟨l,disc,wit,cap⟩:=f;have hl:SlIn prodCells 6 B w (.slice al l.length capl) l:=hl;have hs:Hid (∀ x∈l,x.id.length≤9223372036854775807):=hs;have ll1:l.length≤capl:=ll1;have HL:=Lib.hid hl;clear hl;obtain⟨o1,h1⟩: ∃ o,outside disc 0 1000000=o:=⟨_,rfl⟩;obtain⟨o2,h2⟩: ∃ o,outside wit 0 86400=o:=⟨_,rfl⟩;obtain⟨o3,h3⟩: ∃ o,outside cap 0 1000000=o:=⟨_,rfl⟩;have H1:=Lib.hid h1;have H2:=Lib.hid h2;have H3:=Lib.hid h3;obtain⟨w0,hw0⟩: ∃ w0,w.alloc (.cells #[.slice al l.length capl, .int .i64 disc, .int .i64 wit, .int .i64 cap] 33)=w0:=⟨_,rfl⟩;have b0:Bl w w0:=by rw[←hw0];exact bl_alloc (bl_refl _) _
 have s0:w0.heap.size=w.heap.size+1:=by rw[←hw0];simp
 have f0:w0.cell? ⟨w.heap.size,0,none⟩=some (.slice al l.length capl):=by rw[←hw0,World.cell?_alloc_at (hn:=rfl)];rfl
 have f1:w0.cell? ⟨w.heap.size,1,none⟩=some (.int .i64 disc):=by rw[←hw0,World.cell?_alloc_at (hn:=rfl)];rfl
 have f2:w0.cell? ⟨w.heap.size,2,none⟩=some (.int .i64 wit):=by rw[←hw0,World.cell?_alloc_at (hn:=rfl)];rfl
 have f3:w0.cell? ⟨w.heap.size,3,none⟩=some (.int .i64 cap):=by rw[←hw0,World.cell?_alloc_at (hn:=rfl)];rfl
 have HB0:=Lib.hid b0;clear h1 h2 h3 b0;by_cases hbad:(o1||(o2||o3))=true
 ·
  have HR:=Lib.hid (show((-1:Int),(2:Int))=r by rw[←H.out];unfold fareChk;rw[if_pos (by show(outside disc 0 1000000||(outside wit 0 86400||outside cap 0 1000000))=true;rw[H1.out,H2.out,H3.out];exact hbad)]);show Calls Tryz.prog _ #[.agg #[.slice al l.length capl, .int .i64 disc, .int .i64 wit, .int .i64 cap]] w _
  go_enter Tryz.func36,Tryz.ntmps36
  cases o1<;>cases o2<;>cases o3
  all_goals first
   |(exact absurd hbad (by decide))
   |
    go_wp2_with (first
     |(go_at_call 61;(with_reducible refine(within_b H1 _).mono ?_);rintro e w3 ⟨rfl,rfl⟩)
     |(go_at_call 61;(with_reducible refine(within_b H2 _).mono ?_);rintro e w3 ⟨rfl,rfl⟩)
     |(go_at_call 61;(with_reducible refine(within_b H3 _).mono ?_);rintro e w3 ⟨rfl,rfl⟩))
    go_ret2;exact⟨ret_r rfl HR.out,HB0.out⟩
 ·
  have H123:o1=false∧o2=false∧o3=false:=by cases o1<;>cases o2<;>cases o3<;>simp_all
  obtain⟨rfl,rfl,rfl⟩:=H123;have HC0:Hid (checkS 16 prodErr l=r):=by show _=_;rw[←H.out];unfold fareChk;rw[if_neg (by show ¬ (outside disc 0 1000000||(outside wit 0 86400||outside cap 0 1000000))=true;rw[H1.out,H2.out,H3.out];decide)]
  clear hbad;show Calls Tryz.prog _ #[.agg #[.slice al l.length capl, .int .i64 disc, .int .i64 wit, .int .i64 cap]] w _
  by_cases hmany:16<l.length
  ·
   have HR:=Lib.hid (checkS_many (err:=prodErr) hmany);go_enter Tryz.func36,Tryz.ntmps36
   go_wp2_with (first
     |(go_at_call 61;(with_reducible refine(within_b H1 _).mono ?_);rintro e w3 ⟨rfl,rfl⟩)
     |(go_at_call 61;(with_reducible refine(within_b H2 _).mono ?_);rintro e w3 ⟨rfl,rfl⟩)
     |(go_at_call 61;(with_reducible refine(within_b H3 _).mono ?_);rintro e w3 ⟨rfl,rfl⟩))
   go_ret2;exact⟨ret_r HR.out HC0.out,HB0.out⟩
  ·
   have hfew:l.length≤16:=by omega
   have HR:Hid (chk prodErr (l.take 0) (l.drop 0)=r):=(checkS_few hfew).symm.trans HC0.out;have hmm:= @run_makeMap Tryz.prog;obtain⟨w1,hw1⟩: ∃ w1,w0.alloc (.map #[] 0)=w1:=⟨_,rfl⟩;have HS1:Hid (StrSet w1 w0.heap.size 0 (fun _=>false)):=by rw[←hw1];exact ownsSet_made w0 Tryz.prog 9 4
   have b1:Bl w0 w1:=by rw[←hw1];exact bl_alloc (bl_refl _) _
   have g0:w1.cell? ⟨w.heap.size,0,none⟩=some (.slice al l.length capl):=((bl_cell b1).1 _ _ (by omega)).trans f0;have B1:Hid (Bl w w1):=bl_next HB0.out b1;clear hmany b1;go_enter Tryz.func36,Tryz.ntmps36
   go_wp2_with (first
     |(go_at_call 61;(with_reducible refine(within_b H1 _).mono ?_);rintro e w3 ⟨rfl,rfl⟩)
     |(go_at_call 61;(with_reducible refine(within_b H2 _).mono ?_);rintro e w3 ⟨rfl,rfl⟩)
     |(go_at_call 61;(with_reducible refine(within_b H3 _).mono ?_);rintro e w3 ⟨rfl,rfl⟩))
   rw[s0]at HS1;clear hw1 hmm hw0 f0 f1 f2 f3 g0;go_loopw [31] (fun i wr=> ∃ (k:Nat) (S:Lit→Bool),(k≤l.length∧i= .int .i64 k)∧Hid (WordSet ((l.take k).map (·.id)) S∧StrSet wr (w.heap.size+1) k S)∧Hid (chk prodErr (l.take k) (l.drop k)=r)∧Bl w wr) (fun i _=>l.length-(intOf i).toNat)
   case atStart=>exact⟨0,_,⟨Nat.zero_le _,rfl⟩,⟨wordSet_nil,HS1.out⟩,HR,B1.out⟩
   case round=>
    obtain⟨k,S,⟨hk,rfl⟩,HSS,HC,hbl⟩:=hrel;have z1:=hbl.size;by_cases hlt:k<l.length
    ·
     obtain⟨bl',ol,x,rfl,hbs,hx,hc⟩:=HL.out.get hlt hbl hB;have d0:wr.cell? ⟨bl',ol+k*6,none⟩=some (str x.id):=hc 0 _ rfl;have d1:wr.cell? ⟨bl',ol+k*6+1,none⟩=some (.int .i64 x.price):=hc 1 _ rfl;have d2:wr.cell? ⟨bl',ol+k*6+2,none⟩=some (.int .i64 x.rides):=hc 2 _ rfl;have d3:wr.cell? ⟨bl',ol+k*6+3,none⟩=some (.int .i64 x.zones):=hc 3 _ rfl;have d4:wr.cell? ⟨bl',ol+k*6+4,none⟩=some (.int .i64 x.secs):=hc 4 _ rfl;have d5:wr.cell? ⟨bl',ol+k*6+5,none⟩=some (.int .i64 x.modes):=hc 5 _ rfl;have hkI:(k:Int)<(l.length:Int):=by omega
     have HX:=Lib.hid hx;have hsz:=hs.out x (List.mem_of_getElem? hx);clear hx hc;obtain⟨p,hp⟩: ∃ p,nameB x.id=p:=⟨_,rfl⟩;obtain⟨q,hq⟩: ∃ q,S (.string x.id)=q:=⟨_,rfl⟩;have HP:=Lib.hid hp;have HQ:Hid (((l.take k).any fun y=>y.id==x.id)=q):=by show _=_;rw[words_any (l.take k) (·.id) HSS.out.1,hq]
     obtain⟨w2,hw2⟩: ∃ w2,wr.alloc (.cells #[str x.id, .int .i64 x.price, .int .i64 x.rides, .int .i64 x.zones, .int .i64 x.secs, .int .i64 x.modes] 142)=w2:=⟨_,rfl⟩;have b2:Bl wr w2:=by rw[←hw2];exact bl_alloc (bl_refl _) _
     have t0:w2.cell? ⟨wr.heap.size,0,none⟩=some (str x.id):=by rw[←hw2,World.cell?_alloc_at (hn:=rfl)];rfl
     have t1:w2.cell? ⟨wr.heap.size,1,none⟩=some (.int .i64 x.price):=by rw[←hw2,World.cell?_alloc_at (hn:=rfl)];rfl
     have t2:w2.cell? ⟨wr.heap.size,2,none⟩=some (.int .i64 x.rides):=by rw[←hw2,World.cell?_alloc_at (hn:=rfl)];rfl
     have t3:w2.cell? ⟨wr.heap.size,3,none⟩=some (.int .i64 x.zones):=by rw[←hw2,World.cell?_alloc_at (hn:=rfl)];rfl
     have t4:w2.cell? ⟨wr.heap.size,4,none⟩=some (.int .i64 x.secs):=by rw[←hw2,World.cell?_alloc_at (hn:=rfl)];rfl
     have t5:w2.cell? ⟨wr.heap.size,5,none⟩=some (.int .i64 x.modes):=by rw[←hw2,World.cell?_alloc_at (hn:=rfl)];rfl
     have s2:w2.heap.size=wr.heap.size+1:=by rw[←hw2];simp
     have B2:Hid (Bl w w2):=bl_next hbl b2;have hset:=HSS.out.2.bl b2;have hlook:=hset.look str_law Tryz.underlying115 Tryz.underlying4 (zero_bool w2) (key_str hsz);rw[hq]at hlook;obtain⟨wa,ha1,ha2,ha3⟩:=hset.put str_law Tryz.underlying115 Tryz.underlying4 (by unfold maxLen;omega) (key_str hsz);have HA2:=Lib.hid ha2;have HA3:=Lib.hid ha3;clear hp hq b2 hset ha2 ha3;have hid:=fun w=>Ms.ident_c ⟨x.id.toArray⟩ (by show x.id.toArray.size≤_;rw[List.size_toArray];unfold maxLen;omega) p HP w
     obtain⟨c1,h1⟩: ∃ o,outside x.price 0 1000000=o:=⟨_,rfl⟩;obtain⟨c2,h2⟩: ∃ o,outside x.rides 1 8=o:=⟨_,rfl⟩;obtain⟨c3,h3⟩: ∃ o,outside x.zones 1 16=o:=⟨_,rfl⟩;obtain⟨c4,h4⟩: ∃ o,outside x.secs 0 86400=o:=⟨_,rfl⟩;obtain⟨c5,h5⟩: ∃ o,outside x.modes 1 255=o:=⟨_,rfl⟩;have C1:=Lib.hid h1;have C2:=Lib.hid h2;have C3:=Lib.hid h3;have C4:=Lib.hid h4;have C5:=Lib.hid h5;have HW:Hid ((outside x.price 0 1000000||(outside x.rides 1 8||(outside x.zones 1 16||(outside x.secs 0 86400||outside x.modes 1 255))))=(c1||(c2||(c3||(c4||c5))))):=by show _=_;rw[h1,h2,h3,h4,h5]
     clear h1 h2 h3 h4 h5;cases p with
     |false=>
      have HE:=Lib.hid (chk_bad (err:=prodErr) HX.out (show prodErr (l.take k) x=12 by unfold prodErr;rw[if_pos HP.out]) (by decide));go_wp2_with (go_at_call 49;refine(hid _).mono ?_;rintro e w3 ⟨rfl,rfl⟩)
      go_ret2;exact⟨ret_r HE.out HC.out,B2.out⟩
     |true=>
      have HP1:=Lib.hid (show ¬ nameB x.id=false by rw[HP.out];decide);cases q with
      |true=>
       have HE:=Lib.hid (chk_bad (err:=prodErr) HX.out (show prodErr (l.take k) x=6 by unfold prodErr;rw[if_neg HP1.out,if_pos HQ.out]) (by decide));go_wp2_with (go_at_call 49;refine(hid _).mono ?_;rintro e w3 ⟨rfl,rfl⟩)
       go_ret2;exact⟨ret_r HE.out HC.out,B2.out⟩
      |false=>
       have HQ1:=Lib.hid (show ¬ ((l.take k).any fun y=>y.id==x.id)=true by rw[HQ.out];decide);go_wp2_with (first
        |(go_at_call 49;refine(hid _).mono ?_;rintro e w3 ⟨rfl,rfl⟩)
        |(go_at_call 61;(with_reducible refine(within_b C1 _).mono ?_);rintro e w3 ⟨rfl,rfl⟩;cases c1)
        |(go_at_call 61;(with_reducible refine(within_b C2 _).mono ?_);rintro e w3 ⟨rfl,rfl⟩;cases c2)
        |(go_at_call 61;(with_reducible refine(within_b C3 _).mono ?_);rintro e w3 ⟨rfl,rfl⟩;cases c3)
        |(go_at_call 61;(with_reducible refine(within_b C4 _).mono ?_);rintro e w3 ⟨rfl,rfl⟩;cases c4)
        |(go_at_call 61;(with_reducible refine(within_b C5 _).mono ?_);rintro e w3 ⟨rfl,rfl⟩;cases c5))
       all_goals first
        |
         go_ret2;have HE:=chk_bad (err:=prodErr) (e:=2) HX.out (by unfold prodErr;rw[if_neg HP1.out,if_neg HQ1.out,if_pos (by rw[HW.out];simp)]) (by decide);exact⟨ret_r HE HC.out,B2.out⟩
        |have HG:=chk_good (err:=prodErr) HX.out (by unfold prodErr;rw[if_neg HP1.out,if_neg HQ1.out,if_neg (by rw[HW.out];decide)])
         exact⟨⟨k+1,_,⟨by omega,by go_num⟩,⟨by rw[ids_take (·.id) HX.out];exact HSS.out.1.snoc x.id,HA2.out⟩,HG.symm.trans HC.out,B2.out.grown HA3.out (by omega) (fun k hk=>by cases hk;omega)⟩,by simp[intOf];omega⟩
    ·
     have HE:=Lib.hid (chk_end (err:=prodErr) (show l.length≤k by omega));go_wp2;go_ret2;exact⟨ret_r HE.out HC.out,hbl⟩
end Go.Proofs.YtncbcmiflffakaaGreat
