/-
  What the laws of top need of TopRnE, TopRnF, TopRnG, TopRnH. Conditions: those of each lemma.
-/
import Derived.Test.YtncbcmiflffakaaGreatPkRnD
import Derived.Test.YtncbcmiflffakaaGreatPkMs
set_option maxRecDepth 1000000
set_option maxHeartbeats 32000000
namespace Go.Proofs.YtncbcmiflffakaaGreat
open Go.RowKit
open Frq Thr Tt Num Clk Dat Fld Da
theorem upTo_lim (c m:Nat): ∀ (E pre:List RunD),c+pre.length≤m→
  (c+pre.length+E.length≤m→upTo (fun l=>decide (c+l.length≤m)) pre E=pre++E)∧(m<c+pre.length+E.length→m<c+(upTo (fun l=>decide (c+l.length≤m)) pre E).length)
 |[],pre,_=>⟨fun _=>by rw[List.append_nil];rfl,fun h=>by simp at h;omega⟩
 |x::E,pre,h=>by
  by_cases h1:c+(pre.length+1)≤m
  ·
   have e:upTo (fun l=>decide (c+l.length≤m)) pre (x::E)=upTo (fun l=>decide (c+l.length≤m)) (pre++[x]) E:=by
    show(if _ then _ else _)=_
    rw[if_pos (by simpa using h1)]
   obtain⟨i1,i2⟩:=upTo_lim c m E (pre++[x]) (by simpa using h1);rw[e];rw[List.length_append,List.length_singleton]at i1 i2;refine⟨fun h2=>?_,fun h2=>?_⟩
   ·
    rw[i1 (by rw[List.length_cons]at h2;omega),List.append_assoc];rfl
   · exact i2 (by rw[List.length_cons]at h2;omega)
  ·
   have e:upTo (fun l=>decide (c+l.length≤m)) pre (x::E)=pre++[x]:=by
    show(if _ then _ else _)=_
    rw[if_neg (by simpa using h1)]
   rw[e];exact⟨fun h2=>by rw[List.length_cons]at h2;omega,fun _=>by rw[List.length_append,List.length_singleton];omega⟩
theorem dayRuns_mono (t:TtD) (day:Int) {k n:Nat} (h:k≤n):(dayRuns t day k).length≤(dayRuns t day n).length:=by
 obtain⟨c,rfl⟩: ∃ c,n=k+c:=⟨n-k,by omega⟩;clear h;induction c with
 |zero=>exact Nat.le_refl _
 |succ c ih=>rw[←Nat.add_assoc,dayRuns_succ,List.length_append];omega
theorem allRuns_mono (t:TtD) (frm:Int) {d n:Nat} (h:d≤n):(allRuns t frm d).length≤(allRuns t frm n).length:=by
 obtain⟨c,rfl⟩: ∃ c,n=d+c:=⟨n-d,by omega⟩;clear h;induction c with
 |zero=>exact Nat.le_refl _
 |succ c ih=>rw[←Nat.add_assoc,allRuns_succ,List.length_append];omega
theorem allRuns_part (t:TtD) (frm:Int) {d n k:Nat} (h:d<n) (hk:k≤t.trips.length):(allRuns t frm d).length+(dayRuns t (frm+d) k).length≤(allRuns t frm n).length:=by
 have h1:=allRuns_mono t frm (show d+1≤n from h);rw[allRuns_succ,List.length_append]at h1;have:=dayRuns_mono t (frm+d) hk;omega
theorem RunsOwn.low {base base':Nat} {w:World} {v:Value} {xs:List RunV} (h:RunsOwn base w v xs) (hb:base'≤base):RunsOwn base' w v xs:=⟨own_low h.row hb,fun x hx=>own_low (h.calls x hx) hb⟩
theorem OutR.bl {g:Nat} {xs:List RunV} {o:Option Nat} {w w':World} (h:OutR g xs o w) (hb:Bl w w'):OutR g xs o w':=by
 obtain⟨v,h1,h2,h3⟩:=h;exact⟨v,blk_bl h1 hb,h2.bl hb,h3⟩
theorem adds_days (g:Nat) (xs0:List RunV):Adds 112 #[.pointer (some ⟨g,0,none⟩)] g (fun l=>decide (xs0.length+l.length≤1024)) (fun ys o w=>OutR g (xs0++ys) o w) where
 enters:=fun _ _=>by kernel_rfl
 keep:=fun _ _ _ _ h hb=>h.bl hb
 turn:=fun ys o w w' b C h hg hbl hob hbg=>by
  obtain⟨v,h1,h2,h3⟩:=h;refine⟨v,(hg.block g (lt_of_block h1) (fun e=>Nat.ne_of_lt hbg (Option.some.inj e))).trans h1,⟨own_kept h2.row hg (fun b' hb' e=>hob (by rw[←h3,hb',e])),fun x hx=>own_kept (h2.calls x hx) hg (fun b' hb' e=>?_)⟩,h3⟩;exact own_ne hbl (by decide) (h2.calls x hx) (by rw[e];exact hb')
 lt:=fun ys o w h=>by
  obtain⟨v,h1,h2,h3⟩:=h;exact⟨lt_of_block h1,fun r hr=>(World.ownsRow.lt h2.row r (h3.trans hr)).2⟩
 add:=fun ys o x w h hx hc=>by
  have hc':xs0.length+ys.length≤1024:=by simpa using hc
  refine(dadd_c g (xs0++ys) x w o (by rw[List.length_append];exact hc') h hx).mono ?_;rintro e w' ⟨rfl,o',h1,h2,h3⟩;refine⟨?_,o',by rw[←List.append_assoc];exact h1,h2,h3⟩;exact ret_bool (decide_eq_decide.2 (by simp only[List.length_append,List.length_map,List.length_singleton];omega))
theorem days_c (V:TtV) (ts:List TripD) (t:TtD) (hs:Hid (SoundT t)) (frm til:Int) (h0:0≤frm) (h1:frm≤til) (h2:til≤36524) (B:Nat) (w:World) (rd:TtRd B w V ts t) (hB:B≤w.heap.size):
  Calls Tryz.prog 77 #[ttV V t, .int .i64 frm, .int .i64 til] w fun e w'=> ∃ v' xs,e= .returned (.tuple #[v', .int .i64 (daysR t frm til).2])∧xs.map (·.r)=(daysR t frm til).1∧RunsOwn w.heap.size w' v' xs∧Bl w w':=by
 have RD:=Lib.hid rd;have htl:ts.length=t.trips.length:=by rw[rd.same,List.length_map]
 obtain⟨l0,l1,l2,l3,l4,-⟩:=hs.out.lens;have HTL:=Lib.hid htl;have hlI:(ts.length:Int)≤256:=by omega
 obtain⟨v0,v1,v2,v3,v4,v5,v6,v7,v8,v9⟩:=V;obtain⟨a4,k4,(rfl:v4=_),-,-⟩:=rd.trips.sl.val;clear htl rd;have hT:=blk_bl (heap_alloc_new w (.cells (ttCells ⟨v0,v1,v2,v3, .slice a4 ts.length k4,v5,v6,v7,v8,v9⟩ t.fares) 35)) (bl_alloc (bl_refl _) (.cells #[.slice none 0 0] 51));have hG:=heap_alloc_new (w.alloc (.cells (ttCells ⟨v0,v1,v2,v3, .slice a4 ts.length k4,v5,v6,v7,v8,v9⟩ t.fares) 35)) (.cells #[.slice none 0 0] 51);rw[World.size_alloc]at hG;unfold ttV;go_enter Tryz.func77,Tryz.ntmps77
 go_wp2_with fail;have hbl:Bl w ((w.alloc (.cells (ttCells ⟨v0,v1,v2,v3, .slice a4 ts.length k4,v5,v6,v7,v8,v9⟩ t.fares) 35)).alloc (.cells #[.slice none 0 0] 51)):=bl_alloc (bl_alloc (bl_refl _) _) _;have HS0:=Lib.hid (And.intro hT (And.intro hG hbl));obtain⟨n,hn⟩: ∃ n:Nat,(til-frm+1).toNat=n:=⟨_,rfl⟩;have hnI:frm+(n:Int)=til+1:=by omega
 have HN:=Lib.hid hn;clear hT hG hbl hn;go_loopw [10] (fun i wr=> ∃ (d:Nat) (xs:List RunV) (o:Option Nat),(d≤n∧i= .int .i64 (frm+d))∧Hid (OutR (w.heap.size+1) xs o wr∧xs.map (·.r)=allRuns t frm d∧xs.length≤1024∧wr.heap[w.heap.size]? =some (.cells (ttCells ⟨v0,v1,v2,v3, .slice a4 ts.length k4,v5,v6,v7,v8,v9⟩ t.fares) 35 (0,0))∧Bl w wr)) (fun i _=>(til+1-intOf i).toNat)
 case atStart=>exact⟨0,[],none,⟨Nat.zero_le _,by simp⟩,Lib.hid ⟨⟨_,HS0.out.2.1,⟨World.ownsRow_nil _ _ _ _,by simp⟩,rfl⟩,rfl,by simp,HS0.out.1,HS0.out.2.2⟩⟩
 case round=>
  obtain⟨d,xs,o,⟨hd,rfl⟩,HR⟩:=hrel;by_cases hlt:d<n
  ·
   have hdI:frm+(d:Int)≤til:=by omega
   have hT2:=HR.out.2.2.2.1;have q4:wr.cell? ⟨w.heap.size,4,none⟩=some (.slice a4 ts.length k4):=blk_cell hT2 4 _ rfl;clear hT2;go_wp2_with fail;rename World=>wo
   go_loopw [22] (fun i wr=> ∃ (k:Nat) (xs:List RunV) (o:Option Nat),(k≤ts.length∧i= .int .i64 k)∧Hid (OutR (w.heap.size+1) xs o wr∧xs.map (·.r)=allRuns t frm d++dayRuns t (frm+d) k∧xs.length≤1024∧wr.heap[w.heap.size]? =some (.cells (ttCells ⟨v0,v1,v2,v3, .slice a4 ts.length k4,v5,v6,v7,v8,v9⟩ t.fares) 35 (0,0))∧Bl w wr)) (fun i _=>ts.length-(intOf i).toNat)
   case atStart=>exact⟨0,xs,o,⟨Nat.zero_le _,rfl⟩,Lib.hid ⟨HR.out.1,by rw[HR.out.2.1];simp[dayRuns],HR.out.2.2⟩⟩
   case round=>
    clear q4 HR;obtain⟨k,ys,o',⟨hk,rfl⟩,HR⟩:=hrel;by_cases hlt2:k<ts.length
    ·
     have hltI:(k:Int)<(ts.length:Int):=by omega
     have hE:=expand_c 112 #[.pointer (some ⟨w.heap.size+1,0,none⟩)] (w.heap.size+1) (fun l=>decide (ys.length+l.length≤1024)) (fun zs o w1=>OutR (w.heap.size+1) (ys++zs) o w1) o' (Lib.hid (adds_days _ ys)) (decide_eq_true HR.out.2.2.1)
      ⟨v0,v1,v2,v3, .slice a4 ts.length k4,v5,v6,v7,v8,v9⟩ ts t hs k (frm+d) (by rw[←HTL.out];exact hlt2) (Lib.hid (by unfold dvalid;simp;omega)) B wr (RD.out.bl HR.out.2.2.2.2 hB) (by omega) (by rw[List.append_nil];exact HR.out.1)
     unfold ttV at hE;have HE:=Lib.hid hE;have hT2:=HR.out.2.2.2.1;have q: ∀ j u,(ttCells ⟨v0,v1,v2,v3, .slice a4 ts.length k4,v5,v6,v7,v8,v9⟩ t.fares)[j]? =some u→wr.cell? ⟨w.heap.size,j,none⟩=some u:=fun j u hj=>blk_cell hT2 j u hj
     have q0:=q 0 _ rfl;have q1:=q 1 _ rfl;have q2:=q 2 _ rfl;have q3:=q 3 _ rfl;have q4:=q 4 _ rfl;have q5:=q 5 _ rfl;have q6:=q 6 _ rfl;have q7:=q 7 _ rfl;have q8:=q 8 _ rfl;have q9:=q 9 _ rfl;have q10:=q 10 _ rfl;have q11:=q 11 _ rfl;have q12:=q 12 _ rfl;clear hE hT2 q;go_wp2_with fail;refine HE.out.mono ?_;rintro e w5 ⟨rfl,zs,o5,i5,m5,b5⟩;obtain⟨v,hv,hown,ho⟩:=i5;obtain⟨a,c,rfl⟩:=slice_of_own hown.row;have c5:w5.cell? ⟨w.heap.size+1,0,none⟩=some (.slice a (ys++zs).length c):=blk_cell hv 0 _ rfl;obtain⟨l1,l2⟩:=upTo_lim ys.length 1024 (expandP t k (frm+d)) [] (by simpa using HR.out.2.2.1);rw[←m5]at l1 l2;simp only[List.nil_append,List.length_nil,Nat.add_zero,List.length_map]at l1 l2;have H5:=Lib.hid (And.intro (show OutR (w.heap.size+1) (ys++zs) o5 w5 from⟨_,hv,hown,ho⟩) (And.intro m5 b5));have B5:Hid (Bl w w5):=Lib.hid (HR.out.2.2.2.2.trans (b5.mono (Nat.le_succ _)));have T5:=Lib.hid ((b5.block w.heap.size (by omega)).trans HR.out.2.2.2.1);rw[List.length_append]at c5;clear q0 q1 q2 q3 q4 q5 q6 q7 q8 q9 q10 q11 q12 hv hown ho HE;by_cases hlim:ys.length+(expandP t k (frm+d)).length≤1024
     ·
      have hm:=l1 hlim;have hz:zs.length=(expandP t k (frm+d)).length:=by rw[←hm,List.length_map]
      have HM:=Lib.hid hm;have hle:((ys.length:Int)+(zs.length:Int))≤1024:=by omega
      have HZ:=Lib.hid hz;have HLim:=Lib.hid hlim;clear l1 l2 m5 b5 hm hz hlim;go_wp2_with fail;exact⟨⟨k+1,ys++zs,o5,⟨by omega,by go_num⟩,Lib.hid ⟨H5.out.1,by rw[List.map_append,HR.out.2.1,HM.out,dayRuns_succ,List.append_assoc],by rw[List.length_append];omega,T5.out,B5.out⟩⟩,by simp only[intOf];omega⟩
     ·
      have hm:=l2 (by omega);have hle:1024<((ys.length:Int)+(zs.length:Int)):=by omega
      have HLim:=Lib.hid hlim;clear l1 l2 m5 b5 hm hlim;go_wp2_with fail;go_ret2;have hd:daysR t frm til=([],5):=by
       have h1:=allRuns_part t frm hlt (show k+1≤t.trips.length by rw[←HTL.out];omega);have h2:=congrArg List.length HR.out.2.1;rw[List.length_map,List.length_append]at h2;rw[dayRuns_succ,List.length_append]at h1;unfold daysR;rw[HN.out,if_pos (by have:=HLim.out;omega)]
      rw[hd];exact⟨_,[],rfl,rfl,⟨World.ownsRow_nil _ _ _ _,by simp⟩,B5.out⟩
    ·
     obtain rfl:k=ts.length:=by omega
     go_wp2_with fail;exact⟨⟨d+1,ys,o',⟨by omega,by simp;omega⟩,Lib.hid ⟨HR.out.1,by rw[HR.out.2.1,allRuns_succ,HTL.out],HR.out.2.2⟩⟩,by simp only[intOf];omega⟩
  ·
   obtain rfl:d=n:=by omega
   obtain⟨v,hv,hown,ho⟩:=HR.out.1;obtain⟨a,c,rfl⟩:=slice_of_own hown.row;have c5:wr.cell? ⟨w.heap.size+1,0,none⟩=some (.slice a xs.length c):=blk_cell hv 0 _ rfl;have H5:=Lib.hid hown;clear hv hown ho;go_wp2_with fail;go_ret2;have hd:daysR t frm til=(allRuns t frm d,0):=by
    unfold daysR;rw[HN.out,←HR.out.2.1,List.length_map,if_neg (by have:=HR.out.2.2.1;omega)]
   rw[hd];exact⟨_,xs,rfl,HR.out.2.1,H5.out.low (by omega),HR.out.2.2.2.2⟩
end Go.Proofs.YtncbcmiflffakaaGreat
namespace Go.Proofs.YtncbcmiflffakaaGreat
open Go.RowKit
open Frq Thr Tt Num Clk Dat Fld Da
theorem ofdays_c (V:TtV) (ts:List TripD) (t:TtD) (hc:Hid (ttChk t=(0,0,0))) (ok:Hid (TtOk t)) (frm til:Int) (h0:0≤frm) (h1:frm≤til) (h2:til≤36524) (h3:til-frm<8) (B:Nat) (w:World) (rd:TtRd B w V ts t) (hB:B≤w.heap.size):
  Calls Tryz.prog 44 #[ttV V t, .int .i64 frm, .int .i64 til] w fun e w'=> ∃ v' xs,e= .returned (.tuple #[v', .int .i64 (daysR t frm til).2])∧xs.map (·.r)=(daysR t frm til).1∧RunsOwn w.heap.size w' v' xs∧Bl w w':=by
 have RD:=Lib.hid rd;have HD1:=Lib.hid (fun w=>dValid_b frm true (Lib.hid (by unfold dvalid;simp;omega)) w);have HD2:=Lib.hid (fun w=>dValid_b til true (Lib.hid (by unfold dvalid;simp;omega)) w);have hC:=fun(w1:World) (h:Bl w w1)=>tcheck_c V ts t 0 0 0 hc ok B w1 (rd.bl h hB) (Nat.le_trans hB h.size)
 have hD:=fun(w1:World) (h:Bl w w1)=>days_c V ts t (Lib.hid (sound_of (by rw[hc.out]))) frm til h0 h1 h2 B w1 (rd.bl h hB) (Nat.le_trans hB h.size)
 obtain⟨v0,v1,v2,v3,v4,v5,v6,v7,v8,v9⟩:=V;unfold ttV at hC hD ⊢;have HC:=Lib.hid hC;have HD:=Lib.hid hD;clear hC hD rd;have HT:=Lib.hid (heap_alloc_new w (.cells (ttCells ⟨v0,v1,v2,v3,v4,v5,v6,v7,v8,v9⟩ t.fares) 35));have HB:=Lib.hid (show Bl w (w.alloc (.cells (ttCells ⟨v0,v1,v2,v3,v4,v5,v6,v7,v8,v9⟩ t.fares) 35)) from bl_alloc (bl_refl _) _);go_enter Tryz.func44,Tryz.ntmps44
 go_wp2_with fail;refine(HC.out _ HB.out).mono ?_;rintro e w2 ⟨rfl,b2⟩;have hT:=blk_bl HT.out b2;have B2:=Lib.hid (bl_next HB.out b2);have q: ∀ j u,(ttCells ⟨v0,v1,v2,v3,v4,v5,v6,v7,v8,v9⟩ t.fares)[j]? =some u→w2.cell? ⟨w.heap.size,j,none⟩=some u:=fun j u hj=>blk_cell hT j u hj
 have q0:=q 0 _ rfl;have q1:=q 1 _ rfl;have q2:=q 2 _ rfl;have q3:=q 3 _ rfl;have q4:=q 4 _ rfl;have q5:=q 5 _ rfl;have q6:=q 6 _ rfl;have q7:=q 7 _ rfl;have q8:=q 8 _ rfl;have q9:=q 9 _ rfl;have q10:=q 10 _ rfl;have q11:=q 11 _ rfl;have q12:=q 12 _ rfl;clear q;clear hT b2;go_wp2_with fail;refine(HD1.out _).mono ?_;rintro e w' ⟨rfl,rfl⟩;go_wp2_with fail;refine(HD2.out _).mono ?_;rintro e w' ⟨rfl,rfl⟩;go_wp2_with fail;refine(HD.out _ B2.out).mono ?_;rintro e w3 ⟨v',xs,rfl,m3,o3,b3⟩;have H3:=Lib.hid (And.intro m3 (And.intro o3 (bl_next B2.out b3)));have hz:=B2.out.size;clear m3 o3 b3;go_wp2_with fail;go_ret2;exact⟨_,xs,rfl,H3.out.1,H3.out.2.1.low hz,H3.out.2.2⟩
end Go.Proofs.YtncbcmiflffakaaGreat
namespace Go.Proofs.YtncbcmiflffakaaGreat
open Go.RowKit
open Frq Thr Tt Num Clk Dat Fld Da
theorem run_ext {x y:RunD} (h0:(x.trip==y.trip)=true) (h1:(x.day==y.day)=true) (h2:(x.inst==y.inst)=true) (h3:(x.id==y.id)=true) (h4:(x.route==y.route)=true) (h5:(x.free==y.free)=true) (h6:(x.canc==y.canc)=true):decide (x=y)=decide (x.calls=y.calls):=by
 simp only[beq_iff_eq]at h0 h1 h2 h3 h4 h5 h6;apply decide_eq_decide.2
 exact⟨fun h=>by rw[h],fun h=>by cases x;cases y;simp_all⟩
theorem run_ne0 {x y:RunD} (h:(x.trip==y.trip)=false):decide (x=y)=false:=by
 simp only[beq_eq_false_iff_ne]at h;exact decide_eq_false fun e=>h (by rw[e])
theorem run_ne1 {x y:RunD} (h:(x.day==y.day)=false):decide (x=y)=false:=by
 simp only[beq_eq_false_iff_ne]at h;exact decide_eq_false fun e=>h (by rw[e])
theorem run_ne2 {x y:RunD} (h:(x.inst==y.inst)=false):decide (x=y)=false:=by
 simp only[beq_eq_false_iff_ne]at h;exact decide_eq_false fun e=>h (by rw[e])
theorem run_ne3 {x y:RunD} (h:(x.id==y.id)=false):decide (x=y)=false:=by
 simp only[beq_eq_false_iff_ne]at h;exact decide_eq_false fun e=>h (by rw[e])
theorem run_ne4 {x y:RunD} (h:(x.route==y.route)=false):decide (x=y)=false:=by
 simp only[beq_eq_false_iff_ne]at h;exact decide_eq_false fun e=>h (by rw[e])
theorem run_ne5 {x y:RunD} (h:(x.free==y.free)=false):decide (x=y)=false:=by
 simp only[beq_eq_false_iff_ne]at h;exact decide_eq_false fun e=>h (by rw[e])
theorem run_ne6 {x y:RunD} (h:(x.canc==y.canc)=false):decide (x=y)=false:=by
 simp only[beq_eq_false_iff_ne]at h;exact decide_eq_false fun e=>h (by rw[e])
theorem same_c (x y:RunV) (b:Bool) (H:Hid (decide (x.r=y.r)=b)) (B:Nat) (w:World) (hx:CallsIn B w x.v x.r.calls) (hy:CallsIn B w y.v y.r.calls) (hB:B≤w.heap.size):
  Calls Tryz.prog 135 #[runVal x,runVal y] w fun e w'=>e= .returned (.bool b)∧Bl w w':=by
 cases h0:(x.r.trip==y.r.trip)with
 |false=>
  have HF:=Lib.hid ((run_ne0 h0).symm.trans H.out);clear H hx hy;go_enter Tryz.func135,Tryz.ntmps135
  go_wp2_with fail;go_ret;exact⟨ret_bool HF.out,bl_alloc (bl_alloc (bl_refl _) _) _⟩
 |true=>
 cases h1:(x.r.day==y.r.day)with
 |false=>
  have HF:=Lib.hid ((run_ne1 h1).symm.trans H.out);clear H hx hy;go_enter Tryz.func135,Tryz.ntmps135
  go_wp2_with fail;go_ret;exact⟨ret_bool HF.out,bl_alloc (bl_alloc (bl_refl _) _) _⟩
 |true=>
 cases h2:(x.r.inst==y.r.inst)with
 |false=>
  have HF:=Lib.hid ((run_ne2 h2).symm.trans H.out);clear H hx hy;go_enter Tryz.func135,Tryz.ntmps135
  go_wp2_with fail;go_ret;exact⟨ret_bool HF.out,bl_alloc (bl_alloc (bl_refl _) _) _⟩
 |true=>
 cases h3:(x.r.id==y.r.id)with
 |false=>
  have HF:=Lib.hid ((run_ne3 h3).symm.trans H.out);clear H hx hy;go_enter Tryz.func135,Tryz.ntmps135
  go_wp2_with fail;go_ret;exact⟨ret_bool HF.out,bl_alloc (bl_alloc (bl_refl _) _) _⟩
 |true=>
 cases h4:(x.r.route==y.r.route)with
 |false=>
  have HF:=Lib.hid ((run_ne4 h4).symm.trans H.out);clear H hx hy;go_enter Tryz.func135,Tryz.ntmps135
  go_wp2_with fail;go_ret;exact⟨ret_bool HF.out,bl_alloc (bl_alloc (bl_refl _) _) _⟩
 |true=>
 cases h5:(x.r.free==y.r.free)with
 |false=>
  have HF:=Lib.hid ((run_ne5 h5).symm.trans H.out);clear H hx hy;go_enter Tryz.func135,Tryz.ntmps135
  go_wp2_with fail;go_ret;exact⟨ret_bool HF.out,bl_alloc (bl_alloc (bl_refl _) _) _⟩
 |true=>
 cases h6:(x.r.canc==y.r.canc)with
 |false=>
  have HF:=Lib.hid ((run_ne6 h6).symm.trans H.out);clear H hx hy;go_enter Tryz.func135,Tryz.ntmps135
  go_wp2_with fail;go_ret;exact⟨ret_bool HF.out,bl_alloc (bl_alloc (bl_refl _) _) _⟩
 |true=>
 have HQ:=Lib.hid ((run_ext h0 h1 h2 h3 h4 h5 h6).symm.trans H.out);have HW:=Lib.hid (fun(w1:World) (h:Bl w w1)=>Ms.eqCalls_c x.v y.v x.r.calls y.r.calls b HQ B w1 (hx.below (h.mono hB)) (hy.below (h.mono hB)) (Nat.le_trans hB h.size));clear H hx hy;go_enter Tryz.func135,Tryz.ntmps135
 go_wp2_with fail;refine(HW.out _ (bl_alloc (bl_alloc (bl_refl _) _) _)).mono ?_;rintro e w3 ⟨rfl,b3⟩;have B3:=Lib.hid (bl_next (bl_alloc (bl_alloc (bl_refl w) _) _) b3);clear b3;go_wp2_with fail;go_ret;exact⟨rfl,B3.out⟩
end Go.Proofs.YtncbcmiflffakaaGreat
namespace Go.Proofs.YtncbcmiflffakaaGreat
open Go.RowKit
open Frq Thr Tt Num Clk Dat Fld Da
def lastEq (r:RunD) (l:List RunD):Bool:=match l.getLast? with
 |some x=>decide (x=r)
 |none=>false
theorem lastEq_snoc (r:RunD) (l:List RunD) (x:RunD):lastEq r (l++[x])=decide (x=r):=by
 unfold lastEq;rw[List.getLast?_append];rfl
theorem upTo_any (r:RunD): ∀ (E pre:List RunD),lastEq r pre=false→lastEq r (upTo (fun l=> !lastEq r l) pre E)=E.any fun x=>decide (x=r)
 |[],pre,h=>h
 |x::E,pre,h=>by
  rw[List.any_cons];have e:(fun l=> !lastEq r l) (pre++[x])= !decide (x=r):=by
   show(!lastEq r (pre++[x]))=_
   rw[lastEq_snoc]
  show lastEq r (if(fun l=> !lastEq r l) (pre++[x])=true then upTo (fun l=> !lastEq r l) (pre++[x]) E else pre++[x])=_
  rw[e];cases hx:decide (x=r)with
  |true=>
   rw[if_neg (by simp),lastEq_snoc,hx];rfl
  |false=>
   rw[if_pos (by simp),upTo_any r E (pre++[x]) (by rw[lastEq_snoc,hx])];rfl
theorem dsame_c (g rb:Nat) (r x:RunV) (u:Value) (B:Nat) (w:World) (hg:w.heap[g]? =some (.cells #[u] 4 (0,0))) (hr:w.heap[rb]? =some (runBox r)) (hrc:CallsIn B w r.v r.r.calls) (hB:B≤g) (hx:CallsIn w.heap.size w x.v x.r.calls):
  Calls Tryz.prog 134 #[runVal x, .pointer (some ⟨rb,0,none⟩), .pointer (some ⟨g,0,none⟩)] w fun e w'=>e= .returned (.bool (!decide (x.r=r.r)))∧w'.heap[g]? =some (.cells #[.bool (decide (x.r=r.r))] 4 (0,0))∧
   (∀ b,b<w.heap.size→b≠g→w'.heap[b]? =w.heap[b]?)∧Below g w w':=by
 obtain⟨d,hd⟩: ∃ d,decide (x.r=r.r)=d:=⟨_,rfl⟩;have hgl:=lt_of_block hg;have HS:=Lib.hid (fun(w1:World) (h:Bl w w1)=>same_c x r d (Lib.hid hd) w1.heap.size w1 (hx.bl h) ((hrc.below (h.mono (by omega))).mono (by have:=h.size;omega)) (Nat.le_refl _));rw[hd];have HG:=Lib.hid hg;have HR:=Lib.hid hr;have c0:w.cell? ⟨rb,0,none⟩=some (.int .i64 r.r.trip):=blk_cell hr 0 _ rfl;have c1:w.cell? ⟨rb,1,none⟩=some (.int .i64 r.r.day):=blk_cell hr 1 _ rfl;have c2:w.cell? ⟨rb,2,none⟩=some (.int .i64 r.r.inst):=blk_cell hr 2 _ rfl;have c3:w.cell? ⟨rb,3,none⟩=some (str r.r.id):=blk_cell hr 3 _ rfl;have c4:w.cell? ⟨rb,4,none⟩=some (.int .i64 r.r.route):=blk_cell hr 4 _ rfl;have c5:w.cell? ⟨rb,5,none⟩=some (.bool r.r.free):=blk_cell hr 5 _ rfl;have c6:w.cell? ⟨rb,6,none⟩=some (.bool r.r.canc):=blk_cell hr 6 _ rfl;have c7:w.cell? ⟨rb,7,none⟩=some r.v:=blk_cell hr 7 _ rfl;have hrl:=lt_of_block hr;clear hd hg hr hrc hx;go_enter Tryz.func134,Tryz.ntmps134
 go_wp2_with fail;refine(HS.out _ (bl_alloc (bl_refl w) _)).mono ?_;rintro e w3 ⟨rfl,b3⟩;have B3:=Lib.hid (bl_next (bl_alloc (bl_refl w) _) b3);have hg3:=blk_bl HG.out B3.out;have HG3:=Lib.hid hg3;have fz:w3.frozen? ⟨g,0,none⟩=false:=Lib.frozen_of_heap hg3 0;have d0:w3.cell? ⟨g,0,none⟩=some u:=blk_cell hg3 0 _ rfl;have hg3l:=lt_of_block hg3;clear b3 hg3;go_wp2_with fail;go_ret;refine⟨?_, ?_,fun b hb hne=>?_, ?_⟩
 · rfl
 ·
  have:=blk_set HG3.out 0 (.bool d);simpa using this
 · exact(Below.heap_setCell _ _ _ _ hne).trans (B3.out.block b hb)
 · exact(B3.out.mono (by omega)).setCell (Nat.le_refl g) _
theorem adds_op (g rb:Nat) (r:RunV) (B:Nat) (hB:B≤g) (hrb:rb<g):Adds 134 #[.pointer (some ⟨rb,0,none⟩), .pointer (some ⟨g,0,none⟩)] g (fun l=> !lastEq r.r l)
  (fun ys o w=>o=none∧w.heap[g]? =some (.cells #[.bool (lastEq r.r (ys.map (·.r)))] 4 (0,0))∧w.heap[rb]? =some (runBox r)∧CallsIn B w r.v r.r.calls) where
 enters:=fun _ _=>by kernel_rfl
 keep:=fun _ _ w w' h hb=>⟨h.1,blk_bl h.2.1 hb,blk_bl h.2.2.1 hb,h.2.2.2.below (hb.mono (by have:=lt_of_block h.2.1;omega))⟩
 turn:=fun ys o w w' b C h hg hbl hob hbg=>by
  have hgl:=lt_of_block h.2.1;have hrl:=lt_of_block h.2.2.1;exact⟨h.1,(hg.block g hgl (fun e=>by simp only[Option.some.injEq]at e;omega)).trans h.2.1,(hg.block rb hrl (fun e=>by simp only[Option.some.injEq]at e;omega)).trans h.2.2.1,h.2.2.2.below ⟨hg.os,hg.tape,hg.output,hg.size,fun k hk=>hg.block k (by omega) (fun e=>by simp only[Option.some.injEq]at e;omega)⟩⟩
 lt:=fun ys o w h=>⟨lt_of_block h.2.1,fun r hr=>by rw[h.1]at hr;cases hr⟩
 add:=fun ys o x w h hx hc=>by
  have hgl:=lt_of_block h.2.1;refine(dsame_c g rb r x _ B w h.2.1 h.2.2.1 h.2.2.2 hB (slIn_own callCells_len hx)).mono ?_;rintro e w' ⟨rfl,h1,h2,h3⟩;exact⟨by simp[lastEq_snoc],none,⟨rfl,by simpa[lastEq_snoc]using h1,(h2 rb (by omega) (by omega)).trans h.2.2.1,h.2.2.2.below (h3.mono hB)⟩,⟨.inl h.1.symm,fun b hb hbg _=>h2 b hb hbg⟩,h3⟩
theorem operates_c (V:TtV) (ts:List TripD) (t:TtD) (hs:Hid (SoundT t)) (r:RunV) (B:Nat) (w:World) (rd:TtRd B w V ts t) (hB:B≤w.heap.size) (hrc:CallsIn B w r.v r.r.calls):
  Calls Tryz.prog 114 #[ttV V t,runVal r] w fun e w'=>e= .returned (.bool (operatesP t r.r))∧Bl w w':=by
 have RD:=Lib.hid rd;have RC:=Lib.hid hrc;have htl:ts.length=t.trips.length:=by rw[rd.same,List.length_map]
 obtain⟨l0,l1,l2,l3,l4,-⟩:=hs.out.lens;have HTL:=Lib.hid htl;have hlI:(ts.length:Int)≤256:=by omega
 obtain⟨v0,v1,v2,v3,v4,v5,v6,v7,v8,v9⟩:=V;obtain⟨a4,k4,(rfl:v4=_),-,-⟩:=rd.trips.sl.val;have HDay:=Lib.hid (fun w=>dValid_b r.r.day (dvalid r.r.day) rfl w);obtain⟨dv,hdv⟩: ∃ d,dvalid r.r.day=d:=⟨_,rfl⟩;rw[hdv]at HDay;have hop:operatesP t r.r=(decide (0≤r.r.trip)&&(decide (r.r.trip<(ts.length:Int))&&(dv&&(expandP t r.r.trip.toNat r.r.day).any fun x=>decide (x=r.r)))):=by
  unfold operatesP;rw[htl,←hdv];rfl
 have HO:=Lib.hid hop;have HDv:=Lib.hid hdv;clear htl rd hrc hop hdv;by_cases h0:r.r.trip<0
 ·
  have HF:=Lib.hid (show operatesP t r.r=false by rw[HO.out,decide_eq_false (by omega)];rfl);unfold ttV;go_enter Tryz.func114,Tryz.ntmps114
  go_wp2_with fail;go_ret;exact⟨ret_bool HF.out.symm,bl_alloc (bl_alloc (bl_refl _) _) _⟩
 ·
  by_cases h1:(ts.length:Int)≤r.r.trip
  ·
   have HF:=Lib.hid (show operatesP t r.r=false by rw[HO.out,decide_eq_false (show ¬ r.r.trip<(ts.length:Int) by omega)];simp);have h0':decide (r.r.trip<0)=false:=decide_eq_false h0;unfold ttV;go_enter Tryz.func114,Tryz.ntmps114
   go_wp2_with fail;go_ret;exact⟨ret_bool HF.out.symm,bl_alloc (bl_alloc (bl_refl _) _) _⟩
  ·
   have h0':decide (r.r.trip<0)=false:=decide_eq_false h0;have h1':decide ((ts.length:Int)≤r.r.trip)=false:=decide_eq_false h1;obtain⟨k,hk⟩: ∃ k:Nat,r.r.trip=(k:Int):=⟨r.r.trip.toNat,by omega⟩;cases dv with
   |false=>
    have HF:=Lib.hid (show operatesP t r.r=false by rw[HO.out];simp);clear hk;unfold ttV;go_enter Tryz.func114,Tryz.ntmps114
    go_wp2_with fail;refine(HDay.out _).mono ?_;rintro e w' ⟨rfl,rfl⟩;go_wp2_with fail;go_ret;exact⟨ret_bool HF.out.symm,bl_alloc (bl_alloc (bl_refl _) _) _⟩
   |true=>
    have HF:=Lib.hid (show operatesP t r.r=(expandP t k r.r.day).any fun x=>decide (x=r.r) by rw[HO.out,hk,decide_eq_true (by omega),decide_eq_true (by omega)];rfl);have b3:Bl w (((w.alloc (.cells (ttCells ⟨v0,v1,v2,v3, .slice a4 ts.length k4,v5,v6,v7,v8,v9⟩ t.fares) 35)).alloc (runBox r)).alloc (.cells #[.bool false] 4)):=bl_alloc (bl_alloc (bl_alloc (bl_refl _) _) _) _;have hg3:(((w.alloc (.cells (ttCells ⟨v0,v1,v2,v3, .slice a4 ts.length k4,v5,v6,v7,v8,v9⟩ t.fares) 35)).alloc (runBox r)).alloc (.cells #[.bool false] 4)).heap[w.heap.size+2]? =some (.cells #[.bool false] 4 (0,0)):=by
     have:=heap_alloc_new ((w.alloc (.cells (ttCells ⟨v0,v1,v2,v3, .slice a4 ts.length k4,v5,v6,v7,v8,v9⟩ t.fares) 35)).alloc (runBox r)) (.cells #[.bool false] 4);simpa using this
    have hr3:(((w.alloc (.cells (ttCells ⟨v0,v1,v2,v3, .slice a4 ts.length k4,v5,v6,v7,v8,v9⟩ t.fares) 35)).alloc (runBox r)).alloc (.cells #[.bool false] 4)).heap[w.heap.size+1]? =some (runBox r):=by
     refine blk_bl ?_ (bl_alloc (bl_refl _) _);have:=heap_alloc_new (w.alloc (.cells (ttCells ⟨v0,v1,v2,v3, .slice a4 ts.length k4,v5,v6,v7,v8,v9⟩ t.fares) 35)) (runBox r);simpa using this
    have hE:=expand_c 134 #[.pointer (some ⟨w.heap.size+1,0,none⟩), .pointer (some ⟨w.heap.size+2,0,none⟩)] (w.heap.size+2) (fun l=> !lastEq r.r l) (fun ys o w1=>o=none∧w1.heap[w.heap.size+2]? =some (.cells #[.bool (lastEq r.r (ys.map (·.r)))] 4 (0,0))∧w1.heap[w.heap.size+1]? =some (runBox r)∧CallsIn B w1 r.v r.r.calls) none
     (Lib.hid (adds_op _ _ r B (by omega) (by omega))) rfl ⟨v0,v1,v2,v3, .slice a4 ts.length k4,v5,v6,v7,v8,v9⟩ ts t hs k r.r.day (by rw[←HTL.out];omega) HDv B (((w.alloc (.cells (ttCells ⟨v0,v1,v2,v3, .slice a4 ts.length k4,v5,v6,v7,v8,v9⟩ t.fares) 35)).alloc (runBox r)).alloc (.cells #[.bool false] 4)) (RD.out.bl b3 hB) (by omega) ⟨rfl,hg3,hr3,RC.out.below (b3.mono hB)⟩
    unfold ttV at hE;rw[←hk]at hE;have HE:=Lib.hid hE;have B3:=Lib.hid b3;clear hE b3 hg3 hr3 hk;unfold ttV;go_enter Tryz.func114,Tryz.ntmps114
    go_wp2_with fail;refine(HDay.out _).mono ?_;rintro e w' ⟨rfl,rfl⟩;go_wp2_with fail;refine HE.out.mono ?_;rintro e w5 ⟨rfl,ys,o',⟨-,h5,-,-⟩,m5,b5⟩;rw[m5,upTo_any r.r (expandP t k r.r.day) [] rfl,←HF.out]at h5;have c5:w5.cell? ⟨w.heap.size+2,0,none⟩=some (.bool (operatesP t r.r)):=blk_cell h5 0 _ rfl;have B5:=Lib.hid ((B3.out.mono (Nat.le_refl _)).trans (b5.mono (by omega)));clear h5 m5 b5;go_wp2_with fail;go_ret;exact⟨rfl,B5.out⟩
end Go.Proofs.YtncbcmiflffakaaGreat
