/-
  What the laws of top need of TopNtH. Conditions: those of each lemma.
-/
import Derived.Test.YtncbcmiflffakaaGreatPkNtG
import Derived.Test.YtncbcmiflffakaaGreatPkFpE
set_option maxRecDepth 1000000
set_option maxHeartbeats 32000000
namespace Go.Proofs.YtncbcmiflffakaaGreat
open Go.RowKit
open Frq Thr Tt
def PathsR (n:NetD) (er:Int):Prop:=
 ((chk (pathErr n.stops.length) [] n.paths).2≠0∧er=(chk (pathErr n.stops.length) [] n.paths).2)∨((chk (pathErr n.stops.length) [] n.paths).2=0∧ ∃ b,ClosedR n.stops.length n.paths b∧er=if b=false then 18 else 0)
theorem PathsR.unique {n:NetD} {e e':Int} (h:PathsR n e) (h':PathsR n e'):e=e':=by
 rcases h with⟨h1,h2⟩|⟨h1,b,h2,h3⟩
 ·
  rcases h' with⟨k1,k2⟩|⟨k1,-⟩
  · rw[h2,k2]
  · exact absurd k1 h1
 ·
  rcases h' with⟨k1,-⟩|⟨-,b',k2,k3⟩
  · exact absurd h1 k1
  · rw[h3,k3,h2.unique k2]
def pathKey (x:PathD):Int×Int×Bool:=(x.frm,x.to,x.free)
theorem pathKey_any (l:List PathD) (x:PathD) {S:Lit→Bool} {gk:Int×Int×Bool→Lit} (h:fpkSet gk (l.map pathKey) S) (hr:fpkOk (pathKey x)):(l.any fun y=>y.frm==x.frm&&(y.to==x.to&&y.free==x.free))=S (gk (pathKey x)):=by
 rw[h _ hr,List.any_map];refine congrArg (fun f=>l.any f) (funext fun y=>?_);simp only[Function.comp,pathKey];rw[Bool.eq_iff_iff];simp[Prod.ext_iff]
theorem checkpaths_c (V:NetV) (rs:List RunV) (n:NetD) (hok:Hid (∀ x∈n.paths,isInt x.frm∧isInt x.to)) (hst:n.stops.length≤64) (hpl:n.paths.length≤4096) (B:Nat) (w:World) (rd:NetRd B w V rs n) (hB:B≤w.heap.size):
  Calls Tryz.prog 102 #[netV V n.fares] w fun e w'=> ∃ er,PathsR n er∧(∃ p i:Int,e= .returned (.agg #[.int .i64 p, .int .i64 i, .int .i64 er]))∧Bl w w':=by
 obtain⟨gk,KG⟩:=fpkFn_ex;have HRd:=Lib.hid rd;obtain⟨v0,v1,v2,v3,v4,v5⟩:=V;obtain⟨a0,k0,(rfl:v0=_),-,-⟩:=rd.stops.val;obtain⟨a1,k1,(rfl:v1=_),-,-⟩:=rd.routes.val;obtain⟨a2,k2,(rfl:v2=_),-,-⟩:=rd.runs.sl.val;obtain⟨a3,k3,(rfl:v3=_),-,-⟩:=rd.links.val;obtain⟨a4,k4,(rfl:v4=_),-,-⟩:=rd.paths.val;obtain⟨a5,k5,(rfl:v5=_),-,-⟩:=rd.prods.val;have W0:=Lib.hid (check_boxes w ⟨.slice a0 n.stops.length k0, .slice a1 n.routes.length k1, .slice a2 rs.length k2, .slice a3 n.links.length k3, .slice a4 n.paths.length k4, .slice a5 n.fares.prods.length k5⟩ n.fares);have HCl:=Lib.hid (fun(w1:World) (h:Bl w w1)=>isclosed_c (.slice a4 n.paths.length k4) n.paths n.stops.length hst hpl hok B w1 (HRd.out.paths.below (h.mono hB)) (Nat.le_trans hB h.size));have hmm:= @run_makeMap Tryz.prog;clear rd;obtain⟨R,hR⟩: ∃ R,chk (pathErr n.stops.length) (n.paths.take 0) (n.paths.drop 0)=R:=⟨_,rfl⟩;have HRR:=Lib.hid hR;clear hR;go_enter Tryz.func102,Tryz.ntmps102
 go_upto_region 1 with fail
 obtain⟨w1,hw1,b1,z1,s1,bl1⟩:=W0.out;simp only at hw1 b1;change Code.wp _ _ _ _ ((w.alloc (netBox ⟨.slice a0 n.stops.length k0, .slice a1 n.routes.length k1, .slice a2 rs.length k2, .slice a3 n.links.length k3, .slice a4 n.paths.length k4, .slice a5 n.fares.prods.length k5⟩ n.fares)).alloc resBox);rw[←hw1];have H1:=Lib.hid (And.intro b1 (And.intro z1 (And.intro s1 bl1)));clear hw1 b1 z1 s1 bl1 W0;have hs1:=H1.out.2.2.1;go_upto_region 2 with fail
 have M1:=ownsSet_made w1 Tryz.prog 97 4;rw[hs1]at M1;have BM:=bl_alloc (bl_refl w1) (.map #[] 0);have HM1:=Lib.hid (And.intro M1 (And.intro (blk_bl H1.out.1 BM) (And.intro (blk_bl H1.out.2.1 BM) (bl_next H1.out.2.2.2 BM))));change Code.wp _ _ _ _ (w1.alloc (.map #[] 0));obtain⟨w3,hw3⟩: ∃ w3,w1.alloc (.map #[] 0)=w3:=⟨_,rfl⟩;rw[hw3]at HM1 ⊢;have HM3:Hid (OwnsSet w3 Tryz.prog 97 4 (w.heap.size+2) 0 (fun _=>false)∧w3.heap[w.heap.size]? =some (.cells #[.slice a0 n.stops.length k0, .slice a1 n.routes.length k1, .slice a2 rs.length k2, .slice a3 n.links.length k3, .slice a4 n.paths.length k4, .slice a5 n.fares.prods.length k5, .int .i64 n.fares.disc, .int .i64 n.fares.within, .int .i64 n.fares.cap] 54 (0,0))∧w3.heap[w.heap.size+1]? =some (.cells #[.int .i64 0, .int .i64 0, .int .i64 0] 186 (0,0))∧Bl w w3):=HM1;have c4:w3.cell? ⟨w.heap.size,4,none⟩=some (.slice a4 n.paths.length k4):=blk_cell HM3.out.2.1 4 _ rfl;clear M1 hmm BM hw3 HM1;go_wp2_with fail;clear hs1 c4;go_loopw [11] (fun i wr=> ∃ (k:Nat) (S:Lit→Bool),(k≤n.paths.length∧i= .int .i64 k)∧Hid (fpkSet gk ((n.paths.take k).map pathKey) S∧OwnsSet wr Tryz.prog 97 4 (w.heap.size+2) k S∧chk (pathErr n.stops.length) (n.paths.take k) (n.paths.drop k)=R∧wr.heap[w.heap.size]? =some (.cells #[.slice a0 n.stops.length k0, .slice a1 n.routes.length k1, .slice a2 rs.length k2, .slice a3 n.links.length k3, .slice a4 n.paths.length k4, .slice a5 n.fares.prods.length k5, .int .i64 n.fares.disc, .int .i64 n.fares.within, .int .i64 n.fares.cap] 54 (0,0))∧wr.heap[w.heap.size+1]? =some (.cells #[.int .i64 0, .int .i64 0, .int .i64 0] 186 (0,0))∧Bl w wr)) (fun i _=>n.paths.length-(intOf i).toNat)
 case atStart=>exact⟨0,_,⟨Nat.zero_le _,rfl⟩,Lib.hid ⟨fun _ _=>rfl,HM3.out.1,HRR.out,HM3.out.2.1,HM3.out.2.2.1,HM3.out.2.2.2⟩⟩
 case round=>
  obtain⟨k,S,⟨hk,rfl⟩,HR⟩:=hrel;by_cases hlt:k<n.paths.length
  ·
   have hltI:(k:Int)<(n.paths.length:Int):=by omega
   obtain⟨b,o,x,rfl,-,hx,hcx⟩:=HRd.out.paths.get (k:=k) hlt HR.out.2.2.2.2.2 hB;have hxi:=hok.out x (List.mem_of_getElem? hx);obtain⟨xf,xt,xsec,xfr⟩:=x;have c0:wr.cell? ⟨b,o+k*4,none⟩=some (.int .i64 xf):=hcx 0 _ rfl;have c1:wr.cell? ⟨b,o+k*4+1,none⟩=some (.int .i64 xt):=hcx 1 _ rfl;have c2:wr.cell? ⟨b,o+k*4+2,none⟩=some (.int .i64 xsec):=hcx 2 _ rfl;have c3:wr.cell? ⟨b,o+k*4+3,none⟩=some (.bool xfr):=hcx 3 _ rfl;have HX:=Lib.hid (And.intro hx hxi);clear hx hcx hxi;have W4:Hid (∃ w4,w4=(wr.alloc (.cells #[.int .i64 xf, .int .i64 xt, .int .i64 xsec, .bool xfr] 97)).alloc (.cells #[.int .i64 xf, .int .i64 xt, .int .i64 0, .bool xfr] 97)∧w4.heap[wr.heap.size]? =some (.cells #[.int .i64 xf, .int .i64 xt, .int .i64 xsec, .bool xfr] 97)∧w4.heap[wr.heap.size+1]? =some (.cells #[.int .i64 xf, .int .i64 xt, .int .i64 0, .bool xfr] 97)∧Bl wr w4):=by
    refine⟨_,rfl,blk_bl (heap_alloc_new wr _) (bl_alloc (bl_refl _) _), ?_,bl_alloc (bl_alloc (bl_refl _) _) _⟩;have:=heap_alloc_new (wr.alloc (.cells #[.int .i64 xf, .int .i64 xt, .int .i64 xsec, .bool xfr] 97)) (.cells #[.int .i64 xf, .int .i64 xt, .int .i64 0, .bool xfr] 97);simpa using this
   go_upto_region 6 with fail
   obtain⟨w4,hw4,hb4,hk4,Bb⟩:=W4.out;change Code.wp _ _ _ _ ((wr.alloc (.cells #[.int .i64 xf, .int .i64 xt, .int .i64 xsec, .bool xfr] 97)).alloc (.cells #[.int .i64 xf, .int .i64 xt, .int .i64 0, .bool xfr] 97));rw[←hw4];have HB4:=Lib.hid (And.intro Bb (And.intro hb4 hk4));have HZ4:=Lib.hid (And.intro (blk_bl HR.out.2.2.2.1 Bb) (And.intro (blk_bl HR.out.2.2.2.2.1 Bb) (bl_next HR.out.2.2.2.2.2 Bb)));have n0:w4.cell? ⟨w.heap.size,0,none⟩=some (.slice a0 n.stops.length k0):=blk_cell HZ4.out.1 0 _ rfl;have p0:w4.cell? ⟨wr.heap.size,0,none⟩=some (.int .i64 xf):=blk_cell hb4 0 _ rfl;have p1:w4.cell? ⟨wr.heap.size,1,none⟩=some (.int .i64 xt):=blk_cell hb4 1 _ rfl;have p2:w4.cell? ⟨wr.heap.size,2,none⟩=some (.int .i64 xsec):=blk_cell hb4 2 _ rfl;have p3:w4.cell? ⟨wr.heap.size,3,none⟩=some (.bool xfr):=blk_cell hb4 3 _ rfl;have q0:w4.cell? ⟨wr.heap.size+1,0,none⟩=some (.int .i64 xf):=blk_cell hk4 0 _ rfl;have q1:w4.cell? ⟨wr.heap.size+1,1,none⟩=some (.int .i64 xt):=blk_cell hk4 1 _ rfl;have q2:w4.cell? ⟨wr.heap.size+1,2,none⟩=some (.int .i64 0):=blk_cell hk4 2 _ rfl;have q3:w4.cell? ⟨wr.heap.size+1,3,none⟩=some (.bool xfr):=blk_cell hk4 3 _ rfl;clear hw4 hb4 hk4 Bb W4 c0 c1 c2 c3;have hbad: ∀ e:Int,pathErr n.stops.length (n.paths.take k) ⟨xf,xt,xsec,xfr⟩=e→e≠0→PathsR n e:=fun e h h0=>by
    have:=chk_bad HX.out.1 h h0;rw[HR.out.2.2.1,←HRR.out]at this;refine .inl ⟨?_, ?_⟩
    ·
     show(chk (pathErr n.stops.length) (n.paths.take 0) (n.paths.drop 0)).2≠0
     rw[this];exact h0
    ·
     show e=(chk (pathErr n.stops.length) (n.paths.take 0) (n.paths.drop 0)).2
     rw[this]
   have HBad:=Lib.hid hbad;have hOS:=HR.out.2.1.bl HB4.out.1;have hok':fpkOk (pathKey ⟨xf,xt,xsec,xfr⟩):=⟨HX.out.2.1,HX.out.2.2⟩;have hl:=hOS.look fpk_law Tryz.underlying220 Tryz.underlying4 (zero_bool w4) (KG _ hok');obtain⟨dp,hdp⟩: ∃ dp,((n.paths.take k).any fun y=>y.frm==xf&&(y.to==xt&&y.free==xfr))=dp:=⟨_,rfl⟩;have hany:=pathKey_any (n.paths.take k) ⟨xf,xt,xsec,xfr⟩ HR.out.1 hok';simp only at hany;rw[←hany,hdp]at hl;change(Instr.lookup 220 (.map (some (w.heap.size+2))) (.agg #[.int .i64 xf, .int .i64 xt, .int .i64 0, .bool xfr]) false).run Tryz.prog w4=_ at hl;have HDP:=Lib.hid hdp;have HOK:=Lib.hid hok';have HL:=Lib.hid hl;have hstI:(n.stops.length:Int)≤64:=by omega
   clear hbad hOS hok' hl hany hdp;by_cases hA:0≤xf∧xf<(n.stops.length:Int)
   ·
    have HWa:=Lib.hid (fun w=>nwithin_b xf n.stops.length true (Lib.hid (decide_eq_true hA)) w);go_wp2_with fail;refine(HWa.out w4).mono ?_;rintro e w5 ⟨rfl,rfl⟩;by_cases hBB:0≤xt∧xt<(n.stops.length:Int)
    ·
     have HWb:=Lib.hid (fun w=>nwithin_b xt n.stops.length true (Lib.hid (decide_eq_true hBB)) w);go_wp2_with fail;refine(HWb.out w4).mono ?_;rintro e w5 ⟨rfl,rfl⟩;by_cases hCC:xf=xt
     ·
      have e1:(xf==xt)=true:=by rw[beq_iff_eq];exact hCC
      have HE:=Lib.hid (HBad.out 9 (by unfold pathErr;rw[if_pos (by simp[hCC])]) (by decide));clear hCC;go_wp2_with fail;refine(nof_c 4 k 9 w4).mono ?_;rintro e w9 ⟨rfl,b9⟩;have H9:=Lib.hid (And.intro (blk_bl HZ4.out.2.1 b9) (bl_next HZ4.out.2.2 b9));obtain⟨c0,c1,c2,f0,f1,f2⟩:=res_cells H9.out.1;clear b9;go_wp2_with fail;obtain⟨PP,QQ⟩:=res_put H9.out.1 H9.out.2 (Nat.le_succ _) (.int .i64 4) (.int .i64 k) (.int .i64 9);refine bodyPost_ret (results_cell_row rfl _ _ (w.heap.size+1) 186 _ (0,0) _ rfl PP Tryz.underlying186 rfl (by kernel_rfl)) rfl ?_;exact⟨_,HE.out,⟨4,k,rfl⟩,QQ⟩
     ·
      have e1:(xf==xt)=false:=by rw[beq_eq_false_iff_ne];exact hCC
      have H9:=Lib.hid (show ¬ (outside xf 0 ((n.stops.length:Int)-1)||(outside xt 0 ((n.stops.length:Int)-1)||xf==xt))=true by rw[e1];unfold outside;simp;omega);clear hA hBB hCC;by_cases h1:xsec<1
      ·
       have HE:=Lib.hid (HBad.out 2 (by unfold pathErr;rw[if_neg H9.out,if_pos (by unfold outside;simp;omega)]) (by decide));go_wp2_with fail;refine(nof_c 4 k 2 w4).mono ?_;rintro e w9 ⟨rfl,b9⟩;have H9:=Lib.hid (And.intro (blk_bl HZ4.out.2.1 b9) (bl_next HZ4.out.2.2 b9));obtain⟨c0,c1,c2,f0,f1,f2⟩:=res_cells H9.out.1;clear b9;go_wp2_with fail;obtain⟨PP,QQ⟩:=res_put H9.out.1 H9.out.2 (Nat.le_succ _) (.int .i64 4) (.int .i64 k) (.int .i64 2);refine bodyPost_ret (results_cell_row rfl _ _ (w.heap.size+1) 186 _ (0,0) _ rfl PP Tryz.underlying186 rfl (by kernel_rfl)) rfl ?_;exact⟨_,HE.out,⟨4,k,rfl⟩,QQ⟩
      by_cases h2:14400<xsec
      ·
       have HE:=Lib.hid (HBad.out 2 (by unfold pathErr;rw[if_neg H9.out,if_pos (by unfold outside;simp;omega)]) (by decide));go_wp2_with fail;refine(nof_c 4 k 2 w4).mono ?_;rintro e w9 ⟨rfl,b9⟩;have H9:=Lib.hid (And.intro (blk_bl HZ4.out.2.1 b9) (bl_next HZ4.out.2.2 b9));obtain⟨c0,c1,c2,f0,f1,f2⟩:=res_cells H9.out.1;clear b9;go_wp2_with fail;obtain⟨PP,QQ⟩:=res_put H9.out.1 H9.out.2 (Nat.le_succ _) (.int .i64 4) (.int .i64 k) (.int .i64 2);refine bodyPost_ret (results_cell_row rfl _ _ (w.heap.size+1) 186 _ (0,0) _ rfl PP Tryz.underlying186 rfl (by kernel_rfl)) rfl ?_;exact⟨_,HE.out,⟨4,k,rfl⟩,QQ⟩
      have hre: ∀ d,dp=d→pathErr n.stops.length (n.paths.take k) ⟨xf,xt,xsec,xfr⟩=if d=true then 6 else 0:=fun d hd=>by
       unfold pathErr;simp only;rw[if_neg H9.out,if_neg (by unfold outside;simp;omega),HDP.out,hd]
      have hl:=HL.out;cases dp with
      |true=>
       have HE:=Lib.hid (HBad.out 6 (hre true rfl) (by decide));clear hre;go_wp2_with fail;refine(nof_c 4 k 6 w4).mono ?_;rintro e w9 ⟨rfl,b9⟩;have H9:=Lib.hid (And.intro (blk_bl HZ4.out.2.1 b9) (bl_next HZ4.out.2.2 b9));obtain⟨c0,c1,c2,f0,f1,f2⟩:=res_cells H9.out.1;clear b9;go_wp2_with fail;obtain⟨PP,QQ⟩:=res_put H9.out.1 H9.out.2 (Nat.le_succ _) (.int .i64 4) (.int .i64 k) (.int .i64 6);refine bodyPost_ret (results_cell_row rfl _ _ (w.heap.size+1) 186 _ (0,0) _ rfl PP Tryz.underlying186 rfl (by kernel_rfl)) rfl ?_;exact⟨_,HE.out,⟨4,k,rfl⟩,QQ⟩
      |false=>
       have hnext:=(chk_good HX.out.1 (hre false rfl)).symm.trans HR.out.2.2.1;have hOS:=HR.out.2.1.bl HB4.out.1;obtain⟨wp,hrun,OP,gp⟩:=hOS.put fpk_law Tryz.underlying220 Tryz.underlying4 (by unfold maxLen;omega) (KG _ HOK.out);have hset:=fpkSet_snoc KG HR.out.1 HOK.out;have htk:(n.paths.take (k+1)).map pathKey=(n.paths.take k).map pathKey++[pathKey ⟨xf,xt,xsec,xfr⟩]:=by rw[take_snoc_at HX.out.1,List.map_append];rfl
       rw[←htk]at hset;change(Instr.mapUpdate 220 (.map (some (w.heap.size+2))) (.agg #[.int .i64 xf, .int .i64 xt, .int .i64 0, .bool xfr]) (.bool true)).run Tryz.prog w4=_ at hrun;have l4:=HR.out.2.1.lt;have z4:=HB4.out.1.size;have zw:=HR.out.2.2.2.2.2.size;have g0:wp.heap[w.heap.size]? =_:=(gp.block _ (by omega) (fun e=>by simp only[Option.some.injEq]at e;omega)).trans HZ4.out.1;have g1:wp.heap[w.heap.size+1]? =_:=(gp.block _ (by omega) (fun e=>by simp only[Option.some.injEq]at e;omega)).trans HZ4.out.2.1;have hbp:Bl w wp:=HZ4.out.2.2.grown gp (by omega) (fun q hq=>by simp only[Option.some.injEq]at hq;omega);have HPP:=Lib.hid (And.intro hset (And.intro OP (And.intro hnext (And.intro g0 (And.intro g1 hbp)))));clear hre hnext hOS OP gp hset htk l4 z4 zw g0 g1 hbp;go_wp2_with fail;exact⟨⟨k+1,_,⟨by omega,by go_num⟩,HPP⟩,by simp only[intOf];omega⟩
    ·
     have HWb:=Lib.hid (fun w=>nwithin_b xt n.stops.length false (Lib.hid (decide_eq_false hBB)) w);have HE:=Lib.hid (HBad.out 9 (by unfold pathErr;rw[if_pos (by unfold outside;simp;omega)]) (by decide));clear hA hBB;go_wp2_with fail;refine(HWb.out w4).mono ?_;rintro e w5 ⟨rfl,rfl⟩;go_wp2_with fail;refine(nof_c 4 k 9 w4).mono ?_;rintro e w9 ⟨rfl,b9⟩;have H9:=Lib.hid (And.intro (blk_bl HZ4.out.2.1 b9) (bl_next HZ4.out.2.2 b9));obtain⟨c0,c1,c2,f0,f1,f2⟩:=res_cells H9.out.1;clear b9;go_wp2_with fail;obtain⟨PP,QQ⟩:=res_put H9.out.1 H9.out.2 (Nat.le_succ _) (.int .i64 4) (.int .i64 k) (.int .i64 9);refine bodyPost_ret (results_cell_row rfl _ _ (w.heap.size+1) 186 _ (0,0) _ rfl PP Tryz.underlying186 rfl (by kernel_rfl)) rfl ?_;exact⟨_,HE.out,⟨4,k,rfl⟩,QQ⟩
   ·
    have HWa:=Lib.hid (fun w=>nwithin_b xf n.stops.length false (Lib.hid (decide_eq_false hA)) w);have HE:=Lib.hid (HBad.out 9 (by unfold pathErr;rw[if_pos (by unfold outside;simp;omega)]) (by decide));clear hA;go_wp2_with fail;refine(HWa.out w4).mono ?_;rintro e w5 ⟨rfl,rfl⟩;go_wp2_with fail;refine(nof_c 4 k 9 w4).mono ?_;rintro e w9 ⟨rfl,b9⟩;have H9:=Lib.hid (And.intro (blk_bl HZ4.out.2.1 b9) (bl_next HZ4.out.2.2 b9));obtain⟨c0,c1,c2,f0,f1,f2⟩:=res_cells H9.out.1;clear b9;go_wp2_with fail;obtain⟨PP,QQ⟩:=res_put H9.out.1 H9.out.2 (Nat.le_succ _) (.int .i64 4) (.int .i64 k) (.int .i64 9);refine bodyPost_ret (results_cell_row rfl _ _ (w.heap.size+1) 186 _ (0,0) _ rfl PP Tryz.underlying186 rfl (by kernel_rfl)) rfl ?_;exact⟨_,HE.out,⟨4,k,rfl⟩,QQ⟩
  ·
   obtain rfl:k=n.paths.length:=by omega
   have hr0:(chk (pathErr n.stops.length) [] n.paths).2=0:=by
    have:=HRR.out.trans HR.out.2.2.1.symm;rw[chk_end (Nat.le_refl _)]at this;exact congrArg Prod.snd this
   have HE:=Lib.hid hr0;have n0:wr.cell? ⟨w.heap.size,0,none⟩=some (.slice a0 n.stops.length k0):=blk_cell HR.out.2.2.2.1 0 _ rfl;have n4:wr.cell? ⟨w.heap.size,4,none⟩=some (.slice a4 n.paths.length k4):=blk_cell HR.out.2.2.2.1 4 _ rfl;clear hr0;go_wp2_with fail;refine(HCl.out wr HR.out.2.2.2.2.2).mono ?_;rintro e w5 ⟨bc,rfl,hcl,b5⟩;have HZ5:=Lib.hid (And.intro (blk_bl HR.out.2.2.2.2.1 b5) (bl_next HR.out.2.2.2.2.2 b5));have HP:=Lib.hid (show PathsR n (if bc=false then 18 else 0) from .inr ⟨HE.out,bc,hcl,rfl⟩);clear hcl b5 n0 n4;cases bc with
   |false=>
    go_wp2_with fail;refine(nof_c 4 0 18 w5).mono ?_;rintro e w9 ⟨rfl,b9⟩;have H9:=Lib.hid (And.intro (blk_bl HZ5.out.1 b9) (bl_next HZ5.out.2 b9));obtain⟨c0,c1,c2,f0,f1,f2⟩:=res_cells H9.out.1;clear b9;go_wp2_with fail;obtain⟨PP,QQ⟩:=res_put H9.out.1 H9.out.2 (Nat.le_succ _) (.int .i64 4) (.int .i64 0) (.int .i64 18);refine bodyPost_ret (results_cell_row rfl _ _ (w.heap.size+1) 186 _ (0,0) _ rfl PP Tryz.underlying186 rfl (by kernel_rfl)) rfl ?_;exact⟨_,HP.out,⟨4,0,rfl⟩,QQ⟩
   |true=>
    obtain⟨c0,c1,c2,f0,f1,f2⟩:=res_cells HZ5.out.1;go_wp2_with fail;obtain⟨PP,QQ⟩:=res_put HZ5.out.1 HZ5.out.2 (Nat.le_succ _) (.int .i64 0) (.int .i64 0) (.int .i64 0);refine bodyPost_ret (results_cell_row rfl _ _ (w.heap.size+1) 186 _ (0,0) _ rfl PP Tryz.underlying186 rfl (by kernel_rfl)) rfl ?_;exact⟨_,HP.out,⟨0,0,rfl⟩,QQ⟩
theorem nfirst_c (g:Nat) (p1 i1 e1 p2 i2 e2:Int) (w:World) (h:w.heap[g]? =some (.cells #[.int .i64 p1, .int .i64 i1, .int .i64 e1, .int .i64 p2, .int .i64 i2, .int .i64 e2] 186 (0,0))):
  Calls Tryz.prog 98 #[.slice (some ⟨g,0,none⟩) 2 2] w fun e w'=>(∃ p i:Int,e= .returned (.agg #[.int .i64 p, .int .i64 i, .int .i64 (if e1≠0 then e1 else e2)]))∧Bl w w':=by
 have hg:=lt_of_block h;have HG:=Lib.hid h;have Z:=Lib.hid (And.intro (heap_alloc_new w resBox) (bl_alloc (bl_refl w) resBox));clear h;go_enter Tryz.func98,Tryz.ntmps98
 go_upto_region 1 with fail
 have hz1:(w.alloc resBox).heap.size=w.heap.size+1:=by simp
 have HZ:=Lib.hid Z.out;change Code.wp _ _ _ _ (w.alloc resBox);obtain⟨w1,hw1⟩: ∃ w1,w.alloc resBox=w1:=⟨_,rfl⟩;rw[hw1]at HZ hz1 ⊢;have HZ1:Hid (w1.heap[w.heap.size]? =some (.cells #[.int .i64 0, .int .i64 0, .int .i64 0] 186 (0,0))∧Bl w w1):=HZ;have hg1:=blk_bl HG.out HZ1.out.2;have c0:w1.cell? ⟨g,0,none⟩=some (.int .i64 p1):=blk_cell hg1 0 _ rfl;have c1:w1.cell? ⟨g,1,none⟩=some (.int .i64 i1):=blk_cell hg1 1 _ rfl;have c2:w1.cell? ⟨g,2,none⟩=some (.int .i64 e1):=blk_cell hg1 2 _ rfl;have c3:w1.cell? ⟨g,3,none⟩=some (.int .i64 p2):=blk_cell hg1 3 _ rfl;have c4:w1.cell? ⟨g,4,none⟩=some (.int .i64 i2):=blk_cell hg1 4 _ rfl;have c5:w1.cell? ⟨g,5,none⟩=some (.int .i64 e2):=blk_cell hg1 5 _ rfl;have hgl:=lt_of_block hg1;have hzl:=lt_of_block HZ1.out.1;obtain⟨d0,d1,d2,f0,f1,f2⟩:=res_cells HZ1.out.1;clear hw1 HZ Z hg1 hz1;by_cases h1:e1=0
 ·
  subst h1;have x1:((0:Int) != 0)=false:=rfl;by_cases h2:e2=0
  ·
   subst h2;go_wp2_with fail;refine wp_loop_rounds 4 ?_;rw[rounds_succ];go_wp2_with fail;rw[rounds_succ];go_wp2_with fail;rw[rounds_succ];go_wp2_with fail;obtain⟨PP,QQ0⟩:=res_put HZ1.out.1 HZ1.out.2 (Nat.le_refl _) (.int .i64 0) (.int .i64 0) (.int .i64 0);refine bodyPost_ret (results_cell_row rfl _ _ w.heap.size 186 _ (0,0) _ rfl (blk_bl PP (bl_alloc (bl_alloc (bl_refl _) _) _)) Tryz.underlying186 rfl (by kernel_rfl)) rfl ?_;exact⟨⟨0,0,rfl⟩,(bl_alloc (bl_alloc QQ0 _) _)⟩
  ·
   have x2:(e2 != 0)=true:=by rw[bne_iff_ne];exact h2
   clear h2;go_wp2_with fail;refine wp_loop_rounds 4 ?_;rw[rounds_succ];go_wp2_with fail;rw[rounds_succ];go_wp2_with fail;obtain⟨PP,QQ0⟩:=res_put HZ1.out.1 HZ1.out.2 (Nat.le_refl _) (.int .i64 p2) (.int .i64 i2) (.int .i64 e2);refine bodyPost_ret (results_cell_row rfl _ _ w.heap.size 186 _ (0,0) _ rfl (blk_bl PP (bl_alloc (bl_alloc (bl_refl _) _) _)) Tryz.underlying186 rfl (by kernel_rfl)) rfl ?_;exact⟨⟨p2,i2,rfl⟩,(bl_alloc (bl_alloc QQ0 _) _)⟩
 ·
  have x1:(e1 != 0)=true:=by rw[bne_iff_ne];exact h1
  have H1:=Lib.hid h1;clear h1;go_wp2_with fail;refine wp_loop_rounds 4 ?_;rw[rounds_succ];go_wp2_with fail;obtain⟨PP,QQ0⟩:=res_put HZ1.out.1 HZ1.out.2 (Nat.le_refl _) (.int .i64 p1) (.int .i64 i1) (.int .i64 e1);refine bodyPost_ret (results_cell_row rfl _ _ w.heap.size 186 _ (0,0) _ rfl (blk_bl PP (bl_alloc (bl_refl _) _)) Tryz.underlying186 rfl (by kernel_rfl)) rfl ?_;exact⟨⟨p1,i1,by first|rfl|rw[if_pos H1.out]⟩,(bl_alloc QQ0 _)⟩
theorem res3 {w:World} {g:Nat} {a b c:Value} (h:w.heap[g]? =some (.cells #[a,b,c] 186 (0,0))):
  w.cell? ⟨g,0,none⟩=some a∧w.cell? ⟨g,1,none⟩=some b∧w.cell? ⟨g,2,none⟩=some c∧w.frozen? ⟨g,0,none⟩=false∧w.frozen? ⟨g,1,none⟩=false∧w.frozen? ⟨g,2,none⟩=false:=
 ⟨blk_cell h 0 _ rfl,blk_cell h 1 _ rfl,blk_cell h 2 _ rfl,Lib.frozen_of_heap h 0,Lib.frozen_of_heap h 1,Lib.frozen_of_heap h 2⟩
theorem res_put3 {w w9:World} {g z:Nat} {a b c:Value} {C:Array Value} {T:TypeId} (h:w9.heap[g]? =some (.cells #[a,b,c] 186 (0,0))) (hn:w9.heap[z]? =some (.cells C T (0,0))) (hz:z≠g) (hb:Bl w w9) (hg:w.heap.size≤g) (p i x:Value):
  (((w9.setCell ⟨g,0,none⟩ p).setCell ⟨g,1,none⟩ i).setCell ⟨g,2,none⟩ x).heap[g]? =some (.cells #[p,i,x] 186 (0,0))∧(((w9.setCell ⟨g,0,none⟩ p).setCell ⟨g,1,none⟩ i).setCell ⟨g,2,none⟩ x).heap[z]? =some (.cells C T (0,0))∧Bl w (((w9.setCell ⟨g,0,none⟩ p).setCell ⟨g,1,none⟩ i).setCell ⟨g,2,none⟩ x):=
 ⟨(put3 h).1,((put3 h).2.block z (lt_of_block hn) (fun e=>hz (Option.some.inj e))).trans hn,bl_new hb (put3 h).2 hg⟩
def netErrP (n:NetD) (pe:Int):Int:=
 let e0:=(checkS 64 stopErr n.stops).2
 let e1:=(checkS 64 routeErr n.routes).2
 let e2:=(checkS 1024 (runErr n.stops.length n.routes.length) n.runs).2
 let e3:=(checkS 1024 (linkErr n.runs) n.links).2
 let e4:=(fareChk n.fares).2
 if e0≠0 then e0 else if e1≠0 then e1 else if e2≠0 then e2 else if e3≠0 then e3 else if pe≠0 then pe else e4
def partsOk (n:NetD):Prop:=(checkS 64 stopErr n.stops).2=0∧(checkS 64 routeErr n.routes).2=0∧(checkS 1024 (runErr n.stops.length n.routes.length) n.runs).2=0∧(checkS 1024 (linkErr n.runs) n.links).2=0
def NetR (n:NetD) (er:Int):Prop:= ∃ pe,(partsOk n→PathsR n pe)∧er=netErrP n pe
theorem netErrP_bad {n:NetD} (h: ¬ partsOk n) (p q:Int):netErrP n p=netErrP n q:=by
 unfold netErrP;simp only;split
 · rfl
 split
 · rfl
 split
 · rfl
 split
 · rfl
 rename_i h0 h1 h2 h3;exact absurd ⟨Classical.not_not.1 h0,Classical.not_not.1 h1,Classical.not_not.1 h2,Classical.not_not.1 h3⟩ h
theorem NetR.unique {n:NetD} {e e':Int} (h:NetR n e) (h':NetR n e'):e=e':=by
 obtain⟨p,hp,rfl⟩:=h;obtain⟨p',hp',rfl⟩:=h';by_cases hk:partsOk n
 · rw[(hp hk).unique (hp' hk)]
 · exact netErrP_bad hk _ _
structure NetOk (n:NetD):Prop where
 few:FewN n
 stops:n.stops.length≤64
 paths:n.paths.length≤4096
 runs: ∀ r∈n.runs,r.id.length≤9223372036854775807∧isInt r.day∧isInt r.inst
 ends: ∀ x∈n.paths,isInt x.frm∧isInt x.to
 sids: ∀ x∈n.stops,x.id.length≤9223372036854775807
 rids: ∀ x∈n.routes,x.id.length≤9223372036854775807
 pids: ∀ x∈n.fares.prods,x.id.length≤9223372036854775807
theorem ncheck_c (V:NetV) (rs:List RunV) (n:NetD) (ok:Hid (NetOk n)) (B:Nat) (w:World) (rd:NetRd B w V rs n) (hB:B≤w.heap.size):
  Calls Tryz.prog 69 #[netV V n.fares] w fun e w'=> ∃ er p i:Int,NetR n er∧e= .returned (.tuple #[.int .i64 p, .int .i64 i, .int .i64 er])∧Bl w w':=by
 have HRd:=Lib.hid rd;obtain⟨v0,v1,v2,v3,v4,v5⟩:=V;obtain⟨a0,k0,(rfl:v0=_),-,-⟩:=rd.stops.val;obtain⟨a1,k1,(rfl:v1=_),-,-⟩:=rd.routes.val;obtain⟨a2,k2,(rfl:v2=_),-,-⟩:=rd.runs.sl.val;obtain⟨a3,k3,(rfl:v3=_),-,-⟩:=rd.links.val;obtain⟨a4,k4,(rfl:v4=_),-,-⟩:=rd.paths.val;obtain⟨a5,k5,(rfl:v5=_),-,-⟩:=rd.prods.val;obtain⟨⟨i0,e0⟩,h0⟩: ∃ r,checkS 64 stopErr n.stops=r:=⟨_,rfl⟩;obtain⟨⟨i1,e1⟩,h1⟩: ∃ r,checkS 64 routeErr n.routes=r:=⟨_,rfl⟩;obtain⟨e2,h2⟩: ∃ r,(checkS 1024 (runErr n.stops.length n.routes.length) n.runs).2=r:=⟨_,rfl⟩;obtain⟨e3,h3⟩: ∃ r,(checkS 1024 (linkErr n.runs) n.links).2=r:=⟨_,rfl⟩;obtain⟨⟨i4,e4⟩,h4⟩: ∃ r,fareChk n.fares=r:=⟨_,rfl⟩;have C0:=Lib.hid (fun(w1:World) (h:Bl w w1)=>stops_c (.slice a0 n.stops.length k0) n.stops (i0,e0) (Lib.hid h0) (Lib.hid ok.out.sids) B w1 (HRd.out.stops.below (h.mono hB)) (Nat.le_trans hB h.size));have C1:=Lib.hid (fun(w1:World) (h:Bl w w1)=>routes_c (.slice a1 n.routes.length k1) n.routes (i1,e1) (Lib.hid h1) (Lib.hid ok.out.rids) B w1 (HRd.out.routes.below (h.mono hB)) (Nat.le_trans hB h.size));have C2:=Lib.hid (fun(w1:World) (h:Bl w w1)=>checkruns_c ⟨.slice a0 n.stops.length k0, .slice a1 n.routes.length k1, .slice a2 rs.length k2, .slice a3 n.links.length k3, .slice a4 n.paths.length k4, .slice a5 n.fares.prods.length k5⟩ rs n e2 (Lib.hid h2) (Lib.hid ok.out.runs) ok.out.few B w1 (HRd.out.bl h hB) (Nat.le_trans hB h.size));have C3:=Lib.hid (fun(w1:World) (h:Bl w w1)=>checklinks_c ⟨.slice a0 n.stops.length k0, .slice a1 n.routes.length k1, .slice a2 rs.length k2, .slice a3 n.links.length k3, .slice a4 n.paths.length k4, .slice a5 n.fares.prods.length k5⟩ rs n e3 (Lib.hid h3) ok.out.few B w1 (HRd.out.bl h hB) (Nat.le_trans hB h.size));have C4:=Lib.hid (fun(w1:World) (h:Bl w w1)=>prods_c (.slice a5 n.fares.prods.length k5) n.fares (i4,e4) (Lib.hid h4) (Lib.hid ok.out.pids) B w1 (HRd.out.prods.below (h.mono hB)) (Nat.le_trans hB h.size));have C5:=Lib.hid (fun(w1:World) (h:Bl w w1)=>checkpaths_c ⟨.slice a0 n.stops.length k0, .slice a1 n.routes.length k1, .slice a2 rs.length k2, .slice a3 n.links.length k3, .slice a4 n.paths.length k4, .slice a5 n.fares.prods.length k5⟩ rs n (Lib.hid ok.out.ends) ok.out.stops ok.out.paths B w1 (HRd.out.bl h hB) (Nat.le_trans hB h.size));have HP:Hid (∀ pe,netErrP n pe=if e0≠0 then e0 else if e1≠0 then e1 else if e2≠0 then e2 else if e3≠0 then e3 else if pe≠0 then pe else e4):=fun pe=>by
  unfold netErrP;simp only[h0,h1,h2,h3,h4]
 have HK:Hid (partsOk n→e0=0∧e1=0∧e2=0∧e3=0):=fun h=>by
  unfold partsOk at h;rw[h0,h1,h2,h3]at h;exact h
 have HB:=Lib.hid (And.intro (heap_alloc_new w (netBox ⟨.slice a0 n.stops.length k0, .slice a1 n.routes.length k1, .slice a2 rs.length k2, .slice a3 n.links.length k3, .slice a4 n.paths.length k4, .slice a5 n.fares.prods.length k5⟩ n.fares)) (bl_alloc (bl_refl w) (netBox ⟨.slice a0 n.stops.length k0, .slice a1 n.routes.length k1, .slice a2 rs.length k2, .slice a3 n.links.length k3, .slice a4 n.paths.length k4, .slice a5 n.fares.prods.length k5⟩ n.fares)));clear h0 h1 h2 h3 h4 rd;go_enter Tryz.func69,Tryz.ntmps69
 go_upto_region 1 with fail
 change Code.wp _ _ _ _ (w.alloc (netBox ⟨.slice a0 n.stops.length k0, .slice a1 n.routes.length k1, .slice a2 rs.length k2, .slice a3 n.links.length k3, .slice a4 n.paths.length k4, .slice a5 n.fares.prods.length k5⟩ n.fares));obtain⟨w1,hw1⟩: ∃ w1,w.alloc (netBox ⟨.slice a0 n.stops.length k0, .slice a1 n.routes.length k1, .slice a2 rs.length k2, .slice a3 n.links.length k3, .slice a4 n.paths.length k4, .slice a5 n.fares.prods.length k5⟩ n.fares)=w1:=⟨_,rfl⟩;rw[hw1]at HB ⊢;have HB1:Hid (w1.heap[w.heap.size]? =some (.cells #[.slice a0 n.stops.length k0, .slice a1 n.routes.length k1, .slice a2 rs.length k2, .slice a3 n.links.length k3, .slice a4 n.paths.length k4, .slice a5 n.fares.prods.length k5, .int .i64 n.fares.disc, .int .i64 n.fares.within, .int .i64 n.fares.cap] 54 (0,0))∧Bl w w1):=HB;have m0:w1.cell? ⟨w.heap.size,0,none⟩=some (.slice a0 n.stops.length k0):=blk_cell HB1.out.1 0 _ rfl;clear hw1 HB;go_wp2_with fail;refine(C0.out w1 HB1.out.2).mono ?_;rintro e w2 ⟨rfl,b2⟩;have HB2:=Lib.hid (And.intro (blk_bl HB1.out.1 b2) (bl_next HB1.out.2 b2));have m1:w2.cell? ⟨w.heap.size,1,none⟩=some (.slice a1 n.routes.length k1):=blk_cell HB2.out.1 1 _ rfl;clear b2 m0;go_wp2_with fail;refine(C1.out w2 HB2.out.2).mono ?_;rintro e w3 ⟨rfl,b3⟩;have HB3:=Lib.hid (And.intro (blk_bl HB2.out.1 b3) (bl_next HB2.out.2 b3));clear b3 m1;go_wp2_with fail;refine(nof_c 0 i0 e0 w3).mono ?_;rintro e w4 ⟨rfl,b4⟩;go_wp2_with fail;refine(nof_c 1 i1 e1 w4).mono ?_;rintro e w5 ⟨rfl,b5⟩;have HB5:=Lib.hid (And.intro (blk_bl HB3.out.1 (bl_next b4 b5)) (bl_next HB3.out.2 (bl_next b4 b5)));clear b4 b5;go_wp2_with fail;obtain⟨r,hr⟩: ∃ r,(if e0≠0 then e0 else e1)=r:=⟨_,rfl⟩;have CF:=nfirst_c w5.heap.size 0 i0 e0 1 i1 e1 _ (heap_alloc_new w5 (.cells #[.int .i64 0, .int .i64 i0, .int .i64 e0, .int .i64 1, .int .i64 i1, .int .i64 e1] 186));rw[hr]at CF;refine CF.mono ?_;rintro e w6 ⟨⟨p6,q6,rfl⟩,b6⟩;have b56:=bl_next (bl_alloc (bl_refl w5) _) b6;have HB6:=Lib.hid (And.intro (blk_bl HB5.out.1 b56) (bl_next HB5.out.2 b56));have HRr:=Lib.hid hr;clear CF b56 b6 hr;go_upto_region 4 with fail
 have B7:=bl_alloc (bl_refl w6) (.cells #[.int .i64 p6, .int .i64 q6, .int .i64 r] 186);have hb7:=heap_alloc_new w6 (.cells #[.int .i64 p6, .int .i64 q6, .int .i64 r] 186);change Code.wp _ _ _ _ (w6.alloc (.cells #[.int .i64 p6, .int .i64 q6, .int .i64 r] 186));generalize w6.alloc (.cells #[.int .i64 p6, .int .i64 q6, .int .i64 r] 186)=w7 at B7 hb7 ⊢
 have HB7:=Lib.hid (And.intro hb7 (And.intro (blk_bl HB6.out.1 B7) (bl_next HB6.out.2 B7)));have hlt:=lt_of_block HB6.out.1;have hle:=HB6.out.2.size;obtain⟨x0,x1,x2,y0,y1,y2⟩:=res3 hb7;clear B7 hb7;by_cases hr0:r=0
 ·
  subst hr0;have h01:e0=0∧e1=0:=by
   have:=HRr.out;by_cases h:e0=0
   · rw[if_neg (fun q=>q h)]at this;exact⟨h,this⟩
   · rw[if_pos h]at this;exact absurd this h
  have H01:=Lib.hid h01;clear h01;have n0:w7.cell? ⟨w.heap.size,0,none⟩=some (.slice a0 n.stops.length k0):=blk_cell HB7.out.2.1 0 _ rfl;have n1:w7.cell? ⟨w.heap.size,1,none⟩=some (.slice a1 n.routes.length k1):=blk_cell HB7.out.2.1 1 _ rfl;have n2:w7.cell? ⟨w.heap.size,2,none⟩=some (.slice a2 rs.length k2):=blk_cell HB7.out.2.1 2 _ rfl;have n3:w7.cell? ⟨w.heap.size,3,none⟩=some (.slice a3 n.links.length k3):=blk_cell HB7.out.2.1 3 _ rfl;have n4:w7.cell? ⟨w.heap.size,4,none⟩=some (.slice a4 n.paths.length k4):=blk_cell HB7.out.2.1 4 _ rfl;have n5:w7.cell? ⟨w.heap.size,5,none⟩=some (.slice a5 n.fares.prods.length k5):=blk_cell HB7.out.2.1 5 _ rfl;have n6:w7.cell? ⟨w.heap.size,6,none⟩=some (.int .i64 n.fares.disc):=blk_cell HB7.out.2.1 6 _ rfl;have n7:w7.cell? ⟨w.heap.size,7,none⟩=some (.int .i64 n.fares.within):=blk_cell HB7.out.2.1 7 _ rfl;have n8:w7.cell? ⟨w.heap.size,8,none⟩=some (.int .i64 n.fares.cap):=blk_cell HB7.out.2.1 8 _ rfl;go_wp2_with fail;refine(C2.out w7 HB7.out.2.2).mono ?_;rintro e w8 ⟨⟨p8,q8,rfl⟩,b8⟩;have HB8:=Lib.hid (And.intro (blk_bl HB7.out.1 b8) (And.intro (blk_bl HB7.out.2.1 b8) (bl_next HB7.out.2.2 b8)));clear b8 x0 x1 x2 y0 y1 y2 n0 n1 n2 n3 n4 n5 n6 n7 n8;obtain⟨x0,x1,x2,y0,y1,y2⟩:=res3 HB8.out.1;go_upto_region 6 with fail
  obtain⟨P9,N9,B9⟩:=res_put3 HB8.out.1 HB8.out.2.1 (by omega) HB8.out.2.2 hle (.int .i64 p8) (.int .i64 q8) (.int .i64 e2);generalize ((w8.setCell ⟨w6.heap.size,0,none⟩ (.int .i64 p8)).setCell ⟨w6.heap.size,1,none⟩ (.int .i64 q8)).setCell ⟨w6.heap.size,2,none⟩ (.int .i64 e2)=w9 at P9 N9 B9 ⊢
  have HB9:=Lib.hid (And.intro P9 (And.intro N9 B9));clear x0 x1 x2 y0 y1 y2 P9 N9 B9;obtain⟨x0,x1,x2,y0,y1,y2⟩:=res3 HB9.out.1;by_cases he2:e2=0
  ·
   subst he2;have n0:w9.cell? ⟨w.heap.size,0,none⟩=some (.slice a0 n.stops.length k0):=blk_cell HB9.out.2.1 0 _ rfl;have n1:w9.cell? ⟨w.heap.size,1,none⟩=some (.slice a1 n.routes.length k1):=blk_cell HB9.out.2.1 1 _ rfl;have n2:w9.cell? ⟨w.heap.size,2,none⟩=some (.slice a2 rs.length k2):=blk_cell HB9.out.2.1 2 _ rfl;have n3:w9.cell? ⟨w.heap.size,3,none⟩=some (.slice a3 n.links.length k3):=blk_cell HB9.out.2.1 3 _ rfl;have n4:w9.cell? ⟨w.heap.size,4,none⟩=some (.slice a4 n.paths.length k4):=blk_cell HB9.out.2.1 4 _ rfl;have n5:w9.cell? ⟨w.heap.size,5,none⟩=some (.slice a5 n.fares.prods.length k5):=blk_cell HB9.out.2.1 5 _ rfl;have n6:w9.cell? ⟨w.heap.size,6,none⟩=some (.int .i64 n.fares.disc):=blk_cell HB9.out.2.1 6 _ rfl;have n7:w9.cell? ⟨w.heap.size,7,none⟩=some (.int .i64 n.fares.within):=blk_cell HB9.out.2.1 7 _ rfl;have n8:w9.cell? ⟨w.heap.size,8,none⟩=some (.int .i64 n.fares.cap):=blk_cell HB9.out.2.1 8 _ rfl;go_wp2_with fail;refine(C3.out w9 HB9.out.2.2).mono ?_;rintro e w10 ⟨⟨p10,q10,rfl⟩,b10⟩;have HB10:=Lib.hid (And.intro (blk_bl HB9.out.1 b10) (And.intro (blk_bl HB9.out.2.1 b10) (bl_next HB9.out.2.2 b10)));clear b10 x0 x1 x2 y0 y1 y2 n0 n1 n2 n3 n4 n5 n6 n7 n8;obtain⟨x0,x1,x2,y0,y1,y2⟩:=res3 HB10.out.1;go_upto_region 8 with fail
   obtain⟨P9,N9,B9⟩:=res_put3 HB10.out.1 HB10.out.2.1 (by omega) HB10.out.2.2 hle (.int .i64 p10) (.int .i64 q10) (.int .i64 e3);generalize ((w10.setCell ⟨w6.heap.size,0,none⟩ (.int .i64 p10)).setCell ⟨w6.heap.size,1,none⟩ (.int .i64 q10)).setCell ⟨w6.heap.size,2,none⟩ (.int .i64 e3)=w11 at P9 N9 B9 ⊢
   have HB11:=Lib.hid (And.intro P9 (And.intro N9 B9));clear x0 x1 x2 y0 y1 y2 P9 N9 B9;obtain⟨x0,x1,x2,y0,y1,y2⟩:=res3 HB11.out.1;by_cases he3:e3=0
   ·
    subst he3;have n5:w11.cell? ⟨w.heap.size,5,none⟩=some (.slice a5 n.fares.prods.length k5):=blk_cell HB11.out.2.1 5 _ rfl;have n6:w11.cell? ⟨w.heap.size,6,none⟩=some (.int .i64 n.fares.disc):=blk_cell HB11.out.2.1 6 _ rfl;have n7:w11.cell? ⟨w.heap.size,7,none⟩=some (.int .i64 n.fares.within):=blk_cell HB11.out.2.1 7 _ rfl;have n8:w11.cell? ⟨w.heap.size,8,none⟩=some (.int .i64 n.fares.cap):=blk_cell HB11.out.2.1 8 _ rfl;go_wp2_with fail;refine(C4.out w11 HB11.out.2.2).mono ?_;rintro e w12 ⟨rfl,b12⟩;have HB12:=Lib.hid (And.intro (blk_bl HB11.out.1 b12) (And.intro (blk_bl HB11.out.2.1 b12) (bl_next HB11.out.2.2 b12)));clear b12 x0 x1 x2 y0 y1 y2 n5 n6 n7 n8;have n0:w12.cell? ⟨w.heap.size,0,none⟩=some (.slice a0 n.stops.length k0):=blk_cell HB12.out.2.1 0 _ rfl;have n1:w12.cell? ⟨w.heap.size,1,none⟩=some (.slice a1 n.routes.length k1):=blk_cell HB12.out.2.1 1 _ rfl;have n2:w12.cell? ⟨w.heap.size,2,none⟩=some (.slice a2 rs.length k2):=blk_cell HB12.out.2.1 2 _ rfl;have n3:w12.cell? ⟨w.heap.size,3,none⟩=some (.slice a3 n.links.length k3):=blk_cell HB12.out.2.1 3 _ rfl;have n4:w12.cell? ⟨w.heap.size,4,none⟩=some (.slice a4 n.paths.length k4):=blk_cell HB12.out.2.1 4 _ rfl;have n5:w12.cell? ⟨w.heap.size,5,none⟩=some (.slice a5 n.fares.prods.length k5):=blk_cell HB12.out.2.1 5 _ rfl;have n6:w12.cell? ⟨w.heap.size,6,none⟩=some (.int .i64 n.fares.disc):=blk_cell HB12.out.2.1 6 _ rfl;have n7:w12.cell? ⟨w.heap.size,7,none⟩=some (.int .i64 n.fares.within):=blk_cell HB12.out.2.1 7 _ rfl;have n8:w12.cell? ⟨w.heap.size,8,none⟩=some (.int .i64 n.fares.cap):=blk_cell HB12.out.2.1 8 _ rfl;go_wp2_with fail;refine(C5.out w12 HB12.out.2.2).mono ?_;rintro e w13 ⟨pe,hpe,⟨p13,q13,rfl⟩,b13⟩;have HPE:=Lib.hid hpe;go_wp2_with fail;refine(nof_c 5 i4 e4 w13).mono ?_;rintro e w14 ⟨rfl,b14⟩;have b134:=bl_next b13 b14;have HB14:=Lib.hid (And.intro (blk_bl HB12.out.1 b134) (And.intro (blk_bl HB12.out.2.1 b134) (bl_next HB12.out.2.2 b134)));clear b13 b14 b134 hpe n0 n1 n2 n3 n4 n5 n6 n7 n8;go_wp2_with fail;obtain⟨r2,hr2⟩: ∃ r,(if pe≠0 then pe else e4)=r:=⟨_,rfl⟩;have CF:=nfirst_c w14.heap.size p13 q13 pe 5 i4 e4 _ (heap_alloc_new w14 (.cells #[.int .i64 p13, .int .i64 q13, .int .i64 pe, .int .i64 5, .int .i64 i4, .int .i64 e4] 186));rw[hr2]at CF;refine CF.mono ?_;rintro e w15 ⟨⟨p15,q15,rfl⟩,b15⟩;have b15':=bl_next (bl_alloc (bl_refl w14) _) b15;have HB15:=Lib.hid (And.intro (blk_bl HB14.out.1 b15') (And.intro (blk_bl HB14.out.2.1 b15') (bl_next HB14.out.2.2 b15')));have HRr2:=Lib.hid hr2;clear CF b15 b15' hr2;obtain⟨x0,x1,x2,y0,y1,y2⟩:=res3 HB15.out.1;go_upto_region 11 with fail
    obtain⟨P9,N9,B9⟩:=res_put3 HB15.out.1 HB15.out.2.1 (by omega) HB15.out.2.2 hle (.int .i64 p15) (.int .i64 q15) (.int .i64 r2);generalize ((w15.setCell ⟨w6.heap.size,0,none⟩ (.int .i64 p15)).setCell ⟨w6.heap.size,1,none⟩ (.int .i64 q15)).setCell ⟨w6.heap.size,2,none⟩ (.int .i64 r2)=w16 at P9 N9 B9 ⊢
    have HB16:=Lib.hid (And.intro P9 (And.intro N9 B9));clear x0 x1 x2 y0 y1 y2 P9 N9 B9;obtain⟨x0,x1,x2,y0,y1,y2⟩:=res3 HB16.out.1;go_quiet (fail)
    go_wp2_with fail;go_ret3
    exact⟨_,_,_,⟨pe,fun _=>HPE.out,by rw[HP.out,←HRr2.out,H01.out.1,H01.out.2];rfl⟩,rfl,bl_drewN HB16.out.2.2 _⟩
   ·
    have t3:(e3==0)=false:=by rw[beq_eq_false_iff_ne];exact he3
    have HE3:=Lib.hid he3;clear he3;go_upto_region 11 with fail
    go_quiet (fail)
    go_wp2_with fail;go_ret3
    exact⟨_,_,_,⟨0,fun h=>absurd (HK.out h).2.2.2 HE3.out,by rw[HP.out,H01.out.1,H01.out.2,if_neg (fun q=>q rfl),if_neg (fun q=>q rfl),if_neg (fun q=>q rfl),if_pos HE3.out]⟩,rfl,bl_drewN HB11.out.2.2 _⟩
  ·
   have t2:(e2==0)=false:=by rw[beq_eq_false_iff_ne];exact he2
   have HE2:=Lib.hid he2;clear he2;go_upto_region 11 with fail
   go_quiet (fail)
   go_wp2_with fail;go_ret3
   exact⟨_,_,_,⟨0,fun h=>absurd (HK.out h).2.2.1 HE2.out,by rw[HP.out,H01.out.1,H01.out.2,if_neg (fun q=>q rfl),if_neg (fun q=>q rfl),if_pos HE2.out]⟩,rfl,bl_drewN HB9.out.2.2 _⟩
 ·
  have t2:(r==0)=false:=by rw[beq_eq_false_iff_ne];exact hr0
  have HE:=Lib.hid hr0;clear hr0;go_upto_region 11 with fail
  go_quiet (fail)
  go_wp2_with fail;go_ret3
  exact⟨_,_,_,⟨0,fun h=>by have:=HRr.out;rw[(HK.out h).1,(HK.out h).2.1]at this;exact absurd this.symm HE.out,by
     rw[HP.out];have h1:=HRr.out;have h2:=HE.out;by_cases h:e0=0
     ·
      rw[if_neg (fun q=>q h)]at h1 ⊢;rw[h1,if_pos h2]
     ·
      rw[if_pos h]at h1 ⊢;exact h1.symm⟩,rfl,bl_drewN HB7.out.2.2 _⟩
end Go.Proofs.YtncbcmiflffakaaGreat
