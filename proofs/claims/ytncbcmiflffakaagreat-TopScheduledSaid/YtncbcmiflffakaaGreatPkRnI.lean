/-
  What the laws of top need of TopRnI. Conditions: those of each lemma.
-/
import Derived.Test.YtncbcmiflffakaaGreatPkRnE
import Derived.Test.YtncbcmiflffakaaGreatPkRnA
set_option maxRecDepth 1000000
set_option maxHeartbeats 32000000
namespace Go.Proofs.YtncbcmiflffakaaGreat
open Go.RowKit
open Frq Thr Tt Num Clk Dat Fld Da
def AtMap (gk:Int×Int×Int→Lit) (l:List RunD) (G:Lit→Option Value):Prop:= ∀ k,runkOk k→G (gk k)=(atP l k).map fun i=> .int .i64 i
def keyOkR (r:RunD):Prop:=isInt r.trip∧isInt r.day∧isInt r.inst
theorem atP_none {l:List RunD} {k:Int×Int×Int} (h:l.any (keyB k)=false):atP l k=none:=by
 unfold atP;rw[List.findIdx?_eq_none_iff];intro x hx;have:=List.any_eq_false.1 h x hx;simpa using this
theorem atP_some {l:List RunD} {k:Int×Int×Int} (h:l.any (keyB k)=true):(atP l k).isSome=true:=by
 unfold atP;rw[List.findIdx?_isSome];exact h
theorem atP_snoc (l:List RunD) (x:RunD) (k:Int×Int×Int):atP (l++[x]) k=match atP l k with
  |some i=>some i
  |none=>if keyB k x then some l.length else none:=by
 unfold atP;rw[List.findIdx?_append];cases List.findIdx? (keyB k) l with
 |some i=>rfl
 |none=>
  simp only[List.findIdx?_cons,List.findIdx?_nil,Option.none_or];split<;>simp
theorem keyB_iff (k:Int×Int×Int) (x:RunD):keyB k x=true↔k=keyOfR x:=by
 unfold keyB keyOfR;simp only[Bool.and_eq_true,beq_iff_eq,Prod.ext_iff];exact⟨fun h=>⟨h.1.symm,h.2.1.symm,h.2.2.symm⟩,fun h=>⟨h.1.symm,h.2.1.symm,h.2.2.symm⟩⟩
theorem AtMap.put {gk:Int×Int×Int→Lit} {l:List RunD} {G:Lit→Option Value} (h:AtMap gk l G) (K:runkFn gk) {x:RunD} (hx:keyOkR x) (hno:l.any (keyB (keyOfR x))=false):AtMap gk (l++[x]) (putV G (gk (keyOfR x)) (.int .i64 l.length)):=fun k hk=>by
 rw[atP_snoc];by_cases e:k=keyOfR x
 ·
  subst e;rw[putV_at _ (runk_law.key (K _ hk)),atP_none hno,if_pos ((keyB_iff _ _).2 rfl)];rfl
 ·
  rw[putV_ne (fun e'=>e (runkFn_inj K hk hx e')),h k hk];cases atP l k with
  |some i=>rfl
  |none=>
   rw[if_neg (fun q=>e ((keyB_iff _ _).1 q))]
theorem index_c (gk:Int×Int×Int→Lit) (HK:Hid (runkFn gk)) (V:TtV) (ts:List TripD) (t:TtD) (hs:Hid (SoundT t)) (vl:Value) (l:List RunV) (hl:l.length≤1024) (hok:Hid (∀ x∈l,keyOkR x.r)) (B:Nat) (w:World) (rd:TtRd B w V ts t) (hB:B≤w.heap.size) (hv:RunsRd B w vl l):
  Calls Tryz.prog 78 #[ttV V t,vl] w fun e w'=>(∃ mv,e= .returned (.tuple #[mv, .int .i64 (chk (indexErr t) [] (l.map (·.r))).2])∧
   ((chk (indexErr t) [] (l.map (·.r))).2=0→ ∃ b G,mv= .map (some b)∧OwnsVal w' Tryz.prog 202 b l.length G∧AtMap gk (l.map (·.r)) G))∧Bl w w':=by
 have HOP:=Lib.hid (fun(x:RunV) (w1:World) (h:Bl w w1) (hx:CallsIn B w1 x.v x.r.calls)=>operates_c V ts t hs x B w1 (rd.bl h hB) (Nat.le_trans hB h.size) hx);obtain⟨v0,v1,v2,v3,v4,v5,v6,v7,v8,v9⟩:=V;unfold ttV at HOP ⊢;have HV:=Lib.hid hv;obtain⟨al,kl,rfl,-,-⟩:=hv.sl.val;have hlI:(l.length:Int)≤1024:=by omega
 obtain⟨R,hR⟩: ∃ R,chk (indexErr t) [] (l.map (·.r))=R:=⟨_,rfl⟩;rw[hR];have HRes:=Lib.hid hR;clear hR hv rd;have hmm:= @run_makeMap Tryz.prog;have hT:=heap_alloc_new w (.cells (ttCells ⟨v0,v1,v2,v3,v4,v5,v6,v7,v8,v9⟩ t.fares) 35);have HT:=Lib.hid hT;clear hT;go_enter Tryz.func78,Tryz.ntmps78
 go_wp2_with fail;have hT1:=blk_bl HT.out (bl_alloc (bl_refl _) (.map #[] 0));have hM1:=ownsVal_made (w.alloc (.cells (ttCells ⟨v0,v1,v2,v3,v4,v5,v6,v7,v8,v9⟩ t.fares) 35)) Tryz.prog 202;rw[World.size_alloc]at hM1;have H0:=Lib.hid (And.intro hT1 (And.intro hM1 (show Bl w ((w.alloc (.cells (ttCells ⟨v0,v1,v2,v3,v4,v5,v6,v7,v8,v9⟩ t.fares) 35)).alloc (.map #[] 0)) from bl_alloc (bl_alloc (bl_refl _) _) _)));clear hT1 hM1;go_loopw [15] (fun i wr=> ∃ (k:Nat) (G:Lit→Option Value),(k≤l.length∧i= .int .i64 k)∧Hid (wr.heap[w.heap.size]? =some (.cells (ttCells ⟨v0,v1,v2,v3,v4,v5,v6,v7,v8,v9⟩ t.fares) 35 (0,0))∧OwnsVal wr Tryz.prog 202 (w.heap.size+1) k G∧AtMap gk ((l.map (·.r)).take k) G∧chk (indexErr t) ((l.map (·.r)).take k) ((l.map (·.r)).drop k)=R∧Bl w wr)) (fun i _=>l.length-(intOf i).toNat)
 case atStart=>exact⟨0,_,⟨Nat.zero_le _,rfl⟩,Lib.hid ⟨H0.out.1,H0.out.2.1,fun _ _=>rfl,HRes.out,H0.out.2.2⟩⟩
 case round=>
  obtain⟨k,G,⟨hk,rfl⟩,HR⟩:=hrel;by_cases hlt:k<l.length
  ·
   have hltI:(k:Int)<(l.length:Int):=by omega
   obtain⟨b,o,x,rfl,-,hx,hcx⟩:=HV.out.sl.get (k:=k) hlt HR.out.2.2.2.2 hB;have c0:wr.cell? ⟨b,o+k*8,none⟩=some (.int .i64 x.r.trip):=hcx 0 _ rfl;have c1:wr.cell? ⟨b,o+k*8+1,none⟩=some (.int .i64 x.r.day):=hcx 1 _ rfl;have c2:wr.cell? ⟨b,o+k*8+2,none⟩=some (.int .i64 x.r.inst):=hcx 2 _ rfl;have c3:wr.cell? ⟨b,o+k*8+3,none⟩=some (str x.r.id):=hcx 3 _ rfl;have c4:wr.cell? ⟨b,o+k*8+4,none⟩=some (.int .i64 x.r.route):=hcx 4 _ rfl;have c5:wr.cell? ⟨b,o+k*8+5,none⟩=some (.bool x.r.free):=hcx 5 _ rfl;have c6:wr.cell? ⟨b,o+k*8+6,none⟩=some (.bool x.r.canc):=hcx 6 _ rfl;have c7:wr.cell? ⟨b,o+k*8+7,none⟩=some x.v:=hcx 7 _ rfl;have hxl:=List.mem_of_getElem? hx;have hxr:(l.map (·.r))[k]? =some x.r:=by rw[List.getElem?_map,hx];rfl
   have hxc:=(HV.out.calls x hxl).below (HR.out.2.2.2.2.mono hB);obtain⟨ax,cx,hxv,-,-⟩:=hxc.val;have hzw:=HR.out.2.1.lt;have Bb:=bl_alloc (bl_refl wr) (runBox x);have hbr:=heap_alloc_new wr (runBox x);have HOp:=Lib.hid (HOP.out x (wr.alloc (runBox x)) (bl_next HR.out.2.2.2.2 Bb) (hxc.below (Bb.mono (by have:=HR.out.2.2.2.2.size;omega))));have HX:=Lib.hid (And.intro hxr (And.intro (hok.out x hxl) (And.intro Bb hbr)));obtain⟨xr,xv⟩:=x;simp only at hxv;subst hxv;clear hx hcx hxl hxr hxc Bb hbr;obtain⟨op,hop⟩: ∃ b,operatesP t xr=b:=⟨_,rfl⟩;simp only at HOp c0 c1 c2 c3 c4 c5 c6 c7;have HOpE:=Lib.hid hop;rw[hop]at HOp;clear hop;cases op with
   |false=>
    have hr9:R=((k:Int),9):=by
     rw[←HR.out.2.2.2.1];exact chk_bad HX.out.1 (by unfold indexErr;rw[if_pos HOpE.out]) (by decide)
    have HR9:=Lib.hid hr9;clear hr9;go_upto_region 5 with fail
    have Bb4:=HX.out.2.2.1;have hb4:=HX.out.2.2.2;have HOp4:=HOp.out;change Code.wp _ _ _ _ (wr.alloc (runBox ⟨xr, .slice ax xr.calls.length cx⟩));generalize wr.alloc (runBox ⟨xr, .slice ax xr.calls.length cx⟩)=w4 at Bb4 hb4 HOp4 ⊢
    have HB4:=Lib.hid (And.intro Bb4 hb4);have HOp5:=Lib.hid HOp4;have hT:=blk_bl HR.out.1 Bb4;have p0:w4.cell? ⟨wr.heap.size,0,none⟩=some (.int .i64 xr.trip):=blk_cell hb4 0 _ rfl;have p1:w4.cell? ⟨wr.heap.size,1,none⟩=some (.int .i64 xr.day):=blk_cell hb4 1 _ rfl;have p2:w4.cell? ⟨wr.heap.size,2,none⟩=some (.int .i64 xr.inst):=blk_cell hb4 2 _ rfl;have p3:w4.cell? ⟨wr.heap.size,3,none⟩=some (str xr.id):=blk_cell hb4 3 _ rfl;have p4:w4.cell? ⟨wr.heap.size,4,none⟩=some (.int .i64 xr.route):=blk_cell hb4 4 _ rfl;have p5:w4.cell? ⟨wr.heap.size,5,none⟩=some (.bool xr.free):=blk_cell hb4 5 _ rfl;have p6:w4.cell? ⟨wr.heap.size,6,none⟩=some (.bool xr.canc):=blk_cell hb4 6 _ rfl;have p7:w4.cell? ⟨wr.heap.size,7,none⟩=some (.slice ax xr.calls.length cx):=blk_cell hb4 7 _ rfl;have q: ∀ j u,(ttCells ⟨v0,v1,v2,v3,v4,v5,v6,v7,v8,v9⟩ t.fares)[j]? =some u→w4.cell? ⟨w.heap.size,j,none⟩=some u:=fun j u hj=>blk_cell hT j u hj
    have q0:=q 0 _ rfl;have q1:=q 1 _ rfl;have q2:=q 2 _ rfl;have q3:=q 3 _ rfl;have q4:=q 4 _ rfl;have q5:=q 5 _ rfl;have q6:=q 6 _ rfl;have q7:=q 7 _ rfl;have q8:=q 8 _ rfl;have q9:=q 9 _ rfl;have q10:=q 10 _ rfl;have q11:=q 11 _ rfl;have q12:=q 12 _ rfl;clear q;clear Bb4 hb4 HOp4 HOp hT;go_wp2_with fail;refine HOp5.out.mono ?_;rintro e w5 ⟨rfl,b5⟩;have B5:=Lib.hid (bl_next (bl_next HR.out.2.2.2.2 HB4.out.1) b5);clear b5 HOp5;go_wp2_with fail;go_ret2;exact⟨⟨_,(by rw[HR9.out];rfl),fun h=>by rw[HR9.out]at h;exact absurd h (by simp)⟩,B5.out⟩
   |true=>
    go_upto_region 5 with fail
    have Bb4:=HX.out.2.2.1;have hb4:=HX.out.2.2.2;have HOp4:=HOp.out;change Code.wp _ _ _ _ (wr.alloc (runBox ⟨xr, .slice ax xr.calls.length cx⟩));generalize wr.alloc (runBox ⟨xr, .slice ax xr.calls.length cx⟩)=w4 at Bb4 hb4 HOp4 ⊢
    have HB4:=Lib.hid (And.intro Bb4 hb4);have HOp5:=Lib.hid HOp4;have hT:=blk_bl HR.out.1 Bb4;have p0:w4.cell? ⟨wr.heap.size,0,none⟩=some (.int .i64 xr.trip):=blk_cell hb4 0 _ rfl;have p1:w4.cell? ⟨wr.heap.size,1,none⟩=some (.int .i64 xr.day):=blk_cell hb4 1 _ rfl;have p2:w4.cell? ⟨wr.heap.size,2,none⟩=some (.int .i64 xr.inst):=blk_cell hb4 2 _ rfl;have p3:w4.cell? ⟨wr.heap.size,3,none⟩=some (str xr.id):=blk_cell hb4 3 _ rfl;have p4:w4.cell? ⟨wr.heap.size,4,none⟩=some (.int .i64 xr.route):=blk_cell hb4 4 _ rfl;have p5:w4.cell? ⟨wr.heap.size,5,none⟩=some (.bool xr.free):=blk_cell hb4 5 _ rfl;have p6:w4.cell? ⟨wr.heap.size,6,none⟩=some (.bool xr.canc):=blk_cell hb4 6 _ rfl;have p7:w4.cell? ⟨wr.heap.size,7,none⟩=some (.slice ax xr.calls.length cx):=blk_cell hb4 7 _ rfl;have q: ∀ j u,(ttCells ⟨v0,v1,v2,v3,v4,v5,v6,v7,v8,v9⟩ t.fares)[j]? =some u→w4.cell? ⟨w.heap.size,j,none⟩=some u:=fun j u hj=>blk_cell hT j u hj
    have q0:=q 0 _ rfl;have q1:=q 1 _ rfl;have q2:=q 2 _ rfl;have q3:=q 3 _ rfl;have q4:=q 4 _ rfl;have q5:=q 5 _ rfl;have q6:=q 6 _ rfl;have q7:=q 7 _ rfl;have q8:=q 8 _ rfl;have q9:=q 9 _ rfl;have q10:=q 10 _ rfl;have q11:=q 11 _ rfl;have q12:=q 12 _ rfl;clear q;clear Bb4 hb4 HOp4 HOp hT;go_wp2_with fail;refine HOp5.out.mono ?_;rintro e w5 ⟨rfl,b5⟩;have hbr5:=blk_bl HB4.out.2 b5;have r0:w5.cell? ⟨wr.heap.size,0,none⟩=some (.int .i64 xr.trip):=blk_cell hbr5 0 _ rfl;have r1:w5.cell? ⟨wr.heap.size,1,none⟩=some (.int .i64 xr.day):=blk_cell hbr5 1 _ rfl;have r2:w5.cell? ⟨wr.heap.size,2,none⟩=some (.int .i64 xr.inst):=blk_cell hbr5 2 _ rfl;have B5:=Lib.hid (bl_next HB4.out.1 b5);clear hbr5 b5 HOp5 c0 c1 c2 c3 c4 c5 c6 c7 p0 p1 p2 p3 p4 p5 p6 p7 q0 q1 q2 q3 q4 q5 q6 q7 q8 q9 q10 q11 q12;go_upto_region 8 with fail
    have Bk:Bl wr (w5.alloc (.cells #[.int .i64 xr.trip, .int .i64 xr.day, .int .i64 xr.inst] 202)):=bl_alloc B5.out _;have hbk:=heap_alloc_new w5 (.cells #[.int .i64 xr.trip, .int .i64 xr.day, .int .i64 xr.inst] 202);generalize w5.alloc (.cells #[.int .i64 xr.trip, .int .i64 xr.day, .int .i64 xr.inst] 202)=w6 at Bk hbk ⊢
    have k0:w6.cell? ⟨w5.heap.size,0,none⟩=some (.int .i64 xr.trip):=blk_cell hbk 0 _ rfl;have k1:w6.cell? ⟨w5.heap.size,1,none⟩=some (.int .i64 xr.day):=blk_cell hbk 1 _ rfl;have k2:w6.cell? ⟨w5.heap.size,2,none⟩=some (.int .i64 xr.inst):=blk_cell hbk 2 _ rfl;have hkey:=HK.out (keyOfR xr) HX.out.2.1;have OB:=HR.out.2.1.bl Bk;have hlk:=OB.look_ok runk_law Tryz.underlying162 (z:= .int .i64 0) (by kernel_rfl) hkey;rw[HR.out.2.2.1 (keyOfR xr) HX.out.2.1]at hlk;change(Instr.lookup 162 (.map (some (w.heap.size+1))) (.agg #[.int .i64 xr.trip, .int .i64 xr.day, .int .i64 xr.inst]) true).run Tryz.prog w6=_ at hlk;cases hdup:((l.map (·.r)).take k).any (keyB (keyOfR xr))with
    |true=>
     have hr6:R=((k:Int),6):=by
      rw[←HR.out.2.2.2.1];exact chk_bad HX.out.1 (by unfold indexErr;rw[if_neg (by rw[HOpE.out];decide),if_pos hdup]) (by decide)
     have HR6:=Lib.hid hr6;obtain⟨i6,hi6⟩:=Option.isSome_iff_exists.1 (atP_some hdup);rw[hi6]at hlk;simp only[Option.map_some,Option.getD_some,Option.isSome_some]at hlk;have HBk:=Lib.hid (bl_next HR.out.2.2.2.2 Bk);clear hr6 hdup hi6 OB hkey hbk Bk;go_wp2_with fail;go_ret2;exact⟨⟨_,(by rw[HR6.out];rfl),fun h=>by rw[HR6.out]at h;exact absurd h (by simp)⟩,HBk.out⟩
    |false=>
     have hnext:=(chk_good HX.out.1 (by unfold indexErr;rw[if_neg (by rw[HOpE.out];decide),if_neg (by rw[hdup];decide)])).symm.trans HR.out.2.2.2.1;rw[atP_none hdup]at hlk;simp only[Option.map_none,Option.getD_none,Option.isSome_none]at hlk;obtain⟨wp,hrun,OP,gp⟩:=OB.put runk_law Tryz.underlying162 (by unfold maxLen;omega) hkey (.int .i64 k);have hG:=HR.out.2.2.1.put HK.out HX.out.2.1 hdup;rw[show((l.map (·.r)).take k).length=k by rw[List.length_take,List.length_map];omega,←take_snoc' HX.out.1]at hG;have hTp:wp.heap[w.heap.size]? =some (.cells (ttCells ⟨v0,v1,v2,v3,v4,v5,v6,v7,v8,v9⟩ t.fares) 35 (0,0)):=(gp.block _ (by have:=Bk.size;have:=HR.out.2.1.lt;omega) (fun e=>by simp only[Option.some.injEq]at e;omega)).trans (blk_bl HR.out.1 Bk);have hbp:Bl w wp:=(bl_next HR.out.2.2.2.2 Bk).grown gp (by have:=Bk.size;omega) (fun q hq=>by simp only[Option.some.injEq]at hq;omega);have HP:=Lib.hid (And.intro hTp (And.intro OP (And.intro hG (And.intro hnext hbp))));change(Instr.mapUpdate 162 (.map (some (w.heap.size+1))) (.agg #[.int .i64 xr.trip, .int .i64 xr.day, .int .i64 xr.inst]) (.int .i64 k)).run Tryz.prog w6=_ at hrun;clear hdup OB hkey hbk Bk hnext OP gp hG hTp hbp;go_wp2_with fail;exact⟨⟨k+1,_,⟨by omega,by go_num⟩,HP⟩,by simp only[intOf];omega⟩
  ·
   obtain rfl:k=l.length:=by omega
   have hr0:R=(0,0):=by
    rw[←HR.out.2.2.2.1];exact chk_end (by rw[List.length_map];exact Nat.le_refl _)
   have hG:=HR.out.2.2.1;rw[show(l.map (·.r)).take l.length=l.map (·.r) from List.take_of_length_le (by rw[List.length_map];exact Nat.le_refl _)]at hG;have HR0:=Lib.hid (And.intro hr0 hG);clear hr0 hG;go_wp2_with fail;go_ret2;exact⟨⟨_,(by rw[HR0.out.1];rfl),fun _=>⟨_,rfl,_,HR.out.2.1,HR0.out.2⟩⟩,HR.out.2.2.2.2⟩
end Go.Proofs.YtncbcmiflffakaaGreat
