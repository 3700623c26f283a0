/-
  What the laws of top need of TopRnJ, TopRnK. Conditions: those of each lemma.
-/
import Derived.Test.YtncbcmiflffakaaGreatPkRnI
import Derived.Test.YtncbcmiflffakaaGreatPkRg
set_option maxRecDepth 1000000
set_option maxHeartbeats 32000000
namespace Go.Proofs.YtncbcmiflffakaaGreat
open Go.RowKit
open Frq Thr Tt Num Clk Dat Fld Da
theorem info_link:(Tryz.prog.info? 95).map (fun i=>(i.zero,i.size,i.bytes))=some (some (.agg #[.int .i64 0, .int .i64 0, .int .i64 0, .int .i64 0, .bool false]),5,40):=by kernel_rfl
theorem link_fields:Tryz.prog.fieldsOf 95= #[⟨"From",3,0,false, "", "",0⟩,⟨"FromCall",3,1,false, "", "",8⟩,⟨"To",3,2,false, "", "",16⟩,⟨"ToCall",3,3,false, "", "",24⟩,⟨"Stay",4,4,false, "", "",32⟩]:=by kernel_rfl
theorem link_eqIn (x y:LinkD) (w:World):(Op.equalIn 10000 95 (.agg (linkCells x).toArray) (.agg (linkCells y).toArray)).run Tryz.prog w= .ok (decide (x=y)) w:=by
 have e:decide (x=y)=(x.frm==y.frm&&(x.frmC==y.frmC&&(x.dst==y.dst&&(x.dstC==y.dstC&&x.stay==y.stay)))):=by
  rw[Bool.eq_iff_iff];simp only[decide_eq_true_eq,Bool.and_eq_true,beq_iff_eq];cases x
  cases y
  simp
 rw[e];unfold linkCells;rw[run_equalIn_agg w 9999 95 _ _ (by kernel_rfl) (by kernel_rfl),link_fields];have u3:Tryz.prog.underlying 3=some (.int .i64):=by kernel_rfl
 have u4:Tryz.prog.underlying 4=some .bool:=by kernel_rfl
 have hi:=fun(a b:Int) (w:World)=>run_equalIn_int (P:=Tryz.prog) w 9998 3 .i64 .i64 a b u3
 have hb:=fun(a b:Bool) (w:World)=>run_equalIn_bool' (P:=Tryz.prog) w 9998 4 a b u4
 go_simp;(repeat' split)<;>simp_all
theorem atP_lt {l:List RunD} {k:Int×Int×Int} {b:Nat} (h:atP l k=some b):b<l.length:=by
 unfold atP at h;exact(List.findIdx?_eq_some_iff_getElem.1 h).1
def negL:LinkD:=⟨-1,0,0,0,false⟩
theorem put5 {w:World} {g:Nat} {a0 a1 a2 a3 a4:Value} {T:TypeId} (h:w.heap[g]? =some (.cells #[a0,a1,a2,a3,a4] T (0,0))) (b0 b1 b2 b3 b4:Value):
  (((((w.setCell ⟨g,0,none⟩ b0).setCell ⟨g,1,none⟩ b1).setCell ⟨g,2,none⟩ b2).setCell ⟨g,3,none⟩ b3).setCell ⟨g,4,none⟩ b4).heap[g]? =some (.cells #[b0,b1,b2,b3,b4] T (0,0))∧Gr g w (((((w.setCell ⟨g,0,none⟩ b0).setCell ⟨g,1,none⟩ b1).setCell ⟨g,2,none⟩ b2).setCell ⟨g,3,none⟩ b3).setCell ⟨g,4,none⟩ b4):=by
 refine⟨?_,gr_next (gr_next (gr_next (gr_next (gr_set _ _ _ _) (gr_set _ _ _ _)) (gr_set _ _ _ _)) (gr_set _ _ _ _)) (gr_set _ _ _ _)⟩;have:=blk_set (blk_set (blk_set (blk_set (blk_set h 0 b0) 1 b1) 2 b2) 3 b3) 4 b4;simpa using this
theorem stay_none {t:TtD} {l:List RunD} {a:Nat} {r:RunD} (h:nextS (t.thrus.map thruOf) r.trip=none):stayP t l a r=none:=by unfold stayP;rw[h]
theorem stay_no {t:TtD} {l:List RunD} {a:Nat} {r:RunD} {x:ThrD} (h:nextS (t.thrus.map thruOf) r.trip=some x) (h2:atP l (x.to,r.day,0)=none):stayP t l a r=none:=by unfold stayP;rw[h];simp only[h2]
theorem stay_yes {t:TtD} {l:List RunD} {a:Nat} {r:RunD} {x:ThrD} {b:Nat} (h:nextS (t.thrus.map thruOf) r.trip=some x) (h2:atP l (x.to,r.day,0)=some b):stayP t l a r=some ⟨a,(r.calls.length:Int)-1,b,0,true⟩:=by unfold stayP;rw[h];simp only[h2]
structure OfAt (w:World) (T R:Obj) (st:Option LinkD) (s9:Value) (wx:World):Prop where
 own:wx.ownsRow (w.heap.size+3) 95 5 s9 st.toList.length (st.toList.flatMap linkCells)
 stay:wx.heap[w.heap.size+2]? =some (.cells (linkCells (st.getD negL)).toArray 95 (0,0))
 run:wx.heap[w.heap.size+1]? =some R
 tt:wx.heap[w.heap.size]? =some T
 bl:Bl w wx
theorem of_c (gk:Int×Int×Int→Lit) (HK:Hid (runkFn gk)) (V:TtV) (ts:List TripD) (t:TtD) (ok:Hid (TtOk t)) (hs:Hid (SoundT t)) (vl:Value) (l:List RunV) (hl:l.length≤1024) (hok:Hid (∀ x∈l,keyOkR x.r)) (bm n:Nat) (G:Lit→Option Value) (hG:Hid (AtMap gk (l.map (·.r)) G)) (a:Nat) (ha:a<l.length)
  (B:Nat) (w:World) (rd:TtRd B w V ts t) (hB:B≤w.heap.size) (hv:RunsRd B w vl l) (hm:Hid (OwnsVal w Tryz.prog 202 bm n G)):
  Calls Tryz.prog 79 #[ttV V t,vl, .map (some bm), .int .i64 a] w fun e w'=> ∃ v',e= .returned v'∧w'.ownsRow w.heap.size 95 5 v' (linksOf t (l.map (·.r)) a).length ((linksOf t (l.map (·.r)) a).flatMap linkCells)∧Bl w w':=by
 have RD:=Lib.hid rd;have HV:=Lib.hid hv;obtain⟨l0,l1,l2,l3,l4,l5,l6,-⟩:=hs.out.lens;obtain⟨v0,v1,v2,v3,v4,v5,v6,v7,v8,v9⟩:=V;obtain⟨a6,k6,hv6,-,-⟩:=rd.thrus.val;rw[List.length_map]at hv6;obtain rfl:v6=_:=hv6;obtain⟨a7,k7,(rfl:v7=_),-,-⟩:=rd.guars.val;obtain⟨al,kl,rfl,-,-⟩:=hv.sl.val;have hlI:(l.length:Int)≤1024:=by omega
 have haI:(a:Int)<(l.length:Int):=by omega
 have hgI:(t.guars.length:Int)≤128:=by omega
 obtain⟨i0,hi,hz0,hz1,hz2'⟩:=info_parts info_link;obtain⟨b,o,x,hbb,hbl,hx,hcx⟩:=hv.sl.get (k:=a) ha (bl_refl w) hB;subst hbb;have c0:w.cell? ⟨b,o+a*8,none⟩=some (.int .i64 x.r.trip):=hcx 0 _ rfl;have c1:w.cell? ⟨b,o+a*8+1,none⟩=some (.int .i64 x.r.day):=hcx 1 _ rfl;have c2:w.cell? ⟨b,o+a*8+2,none⟩=some (.int .i64 x.r.inst):=hcx 2 _ rfl;have c3:w.cell? ⟨b,o+a*8+3,none⟩=some (str x.r.id):=hcx 3 _ rfl;have c4:w.cell? ⟨b,o+a*8+4,none⟩=some (.int .i64 x.r.route):=hcx 4 _ rfl;have c5:w.cell? ⟨b,o+a*8+5,none⟩=some (.bool x.r.free):=hcx 5 _ rfl;have c6:w.cell? ⟨b,o+a*8+6,none⟩=some (.bool x.r.canc):=hcx 6 _ rfl;have c7:w.cell? ⟨b,o+a*8+7,none⟩=some x.v:=hcx 7 _ rfl;have hxl:=List.mem_of_getElem? hx;have hxr:(l.map (·.r))[a]? =some x.r:=by rw[List.getElem?_map,hx];rfl
 have hxc:=hv.calls x hxl;have hkr:=hok.out x hxl;obtain⟨ar,kr,hxv,-,-⟩:=hxc.val;obtain⟨r,xv⟩:=x;simp only at hxv;subst hxv;simp only at hxc hkr hxr c0 c1 c2 c3 c4 c5 c6 c7;have hclen:r.calls.length≤9223372036854775807:=by
  have:=hxc.len;unfold maxLen at this;omega
 have hL:linksOf t (l.map (·.r)) a=(stayP t (l.map (·.r)) a r).toList++t.guars.filterMap (guarP t (l.map (·.r)) a r):=by
  unfold linksOf;rw[hxr]
 have HL:=Lib.hid hL;have HXC:=Lib.hid (And.intro hxc hkr);have hNx:=Lib.hid (fun(w1:World) (h:Bl w w1)=>Th.next_c (.slice a6 t.thrus.length k6) (t.thrus.map thruOf) r.trip B w1 (rd.thrus.below (h.mono hB)) (Nat.le_trans hB h.size));obtain⟨nn,hnn⟩: ∃ n,nextN (t.thrus.map thruOf) r.trip=n:=⟨_,rfl⟩;obtain⟨nb,hnb⟩: ∃ n,nextB (t.thrus.map thruOf) r.trip=n:=⟨_,rfl⟩;rw[hnn,hnb]at hNx;have HNN:=Lib.hid (And.intro hnn hnb);clear hnn hnb;have W0:Hid (∃ w1,w1=((w.alloc (.cells (ttCells ⟨v0,v1,v2,v3,v4,v5, .slice a6 t.thrus.length k6, .slice a7 t.guars.length k7,v8,v9⟩ t.fares) 35)).alloc (.cells #[.int .i64 r.trip, .int .i64 r.day, .int .i64 r.inst, .string ⟨r.id.toArray⟩, .int .i64 r.route, .bool r.free, .bool r.canc, .slice ar r.calls.length kr] 66)).alloc (.cells #[.int .i64 (-1), .int .i64 0, .int .i64 0, .int .i64 0, .bool false] 95)∧w1.heap[w.heap.size]? =some (.cells (ttCells ⟨v0,v1,v2,v3,v4,v5, .slice a6 t.thrus.length k6, .slice a7 t.guars.length k7,v8,v9⟩ t.fares) 35)∧w1.heap[w.heap.size+1]? =some (.cells #[.int .i64 r.trip, .int .i64 r.day, .int .i64 r.inst, .string ⟨r.id.toArray⟩, .int .i64 r.route, .bool r.free, .bool r.canc, .slice ar r.calls.length kr] 66)∧w1.heap[w.heap.size+2]? =some (.cells #[.int .i64 (-1), .int .i64 0, .int .i64 0, .int .i64 0, .bool false] 95)∧Bl w w1):=by
  refine⟨_,rfl,blk_bl (heap_alloc_new w _) (bl_alloc (bl_alloc (bl_refl _) _) _), ?_, ?_,bl_alloc (bl_alloc (bl_alloc (bl_refl _) _) _) _⟩
  ·
   refine blk_bl ?_ (bl_alloc (bl_refl _) _);have:=heap_alloc_new (w.alloc (.cells (ttCells ⟨v0,v1,v2,v3,v4,v5, .slice a6 t.thrus.length k6, .slice a7 t.guars.length k7,v8,v9⟩ t.fares) 35)) (.cells #[.int .i64 r.trip, .int .i64 r.day, .int .i64 r.inst, .string ⟨r.id.toArray⟩, .int .i64 r.route, .bool r.free, .bool r.canc, .slice ar r.calls.length kr] 66);simpa using this
  ·
   have:=heap_alloc_new ((w.alloc (.cells (ttCells ⟨v0,v1,v2,v3,v4,v5, .slice a6 t.thrus.length k6, .slice a7 t.guars.length k7,v8,v9⟩ t.fares) 35)).alloc (.cells #[.int .i64 r.trip, .int .i64 r.day, .int .i64 r.inst, .string ⟨r.id.toArray⟩, .int .i64 r.route, .bool r.free, .bool r.canc, .slice ar r.calls.length kr] 66)) (.cells #[.int .i64 (-1), .int .i64 0, .int .i64 0, .int .i64 0, .bool false] 95);simpa using this
 clear hL hxc hkr hxr hcx hxl hx rd hv;unfold ttV;go_enter Tryz.func79,Tryz.ntmps79
 go_upto_region 4 with fail
 obtain⟨w1,hw1,t1,r1,s1,b1⟩:=W0.out;change Code.wp _ _ _ _ (((w.alloc (.cells (ttCells ⟨v0,v1,v2,v3,v4,v5, .slice a6 t.thrus.length k6, .slice a7 t.guars.length k7,v8,v9⟩ t.fares) 35)).alloc (.cells #[.int .i64 r.trip, .int .i64 r.day, .int .i64 r.inst, .string ⟨r.id.toArray⟩, .int .i64 r.route, .bool r.free, .bool r.canc, .slice ar r.calls.length kr] 66)).alloc (.cells #[.int .i64 (-1), .int .i64 0, .int .i64 0, .int .i64 0, .bool false] 95));rw[←hw1];have HW1:=Lib.hid (And.intro t1 (And.intro r1 (And.intro s1 b1)));have e6:w1.cell? ⟨w.heap.size,6,none⟩=some (.slice a6 t.thrus.length k6):=blk_cell t1 6 _ rfl;have d0:w1.cell? ⟨w.heap.size+1,0,none⟩=some (.int .i64 r.trip):=blk_cell r1 0 _ rfl;clear hw1 t1 r1 s1 b1 W0;go_upto_if 35 with((refine(hNx.out _ HW1.out.2.2.2).mono ?_);rintro e w2 ⟨rfl,b2⟩)
 have t2:=blk_bl HW1.out.1 b2;have r2:=blk_bl HW1.out.2.1 b2;have s2:=blk_bl HW1.out.2.2.1 b2;have B2:=Lib.hid (bl_next HW1.out.2.2.2 b2);have HW2:=Lib.hid (And.intro t2 (And.intro r2 s2));clear e6 d0 b2;go_cut [9] (fun s9 wx=>OfAt w (.cells (ttCells ⟨v0,v1,v2,v3,v4,v5, .slice a6 t.thrus.length k6, .slice a7 t.guars.length k7,v8,v9⟩ t.fares) 35) (.cells #[.int .i64 r.trip, .int .i64 r.day, .int .i64 r.inst, .string ⟨r.id.toArray⟩, .int .i64 r.route, .bool r.free, .bool r.canc, .slice ar r.calls.length kr] 66) (stayP t (l.map (·.r)) a r) s9 wx)
 case first=>
  obtain⟨t2,r2,s2⟩:=HW2.out;have g1:w2.cell? ⟨w.heap.size+1,1,none⟩=some (.int .i64 r.day):=blk_cell r2 1 _ rfl;have g7:w2.cell? ⟨w.heap.size+1,7,none⟩=some (.slice ar r.calls.length kr):=blk_cell r2 7 _ rfl;clear t2 r2 s2;rcases hn:nextS (t.thrus.map thruOf) r.trip with _|x
  ·
   obtain⟨n1,n2⟩:=next_none hn;have HS:=Lib.hid (stay_none (l:=l.map (·.r)) (a:=a) hn);obtain rfl:nn=0:=HNN.out.1.symm.trans n1;obtain rfl:nb=false:=HNN.out.2.symm.trans n2;clear n1 n2 hn;go_wp2_with fail;go_meet
   case rel=>rw[HS.out];exact⟨World.ownsRow_nil _ _ _ _,HW2.out.2.2,HW2.out.2.1,HW2.out.1,B2.out⟩
  ·
   obtain⟨n1,n2⟩:=next_some hn;have hxi:isInt x.to:=by
    obtain⟨y,hy,rfl⟩:=List.mem_map.1 (List.mem_of_find?_eq_some hn);exact(ok.out.thrus y hy).2
   have hko:runkOk (x.to,r.day,0):=⟨hxi,HXC.out.2.2.1,(by show isInt 0;unfold isInt;omega)⟩;have hlk:=(hm.out.bl B2.out).look_ok runk_law Tryz.underlying162 (z:= .int .i64 0) (by kernel_rfl) (HK.out _ hko);rw[hG.out _ hko]at hlk;change(Instr.lookup 162 (.map (some bm)) (.agg #[.int .i64 x.to, .int .i64 r.day, .int .i64 0]) true).run Tryz.prog w2=_ at hlk;obtain rfl:nn=x.to:=HNN.out.1.symm.trans n1;obtain rfl:nb=true:=HNN.out.2.symm.trans n2;cases hat:atP (l.map (·.r)) (x.to,r.day,0)with
   |none=>
    have HS:=Lib.hid (stay_no (a:=a) hn hat);rw[hat]at hlk;simp only[Option.map_none,Option.getD_none,Option.isSome_none]at hlk;clear n1 n2 hn hat hxi hko;go_wp2_with fail;go_meet
    case rel=>rw[HS.out];exact⟨World.ownsRow_nil _ _ _ _,HW2.out.2.2,HW2.out.2.1,HW2.out.1,B2.out⟩
   |some bb=>
    have HS:=Lib.hid (stay_yes (a:=a) hn hat);rw[hat]at hlk;simp only[Option.map_some,Option.getD_some,Option.isSome_some]at hlk;clear n1 n2 hn hat hxi hko;have s2:=HW2.out.2.2;have f0:w2.frozen? ⟨w.heap.size+2,0,none⟩=false:=Lib.frozen_of_heap s2 0;have f1:w2.frozen? ⟨w.heap.size+2,1,none⟩=false:=Lib.frozen_of_heap s2 1;have f2:w2.frozen? ⟨w.heap.size+2,2,none⟩=false:=Lib.frozen_of_heap s2 2;have f3:w2.frozen? ⟨w.heap.size+2,3,none⟩=false:=Lib.frozen_of_heap s2 3;have f4:w2.frozen? ⟨w.heap.size+2,4,none⟩=false:=Lib.frozen_of_heap s2 4;have p0:w2.cell? ⟨w.heap.size+2,0,none⟩=some (.int .i64 (-1)):=blk_cell s2 0 _ rfl;have p1:w2.cell? ⟨w.heap.size+2,1,none⟩=some (.int .i64 0):=blk_cell s2 1 _ rfl;have p2:w2.cell? ⟨w.heap.size+2,2,none⟩=some (.int .i64 0):=blk_cell s2 2 _ rfl;have p3:w2.cell? ⟨w.heap.size+2,3,none⟩=some (.int .i64 0):=blk_cell s2 3 _ rfl;have p4:w2.cell? ⟨w.heap.size+2,4,none⟩=some (.bool false):=blk_cell s2 4 _ rfl;clear s2;go_upto_region 9 with fail
    obtain⟨h5,g5⟩:=put5 HW2.out.2.2 (.int .i64 a) (.int .i64 ((r.calls.length:Int)-1)) (.int .i64 bb) (.int .i64 0) (.bool true);change Code.wp _ _ _ _ (((((w2.setCell ⟨w.heap.size+2,0,none⟩ (.int .i64 a)).setCell ⟨w.heap.size+2,1,none⟩ (.int .i64 ((r.calls.length:Int)-1))).setCell ⟨w.heap.size+2,2,none⟩ (.int .i64 bb)).setCell ⟨w.heap.size+2,3,none⟩ (.int .i64 0)).setCell ⟨w.heap.size+2,4,none⟩ (.bool true));generalize (((((w2.setCell ⟨w.heap.size+2,0,none⟩ (.int .i64 a)).setCell ⟨w.heap.size+2,1,none⟩ (.int .i64 ((r.calls.length:Int)-1))).setCell ⟨w.heap.size+2,2,none⟩ (.int .i64 bb)).setCell ⟨w.heap.size+2,3,none⟩ (.int .i64 0)).setCell ⟨w.heap.size+2,4,none⟩ (.bool true))=w3 at h5 g5 ⊢
    have H3:=Lib.hid (And.intro h5 g5);have hz3:=g5.size;have hz2:=lt_of_block HW2.out.2.2;have r0:w3.cell? ⟨w.heap.size+2,0,none⟩=some (.int .i64 a):=blk_cell h5 0 _ rfl;have r1:w3.cell? ⟨w.heap.size+2,1,none⟩=some (.int .i64 ((r.calls.length:Int)-1)):=blk_cell h5 1 _ rfl;have r2:w3.cell? ⟨w.heap.size+2,2,none⟩=some (.int .i64 bb):=blk_cell h5 2 _ rfl;have r3:w3.cell? ⟨w.heap.size+2,3,none⟩=some (.int .i64 0):=blk_cell h5 3 _ rfl;have r4:w3.cell? ⟨w.heap.size+2,4,none⟩=some (.bool true):=blk_cell h5 4 _ rfl;clear h5 g5 p0 p1 p2 p3 p4 f0 f1 f2 f3 f4 hlk;go_wp2_with (at_builtin;refine wpList_append_own _ rfl _ _ 52 rfl (w.heap.size+3) 95 i0 _ 5 40 Tryz.underlying52 hi hz0 hz1 hz2' rfl (by decide) (.slice none 0 0) 0 [] rfl (World.ownsRow_nil _ _ _ _) ⟨w3.heap.size,0,none⟩ 1 1 (linkCells ⟨a,(r.calls.length:Int)-1,bb,0,true⟩) rfl rfl ?c1 ?c2 ?c3 ?c4 ?c5 ?_)
    case c1=>first|exact fun j u hj=>hj|exact cells_new _ _ (by first|rfl|simp) (fun j u hj=>by rw[List.getElem?_toArray];exact hj)
    case c2=>simp[linkCells,Value.oneCell']
    case c3=>unfold maxLen;omega
    case c4=>omega
    case c5=>simp;omega
    intro v6 w6 own6 gr6 _;obtain⟨a8,k8,rfl⟩:=slice_of_own own6;have hb3: ∀ g o,w3.heap[g]? =some o→w6.heap[g]? =some o:=fun g o hg=>(gr6.block g (by simp;have:=(Array.getElem?_eq_some_iff.1 hg).1;omega) (by simp[Value.ownBlock])).trans (blk_bl hg (bl_alloc (bl_refl _) _))
    have hgk:=fun g o (hg:w2.heap[g]? =some o) (hne:g≠w.heap.size+2)=>hb3 g o ((H3.out.2.block g (Array.getElem?_eq_some_iff.1 hg).1 (fun e=>hne (Option.some.inj e))).trans hg)
    have hbl6:Bl w w6:=by
     have h1:Below w.heap.size w w3:=B2.out.grown H3.out.2 B2.out.size (fun q hq=>by simp only[Option.some.injEq]at hq;omega);have h2:Bl w (w3.alloc (.cells #[.int .i64 a, .int .i64 ((r.calls.length:Int)-1), .int .i64 bb, .int .i64 0, .bool true] 95)):=bl_alloc h1 _;exact h2.grown gr6 h2.size (fun q hq=>by simp[Value.ownBlock]at hq)
    have HF:=Lib.hid (show OfAt w (.cells (ttCells ⟨v0,v1,v2,v3,v4,v5, .slice a6 t.thrus.length k6, .slice a7 t.guars.length k7,v8,v9⟩ t.fares) 35) (.cells #[.int .i64 r.trip, .int .i64 r.day, .int .i64 r.inst, .string ⟨r.id.toArray⟩, .int .i64 r.route, .bool r.free, .bool r.canc, .slice ar r.calls.length kr] 66) (stayP t (l.map (·.r)) a r) (.slice a8 1 k8) w6 by
     rw[HS.out];refine⟨?_,hb3 _ _ H3.out.1,hgk _ _ HW2.out.2.1 (by omega),hgk _ _ HW2.out.1 (by omega),hbl6⟩;simpa using own6)
    clear own6 gr6 hb3 hgk hbl6;go_wp2_with fail;go_meet
    case rel=>exact HF.out
 case rest=>
  obtain⟨sty,hsty⟩: ∃ s,stayP t (l.map (·.r)) a r=s:=⟨_,rfl⟩;rw[hsty]at hcut;have HSty:=Lib.hid hsty;have HC:=Lib.hid hcut;obtain⟨a9,k9,h9⟩:=slice_of_own hcut.own;subst h9;have q7:wc.cell? ⟨w.heap.size,7,none⟩=some (.slice a7 t.guars.length k7):=blk_cell hcut.tt 7 _ rfl;clear hsty hcut HW1 HW2 B2 hNx;go_wp2_with fail;go_loopw [9,60] (fun v i wr=> ∃ (k:Nat) (u:Value),(k≤t.guars.length∧i= .int .i64 k∧v=u)∧Hid (wr.ownsRow (w.heap.size+3) 95 5 u (sty.toList++(t.guars.take k).filterMap (guarP t (l.map (·.r)) a r)).length ((sty.toList++(t.guars.take k).filterMap (guarP t (l.map (·.r)) a r)).flatMap linkCells)∧Below (w.heap.size+3) wc wr)) (fun _ i _=>t.guars.length-(intOf i).toNat)
  case atStart=>exact⟨0,_,⟨Nat.zero_le _,rfl,rfl⟩,Lib.hid ⟨by simpa using HC.out.own,Below.refl _ _⟩⟩
  case round=>
   obtain⟨k,u,⟨hk,rfl,rfl⟩,HR⟩:=hrel;obtain⟨lk,hlen⟩: ∃ L,sty.toList++(t.guars.take k).filterMap (guarP t (l.map (·.r)) a r)=L:=⟨_,rfl⟩;rw[hlen]at HR;have HLen:=Lib.hid hlen;clear hlen;obtain⟨au,ku,rfl⟩:=slice_of_own HR.out.1;have hzc:w.heap.size+3≤wc.heap.size:=lt_of_block HC.out.stay;have BW:Hid (Bl w wr):=Lib.hid (HC.out.bl.trans (HR.out.2.mono (by omega)));by_cases hlt:k<t.guars.length
   ·
    have hltI:(k:Int)<(t.guars.length:Int):=by omega
    obtain⟨bg,og,g,rfl,hbgl,hg,hcg⟩:=RD.out.guars.get (k:=k) hlt BW.out hB;have y0:wr.cell? ⟨bg,og+k*3,none⟩=some (.int .i64 g.frm):=hcg 0 _ rfl;have y1:wr.cell? ⟨bg,og+k*3+1,none⟩=some (.int .i64 g.to):=hcg 1 _ rfl;have y2:wr.cell? ⟨bg,og+k*3+2,none⟩=some (.int .i64 g.stop):=hcg 2 _ rfl;have hzr:=HR.out.2.size;have hr1:w.heap.size+1<wr.heap.size:=by omega
    have hr2:w.heap.size+1+1<wr.heap.size:=by omega
    have hrr:=(HR.out.2.block (w.heap.size+1) (by omega)).trans HC.out.run;have hss:=(HR.out.2.block (w.heap.size+2) (by omega)).trans HC.out.stay;have HSS:=Lib.hid (And.intro hrr hss);have x0:wr.cell? ⟨w.heap.size+1,0,none⟩=some (.int .i64 r.trip):=blk_cell hrr 0 _ rfl;have x1:wr.cell? ⟨w.heap.size+1,1,none⟩=some (.int .i64 r.day):=blk_cell hrr 1 _ rfl;have x7:wr.cell? ⟨w.heap.size+1,7,none⟩=some (.slice ar r.calls.length kr):=blk_cell hrr 7 _ rfl;have hgi:=ok.out.guars g (List.mem_of_getElem? hg);have hko:runkOk (g.to,r.day,0):=⟨hgi.2.1,HXC.out.2.2.1,(by show isInt 0;unfold isInt;omega)⟩;have Ba:Bl wr (wr.alloc (.cells #[.int .i64 g.frm, .int .i64 g.to, .int .i64 g.stop] 137)):=bl_alloc (bl_refl _) _;have hlk:=(hm.out.bl (bl_next BW.out Ba)).look_ok runk_law Tryz.underlying162 (z:= .int .i64 0) (by kernel_rfl) (HK.out _ hko);rw[hG.out _ hko]at hlk;change(Instr.lookup 162 (.map (some bm)) (.agg #[.int .i64 g.to, .int .i64 r.day, .int .i64 0]) true).run Tryz.prog _=_ at hlk;have HT:=Lib.hid (take_snoc_at hg);have hcs: ∀ o,guarP t (l.map (·.r)) a r g=o→sty.toList++(t.guars.take (k+1)).filterMap (guarP t (l.map (·.r)) a r)=lk++o.toList:=fun o ho=>by
     rw[HT.out,List.filterMap_append,←List.append_assoc,HLen.out];congr 1
     simp only[List.filterMap_cons,ho,List.filterMap_nil];cases o<;>rfl
    have HCS:=Lib.hid hcs;have hlkl:lk.length≤1+t.guars.length:=by
     rw[←HLen.out,List.length_append];have h1:=List.length_filterMap_le (guarP t (l.map (·.r)) a r) (t.guars.take k);rw[List.length_take]at h1;have h2:sty.toList.length≤1:=by cases sty<;>simp
     omega
    clear hcs hrr hss hcg hg hgi hko;have skip: ∀ w5:World,Bl wr w5→guarP t (l.map (·.r)) a r g=none→(∃ (k1:Nat) (u:Value),(k1≤t.guars.length∧Value.int .i64 ((k:Int)+1)= .int .i64 k1∧Value.slice au lk.length ku=u)∧Hid (w5.ownsRow (w.heap.size+3) 95 5 u (sty.toList++(t.guars.take k1).filterMap (guarP t (l.map (·.r)) a r)).length ((sty.toList++(t.guars.take k1).filterMap (guarP t (l.map (·.r)) a r)).flatMap linkCells)∧Below (w.heap.size+3) wc w5)):=fun w5 hb hn=>by
     refine⟨k+1,_,⟨by omega,by go_num,rfl⟩,Lib.hid ?_⟩;rw[HCS.out none hn];simp only[Option.toList_none,List.append_nil];exact⟨own_bl HR.out.1 hb,HR.out.2.trans (hb.mono (by omega))⟩
    have SK:=Lib.hid skip;have BA:=Lib.hid Ba;clear skip Ba;rcases hat:atP (l.map (·.r)) (g.to,r.day,0)with _|bb
    ·
     have hno:guarP t (l.map (·.r)) a r g=none:=by unfold guarP;rw[hat]
     rw[hat]at hlk;simp only[Option.map_none,Option.getD_none,Option.isSome_none]at hlk;have HNo:=Lib.hid (SK.out _ BA.out hno);clear hat hno;by_cases hf:g.frm=r.trip
     ·
      have e1:(g.frm != r.trip)=false:=by rw[hf];simp
      clear hf;go_wp2_with fail;exact⟨HNo.out,by simp only[intOf];omega⟩
     ·
      have e1:(g.frm != r.trip)=true:=by rw[bne_iff_ne];exact hf
      clear hf;go_wp2_with fail;exact⟨HNo.out,by simp only[intOf];omega⟩
    ·
     rw[hat]at hlk;simp only[Option.map_some,Option.getD_some,Option.isSome_some]at hlk;by_cases hf:g.frm=r.trip
     ·
      have e1:(g.frm != r.trip)=false:=by rw[hf];simp
      have hbl2:=atP_lt hat;rw[List.length_map]at hbl2;have HF:=Lib.hid (And.intro hat hf);clear hat hf;obtain⟨b2,o2,x2,he,hb2l,hx2,hcx2⟩:=HV.out.sl.get (k:=bb) hbl2 (bl_refl w) hB;simp only[Option.some.injEq,Addr.mk.injEq,and_true]at he;obtain⟨rfl,rfl⟩:=he;have hx2c:=HV.out.calls x2 (List.mem_of_getElem? hx2);obtain⟨sa,sk,hx2v,-,-⟩:=hx2c.val;have z7:w.cell? ⟨b,o+bb*8+7,none⟩=some x2.v:=hcx2 7 _ rfl;rw[hx2v]at z7 hx2c;obtain⟨⟨mi,mk,mo⟩,hmt⟩: ∃ q,meetsS r.calls x2.r.calls g.stop=q:=⟨_,rfl⟩;have hM:=fun(w1:World) (h:Bl w w1)=>Th.meets_c (.slice ar r.calls.length kr) (.slice sa x2.r.calls.length sk) r.calls x2.r.calls g.stop mi mk mo (Lib.hid hmt) B w1 (HXC.out.1.below (h.mono hB)) (hx2c.below (h.mono hB)) (Nat.le_trans hB h.size)
      have hgp:guarP t (l.map (·.r)) a r g=if mo then(if sty=some ⟨a,mi,bb,mk,true⟩then none else some ⟨a,mi,bb,mk,false⟩)else none:=by
       unfold guarP;rw[HF.out.1];simp only[if_pos HF.out.2];rw[List.getElem?_map,hx2];simp only[Option.map_some,hmt,HSty.out]
      have HM:=Lib.hid hM;have HGP:=Lib.hid hgp;have hbbI:(bb:Int)<(l.length:Int):=by omega
      clear hx2 hcx2 hx2v hx2c hmt hM hgp;go_upto_region 15 with fail
      have hgb:=heap_alloc_new wr (.cells #[.int .i64 g.frm, .int .i64 g.to, .int .i64 g.stop] 137);have Ba:=BA.out;change Code.wp _ _ _ _ (wr.alloc (.cells #[.int .i64 g.frm, .int .i64 g.to, .int .i64 g.stop] 137));generalize wr.alloc (.cells #[.int .i64 g.frm, .int .i64 g.to, .int .i64 g.stop] 137)=w5 at Ba hgb ⊢
      have BW5:=Lib.hid (bl_next BW.out Ba);have hold: ∀ w',Bl w5 w'→(w'.cell? ⟨w.heap.size+1,7,none⟩=some (.slice ar r.calls.length kr)∧w'.cell? ⟨b,o+bb*8+7,none⟩=some (.slice sa x2.r.calls.length sk)∧w'.cell? ⟨wr.heap.size,2,none⟩=some (.int .i64 g.stop)):=fun w' hb=>
       ⟨blk_cell (blk_bl HSS.out.1 (bl_next Ba hb)) 7 _ rfl,((bl_cell (bl_next BW5.out hb)).1 _ _ hb2l).trans z7,blk_cell (blk_bl hgb hb) 2 _ rfl⟩
      have HBa:=Lib.hid Ba;clear z7 hlk y0 y1 y2 x0 x1 x7 Ba hgb;first
      |go_region_held3 (fun w'=>w'.cell? ⟨w.heap.size+1,7,none⟩=some (.slice ar r.calls.length kr)∧w'.cell? ⟨b,o+bb*8+7,none⟩=some (.slice sa x2.r.calls.length sk)∧w'.cell? ⟨wr.heap.size,2,none⟩=some (.int .i64 g.stop))
        (first|exact hold _ (bl_drew (bl_refl _))|exact hold _ (bl_next (bl_drew (bl_refl _)) b6))
        ((go_at_call 59;refine(HM.out _ (bl_drew BW5.out)).mono ?_;rintro e w6 ⟨rfl,b6⟩))
      |fail
      have B6:=Lib.hid (bl_next HBa.out (bl_next (bl_drew (bl_refl w5)) b6));have hs6:=blk_bl HSS.out.2 B6.out;obtain⟨sL,hsL⟩: ∃ s,sty.getD negL=s:=⟨_,rfl⟩;rw[hsL]at hs6;have p0:w6.cell? ⟨w.heap.size+2,0,none⟩=some (.int .i64 sL.frm):=blk_cell hs6 0 _ rfl;have p1:w6.cell? ⟨w.heap.size+2,1,none⟩=some (.int .i64 sL.frmC):=blk_cell hs6 1 _ rfl;have p2:w6.cell? ⟨w.heap.size+2,2,none⟩=some (.int .i64 sL.dst):=blk_cell hs6 2 _ rfl;have p3:w6.cell? ⟨w.heap.size+2,3,none⟩=some (.int .i64 sL.dstC):=blk_cell hs6 3 _ rfl;have p4:w6.cell? ⟨w.heap.size+2,4,none⟩=some (.bool sL.stay):=blk_cell hs6 4 _ rfl;have hne:=fun w=>link_eqIn sL ⟨a,mi,bb,mk,true⟩ w
      simp only[linkCells]at hne;have HsL:=Lib.hid hsL;clear b6 hs6 hold hsL;cases mo with
      |false=>
       have HNo:=Lib.hid (SK.out _ B6.out (by rw[HGP.out];rfl));go_wp2_with fail;exact⟨HNo.out,by simp only[intOf];omega⟩
      |true=>
       by_cases hst:sty=some ⟨a,mi,bb,mk,true⟩
       ·
        have hd:decide (sL=⟨a,mi,bb,mk,true⟩)=true:=decide_eq_true (by rw[←HsL.out,hst];rfl);rw[hd]at hne;have HNo:=Lib.hid (SK.out _ B6.out (by rw[HGP.out,if_pos rfl,if_pos hst]));clear hd hst;go_wp2_with fail;exact⟨HNo.out,by simp only[intOf];omega⟩
       ·
        have hd:decide (sL=⟨a,mi,bb,mk,true⟩)=false:=decide_eq_false (fun e=>by
         rw[←HsL.out]at e;cases hsty2:sty with
         |none=>
          rw[hsty2]at e;have:=congrArg LinkD.frm e;simp only[Option.getD_none,negL]at this;omega
         |some y=>
          rw[hsty2]at e;exact hst (by rw[hsty2];exact congrArg some e))
        rw[hd]at hne;have hgy:guarP t (l.map (·.r)) a r g=some ⟨a,mi,bb,mk,false⟩:=by rw[HGP.out,if_pos rfl,if_neg hst]
        have HCY:=Lib.hid (HCS.out _ hgy);have hz6:=B6.out.size;clear hd hst hgy;go_wp2_with (at_builtin;refine wpList_append_own _ rfl _ _ 52 rfl (w.heap.size+3) 95 i0 _ 5 40 Tryz.underlying52 hi hz0 hz1 hz2' rfl (by decide) _ _ _ rfl ((own_bl HR.out.1 B6.out).alloc _) ⟨w6.heap.size,0,none⟩ 1 1 (linkCells ⟨a,mi,bb,mk,false⟩) rfl rfl ?c1 ?c2 ?c3 ?c4 ?c5 ?_)
        case c1=>first|exact fun j u hj=>hj|exact cells_new _ _ (by first|rfl|simp) (fun j u hj=>by rw[List.getElem?_toArray];exact hj)
        case c2=>simp[linkCells,Value.oneCell']
        case c3=>unfold maxLen;omega
        case c4=>omega
        case c5=>first|omega|(simp;omega)
        intro v7 w7 own7 gr7 _;obtain⟨a8,k8,rfl⟩:=slice_of_own own7;have HF:=Lib.hid (show w7.ownsRow (w.heap.size+3) 95 5 (.slice a8 (lk.length+1) k8) (sty.toList++(t.guars.take (k+1)).filterMap (guarP t (l.map (·.r)) a r)).length ((sty.toList++(t.guars.take (k+1)).filterMap (guarP t (l.map (·.r)) a r)).flatMap linkCells)∧Below (w.heap.size+3) wc w7 by
         rw[HCY.out];refine⟨by first|exact own7|(rw[List.length_append,List.flatMap_append];exact own7), ?_⟩;have h1:Below (w.heap.size+3) wc (w6.alloc (.cells #[.int .i64 a, .int .i64 mi, .int .i64 bb, .int .i64 mk, .bool false] 95)):=(HR.out.2.trans (B6.out.mono (by omega))).alloc (by omega) _;exact h1.grown gr7 (by have:=h1.size;omega) (fun q hq=>(World.ownsRow.lt HR.out.1 q hq).1))
        clear own7 gr7;go_wp2_with fail;exact⟨⟨k+1,_,⟨by omega,by go_num,rfl⟩,HF⟩,by simp only[intOf];omega⟩
     ·
      have e1:(g.frm != r.trip)=true:=by rw[bne_iff_ne];exact hf
      have hno:guarP t (l.map (·.r)) a r g=none:=by unfold guarP;rw[hat];simp only[if_neg hf]
      have HNo:=Lib.hid (SK.out _ BA.out hno);clear hf hat hno;go_wp2_with fail;exact⟨HNo.out,by simp only[intOf];omega⟩
   ·
    obtain rfl:k=t.guars.length:=by omega
    have hres:linksOf t (l.map (·.r)) a=sty.toList++(t.guars.take t.guars.length).filterMap (guarP t (l.map (·.r)) a r):=by rw[List.take_length,HL.out,HSty.out]
    have HRes:=Lib.hid hres;clear hres;go_wp2_with fail;go_ret;exact⟨_,rfl,(by rw[HRes.out,HLen.out];exact own_low HR.out.1 (Nat.le_add_right _ _)),BW.out⟩
end Go.Proofs.YtncbcmiflffakaaGreat
namespace Go.Proofs.YtncbcmiflffakaaGreat
open Go.RowKit
open Frq Thr Tt Num Clk Dat Fld Da
theorem link_oneCell (x:LinkD): ∀ u∈linkCells x,u.oneCell'=true:=by
 intro u hu;simp only[linkCells,List.mem_cons,List.not_mem_nil,or_false]at hu;rcases hu with rfl|rfl|rfl|rfl|rfl<;>rfl
theorem linksN_mono (t:TtD) (l:List RunD) {k n:Nat} (h:k≤n):(linksN t l k).length≤(linksN t l n).length:=by
 obtain⟨c,rfl⟩: ∃ c,n=k+c:=⟨n-k,by omega⟩;clear h;induction c with
 |zero=>exact Nat.le_refl _
 |succ c ih=>rw[←Nat.add_assoc,linksN_succ,List.length_append];omega
theorem linksOf_len (t:TtD) (l:List RunD) (a:Nat):(linksOf t l a).length≤1+t.guars.length:=by
 unfold linksOf;split
 · simp
 ·
  rename_i r _;rw[List.length_append];have h1:=List.length_filterMap_le (guarP t l a r) t.guars;have h2:(stayP t l a r).toList.length≤1:=by cases stayP t l a r<;>simp
  omega
theorem links_c (V:TtV) (ts:List TripD) (t:TtD) (hc:Hid (ttChk t=(0,0,0))) (ok:Hid (TtOk t)) (vl:Value) (l:List RunV) (hl:l.length≤1024) (hok:Hid (∀ x∈l,keyOkR x.r)) (B:Nat) (w:World) (rd:TtRd B w V ts t) (hB:B≤w.heap.size) (hv:RunsRd B w vl l):
  Calls Tryz.prog 45 #[ttV V t,vl] w fun e w'=> ∃ v',e= .returned (.tuple #[v', .int .i64 (linksP t (l.map (·.r))).2])∧w'.ownsRow w.heap.size 95 5 v' (linksP t (l.map (·.r))).1.length ((linksP t (l.map (·.r))).1.flatMap linkCells)∧Bl w w':=by
 obtain⟨gk,hgk⟩:=runkFn_ex;have HK:=Lib.hid hgk;have hs:Hid (SoundT t):=Lib.hid (sound_of (by rw[hc.out]));have hgl:=hs.out.lens.2.2.2.2.2.2.1;have RD:=Lib.hid rd;have HV:=Lib.hid hv;have hC:=fun(w1:World) (h:Bl w w1)=>tcheck_c V ts t 0 0 0 hc ok B w1 (rd.bl h hB) (Nat.le_trans hB h.size)
 have hI:=fun(w1:World) (h:Bl w w1)=>index_c gk HK V ts t hs vl l hl hok B w1 (rd.bl h hB) (Nat.le_trans hB h.size) (hv.bl h hB)
 have hO:=fun(bm n:Nat) (G:Lit→Option Value) (hG:Hid (AtMap gk (l.map (·.r)) G)) (a:Nat) (ha:a<l.length) (w1:World) (h:Bl w w1) (hm:Hid (OwnsVal w1 Tryz.prog 202 bm n G))=>of_c gk HK V ts t ok hs vl l hl hok bm n G hG a ha B w1 (rd.bl h hB) (Nat.le_trans hB h.size) (hv.bl h hB) hm
 obtain⟨v0,v1,v2,v3,v4,v5,v6,v7,v8,v9⟩:=V;unfold ttV at hC hI hO ⊢;have HC:=Lib.hid hC;have HI:=Lib.hid hI;have HO:=Lib.hid hO;obtain⟨al,kl,rfl,-,-⟩:=hv.sl.val;have hlI:(l.length:Int)≤1024:=by omega
 have hlD:decide (1024<(l.length:Int))=false:=decide_eq_false (by omega);obtain⟨i0,hi,hz0,hz1,hz2⟩:=info_parts info_link;obtain⟨E,hE⟩: ∃ e,(chk (indexErr t) [] (l.map (·.r))).2=e:=⟨_,rfl⟩;rw[hE]at HI;have HE:=Lib.hid hE;clear hC hI hO hgk hE rd hv;have HT:=Lib.hid (heap_alloc_new w (.cells (ttCells ⟨v0,v1,v2,v3,v4,v5,v6,v7,v8,v9⟩ t.fares) 35));have HB:=Lib.hid (show Bl w (w.alloc (.cells (ttCells ⟨v0,v1,v2,v3,v4,v5,v6,v7,v8,v9⟩ t.fares) 35)) from bl_alloc (bl_refl _) _);go_enter Tryz.func45,Tryz.ntmps45
 go_wp2_with fail;refine(HC.out _ HB.out).mono ?_;rintro e w2 ⟨rfl,b2⟩;have hT:=blk_bl HT.out b2;have HT2:=Lib.hid hT;have B2:=Lib.hid (bl_next HB.out b2);have q: ∀ j u,(ttCells ⟨v0,v1,v2,v3,v4,v5,v6,v7,v8,v9⟩ t.fares)[j]? =some u→w2.cell? ⟨w.heap.size,j,none⟩=some u:=fun j u hj=>blk_cell hT j u hj
 have q0:=q 0 _ rfl;have q1:=q 1 _ rfl;have q2:=q 2 _ rfl;have q3:=q 3 _ rfl;have q4:=q 4 _ rfl;have q5:=q 5 _ rfl;have q6:=q 6 _ rfl;have q7:=q 7 _ rfl;have q8:=q 8 _ rfl;have q9:=q 9 _ rfl;have q10:=q 10 _ rfl;have q11:=q 11 _ rfl;have q12:=q 12 _ rfl;clear q;clear hT b2 HC;go_wp2_with fail;refine(HI.out _ B2.out).mono ?_;rintro e w3 ⟨⟨mv,rfl,hmv⟩,b3⟩;have HT3:=Lib.hid (blk_bl HT2.out b3);have B3:=Lib.hid (bl_next B2.out b3);clear b3 HI q0 q1 q2 q3 q4 q5 q6 q7 q8 q9 q10 q11 q12;by_cases hE0:E=0
 ·
  obtain⟨bm,G,rfl,hm,hG⟩:=hmv hE0;subst hE0;have HM:=Lib.hid hm;have HG:=Lib.hid hG;clear hmv hm hG;go_wp2_with fail;go_loopw [11,36] (fun v i wr=> ∃ (k:Nat) (u:Value),(k≤l.length∧i= .int .i64 k∧v=u)∧Hid (wr.ownsRow w3.heap.size 95 5 u (linksN t (l.map (·.r)) k).length ((linksN t (l.map (·.r)) k).flatMap linkCells)∧(linksN t (l.map (·.r)) k).length≤1024∧Bl w3 wr)) (fun _ i _=>l.length-(intOf i).toNat)
  case atStart=>exact⟨0,_,⟨Nat.zero_le _,rfl,rfl⟩,Lib.hid ⟨World.ownsRow_nil _ _ _ _,by simp[linksN],bl_refl _⟩⟩
  case round=>
   obtain⟨k,u,⟨hk,rfl,rfl⟩,HR⟩:=hrel;obtain⟨lk,hlk⟩: ∃ L,linksN t (l.map (·.r)) k=L:=⟨_,rfl⟩;have HLk:=Lib.hid hlk;rw[hlk]at HR;clear hlk;obtain⟨au,ku,rfl⟩:=slice_of_own HR.out.1;by_cases hlt:k<l.length
   ·
    have hltI:(k:Int)<(l.length:Int):=by omega
    have BW:=Lib.hid (bl_next B3.out HR.out.2.2);have hT:=blk_bl HT3.out HR.out.2.2;have q: ∀ j u,(ttCells ⟨v0,v1,v2,v3,v4,v5,v6,v7,v8,v9⟩ t.fares)[j]? =some u→wr.cell? ⟨w.heap.size,j,none⟩=some u:=fun j u hj=>blk_cell hT j u hj
    have q0:=q 0 _ rfl;have q1:=q 1 _ rfl;have q2:=q 2 _ rfl;have q3:=q 3 _ rfl;have q4:=q 4 _ rfl;have q5:=q 5 _ rfl;have q6:=q 6 _ rfl;have q7:=q 7 _ rfl;have q8:=q 8 _ rfl;have q9:=q 9 _ rfl;have q10:=q 10 _ rfl;have q11:=q 11 _ rfl;have q12:=q 12 _ rfl;clear q;have HOf:=Lib.hid (HO.out bm l.length G HG k hlt wr BW.out (Lib.hid (HM.out.bl HR.out.2.2)));obtain⟨lo,hlo⟩: ∃ L,linksOf t (l.map (·.r)) k=L:=⟨_,rfl⟩;rw[hlo]at HOf;have HLo:=Lib.hid hlo;have hlol:=linksOf_len t (l.map (·.r)) k;rw[hlo]at hlol;have hnx:linksN t (l.map (·.r)) (k+1)=lk++lo:=by rw[linksN_succ,HLk.out,hlo]
    have HNx:=Lib.hid hnx;have hlkl:=HR.out.2.1;clear hT hlo hnx;go_wp2_with fail;refine HOf.out.mono ?_;rintro e w5 ⟨v5',rfl,o5,b5⟩;obtain⟨a5,k5,rfl⟩:=slice_of_own o5;have S5:=Lib.hid (slIn_own linkCells_len o5);have R5:=Lib.hid (own_bl HR.out.1 b5);have B5:=Lib.hid b5;have hz5:=b5.size;have hzw:=HR.out.2.2.size;have hzz:=B3.out.size;clear o5 b5 HOf q0 q1 q2 q3 q4 q5 q6 q7 q8 q9 q10 q11 q12;go_wp2_with (at_builtin;refine wpList_append_sl rfl _ _ 52 rfl linkCells_len w3.heap.size 95 i0 _ 40 Tryz.underlying52 hi hz0 hz1 hz2 rfl (by decide) _ _ _ rfl R5.out _ lo (fun x _=>link_oneCell x) rfl S5.out ?c1 ?c2 ?c3 ?_)
    case c1=>unfold maxLen;omega
    case c2=>omega
    case c3=>omega
    intro v6 w6 own6 gr6 _;obtain⟨a6,k6,rfl⟩:=slice_of_own own6;have own7:w6.ownsRow w3.heap.size 95 5 (.slice a6 (lk.length+lo.length) k6) (linksN t (l.map (·.r)) (k+1)).length ((linksN t (l.map (·.r)) (k+1)).flatMap linkCells):=by
     rw[HNx.out,List.length_append,List.flatMap_append];exact own6
    have B6:=Lib.hid (show Bl w3 w6 from(bl_next HR.out.2.2 B5.out).grown gr6 (by omega) (fun q hq=>(World.ownsRow.lt R5.out q hq).1));have hz6:=gr6.size;have O7:=Lib.hid own7;clear own6 own7 gr6;by_cases hlim:lk.length+lo.length≤1024
    ·
     have hlimI:((lk.length:Int)+(lo.length:Int))≤1024:=by omega
     have HLim:=Lib.hid (show(linksN t (l.map (·.r)) (k+1)).length≤1024 by rw[HNx.out,List.length_append];exact hlim);go_wp2_with fail;exact⟨⟨k+1,_,⟨by omega,by go_num,rfl⟩,Lib.hid ⟨O7.out,HLim.out,B6.out⟩⟩,by simp only[intOf];omega⟩
    ·
     have hlimI:1024<((lk.length:Int)+(lo.length:Int)):=by omega
     have hres:linksP t (l.map (·.r))=([],5):=by
      have h1:=linksN_mono t (l.map (·.r)) (show k+1≤l.length by omega);rw[HNx.out,List.length_append]at h1;unfold linksP;rw[List.length_map,if_neg (by omega),HE.out,if_neg (fun q=>q rfl),if_pos (by omega)]
     have HRes:=Lib.hid hres;clear hres;go_wp2_with fail;go_ret2;rw[HRes.out];exact⟨_,rfl,World.ownsRow_nil _ _ _ _,bl_next B3.out B6.out⟩
   ·
    obtain rfl:k=l.length:=by omega
    have hres:linksP t (l.map (·.r))=(lk,0):=by
     unfold linksP;rw[List.length_map,if_neg (by omega),HE.out,if_neg (fun q=>q rfl),HLk.out,if_neg (by have:=HR.out.2.1;omega)]
    have HRes:=Lib.hid hres;clear hres;go_wp2_with fail;go_ret2;rw[HRes.out];exact⟨_,rfl,own_low HR.out.1 B3.out.size,bl_next B3.out HR.out.2.2⟩
 ·
  have hE1:(E != 0)=true:=by rw[bne_iff_ne];exact hE0
  have hres:linksP t (l.map (·.r))=([],E):=by
   unfold linksP;rw[List.length_map,if_neg (by omega),HE.out,if_pos hE0]
  have HRes:=Lib.hid hres;clear hres hmv hE0;go_wp2_with fail;go_ret2;rw[HRes.out];exact⟨_,rfl,World.ownsRow_nil _ _ _ _,B3.out⟩
end Go.Proofs.YtncbcmiflffakaaGreat
