/-
  What the laws of top need of TopOvE. Conditions: those of each lemma.
-/
import Derived.Test.YtncbcmiflffakaaGreatPkOvC
import Derived.Test.YtncbcmiflffakaaGreatPkOvB
import Derived.Deep.RegionHeld3
set_option maxRecDepth 1000000
set_option maxHeartbeats 32000000
namespace Go.Proofs.YtncbcmiflffakaaGreat
open Go.RowKit
open Frq Thr Tt
theorem wp_append_in {P:Program} {w:World} {o:Oper} {a:Act} {K:Act→World→Prop} {Q:Exit→Act→World→Prop} (s x:Operand) (t:TypeId)
  (ho:o.op= .call { callee:= .builtin .append,args:= #[s,x],argTypes:= #[t,t] })
  (base:Nat) (e:TypeId) (i:TypeInfo) (z:Value) (size bytes:Nat) (ht:P.underlying t=some (.slice e)) (hi:P.info? e=some i) (hz:i.zero=some z)
  (hsize:i.size=size) (hby:i.bytes=bytes) (hzs:z.cells.size=size) (hsz:0<size)
  (v:Value) (n:Nat) (xs:List Value) (hs:a.eval s=v) (hown:RowIn w base e size v n xs)
  (ad:Addr) (m c:Nat) (news:List Value) (hx:a.eval x= .slice (some ad) m c) (hl:news.length=m*size) (hnews: ∀ j u,news[j]? =some u→w.cell? (ad.add j)=some u) (h1: ∀ u∈news,u.oneCell'=true)
  (h63:n+m≤maxLen) (hbytes:(n+m)*bytes≤140737488355328) (hbase:base≤w.heap.size)
  (h: ∀ v' w',RowIn w' base e size v' (n+m) (xs++news)→w.grownBy w' v.ownBlock→K (a.put o.dst v') w'):o.wp P a w K Q:=by
 obtain⟨v',w',hr,h2,h3⟩:=run_append_in (P:=P) w base t o.type e i z size bytes ht hi hz hsize hby hzs hsz v n xs hown ad m c news hl hnews h1 h63 hbytes hbase;unfold Oper.wp execOp;simp only[ho,resolve,invoke,builtin,Sem.run_bind,Sem.run_pure,Result.andThen_ok,List.map_toArray,List.map_cons,List.map_nil,hs,hx,hr];exact h v' w' h2 h3
theorem NetIn.runs_grown {base:Nat} {w w':World} {V:NetV} {rs:List RunV} {n:NetD} (h:NetIn base w V rs n) (hG:w.grownBy w' V.runs.ownBlock) {v':Value} {rs':List RunV} (hrow:RowIn w' base 66 8 v' rs'.length (rs'.flatMap runCells)) (hcalls: ∀ x∈rs',RowIn w' base 68 5 x.v x.r.calls.length (x.r.calls.flatMap callCells)) (hap:rs'.Pairwise fun x y=>x.v.ownBlock=none∨x.v.ownBlock≠y.v.ownBlock):
  NetIn base w' ⟨V.stops,V.routes,v',V.links,V.paths,V.prods⟩ rs' { n with runs:=rs'.map (·.r) }:=
 have hk: ∀ {e:TypeId} {sz k:Nat} {v:Value} {xs:List Value},(66:TypeId)≠e→RowIn w base e sz v k xs→RowIn w' base e sz v k xs:=fun hne hr=>hr.same fun b hb=>hG.block b (hr.lt b hb).2 (fun e=>rowIn_apart hne h.runs.row hr e.symm hb)
 ⟨hk (by decide) h.stops,hk (by decide) h.routes,⟨hrow,hcalls⟩,rfl,hk (by decide) h.links,hk (by decide) h.paths,hk (by decide) h.prods,hap⟩
theorem row_grown {base:Nat} {w w':World} {e e':TypeId} (hee:e≠e') {sz sz' k k':Nat} {v v':Value} {xs xs':List Value} (hG:w.grownBy w' v.ownBlock) (hr:RowIn w base e sz v k xs) (hr':RowIn w base e' sz' v' k' xs'):RowIn w' base e' sz' v' k' xs':=
 hr'.same fun b hb=>hG.block b (hr'.lt b hb).2 (fun q=>rowIn_apart hee hr hr' q.symm hb)
def KeepE (w w':World):Prop:= ∀ (q:Nat) (C:Array Value),w.heap[q]? =some (.cells C 39 (0,0))→w'.heap[q]? =some (.cells C 39 (0,0))
theorem keep_bl {w w':World} (h:Bl w w'):KeepE w w':=fun _ _ hq=>blk_bl hq h
theorem KeepE.trans {a b c:World} (h:KeepE a b) (k:KeepE b c):KeepE a c:=fun q C hq=>k q C (h q C hq)
theorem keep_row {w w':World} {base sz k:Nat} {e:TypeId} {v:Value} {xs:List Value} (hr:RowIn w base e sz v k xs) (hne:39≠e) (hG:w.grownBy w' v.ownBlock):KeepE w w':=
 fun q _ hq=>(hG.block q (lt_of_block hq) (fun e2=>hr.ne hq hne e2.symm)).trans hq
theorem keep_gr {w w':World} {g:Nat} {C:Array Value} {T:TypeId} (hg:w.heap[g]? =some (.cells C T (0,0))) (hT:T≠39) (hG:Gr g w w'):KeepE w w':=
 fun q D hq=>(hG.block q (lt_of_block hq) (fun e=>by
  obtain rfl:=Option.some.inj e;rw[hg]at hq;simp only[Option.some.injEq,Obj.cells.injEq]at hq;exact hT hq.2.1)).trans hq
def OutPost (g base:Nat) (w:World) (r:NetD×Int) (e:Ending) (w':World):Prop:= ∃ V' rs',e= .returned (.int .i64 r.2)∧NetAt g base w' V' rs' r.1∧Below base w w'∧KeepE w w'
theorem NetAt.post {g base:Nat} {w w':World} {V:NetV} {rs:List RunV} {n:NetD} (h:NetAt g base w V rs n) (hb:Bl w w') (hB:base≤w.heap.size) {er:Int} {r:NetD×Int} (hr:r=(n,er)) {e:Ending} (he:e= .returned (.int .i64 er)):OutPost g base w r e w':=by
 subst hr;exact⟨V,rs,he,h.bl hb,hb.mono hB,keep_bl hb⟩
theorem oadd_c (g base:Nat) (V:NetV) (rs:List RunV) (n:NetD) (sm:Hid (SmallN n)) (m:MsgD) (mv:Value) (hml:m.calls.length≤32) (there:Bool) (w:World) (h:NetAt g base w V rs n) (hv:CallsIn base w mv m.calls) (hbase:base≤w.heap.size):
  Calls Tryz.prog 107 #[.pointer (some ⟨g,0,none⟩),Ms.msgV m mv, .bool there] w fun e w'=>OutPost g base w (addP n m there) e w':=by
 obtain⟨am,km,rfl,-,-⟩:=hv.val;obtain⟨i0,hi,hz0,hz1,hz2⟩:=info_parts nfo_run;obtain⟨v0,v1,v2,v3,v4,v5⟩:=V;obtain⟨a0,k0,(rfl:v0=_)⟩:=h.net.stops.val;obtain⟨a1,k1,(rfl:v1=_)⟩:=h.net.routes.val;obtain⟨a2,k2,(rfl:v2=_)⟩:=h.net.runs.row.val;obtain⟨a3,k3,(rfl:v3=_)⟩:=h.net.links.val;obtain⟨a4,k4,(rfl:v4=_)⟩:=h.net.paths.val;obtain⟨a5,k5,(rfl:v5=_)⟩:=h.net.prods.val;have HO:=Lib.hid h;have HV:=Lib.hid hv;have hrl:rs.length=n.runs.length:=by rw[h.net.same,List.length_map]
 have HRl:=Lib.hid hrl;have hrt:=sm.out.routes;have hst:=sm.out.stops;have hrn:=sm.out.runs;have hrtI:(n.routes.length:Int)≤64:=by omega
 have hstI:(n.stops.length:Int)≤64:=by omega
 have hrI:(rs.length:Int)≤1024:=by omega
 have hglt:=lt_of_block h.blk;have hbm:=heap_alloc_new w (msgBox m (.slice am m.calls.length km));have hbl:=bl_alloc (bl_refl w) (msgBox m (.slice am m.calls.length km));have HBm:=Lib.hid (And.intro hbm hbl);clear h hv hrl hbm hbl;cases there with
 |true=>
  have HE:Hid (addP n m true=(n,6)):=rfl;go_enter Tryz.func107,Tryz.ntmps107
  go_wp2_with fail;go_ret;exact HO.out.post HBm.out.2 hbase HE.out rfl
 |false=>
  go_enter Tryz.func107,Tryz.ntmps107
  go_upto_region 3 with fail
  change Code.wp _ _ _ _ (w.alloc (msgBox m (.slice am m.calls.length km)));obtain⟨w1,hw1⟩: ∃ w1,w.alloc (msgBox m (.slice am m.calls.length km))=w1:=⟨_,rfl⟩;rw[hw1]at HBm ⊢;have HB1:Hid (w1.heap[w.heap.size]? =some (msgBox m (.slice am m.calls.length km))∧Bl w w1):=HBm;have hg1:=blk_bl HO.out.blk HB1.out.2;have m10:w1.cell? ⟨w.heap.size,10,none⟩=some (.int .i64 m.route):=blk_cell HB1.out.1 10 _ rfl;have g1:w1.cell? ⟨g,1,none⟩=some (.slice a1 n.routes.length k1):=blk_cell hg1 1 _ rfl;have hz1w:=lt_of_block HB1.out.1;have hg1w:=lt_of_block hg1;clear hw1 hg1 HBm;by_cases h1:m.route<0
  ·
   have HE:=Lib.hid (show addP n m false=(n,14) by unfold addP;rw[if_neg (by decide),if_pos (.inl h1)]);go_quiet (fail)
   go_wp2_with fail;go_ret;exact HO.out.post (bl_drewN HB1.out.2 _) hbase HE.out rfl
  by_cases h2:(n.routes.length:Int)≤m.route
  ·
   have HE:=Lib.hid (show addP n m false=(n,14) by unfold addP;rw[if_neg (by decide),if_pos (.inr h2)]);go_quiet (fail)
   go_wp2_with fail;go_ret;exact HO.out.post (bl_drewN HB1.out.2 _) hbase HE.out rfl
  go_quiet (fail)
  go_upto_region 5 with fail
  have B2:Bl w1 (w1.drewN nq):=bl_drewN (bl_refl _) _;generalize w1.drewN nq=w2 at B2 ⊢
  have HB2:=Lib.hid (And.intro (blk_bl HB1.out.1 B2) (bl_next HB1.out.2 B2));have hg2:=blk_bl HO.out.blk HB2.out.2;have hold: ∀ w',Bl w2 w'→(w'.cell? ⟨w.heap.size,12,none⟩=some (.slice am m.calls.length km)∧w'.cell? ⟨g,0,none⟩=some (.slice a0 n.stops.length k0)):=fun w' hb=>by
   exact⟨blk_cell (blk_bl HB2.out.1 hb) 12 _ rfl,blk_cell (blk_bl HO.out.blk (bl_next HB2.out.2 hb)) 0 _ rfl⟩
  have hz2w:=lt_of_block HB2.out.1;have hg2w:=lt_of_block hg2;obtain⟨ce,hce⟩: ∃ ce,callsErr n.stops.length 0 3155932800 m.calls=ce:=⟨_,rfl⟩;have HCE:=Lib.hid hce;have HCC:=Lib.hid (fun(w9:World) (hb:Bl w w9)=>Ms.calls_c (.slice am m.calls.length km) m.calls n.stops.length 0 3155932800 ce (Lib.hid hce) base w9 (HV.out.below (hb.mono hbase)) (Nat.le_trans hbase hb.size));have hbd:=bl_next HB2.out.2 (bl_drew (bl_refl w2));clear B2 hg2 hce m10 g1 hz1w hg1w;first
  |go_region_held3 (fun w'=>w'.cell? ⟨w.heap.size,12,none⟩=some (.slice am m.calls.length km)∧w'.cell? ⟨g,0,none⟩=some (.slice a0 n.stops.length k0))
    (first|exact hold _ (bl_drew (bl_refl _))|exact hold _ (bl_next (bl_drew (bl_refl _)) b3))
    ((go_at_call 52;refine(HCC.out _ hbd).mono ?_;rintro e w3 ⟨⟨i3,rfl⟩,b3⟩))
  |fail
  have B3:=bl_next (bl_drew (bl_refl w2)) b3;have HB3:=Lib.hid (And.intro (blk_bl HB2.out.1 B3) (bl_next HB2.out.2 B3));clear b3 B3 hbd hold;by_cases hc0:ce=0
  ·
   subst hc0;have hg3:=blk_bl HO.out.blk HB3.out.2;have g2:w3.cell? ⟨g,2,none⟩=some (.slice a2 rs.length k2):=blk_cell hg3 2 _ rfl;by_cases hfull:(1024:Int)≤(rs.length:Int)
   ·
    have HE:=Lib.hid (show addP n m false=(n,5) by unfold addP;rw[if_neg (by decide),if_neg (by omega),if_neg (by rw[HCE.out];exact fun q=>q rfl),if_pos (by rw[←HRl.out];omega)]);go_wp2_with fail;go_ret;exact HO.out.post HB3.out.2 hbase HE.out rfl
   ·
    have HE:=Lib.hid (show addP n m false=({ n with runs:=n.runs++[addedR m] },0) by unfold addP;rw[if_neg (by decide),if_neg (by omega),if_neg (by rw[HCE.out];exact fun q=>q rfl),if_neg (by rw[←HRl.out];omega)]);go_upto_region 10 with fail
    clear g2;have hcl2:=callsErr_ok HCE.out;have hS: ∀ w9:World,(w9.heap[g]? =w3.heap[g]?)→w9.heap[w.heap.size]? =w3.heap[w.heap.size]? →(w9.cell? ⟨g,2,none⟩=some (.slice a2 rs.length k2)∧w9.cell? ⟨w.heap.size,5,none⟩=some (str m.trip)∧w9.cell? ⟨w.heap.size,6,none⟩=some (.int .i64 m.day)∧w9.cell? ⟨w.heap.size,7,none⟩=some (.int .i64 m.inst)∧w9.cell? ⟨w.heap.size,10,none⟩=some (.int .i64 m.route)∧w9.cell? ⟨w.heap.size,11,none⟩=some (.bool m.step)∧w9.cell? ⟨w.heap.size,12,none⟩=some (.slice am m.calls.length km)):=fun w9 h1 h2=>by
     have hg:=h1.trans (blk_bl HO.out.blk HB3.out.2);have hm:=h2.trans HB3.out.1;exact⟨blk_cell hg 2 _ rfl,blk_cell hm 5 _ rfl,blk_cell hm 6 _ rfl,blk_cell hm 7 _ rfl,blk_cell hm 10 _ rfl,blk_cell hm 11 _ rfl,blk_cell hm 12 _ rfl⟩
    have hsb: ∀ w9,Bl w3 w9→(w9.cell? ⟨g,2,none⟩=some (.slice a2 rs.length k2)∧w9.cell? ⟨w.heap.size,5,none⟩=some (str m.trip)∧w9.cell? ⟨w.heap.size,6,none⟩=some (.int .i64 m.day)∧w9.cell? ⟨w.heap.size,7,none⟩=some (.int .i64 m.inst)∧w9.cell? ⟨w.heap.size,10,none⟩=some (.int .i64 m.route)∧w9.cell? ⟨w.heap.size,11,none⟩=some (.bool m.step)∧w9.cell? ⟨w.heap.size,12,none⟩=some (.slice am m.calls.length km)):=fun w9 h=>hS w9 (h.block g (lt_of_block hg3)) (h.block _ (lt_of_block HB3.out.1))
    have hg3w:=lt_of_block hg3;have hz3w:=lt_of_block HB3.out.1;refine startW (fun w9=>w9.cell? ⟨g,2,none⟩=some (.slice a2 rs.length k2)∧w9.cell? ⟨w.heap.size,5,none⟩=some (str m.trip)∧w9.cell? ⟨w.heap.size,6,none⟩=some (.int .i64 m.day)∧w9.cell? ⟨w.heap.size,7,none⟩=some (.int .i64 m.inst)∧w9.cell? ⟨w.heap.size,10,none⟩=some (.int .i64 m.route)∧w9.cell? ⟨w.heap.size,11,none⟩=some (.bool m.step)∧w9.cell? ⟨w.heap.size,12,none⟩=some (.slice am m.calls.length km)) 23 (hsb _ (bl_drew (bl_refl _))) ?_;intro hHeld;obtain⟨wd,hwd⟩: ∃ wd,w3.drew=wd:=⟨_,rfl⟩;have Bd:Bl w3 wd:=by rw[←hwd];exact bl_drew (bl_refl _)
    rw[hwd]at hHeld ⊢;clear hwd hg3;refine takeW 0 ?_;refine takeW 1 ?_;refine takeW 2 ?_;refine takeW 3 ?_;refine takeW 4 ?_;refine takeW 5 ?_;refine takeW 6 ?_;refine takeW 7 ?_;refine takeW 8 ?_;refine takeW 9 ?_;refine takeW 10 ?_;refine takeW 11 ?_;refine takeW 12 ?_;refine takeW 13 ?_;refine takeW 14 ?_;refine takeW 15 ?_;refine takeW 16 ?_;have HOC:=ocalls_c (.slice am m.calls.length km) m.calls (by omega) (by omega) base wd (HV.out.below ((bl_next HB3.out.2 Bd).mono hbase)) (Nat.le_trans hbase (bl_next HB3.out.2 Bd).size);refine stepW 17 (fun KK hKK=>?_);go_simp;go_at_call 127
    refine HOC.mono ?_;rintro e w5 ⟨v4',rfl,o4,b4⟩;obtain⟨a4v,k4v,rfl⟩:=own_val o4;have B5:=bl_next Bd b4;refine hKK.out _ _ (hsb _ B5) (fun hHeld=>?_);clear HOC;refine takeL 18 ?_;refine stepW 19 (fun KK hKK=>?_);go_simp;refine hKK.out _ _ (hsb _ (bl_alloc B5 (.cells #[.int .i64 (-1), .int .i64 m.day, .int .i64 m.inst,str m.trip, .int .i64 m.route, .bool m.step, .bool false, .slice a4v m.calls.length k4v] 66))) (fun hHeld=>?_);have B6:=bl_alloc B5 (.cells #[.int .i64 (-1), .int .i64 m.day, .int .i64 m.inst,str m.trip, .int .i64 m.route, .bool m.step, .bool false, .slice a4v m.calls.length k4v] 66);have hb6:=heap_alloc_new w5 (.cells #[.int .i64 (-1), .int .i64 m.day, .int .i64 m.inst,str m.trip, .int .i64 m.route, .bool m.step, .bool false, .slice a4v m.calls.length k4v] 66);have hgl5:w5.heap.size<(w5.alloc (.cells #[.int .i64 (-1), .int .i64 m.day, .int .i64 m.inst,str m.trip, .int .i64 m.route, .bool m.step, .bool false, .slice a4v m.calls.length k4v] 66)).heap.size:=by simp
    have B56:Bl w5 (w5.alloc (.cells #[.int .i64 (-1), .int .i64 m.day, .int .i64 m.inst,str m.trip, .int .i64 m.route, .bool m.step, .bool false, .slice a4v m.calls.length k4v] 66)):=bl_alloc (bl_refl _) _;generalize w5.alloc (.cells #[.int .i64 (-1), .int .i64 m.day, .int .i64 m.inst,str m.trip, .int .i64 m.route, .bool m.step, .bool false, .slice a4v m.calls.length k4v] 66)=w6 at B6 hb6 hHeld hgl5 B56 ⊢
    have HBw6:=Lib.hid (bl_next HB3.out.2 B6);have hN6:=HO.out.net.bl HBw6.out;refine stepW 20 (fun KK hKK=>?_);rw[if_pos (by kernel_rfl)];refine wp_append_in _ _ 51 rfl base 66 i0 _ 8 80 Tryz.underlying51 hi hz0 hz1 hz2 rfl (by decide) (.slice a2 rs.length k2) rs.length (rs.flatMap runCells) rfl hN6.runs.row ⟨w5.heap.size,0,none⟩ 1 1 (runCells ⟨addedR m, .slice a4v m.calls.length k4v⟩) rfl rfl ?c1 ?c2 ?c3 ?c4 ?c5 ?_;case c1=>
     intro j u hj;have e1:((⟨w5.heap.size,0,none⟩:Addr).add j)=⟨w5.heap.size,j,none⟩:=by simp[Addr.add];omega
     rw[e1];exact blk_cell hb6 j u (by rw[List.getElem?_toArray];exact hj)
    case c2=>exact run_one _ ⟨_,_,_,rfl⟩
    case c3=>unfold maxLen;omega
    case c4=>omega
    case c5=>exact Nat.le_trans hbase HBw6.out.size
    intro v7 w7 row7 gr7;have hgb6:=blk_bl HO.out.blk HBw6.out;have hmb6:=blk_bl HB3.out.1 B6;have hgn:=hN6.runs.row.ne hgb6 (by decide);have hmn:=hN6.runs.row.ne hmb6 (by decide);have hg7:=(gr7.block g (lt_of_block hgb6) (fun e=>hgn e.symm));have hm7:=(gr7.block w.heap.size (lt_of_block hmb6) (fun e=>hmn e.symm));have hs67:(w7.cell? ⟨g,2,none⟩=some (.slice a2 rs.length k2)∧w7.cell? ⟨w.heap.size,5,none⟩=some (str m.trip)∧w7.cell? ⟨w.heap.size,6,none⟩=some (.int .i64 m.day)∧w7.cell? ⟨w.heap.size,7,none⟩=some (.int .i64 m.inst)∧w7.cell? ⟨w.heap.size,10,none⟩=some (.int .i64 m.route)∧w7.cell? ⟨w.heap.size,11,none⟩=some (.bool m.step)∧w7.cell? ⟨w.heap.size,12,none⟩=some (.slice am m.calls.length km)):=hS w7 (hg7.trans (B6.block g hg3w)) (hm7.trans (B6.block _ hz3w));have hrow4:RowIn w6 base 68 5 (.slice a4v m.calls.length k4v) m.calls.length (m.calls.flatMap callCells):=((rowIn_own o4).low (Nat.le_trans hbase (bl_next HB3.out.2 Bd).size)).bl B56;have hrow7:=row_grown (by decide) gr7 hN6.runs.row hrow4;have hcalls7: ∀ x∈rs++[(⟨addedR m, .slice a4v m.calls.length k4v⟩:RunV)],RowIn w7 base 68 5 x.v x.r.calls.length (x.r.calls.flatMap callCells):=fun x hx=>by
     rcases List.mem_append.1 hx with hx|hx
     · exact row_grown (by decide) gr7 hN6.runs.row (hN6.runs.calls x hx)
     · rw[List.mem_singleton.1 hx];exact hrow7
    have hap7:(rs++[(⟨addedR m, .slice a4v m.calls.length k4v⟩:RunV)]).Pairwise fun x y=>x.v.ownBlock=none∨x.v.ownBlock≠y.v.ownBlock:=by
     rw[List.pairwise_append];refine⟨HO.out.net.apart,List.pairwise_singleton _ _,fun x hx y hy=>?_⟩;rw[List.mem_singleton.1 hy];cases hxb:x.v.ownBlock with
     |none=>exact .inl rfl
     |some b=>
      refine .inr (fun e=>?_);have h1:=((HO.out.net.runs.calls x hx).lt b hxb).2;have h2:=(World.ownsRow.lt o4 b e.symm).1;have:=(bl_next HB3.out.2 Bd).size;omega
    have hrow7':RowIn w7 base 66 8 v7 (rs++[(⟨addedR m, .slice a4v m.calls.length k4v⟩:RunV)]).length ((rs++[(⟨addedR m, .slice a4v m.calls.length k4v⟩:RunV)]).flatMap runCells):=by
     rw[List.length_append,List.length_singleton,List.flatMap_append,List.flatMap_singleton];exact row7
    have hN7:=hN6.runs_grown gr7 hrow7' hcalls7 hap7;have hB7:Below base w w7:=(HBw6.out.mono hbase).grown gr7 (Nat.le_trans hbase HBw6.out.size) (fun b hb=>(hN6.runs.row.lt b hb).1);have hg7':=hg7.trans hgb6;have H7:=Lib.hid (And.intro hN7 (And.intro hB7 hg7'));have HK7:=Lib.hid ((keep_bl HBw6.out).trans (keep_row hN6.runs.row (by decide) gr7));obtain⟨a7,k7,rfl⟩:=row7.val;have f2:w7.frozen? ⟨g,2,none⟩=false:=Lib.frozen_of_heap hg7' 2;clear hcalls7 hap7 hrow7' hN7 hB7 row7 gr7 hrow4 hrow7 hgb6 hmb6 hgn hmn hg7 hm7 hN6 hS hsb o4 b4 B5 B6 hb6 B56 hgl5;refine hKK.out _ _ hs67 (fun hHeld=>?_);simp only[Act.put];refine takeL 21 ?_;refine takeL 22 ?_;refine lastW (fun KK hKK=>?_);go_simp;refine hKK.out _ _ ?_;go_wp2_with fail;go_ret;have hb8:=blk_set hg7' 2 (.slice a7 (rs.length+1) k7);simp only[List.setIfInBounds_toArray,List.set_cons_succ,List.set_cons_zero]at hb8;rw[HE.out];refine⟨⟨.slice a0 n.stops.length k0, .slice a1 n.routes.length k1, .slice a7 (rs.length+1) k7, .slice a3 n.links.length k3, .slice a4 n.paths.length k4, .slice a5 n.fares.prods.length k5⟩,rs++[(⟨addedR m, .slice a4v m.calls.length k4v⟩:RunV)],rfl,⟨hb8,HO.out.lo, ?_⟩,Below.setCell H7.out.2.1 HO.out.lo _,HK7.out.trans (keep_gr hg7' (by decide) (gr_set g w7 2 _))⟩;have hN8:=H7.out.1.other hg7' (gr_set g w7 2 (.slice a7 (rs.length+1) k7));have e:({ n with runs:=(rs++[(⟨addedR m, .slice a4v m.calls.length k4v⟩:RunV)]).map (·.r) }:NetD)={ n with runs:=n.runs++[addedR m] }:=by rw[List.map_append,←HO.out.net.same];rfl
    rw[←e];exact hN8
  ·
   have HE:=Lib.hid (show addP n m false=(n,ce) by unfold addP;rw[if_neg (by decide),if_neg (by omega),HCE.out,if_pos hc0]);have hne:(ce != 0)=true:=by rw[bne_iff_ne];exact hc0
   go_wp2_with fail;go_ret;exact HO.out.post HB3.out.2 hbase HE.out rfl
end Go.Proofs.YtncbcmiflffakaaGreat
