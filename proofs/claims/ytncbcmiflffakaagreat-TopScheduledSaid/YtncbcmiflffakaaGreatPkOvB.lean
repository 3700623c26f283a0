/-
  What the laws of top need of TopOvB, TopOvD. Conditions: those of each lemma.
-/
import Derived.Test.YtncbcmiflffakaaGreatPkOvA
import Derived.Test.YtncbcmiflffakaaGreatPkNtF
import Derived.Test.YtncbcmiflffakaaGreatPkIbG
import Derived.Test.YtncbcmiflffakaaGreatPkIbC
set_option maxRecDepth 1000000
set_option maxHeartbeats 32000000
namespace Go.Proofs.YtncbcmiflffakaaGreat
open Go.RowKit
open Frq Thr Tt
theorem rowIn_apart {w:World} {e e':TypeId} (hee:e≠e') {base size k base' size' k':Nat} {v v':Value} {xs xs':List Value} (hr:RowIn w base e size v k xs) (hr':RowIn w base' e' size' v' k' xs') {g:Nat} (hg:v.ownBlock=some g):v'.ownBlock≠some g:=by
 rcases hr.2 with⟨rfl,_⟩|⟨g',cap,cur,rfl,_,hgb,_⟩
 · simp[Value.ownBlock]at hg
 ·
  obtain rfl:g'=g:=by simpa[Value.ownBlock]using hg
  exact hr'.ne hgb hee
theorem RowIn.kept {w w':World} {base size n:Nat} {e:TypeId} {v:Value} {xs:List Value} (h:RowIn w base e size v n xs) {g:Nat} (hG:Gr g w w') (hne:v.ownBlock≠some g):RowIn w' base e size v n xs:=
 h.same fun b hb=>hG.block b (h.lt b hb).2 (fun e2=>hne (by rw[hb,e2]))
theorem flat_cell {α:Type} {cells:α→List Value} {sz:Nat} (hsz: ∀ x,(cells x).length=sz) {l:List α} {i j:Nat} {x y:α} {u:Value} (hx:l[i]? =some x) (hj:j<sz) (hy:(cells x).set j u=cells y):(l.flatMap cells).set (i*sz+j) u=(l.set i y).flatMap cells:=by
 obtain⟨hi,rfl⟩:=List.getElem?_eq_some_iff.1 hx;have hlen: ∀ m:List α,(m.flatMap cells).length=m.length*sz:=by
  intro m;induction m with
  |nil=>simp
  |cons c m ih=>rw[List.flatMap_cons,List.length_append,ih,hsz,List.length_cons,Nat.add_mul,Nat.one_mul,Nat.add_comm]
 have e1:l=l.take i++l[i]::l.drop (i+1):=by rw[←List.drop_eq_getElem_cons hi,List.take_append_drop]
 have e2:l.set i y=l.take i++y::l.drop (i+1):=List.set_eq_take_append_cons_drop.trans (if_pos hi);have e3:(l.flatMap cells)=(l.take i).flatMap cells++(cells l[i]++(l.drop (i+1)).flatMap cells):=by
  conv=>lhs;rw[e1]
  rw[List.flatMap_append,List.flatMap_cons]
 have h4:((l.take i).flatMap cells).length=i*sz:=by rw[hlen,List.length_take,Nat.min_eq_left (Nat.le_of_lt hi)]
 rw[e2,e3,List.flatMap_append,List.flatMap_cons,List.set_append_right _ _ (by omega),h4,Nat.add_sub_cancel_left,List.set_append_left _ _ (by rw[hsz];exact hj),hy]
structure NetAt (g base:Nat) (w:World) (V:NetV) (rs:List RunV) (n:NetD):Prop where
 blk:w.heap[g]? =some (.cells #[V.stops,V.routes,V.runs,V.links,V.paths,V.prods, .int .i64 n.fares.disc, .int .i64 n.fares.within, .int .i64 n.fares.cap] 54 (0,0))
 lo:base≤g
 net:NetIn base w V rs n
theorem NetAt.bl {g base:Nat} {w w':World} {V:NetV} {rs:List RunV} {n:NetD} (h:NetAt g base w V rs n) (hb:Bl w w'):NetAt g base w' V rs n:=⟨blk_bl h.blk hb,h.lo,h.net.bl hb⟩
structure SmallN (n:NetD):Prop where
 stops:n.stops.length≤64
 routes:n.routes.length≤64
 runs:n.runs.length≤1024
 links:n.links.length≤1024
 paths:n.paths.length≤4096
 prods:n.fares.prods.length≤64
 calls: ∀ r∈n.runs,r.calls.length≤32
theorem SmallN.few {n:NetD} (h:SmallN n):FewN n:=
 ⟨by have:=h.stops;omega,by have:=h.routes;omega,by have:=h.runs;omega,by have:=h.links;omega,by have:=h.paths;omega,by have:=h.prods;omega,fun r hr=>by have:=h.calls r hr;omega⟩
section
variable {base:Nat} {w w':World} {V:NetV} {rs:List RunV} {n:NetD}
theorem NetIn.runs_turn (h:NetIn base w V rs n) {b:Nat} (hb:V.runs.ownBlock=some b) (hG:Gr b w w') {v':Value} {rs':List RunV} (hrow:RowIn w' base 66 8 v' rs'.length (rs'.flatMap runCells)) (hcalls: ∀ x∈rs',RowIn w' base 68 5 x.v x.r.calls.length (x.r.calls.flatMap callCells)) (hap:rs'.Pairwise fun x y=>x.v.ownBlock=none∨x.v.ownBlock≠y.v.ownBlock):
  NetIn base w' ⟨V.stops,V.routes,v',V.links,V.paths,V.prods⟩ rs' { n with runs:=rs'.map (·.r) }:=
 ⟨h.stops.kept hG (rowIn_apart (by decide) h.runs.row h.stops hb),h.routes.kept hG (rowIn_apart (by decide) h.runs.row h.routes hb),⟨hrow,hcalls⟩,rfl,h.links.kept hG (rowIn_apart (by decide) h.runs.row h.links hb),h.paths.kept hG (rowIn_apart (by decide) h.runs.row h.paths hb),h.prods.kept hG (rowIn_apart (by decide) h.runs.row h.prods hb),hap⟩
theorem NetIn.calls_kept (h:NetIn base w V rs n) {b:Nat} (hb:V.runs.ownBlock=some b) (hG:Gr b w w') {x:RunV} (hx:x∈rs):RowIn w' base 68 5 x.v x.r.calls.length (x.r.calls.flatMap callCells):=
 (h.runs.calls x hx).kept hG (rowIn_apart (by decide) h.runs.row (h.runs.calls x hx) hb)
theorem NetIn.links_turn (h:NetIn base w V rs n) {b:Nat} (hb:V.links.ownBlock=some b) (hG:Gr b w w') {v':Value} {ls:List LinkD} (hrow:RowIn w' base 95 5 v' ls.length (ls.flatMap linkCells)):
  NetIn base w' ⟨V.stops,V.routes,V.runs,v',V.paths,V.prods⟩ rs { n with links:=ls }:=
 ⟨h.stops.kept hG (rowIn_apart (by decide) h.links h.stops hb),h.routes.kept hG (rowIn_apart (by decide) h.links h.routes hb),⟨h.runs.row.kept hG (rowIn_apart (by decide) h.links h.runs.row hb),fun x hx=>(h.runs.calls x hx).kept hG (rowIn_apart (by decide) h.links (h.runs.calls x hx) hb)⟩,h.same,hrow,h.paths.kept hG (rowIn_apart (by decide) h.links h.paths hb),h.prods.kept hG (rowIn_apart (by decide) h.links h.prods hb),h.apart⟩
theorem NetIn.other (h:NetIn base w V rs n) {g:Nat} {C:Array Value} (hg:w.heap[g]? =some (.cells C 54 (0,0))) (hG:Gr g w w'):NetIn base w' V rs n:=
 ⟨h.stops.kept hG (h.stops.ne hg (by decide)),h.routes.kept hG (h.routes.ne hg (by decide)),⟨h.runs.row.kept hG (h.runs.row.ne hg (by decide)),fun x hx=>(h.runs.calls x hx).kept hG ((h.runs.calls x hx).ne hg (by decide))⟩,h.same,h.links.kept hG (h.links.ne hg (by decide)),h.paths.kept hG (h.paths.ne hg (by decide)),h.prods.kept hG (h.prods.ne hg (by decide)),h.apart⟩
theorem NetIn.calls_turn (h:NetIn base w V rs n) {i:Nat} {x:RunV} (hx:rs[i]? =some x) {b:Nat} (hb:x.v.ownBlock=some b) (hG:Gr b w w') {cs:List CallD} (hrow:RowIn w' base 68 5 x.v cs.length (cs.flatMap callCells)):
  NetIn base w' V (rs.set i ⟨{ x.r with calls:=cs },x.v⟩) { n with runs:=n.runs.set i { x.r with calls:=cs } }:=by
 have hxm:=List.mem_of_getElem? hx;have hxc:=h.runs.calls x hxm;have hi:=(List.getElem?_eq_some_iff.1 hx).1;have hrows: ∀ {e:TypeId} {sz k:Nat} {v:Value} {xs:List Value},(68:TypeId)≠e→RowIn w base e sz v k xs→RowIn w' base e sz v k xs:=fun hne hr=>hr.kept hG (rowIn_apart hne hxc hr hb)
 refine⟨hrows (by decide) h.stops,hrows (by decide) h.routes,⟨?_, ?_⟩, ?_,hrows (by decide) h.links,hrows (by decide) h.paths,hrows (by decide) h.prods, ?_⟩
 ·
  have:=hrows (by decide) h.runs.row;rw[List.length_set];have e:(rs.set i (⟨{ x.r with calls:=cs },x.v⟩:RunV)).flatMap runCells=rs.flatMap runCells:=by
   have h0:=flat_cell runCells_len (l:=rs) (i:=i) (j:=7) (x:=x) (y:=⟨{ x.r with calls:=cs },x.v⟩) (u:=x.v) hx (by decide) rfl;rw[←h0];exact set_same (flat_get (j:=7) runCells_len hx rfl)
  rw[e];exact this
 ·
  intro y hy;obtain⟨k,hk,rfl⟩:=List.mem_iff_getElem.1 hy;rw[List.getElem_set];rw[List.length_set]at hk;split
  · exact hrow
  ·
   rename_i hne;have hym:rs[k]∈rs:=List.getElem_mem _;refine(h.runs.calls _ hym).kept hG ?_;have hxi:x=rs[i]:=(List.getElem?_eq_some_iff.1 hx).2.symm;rcases Nat.lt_or_gt_of_ne hne with hlt|hlt
   ·
    have:=List.pairwise_iff_getElem.1 h.apart i k hi hk hlt;rw[←hxi,hb]at this;rcases this with q|q
    · cases q
    · exact fun e=>q e.symm
   ·
    have:=List.pairwise_iff_getElem.1 h.apart k i hk hi hlt;rw[←hxi,hb]at this;rcases this with q|q
    · rw[q];simp
    · exact q
 ·
  show n.runs.set i _=_
  rw[h.same,List.map_set]
 ·
  rw[List.pairwise_iff_getElem];intro a c ha hc hac;rw[List.length_set]at ha hc;have:=List.pairwise_iff_getElem.1 h.apart a c ha hc hac;rw[List.getElem_set,List.getElem_set];have hxi:x=rs[i]:=(List.getElem?_eq_some_iff.1 hx).2.symm;split
  ·
   rename_i e1;subst e1;split
   · omega
   · rw[←hxi]at this;exact this
  ·
   split
   ·
    rename_i e2;subst e2;rw[←hxi]at this;exact this
   · exact this
theorem NetIn.run_set (h:NetIn base w V rs n) {i:Nat} {x y:RunV} {b cap:Nat} (hx:rs[i]? =some x) (hV:V.runs= .slice (some ⟨b,0,none⟩) rs.length cap) {j:Nat} {u:Value} (hj:j<8) (hy:(runCells x).set j u=runCells y)
  (hcy:RowIn w base 68 5 y.v y.r.calls.length (y.r.calls.flatMap callCells)) (hap: ∀ k z,k≠i→rs[k]? =some z→(z.v.ownBlock=none∨z.v.ownBlock≠y.v.ownBlock)):
  NetIn base (w.setCell ⟨b,i*8+j,none⟩ u) V (rs.set i y) { n with runs:=n.runs.set i y.r }∧Gr b w (w.setCell ⟨b,i*8+j,none⟩ u):=by
 have hb:V.runs.ownBlock=some b:=by rw[hV];rfl
 have hrow:=h.runs.row;rw[hV]at hrow;obtain⟨r1,r2,-,-⟩:=hrow.set (i*8+j) u;rw[flat_cell runCells_len hx hj hy,←hV]at r1;have hi:=(List.getElem?_eq_some_iff.1 hx).1;have:=h.runs_turn hb r2 (v':=V.runs) (rs':=rs.set i y) (by rw[List.length_set];exact r1) (fun z hz=>by
  obtain⟨k,hk,rfl⟩:=List.mem_iff_getElem.1 hz;rw[List.length_set]at hk;rw[List.getElem_set];split
  · exact hcy.kept r2 (rowIn_apart (by decide) h.runs.row hcy hb)
  · exact h.calls_kept hb r2 (List.getElem_mem _)) (by
  rw[List.pairwise_iff_getElem];intro a c ha hc hac;rw[List.length_set]at ha hc;have hp:=List.pairwise_iff_getElem.1 h.apart a c ha hc hac;rw[List.getElem_set,List.getElem_set];split
  ·
   rename_i e1;subst e1;split
   · omega
   ·
    have:=hap c rs[c] (by omega) (List.getElem?_eq_getElem hc);rcases this with q|q
    ·
     cases hyb:y.v.ownBlock with
     |none=>exact .inl rfl
     |some s=>exact .inr (by rw[q];simp)
    · exact .inr (fun e=>q e.symm)
  ·
   split
   ·
    rename_i e2;subst e2;exact hap a rs[a] (by omega) (List.getElem?_eq_getElem ha)
   · exact hp)
 refine⟨?_,r2⟩;rw[h.same,List.map_set]at*;exact this
end
end Go.Proofs.YtncbcmiflffakaaGreat
namespace Go.Proofs.YtncbcmiflffakaaGreat
open Go.RowKit
open Frq Thr Tt
def hitB (m:MsgD) (r:RunD):Bool:=r.id==m.trip&&(r.day==m.day&&r.inst==m.inst)
theorem target_eq (l:List RunD) (m:MsgD):targetP l m=l.findIdx? (hitB m):=rfl
theorem target_hit {l:List RunD} {m:MsgD} {k:Nat} {x:RunD} (hx:l[k]? =some x) (h:hitB m x=true) (hno:(l.take k).any (hitB m)=false):targetP l m=some k:=by
 rw[target_eq,List.findIdx?_eq_some_iff_getElem];obtain⟨hk,rfl⟩:=List.getElem?_eq_some_iff.1 hx;refine⟨hk,h,fun j hj hp=>?_⟩;have:=List.any_eq_false.1 hno l[j] (List.mem_take_iff_getElem.2 ⟨j,by omega,rfl⟩);exact this hp
theorem target_no {l:List RunD} {m:MsgD} (hno:l.any (hitB m)=false):targetP l m=none:=by
 rw[target_eq,List.findIdx?_eq_none_iff];intro x hx;have:=List.any_eq_false.1 hno x hx;simpa using this
theorem target_boxes (w:World) (V:NetV) (f:FareD) (m:MsgD) (v:Value): ∃ w1,w1=(w.alloc (netBox V f)).alloc (msgBox m v)∧w1.heap[w.heap.size]? =some (netBox V f)∧w1.heap[w.heap.size+1]? =some (msgBox m v)∧Bl w w1:=by
 refine⟨_,rfl,blk_bl (heap_alloc_new w _) (bl_alloc (bl_refl _) _), ?_,bl_alloc (bl_alloc (bl_refl _) _) _⟩;have:=heap_alloc_new (w.alloc (netBox V f)) (msgBox m v);simpa using this
theorem target_c (V:NetV) (rs:List RunV) (n:NetD) (m:MsgD) (mv:Value) (hmv: ∃ a k c,mv= .slice a k c) (hrn:n.runs.length≤100000) (B:Nat) (w:World) (rd:NetRd B w V rs n) (hB:B≤w.heap.size):
  Calls Tryz.prog 106 #[netV V n.fares,Ms.msgV m mv] w fun e w'=>e= .returned (.tuple #[.int .i64 (((targetP n.runs m).getD 0:Nat):Int), .bool (targetP n.runs m).isSome])∧Bl w w':=by
 obtain⟨am,nm,km,rfl⟩:=hmv;have HRd:=Lib.hid rd;have hrl:rs.length=n.runs.length:=by rw[rd.same,List.length_map]
 obtain⟨v0,v1,v2,v3,v4,v5⟩:=V;obtain⟨a0,k0,(rfl:v0=_),-,-⟩:=rd.stops.val;obtain⟨a1,k1,(rfl:v1=_),-,-⟩:=rd.routes.val;obtain⟨a2,k2,(rfl:v2=_),-,-⟩:=rd.runs.sl.val;obtain⟨a3,k3,(rfl:v3=_),-,-⟩:=rd.links.val;obtain⟨a4,k4,(rfl:v4=_),-,-⟩:=rd.paths.val;obtain⟨a5,k5,(rfl:v5=_),-,-⟩:=rd.prods.val;have W0:=Lib.hid (target_boxes w ⟨.slice a0 n.stops.length k0, .slice a1 n.routes.length k1, .slice a2 rs.length k2, .slice a3 n.links.length k3, .slice a4 n.paths.length k4, .slice a5 n.fares.prods.length k5⟩ n.fares m (.slice am nm km));have HRl:=Lib.hid hrl;have hrI:(rs.length:Int)≤100000:=by omega
 clear rd hrl;go_enter Tryz.func106,Tryz.ntmps106
 go_upto_region 1 with fail
 obtain⟨w1,hw1,b1,bm1,bl1⟩:=W0.out;change Code.wp _ _ _ _ ((w.alloc (netBox ⟨.slice a0 n.stops.length k0, .slice a1 n.routes.length k1, .slice a2 rs.length k2, .slice a3 n.links.length k3, .slice a4 n.paths.length k4, .slice a5 n.fares.prods.length k5⟩ n.fares)).alloc (msgBox m (.slice am nm km)));rw[←hw1];have H1:=Lib.hid (And.intro bm1 bl1);have c2:w1.cell? ⟨w.heap.size,2,none⟩=some (.slice a2 rs.length k2):=blk_cell b1 2 _ rfl;clear hw1 b1 bm1 bl1 W0;go_wp2_with fail;clear c2;go_loopw [11] (fun i wr=> ∃ k:Nat,(k≤rs.length∧i= .int .i64 k)∧Hid ((n.runs.take k).any (hitB m)=false∧wr.heap[w.heap.size+1]? =some (msgBox m (.slice am nm km))∧Bl w wr)) (fun i _=>rs.length-(intOf i).toNat)
 case atStart=>exact⟨0,⟨Nat.zero_le _,rfl⟩,Lib.hid ⟨rfl,H1.out.1,H1.out.2⟩⟩
 case round=>
  obtain⟨k,⟨hk,rfl⟩,HR⟩:=hrel;by_cases hlt:k<rs.length
  ·
   have hltI:(k:Int)<(rs.length:Int):=by omega
   obtain⟨b,o,x,rfl,-,hx,hcx⟩:=HRd.out.runs.sl.get (k:=k) hlt HR.out.2.2 hB;have hxr:n.runs[k]? =some x.r:=by rw[HRd.out.same,List.getElem?_map,hx];rfl
   obtain⟨ax,cx,hxv,-,-⟩:=(HRd.out.runs.calls x (List.mem_of_getElem? hx)).val;obtain⟨xr,xv⟩:=x;simp only at hxv;subst hxv;have c0:wr.cell? ⟨b,o+k*8,none⟩=some (.int .i64 xr.trip):=hcx 0 _ rfl;have c1:wr.cell? ⟨b,o+k*8+1,none⟩=some (.int .i64 xr.day):=hcx 1 _ rfl;have c2:wr.cell? ⟨b,o+k*8+2,none⟩=some (.int .i64 xr.inst):=hcx 2 _ rfl;have c3:wr.cell? ⟨b,o+k*8+3,none⟩=some (str xr.id):=hcx 3 _ rfl;have c4:wr.cell? ⟨b,o+k*8+4,none⟩=some (.int .i64 xr.route):=hcx 4 _ rfl;have c5:wr.cell? ⟨b,o+k*8+5,none⟩=some (.bool xr.free):=hcx 5 _ rfl;have c6:wr.cell? ⟨b,o+k*8+6,none⟩=some (.bool xr.canc):=hcx 6 _ rfl;have c7:wr.cell? ⟨b,o+k*8+7,none⟩=some (.slice ax xr.calls.length cx):=hcx 7 _ rfl;have HX:=Lib.hid hxr;have hm5:wr.cell? ⟨w.heap.size+1,5,none⟩=some (str m.trip):=blk_cell HR.out.2.1 5 _ rfl;have hm6:wr.cell? ⟨w.heap.size+1,6,none⟩=some (.int .i64 m.day):=blk_cell HR.out.2.1 6 _ rfl;have hm7:wr.cell? ⟨w.heap.size+1,7,none⟩=some (.int .i64 m.inst):=blk_cell HR.out.2.1 7 _ rfl;have hml:=lt_of_block HR.out.2.1;have B1:=Lib.hid (bl_alloc HR.out.2.2 (runBox ⟨xr, .slice ax xr.calls.length cx⟩));have BB:=Lib.hid (bl_alloc (bl_refl wr) (runBox ⟨xr, .slice ax xr.calls.length cx⟩));clear hcx hx hxr;have hgo:hitB m xr=false→(n.runs.take (k+1)).any (hitB m)=false:=fun h=>by rw[take_snoc_at HX.out,List.any_append,HR.out.1];simp[h]
   have HGo:=Lib.hid hgo;clear hgo;cases e5:(xr.id==m.trip)with
   |false=>
    have HN:=Lib.hid (HGo.out (by unfold hitB;rw[e5];rfl));go_wp2_with fail;exact⟨⟨k+1,⟨by omega,by go_num⟩,Lib.hid ⟨HN.out,blk_bl HR.out.2.1 BB.out,B1.out⟩⟩,by simp only[intOf];omega⟩
   |true=>
    cases e6:(xr.day==m.day)with
    |false=>
     have HN:=Lib.hid (HGo.out (by unfold hitB;rw[e5,e6];rfl));go_wp2_with fail;exact⟨⟨k+1,⟨by omega,by go_num⟩,Lib.hid ⟨HN.out,blk_bl HR.out.2.1 BB.out,B1.out⟩⟩,by simp only[intOf];omega⟩
    |true=>
     cases e7:(xr.inst==m.inst)with
     |false=>
      have HN:=Lib.hid (HGo.out (by unfold hitB;rw[e5,e6,e7];rfl));go_wp2_with fail;exact⟨⟨k+1,⟨by omega,by go_num⟩,Lib.hid ⟨HN.out,blk_bl HR.out.2.1 BB.out,B1.out⟩⟩,by simp only[intOf];omega⟩
     |true=>
      have HT:=Lib.hid (target_hit HX.out (show hitB m xr=true by unfold hitB;rw[e5,e6,e7];rfl) HR.out.1);go_wp2_with fail;go_ret2;exact⟨by rw[HT.out];rfl,B1.out⟩
  ·
   obtain rfl:k=rs.length:=by omega
   have hno:=HR.out.1;rw[List.take_of_length_le (by rw[HRl.out];exact Nat.le_refl _)]at hno;have HT:=Lib.hid (target_no hno);clear hno;go_wp2_with fail;go_ret2;exact⟨by rw[HT.out];rfl,HR.out.2.2⟩
end Go.Proofs.YtncbcmiflffakaaGreat
