/-
  What the laws of top need of TopOvI. Conditions: those of each lemma.
-/
import Derived.Test.YtncbcmiflffakaaGreatPkOvH
import Derived.Test.YtncbcmiflffakaaGreatPkNtH
set_option maxRecDepth 1000000
set_option maxHeartbeats 32000000
namespace Go.Proofs.YtncbcmiflffakaaGreat
open Go.RowKit
open Frq Thr Tt
theorem lateF_len: ∀ (l:List CallD) (a:Int) (r:List CallD),lateF a l=some r→r.length=l.length
 |[],a,r,h=>by
  rw[show lateF a []=some [] by simp[lateF]]at h;rw[←Option.some.inj h]
 |c::l,a,r,h=>by
  rw[lateF_cons]at h;split at h
  · cases h
  ·
   obtain⟨s,hs,rfl⟩:=Option.map_eq_some_iff.1 h;rw[List.length_cons,List.length_cons,lateF_len l _ s hs]
theorem propagate_len {l:List CallD} {a s:Int}:(propagateP l a s).2=0→(propagateP l a s).1.length=l.length:=by
 unfold propagateP;split
 · intro h;cases h
 split
 · intro h;cases h
 split
 · intro h;cases h
 split
 · intro h;cases h
 rename_i c hc;split
 · intro h;cases h
 rename_i r hr;intro _;have:=lateF_len _ _ _ hr;have hk:=(List.getElem?_eq_some_iff.1 hc).1;show(l.take a.toNat++r).length=l.length
 rw[List.length_append,this,List.length_take,List.length_drop];omega
theorem SmallN.set {n:NetD} (h:SmallN n) {i:Nat} {r:RunD} (hr:r.calls.length≤32):SmallN { n with runs:=n.runs.set i r }:=
 ⟨h.stops,h.routes,by show(n.runs.set i r).length≤1024;rw[List.length_set];exact h.runs,h.links,h.paths,h.prods,fun x hx=>(List.mem_or_eq_of_mem_set hx).elim (h.calls x) (fun e=>e ▸ hr)⟩
theorem SmallN.change {n:NetD} {m:MsgD} (h:SmallN n) (hm:m.calls.length≤32):SmallN (changeP n m).1:=by
 unfold changeP;split
 ·
  unfold addP;split
  · exact h
  split
  · exact h
  split
  · exact h
  split
  · exact h
  rename_i h1;refine⟨h.stops,h.routes, ?_,h.links,h.paths,h.prods,fun x hx=>?_⟩
  ·
   show(n.runs++[addedR m]).length≤1024
   rw[List.length_append,List.length_singleton];omega
  ·
   rcases List.mem_append.1 hx with hx|hx
   · exact h.calls x hx
   · rw[List.mem_singleton.1 hx];exact hm
 ·
  split
  · exact h
  rename_i i hi;split
  · exact h
  rename_i r hr;have hrm:=h.calls r (List.mem_of_getElem? hr);split
  · exact h
  split
  ·
   unfold shiftP;have hp:= @propagate_len r.calls m.call m.secs;revert hp
   generalize propagateP r.calls m.call m.secs=P
   obtain⟨l,e⟩:=P;intro hp;simp only at hp ⊢;split
   ·
    rename_i h0;rw[setR_set hr];exact h.set (by show l.length≤32;rw[hp h0];exact hrm)
   · exact h
  split
  ·
   rw[setR_set hr];exact h.set hrm
  split
  ·
   rw[setR_set hr];exact h.set (by show(r.calls.modify _ _).length≤32;rw[List.length_modify];exact hrm)
  split
  ·
   unfold rerouteP;split
   · exact h
   ·
    rw[setR_set hr];have h2:=h.set (i:=i) (r:={ r with calls:=m.calls }) hm;exact⟨h2.stops,h2.routes,h2.runs,Nat.le_trans (List.length_filter_le _ _) h2.links,h2.paths,h2.prods,h2.calls⟩
  · exact h
theorem SmallN.apply {n:NetD} {m:MsgD} (h:SmallN n) (e:Int):SmallN (applyP e n m):=by
 unfold applyP;split
 · rename_i h1;exact h.change (checkM_calls h1.2)
 · exact h
theorem allP_snoc (e:Int) (n:NetD) (l:List MsgD) (m:MsgD):allP e n (l++[m])=applyP e (allP e n l) m:=by simp[allP]
theorem nfo_errno:(Tryz.prog.info? 39).map (fun i=>(i.zero,i.size,i.bytes))=some (some (.int .i64 0),1,8):=by kernel_rfl
theorem own_keepE {w w':World} {base k:Nat} {v:Value} {xs:List Value} (h:w.ownsRow base 39 1 v k xs) (hk:KeepE w w'):w'.ownsRow base 39 1 v k xs:=by
 refine⟨h.1,h.2.imp id ?_⟩;rintro⟨g,cap,cur,a,b,c,d⟩;exact⟨g,cap,cur,a,b,hk g cur c,d⟩
theorem NetAt.errs {g base b0 k:Nat} {w w':World} {V:NetV} {rs:List RunV} {n:NetD} {v:Value} {xs:List Value} (h:NetAt g base w V rs n) (hr:w.ownsRow b0 39 1 v k xs) (hG:w.grownBy w' v.ownBlock):NetAt g base w' V rs n:=by
 have hi:=rowIn_own hr;have hk: ∀ {e:TypeId} {sz k:Nat} {v:Value} {xs:List Value},(39:TypeId)≠e→RowIn w base e sz v k xs→RowIn w' base e sz v k xs:=fun hne hr'=>hr'.same fun b hb=>hG.block b (hr'.lt b hb).2 (fun e=>rowIn_apart hne hi hr' e.symm hb)
 have hN:=h.net;exact⟨(hG.block g (lt_of_block h.blk) (fun e=>hi.ne h.blk (by decide) e.symm)).trans h.blk,h.lo,⟨hk (by decide) hN.stops,hk (by decide) hN.routes,⟨hk (by decide) hN.runs.row,fun x hx=>hk (by decide) (hN.runs.calls x hx)⟩,hN.same,hk (by decide) hN.links,hk (by decide) hN.paths,hk (by decide) hN.prods,hN.apart⟩⟩
theorem NetIn.low {base base':Nat} {w:World} {V:NetV} {rs:List RunV} {n:NetD} (h:NetIn base w V rs n) (hb:base'≤base):NetIn base' w V rs n:=
 ⟨h.stops.low hb,h.routes.low hb,⟨h.runs.row.low hb,fun x hx=>(h.runs.calls x hx).low hb⟩,h.same,h.links.low hb,h.paths.low hb,h.prods.low hb,h.apart⟩
theorem all_c (V:NetV) (rs:List RunV) (n:NetD) (ok:Hid (NetOk n)) (sm:Hid (SmallN n)) (vl:Value) (ys:List MsgV) (hyl:ys.length≤1000) (hyt:Hid (∀ y∈ys,y.m.trip.length≤9223372036854775807)) (B:Nat) (w:World) (rd:NetRd B w V rs n) (hy:MsgsRd B w vl ys) (hB:B≤w.heap.size):
  Calls Tryz.prog 42 #[netV V n.fares,vl] w fun e w'=> ∃ er V' rs' ve,NetR n er∧e= .returned (.tuple #[netV V' (allP er n (ys.map (·.m))).fares,ve])∧NetIn w.heap.size w' V' rs' (allP er n (ys.map (·.m)))∧Bl w w':=by
 obtain⟨i0,hi,hz0,hz1,hz2⟩:=info_parts nfo_errno;have HRd:=Lib.hid rd;have HY:=Lib.hid hy;obtain⟨v0,v1,v2,v3,v4,v5⟩:=V;obtain⟨a0,k0,(rfl:v0=_),-,-⟩:=rd.stops.val;obtain⟨a1,k1,(rfl:v1=_),-,-⟩:=rd.routes.val;obtain⟨a2,k2,(rfl:v2=_),-,-⟩:=rd.runs.sl.val;obtain⟨a3,k3,(rfl:v3=_),-,-⟩:=rd.links.val;obtain⟨a4,k4,(rfl:v4=_),-,-⟩:=rd.paths.val;obtain⟨a5,k5,(rfl:v5=_),-,-⟩:=rd.prods.val;obtain⟨al,kl,rfl,-,-⟩:=hy.sl.val;have hyI:(ys.length:Int)≤1000:=by omega
 have HCl:=Lib.hid (fun(w1:World) (h:Bl w w1)=>clone_c ⟨.slice a0 n.stops.length k0, .slice a1 n.routes.length k1, .slice a2 rs.length k2, .slice a3 n.links.length k3, .slice a4 n.paths.length k4, .slice a5 n.fares.prods.length k5⟩ rs n (Lib.hid ok.out.few) B w1 (HRd.out.bl h hB) (Nat.le_trans hB h.size));have HCk:=Lib.hid (fun(w1:World) (h:Bl w w1)=>ncheck_c ⟨.slice a0 n.stops.length k0, .slice a1 n.routes.length k1, .slice a2 rs.length k2, .slice a3 n.links.length k3, .slice a4 n.paths.length k4, .slice a5 n.fares.prods.length k5⟩ rs n ok B w1 (HRd.out.bl h hB) (Nat.le_trans hB h.size));have W0:Hid (∃ w1,w1=(w.alloc (netBox ⟨.slice a0 n.stops.length k0, .slice a1 n.routes.length k1, .slice a2 rs.length k2, .slice a3 n.links.length k3, .slice a4 n.paths.length k4, .slice a5 n.fares.prods.length k5⟩ n.fares)).alloc (.cells #[.slice none 0 0, .slice none 0 0, .slice none 0 0, .slice none 0 0, .slice none 0 0, .slice none 0 0, .int .i64 0, .int .i64 0, .int .i64 0] 54)∧w1.heap[w.heap.size]? =some (netBox ⟨.slice a0 n.stops.length k0, .slice a1 n.routes.length k1, .slice a2 rs.length k2, .slice a3 n.links.length k3, .slice a4 n.paths.length k4, .slice a5 n.fares.prods.length k5⟩ n.fares)∧w1.heap[w.heap.size+1]? =some (.cells #[.slice none 0 0, .slice none 0 0, .slice none 0 0, .slice none 0 0, .slice none 0 0, .slice none 0 0, .int .i64 0, .int .i64 0, .int .i64 0] 54)∧w1.heap.size=w.heap.size+2∧Bl w w1):=by
  refine⟨_,rfl,blk_bl (heap_alloc_new w _) (bl_alloc (bl_refl _) _), ?_,by simp,bl_alloc (bl_alloc (bl_refl _) _) _⟩;have:=heap_alloc_new (w.alloc (netBox ⟨.slice a0 n.stops.length k0, .slice a1 n.routes.length k1, .slice a2 rs.length k2, .slice a3 n.links.length k3, .slice a4 n.paths.length k4, .slice a5 n.fares.prods.length k5⟩ n.fares)) (.cells #[.slice none 0 0, .slice none 0 0, .slice none 0 0, .slice none 0 0, .slice none 0 0, .slice none 0 0, .int .i64 0, .int .i64 0, .int .i64 0] 54);simpa using this
 clear rd hy;go_enter Tryz.func42,Tryz.ntmps42
 go_upto_region 1 with fail
 obtain⟨w1,hw1,b1,z1,s1,bl1⟩:=W0.out;change Code.wp _ _ _ _ ((w.alloc (netBox ⟨.slice a0 n.stops.length k0, .slice a1 n.routes.length k1, .slice a2 rs.length k2, .slice a3 n.links.length k3, .slice a4 n.paths.length k4, .slice a5 n.fares.prods.length k5⟩ n.fares)).alloc (.cells #[.slice none 0 0, .slice none 0 0, .slice none 0 0, .slice none 0 0, .slice none 0 0, .slice none 0 0, .int .i64 0, .int .i64 0, .int .i64 0] 54));rw[←hw1];have H1:=Lib.hid (And.intro b1 (And.intro z1 (And.intro s1 bl1)));have n0:w1.cell? ⟨w.heap.size,0,none⟩=some (.slice a0 n.stops.length k0):=blk_cell b1 0 _ rfl;have n1:w1.cell? ⟨w.heap.size,1,none⟩=some (.slice a1 n.routes.length k1):=blk_cell b1 1 _ rfl;have n2:w1.cell? ⟨w.heap.size,2,none⟩=some (.slice a2 rs.length k2):=blk_cell b1 2 _ rfl;have n3:w1.cell? ⟨w.heap.size,3,none⟩=some (.slice a3 n.links.length k3):=blk_cell b1 3 _ rfl;have n4:w1.cell? ⟨w.heap.size,4,none⟩=some (.slice a4 n.paths.length k4):=blk_cell b1 4 _ rfl;have n5:w1.cell? ⟨w.heap.size,5,none⟩=some (.slice a5 n.fares.prods.length k5):=blk_cell b1 5 _ rfl;have n6:w1.cell? ⟨w.heap.size,6,none⟩=some (.int .i64 n.fares.disc):=blk_cell b1 6 _ rfl;have n7:w1.cell? ⟨w.heap.size,7,none⟩=some (.int .i64 n.fares.within):=blk_cell b1 7 _ rfl;have n8:w1.cell? ⟨w.heap.size,8,none⟩=some (.int .i64 n.fares.cap):=blk_cell b1 8 _ rfl;clear hw1 b1 z1 s1 bl1 W0;go_wp2_with fail;refine(HCl.out w1 H1.out.2.2.2).mono ?_;rintro e w2 ⟨V2,rs2,rfl,hN2,b2⟩;obtain⟨n0,n1,n2,n3,n4,n5⟩:=V2;obtain⟨c0,e0,(rfl:n0=_)⟩:=hN2.stops.val;obtain⟨c1,e1,(rfl:n1=_)⟩:=hN2.routes.val;obtain⟨c2,e2,(rfl:n2=_)⟩:=hN2.runs.row.val;obtain⟨c3,e3,(rfl:n3=_)⟩:=hN2.links.val;obtain⟨c4,e4,(rfl:n4=_)⟩:=hN2.paths.val;obtain⟨c5,e5,(rfl:n5=_)⟩:=hN2.prods.val;have Bo:=bl_alloc (bl_refl w2) (.cells #[.slice c0 n.stops.length e0, .slice c1 n.routes.length e1, .slice c2 rs2.length e2, .slice c3 n.links.length e3, .slice c4 n.paths.length e4, .slice c5 n.fares.prods.length e5, .int .i64 n.fares.disc, .int .i64 n.fares.within, .int .i64 n.fares.cap] 54);have hbo:=heap_alloc_new w2 (.cells #[.slice c0 n.stops.length e0, .slice c1 n.routes.length e1, .slice c2 rs2.length e2, .slice c3 n.links.length e3, .slice c4 n.paths.length e4, .slice c5 n.fares.prods.length e5, .int .i64 n.fares.disc, .int .i64 n.fares.within, .int .i64 n.fares.cap] 54);have H2:=Lib.hid (And.intro (hN2.bl Bo) (And.intro hbo (bl_next b2 Bo)));have hzz2:=b2.size;clear hN2 b2 HCl n0 n1 n2 n3 n4 n5 n6 n7 n8 hbo Bo;go_upto_region 2 with fail
 change Code.wp _ _ _ _ (w2.alloc (.cells #[.slice c0 n.stops.length e0, .slice c1 n.routes.length e1, .slice c2 rs2.length e2, .slice c3 n.links.length e3, .slice c4 n.paths.length e4, .slice c5 n.fares.prods.length e5, .int .i64 n.fares.disc, .int .i64 n.fares.within, .int .i64 n.fares.cap] 54));obtain⟨w3,hw3⟩: ∃ w3,w2.alloc (.cells #[.slice c0 n.stops.length e0, .slice c1 n.routes.length e1, .slice c2 rs2.length e2, .slice c3 n.links.length e3, .slice c4 n.paths.length e4, .slice c5 n.fares.prods.length e5, .int .i64 n.fares.disc, .int .i64 n.fares.within, .int .i64 n.fares.cap] 54)=w3:=⟨_,rfl⟩;rw[hw3]at H2 ⊢;have H3:Hid (NetAt w2.heap.size w1.heap.size w3 ⟨.slice c0 n.stops.length e0, .slice c1 n.routes.length e1, .slice c2 rs2.length e2, .slice c3 n.links.length e3, .slice c4 n.paths.length e4, .slice c5 n.fares.prods.length e5⟩ rs2 n∧Bl w1 w3):=Lib.hid ⟨⟨H2.out.2.1,hzz2,H2.out.1⟩,H2.out.2.2⟩;have hb3:=blk_bl H1.out.1 H3.out.2;have n0:w3.cell? ⟨w.heap.size,0,none⟩=some (.slice a0 n.stops.length k0):=blk_cell hb3 0 _ rfl;have n1:w3.cell? ⟨w.heap.size,1,none⟩=some (.slice a1 n.routes.length k1):=blk_cell hb3 1 _ rfl;have n2:w3.cell? ⟨w.heap.size,2,none⟩=some (.slice a2 rs.length k2):=blk_cell hb3 2 _ rfl;have n3:w3.cell? ⟨w.heap.size,3,none⟩=some (.slice a3 n.links.length k3):=blk_cell hb3 3 _ rfl;have n4:w3.cell? ⟨w.heap.size,4,none⟩=some (.slice a4 n.paths.length k4):=blk_cell hb3 4 _ rfl;have n5:w3.cell? ⟨w.heap.size,5,none⟩=some (.slice a5 n.fares.prods.length k5):=blk_cell hb3 5 _ rfl;have n6:w3.cell? ⟨w.heap.size,6,none⟩=some (.int .i64 n.fares.disc):=blk_cell hb3 6 _ rfl;have n7:w3.cell? ⟨w.heap.size,7,none⟩=some (.int .i64 n.fares.within):=blk_cell hb3 7 _ rfl;have n8:w3.cell? ⟨w.heap.size,8,none⟩=some (.int .i64 n.fares.cap):=blk_cell hb3 8 _ rfl;clear hw3 H2 hb3;go_wp2_with fail;refine(HCk.out w3 (bl_next H1.out.2.2.2 H3.out.2)).mono ?_;rintro e w4 ⟨er,pp,ii,hner,rfl,b4⟩;have HNr:=Lib.hid hner;have H4:=Lib.hid (And.intro (H3.out.1.bl b4) (bl_next H3.out.2 b4));clear hner b4 HCk n0 n1 n2 n3 n4 n5 n6 n7 n8;go_wp2_with fail;go_loopw [10,23] (fun u i wr=> ∃ (k:Nat) (v:Value) (xs:List Value) (V':NetV) (rs':List RunV),(k≤ys.length∧i= .int .i64 k∧u=v)∧Hid (wr.ownsRow w1.heap.size 39 1 v k xs∧NetAt w2.heap.size w1.heap.size wr V' rs' (allP er n ((ys.map (·.m)).take k))∧SmallN (allP er n ((ys.map (·.m)).take k))∧Bl w1 wr)) (fun _ i _=>ys.length-(intOf i).toNat)
 case atStart=>exact⟨0,_,[],_,rs2,⟨Nat.zero_le _,rfl,rfl⟩,Lib.hid ⟨World.ownsRow_nil _ _ _ _,H4.out.1,sm.out,H4.out.2⟩⟩
 case round=>
  obtain⟨k,v,xs,V',rs',⟨hk,rfl,rfl⟩,HR⟩:=hrel;obtain⟨av,kv,rfl⟩:=own_val HR.out.1;by_cases hlt:k<ys.length
  ·
   have hltI:(k:Int)<(ys.length:Int):=by omega
   have Bw:=bl_next H1.out.2.2.2 HR.out.2.2.2;obtain⟨b,o,y,rfl,hbB,hyk,hcy⟩:=HY.out.sl.get (k:=k) hlt Bw hB;have hym:=List.mem_of_getElem? hyk;have hyc:=(HY.out.calls y hym).below (Bw.mono hB);have hyt':=hyt.out y hym;obtain⟨am,km,hyv,-,-⟩:=hyc.val;obtain⟨m,mv⟩:=y;simp only at hyv;subst hyv;simp only at hyc hyt';have c0m:wr.cell? ⟨b,o+k*13,none⟩=some (.int .i64 m.src):=hcy 0 _ rfl;have c1m:wr.cell? ⟨b,o+k*13+1,none⟩=some (.int .i64 m.seq):=hcy 1 _ rfl;have c2m:wr.cell? ⟨b,o+k*13+2,none⟩=some (.int .i64 m.iss):=hcy 2 _ rfl;have c3m:wr.cell? ⟨b,o+k*13+3,none⟩=some (.int .i64 m.exp):=hcy 3 _ rfl;have c4m:wr.cell? ⟨b,o+k*13+4,none⟩=some (.int .i64 m.kind):=hcy 4 _ rfl;have c5m:wr.cell? ⟨b,o+k*13+5,none⟩=some (str m.trip):=hcy 5 _ rfl;have c6m:wr.cell? ⟨b,o+k*13+6,none⟩=some (.int .i64 m.day):=hcy 6 _ rfl;have c7m:wr.cell? ⟨b,o+k*13+7,none⟩=some (.int .i64 m.inst):=hcy 7 _ rfl;have c8m:wr.cell? ⟨b,o+k*13+8,none⟩=some (.int .i64 m.call):=hcy 8 _ rfl;have c9m:wr.cell? ⟨b,o+k*13+9,none⟩=some (.int .i64 m.secs):=hcy 9 _ rfl;have c10m:wr.cell? ⟨b,o+k*13+10,none⟩=some (.int .i64 m.route):=hcy 10 _ rfl;have c11m:wr.cell? ⟨b,o+k*13+11,none⟩=some (.bool m.step):=hcy 11 _ rfl;have c12m:wr.cell? ⟨b,o+k*13+12,none⟩=some (.slice am m.calls.length km):=hcy 12 _ rfl;have hyr:(ys.map (·.m))[k]? =some m:=by rw[List.getElem?_map,hyk];rfl
   have hnext:allP er n ((ys.map (·.m)).take (k+1))=applyP er (allP er n ((ys.map (·.m)).take k)) m:=by rw[take_snoc_at hyr,allP_snoc]
   obtain⟨N,hN⟩: ∃ N,allP er n ((ys.map (·.m)).take k)=N:=⟨_,rfl⟩;rw[hN]at hnext;have hRel:=HR.out;rw[hN]at hRel;obtain⟨ce,hce⟩: ∃ ce,checkM m=ce:=⟨_,rfl⟩;have HCe:=Lib.hid hce;have HCM:=Lib.hid (Ms.check_c m (.slice am m.calls.length km) ce (Lib.hid hce) hyt' B wr hyc (Nat.le_trans hB Bw.size));have HNx:=Lib.hid hnext;have HRl:=Lib.hid hRel;have HYc:=Lib.hid hyc;have HBw:=Lib.hid Bw;have hbw:b<w.heap.size:=by
    obtain⟨b',o',cap',hq,-,-,hb',-⟩:=HY.out.sl.open (by omega);simp only[Value.slice.injEq,Option.some.injEq,Addr.mk.injEq,and_true,true_and]at hq;obtain⟨⟨rfl,-⟩,-⟩:=hq;omega
   clear hcy hyk hym hyc hyr hnext hN hRel hce HR Bw;go_wp2_with fail;refine HCM.out.mono ?_;rintro e w5 ⟨rfl,b5⟩;have H5:=Lib.hid (And.intro (own_bl HRl.out.1 b5) (And.intro (HRl.out.2.1.bl b5) (bl_next HRl.out.2.2.2 b5)));have HY5:=Lib.hid (HYc.out.below (b5.mono (Nat.le_trans hB HBw.out.size)));have hb15:=H5.out.2.2.size;have h1w:=H1.out.2.2.2.size;have hk5: ∀ o v,wr.cell? ⟨b,o,none⟩=some v→w5.cell? ⟨b,o,none⟩=some v:=fun o v h=>((bl_cell b5).1 _ _ (World.block_lt_of_cell? _ _ h)).trans h
   have d0m:=hk5 _ _ c0m;have d1m:=hk5 _ _ c1m;have d2m:=hk5 _ _ c2m;have d3m:=hk5 _ _ c3m;have d4m:=hk5 _ _ c4m;have d5m:=hk5 _ _ c5m;have d6m:=hk5 _ _ c6m;have d7m:=hk5 _ _ c7m;have d8m:=hk5 _ _ c8m;have d9m:=hk5 _ _ c9m;have d10m:=hk5 _ _ c10m;have d11m:=hk5 _ _ c11m;have d12m:=hk5 _ _ c12m;clear b5 HCM hk5 c0m c1m c2m c3m c4m c5m c6m c7m c8m c9m c10m c11m c12m;by_cases h0:er=0
   ·
    have e0:(er != 0)=false:=by rw[h0];rfl
    by_cases hc0:ce=0
    ·
     have hcm:checkM m=0:=HCe.out.trans hc0;have ec:(ce==0)=true:=by rw[hc0];rfl
     have hstep:applyP er N m=(changeP N m).1:=by unfold applyP;rw[if_pos ⟨h0,hcm⟩]
     have hm32:=checkM_calls hcm;have HCH:=Lib.hid (change_c w2.heap.size w1.heap.size V' rs' N (Lib.hid HRl.out.2.2.1) m (.slice am m.calls.length km) hm32 w5 H5.out.2.1 (HY5.out.mono (Nat.le_trans hB h1w)) hb15);have HSt:=Lib.hid (And.intro (HNx.out.trans hstep) (HRl.out.2.2.1.change hm32));clear h0 hc0 hcm hstep hm32;go_wp2_with fail;refine HCH.out.mono ?_;rintro e w6 ⟨V6,rs6,rfl,hO6,b6,kk6⟩;have hown6:=own_keepE H5.out.1 kk6;have H6:=Lib.hid (And.intro hown6 (And.intro hO6 (H5.out.2.2.trans b6)));have hb16:=(H5.out.2.2.trans b6).size;obtain⟨ev,hev⟩: ∃ ev,(changeP N m).2=ev:=⟨_,rfl⟩;rw[hev];clear hO6 b6 kk6 hown6 HCH hev d0m d1m d2m d3m d4m d5m d6m d7m d8m d9m d10m d11m d12m;go_wp2_with (at_builtin;refine wpList_append_own _ rfl _ _ 100 rfl w1.heap.size 39 i0 _ 1 8 Tryz.underlying100 hi hz0 hz1 hz2 rfl (by decide) _ _ _ rfl (H6.out.1.alloc _) ⟨w6.heap.size,0,none⟩ 1 1 [.int .i64 ev] rfl rfl ?c1 ?c2 ?c3 ?c4 ?c5 ?_)
     case c1=>first|exact fun j u hj=>hj|exact cells_new _ _ (by first|rfl|simp) (fun j u hj=>by rw[List.getElem?_toArray];exact hj)|(intro j u hj;simpa using hj)
     case c2=>simp[Value.oneCell']
     case c3=>unfold maxLen;omega
     case c4=>omega
     case c5=>first|(simp;omega)|omega
     intro v7 w7 own7 gr7 _;obtain⟨a7,k7,rfl⟩:=own_val own7;have hn7:=(H6.out.2.1.bl (bl_alloc (bl_refl _) (.cells #[.int .i64 ev] 39))).errs (H6.out.1.alloc (.cells #[.int .i64 ev] 39)) gr7;have hb7:Bl w1 w7:=by
      have h1:=bl_alloc H6.out.2.2 (.cells #[.int .i64 ev] 39);exact h1.grown gr7 h1.size (fun q hq=>(World.ownsRow.lt H6.out.1 q hq).1)
     have H7:=Lib.hid (And.intro own7 (And.intro hn7 hb7));have HNN:=Lib.hid (HSt.out.1:allP er n ((ys.map (·.m)).take (k+1))=(changeP N m).1);clear own7 gr7 hn7 hb7;go_wp2_with fail;exact⟨⟨k+1,_,_,_,_,⟨by omega,by go_num,rfl⟩,Lib.hid ⟨H7.out.1,by rw[HNN.out];exact H7.out.2.1,by rw[HNN.out];exact HSt.out.2,H7.out.2.2⟩⟩,by simp only[intOf];omega⟩
    ·
     have ec:(ce==0)=false:=by rw[beq_eq_false_iff_ne];exact hc0
     have hstep:applyP er N m=N:=by unfold applyP;rw[if_neg (fun q=>hc0 (HCe.out.symm.trans q.2))]
     have HSt:=Lib.hid (HNx.out.trans hstep);clear h0 hc0 hstep d0m d1m d2m d3m d4m d5m d6m d7m d8m d9m d10m d11m d12m;go_wp2_with (at_builtin;refine wpList_append_own _ rfl _ _ 100 rfl w1.heap.size 39 i0 _ 1 8 Tryz.underlying100 hi hz0 hz1 hz2 rfl (by decide) _ _ _ rfl (H5.out.1.alloc _) ⟨w5.heap.size,0,none⟩ 1 1 [.int .i64 ce] rfl rfl ?c1 ?c2 ?c3 ?c4 ?c5 ?_)
     case c1=>first|exact fun j u hj=>hj|exact cells_new _ _ (by first|rfl|simp) (fun j u hj=>by rw[List.getElem?_toArray];exact hj)|(intro j u hj;simpa using hj)
     case c2=>simp[Value.oneCell']
     case c3=>unfold maxLen;omega
     case c4=>omega
     case c5=>first|(simp;omega)|omega
     intro v7 w7 own7 gr7 _;obtain⟨a7,k7,rfl⟩:=own_val own7;have hn7:=(H5.out.2.1.bl (bl_alloc (bl_refl _) (.cells #[.int .i64 ce] 39))).errs (H5.out.1.alloc (.cells #[.int .i64 ce] 39)) gr7;have hb7:Bl w1 w7:=by
      have h1:=bl_alloc H5.out.2.2 (.cells #[.int .i64 ce] 39);exact h1.grown gr7 h1.size (fun q hq=>(World.ownsRow.lt H5.out.1 q hq).1)
     have H7:=Lib.hid (And.intro own7 (And.intro hn7 hb7));have HNN:=Lib.hid (HSt.out:allP er n ((ys.map (·.m)).take (k+1))=N);clear own7 gr7 hn7 hb7;go_wp2_with fail;exact⟨⟨k+1,_,_,_,_,⟨by omega,by go_num,rfl⟩,Lib.hid ⟨H7.out.1,by rw[HNN.out];exact H7.out.2.1,by rw[HNN.out];exact HRl.out.2.2.1,H7.out.2.2⟩⟩,by simp only[intOf];omega⟩
   ·
    have e0:(er != 0)=true:=by rw[bne_iff_ne];exact h0
    have hstep:applyP er N m=N:=by unfold applyP;rw[if_neg (fun q=>h0 q.1)]
    have HSt:=Lib.hid (HNx.out.trans hstep);clear h0 hstep d0m d1m d2m d3m d4m d5m d6m d7m d8m d9m d10m d11m d12m;go_wp2_with (at_builtin;refine wpList_append_own _ rfl _ _ 100 rfl w1.heap.size 39 i0 _ 1 8 Tryz.underlying100 hi hz0 hz1 hz2 rfl (by decide) _ _ _ rfl (H5.out.1.alloc _) ⟨w5.heap.size,0,none⟩ 1 1 [.int .i64 21] rfl rfl ?c1 ?c2 ?c3 ?c4 ?c5 ?_)
    case c1=>first|exact fun j u hj=>hj|exact cells_new _ _ (by first|rfl|simp) (fun j u hj=>by rw[List.getElem?_toArray];exact hj)|(intro j u hj;simpa using hj)
    case c2=>simp[Value.oneCell']
    case c3=>unfold maxLen;omega
    case c4=>omega
    case c5=>first|(simp;omega)|omega
    intro v7 w7 own7 gr7 _;obtain⟨a7,k7,rfl⟩:=own_val own7;have hn7:=(H5.out.2.1.bl (bl_alloc (bl_refl _) (.cells #[.int .i64 21] 39))).errs (H5.out.1.alloc (.cells #[.int .i64 21] 39)) gr7;have hb7:Bl w1 w7:=by
     have h1:=bl_alloc H5.out.2.2 (.cells #[.int .i64 21] 39);exact h1.grown gr7 h1.size (fun q hq=>(World.ownsRow.lt H5.out.1 q hq).1)
    have H7:=Lib.hid (And.intro own7 (And.intro hn7 hb7));have HNN:=Lib.hid (HSt.out:allP er n ((ys.map (·.m)).take (k+1))=N);clear own7 gr7 hn7 hb7;go_wp2_with fail;exact⟨⟨k+1,_,_,_,_,⟨by omega,by go_num,rfl⟩,Lib.hid ⟨H7.out.1,by rw[HNN.out];exact H7.out.2.1,by rw[HNN.out];exact HRl.out.2.2.1,H7.out.2.2⟩⟩,by simp only[intOf];omega⟩
  ·
   obtain rfl:k=ys.length:=by omega
   have hfin:=HR.out;rw[List.take_of_length_le (by rw[List.length_map];exact Nat.le_refl _)]at hfin;obtain⟨N,hN⟩: ∃ N,allP er n (ys.map (·.m))=N:=⟨_,rfl⟩;have HNe:=Lib.hid hN;rw[hN]at hfin;have HF:=Lib.hid hfin;obtain⟨n0,n1,n2,n3,n4,n5⟩:=V';obtain⟨f0,t0,(rfl:n0=_)⟩:=hfin.2.1.net.stops.val;obtain⟨f1,t1,(rfl:n1=_)⟩:=hfin.2.1.net.routes.val;obtain⟨f2,t2,(rfl:n2=_)⟩:=hfin.2.1.net.runs.row.val;obtain⟨f3,t3,(rfl:n3=_)⟩:=hfin.2.1.net.links.val;obtain⟨f4,t4,(rfl:n4=_)⟩:=hfin.2.1.net.paths.val;obtain⟨f5,t5,(rfl:n5=_)⟩:=hfin.2.1.net.prods.val;have hbo:=hfin.2.1.blk;have n0:wr.cell? ⟨w2.heap.size,0,none⟩=some (.slice f0 N.stops.length t0):=blk_cell hbo 0 _ rfl;have n1:wr.cell? ⟨w2.heap.size,1,none⟩=some (.slice f1 N.routes.length t1):=blk_cell hbo 1 _ rfl;have n2:wr.cell? ⟨w2.heap.size,2,none⟩=some (.slice f2 rs'.length t2):=blk_cell hbo 2 _ rfl;have n3:wr.cell? ⟨w2.heap.size,3,none⟩=some (.slice f3 N.links.length t3):=blk_cell hbo 3 _ rfl;have n4:wr.cell? ⟨w2.heap.size,4,none⟩=some (.slice f4 N.paths.length t4):=blk_cell hbo 4 _ rfl;have n5:wr.cell? ⟨w2.heap.size,5,none⟩=some (.slice f5 N.fares.prods.length t5):=blk_cell hbo 5 _ rfl;have n6:wr.cell? ⟨w2.heap.size,6,none⟩=some (.int .i64 N.fares.disc):=blk_cell hbo 6 _ rfl;have n7:wr.cell? ⟨w2.heap.size,7,none⟩=some (.int .i64 N.fares.within):=blk_cell hbo 7 _ rfl;have n8:wr.cell? ⟨w2.heap.size,8,none⟩=some (.int .i64 N.fares.cap):=blk_cell hbo 8 _ rfl;have hzb:=blk_bl H1.out.2.1 hfin.2.2.2;have HZ:=Lib.hid hzb;have z0:wr.cell? ⟨w.heap.size+1,0,none⟩=some (.slice none 0 0):=blk_cell hzb 0 _ rfl;have y0:wr.frozen? ⟨w.heap.size+1,0,none⟩=false:=Lib.frozen_of_heap hzb 0;have z1:wr.cell? ⟨w.heap.size+1,1,none⟩=some (.slice none 0 0):=blk_cell hzb 1 _ rfl;have y1:wr.frozen? ⟨w.heap.size+1,1,none⟩=false:=Lib.frozen_of_heap hzb 1;have z2:wr.cell? ⟨w.heap.size+1,2,none⟩=some (.slice none 0 0):=blk_cell hzb 2 _ rfl;have y2:wr.frozen? ⟨w.heap.size+1,2,none⟩=false:=Lib.frozen_of_heap hzb 2;have z3:wr.cell? ⟨w.heap.size+1,3,none⟩=some (.slice none 0 0):=blk_cell hzb 3 _ rfl;have y3:wr.frozen? ⟨w.heap.size+1,3,none⟩=false:=Lib.frozen_of_heap hzb 3;have z4:wr.cell? ⟨w.heap.size+1,4,none⟩=some (.slice none 0 0):=blk_cell hzb 4 _ rfl;have y4:wr.frozen? ⟨w.heap.size+1,4,none⟩=false:=Lib.frozen_of_heap hzb 4;have z5:wr.cell? ⟨w.heap.size+1,5,none⟩=some (.slice none 0 0):=blk_cell hzb 5 _ rfl;have y5:wr.frozen? ⟨w.heap.size+1,5,none⟩=false:=Lib.frozen_of_heap hzb 5;have z6:wr.cell? ⟨w.heap.size+1,6,none⟩=some (.int .i64 0):=blk_cell hzb 6 _ rfl;have y6:wr.frozen? ⟨w.heap.size+1,6,none⟩=false:=Lib.frozen_of_heap hzb 6;have z7:wr.cell? ⟨w.heap.size+1,7,none⟩=some (.int .i64 0):=blk_cell hzb 7 _ rfl;have y7:wr.frozen? ⟨w.heap.size+1,7,none⟩=false:=Lib.frozen_of_heap hzb 7;have z8:wr.cell? ⟨w.heap.size+1,8,none⟩=some (.int .i64 0):=blk_cell hzb 8 _ rfl;have y8:wr.frozen? ⟨w.heap.size+1,8,none⟩=false:=Lib.frozen_of_heap hzb 8;clear hzb hbo hfin HR hN;go_wp2_with fail;obtain⟨PP,GG⟩:=put9 HZ.out (.slice f0 N.stops.length t0) (.slice f1 N.routes.length t1) (.slice f2 rs'.length t2) (.slice f3 N.links.length t3) (.slice f4 N.paths.length t4) (.slice f5 N.fares.prods.length t5) (.int .i64 N.fares.disc) (.int .i64 N.fares.within) (.int .i64 N.fares.cap);have hne:w2.heap.size≠w.heap.size+1:=by have:=HF.out.2.1.lo;have:=H1.out.2.2.1;omega
   refine bodyPost_ret (results_cell_slot rfl _ _ (w.heap.size+1) 54 _ (0,0) _ _ rfl rfl PP Tryz.underlying54 rfl (by kernel_rfl)) rfl ?_;have hzlo:w.heap.size≤w1.heap.size:=H1.out.2.2.2.size;have hnet:=HF.out.2.1.net.other HZ.out GG;have hout:Bl w _:=(bl_next H1.out.2.2.2 HF.out.2.2.2).grown GG (Nat.le_trans hzlo HF.out.2.2.2.size) (fun q hq=>by have:=Option.some.inj hq;omega);exact⟨er,⟨.slice f0 N.stops.length t0, .slice f1 N.routes.length t1, .slice f2 rs'.length t2, .slice f3 N.links.length t3, .slice f4 N.paths.length t4, .slice f5 N.fares.prods.length t5⟩,rs', .slice av ys.length kv,HNr.out,(by rw[HNe.out];rfl),(by rw[HNe.out];exact hnet.low hzlo),hout⟩
end Go.Proofs.YtncbcmiflffakaaGreat
