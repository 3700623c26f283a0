/-
  What the laws of top need of TopNtG. Conditions: those of each lemma.
-/
import Derived.Test.YtncbcmiflffakaaGreatPkNtF
import Derived.Test.YtncbcmiflffakaaGreatPkPlB
import Derived.Test.YtncbcmiflffakaaGreatPkTh
import Derived.Test.YtncbcmiflffakaaGreatPkIbG
import Derived.BigRegion
set_option maxRecDepth 1000000
set_option maxHeartbeats 32000000
namespace Go.Proofs.YtncbcmiflffakaaGreat
open Go.RowKit
open Frq Thr Tt
def NextMap (pre:List LinkD) (G:Lit→Option Value):Prop:= ∀ a:Int,isInt a→G (.int .i64 a)=(nextL pre a).map fun b=> .int .i64 b
theorem nextMap_nil:NextMap [] (fun _=>none):=fun _ _=>rfl
theorem NextMap.skip {pre:List LinkD} {G:Lit→Option Value} (h:NextMap pre G) {l:LinkD} (hs:l.stay=false):NextMap (pre++[l]) G:=fun a ha=>by
 rw[nextL_snoc,hs,h a ha];cases nextL pre a<;>rfl
theorem NextMap.put {pre:List LinkD} {G:Lit→Option Value} (h:NextMap pre G) {l:LinkD} (hs:l.stay=true) (hf:isInt l.frm) (hn:nextL pre l.frm=none):NextMap (pre++[l]) (putV G (.int .i64 l.frm) (.int .i64 l.dst)):=fun a ha=>by
 rw[nextL_snoc];by_cases e:a=l.frm
 ·
  subst e;rw[putV_at _ (Th.int_law.key (Th.key_int hf)),hn,hs];simp
 ·
  rw[putV_ne (fun e'=>e (by simpa using e')),h a ha];cases nextL pre a with
  |some b=>rfl
  |none=>
   simp only;rw[if_neg (by
    rw[Bool.and_eq_true,beq_iff_eq];exact fun q=>e q.2.symm)]
def IntoSet (pre:List LinkD) (S:Lit→Bool):Prop:= ∀ a:Int,isInt a→S (.int .i64 a)=pre.any fun k=>k.stay&&k.dst==a
theorem intoSet_nil:IntoSet [] (fun _=>false):=fun _ _=>rfl
theorem IntoSet.skip {pre:List LinkD} {S:Lit→Bool} (h:IntoSet pre S) {l:LinkD} (hs:l.stay=false):IntoSet (pre++[l]) S:=fun a ha=>by
 rw[h a ha,List.any_append,List.any_cons,List.any_nil,hs];simp
theorem IntoSet.put {pre:List LinkD} {S:Lit→Bool} (h:IntoSet pre S) {l:LinkD} (hs:l.stay=true) (hd:isInt l.dst):IntoSet (pre++[l]) (setPut S (.int .i64 l.dst)):=fun a ha=>by
 rw[List.any_append,List.any_cons,List.any_nil,hs,←h a ha];by_cases e:a=l.dst
 ·
  subst e;rw[setPut_at _ (Th.int_law.key (Th.key_int hd))];simp
 ·
  rw[setPut_ne (fun e'=>e (by simpa using e')),show(l.dst==a)=false by rw[beq_eq_false_iff_ne];exact fun q=>e q.symm];simp
theorem leads_c (pre:List LinkD) (N:Nat) (len:Int→Nat) (hr:Hid (Ranked pre N len)) (b n:Nat) (G:Lit→Option Value) (hG:Hid (NextMap pre G)) (hin:Hid (∀ a c,nextL pre a=some c→isInt c)) (frm dst:Int) (hf:isInt frm) (w:World) (hm:OwnsVal w Tryz.prog 3 b n G):
  Calls Tryz.prog 125 #[.map (some b), .int .i64 frm, .int .i64 dst] w fun e w'=>e= .returned (.bool (leadsN pre dst N frm))∧w=w':=by
 have hl: ∀ a,isInt a→(Instr.lookup 216 (.map (some b)) (.int .i64 a) true).run Tryz.prog w= .ok (.tuple #[.int .i64 ((nextL pre a).getD 0), .bool (nextL pre a).isSome]) w:=fun a ha=>by
  have h:=hm.look_ok Th.int_law Tryz.underlying216 (z:= .int .i64 0) (by kernel_rfl) (Th.key_int ha);rw[hG.out a ha]at h;rw[h];cases nextL pre a<;>rfl
 have HL:=Lib.hid hl;have h0:=HL.out frm hf;clear hl hm;go_enter Tryz.func125,Tryz.ntmps125
 go_wp2_with fail;clear h0;go_loopw [7,8] (fun v ok wr=> ∃ x:Option Int,(v= .int .i64 (x.getD 0)∧ok= .bool x.isSome)∧Hid (∃ a,x=nextL pre a∧leadsN pre dst N frm=leadsN pre dst N a)∧w=wr) (fun v ok _=>match ok with| .bool true=>len (intOf v)+1|_=>0)
 case atStart=>exact⟨_,⟨rfl,rfl⟩,Lib.hid ⟨frm,rfl,rfl⟩,rfl⟩
 case round=>
  obtain⟨x,⟨rfl,rfl⟩,HX,rfl⟩:=hrel;cases x with
  |none=>
   have HE:Hid (leadsN pre dst N frm=false):=by
    obtain⟨a,ha,h⟩:=HX.out;exact h.trans (hr.out.endS dst ha.symm)
   simp only[Option.getD_none,Option.isSome_none];go_wp2_with fail;go_ret;exact⟨ret_bool HE.out.symm,rfl⟩
  |some c=>
   have HE:Hid (isInt c∧leadsN pre dst N frm=(c==dst||leadsN pre dst N c)):=by
    obtain⟨a,ha,h⟩:=HX.out;exact⟨hin.out a c ha.symm,h.trans (hr.out.moreS dst ha.symm)⟩
   simp only[Option.getD_some,Option.isSome_some];have hc:=HL.out c HE.out.1;by_cases he:c=dst
   ·
    have e1:(c==dst)=true:=by rw[beq_iff_eq];exact he
    have HR:=Lib.hid (show leadsN pre dst N frm=true by rw[HE.out.2,e1];rfl);clear hc;go_wp2_with fail;go_ret;exact⟨ret_bool HR.out.symm,rfl⟩
   ·
    have e1:(c==dst)=false:=by rw[beq_eq_false_iff_ne];exact he
    have HR:=Lib.hid (show leadsN pre dst N frm=leadsN pre dst N c by rw[HE.out.2,e1];rfl);go_wp2_with fail;refine⟨⟨nextL pre c,⟨rfl,rfl⟩,Lib.hid ⟨c,rfl,HR.out⟩,(by first|rfl|trivial)⟩, ?_⟩;cases hn:nextL pre c with
    |none=>simp[intOf]
    |some d=>
     have:=hr.out.down c d hn;simp[intOf]
     omega
theorem linkErr_at {runs:List RunD} {pre:List LinkD} {l:LinkD} {a b:RunD} {i j:Nat} (hf:l.frm=i) (hd:l.dst=j) (hij: ¬ l.frm=l.dst) (ha:runs[i]? =some a) (hb:runs[j]? =some b):
  linkErr runs pre l=if(netwithin l.frmC a.calls.length&&netwithin l.dstC b.calls.length)=false then 9 else
   match a.calls[l.frmC.toNat]?,b.calls[l.dstC.toNat]? with
   |some x,some y=>if x.stop≠y.stop then 13
    else if l.stay∧(l.frmC+1≠a.calls.length∨l.dstC≠0∨(nextL pre l.frm).isSome=true∨(pre.any fun k=>k.stay&&k.dst==l.dst)=true∨leadsN pre l.frm (2 ^ pre.length) l.dst=true)then 19
    else if(pre.any fun k=>k.frm==l.frm&&(k.frmC==l.frmC&&(k.dst==l.dst&&k.dstC==l.dstC)))=true then 6 else 0
   |_,_=>9:=by
 have hi:i<runs.length:=(List.getElem?_eq_some_iff.1 ha).1;have hj:j<runs.length:=(List.getElem?_eq_some_iff.1 hb).1;have h1: ¬ (netwithin l.frm runs.length&&(netwithin l.dst runs.length&& !(l.frm==l.dst)))=false:=by
  unfold netwithin;simp
  omega
 unfold linkErr;rw[if_neg h1];have e1:l.frm.toNat=i:=by omega
 have e2:l.dst.toNat=j:=by omega
 rw[e1,e2,ha,hb];rfl
theorem linkErr_in {runs:List RunD} {pre:List LinkD} {l:LinkD} {a b:RunD} {i j p q:Nat} {x y:CallD} (hf:l.frm=i) (hd:l.dst=j) (hij: ¬ l.frm=l.dst) (ha:runs[i]? =some a) (hb:runs[j]? =some b) (hp:l.frmC=p) (hq:l.dstC=q) (hx:a.calls[p]? =some x) (hy:b.calls[q]? =some y):
  linkErr runs pre l=if x.stop≠y.stop then 13
    else if l.stay∧(l.frmC+1≠a.calls.length∨l.dstC≠0∨(nextL pre l.frm).isSome=true∨(pre.any fun k=>k.stay&&k.dst==l.dst)=true∨leadsN pre l.frm (2 ^ pre.length) l.dst=true)then 19
    else if(pre.any fun k=>k.frm==l.frm&&(k.frmC==l.frmC&&(k.dst==l.dst&&k.dstC==l.dstC)))=true then 6 else 0:=by
 have h1:p<a.calls.length:=(List.getElem?_eq_some_iff.1 hx).1;have h2:q<b.calls.length:=(List.getElem?_eq_some_iff.1 hy).1;rw[linkErr_at hf hd hij ha hb,if_neg (by unfold netwithin;simp;omega)];have e1:l.frmC.toNat=p:=by omega
 have e2:l.dstC.toNat=q:=by omega
 rw[e1,e2,hx,hy]
def fourKey (l:LinkD):Int×Int×Int×Int:=(l.frm,l.frmC,l.dst,l.dstC)
theorem fourKey_any (pre:List LinkD) (l:LinkD) {S:Lit→Bool} {gk:Int×Int×Int×Int→Lit} (h:fourkSet gk (pre.map fourKey) S) (hr:fourkOk (fourKey l)):(pre.any fun k=>k.frm==l.frm&&(k.frmC==l.frmC&&(k.dst==l.dst&&k.dstC==l.dstC)))=S (gk (fourKey l)):=by
 rw[h _ hr,List.any_map];refine congrArg (fun f=>pre.any f) (funext fun y=>?_);simp only[Function.comp,fourKey];rw[Bool.eq_iff_iff];simp[Prod.ext_iff]
theorem nwithin_b (i n:Int) (b:Bool) (h:Hid (decide (0≤i∧i<n)=b)) (w:World):
  Calls Tryz.prog 124 #[.int .i64 i, .int .i64 n] w fun e w'=>e= .returned (.bool b)∧w=w':=by
 have hb:=h.out;by_cases h1:0≤i<;>by_cases h2:i<n
 all_goals
  go_enter Tryz.func124,Tryz.ntmps124
  go_wp2_with fail;go_ret;exact⟨by rw[←hb];simp[h1,h2],rfl⟩
theorem two_puts {w:World} {b2 b3 n:Nat} {G:Lit→Option Value} {S:Lit→Bool} (m1:OwnsVal w Tryz.prog 3 b2 n G) (m2:OwnsSet w Tryz.prog 3 4 b3 n S) (hne:b2≠b3) (hn:n<maxLen) {f d:Int} (hf:isInt f) (hd:isInt d):
  ∃ wa wab wb wba,(Instr.mapUpdate 216 (.map (some b2)) (.int .i64 f) (.int .i64 d)).run Tryz.prog w= .ok () wa∧(Instr.mapUpdate 128 (.map (some b3)) (.int .i64 d) (.bool true)).run Tryz.prog wa= .ok () wab∧
   (Instr.mapUpdate 128 (.map (some b3)) (.int .i64 d) (.bool true)).run Tryz.prog w= .ok () wb∧(Instr.mapUpdate 216 (.map (some b2)) (.int .i64 f) (.int .i64 d)).run Tryz.prog wb= .ok () wba∧
   Gr2 b2 b3 w wa∧Gr2 b2 b3 w wb∧
   (OwnsVal wab Tryz.prog 3 b2 (n+1) (putV G (.int .i64 f) (.int .i64 d))∧OwnsSet wab Tryz.prog 3 4 b3 (n+1) (setPut S (.int .i64 d))∧Gr2 b2 b3 w wab)∧
   (OwnsVal wba Tryz.prog 3 b2 (n+1) (putV G (.int .i64 f) (.int .i64 d))∧OwnsSet wba Tryz.prog 3 4 b3 (n+1) (setPut S (.int .i64 d))∧Gr2 b2 b3 w wba):=by
 obtain⟨wa,ha1,ha2,ha3⟩:=m1.put Th.int_law Tryz.underlying216 hn (Th.key_int hf) (.int .i64 d);obtain⟨wb,hb1,hb2,hb3⟩:=m2.put Th.int_law Tryz.underlying128 Tryz.underlying4 hn (Th.key_int hd);have m2a:=m2.grown ha3 (by simpa using fun e:b3=b2=>hne e.symm);have m1b:OwnsVal wb Tryz.prog 3 b2 n G:=m1.kept (hb3.block b2 m1.lt (by simpa using hne));obtain⟨wab,hab1,hab2,hab3⟩:=m2a.put Th.int_law Tryz.underlying128 Tryz.underlying4 hn (Th.key_int hd);obtain⟨wba,hba1,hba2,hba3⟩:=m1b.put Th.int_law Tryz.underlying216 hn (Th.key_int hf) (.int .i64 d);exact⟨wa,wab,wb,wba,ha1,hab1,hb1,hba1,gr2_fst ha3,gr2_snd hb3,
  ⟨ha2.kept (hab3.block b2 ha2.lt (by simpa using hne)),hab2,gr2_next (gr2_fst ha3) (gr2_snd hab3)⟩,
  ⟨hba2,hb2.grown hba3 (by simpa using fun e:b3=b2=>hne e.symm),gr2_next (gr2_snd hb3) (gr2_fst hba3)⟩⟩
abbrev linkBox (l:LinkD):Obj:= .cells (linkCells l).toArray 95
theorem checklinks_c (V:NetV) (rs:List RunV) (n:NetD) (er:Int) (H:Hid ((checkS 1024 (linkErr n.runs) n.links).2=er)) (few:FewN n) (B:Nat) (w:World) (rd:NetRd B w V rs n) (hB:B≤w.heap.size):
  Calls Tryz.prog 101 #[netV V n.fares] w fun e w'=>(∃ p i:Int,e= .returned (.agg #[.int .i64 p, .int .i64 i, .int .i64 er]))∧Bl w w':=by
 obtain⟨gk,KG⟩:=fourkFn_ex;have hrl:rs.length=n.runs.length:=by rw[rd.same,List.length_map]
 have hrs:rs.length≤100000:=by rw[hrl];exact few.runs
 have hrc: ∀ x∈rs,x.r.calls.length≤100000:=fun x hx=>few.calls x.r (by rw[rd.same];exact List.mem_map_of_mem hx)
 have HRC:=Lib.hid hrc;have hlk:=few.links;have HRd:=Lib.hid rd;obtain⟨v0,v1,v2,v3,v4,v5⟩:=V;obtain⟨a0,k0,(rfl:v0=_),-,-⟩:=rd.stops.val;obtain⟨a1,k1,(rfl:v1=_),-,-⟩:=rd.routes.val;obtain⟨a2,k2,(rfl:v2=_),-,-⟩:=rd.runs.sl.val;obtain⟨a3,k3,(rfl:v3=_),-,-⟩:=rd.links.val;obtain⟨a4,k4,(rfl:v4=_),-,-⟩:=rd.paths.val;obtain⟨a5,k5,(rfl:v5=_),-,-⟩:=rd.prods.val;have W0:=Lib.hid (check_boxes w ⟨.slice a0 n.stops.length k0, .slice a1 n.routes.length k1, .slice a2 rs.length k2, .slice a3 n.links.length k3, .slice a4 n.paths.length k4, .slice a5 n.fares.prods.length k5⟩ n.fares);have HRl:=Lib.hid hrl;have hmm:= @run_makeMap Tryz.prog;clear rd few hrl hrc;go_enter Tryz.func101,Tryz.ntmps101
 go_upto_region 1 with fail
 obtain⟨w1,hw1,b1,z1,s1,bl1⟩:=W0.out;simp only at hw1 b1;change Code.wp _ _ _ _ ((w.alloc (netBox ⟨.slice a0 n.stops.length k0, .slice a1 n.routes.length k1, .slice a2 rs.length k2, .slice a3 n.links.length k3, .slice a4 n.paths.length k4, .slice a5 n.fares.prods.length k5⟩ n.fares)).alloc resBox);rw[←hw1];have c3:w1.cell? ⟨w.heap.size,3,none⟩=some (.slice a3 n.links.length k3):=blk_cell b1 3 _ rfl;have H1:=Lib.hid (And.intro b1 (And.intro z1 (And.intro s1 bl1)));clear hw1 b1 z1 s1 bl1 W0;by_cases hmany:1024<n.links.length
 ·
  have HM:=Lib.hid (show er=5 by rw[←H.out];unfold checkS;rw[if_pos hmany]);have hmI:(1024:Int)<(n.links.length:Int):=by omega
  clear hmm;go_wp2_with fail;refine(nof_c 3 0 5 w1).mono ?_;rintro e w9 ⟨rfl,b9⟩;have H9:=Lib.hid (And.intro (blk_bl H1.out.2.1 b9) (bl_next H1.out.2.2.2 b9));obtain⟨c0,c1,c2,f0,f1,f2⟩:=res_cells H9.out.1;clear b9;go_wp2_with fail;obtain⟨PP,QQ⟩:=res_put H9.out.1 H9.out.2 (Nat.le_succ _) (.int .i64 3) (.int .i64 0) (.int .i64 5);refine bodyPost_ret (results_cell_row rfl _ _ (w.heap.size+1) 186 _ (0,0) _ rfl PP Tryz.underlying186 rfl (by kernel_rfl)) rfl ?_;exact⟨⟨3,0,by rw[HM.out]⟩,QQ⟩
 ·
  have hfew: ¬ (1024:Int)<(n.links.length:Int):=by omega
  have hR0:(chk (linkErr n.runs) (n.links.take 0) (n.links.drop 0)).2=er:=by rw[←H.out];unfold checkS;rw[if_neg hmany];rfl
  have HF:=Lib.hid (show n.links.length≤1024 by omega);obtain⟨R,hR⟩: ∃ R,chk (linkErr n.runs) (n.links.take 0) (n.links.drop 0)=R:=⟨_,rfl⟩;rw[hR]at hR0;have HR0:=Lib.hid hR0;have HRR:=Lib.hid hR;clear hmany hR hR0;have hs1:=H1.out.2.2.1;go_upto_region 5 with fail
  have W3:Hid (∃ w4,w4=((w1.alloc (.map #[] 0)).alloc (.map #[] 0)).alloc (.map #[] 0)∧OwnsVal w4 Tryz.prog 3 (w.heap.size+2) 0 (fun _=>none)∧OwnsSet w4 Tryz.prog 3 4 (w.heap.size+3) 0 (fun _=>false)∧OwnsSet w4 Tryz.prog 218 4 (w.heap.size+4) 0 (fun _=>false)∧Bl w1 w4):=by
   have B1:=bl_alloc (bl_refl w1) (.map #[] 0);have B2:=bl_alloc (bl_refl (w1.alloc (.map #[] 0))) (.map #[] 0);have B3:=bl_alloc (bl_refl ((w1.alloc (.map #[] 0)).alloc (.map #[] 0))) (.map #[] 0);have m1:=ownsVal_made w1 Tryz.prog 3;have m2:=ownsSet_made (w1.alloc (.map #[] 0)) Tryz.prog 3 4;have m3:=ownsSet_made ((w1.alloc (.map #[] 0)).alloc (.map #[] 0)) Tryz.prog 218 4;rw[hs1]at m1;rw[show(w1.alloc (.map #[] 0)).heap.size=w.heap.size+3 by simp[hs1]]at m2;rw[show((w1.alloc (.map #[] 0)).alloc (.map #[] 0)).heap.size=w.heap.size+4 by simp[hs1]]at m3;exact⟨_,rfl,(m1.bl B2).bl B3,m2.bl B3,m3,bl_next (bl_next B1 B2) B3⟩
  obtain⟨w4,hw4,m1,m2,m3,B4⟩:=W3.out;change Code.wp _ _ _ _ (((w1.alloc (.map #[] 0)).alloc (.map #[] 0)).alloc (.map #[] 0));rw[←hw4];have H4:=Lib.hid (And.intro m1 (And.intro m2 (And.intro m3 (And.intro (blk_bl H1.out.1 B4) (And.intro (blk_bl H1.out.2.1 B4) (bl_next H1.out.2.2.2 B4))))));have c3:w4.cell? ⟨w.heap.size,3,none⟩=some (.slice a3 n.links.length k3):=blk_cell H4.out.2.2.2.1 3 _ rfl;clear hw4 m1 m2 m3 B4 W3 hmm;go_wp2_with fail;go_loopw [24] (fun i wr=> ∃ (k:Nat) (G:Lit→Option Value) (S Sf:Lit→Bool),(k≤n.links.length∧i= .int .i64 k)∧Hid (NextMap (n.links.take k) G∧OwnsVal wr Tryz.prog 3 (w.heap.size+2) k G∧IntoSet (n.links.take k) S∧OwnsSet wr Tryz.prog 3 4 (w.heap.size+3) k S∧fourkSet gk ((n.links.take k).map fourKey) Sf∧OwnsSet wr Tryz.prog 218 4 (w.heap.size+4) k Sf)∧Hid ((∃ len,Ranked (n.links.take k) (2 ^ k) len)∧(∀ a c,nextL (n.links.take k) a=some c→isInt c)∧chk (linkErr n.runs) (n.links.take k) (n.links.drop k)=R)∧Hid (wr.heap[w.heap.size]? =some (.cells #[.slice a0 n.stops.length k0, .slice a1 n.routes.length k1, .slice a2 rs.length k2, .slice a3 n.links.length k3, .slice a4 n.paths.length k4, .slice a5 n.fares.prods.length k5, .int .i64 n.fares.disc, .int .i64 n.fares.within, .int .i64 n.fares.cap] 54 (0,0))∧wr.heap[w.heap.size+1]? =some (.cells #[.int .i64 0, .int .i64 0, .int .i64 0] 186 (0,0))∧Bl w wr)) (fun i _=>n.links.length-(intOf i).toNat)
  case atStart=>exact⟨0,_,_,_,⟨Nat.zero_le _,rfl⟩,Lib.hid ⟨nextMap_nil,H4.out.1,intoSet_nil,H4.out.2.1,fun _ _=>rfl,H4.out.2.2.1⟩,Lib.hid ⟨⟨_,ranked_nil⟩,fun a c h=>by simp[nextL]at h,HRR.out⟩,Lib.hid ⟨H4.out.2.2.2.1,H4.out.2.2.2.2.1,H4.out.2.2.2.2.2⟩⟩
  case round=>
   obtain⟨k,G,S,Sf,⟨hk,rfl⟩,HM,HC,HW⟩:=hrel;by_cases hlt:k<n.links.length
   ·
    have hltI:(k:Int)<(n.links.length:Int):=by omega
    obtain⟨b,o,x,rfl,-,hx,hcx⟩:=HRd.out.links.get (k:=k) hlt HW.out.2.2 hB;obtain⟨xf,xfc,xd,xdc,xs⟩:=x;have c0:wr.cell? ⟨b,o+k*5,none⟩=some (.int .i64 xf):=hcx 0 _ rfl;have c1:wr.cell? ⟨b,o+k*5+1,none⟩=some (.int .i64 xfc):=hcx 1 _ rfl;have c2:wr.cell? ⟨b,o+k*5+2,none⟩=some (.int .i64 xd):=hcx 2 _ rfl;have c3:wr.cell? ⟨b,o+k*5+3,none⟩=some (.int .i64 xdc):=hcx 3 _ rfl;have c4:wr.cell? ⟨b,o+k*5+4,none⟩=some (.bool xs):=hcx 4 _ rfl;have HX:=Lib.hid hx;clear hx hcx;have Bb:=bl_alloc (bl_refl wr) (linkBox ⟨xf,xfc,xd,xdc,xs⟩);have hb4:=heap_alloc_new wr (linkBox ⟨xf,xfc,xd,xdc,xs⟩);go_upto_region 8 with fail
    change Code.wp _ _ _ _ (wr.alloc (linkBox ⟨xf,xfc,xd,xdc,xs⟩));generalize wr.alloc (linkBox ⟨xf,xfc,xd,xdc,xs⟩)=w4 at Bb hb4 ⊢
    have HB4:=Lib.hid (And.intro Bb hb4);have HZ4:=Lib.hid (And.intro (blk_bl HW.out.1 Bb) (And.intro (blk_bl HW.out.2.1 Bb) (bl_next HW.out.2.2 Bb)));have n2:w4.cell? ⟨w.heap.size,2,none⟩=some (.slice a2 rs.length k2):=blk_cell HZ4.out.1 2 _ rfl;have p0:w4.cell? ⟨wr.heap.size,0,none⟩=some (.int .i64 xf):=blk_cell hb4 0 _ rfl;have p1:w4.cell? ⟨wr.heap.size,1,none⟩=some (.int .i64 xfc):=blk_cell hb4 1 _ rfl;have p2:w4.cell? ⟨wr.heap.size,2,none⟩=some (.int .i64 xd):=blk_cell hb4 2 _ rfl;have p3:w4.cell? ⟨wr.heap.size,3,none⟩=some (.int .i64 xdc):=blk_cell hb4 3 _ rfl;have p4:w4.cell? ⟨wr.heap.size,4,none⟩=some (.bool xs):=blk_cell hb4 4 _ rfl;clear Bb hb4 c0 c1 c2 c3 c4;have hbad: ∀ e:Int,linkErr n.runs (n.links.take k) ⟨xf,xfc,xd,xdc,xs⟩=e→e≠0→er=e:=fun e h h0=>by
     have:=chk_bad HX.out h h0;rw[HC.out.2.2]at this;rw[←HR0.out,this]
    have HBad:=Lib.hid hbad;clear hbad;by_cases hA:0≤xf∧xf<(rs.length:Int)
    ·
     have HWa:=Lib.hid (fun w=>nwithin_b xf rs.length true (Lib.hid (decide_eq_true hA)) w);obtain⟨fi,rfl⟩: ∃ fi:Nat,xf=fi:=⟨xf.toNat,by omega⟩;have hfi:fi<rs.length:=by omega
     clear hA;go_wp2_with fail;refine(HWa.out w4).mono ?_;rintro e w5 ⟨rfl,rfl⟩;by_cases hBB:0≤xd∧xd<(rs.length:Int)
     ·
      have HWb:=Lib.hid (fun w=>nwithin_b xd rs.length true (Lib.hid (decide_eq_true hBB)) w);obtain⟨di,rfl⟩: ∃ di:Nat,xd=di:=⟨xd.toNat,by omega⟩;have hdi:di<rs.length:=by omega
      clear hBB;go_wp2_with fail;refine(HWb.out w4).mono ?_;rintro e w5 ⟨rfl,rfl⟩;by_cases hCC:fi=di
      ·
       have HE:=Lib.hid (HBad.out 9 (by unfold linkErr netwithin;rw[if_pos (by simp[hCC])]) (by decide));have e1:((fi:Int)==(di:Int))=true:=by rw[hCC];simp
       go_wp2_with fail;refine(nof_c 3 k 9 w4).mono ?_;rintro e w9 ⟨rfl,b9⟩;have H9:=Lib.hid (And.intro (blk_bl HZ4.out.2.1 b9) (bl_next HZ4.out.2.2 b9));obtain⟨c0,c1,c2,f0,f1,f2⟩:=res_cells H9.out.1;clear b9;go_wp2_with fail;obtain⟨PP,QQ⟩:=res_put H9.out.1 H9.out.2 (Nat.le_succ _) (.int .i64 3) (.int .i64 k) (.int .i64 9);refine bodyPost_ret (results_cell_row rfl _ _ (w.heap.size+1) 186 _ (0,0) _ rfl PP Tryz.underlying186 rfl (by kernel_rfl)) rfl ?_;exact⟨⟨3,k,by rw[HE.out]⟩,QQ⟩
      ·
       have e1:((fi:Int)==(di:Int))=false:=by rw[beq_eq_false_iff_ne];omega
       obtain⟨b2,o2,ra,rfl,-,hra,hca⟩:=HRd.out.runs.sl.get (k:=fi) hfi HZ4.out.2.2 hB;obtain⟨b2',o2',rb,hsm,-,hrb,hcb⟩:=HRd.out.runs.sl.get (k:=di) hdi HZ4.out.2.2 hB;simp only[Option.some.injEq,Addr.mk.injEq,and_true]at hsm;obtain⟨rfl,rfl⟩:=hsm;have ra7:w4.cell? ⟨b2,o2+fi*8+7,none⟩=some ra.v:=hca 7 _ rfl;have rb7:w4.cell? ⟨b2,o2+di*8+7,none⟩=some rb.v:=hcb 7 _ rfl;have hrai:n.runs[fi]? =some ra.r:=by rw[HRd.out.same,List.getElem?_map,hra];rfl
       have hrbi:n.runs[di]? =some rb.r:=by rw[HRd.out.same,List.getElem?_map,hrb];rfl
       have HRA:=Lib.hid (And.intro hrai (And.intro (HRd.out.runs.calls ra (List.mem_of_getElem? hra)) (HRC.out ra (List.mem_of_getElem? hra))));have HRB:=Lib.hid (And.intro hrbi (And.intro (HRd.out.runs.calls rb (List.mem_of_getElem? hrb)) (HRC.out rb (List.mem_of_getElem? hrb))));obtain⟨ra,rav⟩:=ra;obtain⟨rb,rbv⟩:=rb;simp only at HRA HRB ra7 rb7;obtain⟨aa,ka,rfl,-,-⟩:=HRA.out.2.1.val;obtain⟨ab,kb,rfl,-,-⟩:=HRB.out.2.1.val;have hfiI:(fi:Int)<(rs.length:Int):=by omega
       have hdiI:(di:Int)<(rs.length:Int):=by omega
       have hfi0:(0:Int)≤fi:=by omega
       have hdi0:(0:Int)≤di:=by omega
       have hla:(ra.calls.length:Int)≤100000:=by have:=HRA.out.2.2;omega
       have hlb:(rb.calls.length:Int)≤100000:=by have:=HRB.out.2.2;omega
       have HAt:=Lib.hid (linkErr_at (pre:=n.links.take k) (l:=⟨fi,xfc,di,xdc,xs⟩) rfl rfl (by simp only;omega) HRA.out.1 HRB.out.1);simp only at HAt;clear hra hca hrb hcb hrai hrbi;go_upto_region 10 with fail
       go_quiet (fail)
       go_upto_region 11 with fail
       have B5:Bl w4 (w4.drewN nq):=bl_drewN (bl_refl _) _;generalize w4.drewN nq=w5 at B5 ⊢
       have HB5:=Lib.hid (And.intro (bl_next HB4.out.1 B5) (blk_bl HB4.out.2 B5));have HZ5:=Lib.hid (And.intro (blk_bl HZ4.out.1 B5) (And.intro (blk_bl HZ4.out.2.1 B5) (bl_next HZ4.out.2.2 B5)));have hb5:=HB5.out.2;clear B5 n2 p0 p1 p2 p3 p4 ra7 rb7 e1 HWa HWb;have p0:w5.cell? ⟨wr.heap.size,0,none⟩=some (.int .i64 fi):=blk_cell hb5 0 _ rfl;have p1:w5.cell? ⟨wr.heap.size,1,none⟩=some (.int .i64 xfc):=blk_cell hb5 1 _ rfl;have p2:w5.cell? ⟨wr.heap.size,2,none⟩=some (.int .i64 di):=blk_cell hb5 2 _ rfl;have p3:w5.cell? ⟨wr.heap.size,3,none⟩=some (.int .i64 xdc):=blk_cell hb5 3 _ rfl;have p4:w5.cell? ⟨wr.heap.size,4,none⟩=some (.bool xs):=blk_cell hb5 4 _ rfl;clear hb5;by_cases hD:0≤xfc∧xfc<(ra.calls.length:Int)
       ·
        have HWa:=Lib.hid (fun w=>nwithin_b xfc ra.calls.length true (Lib.hid (decide_eq_true hD)) w);obtain⟨pi,rfl⟩: ∃ pi:Nat,xfc=pi:=⟨xfc.toNat,by omega⟩;have hpi:pi<ra.calls.length:=by omega
        clear hD;go_wp2_with fail;refine(HWa.out w5).mono ?_;rintro e w6 ⟨rfl,rfl⟩;by_cases hEE:0≤xdc∧xdc<(rb.calls.length:Int)
        ·
         have HWb:=Lib.hid (fun w=>nwithin_b xdc rb.calls.length true (Lib.hid (decide_eq_true hEE)) w);obtain⟨qi,rfl⟩: ∃ qi:Nat,xdc=qi:=⟨xdc.toNat,by omega⟩;have hqi:qi<rb.calls.length:=by omega
         clear hEE;go_wp2_with fail;refine(HWb.out w5).mono ?_;rintro e w6 ⟨rfl,rfl⟩;obtain⟨b3,o3,cx,rfl,-,hcx,hcxc⟩:=HRA.out.2.1.get (k:=pi) hpi HZ5.out.2.2 hB;obtain⟨b4,o4,cy,rfl,-,hcy,hcyc⟩:=HRB.out.2.1.get (k:=qi) hqi HZ5.out.2.2 hB;have HIn:=Lib.hid (linkErr_in (pre:=n.links.take k) (l:=⟨fi,pi,di,qi,xs⟩) rfl rfl (by simp only;omega) HRA.out.1 HRB.out.1 rfl rfl hcx hcy);simp only at HIn;have s0:w5.cell? ⟨b3,o3+pi*5,none⟩=some (.int .i64 cx.stop):=hcxc 0 _ rfl;have s1:w5.cell? ⟨b4,o4+qi*5,none⟩=some (.int .i64 cy.stop):=hcyc 0 _ rfl;have HS:=Lib.hid (And.intro s0 s1);have hok:fourkOk (fourKey ⟨fi,pi,di,qi,xs⟩):=by
          refine⟨?_, ?_, ?_, ?_⟩<;>simp only[fourKey,isInt]<;>omega
         have HOK:=Lib.hid hok;clear hcx hcxc hcy hcyc s0 s1 hok HWa HWb HAt;go_upto_region 14 with fail
         have Bk:Bl w5 (w5.alloc (.cells #[.int .i64 fi, .int .i64 pi, .int .i64 di, .int .i64 qi] 218)):=bl_alloc (bl_refl _) _;have hbk:=heap_alloc_new w5 (.cells #[.int .i64 fi, .int .i64 pi, .int .i64 di, .int .i64 qi] 218);change Code.wp _ _ _ _ (w5.alloc (.cells #[.int .i64 fi, .int .i64 pi, .int .i64 di, .int .i64 qi] 218));generalize w5.alloc (.cells #[.int .i64 fi, .int .i64 pi, .int .i64 di, .int .i64 qi] 218)=w6 at Bk hbk ⊢
         have HB6:=Lib.hid (And.intro (bl_next HB5.out.1 Bk) (And.intro (blk_bl HB5.out.2 Bk) hbk));have HZ6:=Lib.hid (And.intro (blk_bl HZ5.out.1 Bk) (And.intro (blk_bl HZ5.out.2.1 Bk) (bl_next HZ5.out.2.2 Bk)));have s0:w6.cell? ⟨b3,o3+pi*5,none⟩=some (.int .i64 cx.stop):=((bl_cell Bk).1 _ _ (World.block_lt_of_cell? _ _ HS.out.1)).trans HS.out.1;have s1:w6.cell? ⟨b4,o4+qi*5,none⟩=some (.int .i64 cy.stop):=((bl_cell Bk).1 _ _ (World.block_lt_of_cell? _ _ HS.out.2)).trans HS.out.2;have hb6:=HB6.out.2.1;have hk6:=HB6.out.2.2;clear Bk hbk p0 p1 p2 p3 p4;have p0:w6.cell? ⟨wr.heap.size,0,none⟩=some (.int .i64 fi):=blk_cell hb6 0 _ rfl;have p1:w6.cell? ⟨wr.heap.size,1,none⟩=some (.int .i64 pi):=blk_cell hb6 1 _ rfl;have p2:w6.cell? ⟨wr.heap.size,2,none⟩=some (.int .i64 di):=blk_cell hb6 2 _ rfl;have p3:w6.cell? ⟨wr.heap.size,3,none⟩=some (.int .i64 qi):=blk_cell hb6 3 _ rfl;have p4:w6.cell? ⟨wr.heap.size,4,none⟩=some (.bool xs):=blk_cell hb6 4 _ rfl;clear hb6 hk6;have hfI:isInt (fi:Int):=HOK.out.1;have hdI:isInt (di:Int):=HOK.out.2.2.1;obtain⟨nx,hnx⟩: ∃ nx,nextL (n.links.take k) (fi:Int)=nx:=⟨_,rfl⟩;have hlk:=(HM.out.2.1.bl HB6.out.1).look_ok Th.int_law Tryz.underlying216 (z:= .int .i64 0) (by kernel_rfl) (Th.key_int hfI);rw[HM.out.1 _ hfI,hnx]at hlk;have hlk2:(Instr.lookup 216 (.map (some (w.heap.size+2))) (.int .i64 fi) true).run Tryz.prog w6= .ok (.tuple #[.int .i64 (nx.getD 0), .bool nx.isSome]) w6:=by
          rw[hlk];cases nx<;>rfl
         have HNX:=Lib.hid hnx;have HD:=Lib.hid (And.intro hfI hdI);clear hlk hnx hfI hdI;go_upto_region 15 with fail
         clear hlk2;by_cases hst:cx.stop=cy.stop
         ·
          have e1:(cx.stop != cy.stop)=false:=by rw[hst];simp
          have HIn2:=Lib.hid (HIn.out.trans (if_neg (fun q=>q hst)));clear HIn hst;go_quiet (fail)
          go_upto_region 17 with fail
          have B7:Bl w6 (w6.drewN nq):=bl_drewN (bl_refl _) _;generalize w6.drewN nq=w7 at B7 ⊢
          have HB7:=Lib.hid (And.intro (bl_next HB6.out.1 B7) (And.intro (blk_bl HB6.out.2.1 B7) (blk_bl HB6.out.2.2 B7)));have HZ7:=Lib.hid (And.intro (blk_bl HZ6.out.1 B7) (And.intro (blk_bl HZ6.out.2.1 B7) (bl_next HZ6.out.2.2 B7)));have hb7:=HB7.out.2.1;have hk7:=HB7.out.2.2;clear B7 s0 s1 e1 p0 p1 p2 p3 p4;have p0:w7.cell? ⟨wr.heap.size,0,none⟩=some (.int .i64 fi):=blk_cell hb7 0 _ rfl;have p1:w7.cell? ⟨wr.heap.size,1,none⟩=some (.int .i64 pi):=blk_cell hb7 1 _ rfl;have p2:w7.cell? ⟨wr.heap.size,2,none⟩=some (.int .i64 di):=blk_cell hb7 2 _ rfl;have p3:w7.cell? ⟨wr.heap.size,3,none⟩=some (.int .i64 qi):=blk_cell hb7 3 _ rfl;have p4:w7.cell? ⟨wr.heap.size,4,none⟩=some (.bool xs):=blk_cell hb7 4 _ rfl;have q0:w7.cell? ⟨w5.heap.size,0,none⟩=some (.int .i64 fi):=blk_cell hk7 0 _ rfl;have q1:w7.cell? ⟨w5.heap.size,1,none⟩=some (.int .i64 pi):=blk_cell hk7 1 _ rfl;have q2:w7.cell? ⟨w5.heap.size,2,none⟩=some (.int .i64 di):=blk_cell hk7 2 _ rfl;have q3:w7.cell? ⟨w5.heap.size,3,none⟩=some (.int .i64 qi):=blk_cell hk7 3 _ rfl;clear hb7 hk7;have hOS:=HM.out.2.2.2.2.2.bl HB7.out.1;have hl3:=hOS.look fourk_law Tryz.underlying217 Tryz.underlying4 (zero_bool w7) (KG _ HOK.out);obtain⟨dp,hdp⟩: ∃ dp,((n.links.take k).any fun y=>y.frm==(fi:Int)&&(y.frmC==(pi:Int)&&(y.dst==(di:Int)&&y.dstC==(qi:Int))))=dp:=⟨_,rfl⟩;have hany:=fourKey_any (n.links.take k) ⟨fi,pi,di,qi,xs⟩ HM.out.2.2.2.2.1 HOK.out;simp only at hany;rw[hdp]at hany;rw[←hany]at hl3;change(Instr.lookup 217 (.map (some (w.heap.size+2+1+1))) (.agg #[.int .i64 fi, .int .i64 pi, .int .i64 di, .int .i64 qi]) false).run Tryz.prog w7=_ at hl3;have HDP:=Lib.hid hdp;have HL3:=Lib.hid hl3;clear hOS hl3 hany hdp;rw[HDP.out]at HIn2;cases xs with
          |false=>
           have HIn3:=Lib.hid (HIn2.out.trans (if_neg (fun q=>by cases q.1)));have hl3:=HL3.out;clear HIn2;cases dp with
           |true=>
            have HE:=Lib.hid (HBad.out 6 (HIn3.out.trans (if_pos rfl)) (by decide));go_wp2_with fail;refine(nof_c 3 k 6 w7).mono ?_;rintro e w9 ⟨rfl,b9⟩;have H9:=Lib.hid (And.intro (blk_bl HZ7.out.2.1 b9) (bl_next HZ7.out.2.2 b9));obtain⟨c0,c1,c2,f0,f1,f2⟩:=res_cells H9.out.1;clear b9;go_wp2_with fail;obtain⟨PP,QQ⟩:=res_put H9.out.1 H9.out.2 (Nat.le_succ _) (.int .i64 3) (.int .i64 k) (.int .i64 6);refine bodyPost_ret (results_cell_row rfl _ _ (w.heap.size+1) 186 _ (0,0) _ rfl PP Tryz.underlying186 rfl (by kernel_rfl)) rfl ?_;exact⟨⟨3,k,by rw[HE.out]⟩,QQ⟩
           |false=>
            have hnext:=(chk_good HX.out (HIn3.out.trans (if_neg (by decide)))).symm.trans HC.out.2.2;have hOS:=HM.out.2.2.2.2.2.bl HB7.out.1;obtain⟨wp,hrun,OP,gp⟩:=hOS.put fourk_law Tryz.underlying217 Tryz.underlying4 (by unfold maxLen;have:=HF.out;omega) (KG _ HOK.out);have hset:=fourkSet_snoc KG HM.out.2.2.2.2.1 HOK.out;have htk:(n.links.take (k+1)).map fourKey=(n.links.take k).map fourKey++[fourKey ⟨fi,pi,di,qi,false⟩]:=by rw[take_snoc_at HX.out,List.map_append];rfl
            rw[←htk]at hset;change(Instr.mapUpdate 217 (.map (some (w.heap.size+2+1+1))) (.agg #[.int .i64 fi, .int .i64 pi, .int .i64 di, .int .i64 qi]) (.bool true)).run Tryz.prog w7=_ at hrun;have hz7:=HB7.out.1.size;have zw:=HW.out.2.2.size;have l2:=HM.out.2.1.lt;have l3:=HM.out.2.2.2.1.lt;have l4:=HM.out.2.2.2.2.2.lt;have g2:=(HM.out.2.1.bl HB7.out.1).kept (gp.block (w.heap.size+2) (by omega) (by simp));have g3:=(HM.out.2.2.2.1.bl HB7.out.1).kept (gp.block (w.heap.size+3) (by omega) (by simp));have g0:wp.heap[w.heap.size]? =_:=(gp.block _ (by omega) (fun e=>by simp only[Option.some.injEq]at e;omega)).trans HZ7.out.1;have g1:wp.heap[w.heap.size+1]? =_:=(gp.block _ (by omega) (fun e=>by simp only[Option.some.injEq]at e;omega)).trans HZ7.out.2.1;have hbp:Bl w wp:=HZ7.out.2.2.grown gp (by omega) (fun q hq=>by simp only[Option.some.injEq]at hq;omega);have p4:wp.cell? ⟨wr.heap.size,4,none⟩=some (.bool false):=gp.cell p4 (fun e=>by simp only[Option.some.injEq]at e;omega);have hnm:=HM.out.1.skip (l:=⟨fi,pi,di,qi,false⟩) rfl;have his:=HM.out.2.2.1.skip (l:=⟨fi,pi,di,qi,false⟩) rfl;have hrk: ∃ len,Ranked (n.links.take (k+1)) (2 ^ (k+1)) len:=by
             obtain⟨len,hl⟩:=HC.out.1;rw[take_snoc_at HX.out,Nat.pow_succ,Nat.mul_comm];exact⟨len,hl.plain rfl⟩
            have hin: ∀ a c,nextL (n.links.take (k+1)) a=some c→isInt c:=fun a c h=>by
             rw[take_snoc_at HX.out,nextL_snoc]at h;cases hn:nextL (n.links.take k) a with
             |some d=>rw[hn]at h;simp only[Option.some.injEq]at h;exact h ▸ HC.out.2.1 a d hn
             |none=>rw[hn]at h;simp at h
            rw[←take_snoc_at HX.out]at hnm his;have HPa:=Lib.hid (And.intro hnm (And.intro (g2.mono (Nat.le_succ k)) (And.intro his (And.intro (g3.mono (Nat.le_succ k)) (And.intro hset OP)))));have HPb:=Lib.hid (And.intro hrk (And.intro hin hnext));have HPc:=Lib.hid (And.intro g0 (And.intro g1 hbp));have zp4:=World.block_lt_of_cell? _ _ p4;clear hOS OP gp hset htk hnext hz7 zw l2 l3 l4 g2 g3 g0 g1 hbp hnm his hrk hin;go_wp2_with fail;exact⟨⟨k+1,_,_,_,⟨by omega,by go_num⟩,HPa,HPb,HPc⟩,by simp only[intOf];omega⟩
          |true=>
           have htl:(n.links.take k).length=k:=by rw[List.length_take];omega
           have hlaw:=HIn2.out;rw[htl]at hlaw;have HLaw:=Lib.hid hlaw;clear hlaw HIn2 htl;have hfin:fi≤100000:=by omega
           by_cases g1:(pi:Int)+1=(ra.calls.length:Int)
           ·
            have e1:((pi:Int)+1 != (ra.calls.length:Int))=false:=by rw[g1];simp
            by_cases g2:(qi:Int)=0
            ·
             have e2:((qi:Int) != 0)=false:=by rw[g2];simp
             have G2:=Lib.hid g2;have G1:=Lib.hid g1;clear g1 g2;cases nx with
             |some c=>
              have HE:=Lib.hid (HBad.out 19 (HLaw.out.trans (if_pos ⟨(by trivial), .inr (.inr (.inl (by rw[HNX.out];rfl)))⟩)) (by decide));simp only[Option.isSome_some];go_wp2_with fail;refine(nof_c 3 k 19 w7).mono ?_;rintro e w9 ⟨rfl,b9⟩;have H9:=Lib.hid (And.intro (blk_bl HZ7.out.2.1 b9) (bl_next HZ7.out.2.2 b9));obtain⟨c0,c1,c2,f0,f1,f2⟩:=res_cells H9.out.1;clear b9;go_wp2_with fail;obtain⟨PP,QQ⟩:=res_put H9.out.1 H9.out.2 (Nat.le_succ _) (.int .i64 3) (.int .i64 k) (.int .i64 19);refine bodyPost_ret (results_cell_row rfl _ _ (w.heap.size+1) 186 _ (0,0) _ rfl PP Tryz.underlying186 rfl (by kernel_rfl)) rfl ?_;exact⟨⟨3,k,by rw[HE.out]⟩,QQ⟩
             |none=>
              simp only[Option.isSome_none];obtain⟨im,him⟩: ∃ im,((n.links.take k).any fun y=>y.stay&&y.dst==(di:Int))=im:=⟨_,rfl⟩;have hl4:=(HM.out.2.2.2.1.bl HB7.out.1).look Th.int_law Tryz.underlying128 Tryz.underlying4 (zero_bool w7) (Th.key_int HD.out.2);rw[HM.out.2.2.1 _ HD.out.2,him]at hl4;change(Instr.lookup 128 (.map (some (w.heap.size+2+1))) (.int .i64 di) false).run Tryz.prog w7=_ at hl4;have HIM:=Lib.hid him;clear him;cases im with
              |true=>
               have HE:=Lib.hid (HBad.out 19 (HLaw.out.trans (if_pos ⟨(by trivial), .inr (.inr (.inr (.inl HIM.out)))⟩)) (by decide));go_wp2_with fail;refine(nof_c 3 k 19 w7).mono ?_;rintro e w9 ⟨rfl,b9⟩;have H9:=Lib.hid (And.intro (blk_bl HZ7.out.2.1 b9) (bl_next HZ7.out.2.2 b9));obtain⟨c0,c1,c2,f0,f1,f2⟩:=res_cells H9.out.1;clear b9;go_wp2_with fail;obtain⟨PP,QQ⟩:=res_put H9.out.1 H9.out.2 (Nat.le_succ _) (.int .i64 3) (.int .i64 k) (.int .i64 19);refine bodyPost_ret (results_cell_row rfl _ _ (w.heap.size+1) 186 _ (0,0) _ rfl PP Tryz.underlying186 rfl (by kernel_rfl)) rfl ?_;exact⟨⟨3,k,by rw[HE.out]⟩,QQ⟩
              |false=>
               obtain⟨lv,hlv⟩: ∃ lv,leadsN (n.links.take k) (fi:Int) (2 ^ k) (di:Int)=lv:=⟨_,rfl⟩;have HLd:Hid (Calls Tryz.prog 125 #[.map (some (w.heap.size+2)), .int .i64 di, .int .i64 fi] w7 fun e w'=>e= .returned (.bool lv)∧w7=w'):=by
                obtain⟨len,hl⟩:=HC.out.1;have h:=leads_c (n.links.take k) (2 ^ k) len (Lib.hid hl) (w.heap.size+2) k G (Lib.hid HM.out.1) (Lib.hid HC.out.2.1) di fi HD.out.2 w7 (HM.out.2.1.bl HB7.out.1);rw[hlv]at h;exact h
               have HLV:=Lib.hid hlv;clear hlv;go_wp2_with fail;refine HLd.out.mono ?_;rintro e w8 ⟨rfl,rfl⟩;cases lv with
               |true=>
                have HE:=Lib.hid (HBad.out 19 (HLaw.out.trans (if_pos ⟨(by trivial), .inr (.inr (.inr (.inr HLV.out)))⟩)) (by decide));go_wp2_with fail;refine(nof_c 3 k 19 w7).mono ?_;rintro e w9 ⟨rfl,b9⟩;have H9:=Lib.hid (And.intro (blk_bl HZ7.out.2.1 b9) (bl_next HZ7.out.2.2 b9));obtain⟨c0,c1,c2,f0,f1,f2⟩:=res_cells H9.out.1;clear b9;go_wp2_with fail;obtain⟨PP,QQ⟩:=res_put H9.out.1 H9.out.2 (Nat.le_succ _) (.int .i64 3) (.int .i64 k) (.int .i64 19);refine bodyPost_ret (results_cell_row rfl _ _ (w.heap.size+1) 186 _ (0,0) _ rfl PP Tryz.underlying186 rfl (by kernel_rfl)) rfl ?_;exact⟨⟨3,k,by rw[HE.out]⟩,QQ⟩
               |false=>
                have HIn3:=Lib.hid (HLaw.out.trans (if_neg (fun q=>by
                 obtain⟨-,q|q|q|q|q⟩:=q
                 · exact q G1.out
                 · exact q G2.out
                 · rw[HNX.out]at q;cases q
                 · rw[HIM.out]at q;cases q
                 · rw[HLV.out]at q;cases q)))
                have hl3:=HL3.out;clear HLd;cases dp with
                |true=>
                 have HE:=Lib.hid (HBad.out 6 (HIn3.out.trans (if_pos rfl)) (by decide));go_wp2_with fail;refine(nof_c 3 k 6 w7).mono ?_;rintro e w9 ⟨rfl,b9⟩;have H9:=Lib.hid (And.intro (blk_bl HZ7.out.2.1 b9) (bl_next HZ7.out.2.2 b9));obtain⟨c0,c1,c2,f0,f1,f2⟩:=res_cells H9.out.1;clear b9;go_wp2_with fail;obtain⟨PP,QQ⟩:=res_put H9.out.1 H9.out.2 (Nat.le_succ _) (.int .i64 3) (.int .i64 k) (.int .i64 6);refine bodyPost_ret (results_cell_row rfl _ _ (w.heap.size+1) 186 _ (0,0) _ rfl PP Tryz.underlying186 rfl (by kernel_rfl)) rfl ?_;exact⟨⟨3,k,by rw[HE.out]⟩,QQ⟩
                |false=>
                 have hnext:=(chk_good HX.out (HIn3.out.trans (if_neg (by decide)))).symm.trans HC.out.2.2;have hOS:=HM.out.2.2.2.2.2.bl HB7.out.1;obtain⟨wp,hrun,OP,gp⟩:=hOS.put fourk_law Tryz.underlying217 Tryz.underlying4 (by unfold maxLen;have:=HF.out;omega) (KG _ HOK.out);have hset:=fourkSet_snoc KG HM.out.2.2.2.2.1 HOK.out;have htk:(n.links.take (k+1)).map fourKey=(n.links.take k).map fourKey++[fourKey ⟨fi,pi,di,qi,true⟩]:=by rw[take_snoc_at HX.out,List.map_append];rfl
                 rw[←htk]at hset;change(Instr.mapUpdate 217 (.map (some (w.heap.size+2+1+1))) (.agg #[.int .i64 fi, .int .i64 pi, .int .i64 di, .int .i64 qi]) (.bool true)).run Tryz.prog w7=_ at hrun;have hz7:=HB7.out.1.size;have zw:=HW.out.2.2.size;have l2:=HM.out.2.1.lt;have l3:=HM.out.2.2.2.1.lt;have l4:=HM.out.2.2.2.2.2.lt;have zp:=gp.size;have g2':=(HM.out.2.1.bl HB7.out.1).kept (gp.block (w.heap.size+2) (by omega) (by simp));have g3':=(HM.out.2.2.2.1.bl HB7.out.1).kept (gp.block (w.heap.size+3) (by omega) (by simp));have g0:wp.heap[w.heap.size]? =_:=(gp.block _ (by omega) (fun e=>by simp only[Option.some.injEq]at e;omega)).trans HZ7.out.1;have g1':wp.heap[w.heap.size+1]? =_:=(gp.block _ (by omega) (fun e=>by simp only[Option.some.injEq]at e;omega)).trans HZ7.out.2.1;have hbp:Bl w wp:=HZ7.out.2.2.grown gp (by omega) (fun q hq=>by simp only[Option.some.injEq]at hq;omega);have p4:wp.cell? ⟨wr.heap.size,4,none⟩=some (.bool true):=gp.cell p4 (fun e=>by simp only[Option.some.injEq]at e;omega);have p0:wp.cell? ⟨wr.heap.size,0,none⟩=some (.int .i64 fi):=gp.cell p0 (fun e=>by simp only[Option.some.injEq]at e;omega);have p2:wp.cell? ⟨wr.heap.size,2,none⟩=some (.int .i64 di):=gp.cell p2 (fun e=>by simp only[Option.some.injEq]at e;omega);have bd:=bl_drew (bl_refl wp);obtain⟨wa,wab,wb,wba,ra1,ra2,rb1,rb2,ga,gb,gab,gba⟩:=two_puts (g2'.bl bd) (g3'.bl bd) (by omega) (by unfold maxLen;have:=HF.out;omega) HD.out.1 HD.out.2;have hlin: ∀ wx,Gr2 (w.heap.size+2) (w.heap.size+3) wp.drew wx→Bl w wx:=fun wx g=>⟨g.os.trans hbp.os,g.tape.trans hbp.tape,g.output.trans hbp.output,Nat.le_trans hbp.size g.size,fun q hq=>(g.block q (Nat.lt_of_lt_of_le hq hbp.size) (by omega) (by omega)).trans (hbp.block q hq)⟩
                 have hcl: ∀ wx,Gr2 (w.heap.size+2) (w.heap.size+3) wp.drew wx→wx.cell? ⟨wr.heap.size,0,none⟩=some (.int .i64 fi)∧wx.cell? ⟨wr.heap.size,2,none⟩=some (.int .i64 di):=fun wx g=>by
                  have hb:=g.block wr.heap.size (by show wr.heap.size<wp.heap.size;have:=HB7.out.1.size;have:=World.block_lt_of_cell? _ _ p4;omega) (by omega) (by omega);exact⟨(World.cell?_of_block (a:=⟨wr.heap.size,0,none⟩) hb).trans p0,(World.cell?_of_block (a:=⟨wr.heap.size,2,none⟩) hb).trans p2⟩
                 obtain⟨ya0,ya2⟩:=hcl wa ga;obtain⟨yb0,yb2⟩:=hcl wb gb;have hfx: ∀ wx,Gr2 (w.heap.size+2) (w.heap.size+3) wp.drew wx→wx.heap[w.heap.size]? =some (.cells #[.slice a0 n.stops.length k0, .slice a1 n.routes.length k1, .slice (some ⟨b2,o2,none⟩) rs.length k2, .slice (some ⟨b,o,none⟩) n.links.length k3, .slice a4 n.paths.length k4, .slice a5 n.fares.prods.length k5, .int .i64 n.fares.disc, .int .i64 n.fares.within, .int .i64 n.fares.cap] 54 (0,0))∧wx.heap[w.heap.size+1]? =some (.cells #[.int .i64 0, .int .i64 0, .int .i64 0] 186 (0,0))∧Bl w wx:=fun wx g=>
                  ⟨(g.block _ (by show w.heap.size<wp.heap.size;omega) (by omega) (by omega)).trans g0,(g.block _ (by show w.heap.size+1<wp.heap.size;omega) (by omega) (by omega)).trans g1',hlin wx g⟩
                 have hop: ∀ wx,Gr2 (w.heap.size+2) (w.heap.size+3) wp.drew wx→OwnsSet wx Tryz.prog 218 4 (w.heap.size+4) (k+1) (setPut Sf (gk (fourKey ⟨fi,pi,di,qi,true⟩))):=fun wx g=>
                  OP.kept (g.block _ (by show w.heap.size+4<wp.heap.size;omega) (by omega) (by omega))
                 have hnm:=HM.out.1.put (l:=⟨fi,pi,di,qi,true⟩) rfl HD.out.1 HNX.out;have his:=HM.out.2.2.1.put (l:=⟨fi,pi,di,qi,true⟩) rfl HD.out.2;have hrk: ∃ len,Ranked (n.links.take (k+1)) (2 ^ (k+1)) len:=by
                  obtain⟨len,hl⟩:=HC.out.1;rw[take_snoc_at HX.out,Nat.pow_succ,Nat.mul_comm];exact hl.snoc (l:=⟨fi,pi,di,qi,true⟩) HNX.out (by simp only;omega) HLV.out
                 have hin: ∀ a c,nextL (n.links.take (k+1)) a=some c→isInt c:=fun a c h=>by
                  rw[take_snoc_at HX.out,nextL_snoc]at h;cases hn:nextL (n.links.take k) a with
                  |some d=>rw[hn]at h;simp only[Option.some.injEq]at h;exact h ▸ HC.out.2.1 a d hn
                  |none=>
                   rw[hn]at h;simp only at h;split at h
                   · simp only[Option.some.injEq]at h;exact h ▸ HD.out.2
                   · cases h
                 rw[←take_snoc_at HX.out]at hnm his;have HPab:=Lib.hid (And.intro hnm (And.intro gab.1 (And.intro his (And.intro gab.2.1 (And.intro hset (hop wab gab.2.2))))));have HPba:=Lib.hid (And.intro hnm (And.intro gba.1 (And.intro his (And.intro gba.2.1 (And.intro hset (hop wba gba.2.2))))));have HPb:=Lib.hid (And.intro hrk (And.intro hin hnext));have HPcab:=Lib.hid (hfx wab gab.2.2);have HPcba:=Lib.hid (hfx wba gba.2.2);have zp4:=World.block_lt_of_cell? _ _ p4;clear hOS OP gp hset htk hnext hz7 zw l2 l3 l4 g2' g3' g0 g1' hbp hnm his hrk hin ga gb gab gba hlin hcl hfx hop bd;go_upto_region 23 with fail
                 go_region
                 all_goals
                  go_wp2_with fail;first
                  |exact⟨⟨k+1,_,_,_,⟨by omega,by go_num⟩,HPab,HPb,HPcab⟩,by simp only[intOf];omega⟩
                  |exact⟨⟨k+1,_,_,_,⟨by omega,by go_num⟩,HPba,HPb,HPcba⟩,by simp only[intOf];omega⟩
            ·
             have e2:((qi:Int) != 0)=true:=by rw[bne_iff_ne];exact g2
             have HE:=Lib.hid (HBad.out 19 (HLaw.out.trans (if_pos ⟨(by trivial), .inr (.inl g2)⟩)) (by decide));go_wp2_with fail;refine(nof_c 3 k 19 w7).mono ?_;rintro e w9 ⟨rfl,b9⟩;have H9:=Lib.hid (And.intro (blk_bl HZ7.out.2.1 b9) (bl_next HZ7.out.2.2 b9));obtain⟨c0,c1,c2,f0,f1,f2⟩:=res_cells H9.out.1;clear b9;go_wp2_with fail;obtain⟨PP,QQ⟩:=res_put H9.out.1 H9.out.2 (Nat.le_succ _) (.int .i64 3) (.int .i64 k) (.int .i64 19);refine bodyPost_ret (results_cell_row rfl _ _ (w.heap.size+1) 186 _ (0,0) _ rfl PP Tryz.underlying186 rfl (by kernel_rfl)) rfl ?_;exact⟨⟨3,k,by rw[HE.out]⟩,QQ⟩
           ·
            have e1:((pi:Int)+1 != (ra.calls.length:Int))=true:=by rw[bne_iff_ne];exact g1
            have HE:=Lib.hid (HBad.out 19 (HLaw.out.trans (if_pos ⟨(by trivial), .inl g1⟩)) (by decide));go_wp2_with fail;refine(nof_c 3 k 19 w7).mono ?_;rintro e w9 ⟨rfl,b9⟩;have H9:=Lib.hid (And.intro (blk_bl HZ7.out.2.1 b9) (bl_next HZ7.out.2.2 b9));obtain⟨c0,c1,c2,f0,f1,f2⟩:=res_cells H9.out.1;clear b9;go_wp2_with fail;obtain⟨PP,QQ⟩:=res_put H9.out.1 H9.out.2 (Nat.le_succ _) (.int .i64 3) (.int .i64 k) (.int .i64 19);refine bodyPost_ret (results_cell_row rfl _ _ (w.heap.size+1) 186 _ (0,0) _ rfl PP Tryz.underlying186 rfl (by kernel_rfl)) rfl ?_;exact⟨⟨3,k,by rw[HE.out]⟩,QQ⟩
         ·
          have e1:(cx.stop != cy.stop)=true:=by rw[bne_iff_ne];exact hst
          have HE:=Lib.hid (HBad.out 13 (HIn.out.trans (if_pos hst)) (by decide));clear hst;go_quiet (fail)
          go_upto_region 16 with fail
          have B7:Bl w6 (w6.drewN nq):=bl_drewN (bl_refl _) _;generalize w6.drewN nq=w7 at B7 ⊢
          have HZ7:=Lib.hid (And.intro (blk_bl HZ6.out.2.1 B7) (bl_next HZ6.out.2.2 B7));clear B7;go_wp2_with fail;refine(nof_c 3 k 13 w7).mono ?_;rintro e w9 ⟨rfl,b9⟩;have H9:=Lib.hid (And.intro (blk_bl HZ7.out.1 b9) (bl_next HZ7.out.2 b9));obtain⟨c0,c1,c2,f0,f1,f2⟩:=res_cells H9.out.1;clear b9;go_wp2_with fail;obtain⟨PP,QQ⟩:=res_put H9.out.1 H9.out.2 (Nat.le_succ _) (.int .i64 3) (.int .i64 k) (.int .i64 13);refine bodyPost_ret (results_cell_row rfl _ _ (w.heap.size+1) 186 _ (0,0) _ rfl PP Tryz.underlying186 rfl (by kernel_rfl)) rfl ?_;exact⟨⟨3,k,by rw[HE.out]⟩,QQ⟩
        ·
         have HWb:=Lib.hid (fun w=>nwithin_b xdc rb.calls.length false (Lib.hid (decide_eq_false hEE)) w);have HE:=Lib.hid (HBad.out 9 (HAt.out.trans (if_pos (by unfold netwithin;simp;omega))) (by decide));clear hEE;go_wp2_with fail;refine(HWb.out w5).mono ?_;rintro e w6 ⟨rfl,rfl⟩;go_wp2_with fail;refine(nof_c 3 k 9 w5).mono ?_;rintro e w9 ⟨rfl,b9⟩;have H9:=Lib.hid (And.intro (blk_bl HZ5.out.2.1 b9) (bl_next HZ5.out.2.2 b9));obtain⟨c0,c1,c2,f0,f1,f2⟩:=res_cells H9.out.1;clear b9;go_wp2_with fail;obtain⟨PP,QQ⟩:=res_put H9.out.1 H9.out.2 (Nat.le_succ _) (.int .i64 3) (.int .i64 k) (.int .i64 9);refine bodyPost_ret (results_cell_row rfl _ _ (w.heap.size+1) 186 _ (0,0) _ rfl PP Tryz.underlying186 rfl (by kernel_rfl)) rfl ?_;exact⟨⟨3,k,by rw[HE.out]⟩,QQ⟩
       ·
        have HWa:=Lib.hid (fun w=>nwithin_b xfc ra.calls.length false (Lib.hid (decide_eq_false hD)) w);have HE:=Lib.hid (HBad.out 9 (HAt.out.trans (if_pos (by unfold netwithin;simp;omega))) (by decide));clear hD;go_wp2_with fail;refine(HWa.out w5).mono ?_;rintro e w6 ⟨rfl,rfl⟩;go_wp2_with fail;refine(nof_c 3 k 9 w5).mono ?_;rintro e w9 ⟨rfl,b9⟩;have H9:=Lib.hid (And.intro (blk_bl HZ5.out.2.1 b9) (bl_next HZ5.out.2.2 b9));obtain⟨c0,c1,c2,f0,f1,f2⟩:=res_cells H9.out.1;clear b9;go_wp2_with fail;obtain⟨PP,QQ⟩:=res_put H9.out.1 H9.out.2 (Nat.le_succ _) (.int .i64 3) (.int .i64 k) (.int .i64 9);refine bodyPost_ret (results_cell_row rfl _ _ (w.heap.size+1) 186 _ (0,0) _ rfl PP Tryz.underlying186 rfl (by kernel_rfl)) rfl ?_;exact⟨⟨3,k,by rw[HE.out]⟩,QQ⟩
     ·
      have HWb:=Lib.hid (fun w=>nwithin_b xd rs.length false (Lib.hid (decide_eq_false hBB)) w);have HE:=Lib.hid (HBad.out 9 (by unfold linkErr netwithin;rw[if_pos (by simp;have:=HRl.out;omega)]) (by decide));clear hBB;go_wp2_with fail;refine(HWb.out w4).mono ?_;rintro e w5 ⟨rfl,rfl⟩;go_wp2_with fail;refine(nof_c 3 k 9 w4).mono ?_;rintro e w9 ⟨rfl,b9⟩;have H9:=Lib.hid (And.intro (blk_bl HZ4.out.2.1 b9) (bl_next HZ4.out.2.2 b9));obtain⟨c0,c1,c2,f0,f1,f2⟩:=res_cells H9.out.1;clear b9;go_wp2_with fail;obtain⟨PP,QQ⟩:=res_put H9.out.1 H9.out.2 (Nat.le_succ _) (.int .i64 3) (.int .i64 k) (.int .i64 9);refine bodyPost_ret (results_cell_row rfl _ _ (w.heap.size+1) 186 _ (0,0) _ rfl PP Tryz.underlying186 rfl (by kernel_rfl)) rfl ?_;exact⟨⟨3,k,by rw[HE.out]⟩,QQ⟩
    ·
     have HWa:=Lib.hid (fun w=>nwithin_b xf rs.length false (Lib.hid (decide_eq_false hA)) w);have HE:=Lib.hid (HBad.out 9 (by unfold linkErr netwithin;rw[if_pos (by simp;have:=HRl.out;omega)]) (by decide));clear hA;go_wp2_with fail;refine(HWa.out w4).mono ?_;rintro e w5 ⟨rfl,rfl⟩;go_wp2_with fail;refine(nof_c 3 k 9 w4).mono ?_;rintro e w9 ⟨rfl,b9⟩;have H9:=Lib.hid (And.intro (blk_bl HZ4.out.2.1 b9) (bl_next HZ4.out.2.2 b9));obtain⟨c0,c1,c2,f0,f1,f2⟩:=res_cells H9.out.1;clear b9;go_wp2_with fail;obtain⟨PP,QQ⟩:=res_put H9.out.1 H9.out.2 (Nat.le_succ _) (.int .i64 3) (.int .i64 k) (.int .i64 9);refine bodyPost_ret (results_cell_row rfl _ _ (w.heap.size+1) 186 _ (0,0) _ rfl PP Tryz.underlying186 rfl (by kernel_rfl)) rfl ?_;exact⟨⟨3,k,by rw[HE.out]⟩,QQ⟩
   ·
    obtain rfl:k=n.links.length:=by omega
    have hr0:er=0:=by
     rw[←HR0.out,←HC.out.2.2,chk_end (Nat.le_refl _)]
    have HE:=Lib.hid hr0;obtain⟨c0,c1,c2,f0,f1,f2⟩:=res_cells HW.out.2.1;clear hr0;go_wp2_with fail;obtain⟨PP,QQ⟩:=res_put HW.out.2.1 HW.out.2.2 (Nat.le_succ _) (.int .i64 0) (.int .i64 0) (.int .i64 0);refine bodyPost_ret (results_cell_row rfl _ _ (w.heap.size+1) 186 _ (0,0) _ rfl PP Tryz.underlying186 rfl (by kernel_rfl)) rfl ?_;exact⟨⟨0,0,by rw[HE.out]⟩,QQ⟩
end Go.Proofs.YtncbcmiflffakaaGreat
