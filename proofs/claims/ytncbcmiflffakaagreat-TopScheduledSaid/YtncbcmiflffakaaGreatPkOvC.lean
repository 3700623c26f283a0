/-
  What the laws of top need of TopOvC. Conditions: those of each lemma.
-/
import Derived.Test.YtncbcmiflffakaaGreatPkOvA
import Derived.Test.YtncbcmiflffakaaGreatPkFq
import Derived.Test.YtncbcmiflffakaaGreatPkRg
import Derived.Lib.MinMax
import Derived.Deep.QuietTactic
import Derived.Deep.DeepCutAuto
import Derived.BigQuiet
set_option maxRecDepth 1000000
set_option maxHeartbeats 32000000
namespace Go.Proofs.YtncbcmiflffakaaGreat
open Go.RowKit
open Frq Thr Tt
theorem ordered_bd: ∀ (l:List CallD) (last:Int),orderedF last l=true→0≤last→ ∀ c∈l,0≤c.arrive∧c.arrive≤c.depart∧c.depart≤3155932800
 |[],_,_,_,c,hc=>by simp at hc
 |x::l,last,h,h0,c,hc=>by
  unfold orderedF at h;simp only[Bool.and_eq_true,Bool.not_eq_true',Bool.or_eq_false_iff,decide_eq_false_iff_not]at h;obtain⟨⟨h1,h2,h3⟩,h4⟩:=h;rcases List.mem_cons.1 hc with rfl|hc
  · omega
  · exact ordered_bd l x.depart h4 (by omega) c hc
theorem ordered_c (v:Value) (l:List CallD) (hl:l.length≤1000) (B:Nat) (w:World) (hv:CallsIn B w v l) (hB:B≤w.heap.size):
  Calls Tryz.prog 142 #[v] w fun e w'=>e= .returned (.bool (orderedF 0 l))∧Bl w w':=by
 obtain⟨a,cap,rfl,-,-⟩:=hv.val;have HV:=Lib.hid hv;have hlI:(l.length:Int)≤1000:=by omega
 clear hv;go_enter Tryz.func142,Tryz.ntmps142
 go_wp2_with fail;go_loopw [3,8] (fun la i wr=> ∃ (k:Nat) (last:Int),(k≤l.length∧i= .int .i64 k∧la= .int .i64 last)∧Hid (orderedF 0 l=orderedF last (l.drop k)∧Bl w wr)) (fun _ i _=>l.length-(intOf i).toNat)
 case atStart=>exact⟨0,0,⟨Nat.zero_le _,rfl,rfl⟩,Lib.hid ⟨rfl,bl_refl _⟩⟩
 case round=>
  obtain⟨k,last,⟨hk,rfl,rfl⟩,HR⟩:=hrel;by_cases hlt:k<l.length
  ·
   have hltI:(k:Int)<(l.length:Int):=by omega
   obtain⟨b,o,x,rfl,hbB,hx,hcx⟩:=HV.out.get (k:=k) hlt HR.out.2 hB;have c0:wr.cell? ⟨b,o+k*5,none⟩=some (.int .i64 x.stop):=hcx 0 _ rfl;have c1:wr.cell? ⟨b,o+k*5+1,none⟩=some (.int .i64 x.arrive):=hcx 1 _ rfl;have c2:wr.cell? ⟨b,o+k*5+2,none⟩=some (.int .i64 x.depart):=hcx 2 _ rfl;have c3:wr.cell? ⟨b,o+k*5+3,none⟩=some (.bool x.board):=hcx 3 _ rfl;have c4:wr.cell? ⟨b,o+k*5+4,none⟩=some (.bool x.alight):=hcx 4 _ rfl;have hd:l.drop k=x::l.drop (k+1):=by
    obtain⟨h1,rfl⟩:=List.getElem?_eq_some_iff.1 hx;exact List.drop_eq_getElem_cons h1
   have hstep:orderedF 0 l=(!(decide (x.arrive<last)||(decide (x.depart<x.arrive)||decide (3155932800<x.depart)))&&orderedF x.depart (l.drop (k+1))):=by rw[HR.out.1,hd];rfl
   have HS:=Lib.hid hstep;have B1:=Lib.hid (bl_alloc HR.out.2 (.cells #[.int .i64 x.stop, .int .i64 x.arrive, .int .i64 x.depart, .bool x.board, .bool x.alight] 68));clear hd hstep hx hcx;by_cases h1:x.arrive<last
   ·
    have HF:=Lib.hid (show orderedF 0 l=false by rw[HS.out,decide_eq_true h1];rfl);go_wp2_with fail;go_ret;exact⟨ret_bool HF.out.symm,B1.out⟩
   ·
    by_cases h2:x.depart<x.arrive
    ·
     have HF:=Lib.hid (show orderedF 0 l=false by rw[HS.out,decide_eq_true h2];simp);go_wp2_with fail;go_ret;exact⟨ret_bool HF.out.symm,B1.out⟩
    ·
     by_cases h3:3155932800<x.depart
     ·
      have HF:=Lib.hid (show orderedF 0 l=false by rw[HS.out,decide_eq_true h3];simp);go_wp2_with fail;go_ret;exact⟨ret_bool HF.out.symm,B1.out⟩
     ·
      have HF:=Lib.hid (show orderedF 0 l=orderedF x.depart (l.drop (k+1)) by rw[HS.out,decide_eq_false h1,decide_eq_false h2,decide_eq_false h3];rfl);go_wp2_with fail;exact⟨⟨k+1,x.depart,⟨by omega,by go_num,rfl⟩,Lib.hid ⟨HF.out,B1.out⟩⟩,by simp only[intOf];omega⟩
  ·
   obtain rfl:k=l.length:=by omega
   have HF:=Lib.hid (show orderedF 0 l=true by rw[HR.out.1,List.drop_length];rfl);go_wp2_with fail;go_ret;exact⟨ret_bool HF.out.symm,HR.out.2⟩
theorem dwell_c (c:CallD) (h0:0≤c.arrive) (h1:c.arrive≤c.depart) (h2:c.depart≤3155932800) (w:World):
  Calls Tryz.prog 143 #[.agg #[.int .i64 c.stop, .int .i64 c.arrive, .int .i64 c.depart, .bool c.board, .bool c.alight]] w fun e w'=>e= .returned (.int .i64 (dwellP c))∧Bl w w':=by
 obtain⟨d,hd⟩: ∃ d,dwellP c=d:=⟨_,rfl⟩;have hm:min (c.depart-c.arrive) 30=d:=hd;rw[hd];clear hd;go_enter Tryz.func143,Tryz.ntmps143
 go_wp2_with fail;go_ret;exact⟨rfl,bl_alloc (bl_refl _) _⟩
theorem ocalls_c (v:Value) (l:List CallD) (h0:0<l.length) (hl:l.length≤1000) (B:Nat) (w:World) (hv:CallsIn B w v l) (hB:B≤w.heap.size):
  Calls Tryz.prog 127 #[v] w fun e w'=> ∃ v',e= .returned v'∧w'.ownsRow w.heap.size 68 5 v' l.length (l.flatMap callCells)∧Bl w w':=by
 obtain⟨i0,hi,hz0,hz1,hz2⟩:=info_parts info_call;obtain⟨b,o,cap,rfl,hl1,hl2,hbB,hcell⟩:=hv.open h0;have hlt:b<w.heap.size:=by omega
 have HCell:=Lib.hid hcell;clear hcell hv;go_enter Tryz.func127,Tryz.ntmps127
 go_wp2_with (refine wpList_make_full _ rfl _ _ 46 rfl w.heap.size 68 i0 (.agg #[.int .i64 0, .int .i64 0, .int .i64 0, .bool false, .bool false]) 5 Tryz.underlying46 hi hz0 hz1 .i64 .i64 _ _ l.length rfl rfl rfl rfl ?c1 ?c2 ?c3 ?_)
 case c1=>rw[hz2];omega
 case c2=>unfold maxLen;omega
 case c3=>simp
 intro w2 own2 gr2;have b2:Bl w w2:=(bl_refl w).grown gr2 (by simp) (fun k hk=>by cases hk);have HS:=Lib.hid (flat_cells (w:=w2) (b:=b) callCells_len l o (fun i x hx j u hu=>by rw[(bl_cell b2).1 _ _ hlt];exact HCell.out i x hx j u hu));have O2:=Lib.hid own2;have HB2:=Lib.hid b2;clear own2 gr2 b2;go_wp2_with (refine wpList_copy_whole rfl (.tmp 7) (.tmp 8) 46 46 rfl 68 Tryz.underlying46 5 Fq.callInfo w.heap.size w.heap.size l.length l.length cap ⟨b,o,none⟩ rfl rfl _ O2.out (l.flatMap callCells) (Fq.flat_len l) HS.out ?c4 ?_)
 case c4=>
  intro u hu;obtain⟨c,_,h⟩:=List.mem_flatMap.1 hu;exact call_one c u h
 intro w3 own3 gr3;have b3:Bl w w3:=HB2.out.grown gr3 HB2.out.size (fun k hk=>by cases hk;omega);have HO:=Lib.hid (And.intro own3 b3);clear own3 gr3 b3;go_wp2_with fail;go_ret;exact⟨_,rfl,HO.out⟩
theorem lateF_cons {a:Int} {c:CallD} {r:List CallD}:lateF a (c::r)=if 3155932800<max c.depart (a+dwellP c)then none else(lateF ((match r with|[]=>a|d::_=>d.arrive+max c.depart (a+dwellP c)-c.depart)) r).map (({ c with arrive:=a,depart:=max c.depart (a+dwellP c) }:CallD):: ·):=by
 conv=>lhs;unfold lateF
 split
 · rfl
 · cases lateF ((match r with|[]=>a|d::_=>d.arrive+max c.depart (a+dwellP c)-c.depart)) r<;>rfl
def beforeP (l:List CallD) (p:Nat):Int:=match p with
 |0=>0
 |k+1=>((l[k]?).map (·.depart)).getD 0
theorem propagate_at {l:List CallD} {p:Nat} {c:CallD} {secs:Int} (hc:l[p]? =some c) (h1: -43200≤secs∧secs≤43200) (h2:orderedF 0 l=true):
  propagateP l p secs=match lateF (max (c.arrive+secs) (beforeP l p)) (l.drop p)with
   |none=>([],10)
   |some r=>(l.take p++r,0):=by
 have hp:p<l.length:=(List.getElem?_eq_some_iff.1 hc).1;unfold propagateP beforeP;rw[if_neg (by omega),if_neg (by omega),if_neg (by rw[h2];decide),Int.toNat_natCast,hc];rfl
def LateL (l:List CallD) (p:Nat) (a0:Int) (k:Nat) (a:Int) (L:List CallD):Prop:=
 (k<p→L=l∧a=a0)∧(p≤k→ ∃ R,L=l.take p++R++l.drop k∧R.length+p=k∧(0≤a∧a≤6311865600)∧lateF a0 (l.drop p)=(lateF a (l.drop k)).map (R++ ·))
theorem LateL.len {l:List CallD} {p:Nat} {a0:Int} {k:Nat} {a:Int} {L:List CallD} (h:LateL l p a0 k a L) (hk:k≤l.length) (hp:p≤l.length):L.length=l.length:=by
 rcases Nat.lt_or_ge k p with h1|h1
 · rw[(h.1 h1).1]
 ·
  obtain⟨R,rfl,h2,-,-⟩:=h.2 h1;simp
  omega
theorem late_next {l:List CallD} {p k:Nat} {a0 a d a':Int} {x:CallD} {R0:List CallD} (hlw:lateF a0 (l.drop p)=(lateF a (l.drop k)).map (R0++ ·)) (hd:l.drop k=x::l.drop (k+1)) (hm:max x.depart (a+dwellP x)=d) (hM: ¬ 3155932800<d)
  (ha:(match l.drop (k+1)with|[]=>a|y::_=>y.arrive+d-x.depart)=a'):lateF a0 (l.drop p)=(lateF a' (l.drop (k+1))).map ((R0++[({ x with arrive:=a,depart:=d }:CallD)])++ ·):=by
 rw[hlw,hd,lateF_cons,hm,if_neg hM];rw[ha];cases lateF a' (l.drop (k+1))<;>simp
theorem late_stop {l:List CallD} {p k:Nat} {a0 a d:Int} {x:CallD} {R0:List CallD} (hlw:lateF a0 (l.drop p)=(lateF a (l.drop k)).map (R0++ ·)) (hd:l.drop k=x::l.drop (k+1)) (hm:max x.depart (a+dwellP x)=d) (hM:3155932800<d):lateF a0 (l.drop p)=none:=by
 rw[hlw,hd,lateF_cons,hm,if_pos hM];rfl
theorem dwell_bd {c:CallD} (h1:c.arrive≤c.depart):0≤dwellP c∧dwellP c≤30:=by
 unfold dwellP;omega
theorem propagate_c (v:Value) (l:List CallD) (at' secs:Int) (hl:l.length≤1000) (B:Nat) (w:World) (hv:CallsIn B w v l) (hB:B≤w.heap.size):
  Calls Tryz.prog 128 #[v, .int .i64 at', .int .i64 secs] w fun e w'=>(∃ v',e= .returned (.tuple #[v', .int .i64 (propagateP l at' secs).2])∧((propagateP l at' secs).2=0→w'.ownsRow w.heap.size 68 5 v' (propagateP l at' secs).1.length ((propagateP l at' secs).1.flatMap callCells)))∧Bl w w':=by
 obtain⟨i0,hi,hz0,hz1,hz2⟩:=info_parts info_call;obtain⟨a,cap,rfl,-,-⟩:=hv.val;have HV:=Lib.hid hv;have HOr:=Lib.hid (fun(w1:World) (h:Bl w w1)=>ordered_c (.slice a l.length cap) l hl B w1 (HV.out.below (h.mono hB)) (Nat.le_trans hB h.size));have hlI:(l.length:Int)≤1000:=by omega
 clear hv;obtain⟨R,hR⟩: ∃ R,propagateP l at' secs=R:=⟨_,rfl⟩;rw[hR];have HR:=Lib.hid hR;clear hR;by_cases h1:at'<0∨(l.length:Int)≤at'
 ·
  have HE:Hid (R=([],1)):=by rw[←HR.out];unfold propagateP;rw[if_pos h1];exact Lib.hid rfl
  rcases h1 with h1|h1
  ·
   go_enter Tryz.func128,Tryz.ntmps128
   go_wp2_with fail;go_ret2;exact⟨⟨_,(by rw[HE.out];rfl),fun h=>by rw[HE.out]at h;cases h⟩,bl_refl _⟩
  ·
   have h0: ¬ at'<0:=by omega
   go_enter Tryz.func128,Tryz.ntmps128
   go_wp2_with fail;go_ret2;exact⟨⟨_,(by rw[HE.out];rfl),fun h=>by rw[HE.out]at h;cases h⟩,bl_refl _⟩
 obtain⟨p,rfl⟩: ∃ p:Nat,at'=p:=⟨at'.toNat,by omega⟩;have hp:p<l.length:=by omega
 have hpI:(p:Int)<(l.length:Int):=by omega
 have hp0: ¬ (p:Int)<0:=by omega
 clear h1;by_cases h2:secs< -43200∨43200<secs
 ·
  have HE:Hid (R=([],2)):=by rw[←HR.out];unfold propagateP;rw[if_neg (by omega),if_pos h2];exact Lib.hid rfl
  rcases h2 with h2|h2
  ·
   go_enter Tryz.func128,Tryz.ntmps128
   go_wp2_with fail;go_ret2;exact⟨⟨_,(by rw[HE.out];rfl),fun h=>by rw[HE.out]at h;cases h⟩,bl_refl _⟩
  ·
   have h0: ¬ secs< -43200:=by omega
   go_enter Tryz.func128,Tryz.ntmps128
   go_wp2_with fail;go_ret2;exact⟨⟨_,(by rw[HE.out];rfl),fun h=>by rw[HE.out]at h;cases h⟩,bl_refl _⟩
 have hs1: ¬ secs< -43200:=by omega
 have hs2: ¬ 43200<secs:=by omega
 clear h2;obtain⟨ob,hob⟩: ∃ ob,orderedF 0 l=ob:=⟨_,rfl⟩;rw[hob]at HOr;have HOb:=Lib.hid hob;clear hob;cases ob with
 |false=>
  have HE:Hid (R=([],10)):=by rw[←HR.out];unfold propagateP;rw[if_neg (by omega),if_neg (by omega),if_pos HOb.out];exact Lib.hid rfl
  go_enter Tryz.func128,Tryz.ntmps128
  go_wp2_with fail;refine(HOr.out w (bl_refl _)).mono ?_;rintro e w1 ⟨rfl,b1⟩;have B1:=Lib.hid b1;clear b1;go_wp2_with fail;go_ret2;exact⟨⟨_,(by rw[HE.out];rfl),fun h=>by rw[HE.out]at h;cases h⟩,B1.out⟩
 |true=>
  have hbd:=ordered_bd l 0 HOb.out (Int.le_refl 0);have HBd:=Lib.hid hbd;obtain⟨b,o,c,rfl,hbB,hc,hcc⟩:=HV.out.get (k:=p) hp (bl_refl w) hB;have hcb:=hbd c (List.mem_of_getElem? hc);have HC:=Lib.hid hc;obtain⟨a0,ha0⟩: ∃ a0,max (c.arrive+secs) (beforeP l p)=a0:=⟨_,rfl⟩;have hbf:0≤beforeP l p∧beforeP l p≤3155932800:=by
   cases p with
   |zero=>exact⟨Int.le_refl _,by show(0:Int)≤_;omega⟩
   |succ k=>
    obtain⟨y,hy⟩: ∃ y,l[k]? =some y:=⟨_,List.getElem?_eq_getElem (by omega)⟩;have:=hbd y (List.mem_of_getElem? hy);have hbe:beforeP l (k+1)=y.depart:=by show((l[k]?).map (·.depart)).getD 0=_;rw[hy];rfl
    rw[hbe];omega
  have ha0b:0≤a0∧a0≤6311865600:=by omega
  have hlaw:=propagate_at (secs:=secs) hc (by omega) HOb.out;rw[ha0,HR.out]at hlaw;have HLaw:=Lib.hid hlaw;have HA0:=Lib.hid ha0b;clear hlaw hc hcc hbd ha0b;go_enter Tryz.func128,Tryz.ntmps128
  go_wp2_with fail;refine(HOr.out w (bl_refl _)).mono ?_;rintro e w1 ⟨rfl,b1⟩;have B1:=Lib.hid b1;have hbw:b<w.heap.size:=hbB;have hb1w:=b1.size;clear b1;go_wp2_with (refine wpList_make_full _ rfl _ _ 46 rfl w.heap.size 68 i0 (.agg #[.int .i64 0, .int .i64 0, .int .i64 0, .bool false, .bool false]) 5 Tryz.underlying46 hi hz0 hz1 .i64 .i64 _ _ l.length rfl rfl rfl rfl ?c1 ?c2 ?c3 ?_)
  case c1=>rw[hz2];omega
  case c2=>unfold maxLen;omega
  case c3=>omega
  intro w2 own2 gr2;have b2:Bl w w2:=B1.out.grown gr2 B1.out.size (fun k hk=>by cases hk);have hs:=HV.out.below (b2.mono hB);have HS:Hid (∀ j v,(l.flatMap callCells)[j]? =some v→w2.cell? ((⟨b,o,none⟩:Addr).add j)=some v):=by
   obtain⟨bx,ox,capx,hvx,-,-,-,hcx⟩:=hs.open (by omega);simp only[Value.slice.injEq,Option.some.injEq,Addr.mk.injEq,and_true,true_and]at hvx;obtain⟨⟨rfl,rfl⟩,rfl⟩:=hvx;exact flat_cells (w:=w2) (b:=b) callCells_len l o hcx
  have O2:=Lib.hid own2;have HB2:=Lib.hid b2;clear own2 gr2 b2 hs;go_wp2_with (refine wpList_copy_whole rfl (.tmp 36) (.tmp 37) 46 46 rfl 68 Tryz.underlying46 5 Fq.callInfo w.heap.size w1.heap.size l.length l.length cap ⟨b,o,none⟩ rfl rfl _ O2.out (l.flatMap callCells) (Fq.flat_len l) HS.out ?c4 ?_)
  case c4=>
   intro u hu;obtain⟨c,_,h⟩:=List.mem_flatMap.1 hu;exact call_one c u h
  intro w3 own3 gr3;have b3:Bl w w3:=HB2.out.grown gr3 HB2.out.size (fun k hk=>by cases hk;omega);have HO:=Lib.hid (And.intro own3 b3);clear own3 gr3 b3;go_upto_if 40 with fail
  go_cut [9] (fun s9 wx=>s9= .int .i64 (beforeP l p)∧Hid (wx.ownsRow w.heap.size 68 5 (.slice (some ⟨w1.heap.size,0,none⟩) l.length l.length) l.length (l.flatMap callCells)∧Bl w wx))
  case first=>
   cases p with
   |zero=>
    go_wp2_with fail;go_meet
    case rel=>exact⟨rfl,HO⟩
   |succ k=>
    obtain⟨bk,ok,y,hyo,hbk,hy,hcy⟩:=HV.out.get (k:=k) (by omega) HO.out.2 hB;simp only[Option.some.injEq,Addr.mk.injEq,and_true]at hyo;obtain⟨rfl,rfl⟩:=hyo;have y2:w3.cell? ⟨b,o+k*5+2,none⟩=some (.int .i64 y.depart):=hcy 2 _ rfl;have hbe:beforeP l (k+1)=y.depart:=by show((l[k]?).map (·.depart)).getD 0=_;rw[hy];rfl
    have HBe:=Lib.hid hbe;have hkw:IntKind.i64.wrap (k:Int)=(k:Int):=by simp[IntKind.wrap,IntKind.bits,IntKind.signed];omega
    have hkI:(k:Int)<(l.length:Int):=by omega
    clear hcy hy hbe;go_wp2_with fail;go_meet
    case rel=>exact⟨by rw[HBe.out],HO⟩
  case rest=>
   obtain⟨rfl,HO4⟩:=hcut;have hc1:wc.cell? ⟨b,o+p*5+1,none⟩=some (.int .i64 c.arrive):=by
    obtain⟨bk,ok,y,hyo,-,hy,hcy⟩:=HV.out.get (k:=p) hp HO4.out.2 hB;simp only[Option.some.injEq,Addr.mk.injEq,and_true]at hyo;obtain⟨rfl,rfl⟩:=hyo;obtain rfl:y=c:=Option.some.inj (hy.symm.trans HC.out);exact hcy 1 _ rfl
   go_upto_region 14 with fail
   clear hc1;go_loopw [10,58] (fun ar i wr=> ∃ (k:Nat) (a:Int) (L:List CallD),(k≤l.length∧i= .int .i64 k∧ar= .int .i64 a)∧Hid (LateL l p a0 k a L∧wr.ownsRow w.heap.size 68 5 (.slice (some ⟨w1.heap.size,0,none⟩) l.length l.length) l.length (L.flatMap callCells)∧Bl w wr)) (fun _ i _=>l.length-(intOf i).toNat)
   case atStart=>
    refine⟨0,a0,l,⟨Nat.zero_le _,rfl,rfl⟩,Lib.hid ⟨⟨fun _=>⟨rfl,rfl⟩,fun h=>?_⟩,HO4.out⟩⟩;obtain rfl:p=0:=by omega
    exact⟨[],by simp,rfl,HA0.out,by cases lateF a0 (l.drop 0)<;>rfl⟩
   case round=>
    obtain⟨k,a,L,⟨hk,rfl,rfl⟩,HL⟩:=hrel;by_cases hlt:k<l.length
    ·
     have hltI:(k:Int)<(l.length:Int):=by omega
     by_cases hkp:k<p
     ·
      have hkpI:(k:Int)<(p:Int):=by omega
      go_wp2_with fail;refine⟨⟨k+1,a,L,⟨by omega,by go_num,rfl⟩,Lib.hid ⟨⟨fun _=>HL.out.1.1 hkp,fun h=>?_⟩,HL.out.2⟩⟩,by simp only[intOf];omega⟩;obtain⟨rfl,rfl⟩:=HL.out.1.1 hkp;obtain rfl:p=k+1:=by omega
      exact⟨[],by simp,by simp,HA0.out,by cases lateF a (L.drop (k+1))<;>rfl⟩
     ·
      have hkpI: ¬ (k:Int)<(p:Int):=by omega
      obtain⟨R0,hL,hRl,hab,hlaw⟩:=HL.out.1.2 (by omega);obtain⟨bk,ok,x,hyo,hbk,hx,hcx⟩:=HV.out.get (k:=k) hlt HL.out.2.2 hB;simp only[Option.some.injEq,Addr.mk.injEq,and_true]at hyo;obtain⟨rfl,rfl⟩:=hyo;have c0:wr.cell? ⟨b,o+k*5,none⟩=some (.int .i64 x.stop):=hcx 0 _ rfl;have c1:wr.cell? ⟨b,o+k*5+1,none⟩=some (.int .i64 x.arrive):=hcx 1 _ rfl;have c2:wr.cell? ⟨b,o+k*5+2,none⟩=some (.int .i64 x.depart):=hcx 2 _ rfl;have c3:wr.cell? ⟨b,o+k*5+3,none⟩=some (.bool x.board):=hcx 3 _ rfl;have c4:wr.cell? ⟨b,o+k*5+4,none⟩=some (.bool x.alight):=hcx 4 _ rfl;have hd:l.drop k=x::l.drop (k+1):=by
       obtain⟨h1,rfl⟩:=List.getElem?_eq_some_iff.1 hx;exact List.drop_eq_getElem_cons h1
      have hA:(l.take p++R0).length=k:=by rw[List.length_append,List.length_take];omega
      have hL':L=(l.take p++R0)++x::l.drop (k+1):=by rw[hL,hd]
      have hLk:L[k]? =some x:=by rw[hL',List.getElem?_append_right (by omega),hA,Nat.sub_self];rfl
      have hxb:=HBd.out x (List.mem_of_getElem? hx);have hO:=HL.out.2.1;have hcl: ∀ j u,j<5→(callCells x)[j]? =some u→wr.cell? ⟨w1.heap.size,k*5+j,none⟩=some u:=fun j u hj hu=>by
       rw[World.ownsRow.cellAt hO (k*5+j) (by omega)];exact flat_get callCells_len hLk hu
      have g1:=hcl 1 _ (by decide) rfl;have g2:=hcl 2 _ (by decide) rfl;have f1:=World.ownsRow.frozenAt hO (k*5+1);have f2:=World.ownsRow.frozenAt hO (k*5+2);have hgw:w1.heap.size<wr.heap.size:=(World.ownsRow.lt hO _ rfl).2;have HX:=Lib.hid (And.intro hx (And.intro hd (And.intro hA (And.intro hL' hRl))));have HLw:=Lib.hid hlaw;clear hcx hd hA hL' hLk hlaw hx hO hcl hL hRl;go_upto_region 19 with fail
      have Z:Hid (∃ w5,w5=(wr.setCell ⟨w1.heap.size,k*5+1,none⟩ (.int .i64 a)).alloc (.cells #[.int .i64 x.stop, .int .i64 x.arrive, .int .i64 x.depart, .bool x.board, .bool x.alight] 68)∧w5.ownsRow w.heap.size 68 5 (.slice (some ⟨w1.heap.size,0,none⟩) l.length l.length) l.length ((L.flatMap callCells).set (k*5+1) (.int .i64 a))∧w5.heap[wr.heap.size]? =some (.cells #[.int .i64 x.stop, .int .i64 x.arrive, .int .i64 x.depart, .bool x.board, .bool x.alight] 68)∧Bl w w5):=by
       have h1:=World.ownsRow.stored HL.out.2.1 (k*5+1) (.int .i64 a);have h2:=heap_alloc_new (wr.setCell ⟨w1.heap.size,k*5+1,none⟩ (.int .i64 a)) (.cells #[.int .i64 x.stop, .int .i64 x.arrive, .int .i64 x.depart, .bool x.board, .bool x.alight] 68);rw[show(wr.setCell ⟨w1.heap.size,k*5+1,none⟩ (.int .i64 a)).heap.size=wr.heap.size by simp]at h2;exact⟨_,rfl,h1.1.alloc _,h2,bl_alloc (bl_set HL.out.2.2 B1.out.size _) _⟩
      obtain⟨w5,hw5,hO5,hb5,B5⟩:=Z.out;change Code.wp _ _ _ _ ((wr.setCell ⟨w1.heap.size,k*5+1,none⟩ (.int .i64 a)).alloc (.cells #[.int .i64 x.stop, .int .i64 x.arrive, .int .i64 x.depart, .bool x.board, .bool x.alight] 68));rw[←hw5];have H5:=Lib.hid (And.intro hO5 (And.intro hb5 B5));have hS: ∀ w9,Bl w5 w9→(w9.cell? ⟨wr.heap.size,0,none⟩=some (.int .i64 x.stop)∧w9.cell? ⟨wr.heap.size,1,none⟩=some (.int .i64 x.arrive)∧w9.cell? ⟨wr.heap.size,2,none⟩=some (.int .i64 x.depart)∧w9.cell? ⟨wr.heap.size,3,none⟩=some (.bool x.board)∧w9.cell? ⟨wr.heap.size,4,none⟩=some (.bool x.alight)):=fun w9 h=>by
       have hh:=blk_bl H5.out.2.1 h;exact⟨blk_cell hh 0 _ rfl,blk_cell hh 1 _ rfl,blk_cell hh 2 _ rfl,blk_cell hh 3 _ rfl,blk_cell hh 4 _ rfl⟩
      obtain⟨dw,hdw⟩: ∃ dw,dwellP x=dw:=⟨_,rfl⟩;have hdb:=dwell_bd hxb.2.1;have HDC:=Lib.hid (fun w=>dwell_c x hxb.1 hxb.2.1 hxb.2.2 w);rw[hdw]at hdb HDC;obtain⟨d,hdm⟩: ∃ d,max x.depart (a+dw)=d:=⟨_,rfl⟩;have HDM:=Lib.hid (show max x.depart (a+dwellP x)=d by rw[hdw];exact hdm);have hww:IntKind.i64.wrap (a+dw)=a+dw:=by simp[IntKind.wrap,IntKind.bits,IntKind.signed];omega
      clear hw5 hO5 hb5 B5 Z c0 c1 c2 c3 c4 g1 g2 f1 f2 hdw;refine startW (fun w9=>w9.cell? ⟨wr.heap.size,0,none⟩=some (.int .i64 x.stop)∧w9.cell? ⟨wr.heap.size,1,none⟩=some (.int .i64 x.arrive)∧w9.cell? ⟨wr.heap.size,2,none⟩=some (.int .i64 x.depart)∧w9.cell? ⟨wr.heap.size,3,none⟩=some (.bool x.board)∧w9.cell? ⟨wr.heap.size,4,none⟩=some (.bool x.alight)) 11 (hS _ (bl_drew (bl_refl _))) ?_;intro hHeld;obtain⟨wd,hwd⟩: ∃ wd,w5.drew=wd:=⟨_,rfl⟩;have Bd:Bl w5 wd:=by rw[←hwd];exact bl_drew (bl_refl _)
      rw[hwd]at hHeld ⊢;clear hwd;refine takeW 0 ?_;refine takeW 1 ?_;refine takeW 2 ?_;refine takeW 3 ?_;refine takeW 4 ?_;refine takeW 5 ?_;refine stepW 6 (fun KK hKK=>?_);go_simp;go_at_call 143
      refine(HDC.out _).mono ?_;rintro q w6 ⟨rfl,b6⟩;have B56:=bl_next Bd b6;refine hKK.out _ _ (hS _ B56) (fun hHeld=>?_);refine takeL 7 ?_;refine takeL 8 ?_;refine takeL 9 ?_;refine takeL 10 ?_;have hO6:=own_bl H5.out.1 B56;have hl6:((L.flatMap callCells).set (k*5+1) (.int .i64 a)).length=l.length*5:=hO6.1;have g2: ∃ u,w6.cell? ⟨w1.heap.size,k*5+2,none⟩=some u:=⟨_,(World.ownsRow.cellAt hO6 (k*5+2) (by omega)).trans (List.getElem?_eq_getElem (by omega))⟩;obtain⟨u2,g2⟩:=g2;have f2:=World.ownsRow.frozenAt hO6 (k*5+2);refine lastW (fun KK hKK=>?_);go_simp;refine hKK.out _ _ ?_;have hst:=World.ownsRow.stored hO6 (k*5+2) (.int .i64 d);have hlist:=Fq.flat_set2 (l.take p++R0) (l.drop (k+1)) x a d k HX.out.2.2.1;rw[←HX.out.2.2.2.1]at hlist;have hO7:=hst.1;rw[hlist]at hO7;have hb6:=blk_bl H5.out.2.1 B56;have hne:wr.heap.size≠w1.heap.size:=by omega
      have hb7:=(hst.2.block wr.heap.size (lt_of_block hb6) (fun e=>hne (Option.some.inj e))).trans hb6;have B7:Bl w (w6.setCell ⟨w1.heap.size,k*5+2,none⟩ (.int .i64 d)):=bl_set (bl_next H5.out.2.2 B56) B1.out.size _;generalize w6.setCell ⟨w1.heap.size,k*5+2,none⟩ (.int .i64 d)=w7 at hO7 hb7 B7 ⊢
      have H7:=Lib.hid (And.intro hO7 (And.intro hb7 B7));have o2:w7.cell? ⟨w1.heap.size,k*5+2,none⟩=some (.int .i64 d):=by
       rw[World.ownsRow.cellAt hO7 (k*5+2) (by omega)];have hk2:((l.take p++R0)++({ x with arrive:=a,depart:=d }:CallD)::l.drop (k+1))[k]? =some { x with arrive:=a,depart:=d }:=by
        rw[List.getElem?_append_right (by rw[HX.out.2.2.1];exact Nat.le_refl _),HX.out.2.2.1,Nat.sub_self];rfl
       exact flat_get (j:=2) callCells_len hk2 rfl
      have x2:w7.cell? ⟨wr.heap.size,2,none⟩=some (.int .i64 x.depart):=blk_cell hb7 2 _ rfl;clear hS hHeld hww hst hlist hO7 hb6 hb7 B7 hO6 hl6 g2 f2 b6 B56 Bd HDC;by_cases hM:3155932800<d
      ·
       have hRes:R=([],10):=by
        rw[HLaw.out,late_stop HLw.out HX.out.2.1 HDM.out hM]
       have HRes:=Lib.hid hRes;clear hRes;go_wp2_with fail;go_ret2;exact⟨⟨_,(by rw[HRes.out];rfl),fun h=>by rw[HRes.out]at h;cases h⟩,H7.out.2.2⟩
      ·
       by_cases hnx:k+1<l.length
       ·
        have hnI:(k:Int)+1<(l.length:Int):=by omega
        obtain⟨bk,ok,y,hyo,-,hy,hcy⟩:=HV.out.get (k:=k+1) hnx H7.out.2.2 hB;simp only[Option.some.injEq,Addr.mk.injEq,and_true]at hyo;obtain⟨rfl,rfl⟩:=hyo;have y1:w7.cell? ⟨b,o+(k+1)*5+1,none⟩=some (.int .i64 y.arrive):=hcy 1 _ rfl;have hyb:=HBd.out y (List.mem_of_getElem? hy);have hdr:l.drop (k+1)=y::l.drop (k+2):=by
         obtain⟨h1,rfl⟩:=List.getElem?_eq_some_iff.1 hy;exact List.drop_eq_getElem_cons h1
        have hln:=late_next (a':=y.arrive+d-x.depart) HLw.out HX.out.2.1 HDM.out hM (by rw[hdr]);have HLn:=Lib.hid hln;clear hcy hy hdr hln hdm;have hxd:x.depart≤d:=by have:=HDM.out;omega
        go_upto_region 23 with fail
        go_quiet (fail)
        go_wp2_with fail;refine⟨⟨k+1,y.arrive+d-x.depart,(l.take p++R0)++({ x with arrive:=a,depart:=d }:CallD)::l.drop (k+1),⟨by omega,by go_num,rfl⟩,Lib.hid ⟨⟨fun h=>by omega,fun h=>⟨R0++[({ x with arrive:=a,depart:=d }:CallD)],by simp,by have:=HX.out.2.2.2.2;simp;omega,by omega,HLn.out⟩⟩,own_bl H7.out.1 (bl_drewN (bl_refl _) _),bl_drewN H7.out.2.2 _⟩⟩,by simp only[intOf];omega⟩
       ·
        have hnI: ¬ (k:Int)+1<(l.length:Int):=by omega
        have hdr:l.drop (k+1)=[]:=List.drop_eq_nil_of_le (by omega);have hln:=late_next (a':=a) HLw.out HX.out.2.1 HDM.out hM (by rw[hdr]);have HLn:=Lib.hid hln;clear hdr hln hdm;go_wp2_with fail;refine⟨⟨k+1,a,(l.take p++R0)++({ x with arrive:=a,depart:=d }:CallD)::l.drop (k+1),⟨by omega,by go_num,rfl⟩,Lib.hid ⟨⟨fun h=>by omega,fun h=>⟨R0++[({ x with arrive:=a,depart:=d }:CallD)],by simp,by have:=HX.out.2.2.2.2;simp;omega,hab,HLn.out⟩⟩,H7.out.1,H7.out.2.2⟩⟩,by simp only[intOf];omega⟩
    ·
     obtain rfl:k=l.length:=by omega
     obtain⟨R0,hL,hRl,hab,hlaw⟩:=HL.out.1.2 (by omega);have hRes:R=(L,0):=by
      rw[HLaw.out,hlaw,hL,List.drop_length,List.append_nil];rw[show lateF a []=some [] by simp[lateF]];simp
     have hLl:L.length=l.length:=HL.out.1.len (Nat.le_refl _) (by omega);have HRes:=Lib.hid (And.intro hRes hLl);clear hL hRl hlaw hRes hLl;go_wp2_with fail;go_ret2;exact⟨⟨_,(by rw[HRes.out.1];rfl),fun _=>by rw[HRes.out.1];show World.ownsRow _ _ _ _ _ L.length (L.flatMap callCells);rw[HRes.out.2];exact HL.out.2.1⟩,HL.out.2.2⟩
end Go.Proofs.YtncbcmiflffakaaGreat
