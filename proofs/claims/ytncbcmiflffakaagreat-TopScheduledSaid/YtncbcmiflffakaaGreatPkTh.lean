/-
  What the laws of top need of TTh. Conditions: those of each lemma.
-/
import Derived.Test.YtncbcmiflffakaaGreatPkMem
import Derived.Test.YtncbcmiflffakaaGreatRows
import Derived.Test.YtncbcmiflffakaaGreatPkPl
import Derived.Carry
import Derived.BigRegion
import Derived.DeepKeys4
set_option maxRecDepth 1000000
set_option maxHeartbeats 32000000
namespace Go.Proofs.YtncbcmiflffakaaGreat.Th
open Go.RowKit
open Frq Thr
theorem contains_take {l:List Int} {k:Nat} {x n:Int} (h:l[k]? =some x) (h1:(l.take k).contains n=false):(l.take (k+1)).contains n=(x==n):=by
 rw[take_snoc_at h];simp only[List.contains_eq_any_beq,List.any_append,List.any_cons,List.any_nil,Bool.or_false]at h1 ⊢;rw[h1,Bool.false_or,Bool.eq_iff_iff,beq_iff_eq,beq_iff_eq];exact eq_comm
theorem contains_at {l:List Int} {k:Nat} {n:Int} (h:l[k]? =some n):l.contains n=true:=List.contains_iff_mem.2 (List.mem_of_getElem? h)
theorem rep_b (v:Value) (fs:List FreqD) (t:Int) (r:Bool) (H:Hid (repS fs t=r)) (B:Nat) (w:World) (ha:FreqsIn B w v fs) (hB:B≤w.heap.size):
  Calls Tryz.prog 93 #[v, .int .i64 t] w fun e w'=>e= .returned (.bool r)∧Bl w w':=by
 obtain⟨a,cap,rfl,hl1,hl2⟩:=ha.val;have HA:=Lib.hid ha;clear ha;go_enter Tryz.func93,Tryz.ntmps93
 go_wp2;go_loopw [9] (fun i wr=> ∃ k:Nat,k≤fs.length∧i= .int .i64 k∧Hid ((fs.take k).any (fun f=>f.trip==t)=false)∧Bl w wr) (fun i _=>fs.length-(intOf i).toNat)
 case atStart=>exact⟨0,Nat.zero_le _,rfl,rfl,bl_refl _⟩
 case round=>
  obtain⟨k,hk,rfl,HN,hbl⟩:=hrel;by_cases hlt:k<fs.length
  ·
   obtain⟨b,o,x,rfl,hbs,hx,hc⟩:=HA.out.get hlt hbl hB;have d10:wr.cell? ⟨b,o+k*4,none⟩=some (.int .i64 x.trip):=hc 0 _ rfl;have d11:=hc 1 _ rfl;have d12:=hc 2 _ rfl;have d13:=hc 3 _ rfl;have HX:=Lib.hid hx;clear hx hc;by_cases he:x.trip=t
   ·
    have HR:=Lib.hid (show r=true by rw[←H.out];exact any_yes HX.out (by simp[he]));have q:(x.trip==t)=true:=by rw[beq_iff_eq];exact he
    clear he;go_wp2;go_ret;exact⟨ret_bool HR.out.symm,bl_alloc hbl _⟩
   ·
    have q:(x.trip==t)=false:=by rw[beq_eq_false_iff_ne];exact he
    have HN':=Lib.hid ((any_take (p:=fun f:FreqD=>f.trip==t) HX.out HN.out).trans q);clear he;go_wp2;go_roundw;case rel=>exact⟨k+1,by omega,by go_num,HN',bl_alloc hbl _⟩
    case measure=>simp[intOf];omega
  ·
   have HR:=Lib.hid (show r=false by
    have:=HN.out;rw[List.take_of_length_le (by omega)]at this;rw[←H.out];exact this)
   go_wp2;go_ret;exact⟨ret_bool HR.out.symm,hbl⟩
theorem find_take {l:List ThrD} {k:Nat} {x:ThrD} {t:Int} (h:l[k]? =some x) (h1:nextS (l.take k) t=none) (h2:(x.frm==t)=false):nextS (l.take (k+1)) t=none:=by
 unfold nextS at*;rw[take_snoc_at h,List.find?_append,h1];simp[h2]
theorem find_at {l:List ThrD} {k:Nat} {x:ThrD} {t:Int} (h:l[k]? =some x) (h1:nextS (l.take k) t=none) (h2:(x.frm==t)=true):nextS l t=some x:=by
 unfold nextS at*;obtain⟨hk,rfl⟩:=List.getElem?_eq_some_iff.1 h;have e:(l.take k++l.drop k).find? (fun x=>x.frm==t)=some l[k]:=by
  rw[List.find?_append,h1,List.drop_eq_getElem_cons hk];simp only[Option.none_or];rw[List.find?_cons_of_pos];exact h2
 rwa [List.take_append_drop]at e
theorem ret_ib {a c:Int} {b d:Bool} (h:a=c) (h':b=d):Ending.returned (.tuple #[.int .i64 a, .bool b])= .returned (.tuple #[.int .i64 c, .bool d]):=by rw[h,h']
theorem next_c (v:Value) (l:List ThrD) (t:Int) (B:Nat) (w:World) (ha:ThrIn B w v l) (hB:B≤w.heap.size):
  Calls Tryz.prog 115 #[v, .int .i64 t] w fun e w'=>e= .returned (.tuple #[.int .i64 (nextN l t), .bool (nextB l t)])∧Bl w w':=by
 obtain⟨a,cap,rfl,hl1,hl2⟩:=ha.val;have HA:=Lib.hid ha;clear ha;go_enter Tryz.func115,Tryz.ntmps115
 go_wp2;go_loopw [10] (fun i wr=> ∃ k:Nat,k≤l.length∧i= .int .i64 k∧Hid (nextS (l.take k) t=none)∧Bl w wr) (fun i _=>l.length-(intOf i).toNat)
 case atStart=>exact⟨0,Nat.zero_le _,rfl,rfl,bl_refl _⟩
 case round=>
  obtain⟨k,hk,rfl,HN,hbl⟩:=hrel;by_cases hlt:k<l.length
  ·
   obtain⟨b,o,x,rfl,hbs,hx,hc⟩:=HA.out.get hlt hbl hB;have d10:wr.cell? ⟨b,o+k*2,none⟩=some (.int .i64 x.frm):=hc 0 _ rfl;have d11:=hc 1 _ rfl;have HX:=Lib.hid hx;clear hx hc;by_cases he:x.frm=t
   ·
    have q:(x.frm==t)=true:=by rw[beq_iff_eq];exact he
    have HR:=Lib.hid (next_some (find_at HX.out HN.out q));clear he;go_wp2;go_ret2;exact⟨ret_ib HR.out.1.symm HR.out.2.symm,bl_alloc hbl _⟩
   ·
    have q:(x.frm==t)=false:=by rw[beq_eq_false_iff_ne];exact he
    have HN':=Lib.hid (find_take HX.out HN.out q);clear he;go_wp2;go_roundw;case rel=>exact⟨k+1,by omega,by go_num,HN',bl_alloc hbl _⟩
    case measure=>simp[intOf];omega
  ·
   have HR:=Lib.hid (next_none (l:=l) (t:=t) (by
    have:=HN.out;rw[List.take_of_length_le (by omega)]at this;exact this))
   go_wp2;go_ret2;exact⟨ret_ib HR.out.1.symm HR.out.2.symm,hbl⟩
end Go.Proofs.YtncbcmiflffakaaGreat.Th
namespace Go.Proofs.YtncbcmiflffakaaGreat.Th
open Go.RowKit
open Go.Maps (Keyed)
open Frq Thr
theorem info_int:(Tryz.prog.info? 3).map (fun i=>(i.zero,i.size,i.bytes))=some (some (.int .i64 0),1,8):=by kernel_rfl
theorem int_law:Keyed Tryz.prog 3:=Go.Maps.int_keyed Tryz.underlying3
theorem zero_bool (w:World):(zeroValue 4).run Tryz.prog w= .ok (.bool false) w:=by kernel_rfl
theorem wf_int {x:Int} (h:isInt x):(Lit.int .i64 x).wf=true:=by
 unfold isInt at h;exact WalkArith.wf_i64 (by omega)
theorem key_int {x:Int} (h:isInt x):keyOf Tryz.prog 3 (.int .i64 x)=some (.int .i64 x):=Go.Maps.keyOf_int_mk Tryz.underlying3 (wf_int h)
abbrev IntSet (w:World) (b n:Nat) (S:Lit→Bool):Prop:=OwnsSet w Tryz.prog 3 4 b n S
def lenOf:Value→Nat
 | .slice _ n _=>n
 |_=>0
theorem own_open {base:Nat} {w:World} {v:Value} {out:List Int} {m:Nat} (h:w.ownsRow base 3 1 v out.length (out.flatMap intCells)) (hm:out.length=m+1):
  ∃ g cap,v= .slice (some ⟨g,0,none⟩) (m+1) cap∧m+1≤cap∧cap≤9223372036854775807∧base≤g∧g<w.heap.size∧(∃ C T z,w.heap[g]? =some (.cells C T z))∧w.cell? ⟨g,m,none⟩=some (.int .i64 (lastI out)):=by
 have hr:=slIn_own (cells:=intCells) intCells_len h;rcases h.2 with⟨rfl,h0⟩|⟨g,cap,cur,rfl,hg,hb,hn,hc,hs,ht⟩
 · omega
 ·
  have hlt:g<w.heap.size:=by
   rcases Nat.lt_or_ge g w.heap.size with k|k
   · exact k
   · simp[Array.getElem?_eq_none k]at hb
  obtain⟨b,o,x,ha,-,hx,hcell⟩:=hr.get (k:=m) (by omega) (bl_refl _) (Nat.le_refl _);simp only[Option.some.injEq,Addr.mk.injEq]at ha;obtain⟨rfl,rfl,-⟩:=ha;rw[lastI_at hm]at hx;cases hx
  have c0:=hcell 0 _ rfl;exact⟨g,cap,by rw[hm],by omega,by unfold maxLen at hc;exact hc,hg,hlt,⟨_,_,_,hb⟩,by simpa using c0⟩
theorem own_len {base:Nat} {w:World} {e:TypeId} {sz:Nat} {v:Value} {n:Nat} {xs:List Value} (h:w.ownsRow base e sz v n xs):lenOf v=n:=by
 rcases h.2 with⟨rfl,h0⟩|⟨g,cap,cur,rfl,-⟩
 · rw[h0];rfl
 · rfl
theorem map_block {w:World} {b n:Nat} {S:Lit→Bool} (h:IntSet w b n S): ∃ es clock,w.heap[b]? =some (.map es clock):=by
 obtain⟨D,⟨es,clock,hb,-⟩,-⟩:=h;exact⟨es,clock,hb⟩
theorem chain_c (v:Value) (l:List ThrD) (trip:Int) (htr:isInt trip) (hok: ∀ x∈l,isInt x.to) (hlen:l.length≤1000) (B:Nat) (w:World) (ha:ThrIn B w v l) (hB:B≤w.heap.size):
  Calls Tryz.prog 94 #[v, .int .i64 trip] w fun e w'=> ∃ v',e= .returned v'∧IntsIn w'.heap.size w' v' (chainS l trip)∧Bl w w':=by
 obtain⟨i0,hi,hz0,hz1,hz2⟩:=info_parts info_int;obtain⟨a,cap,rfl,hl1,hl2⟩:=ha.val;have HA:=Lib.hid ha;have HOK:=Lib.hid hok;have hmm:= @run_makeMap Tryz.prog;obtain⟨w1,hw1⟩: ∃ w1,w.alloc (.cells #[.int .i64 trip] 3)=w1:=⟨_,rfl⟩;have hown0:w1.ownsRow w.heap.size 3 1 (.slice (some ⟨w.heap.size,0,none⟩) 1 1) 1 [.int .i64 trip]:=by
  rw[←hw1];exact World.ownsRow_lit w #[.int .i64 trip] 1 (Nat.le_refl _) (by unfold maxLen;omega) rfl
 have b1:Bl w w1:=by rw[←hw1];exact bl_alloc (bl_refl _) _
 have s1:w1.heap.size=w.heap.size+1:=by rw[←hw1];simp
 have hset0:IntSet (w1.alloc (.map #[] 0)) w1.heap.size 0 (fun _=>false):=ownsSet_made w1 Tryz.prog 3 4;obtain⟨w2,hput,hset,hgr⟩:=hset0.put int_law Tryz.underlying128 Tryz.underlying4 (by unfold maxLen;omega) (key_int htr);rw[←hw1]at hput;rw[show(w.alloc (.cells #[.int .i64 trip] 3)).heap.size=w.heap.size+1 by simp]at hput;have b2:Bl w1 w2:=Below.grown (bl_alloc (bl_refl _) _) hgr (by simp) (fun k hk=>by cases hk;exact Nat.le_refl _);have HOWN:Hid (w2.ownsRow w.heap.size 3 1 (.slice (some ⟨w.heap.size,0,none⟩) 1 1) 1 [.int .i64 trip]):=(hown0.alloc _).kept hgr (by right;intro e;simp[Value.ownBlock]at e;omega);have HSET:=Lib.hid hset;have HB2:Hid (Bl w w2):=bl_next b1 b2;have S1:=Lib.hid s1;clear ha hok hown0 b1 b2 hset hgr hset0 s1 hw1;go_enter Tryz.func94,Tryz.ntmps94
 go_wp2;go_step3
 go_wp2;go_step3
 go_wp2;go_loopw [5] (fun vo wr=> ∃ (out:List Int) (f n:Nat) (S:Lit→Bool),(out.length+f=l.length+1∧out.length≤n+1∧n≤out.length)∧wr.ownsRow w.heap.size 3 1 vo out.length (out.flatMap intCells)∧Hid (Making l trip out∧chainN l f out=chainS l trip∧ ∀ x:Int,S (.int .i64 x)=out.contains x)∧IntSet wr (w.heap.size+1) n S∧Hid (∀ x∈out,isInt x)∧Bl w wr) (fun vo _=>l.length+2-lenOf vo)
 case atStart=>
  refine⟨[trip],l.length,1,setPut (fun _=>false) (.int .i64 trip),by simp;omega,HOWN.out,⟨making_one l trip,rfl,fun x=>?_⟩,by rw[←S1.out];exact HSET.out.mono (by omega),fun x hx=>?_,HB2.out⟩
  ·
   by_cases hx:x=trip
   · rw[hx,setPut_at _ (by trivial)];simp
   · rw[setPut_ne (by simpa using hx)];simp[hx]
  · rw[List.mem_singleton.1 hx];exact htr
 case round=>
  obtain⟨out,f,n,S,⟨hf,hn1,hn2⟩,hown,HM,hset,HI,hbl⟩:=hrel;have hp:=HM.out.1.pos;obtain⟨m,hm⟩: ∃ m,out.length=m+1:=⟨out.length-1,by omega⟩;have HOWN':=Lib.hid hown;obtain⟨g,capo,rfl,hc1,hc2,hg1,hg2,hgb,hcell⟩:=own_open hown hm;have HSET':=Lib.hid hset;have HL:=Lib.hid hm;have z1:=hbl.size;have HG:Hid (g≠w.heap.size+1):=by
   intro e;obtain⟨es,clock,hmb⟩:=map_block hset;obtain⟨C,T,z,hgb⟩:=hgb;rw[e,hmb]at hgb;cases hgb
  clear hown hset hm hgb;go_wp2_with fail;refine(next_c _ l (lastI out) B wr (HA.out.out hbl hB) (by omega)).mono ?_;rintro e w3 ⟨rfl,b3⟩;obtain⟨o,ho⟩: ∃ o,nextS l (lastI out)=o:=⟨_,rfl⟩;cases o with
  |none=>
   have HR:=Lib.hid (next_none ho);have HC:=Lib.hid (stepC_none ho);rw[HR.out.1,HR.out.2];clear ho;go_wp2;try rw[Exit.noGoto_ret]
   go_ret;refine⟨_,rfl, ?_,bl_next hbl b3⟩;have:=HM.out.2.1;rw[chainN_stop HC.out]at this;rw[←this];exact(slIn_own (cells:=intCells) intCells_len HOWN'.out).bl b3
  |some x=>
   have HR:=Lib.hid (next_some ho);have HO:=Lib.hid ho;have hxi:isInt x.to:=HOK.out x (List.mem_of_find?_eq_some ho);have hlook:=((HSET'.out.bl b3).look int_law Tryz.underlying128 Tryz.underlying4 (zero_bool w3) (key_int hxi));rw[HM.out.2.2 x.to]at hlook;have z3:=b3.size;rw[HR.out.1,HR.out.2];cases hcon:out.contains x.to with
   |true=>
    have HC:=Lib.hid (stepC_used HO.out hcon);rw[hcon]at hlook;clear ho hcon;go_wp2;try rw[Exit.noGoto_ret]
    go_ret;refine⟨_,rfl, ?_,bl_next hbl b3⟩;have:=HM.out.2.1;rw[chainN_stop HC.out]at this;rw[←this];exact(slIn_own (cells:=intCells) intCells_len HOWN'.out).bl b3
   |false=>
    have HC:=Lib.hid (stepC_go HO.out hcon);rw[hcon]at hlook;obtain⟨w4,hput,hset4,hgr4⟩:=(HSET'.out.bl b3).put int_law Tryz.underlying128 Tryz.underlying4 (by unfold maxLen;omega) (key_int hxi);have hown4:w4.ownsRow w.heap.size 3 1 (.slice (some ⟨g,0,none⟩) (m+1) capo) out.length (out.flatMap intCells):=by
     refine(HOWN'.out.kept (row:=none) ⟨b3.os,b3.tape,b3.output,b3.size,fun k hk _=>b3.block k hk⟩ (by right;simp[Value.ownBlock])).kept hgr4 ?_;right
     intro e;simp only[Value.ownBlock,Option.some.injEq]at e;exact HG.out e
    have hb4:Bl w w4:=(bl_next hbl b3).grown hgr4 (by omega) (fun k hk=>by cases hk;omega);have z4:=hgr4.size;have HOWN4:=Lib.hid hown4;have HSET4:=Lib.hid hset4;have HB4:=Lib.hid hb4;have HF:Hid (f≠0):=by
     intro e;have h1:=HM.out.1.full (by have:=HL.out;omega);rw[HC.out]at h1;cases h1
    clear ho hcon hset4 hgr4 hown4 hb4;go_wp2_with (at_builtin;refine wpList_append_own _ rfl _ _ 59 rfl w.heap.size 3 i0 (.int .i64 0) 1 8 Tryz.underlying59 hi hz0 hz1 hz2 rfl (by decide) _ _ _ rfl (HOWN4.out.alloc _) ⟨w4.heap.size,0,none⟩ 1 1 [.int .i64 x.to] rfl rfl ?c1 ?c2 ?c3 ?c4 ?c5 ?_)
    case c1=>exact cells_new _ _ (by simp) (fun j u h=>by simpa using h)
    case c2=>simp[Value.oneCell']
    case c3=>have:=HL.out;unfold maxLen;omega
    case c4=>have:=HL.out;omega
    case c5=>simp;omega
    intro v' w5 hown' hgrow _;have hb5:Bl w w5:=(bl_alloc HB4.out _).grown hgrow (by simp;omega) (fun k hk=>(World.ownsRow.lt HOWN4.out k hk).1);have hset5:IntSet w5 (w.heap.size+1) (n+1) (setPut S (.int .i64 x.to)):=(HSET4.out.kept (Below.heap_alloc _ _ _ HSET4.out.lt)).grown hgrow (by intro e;simp only[Value.ownBlock,Option.some.injEq]at e;exact HG.out e.symm);have HOWN5:=Lib.hid hown';have HSET5:=Lib.hid hset5;have HLV:Hid (lenOf v'=out.length+1):=own_len hown';clear hown' hgrow hset5;go_wp2;go_roundw;case rel=>
     have hl:=HL.out;refine⟨out++[x.to],f-1,n+1,setPut S (.int .i64 x.to), ?_, ?_,⟨HM.out.1.step HC.out, ?_,fun y=>?_⟩,HSET5.out,fun y hy=>?_,hb5⟩
     · have:=HF.out;rw[List.length_append,List.length_singleton];omega
     ·
      have:=HOWN5.out;rw[List.length_append,List.length_singleton,flat_snoc];exact this
     ·
      have:=HM.out.2.1;rw[show f=f-1+1 by have:=HF.out;omega,chainN_go HC.out]at this;exact this
     ·
      by_cases hy:y=x.to
      · rw[hy,setPut_at _ (by trivial)];simp
      · rw[setPut_ne (by simpa using hy),HM.out.2.2 y];simp[hy]
     ·
      rcases List.mem_append.1 hy with hy|hy
      · exact HI.out y hy
      · rw[List.mem_singleton.1 hy];exact hxi
    case measure=>
     have h1:=HL.out;have h2:=HF.out;have h3:=HLV.out;show l.length+2-lenOf v'<l.length+2-(m+1)
     omega
theorem leads_c (v:Value) (l:List ThrD) (frm tt:Int) (r:Bool) (H:Hid ((chainS l frm).contains tt=r)) (hfr:isInt frm) (hok: ∀ x∈l,isInt x.to) (hlen:l.length≤1000) (B:Nat) (w:World) (ha:ThrIn B w v l) (hB:B≤w.heap.size):
  Calls Tryz.prog 58 #[v, .int .i64 frm, .int .i64 tt] w fun e w'=>e= .returned (.bool r)∧Bl w w':=by
 have HOK:=Lib.hid hok;have HFR:=Lib.hid hfr;obtain⟨a,cap,rfl,hl1,hl2⟩:=ha.val;have HA:=Lib.hid ha;clear hok hfr ha;go_enter Tryz.func58,Tryz.ntmps58
 go_wp2_with fail;refine(chain_c _ l frm HFR.out HOK.out hlen B w HA.out hB).mono ?_;rintro e w1 ⟨v1,rfl,i1,b1⟩;have HC:=Lib.hid i1;have hcl:(chainS l frm).length≤1001:=by have:=(chainS_making l frm).len;omega
 obtain⟨C,hC⟩: ∃ C,chainS l frm=C:=⟨_,rfl⟩;rw[hC]at H HC i1 hcl;obtain⟨a1,cap1,rfl,l1,m1⟩:=i1.val;clear hC i1;go_wp2_with fail;go_loop [13] (fun i=> ∃ k:Nat,k≤C.length∧i= .int .i64 k∧Hid ((C.take k).contains tt=false)) (fun i=>C.length-(intOf i).toNat)
 case atStart=>exact⟨0,Nat.zero_le _,rfl,rfl⟩
 case round=>
  obtain⟨k,hk,rfl,HN⟩:=hrel;by_cases hlt:k<C.length
  ·
   obtain⟨b,o,x,rfl,hbs,hx,hc⟩:=HC.out.get hlt (bl_refl _) (Nat.le_refl _);have c0:w1.cell? ⟨b,o+k,none⟩=some (.int .i64 x):=by have:=hc 0 _ rfl;simpa using this
   have hkI:(k:Int)<(C.length:Int):=by omega
   have HX:=Lib.hid hx;clear hx hc;by_cases he:x=tt
   ·
    have HR:=Lib.hid (show r=true by rw[←H.out];exact contains_at (he ▸ HX.out));have q:(x==tt)=true:=by rw[beq_iff_eq];exact he
    clear he;go_wp2;go_ret;exact⟨ret_bool HR.out.symm,b1⟩
   ·
    have q:(x==tt)=false:=by rw[beq_eq_false_iff_ne];exact he
    have HN':=Lib.hid ((contains_take HX.out HN.out).trans q);clear he;go_wp2;go_round;case rel=>exact⟨k+1,by omega,by go_num,HN'⟩
    case measure=>simp[intOf];omega
  ·
   have HR:=Lib.hid (show r=false by
    have:=HN.out;rw[List.take_of_length_le (by omega)]at this;rw[←H.out];exact this)
   go_wp2;go_ret;exact⟨ret_bool HR.out.symm,b1⟩
end Go.Proofs.YtncbcmiflffakaaGreat.Th
namespace Go.Proofs.YtncbcmiflffakaaGreat.Th
open Go.RowKit
open Frq Thr
theorem alight_yes {stop:Int} {k:Nat} {x:CallD} (h0:0<k) (h1:x.stop=stop) (h2:x.alight=true):alightP stop k x=true:=by unfold alightP;simp[h0,h1,h2]
theorem alight_no0 {stop:Int} {k:Nat} {x:CallD} (h0: ¬ 0<k):alightP stop k x=false:=by unfold alightP;simp[h0]
theorem alight_no1 {stop:Int} {k:Nat} {x:CallD} (h0:x.stop≠stop):alightP stop k x=false:=by unfold alightP;simp[h0]
theorem alight_no2 {stop:Int} {k:Nat} {x:CallD} (h0:x.alight=false):alightP stop k x=false:=by unfold alightP;simp[h0]
theorem board_yes {n:Nat} {stop:Int} {k:Nat} {x:CallD} (h0:k+1<n) (h1:x.stop=stop) (h2:x.board=true):boardP n stop k x=true:=by unfold boardP;simp[h0,h1,h2]
theorem board_no0 {n:Nat} {stop:Int} {k:Nat} {x:CallD} (h0: ¬ k+1<n):boardP n stop k x=false:=by unfold boardP;simp[h0]
theorem board_no1 {n:Nat} {stop:Int} {k:Nat} {x:CallD} (h0:x.stop≠stop):boardP n stop k x=false:=by unfold boardP;simp[h0]
theorem board_no2 {n:Nat} {stop:Int} {k:Nat} {x:CallD} (h0:x.board=false):boardP n stop k x=false:=by unfold boardP;simp[h0]
def NoneTo (p:Nat→CallD→Bool) (l:List CallD) (k:Nat):Prop:= ∀ i x,i<k→l[i]? =some x→p i x=false
theorem noneTo_0 (p:Nat→CallD→Bool) (l:List CallD):NoneTo p l 0:=fun i _ h=>absurd h (Nat.not_lt_zero i)
theorem NoneTo.next {p:Nat→CallD→Bool} {l:List CallD} {k:Nat} {x:CallD} (h:NoneTo p l k) (hx:l[k]? =some x) (hp:p k x=false):NoneTo p l (k+1):=fun i y hi hy=>by
 by_cases e:i<k
 · exact h i y e hy
 ·
  obtain rfl:i=k:=by omega
  rw[hx]at hy;cases hy
  exact hp
theorem NoneTo.all {p:Nat→CallD→Bool} {l:List CallD} {k:Nat} (h:NoneTo p l k) (hk:l.length≤k):findI p l=none:=findI_none fun i x hx=>h i x (by have:=(List.getElem?_eq_some_iff.1 hx).1;omega) hx
theorem alighting_c (v:Value) (l:List CallD) (stop:Int) (B:Nat) (w:World) (ha:CallsIn B w v l) (hB:B≤w.heap.size):
  Calls Tryz.prog 95 #[v, .int .i64 stop] w fun e w'=>e= .returned (.int .i64 (optI (alightS l stop)))∧Bl w w':=by
 obtain⟨a,cap,rfl,hl1,hl2⟩:=ha.val;have HA:=Lib.hid ha;clear ha;go_enter Tryz.func95,Tryz.ntmps95
 go_wp2;go_loopw [9] (fun i wr=> ∃ k:Nat,k≤l.length∧i= .int .i64 k∧Hid (NoneTo (alightP stop) l k)∧Bl w wr) (fun i _=>l.length-(intOf i).toNat)
 case atStart=>exact⟨0,Nat.zero_le _,rfl,noneTo_0 _ _,bl_refl _⟩
 case round=>
  obtain⟨k,hk,rfl,HN,hbl⟩:=hrel;by_cases hlt:k<l.length
  ·
   obtain⟨b,o,x,rfl,hbs,hx,hc⟩:=HA.out.get hlt hbl hB;have d0:wr.cell? ⟨b,o+k*5,none⟩=some (.int .i64 x.stop):=hc 0 _ rfl;have d1:=hc 1 _ rfl;have d2:=hc 2 _ rfl;have d3:=hc 3 _ rfl;have d4:=hc 4 _ rfl;have HX:=Lib.hid hx;clear hx hc;by_cases h0:0<k
   ·
    have q0:decide (0<k)=true:=decide_eq_true h0;by_cases h1:x.stop=stop
    ·
     have q1:(x.stop==stop)=true:=by rw[beq_iff_eq];exact h1
     cases h2:x.alight with
     |true=>
      rw[h2]at d4;have HR:=Lib.hid (show alightS l stop=some k from findI_some HN.out HX.out (alight_yes h0 h1 h2));clear h0 h1 h2;go_wp2;go_ret;exact⟨ret_int (by rw[HR.out];rfl),bl_alloc hbl _⟩
     |false=>
      rw[h2]at d4;have HN':=Lib.hid (HN.out.next HX.out (alight_no2 h2));clear h0 h1 h2;go_wp2;go_roundw;case rel=>exact⟨k+1,by omega,by go_num,HN',bl_alloc hbl _⟩
      case measure=>simp[intOf];omega
    ·
     have q1:(x.stop==stop)=false:=by rw[beq_eq_false_iff_ne];exact h1
     have HN':=Lib.hid (HN.out.next HX.out (alight_no1 h1));clear h0 h1;go_wp2;go_roundw;case rel=>exact⟨k+1,by omega,by go_num,HN',bl_alloc hbl _⟩
     case measure=>simp[intOf];omega
   ·
    have q0:decide (0<k)=false:=decide_eq_false h0;have HN':=Lib.hid (HN.out.next HX.out (alight_no0 h0));clear h0;go_wp2;go_roundw;case rel=>exact⟨k+1,by omega,by go_num,HN',bl_alloc hbl _⟩
    case measure=>simp[intOf];omega
  ·
   have HR:=Lib.hid (show alightS l stop=none from HN.out.all (by omega));go_wp2;go_ret;exact⟨ret_int (by rw[HR.out];rfl),hbl⟩
theorem boarding_c (v:Value) (l:List CallD) (stop:Int) (B:Nat) (w:World) (ha:CallsIn B w v l) (hB:B≤w.heap.size):
  Calls Tryz.prog 96 #[v, .int .i64 stop] w fun e w'=>e= .returned (.int .i64 (optI (boardS l stop)))∧Bl w w':=by
 obtain⟨a,cap,rfl,hl1,hl2⟩:=ha.val;have HA:=Lib.hid ha;clear ha;go_enter Tryz.func96,Tryz.ntmps96
 go_wp2;go_loopw [9] (fun i wr=> ∃ k:Nat,k≤l.length∧i= .int .i64 k∧Hid (NoneTo (boardP l.length stop) l k)∧Bl w wr) (fun i _=>l.length-(intOf i).toNat)
 case atStart=>exact⟨0,Nat.zero_le _,rfl,noneTo_0 _ _,bl_refl _⟩
 case round=>
  obtain⟨k,hk,rfl,HN,hbl⟩:=hrel;by_cases hlt:k<l.length
  ·
   obtain⟨b,o,x,rfl,hbs,hx,hc⟩:=HA.out.get hlt hbl hB;have d0:wr.cell? ⟨b,o+k*5,none⟩=some (.int .i64 x.stop):=hc 0 _ rfl;have d1:=hc 1 _ rfl;have d2:=hc 2 _ rfl;have d3:=hc 3 _ rfl;have d4:=hc 4 _ rfl;have HX:=Lib.hid hx;clear hx hc;by_cases h0:k+1<l.length
   ·
    have q0:decide ((k:Int)+1<(l.length:Int))=true:=decide_eq_true (by omega);by_cases h1:x.stop=stop
    ·
     have q1:(x.stop==stop)=true:=by rw[beq_iff_eq];exact h1
     cases h2:x.board with
     |true=>
      rw[h2]at d3;have HR:=Lib.hid (show boardS l stop=some k from findI_some HN.out HX.out (board_yes h0 h1 h2));clear h0 h1 h2;go_wp2;go_ret;exact⟨ret_int (by rw[HR.out];rfl),bl_alloc hbl _⟩
     |false=>
      rw[h2]at d3;have HN':=Lib.hid (HN.out.next HX.out (board_no2 h2));clear h0 h1 h2;go_wp2;go_roundw;case rel=>exact⟨k+1,by omega,by go_num,HN',bl_alloc hbl _⟩
      case measure=>simp[intOf];omega
    ·
     have q1:(x.stop==stop)=false:=by rw[beq_eq_false_iff_ne];exact h1
     have HN':=Lib.hid (HN.out.next HX.out (board_no1 h1));clear h0 h1;go_wp2;go_roundw;case rel=>exact⟨k+1,by omega,by go_num,HN',bl_alloc hbl _⟩
     case measure=>simp[intOf];omega
   ·
    have q0:decide ((k:Int)+1<(l.length:Int))=false:=decide_eq_false (by omega);have HN':=Lib.hid (HN.out.next HX.out (board_no0 h0));clear h0;go_wp2;go_roundw;case rel=>exact⟨k+1,by omega,by go_num,HN',bl_alloc hbl _⟩
    case measure=>simp[intOf];omega
  ·
   have HR:=Lib.hid (show boardS l stop=none from HN.out.all (by omega));go_wp2;go_ret;exact⟨ret_int (by rw[HR.out];rfl),hbl⟩
theorem ret_iib {a b a' b':Int} {c c':Bool} {r:Int×Int×Bool} (h:r=(a,b,c)) (h':r=(a',b',c')):Ending.returned (.tuple #[.int .i64 a, .int .i64 b, .bool c])= .returned (.tuple #[.int .i64 a', .int .i64 b', .bool c']):=by
 rw[h]at h';simp only[Prod.mk.injEq]at h';rw[h'.1,h'.2.1,h'.2.2]
theorem meets_c (va vb:Value) (a b:List CallD) (stop:Int) (i0 k0:Int) (r0:Bool) (H:Hid (meetsS a b stop=(i0,k0,r0))) (B:Nat) (w:World) (ha:CallsIn B w va a) (hb:CallsIn B w vb b) (hB:B≤w.heap.size):
  Calls Tryz.prog 59 #[va,vb, .int .i64 stop] w fun e w'=>e= .returned (.tuple #[.int .i64 i0, .int .i64 k0, .bool r0])∧Bl w w':=by
 obtain⟨aa,capa,rfl,la1,la2⟩:=ha.val;obtain⟨ab,capb,rfl,lb1,lb2⟩:=hb.val;have HA:=Lib.hid ha;have HB:=Lib.hid hb;clear ha hb;go_enter Tryz.func59,Tryz.ntmps59
 go_wp2_with fail;refine(alighting_c _ a stop B w HA.out hB).mono ?_;rintro e w1 ⟨rfl,b1⟩;have z1:=b1.size;have HB1:=Lib.hid b1;clear b1;obtain⟨oa,hoa⟩: ∃ o,alightS a stop=o:=⟨_,rfl⟩;rw[hoa];have HOA:=Lib.hid hoa;clear hoa;go_wp2_with fail;refine(boarding_c _ b stop B w1 (HB.out.out HB1.out hB) (by omega)).mono ?_;rintro e w2 ⟨rfl,b2⟩;have HB2:Hid (Bl w w2):=bl_next HB1.out b2;obtain⟨ob,hob⟩: ∃ o,boardS b stop=o:=⟨_,rfl⟩;rw[hob];have HOB:=Lib.hid hob;clear hob b2;cases oa with
 |none=>
  have HR:=Lib.hid (meetsS_a (b:=b) HOA.out);rw[show optI none= -1 from rfl];go_wp2_with fail;go_quiet (fail)
  go_wp2;go_ret3
  exact⟨ret_iib HR.out H.out,bl_drewN HB2.out _⟩
 |some i=>
  rw[show optI (some i)=(i:Int) from rfl];have q1:decide ((i:Int)<0)=false:=decide_eq_false (by omega);cases ob with
  |none=>
   have HR:=Lib.hid (meetsS_b (a:=a) HOB.out);rw[show optI none= -1 from rfl];go_wp2_with fail;go_quiet (fail)
   go_wp2;go_ret3
   exact⟨ret_iib HR.out H.out,bl_drewN HB2.out _⟩
  |some k=>
   rw[show optI (some k)=(k:Int) from rfl];have q2:decide ((k:Int)<0)=false:=decide_eq_false (by omega);obtain⟨x,hx,-,-⟩:=findI_of HOA.out;obtain⟨y,hy,-,-⟩:=findI_of HOB.out;have hil:=(List.getElem?_eq_some_iff.1 hx).1;have hkl:=(List.getElem?_eq_some_iff.1 hy).1;obtain⟨ba,oa,x',rfl,hba,hx',hca⟩:=HA.out.get hil HB2.out hB;obtain rfl:x=x':=by rw[hx]at hx';exact Option.some.inj hx'
   obtain⟨bb,ob,y',rfl,hbb,hy',hcb⟩:=HB.out.get hkl HB2.out hB;obtain rfl:y=y':=by rw[hy]at hy';exact Option.some.inj hy'
   have c1:=hca 1 _ rfl;have c2:=hcb 2 _ rfl;have HX:=Lib.hid hx;have HY:=Lib.hid hy;have iI:(i:Int)<(a.length:Int):=by omega
   have kI:(k:Int)<(b.length:Int):=by omega
   clear hca hcb hx hy hx' hy';by_cases hlt:y.depart<x.arrive
   ·
    have HR:=Lib.hid (meetsS_no HOA.out HOB.out HX.out HY.out hlt);have q:decide (y.depart<x.arrive)=true:=decide_eq_true hlt;clear hlt;go_wp2_with fail;go_quiet (fail)
    go_wp2;go_ret3
    exact⟨ret_iib HR.out H.out,bl_drewN HB2.out _⟩
   ·
    have HR:=Lib.hid (meetsS_yes HOA.out HOB.out HX.out HY.out (by omega));have q:decide (y.depart<x.arrive)=false:=decide_eq_false hlt;clear hlt;go_wp2_with fail;go_quiet (fail)
    go_wp2;go_ret3
    exact⟨ret_iib HR.out H.out,bl_drewN HB2.out _⟩
end Go.Proofs.YtncbcmiflffakaaGreat.Th
namespace Go.Proofs.YtncbcmiflffakaaGreat.Th
open Go.RowKit
open Frq Thr
theorem exists_c (i:Int) (a:Option Addr) (n cap b:Nat) (r:Bool) (H:Hid (inB i n=r)) (w:World) (hc:w.cell? ⟨b,0,none⟩=some (.slice a n cap)):
  Calls Tryz.prog 92 #[.int .i64 i, .pointer (some ⟨b,0,none⟩)] w fun e w'=>e= .returned (.bool r)∧w=w':=by
 by_cases h0:0≤i
 ·
  by_cases h1:i<n
  ·
   obtain rfl:r=true:=by rw[←H.out];unfold inB;simp[h0,h1]
   clear H;go_enter Tryz.func92,Tryz.ntmps92
   go_wp2;go_ret;exact⟨rfl,rfl⟩
  ·
   obtain rfl:r=false:=by rw[←H.out];unfold inB;simp[h1]
   clear H;have h1':decide (i<(n:Int))=false:=by rw[decide_eq_false_iff_not];exact h1
   clear h1;go_enter Tryz.func92,Tryz.ntmps92
   go_wp2;go_ret;exact⟨rfl,rfl⟩
 ·
  obtain rfl:r=false:=by rw[←H.out];unfold inB;simp[h0]
  clear H;have h0':i<0:=by omega
  clear h0;go_enter Tryz.func92,Tryz.ntmps92
  go_wp2;go_ret;exact⟨rfl,rfl⟩
def missN (p:Bool):Int:=if p then 0 else 9
def repN (p q:Bool):Int:=if p&&q then 17 else 0
theorem ret_ie {a b c d:Int} (h:a=c) (h':b=d):Ending.returned (.tuple #[.int .i64 a, .int .i64 b])= .returned (.tuple #[.int .i64 c, .int .i64 d]):=by rw[h,h']
theorem pair_c (frm tt:Int) (a:Option Addr) (n cap:Nat) (vf:Value) (fs:List FreqD) (p q:Bool) (H1:Hid (pairB n frm tt=p)) (H2:Hid ((repS fs frm||repS fs tt)=q)) (B:Nat) (w:World) (hf:FreqsIn B w vf fs) (hB:B≤w.heap.size):
  Calls Tryz.prog 56 #[.int .i64 frm, .int .i64 tt, .slice a n cap,vf] w fun e w'=>e= .returned (.tuple #[.int .i64 (missN p), .int .i64 (repN p q)])∧Bl w w':=by
 have HF:=Lib.hid hf;obtain⟨w1,hw1⟩: ∃ w1,w.alloc (.cells #[.slice a n cap] 26)=w1:=⟨_,rfl⟩;have c0:w1.cell? ⟨w.heap.size,0,none⟩=some (.slice a n cap):=by rw[←hw1,World.cell?_alloc_at (hn:=rfl)];rfl
 have b1:Bl w w1:=by rw[←hw1];exact bl_alloc (bl_refl _) _
 have z1:=b1.size;have B1:=Lib.hid b1;obtain⟨e1,he1⟩: ∃ e1,inB frm n=e1:=⟨_,rfl⟩;obtain⟨e2,he2⟩: ∃ e2,inB tt n=e2:=⟨_,rfl⟩;have HP:Hid (p=(e1&&(e2&& !(frm==tt)))):=by rw[←he1,←he2];exact H1.out.symm
 have E1:=Lib.hid he1;have E2:=Lib.hid he2;have C0:=Lib.hid c0;clear hf b1 he1 he2 H1 c0;go_enter Tryz.func56,Tryz.ntmps56
 go_wp2_with fail;clear hw1;refine(exists_c frm a n cap _ e1 E1 w1 C0.out).mono ?_;rintro e w2 ⟨rfl,rfl⟩;cases e1 with
 |false=>
  have HN:=Lib.hid (show p=false by rw[HP.out];rfl);go_wp2;go_ret2;exact⟨ret_ie (by rw[HN.out];rfl) (by rw[HN.out];rfl),B1.out⟩
 |true=>
  go_wp2_with fail;refine(exists_c tt a n cap _ e2 E2 w1 C0.out).mono ?_;rintro e w2 ⟨rfl,rfl⟩;cases e2 with
  |false=>
   have HN:=Lib.hid (show p=false by rw[HP.out];rfl);go_wp2;go_ret2;exact⟨ret_ie (by rw[HN.out];rfl) (by rw[HN.out];rfl),B1.out⟩
  |true=>
   by_cases he:frm=tt
   ·
    have HN:=Lib.hid (show p=false by rw[HP.out,he];simp);have qe:(frm==tt)=true:=by rw[beq_iff_eq];exact he
    clear he;go_wp2;go_ret2;exact⟨ret_ie (by rw[HN.out];rfl) (by rw[HN.out];rfl),B1.out⟩
   ·
    have qe:(frm==tt)=false:=by rw[beq_eq_false_iff_ne];exact he
    have HN:=Lib.hid (show p=true by rw[HP.out,qe];rfl);clear he;obtain⟨r1,hr1⟩: ∃ r1,repS fs frm=r1:=⟨_,rfl⟩;obtain⟨r2,hr2⟩: ∃ r2,repS fs tt=r2:=⟨_,rfl⟩;have HQ:Hid (q=(r1||r2)):=by rw[←hr1,←hr2];exact H2.out.symm
    have R1:=Lib.hid hr1;have R2:=Lib.hid hr2;clear hr1 hr2 H2 HP;go_wp2_with fail;refine(rep_b vf fs frm r1 R1 B w1 (HF.out.out B1.out hB) (by omega)).mono ?_;rintro e w3 ⟨rfl,b3⟩;have B3:Hid (Bl w w3):=bl_next B1.out b3;have z3:=b3.size;clear b3;cases r1 with
    |true=>
     have HR:=Lib.hid (show q=true by rw[HQ.out];rfl);go_wp2;go_ret2;exact⟨ret_ie (by rw[HN.out];rfl) (by rw[HN.out,HR.out];rfl),B3.out⟩
    |false=>
     go_wp2_with fail;refine(rep_b vf fs tt r2 R2 B w3 (HF.out.out B3.out hB) (by omega)).mono ?_;rintro e w4 ⟨rfl,b4⟩;have B4:Hid (Bl w w4):=bl_next B3.out b4;have HR:=Lib.hid (show q=r2 by rw[HQ.out];rfl);clear b4;cases r2 with
     |true=>
      go_wp2;go_ret2;exact⟨ret_ie (by rw[HN.out];rfl) (by rw[HN.out,HR.out];rfl),B4.out⟩
     |false=>
      go_wp2;go_ret2;exact⟨ret_ie (by rw[HN.out];rfl) (by rw[HN.out,HR.out];rfl),B4.out⟩
theorem follow_cal {a b:TrpD} (h:a.cal≠b.cal):followS a b=15:=by unfold followS;rw[if_pos h]
theorem follow_e1 {a b:TrpD} (h:a.cal=b.cal) (h1:a.calls=[]):followS a b=13:=by unfold followS;rw[if_neg (by omega),h1];rfl
theorem follow_e2 {a b:TrpD} (h:a.cal=b.cal) (h1:b.calls=[]):followS a b=13:=by unfold followS;rw[if_neg (by omega),h1];cases a.calls.getLast?<;>rfl
theorem follow_xy {a b:TrpD} {x y:CallD} {n:Nat} (h:a.cal=b.cal) (hn:a.calls.length=n+1) (h1:a.calls[n]? =some x) (h2:b.calls[0]? =some y):followS a b=if x.stop≠y.stop then 13 else if y.depart<x.arrive then 10 else 0:=by
 unfold followS;have e1:a.calls.getLast?=some x:=by rw[List.getLast?_eq_getElem?,hn];exact h1
 have e2:b.calls.head?=some y:=by rw[List.head?_eq_getElem?];exact h2
 rw[if_neg (by omega),e1,e2]
theorem follows_c (t u:TripD) (r:Int) (H:Hid (followS (trpOf t) (trpOf u)=r)) (B:Nat) (w:World) (ht:CallsIn B w t.v t.calls) (hu:CallsIn B w u.v u.calls) (hB:B≤w.heap.size):
  Calls Tryz.prog 57 #[.agg #[.string t.id, .int .i64 t.rt, .int .i64 t.cal, .bool t.step,t.v], .agg #[.string u.id, .int .i64 u.rt, .int .i64 u.cal, .bool u.step,u.v]] w fun e w'=>e= .returned (.int .i64 r)∧Bl w w':=by
 obtain⟨ti,tr,tc,ts,tv,tl⟩:=t;obtain⟨ui,ur,uc,us,uv,ul⟩:=u;simp only[trpOf]at H ht hu ⊢;have HT:=Lib.hid ht;have HU:=Lib.hid hu;obtain⟨at',ct,rfl,lt1,lt2⟩:=ht.val;obtain⟨au,cu,rfl,lu1,lu2⟩:=hu.val;clear ht hu;obtain⟨w1,hw1⟩: ∃ w1,(w.alloc (.cells #[.string ti, .int .i64 tr, .int .i64 tc, .bool ts, .slice at' tl.length ct] 63)).alloc (.cells #[.string ui, .int .i64 ur, .int .i64 uc, .bool us, .slice au ul.length cu] 63)=w1:=⟨_,rfl⟩;have b1:Bl w w1:=by rw[←hw1];exact bl_alloc (bl_alloc (bl_refl _) _) _
 have s1:w1.heap.size=w.heap.size+2:=by rw[←hw1];simp
 have k0: ∀ (j:Nat) (x:Value),(#[.string ti, .int .i64 tr, .int .i64 tc, .bool ts, .slice at' tl.length ct]:Array Value)[j]? =some x→w1.cell? ⟨w.heap.size,j,none⟩=some x:=by
  intro j x hx;rw[←hw1,(bl_cell (bl_alloc (bl_refl _) _)).1 _ _ (by simp),World.cell?_alloc_at (hn:=rfl)];exact hx
 have k1: ∀ (j:Nat) (x:Value),(#[.string ui, .int .i64 ur, .int .i64 uc, .bool us, .slice au ul.length cu]:Array Value)[j]? =some x→w1.cell? ⟨w.heap.size+1,j,none⟩=some x:=by
  intro j x hx;rw[←hw1,World.cell?_alloc_at (hn:=by simp)];exact hx
 have c02:=k0 2 _ rfl;have c04:=k0 4 _ rfl;have c12:=k1 2 _ rfl;have c14:=k1 4 _ rfl;have B1:=Lib.hid b1;clear k0 k1 b1;by_cases hcal:tc=uc
 ·
  have qc:(tc != uc)=false:=by rw[hcal];simp
  by_cases hte:tl=[]
  ·
   have HR:=Lib.hid (follow_e1 (a:=⟨tc,tl⟩) (b:=⟨uc,ul⟩) hcal hte);have q1:((tl.length:Int)==0)=true:=by rw[hte];rfl
   clear hcal hte;go_enter Tryz.func57,Tryz.ntmps57
   go_wp2;go_ret;exact⟨ret_int (by rw[←H.out];exact HR.out.symm),B1.out⟩
  ·
   by_cases hue:ul=[]
   ·
    have HR:=Lib.hid (follow_e2 (a:=⟨tc,tl⟩) (b:=⟨uc,ul⟩) hcal hue);have q2:((ul.length:Int)==0)=true:=by rw[hue];rfl
    have hpt:0<tl.length:=List.length_pos_iff.2 hte;have q1:((tl.length:Int)==0)=false:=by rw[beq_eq_false_iff_ne];omega
    clear hcal hte hue;go_enter Tryz.func57,Tryz.ntmps57
    go_wp2;go_ret;exact⟨ret_int (by rw[←H.out];exact HR.out.symm),B1.out⟩
   ·
    have hpt:0<tl.length:=List.length_pos_iff.2 hte;have hpu:0<ul.length:=List.length_pos_iff.2 hue;obtain⟨n,hn⟩: ∃ n,tl.length=n+1:=⟨tl.length-1,by omega⟩;obtain⟨bt,ot,x,rfl,hbt,hx,hct⟩:=HT.out.get (k:=n) (by omega) B1.out hB;obtain⟨bu,ou,y,rfl,hbu,hy,hcu⟩:=HU.out.get (k:=0) hpu B1.out hB;have HR:=Lib.hid (follow_xy (a:=⟨tc,tl⟩) (b:=⟨uc,ul⟩) hcal hn hx hy);have d0:w1.cell? ⟨bt,ot+n*5,none⟩=some (.int .i64 x.stop):=hct 0 _ rfl;have d1:=hct 1 _ rfl;have d2:=hct 2 _ rfl;have d3:=hct 3 _ rfl;have d4:=hct 4 _ rfl;have hcu': ∀ j z,(callCells y)[j]? =some z→w1.cell? ⟨bu,ou+j,none⟩=some z:=fun j z hz=>by have:=hcu j z hz;rwa [Nat.zero_mul,Nat.add_zero]at this
    have e0:w1.cell? ⟨bu,ou,none⟩=some (.int .i64 y.stop):=hcu' 0 _ rfl;have e1:=hcu' 1 _ rfl;have e2:=hcu' 2 _ rfl;have e3:=hcu' 3 _ rfl;have e4:=hcu' 4 _ rfl;have q1:((tl.length:Int)==0)=false:=by rw[beq_eq_false_iff_ne];omega
    have q2:((ul.length:Int)==0)=false:=by rw[beq_eq_false_iff_ne];omega
    have i1:IntKind.i64.wrap ((tl.length:Int)-1)=(n:Int):=by rw[IntWalk.i64_in _ (by omega)];omega
    have i2:(n:Int)<(tl.length:Int):=by omega
    clear hcal hte hue hn hx hy hct hcu hcu';go_enter Tryz.func57,Tryz.ntmps57
    go_wp2_with fail;have hw0:w.heap.size+1<w1.heap.size:=by omega
    have hold: ∀ w':World,Bl w1 w'→w'.cell? ⟨w.heap.size,4,none⟩=some (.slice (some ⟨bt,ot,none⟩) tl.length ct)∧w'.cell? ⟨w.heap.size+1,4,none⟩=some (.slice (some ⟨bu,ou,none⟩) ul.length cu)∧w'.cell? ⟨bt,ot+n*5,none⟩=some (.int .i64 x.stop)∧w'.cell? ⟨bt,ot+n*5+1,none⟩=some (.int .i64 x.arrive)∧w'.cell? ⟨bt,ot+n*5+2,none⟩=some (.int .i64 x.depart)∧w'.cell? ⟨bt,ot+n*5+3,none⟩=some (.bool x.board)∧w'.cell? ⟨bt,ot+n*5+4,none⟩=some (.bool x.alight)∧w'.cell? ⟨bu,ou,none⟩=some (.int .i64 y.stop)∧w'.cell? ⟨bu,ou+1,none⟩=some (.int .i64 y.arrive)∧w'.cell? ⟨bu,ou+2,none⟩=some (.int .i64 y.depart)∧w'.cell? ⟨bu,ou+3,none⟩=some (.bool y.board)∧w'.cell? ⟨bu,ou+4,none⟩=some (.bool y.alight):=fun w' hb=>⟨((bl_cell hb).1 _ _ (by omega)).trans c04,((bl_cell hb).1 _ _ hw0).trans c14,((bl_cell hb).1 _ _ hbt).trans d0,((bl_cell hb).1 _ _ hbt).trans d1,((bl_cell hb).1 _ _ hbt).trans d2,((bl_cell hb).1 _ _ hbt).trans d3,((bl_cell hb).1 _ _ hbt).trans d4,((bl_cell hb).1 _ _ hbu).trans e0,((bl_cell hb).1 _ _ hbu).trans e1,((bl_cell hb).1 _ _ hbu).trans e2,((bl_cell hb).1 _ _ hbu).trans e3,((bl_cell hb).1 _ _ hbu).trans e4⟩
    clear hw1;go_region_held3 (fun w'=>w'.cell? ⟨w.heap.size,4,none⟩=some (.slice (some ⟨bt,ot,none⟩) tl.length ct)∧w'.cell? ⟨w.heap.size+1,4,none⟩=some (.slice (some ⟨bu,ou,none⟩) ul.length cu)∧w'.cell? ⟨bt,ot+n*5,none⟩=some (.int .i64 x.stop)∧w'.cell? ⟨bt,ot+n*5+1,none⟩=some (.int .i64 x.arrive)∧w'.cell? ⟨bt,ot+n*5+2,none⟩=some (.int .i64 x.depart)∧w'.cell? ⟨bt,ot+n*5+3,none⟩=some (.bool x.board)∧w'.cell? ⟨bt,ot+n*5+4,none⟩=some (.bool x.alight)∧w'.cell? ⟨bu,ou,none⟩=some (.int .i64 y.stop)∧w'.cell? ⟨bu,ou+1,none⟩=some (.int .i64 y.arrive)∧w'.cell? ⟨bu,ou+2,none⟩=some (.int .i64 y.depart)∧w'.cell? ⟨bu,ou+3,none⟩=some (.bool y.board)∧w'.cell? ⟨bu,ou+4,none⟩=some (.bool y.alight)) ((refine hold _ ?_;repeat(first|exact bl_refl _|refine bl_drew ?_|refine bl_alloc ?_ _|refine bl_set ?_ (by simp) _))) (fail)
    all_goals
     clear hold c02 c04 c12 c14 d0 d1 d2 d3 d4 e0 e1 e2 e3 e4;by_cases hs:x.stop=y.stop
     ·
      have q3:(x.stop != y.stop)=false:=by rw[hs];simp
      by_cases ht:y.depart<x.arrive
      ·
       have q4:decide (y.depart<x.arrive)=true:=decide_eq_true ht;have HR':=Lib.hid (HR.out.trans (by rw[if_neg (by simpa using hs),if_pos ht]));clear hs ht;go_wp2;go_ret;exact⟨ret_int (by rw[←H.out];exact HR'.out.symm),by repeat(first|exact B1.out|refine bl_drew ?_|refine bl_alloc ?_ _|refine bl_set ?_ (by simp) _)⟩
      ·
       have q4:decide (y.depart<x.arrive)=false:=decide_eq_false ht;have HR':=Lib.hid (HR.out.trans (by rw[if_neg (by simpa using hs),if_neg ht]));clear hs ht;go_wp2;go_ret;exact⟨ret_int (by rw[←H.out];exact HR'.out.symm),by repeat(first|exact B1.out|refine bl_drew ?_|refine bl_alloc ?_ _|refine bl_set ?_ (by simp) _)⟩
     ·
      have q3:(x.stop != y.stop)=true:=by simpa using hs
      have HR':=Lib.hid (HR.out.trans (by rw[if_pos hs]));clear hs;go_wp2;go_ret;exact⟨ret_int (by rw[←H.out];exact HR'.out.symm),by repeat(first|exact B1.out|refine bl_drew ?_|refine bl_alloc ?_ _|refine bl_set ?_ (by simp) _)⟩
 ·
  have qc:(tc != uc)=true:=by simpa using hcal
  have HR:=Lib.hid (follow_cal (a:=⟨tc,tl⟩) (b:=⟨uc,ul⟩) hcal);clear hcal;go_enter Tryz.func57,Tryz.ntmps57
  go_wp2;go_ret;exact⟨ret_int (by rw[←H.out];exact HR.out.symm),B1.out⟩
end Go.Proofs.YtncbcmiflffakaaGreat.Th
namespace Go.Proofs.YtncbcmiflffakaaGreat.Th
open Go.RowKit
open Frq Thr
def okX (x:ThrD):Prop:=isInt x.frm∧isInt x.to
theorem ret_r {a b:Int} {r r':Int×Int} (h:r'=(a,b)) (h':r'=r):Ending.returned (.tuple #[.int .i64 a, .int .i64 b])= .returned (.tuple #[.int .i64 r.1, .int .i64 r.2]):=by rw[←h',h]
theorem any_or {α:Type} (p q:α→Bool) (l:List α):(l.any fun y=>p y||q y)=(l.any p||l.any q):=by
 induction l with
 |nil=>rfl
 |cons y l ih=>
  rw[List.any_cons,List.any_cons,List.any_cons,ih];cases p y<;>cases q y<;>simp
theorem any_snoc {α:Type} (p:α→Bool) {l:List α} {k:Nat} {x:α} (h:l[k]? =some x):(l.take (k+1)).any p=((l.take k).any p||p x):=by
 rw[take_snoc_at h,List.any_append];simp
def FrmSet (l:List ThrD) (S:Lit→Bool):Prop:= ∀ x:Int,S (.int .i64 x)=l.any fun y=>y.frm==x
def ToSet (l:List ThrD) (S:Lit→Bool):Prop:= ∀ x:Int,S (.int .i64 x)=l.any fun y=>y.to==x
theorem setPut_int (S:Lit→Bool) (a x:Int):setPut S (.int .i64 a) (.int .i64 x)=(S (.int .i64 x)||(a==x)):=by
 by_cases h:x=a
 · rw[h,setPut_at _ (by trivial)];simp
 · rw[setPut_ne (by simpa using h),show(a==x)=false by rw[beq_eq_false_iff_ne];exact fun e=>h e.symm,Bool.or_false]
theorem FrmSet.next {l:List ThrD} {S:Lit→Bool} {k:Nat} {x:ThrD} (h:FrmSet (l.take k) S) (hx:l[k]? =some x):FrmSet (l.take (k+1)) (setPut S (.int .i64 x.frm)):=fun y=>by
 rw[setPut_int,h y,any_snoc _ hx]
theorem ToSet.next {l:List ThrD} {S:Lit→Bool} {k:Nat} {x:ThrD} (h:ToSet (l.take k) S) (hx:l[k]? =some x):ToSet (l.take (k+1)) (setPut S (.int .i64 x.to)):=fun y=>by
 rw[setPut_int,h y,any_snoc _ hx]
section
variable {ts:List TrpD} {fs:List FreqD} {pre:List ThrD} {x:ThrD}
theorem thr_9 (h:pairB ts.length x.frm x.to=false):thrErr ts fs pre x=9:=by unfold thrErr;rw[if_pos h]
theorem thr_17 (h:pairB ts.length x.frm x.to=true) (h1:(repS fs x.frm||repS fs x.to)=true):thrErr ts fs pre x=17:=by unfold thrErr;rw[if_neg (by rw[h];simp),if_pos h1]
theorem thr_f (h:pairB ts.length x.frm x.to=true) (h1:(repS fs x.frm||repS fs x.to)=false) (h2:followS (atT ts x.frm) (atT ts x.to)≠0):thrErr ts fs pre x=followS (atT ts x.frm) (atT ts x.to):=by unfold thrErr;rw[if_neg (by rw[h];simp),if_neg (by rw[h1];simp),if_pos h2]
theorem thr_6 (h:pairB ts.length x.frm x.to=true) (h1:(repS fs x.frm||repS fs x.to)=false) (h2:followS (atT ts x.frm) (atT ts x.to)=0) (h3:(pre.any fun y=>y.frm==x.frm||y.to==x.to)=true):thrErr ts fs pre x=6:=by
 unfold thrErr;rw[if_neg (by rw[h];simp),if_neg (by rw[h1];simp),if_neg (by rw[h2];simp),if_pos h3]
theorem thr_19 (h:pairB ts.length x.frm x.to=true) (h1:(repS fs x.frm||repS fs x.to)=false) (h2:followS (atT ts x.frm) (atT ts x.to)=0) (h3:(pre.any fun y=>y.frm==x.frm||y.to==x.to)=false) (h4:(chainS pre x.to).contains x.frm=true):thrErr ts fs pre x=19:=by
 unfold thrErr;rw[if_neg (by rw[h];simp),if_neg (by rw[h1];simp),if_neg (by rw[h2];simp),if_neg (by rw[h3];simp),if_pos h4]
theorem thr_0 (h:pairB ts.length x.frm x.to=true) (h1:(repS fs x.frm||repS fs x.to)=false) (h2:followS (atT ts x.frm) (atT ts x.to)=0) (h3:(pre.any fun y=>y.frm==x.frm||y.to==x.to)=false) (h4:(chainS pre x.to).contains x.frm=false):thrErr ts fs pre x=0:=by
 unfold thrErr;rw[if_neg (by rw[h];simp),if_neg (by rw[h1];simp),if_neg (by rw[h2];simp),if_neg (by rw[h3];simp),if_neg (by rw[h4];simp)]
end
theorem checkS_many {α:Type} {most:Nat} {err:List α→α→Int} {l:List α} (h:most<l.length):checkS most err l=(0,5):=by unfold checkS;rw[if_pos h]
theorem checkS_few {α:Type} {most:Nat} {err:List α→α→Int} {l:List α} (h:l.length≤most):checkS most err l=chk err (l.take 0) (l.drop 0):=by unfold checkS;rw[if_neg (by omega)];rfl
theorem check_c (vl vt vf:Value) (l:List ThrD) (ts:List TripD) (fs:List FreqD) (r:Int×Int) (H:Hid (checkS 128 (thrErr (ts.map trpOf) fs) l=r)) (hok: ∀ x∈l,okX x) (B:Nat) (w:World) (hl:ThrIn B w vl l) (ht:TripsRd B w vt ts) (hf:FreqsIn B w vf fs) (hB:B≤w.heap.size):
  Calls Tryz.prog 30 #[vl,vt,vf] w fun e w'=>e= .returned (.tuple #[.int .i64 r.1, .int .i64 r.2])∧Bl w w':=by
 obtain⟨al,capl,rfl,ll1,ll2⟩:=hl.val;obtain⟨at',capt,rfl,lt1,lt2⟩:=ht.sl.val;obtain⟨af,capf,rfl,lf1,lf2⟩:=hf.val;have HL:=Lib.hid hl;have HT:=Lib.hid ht;have HF:=Lib.hid hf;have HOK:=Lib.hid hok;clear hl ht hf hok;by_cases hmany:128<l.length
 ·
  have HR:=Lib.hid (checkS_many (err:=thrErr (ts.map trpOf) fs) hmany);go_enter Tryz.func30,Tryz.ntmps30
  go_wp2;go_ret2;exact⟨ret_r HR.out H.out,bl_refl _⟩
 ·
  have hfew:l.length≤128:=by omega
  have HR:Hid (chk (thrErr (ts.map trpOf) fs) (l.take 0) (l.drop 0)=r):=(checkS_few hfew).symm.trans H.out;have hmm:= @run_makeMap Tryz.prog;obtain⟨w1,hw1⟩: ∃ w1,(w.alloc (.map #[] 0)).alloc (.map #[] 0)=w1:=⟨_,rfl⟩;have hs1:IntSet w1 w.heap.size 0 (fun _=>false):=by rw[←hw1];exact(ownsSet_made w Tryz.prog 3 4).kept (Below.heap_alloc _ _ _ (by simp))
  have hs2:IntSet w1 (w.heap.size+1) 0 (fun _=>false):=by
   rw[←hw1];have:=ownsSet_made (w.alloc (.map #[] 0)) Tryz.prog 3 4;rw[show(w.alloc (.map #[] 0)).heap.size=w.heap.size+1 by simp]at this;exact this
  have b1:Bl w w1:=by rw[←hw1];exact bl_alloc (bl_alloc (bl_refl _) _) _
  have HS1:=Lib.hid hs1;have HS2:=Lib.hid hs2;have B1:=Lib.hid b1;clear hmany hs1 hs2 b1;go_enter Tryz.func30,Tryz.ntmps30
  go_wp2_with fail;clear hw1 hmm;go_loopw [22] (fun i wr=> ∃ (k:Nat) (S1 S2:Lit→Bool),(k≤l.length∧i= .int .i64 k)∧Hid (FrmSet (l.take k) S1∧ToSet (l.take k) S2∧IntSet wr w.heap.size k S1∧IntSet wr (w.heap.size+1) k S2)∧Hid (chk (thrErr (ts.map trpOf) fs) (l.take k) (l.drop k)=r)∧Bl w wr) (fun i _=>l.length-(intOf i).toNat)
  case atStart=>exact⟨0,_,_,⟨Nat.zero_le _,rfl⟩,⟨fun _=>rfl,fun _=>rfl,HS1.out,HS2.out⟩,HR,B1.out⟩
  case round=>
   obtain⟨k,S1,S2,⟨hk,rfl⟩,HSS,HC,hbl⟩:=hrel;have z1:=hbl.size;by_cases hlt:k<l.length
   ·
    obtain⟨bl',ol,x,rfl,hbs,hx,hc⟩:=HL.out.get hlt hbl hB;have d0:wr.cell? ⟨bl',ol+k*2,none⟩=some (.int .i64 x.frm):=hc 0 _ rfl;have d1:=hc 1 _ rfl;have hkI:(k:Int)<(l.length:Int):=by omega
    have HX:=Lib.hid hx;have HXI:=Lib.hid (HOK.out x (List.mem_of_getElem? hx));clear hx hc;obtain⟨w2,hw2⟩: ∃ w2,wr.alloc (.cells #[.int .i64 x.frm, .int .i64 x.to] 130)=w2:=⟨_,rfl⟩;have b2:Bl wr w2:=by rw[←hw2];exact bl_alloc (bl_refl _) _
    have t0:w2.cell? ⟨wr.heap.size,0,none⟩=some (.int .i64 x.frm):=by rw[←hw2,World.cell?_alloc_at (hn:=rfl)];rfl
    have t1:w2.cell? ⟨wr.heap.size,1,none⟩=some (.int .i64 x.to):=by rw[←hw2,World.cell?_alloc_at (hn:=rfl)];rfl
    have s2:w2.heap.size=wr.heap.size+1:=by rw[←hw2];simp
    have B2:Hid (Bl w w2):=bl_next hbl b2;have BR2:=Lib.hid b2;obtain⟨p,hp⟩: ∃ p,pairB ts.length x.frm x.to=p:=⟨_,rfl⟩;obtain⟨q,hq⟩: ∃ q,(repS fs x.frm||repS fs x.to)=q:=⟨_,rfl⟩;have HP:=Lib.hid hp;have HQ:=Lib.hid hq;have T0:=Lib.hid t0;have T1:=Lib.hid t1;clear hp hq b2;go_wp2_with fail;clear hw2;refine(pair_c x.frm x.to at' ts.length capt _ fs p q HP HQ B w2 (HF.out.out B2.out hB) (by omega)).mono ?_;rintro e w3 ⟨rfl,b3⟩;have B3:Hid (Bl w w3):=bl_next B2.out b3;have BR3:Hid (Bl wr w3):=bl_next BR2.out b3;have z3:=b3.size;have t0':w3.cell? ⟨wr.heap.size,0,none⟩=some (.int .i64 x.frm):=((bl_cell b3).1 _ _ (by omega)).trans T0.out;have t1':w3.cell? ⟨wr.heap.size,1,none⟩=some (.int .i64 x.to):=((bl_cell b3).1 _ _ (by omega)).trans T1.out;clear t0 t1 b3;cases p with
    |false=>
     have HE:=Lib.hid (chk_bad (err:=thrErr (ts.map trpOf) fs) HX.out (thr_9 (by rw[List.length_map];exact HP.out)) (by decide));rw[show missN false=9 from rfl];go_wp2;go_ret2;exact⟨ret_r HE.out HC.out,B3.out⟩
    |true=>
     have HPM:Hid (pairB (ts.map trpOf).length x.frm x.to=true):=by show _=_;rw[List.length_map];exact HP.out
     cases q with
     |true=>
      have HE:=Lib.hid (chk_bad (err:=thrErr (ts.map trpOf) fs) HX.out (thr_17 (pre:=l.take k) HPM.out HQ.out) (by decide));rw[show missN true=0 from rfl,show repN true true=17 from rfl];go_wp2;go_ret2;exact⟨ret_r HE.out HC.out,B3.out⟩
     |false=>
      rw[show missN true=0 from rfl,show repN true false=0 from rfl];obtain⟨⟨f1,f2⟩,⟨f3,f4⟩⟩:=pairB_in HP.out;obtain⟨i1,hi1⟩: ∃ i1:Nat,x.frm=i1:=⟨x.frm.toNat,by omega⟩;obtain⟨i2,hi2⟩: ∃ i2:Nat,x.to=i2:=⟨x.to.toNat,by omega⟩;have n1:i1<ts.length:=by omega
      have n2:i2<ts.length:=by omega
      obtain⟨bt,ot,t,rfl,hbt,ht,htc⟩:=HT.out.sl.get n1 B3.out hB;obtain⟨bt',ot',u,hat,hbu,hu,huc⟩:=HT.out.sl.get n2 B3.out hB;simp only[Option.some.injEq,Addr.mk.injEq]at hat;obtain⟨rfl,rfl,-⟩:=hat;have HFT:=Lib.hid (show atT (ts.map trpOf) x.frm=trpOf t from atT_of (by rw[hi1];exact ht));have HFU:=Lib.hid (show atT (ts.map trpOf) x.to=trpOf u from atT_of (by rw[hi2];exact hu));have HTR:=Lib.hid ((HT.out.ok t (List.mem_of_getElem? ht)).bl B3.out hB);have HUR:=Lib.hid ((HT.out.ok u (List.mem_of_getElem? hu)).bl B3.out hB);have hi1I:(i1:Int)<(ts.length:Int):=by omega
      have hi2I:(i2:Int)<(ts.length:Int):=by omega
      rw[hi1]at t0';rw[hi2]at t1';have HI1:=Lib.hid hi1;have HI2:=Lib.hid hi2;obtain⟨vt,hvt⟩: ∃ vt,t.v=vt:=⟨_,rfl⟩;obtain⟨vu,hvu⟩: ∃ vu,u.v=vu:=⟨_,rfl⟩;have a0:w3.cell? ⟨bt,ot+i1*5,none⟩=some (.string t.id):=htc 0 _ rfl;have a1:=htc 1 _ rfl;have a2:=htc 2 _ rfl;have a3:=htc 3 _ rfl;have a4:=htc 4 _ rfl;have u0:w3.cell? ⟨bt,ot+i2*5,none⟩=some (.string u.id):=huc 0 _ rfl;have u1:=huc 1 _ rfl;have u2:=huc 2 _ rfl;have u3:=huc 3 _ rfl;have u4:=huc 4 _ rfl;have htw:wr.heap.size<w3.heap.size:=by omega
      clear ht hu htc huc f1 f2 f3 f4 hi1 hi2 hvt hvu;have hold: ∀ w':World,Bl w3 w'→w'.cell? ⟨wr.heap.size,0,none⟩=some (.int .i64 i1)∧w'.cell? ⟨wr.heap.size,1,none⟩=some (.int .i64 i2)∧w'.cell? ⟨bt,ot+i1*5,none⟩=some (.string t.id)∧w'.cell? ⟨bt,ot+i1*5+1,none⟩=some (.int .i64 t.rt)∧w'.cell? ⟨bt,ot+i1*5+2,none⟩=some (.int .i64 t.cal)∧w'.cell? ⟨bt,ot+i1*5+3,none⟩=some (.bool t.step)∧w'.cell? ⟨bt,ot+i1*5+4,none⟩=some t.v∧w'.cell? ⟨bt,ot+i2*5,none⟩=some (.string u.id)∧w'.cell? ⟨bt,ot+i2*5+1,none⟩=some (.int .i64 u.rt)∧w'.cell? ⟨bt,ot+i2*5+2,none⟩=some (.int .i64 u.cal)∧w'.cell? ⟨bt,ot+i2*5+3,none⟩=some (.bool u.step)∧w'.cell? ⟨bt,ot+i2*5+4,none⟩=some u.v:=fun w' hb=>⟨((bl_cell hb).1 _ _ htw).trans t0',((bl_cell hb).1 _ _ htw).trans t1',((bl_cell hb).1 _ _ hbt).trans a0,((bl_cell hb).1 _ _ hbt).trans a1,((bl_cell hb).1 _ _ hbt).trans a2,((bl_cell hb).1 _ _ hbt).trans a3,((bl_cell hb).1 _ _ hbt).trans a4,((bl_cell hb).1 _ _ hbt).trans u0,((bl_cell hb).1 _ _ hbt).trans u1,((bl_cell hb).1 _ _ hbt).trans u2,((bl_cell hb).1 _ _ hbt).trans u3,((bl_cell hb).1 _ _ hbt).trans u4⟩
      obtain⟨rf,hrf⟩: ∃ rf,followS (trpOf t) (trpOf u)=rf:=⟨_,rfl⟩;have HRF:=Lib.hid hrf;clear hrf;go_wp2_with fail;go_region_held3 (fun w'=>w'.cell? ⟨wr.heap.size,0,none⟩=some (.int .i64 i1)∧w'.cell? ⟨wr.heap.size,1,none⟩=some (.int .i64 i2)∧w'.cell? ⟨bt,ot+i1*5,none⟩=some (.string t.id)∧w'.cell? ⟨bt,ot+i1*5+1,none⟩=some (.int .i64 t.rt)∧w'.cell? ⟨bt,ot+i1*5+2,none⟩=some (.int .i64 t.cal)∧w'.cell? ⟨bt,ot+i1*5+3,none⟩=some (.bool t.step)∧w'.cell? ⟨bt,ot+i1*5+4,none⟩=some t.v∧w'.cell? ⟨bt,ot+i2*5,none⟩=some (.string u.id)∧w'.cell? ⟨bt,ot+i2*5+1,none⟩=some (.int .i64 u.rt)∧w'.cell? ⟨bt,ot+i2*5+2,none⟩=some (.int .i64 u.cal)∧w'.cell? ⟨bt,ot+i2*5+3,none⟩=some (.bool u.step)∧w'.cell? ⟨bt,ot+i2*5+4,none⟩=some u.v) (first|exact hold _ (bl_drew (bl_refl _))|exact hold _ (bl_next (bl_drew (bl_refl _)) b4)) (first|(go_at_call 57;refine(follows_c t u rf HRF B _ (HTR.out.calls.out (bl_drew (bl_refl _)) (by omega)) (HUR.out.calls.out (bl_drew (bl_refl _)) (by omega)) (by simp;omega)).mono ?_;rintro e w4 ⟨rfl,b4⟩))
      all_goals
       have HB4:Hid (Bl w w4):=bl_next B3.out (bl_next (bl_drew (bl_refl _)) b4);have HR4:Hid (Bl wr w4):=bl_next BR3.out (bl_next (bl_drew (bl_refl _)) b4);obtain⟨t0'',t1'',-⟩:=hold _ (bl_next (bl_drew (bl_refl _)) b4);have z34:w3.heap.size≤w4.heap.size:=(bl_next (bl_drew (bl_refl _)) b4).size;clear hold t0' t1' a0 a1 a2 a3 a4 u0 u1 u2 u3 u4 b4;have HFL:Hid (followS (atT (ts.map trpOf) x.frm) (atT (ts.map trpOf) x.to)=rf):=by show _=_;rw[HFT.out,HFU.out];exact HRF.out
       have z4:=HR4.out.size;by_cases hrf:rf=0
       ·
        subst hrf;obtain⟨e1,he1⟩: ∃ e1,S1 (.int .i64 i1)=e1:=⟨_,rfl⟩;obtain⟨e2,he2⟩: ∃ e2,S2 (.int .i64 i2)=e2:=⟨_,rfl⟩;have hk1:isInt (i1:Int):=by rw[←HI1.out];exact HXI.out.1
        have hk2:isInt (i2:Int):=by rw[←HI2.out];exact HXI.out.2
        have hlook1:=((HSS.out.2.2.1.bl HR4.out).look int_law Tryz.underlying128 Tryz.underlying4 (zero_bool w4) (key_int hk1));have hlook2:=((HSS.out.2.2.2.bl HR4.out).look int_law Tryz.underlying128 Tryz.underlying4 (zero_bool w4) (key_int hk2));rw[he1]at hlook1;rw[he2]at hlook2;have HD:Hid (((l.take k).any fun y=>y.frm==x.frm||y.to==x.to)=(e1||e2)):=by
         show _=_
         rw[any_or,←he1,←he2,←HI1.out,←HI2.out,HSS.out.1,HSS.out.2.1]
        have HK1:=Lib.hid hk1;have HK2:=Lib.hid hk2;clear he1 he2 hk1 hk2;cases e1 with
        |true=>
         have HE:=Lib.hid (chk_bad (err:=thrErr (ts.map trpOf) fs) HX.out (thr_6 HPM.out HQ.out HFL.out HD.out) (by decide));go_wp2;go_ret2;exact⟨ret_r HE.out HC.out,HB4.out⟩
        |false=>
         cases e2 with
         |true=>
          have HE:=Lib.hid (chk_bad (err:=thrErr (ts.map trpOf) fs) HX.out (thr_6 HPM.out HQ.out HFL.out HD.out) (by decide));go_wp2;go_ret2;exact⟨ret_r HE.out HC.out,HB4.out⟩
         |false=>
          obtain⟨e3,he3⟩: ∃ e3,(chainS (l.take k) i2).contains (i1:Int)=e3:=⟨_,rfl⟩;have HE3:=Lib.hid he3;have htw4:wr.heap.size<w4.heap.size:=by omega
          have hold: ∀ w':World,Bl w4 w'→w'.cell? ⟨wr.heap.size,0,none⟩=some (.int .i64 i1)∧w'.cell? ⟨wr.heap.size,1,none⟩=some (.int .i64 i2):=fun w' hb=>⟨((bl_cell hb).1 _ _ htw4).trans t0'',((bl_cell hb).1 _ _ htw4).trans t1''⟩
          have hkc:(k:Int)≤(capl:Int):=by omega
          clear he3;go_wp2_with fail;clear hlook1 hlook2;go_region_held3 (fun w'=>w'.cell? ⟨wr.heap.size,0,none⟩=some (.int .i64 i1)∧w'.cell? ⟨wr.heap.size,1,none⟩=some (.int .i64 i2)) (first|exact hold _ (bl_drew (bl_refl _))|exact hold _ (bl_next (bl_drew (bl_refl _)) b5)) (first|(go_at_call 58;refine(leads_c _ (l.take k) i2 i1 e3 HE3 HK2.out (fun y hy=>(HOK.out y (List.mem_of_mem_take hy)).2) (by rw[List.length_take];omega) B _ ((HL.out.take (k:=k) (by omega)).out (bl_next HB4.out (bl_drew (bl_refl _))) hB) (by simp;omega)).mono ?_;rintro e w5 ⟨rfl,b5⟩))
          all_goals
           have HB5:Hid (Bl w w5):=bl_next HB4.out (bl_next (bl_drew (bl_refl _)) b5);have HR5:Hid (Bl wr w5):=bl_next HR4.out (bl_next (bl_drew (bl_refl _)) b5);obtain⟨y0,y1⟩:=hold _ (bl_next (bl_drew (bl_refl _)) b5);have z5:=HR5.out.size;have z45:w4.heap.size≤w5.heap.size:=(bl_next (bl_drew (bl_refl _)) b5).size;clear hold t0'' t1'' b5;cases e3 with
           |true=>
            have HE:=Lib.hid (chk_bad (err:=thrErr (ts.map trpOf) fs) HX.out (thr_19 HPM.out HQ.out HFL.out HD.out (by rw[HI1.out,HI2.out];exact HE3.out)) (by decide));go_wp2;go_ret2;exact⟨ret_r HE.out HC.out,HB5.out⟩
           |false=>
            have HG:=Lib.hid (chk_good (err:=thrErr (ts.map trpOf) fs) HX.out (thr_0 HPM.out HQ.out HFL.out HD.out (by rw[HI1.out,HI2.out];exact HE3.out)));have hs1:=HSS.out.2.2.1.bl (bl_drew HR5.out);have hs2:=HSS.out.2.2.2.bl (bl_drew HR5.out);obtain⟨wa,ha1,ha2,ha3⟩:=hs1.put int_law Tryz.underlying128 Tryz.underlying4 (by unfold maxLen;omega) (key_int HK1.out);obtain⟨wb,hb1,hb2,hb3⟩:=hs2.put int_law Tryz.underlying128 Tryz.underlying4 (by unfold maxLen;omega) (key_int HK2.out);have hs2a:=hs2.grown ha3 (by simp);have hs1b:=hs1.grown hb3 (by simp);obtain⟨wab,hab1,hab2,hab3⟩:=hs2a.put int_law Tryz.underlying128 Tryz.underlying4 (by unfold maxLen;omega) (key_int HK2.out);obtain⟨wba,hba1,hba2,hba3⟩:=hs1b.put int_law Tryz.underlying128 Tryz.underlying4 (by unfold maxLen;omega) (key_int HK1.out);have htw5:wr.heap.size<w5.heap.size:=by omega
            have zmap:=HSS.out.2.2.2.lt;have ga: ∀ j v,w5.cell? ⟨wr.heap.size,j,none⟩=some v→wa.cell? ⟨wr.heap.size,j,none⟩=some v:=fun j v h=>ha3.cell (by exact h) (by simp;omega)
            have gb: ∀ j v,w5.cell? ⟨wr.heap.size,j,none⟩=some v→wb.cell? ⟨wr.heap.size,j,none⟩=some v:=fun j v h=>hb3.cell (by exact h) (by simp;omega)
            have ya0:=ga _ _ y0;have ya1:=ga _ _ y1;have yb0:=gb _ _ y0;have yb1:=gb _ _ y1;have HAB:=Lib.hid (And.intro (hab2) (ha2.grown hab3 (by simp)));have HBA:=Lib.hid (And.intro (hba2) (hb2.grown hba3 (by simp)));have HBAB:Hid (Bl w wab):=((bl_drew HB5.out).grown ha3 (by simp;omega) (fun k hk=>by cases hk;omega)).grown hab3 (by have:=ha3.size;simp at this;omega) (fun k hk=>by cases hk;omega);have HBBA:Hid (Bl w wba):=((bl_drew HB5.out).grown hb3 (by simp;omega) (fun k hk=>by cases hk;omega)).grown hba3 (by have:=hb3.size;simp at this;omega) (fun k hk=>by cases hk;omega);clear hs1 hs2 ha2 ha3 hb2 hb3 hs2a hs1b hab2 hab3 hba2 hba3 ga gb;go_wp2_with fail;go_region
            all_goals
             go_wp2;go_roundw;case rel=>
              have hF:=HSS.out.1.next HX.out;have hT:=HSS.out.2.1.next HX.out;rw[HI1.out]at hF;rw[HI2.out]at hT;first
              |exact⟨k+1,_,_,⟨by omega,by go_num⟩,⟨hF,hT,HAB.out.2,HAB.out.1⟩,HG.out.symm.trans HC.out,HBAB.out⟩
              |exact⟨k+1,_,_,⟨by omega,by go_num⟩,⟨hF,hT,HBA.out.1,HBA.out.2⟩,HG.out.symm.trans HC.out,HBBA.out⟩
             case measure=>simp[intOf];omega
       ·
        have q:(rf != 0)=true:=by simpa using hrf
        have HE:=Lib.hid (chk_bad (err:=thrErr (ts.map trpOf) fs) HX.out ((thr_f HPM.out HQ.out (by rw[HFL.out];exact hrf)).trans HFL.out) hrf);clear hrf;go_wp2;go_ret2;exact⟨ret_r HE.out HC.out,HB4.out⟩
   ·
    have HE:=Lib.hid (chk_end (err:=thrErr (ts.map trpOf) fs) (show l.length≤k by omega));go_wp2;go_ret2;exact⟨ret_r HE.out HC.out,hbl⟩
end Go.Proofs.YtncbcmiflffakaaGreat.Th
namespace Go.Proofs.YtncbcmiflffakaaGreat.Th
open Go.RowKit
open Frq Thr
def TCl (w:World) (b:Nat) (t:TripD) (v:Value):Prop:=w.cell? ⟨b,0,none⟩=some (.string t.id)∧w.cell? ⟨b,1,none⟩=some (.int .i64 t.rt)∧w.cell? ⟨b,2,none⟩=some (.int .i64 t.cal)∧w.cell? ⟨b,3,none⟩=some (.bool t.step)∧w.cell? ⟨b,4,none⟩=some v
theorem TCl.bl {w w':World} {b:Nat} {t:TripD} {v:Value} (h:TCl w b t v) (hlt:b<w.heap.size) (hb:Bl w w'):TCl w' b t v:=by
 obtain⟨h0,h1,h2,h3,h4⟩:=h;exact⟨((bl_cell hb).1 _ _ hlt).trans h0,((bl_cell hb).1 _ _ hlt).trans h1,((bl_cell hb).1 _ _ hlt).trans h2,((bl_cell hb).1 _ _ hlt).trans h3,((bl_cell hb).1 _ _ hlt).trans h4⟩
end Go.Proofs.YtncbcmiflffakaaGreat.Th
namespace Go.Proofs.YtncbcmiflffakaaGreat.Th
open Go.RowKit
open Go.Maps (Keyed)
open Frq Thr
theorem laidOut:laidOutB Tryz.prog=true:=by kernel_rfl
theorem gua_law:Keyed Tryz.prog 137:=Keyed.of_law (deep_law_laid laidOut (m:=5) (by omega) (by decide+kernel) (by kernel_rfl) (by kernel_rfl))
def gv (x:GuaD):Value:= .agg #[.int .i64 x.frm, .int .i64 x.to, .int .i64 x.stop]
def okG (x:GuaD):Prop:=isInt x.frm∧isInt x.to∧isInt x.stop
theorem gua_type:Tryz.prog.keyType 137=true:=by kernel_rfl
theorem gua_cells:Tryz.prog.cellsOf 137=3:=by kernel_rfl
theorem int_cells:Tryz.prog.cellsOf 3=1:=by kernel_rfl
theorem types_pos: ∃ n,Tryz.prog.types.size=n+1:=by
 have h:0<Tryz.prog.types.size:=by decide+kernel
 exact⟨Tryz.prog.types.size-1,by omega⟩
theorem gk_ex {x:GuaD} (h:okG x): ∃ kl,keyOf Tryz.prog 137 (gv x)=some kl:=by
 obtain⟨n,hn⟩:=types_pos;have w1:=wf_int h.1;have w2:=wf_int h.2.1;have w3:=wf_int h.2.2;unfold keyOf gv;rw[Tryz.underlying137];simp only[gua_type,Value.formed,Tryz.underlying137,gua_cells,hn];simp[Program.keyLits,Tryz.underlying137,Tryz.underlying3,gua_cells,int_cells,w1,w2,w3,Value.cells]
def KeyFn (gk:GuaD→Lit):Prop:= ∀ x,okG x→keyOf Tryz.prog 137 (gv x)=some (gk x)
theorem keyFn_ex: ∃ gk,KeyFn gk:=by
 have h: ∀ x:GuaD,∃ kl,okG x→keyOf Tryz.prog 137 (gv x)=some kl:=fun x=>by
  by_cases hx:okG x
  ·
   obtain⟨kl,hk⟩:=gk_ex hx;exact⟨kl,fun _=>hk⟩
  · exact⟨.bool false,fun h=>absurd h hx⟩
 exact⟨fun x=>Classical.choose (h x),fun x hx=>Classical.choose_spec (h x) hx⟩
theorem gk_inj {gk:GuaD→Lit} (K:KeyFn gk) {x y:GuaD} (hx:okG x) (hy:okG y) (h:gk x=gk y):x=y:=by
 have:=gua_law.inj (K x hx) (h ▸ K y hy);cases x
 cases y
 simpa[gv]using this
def GuaSet (gk:GuaD→Lit) (l:List GuaD) (S:Lit→Bool):Prop:= ∀ x:GuaD,okG x→S (gk x)=l.contains x
theorem GuaSet.next {gk:GuaD→Lit} (K:KeyFn gk) {l:List GuaD} {S:Lit→Bool} {k:Nat} {x:GuaD} (h:GuaSet gk (l.take k) S) (hx:l[k]? =some x) (hk:okG x):GuaSet gk (l.take (k+1)) (setPut S (gk x)):=fun y hy=>by
 rw[take_snoc_at hx];by_cases e:y=x
 · rw[e,setPut_at _ (gua_law.key (K x hk))];simp
 ·
  rw[setPut_ne (fun e'=>e (gk_inj K hy hk e')),h y hy];simp[e]
abbrev GuSet (w:World) (b n:Nat) (S:Lit→Bool):Prop:=OwnsSet w Tryz.prog 137 4 b n S
section
variable {ts:List TrpD} {fs:List FreqD} {stops:Int} {pre:List GuaD} {x:GuaD}
theorem gua_9 (h:pairB ts.length x.frm x.to=false):guaErr ts fs stops pre x=9:=by unfold guaErr;rw[if_pos h]
theorem gua_9' (h:pairB ts.length x.frm x.to=true) (h0:inB x.stop stops=false):guaErr ts fs stops pre x=9:=by unfold guaErr;rw[if_neg (by rw[h];simp),if_pos h0]
theorem gua_17 (h:pairB ts.length x.frm x.to=true) (h0:inB x.stop stops=true) (h1:(repS fs x.frm||repS fs x.to)=true):guaErr ts fs stops pre x=17:=by
 unfold guaErr;rw[if_neg (by rw[h];simp),if_neg (by rw[h0];simp),if_pos h1]
theorem gua_19 (h:pairB ts.length x.frm x.to=true) (h0:inB x.stop stops=true) (h1:(repS fs x.frm||repS fs x.to)=false) (h2:(meetsS (atT ts x.frm).calls (atT ts x.to).calls x.stop).2.2=false):guaErr ts fs stops pre x=19:=by
 unfold guaErr;rw[if_neg (by rw[h];simp),if_neg (by rw[h0];simp),if_neg (by rw[h1];simp),if_pos h2]
theorem gua_6 (h:pairB ts.length x.frm x.to=true) (h0:inB x.stop stops=true) (h1:(repS fs x.frm||repS fs x.to)=false) (h2:(meetsS (atT ts x.frm).calls (atT ts x.to).calls x.stop).2.2=true) (h3:pre.contains x=true):guaErr ts fs stops pre x=6:=by
 unfold guaErr;rw[if_neg (by rw[h];simp),if_neg (by rw[h0];simp),if_neg (by rw[h1];simp),if_neg (by rw[h2];simp),if_pos h3]
theorem gua_0 (h:pairB ts.length x.frm x.to=true) (h0:inB x.stop stops=true) (h1:(repS fs x.frm||repS fs x.to)=false) (h2:(meetsS (atT ts x.frm).calls (atT ts x.to).calls x.stop).2.2=true) (h3:pre.contains x=false):guaErr ts fs stops pre x=0:=by
 unfold guaErr;rw[if_neg (by rw[h];simp),if_neg (by rw[h0];simp),if_neg (by rw[h1];simp),if_neg (by rw[h2];simp),if_neg (by rw[h3];simp)]
end
theorem gcheck_c (vl vt vf:Value) (l:List GuaD) (ts:List TripD) (fs:List FreqD) (stops:Int) (r:Int×Int) (H:Hid (checkS 128 (guaErr (ts.map trpOf) fs stops) l=r)) (hok: ∀ x∈l,okG x) (B:Nat) (w:World) (hl:GuaIn B w vl l) (ht:TripsRd B w vt ts) (hf:FreqsIn B w vf fs) (hB:B≤w.heap.size):
  Calls Tryz.prog 32 #[vl,vt,vf, .int .i64 stops] w fun e w'=>e= .returned (.tuple #[.int .i64 r.1, .int .i64 r.2])∧Bl w w':=by
 obtain⟨gk,KG⟩:=keyFn_ex;obtain⟨al,capl,rfl,ll1,ll2⟩:=hl.val;obtain⟨at',capt,rfl,lt1,lt2⟩:=ht.sl.val;obtain⟨af,capf,rfl,lf1,lf2⟩:=hf.val;have HL:=Lib.hid hl;have HT:=Lib.hid ht;have HF:=Lib.hid hf;have HOK:=Lib.hid hok;clear hl ht hf hok;by_cases hmany:128<l.length
 ·
  have HR:=Lib.hid (checkS_many (err:=guaErr (ts.map trpOf) fs stops) hmany);go_enter Tryz.func32,Tryz.ntmps32
  go_wp2;go_ret2;exact⟨ret_r HR.out H.out,bl_refl _⟩
 ·
  have hfew:l.length≤128:=by omega
  have HR:Hid (chk (guaErr (ts.map trpOf) fs stops) (l.take 0) (l.drop 0)=r):=(checkS_few hfew).symm.trans H.out;have hmm:= @run_makeMap Tryz.prog;have HS1:Hid (GuSet (w.alloc (.map #[] 0)) w.heap.size 0 (fun _=>false)):=ownsSet_made w Tryz.prog 137 4;have B1:Hid (Bl w (w.alloc (.map #[] 0))):=bl_alloc (bl_refl _) _;clear hmany;go_enter Tryz.func32,Tryz.ntmps32
  go_wp2_with fail;clear hmm;go_loopw [24] (fun i wr=> ∃ (k:Nat) (S:Lit→Bool),(k≤l.length∧i= .int .i64 k)∧Hid (GuaSet gk (l.take k) S∧GuSet wr w.heap.size k S)∧Hid (chk (guaErr (ts.map trpOf) fs stops) (l.take k) (l.drop k)=r)∧Bl w wr) (fun i _=>l.length-(intOf i).toNat)
  case atStart=>exact⟨0,_,⟨Nat.zero_le _,rfl⟩,⟨fun _ _=>rfl,HS1.out⟩,HR,B1.out⟩
  case round=>
   obtain⟨k,S,⟨hk,rfl⟩,HSS,HC,hbl⟩:=hrel;have z1:=hbl.size;by_cases hlt:k<l.length
   ·
    obtain⟨bl',ol,x,rfl,hbs,hx,hc⟩:=HL.out.get hlt hbl hB;have d0:wr.cell? ⟨bl',ol+k*3,none⟩=some (.int .i64 x.frm):=hc 0 _ rfl;have d1:=hc 1 _ rfl;have d2:=hc 2 _ rfl;have hkI:(k:Int)<(l.length:Int):=by omega
    have HX:=Lib.hid hx;have HXI:=Lib.hid (HOK.out x (List.mem_of_getElem? hx));clear hx hc;obtain⟨w2,hw2⟩: ∃ w2,wr.alloc (.cells #[.int .i64 x.frm, .int .i64 x.to, .int .i64 x.stop] 137)=w2:=⟨_,rfl⟩;have b2:Bl wr w2:=by rw[←hw2];exact bl_alloc (bl_refl _) _
    have t0:w2.cell? ⟨wr.heap.size,0,none⟩=some (.int .i64 x.frm):=by rw[←hw2,World.cell?_alloc_at (hn:=rfl)];rfl
    have t1:w2.cell? ⟨wr.heap.size,1,none⟩=some (.int .i64 x.to):=by rw[←hw2,World.cell?_alloc_at (hn:=rfl)];rfl
    have t2:w2.cell? ⟨wr.heap.size,2,none⟩=some (.int .i64 x.stop):=by rw[←hw2,World.cell?_alloc_at (hn:=rfl)];rfl
    have s2:w2.heap.size=wr.heap.size+1:=by rw[←hw2];simp
    have B2:Hid (Bl w w2):=bl_next hbl b2;have BR2:=Lib.hid b2;obtain⟨p,hp⟩: ∃ p,pairB ts.length x.frm x.to=p:=⟨_,rfl⟩;obtain⟨q,hq⟩: ∃ q,(repS fs x.frm||repS fs x.to)=q:=⟨_,rfl⟩;have HP:=Lib.hid hp;have HQ:=Lib.hid hq;have T0:=Lib.hid t0;have T1:=Lib.hid t1;have T2:=Lib.hid t2;clear hp hq b2;go_wp2_with fail;clear hw2;refine(pair_c x.frm x.to at' ts.length capt _ fs p q HP HQ B w2 (HF.out.out B2.out hB) (by omega)).mono ?_;rintro e w3 ⟨rfl,b3⟩;have B3:Hid (Bl w w3):=bl_next B2.out b3;have BR3:Hid (Bl wr w3):=bl_next BR2.out b3;have z3:=b3.size;have t0':w3.cell? ⟨wr.heap.size,0,none⟩=some (.int .i64 x.frm):=((bl_cell b3).1 _ _ (by omega)).trans T0.out;have t1':w3.cell? ⟨wr.heap.size,1,none⟩=some (.int .i64 x.to):=((bl_cell b3).1 _ _ (by omega)).trans T1.out;have t2':w3.cell? ⟨wr.heap.size,2,none⟩=some (.int .i64 x.stop):=((bl_cell b3).1 _ _ (by omega)).trans T2.out;clear t0 t1 t2 b3;cases p with
    |false=>
     have HE:=Lib.hid (chk_bad (err:=guaErr (ts.map trpOf) fs stops) HX.out (gua_9 (by rw[List.length_map];exact HP.out)) (by decide));rw[show missN false=9 from rfl];go_wp2;go_ret2;exact⟨ret_r HE.out HC.out,B3.out⟩
    |true=>
     have HPM:Hid (pairB (ts.map trpOf).length x.frm x.to=true):=by show _=_;rw[List.length_map];exact HP.out
     rw[show missN true=0 from rfl];by_cases hin:inB x.stop stops=true
     ·
      have HIN:=Lib.hid hin;have hst:0≤x.stop∧x.stop<stops:=by unfold inB at hin;simpa using hin
      obtain⟨hst1,hst2⟩:=hst;have qs1:decide (x.stop<0)=false:=decide_eq_false (by omega);have qs2:decide (stops≤x.stop)=false:=decide_eq_false (by omega);clear hin;cases q with
      |true=>
       have HE:=Lib.hid (chk_bad (err:=guaErr (ts.map trpOf) fs stops) HX.out (gua_17 (pre:=l.take k) HPM.out HIN.out HQ.out) (by decide));rw[show repN true true=17 from rfl];go_wp2;go_ret2;exact⟨ret_r HE.out HC.out,B3.out⟩
      |false=>
       rw[show repN true false=0 from rfl];obtain⟨⟨f1,f2⟩,⟨f3,f4⟩⟩:=pairB_in HP.out;obtain⟨i1,hi1⟩: ∃ i1:Nat,x.frm=i1:=⟨x.frm.toNat,by omega⟩;obtain⟨i2,hi2⟩: ∃ i2:Nat,x.to=i2:=⟨x.to.toNat,by omega⟩;have n1:i1<ts.length:=by omega
       have n2:i2<ts.length:=by omega
       obtain⟨bt,ot,t,rfl,hbt,ht,htc⟩:=HT.out.sl.get n1 B3.out hB;obtain⟨bt',ot',u,hat,hbu,hu,huc⟩:=HT.out.sl.get n2 B3.out hB;simp only[Option.some.injEq,Addr.mk.injEq]at hat;obtain⟨rfl,rfl,-⟩:=hat;have HFT:=Lib.hid (show atT (ts.map trpOf) x.frm=trpOf t from atT_of (by rw[hi1];exact ht));have HFU:=Lib.hid (show atT (ts.map trpOf) x.to=trpOf u from atT_of (by rw[hi2];exact hu));have HTR:=Lib.hid ((HT.out.ok t (List.mem_of_getElem? ht)).bl B3.out hB);have HUR:=Lib.hid ((HT.out.ok u (List.mem_of_getElem? hu)).bl B3.out hB);have hi1I:(i1:Int)<(ts.length:Int):=by omega
       have hi2I:(i2:Int)<(ts.length:Int):=by omega
       rw[hi1]at t0';rw[hi2]at t1';have HI1:=Lib.hid hi1;have HI2:=Lib.hid hi2;have a4:w3.cell? ⟨bt,ot+i1*5+4,none⟩=some t.v:=htc 4 _ rfl;have u4:w3.cell? ⟨bt,ot+i2*5+4,none⟩=some u.v:=huc 4 _ rfl;have htw:wr.heap.size<w3.heap.size:=by omega
       clear ht hu htc huc f1 f2 f3 f4 hi1 hi2;have hold: ∀ w':World,Bl w3 w'→w'.cell? ⟨wr.heap.size,0,none⟩=some (.int .i64 i1)∧w'.cell? ⟨wr.heap.size,1,none⟩=some (.int .i64 i2)∧w'.cell? ⟨wr.heap.size,2,none⟩=some (.int .i64 x.stop)∧w'.cell? ⟨bt,ot+i1*5+4,none⟩=some t.v∧w'.cell? ⟨bt,ot+i2*5+4,none⟩=some u.v:=fun w' hb=>⟨((bl_cell hb).1 _ _ htw).trans t0',((bl_cell hb).1 _ _ htw).trans t1',((bl_cell hb).1 _ _ htw).trans t2',((bl_cell hb).1 _ _ hbt).trans a4,((bl_cell hb).1 _ _ hbt).trans u4⟩
       obtain⟨m,hm⟩: ∃ m,meetsS t.calls u.calls x.stop=m:=⟨_,rfl⟩;obtain⟨m1,m2,m3⟩:=m;have HM:=Lib.hid hm;clear hm;go_wp2_with fail;go_region_held3 (fun w'=>w'.cell? ⟨wr.heap.size,0,none⟩=some (.int .i64 i1)∧w'.cell? ⟨wr.heap.size,1,none⟩=some (.int .i64 i2)∧w'.cell? ⟨wr.heap.size,2,none⟩=some (.int .i64 x.stop)∧w'.cell? ⟨bt,ot+i1*5+4,none⟩=some t.v∧w'.cell? ⟨bt,ot+i2*5+4,none⟩=some u.v) (first|exact hold _ (bl_drew (bl_refl _))|exact hold _ (bl_next (bl_drew (bl_refl _)) b4)) (first|(go_at_call 59;refine(meets_c t.v u.v t.calls u.calls x.stop m1 m2 m3 HM B _ (HTR.out.calls.out (bl_drew (bl_refl _)) (by omega)) (HUR.out.calls.out (bl_drew (bl_refl _)) (by omega)) (by simp;omega)).mono ?_;rintro e w4 ⟨rfl,b4⟩))
       all_goals
        have HB4:Hid (Bl w w4):=bl_next B3.out (bl_next (bl_drew (bl_refl _)) b4);have HR4:Hid (Bl wr w4):=bl_next BR3.out (bl_next (bl_drew (bl_refl _)) b4);obtain⟨t0'',t1'',t2'',-⟩:=hold _ (bl_next (bl_drew (bl_refl _)) b4);clear hold t0' t1' t2' a4 u4 b4;have HMM:Hid ((meetsS (atT (ts.map trpOf) x.frm).calls (atT (ts.map trpOf) x.to).calls x.stop).2.2=m3):=by
         show _=_
         rw[HFT.out,HFU.out];show(meetsS t.calls u.calls x.stop).2.2=m3
         rw[HM.out]
        have z4:=HR4.out.size;cases m3 with
        |false=>
         have HE:=Lib.hid (chk_bad (err:=guaErr (ts.map trpOf) fs stops) HX.out (gua_19 (pre:=l.take k) HPM.out HIN.out HQ.out HMM.out) (by decide));go_wp2;go_ret2;exact⟨ret_r HE.out HC.out,HB4.out⟩
        |true=>
         have hset4:=HSS.out.2.bl HR4.out;have hkey:=KG x HXI.out;have hlook:=hset4.look gua_law Tryz.underlying135 Tryz.underlying4 (zero_bool w4) hkey;obtain⟨w5,hput,hset5,hgr5⟩:=hset4.put gua_law Tryz.underlying135 Tryz.underlying4 (by unfold maxLen;omega) hkey;obtain⟨c,hcc⟩: ∃ c,S (gk x)=c:=⟨_,rfl⟩;have HCC:Hid ((l.take k).contains x=c):=(HSS.out.1 x HXI.out).symm.trans hcc;rw[hcc]at hlook;unfold gv at hlook hput;rw[HI1.out,HI2.out]at hlook hput;have HB5:Hid (Bl w w5):=HB4.out.grown hgr5 (by have:=HB4.out.size;omega) (fun k hk=>by cases hk;exact Nat.le_refl _);have HS5:=Lib.hid hset5;clear hset4 hkey hset5 hgr5 hcc;cases c with
         |true=>
          have HE:=Lib.hid (chk_bad (err:=guaErr (ts.map trpOf) fs stops) HX.out (gua_6 HPM.out HIN.out HQ.out HMM.out HCC.out) (by decide));go_wp2;go_ret2;exact⟨ret_r HE.out HC.out,HB4.out⟩
         |false=>
          have HG:=Lib.hid (chk_good (err:=guaErr (ts.map trpOf) fs stops) HX.out (gua_0 HPM.out HIN.out HQ.out HMM.out HCC.out));go_wp2;go_roundw;case rel=>exact⟨k+1,_,⟨by omega,by go_num⟩,⟨HSS.out.1.next KG HX.out HXI.out,HS5.out⟩,HG.out.symm.trans HC.out,HB5.out⟩
          case measure=>simp[intOf];omega
     ·
      have hin':inB x.stop stops=false:=by simpa using hin
      have HE:=Lib.hid (chk_bad (err:=guaErr (ts.map trpOf) fs stops) HX.out (gua_9' (pre:=l.take k) HPM.out hin') (by decide));by_cases hneg:x.stop<0
      ·
       clear hin hin';have qs1:decide (x.stop<0)=true:=decide_eq_true hneg;go_wp2;go_ret2;exact⟨ret_r HE.out HC.out,B3.out⟩
      ·
       have hge:stops≤x.stop:=by
        unfold inB at hin';simp at hin'
        omega
       have qs1:decide (x.stop<0)=false:=decide_eq_false hneg;have qs2:decide (stops≤x.stop)=true:=decide_eq_true hge;clear hin hin' hneg;go_wp2;go_ret2;exact⟨ret_r HE.out HC.out,B3.out⟩
   ·
    have HE:=Lib.hid (chk_end (err:=guaErr (ts.map trpOf) fs stops) (show l.length≤k by omega));go_wp2;go_ret2;exact⟨ret_r HE.out HC.out,hbl⟩
end Go.Proofs.YtncbcmiflffakaaGreat.Th
