/-
  What the laws of top need of TFq. Conditions: those of each lemma.
-/
import Derived.Test.YtncbcmiflffakaaGreatPkMem
import Derived.Test.YtncbcmiflffakaaGreatRows
import Derived.Test.YtncbcmiflffakaaGreatPkPl
import Derived.WalkSpells
import Derived.WalkLawsBesides
import Derived.Lib.Hide
import Derived.Lib.SmallJoins
import Derived.Deep.QuietTactic
import Derived.BigQuiet
import Derived.Deep.RegionHeld3
import Derived.Deep.DeepCutAuto
import Derived.Laws.CopyOwn
import Derived.WalkKit
import Derived.BigRegion
set_option maxRecDepth 1000000
set_option maxHeartbeats 32000000
namespace Go.Proofs.YtncbcmiflffakaaGreat.Fq
open Go.RowKit
open Frq
abbrev FreqD.val (f:FreqD):Value:= .agg #[.int .i64 f.trip, .int .i64 f.frm, .int .i64 f.to, .int .i64 f.every]
theorem sound_b (f:FreqD) (b:Bool) (H:Hid (soundB f=b)) (w:World):Calls Tryz.prog 53 #[.agg #[.int .i64 f.trip, .int .i64 f.frm, .int .i64 f.to, .int .i64 f.every]] w fun e w'=>e= .returned (.bool b)∧Bl w w':=by
 rcases sound_cases f with⟨h,k⟩|⟨h,k⟩
 ·
  obtain rfl:b=true:=H.out.symm.trans k;obtain⟨h1,h2,h3,h4,h5⟩:=h;clear k H;go_enter Tryz.func53,Tryz.ntmps53
  go_wp2;go_ret;exact⟨by first|rfl|(simp;omega),bl_alloc (bl_refl _) _⟩
 ·
  obtain rfl:b=false:=H.out.symm.trans k;clear k H;rcases h with h1|⟨h1,h2⟩|⟨h1,h2,h3⟩|⟨h1,h2,h3,h4⟩|⟨h1,h2,h3,h4,h5⟩
  all_goals
   go_enter Tryz.func53,Tryz.ntmps53
   go_wp2;go_ret;exact⟨by first|rfl|(simp;done)|(simp;omega),bl_alloc (bl_refl _) _⟩
theorem count_c (f:FreqD) (h:Hid (sound f)) (w:World):Calls Tryz.prog 55 #[.agg #[.int .i64 f.trip, .int .i64 f.frm, .int .i64 f.to, .int .i64 f.every]] w fun e w'=>e= .returned (.int .i64 (cnt f))∧Bl w w':=by
 have HE:=Lib.hid (cnt_eq f h.out);have hb:=cnt_bd f h.out;have HC:Hid ((f.to-f.frm-1) / f.every+1=cnt f):=rfl;obtain⟨b0,b1⟩:=hb;rw[←HC.out]at b0 b1;obtain⟨h1,h2,h3,h4,h5⟩:=h.out;go_enter Tryz.func55,Tryz.ntmps55
 go_wp2;go_ret;exact⟨ret_int (by first|exact HE.out|exact HC.out),bl_alloc (bl_refl _) _⟩
def lastS (f:FreqD):Int:=f.frm+(cnt f-1)*f.every
theorem last_bd (f:FreqD) (h:sound f):0≤(cnt f-1)*f.every∧(cnt f-1)*f.every≤172800∧lastS f≤172800:=by
 have hc:=cnt_bd f h;have:=(cnt_lt f h (cnt f-1).toNat).2 (by omega);rw[show(((cnt f-1).toNat:Nat):Int)=cnt f-1 by omega]at this;obtain⟨h1,h2,h3,h4,h5⟩:=h;have:=Int.mul_nonneg (a:=cnt f-1) (b:=f.every) (by omega) (by omega);unfold lastS;omega
theorem last_c (f:FreqD) (h:Hid (sound f)) (w:World):Calls Tryz.prog 91 #[.agg #[.int .i64 f.trip, .int .i64 f.frm, .int .i64 f.to, .int .i64 f.every]] w fun e w'=>e= .returned (.int .i64 (lastS f))∧Bl w w':=by
 obtain⟨b0,b1⟩:=cnt_bd f h.out;obtain⟨l0,l1,l2⟩:=last_bd f h.out;have HL:Hid (f.frm+(cnt f-1)*f.every=lastS f):=rfl;rw[←HL.out]at l2;obtain⟨h1,h2,h3,h4,h5⟩:=h.out;have E1:=IntWalk.i64_in (cnt f-1) (by omega);have E2:=IntWalk.i64_in ((cnt f-1)*f.every) (by omega);have E3:=IntWalk.i64_in (f.frm+(cnt f-1)*f.every) (by omega);go_enter Tryz.func91,Tryz.ntmps91
 go_wp2_with fail;go_region_held3 (fun w'=>w'.cell? ⟨w.heap.size,0,none⟩=some (.int .i64 f.trip)∧w'.cell? ⟨w.heap.size,1,none⟩=some (.int .i64 f.frm)∧w'.cell? ⟨w.heap.size,2,none⟩=some (.int .i64 f.to)∧w'.cell? ⟨w.heap.size,3,none⟩=some (.int .i64 f.every)) ((first|(go_keep;done)|(refine⟨?_, ?_, ?_, ?_⟩<;>(rw[(bl_cell b1).1 _ _ (by simp)];first|assumption|(simp[World.cell?_alloc_new];done)|trace_state)))) (first|(go_at_call 55;refine(count_c f h _).mono ?_;rintro e w' ⟨rfl,b1⟩))
 all_goals
  go_wp2;go_ret;exact⟨ret_int HL.out,by first|exact bl_next (bl_alloc (bl_refl _) _) b1|exact bl_next (bl_drew (bl_alloc (bl_refl _) _)) b1|exact bl_drew (bl_next (bl_alloc (bl_refl _) _) b1)⟩
theorem and32 (n:Int):bits .and .i64 n 4294967295=n%4294967296:=by
 have h127:(BitVec.ofInt 64 4294967295).toNat=2 ^ 32-1:=by decide
 have key:(BitVec.ofInt 64 n&&& BitVec.ofInt 64 4294967295).toNat=(n%((2 ^ 64:Nat):Int)).toNat%2 ^ 32:=by
  rw[BitVec.toNat_and,BitVec.toNat_ofInt,h127,Nat.and_two_pow_sub_one_eq_mod]
 show IntKind.i64.wrap ((BitVec.ofInt 64 n&&& BitVec.ofInt 64 4294967295).toNat:Nat)=n%4294967296
 rw[key,IntKind.wrap_i64];omega
theorem or0 (n:Int) (h0:0≤n) (h1:n<4294967296):bits .or .i64 0 n=n:=by
 have key:(BitVec.ofInt 64 0|||BitVec.ofInt 64 n).toNat=n.toNat:=by
  rw[show BitVec.ofInt 64 0=0#64 from rfl,BitVec.zero_or,BitVec.toNat_ofInt];omega
 show IntKind.i64.wrap ((BitVec.ofInt 64 0|||BitVec.ofInt 64 n).toNat:Nat)=n
 rw[key,IntKind.wrap_i64];omega
theorem far_no (a:Int) (h0: -2305843009213693952≤a) (h1:a≤2305843009213693952) (w:World):Calls Tryz.prog 140 #[.int .i64 a] w fun e w'=>e= .returned (.bool false)∧w=w':=by
 go_enter Tryz.func140,Tryz.ntmps140
 go_wp2;go_ret;exact⟨by first|rfl|(simp;omega),rfl⟩
theorem far_yes (a:Int) (h:a< -2305843009213693952∨(-2305843009213693952≤a∧2305843009213693952<a)) (w:World):Calls Tryz.prog 140 #[.int .i64 a] w fun e w'=>e= .returned (.bool true)∧w=w':=by
 rcases h with h|⟨h,h'⟩
 all_goals
  go_enter Tryz.func140,Tryz.ntmps140
  go_wp2;go_ret;exact⟨by first|rfl|(simp;omega),rfl⟩
def MRes (t first start:Int) (e:Ending):Prop:= ∃ n,e= .returned (.tuple #[.int .i64 n, .bool (near t first start)])∧(near t first start=true→n=t-first+start)
theorem mres {t first start n:Int} {b:Bool} (hb:near t first start=b) (hn:near t first start=true→n=t-first+start):MRes t first start (.returned (.tuple #[.int .i64 n, .bool b])):=⟨n,by rw[hb],hn⟩
theorem near_iff (t first start:Int):near t first start=true↔0≤t-first+start∧t-first+start≤172800:=by simp[near]
theorem near_dec {t first start:Int} {p:Prop} [Decidable p] (h:(0≤t-first+start∧t-first+start≤172800)↔p):near t first start=decide p:=by
 rw[Bool.eq_iff_iff,near_iff,decide_eq_true_iff];exact h
theorem wide_c (t first start:Int) (ht:isInt t) (hf:isInt first) (hs:isInt start) (w:World):Calls Tryz.prog 141 #[.int .i64 t, .int .i64 first, .int .i64 start] w fun e w'=>MRes t first start e∧w=w':=by
 unfold isInt at*;obtain⟨t0,t1⟩:=ht;obtain⟨f0,f1⟩:=hf;obtain⟨s0,s1⟩:=hs;have a1:=and32 t;have a2:=and32 first;have a3:=and32 start;have a4:=and32 (t%4294967296-first%4294967296+start%4294967296);have w0:wrap64 0=0:=IntWalk.wrap64_in 0 ⟨by omega,by omega⟩;by_cases hz:t / 4294967296-first / 4294967296+start / 4294967296+(t%4294967296-first%4294967296+start%4294967296) / 4294967296=0
 ·
  have o:=or0 ((t%4294967296-first%4294967296+start)%4294967296) (by omega) (by omega);have HN:=Lib.hid (near_dec (t:=t) (first:=first) (start:=start) (p:=(t%4294967296-first%4294967296+start)%4294967296≤172800) (by omega));have HV:=Lib.hid (show near t first start=true→(t%4294967296-first%4294967296+start)%4294967296=t-first+start by intro k;rw[near_iff]at k;omega);go_enter Tryz.func141,Tryz.ntmps141
  go_wp2;go_ret2;exact⟨mres HN.out HV.out,rfl⟩
 ·
  have q:(t / 4294967296-first / 4294967296+start / 4294967296+(t%4294967296-first%4294967296+start%4294967296) / 4294967296==0)=false:=by rw[beq_eq_false_iff_ne];exact hz
  have HN:=Lib.hid (show near t first start=false by
   cases k:near t first start with
   |false=>rfl
   |true=>rw[near_iff]at k;omega)
  clear hz;go_enter Tryz.func141,Tryz.ntmps141
  go_wp2;go_ret2;exact⟨mres HN.out (fun k=>absurd (HN.out.symm.trans k) (by decide)),rfl⟩
theorem moved_c (t first start:Int) (ht:isInt t) (hf:isInt first) (hs:isInt start) (w:World):Calls Tryz.prog 123 #[.int .i64 t, .int .i64 first, .int .i64 start] w fun e w'=>MRes t first start e∧w=w':=by
 have HT:=Lib.hid ht;have HF:=Lib.hid hf;have HS:=Lib.hid hs;unfold isInt at ht hf hs;obtain⟨t0,t1⟩:=ht;obtain⟨f0,f1⟩:=hf;obtain⟨s0,s1⟩:=hs;by_cases at': -2305843009213693952≤t∧t≤2305843009213693952
 ·
  obtain⟨p0,p1⟩:=at';by_cases af: -2305843009213693952≤first∧first≤2305843009213693952
  ·
   obtain⟨p2,p3⟩:=af;by_cases ast: -2305843009213693952≤start∧start≤2305843009213693952
   ·
    obtain⟨p4,p5⟩:=ast;by_cases h0:0≤t-first+start
    ·
     have HN:=Lib.hid (near_dec (t:=t) (first:=first) (start:=start) (p:=t-first+start≤172800) (by omega));go_enter Tryz.func123,Tryz.ntmps123
     go_wp2_with fail;refine(far_no t p0 p1 _).mono ?_;rintro e w1 ⟨rfl,rfl⟩;go_wp2_with fail;refine(far_no first p2 p3 _).mono ?_;rintro e w1 ⟨rfl,rfl⟩;go_wp2_with fail;refine(far_no start p4 p5 _).mono ?_;rintro e w1 ⟨rfl,rfl⟩;go_wp2;go_ret2;exact⟨mres HN.out (fun _=>rfl),rfl⟩
    ·
     have HN:=Lib.hid (show near t first start=false by
      cases k:near t first start with
      |false=>rfl
      |true=>rw[near_iff]at k;omega)
     have h0':t-first+start<0:=by omega
     clear h0;go_enter Tryz.func123,Tryz.ntmps123
     go_wp2_with fail;refine(far_no t p0 p1 _).mono ?_;rintro e w1 ⟨rfl,rfl⟩;go_wp2_with fail;refine(far_no first p2 p3 _).mono ?_;rintro e w1 ⟨rfl,rfl⟩;go_wp2_with fail;refine(far_no start p4 p5 _).mono ?_;rintro e w1 ⟨rfl,rfl⟩;go_wp2;go_ret2;exact⟨mres HN.out (fun k=>absurd (HN.out.symm.trans k) (by decide)),rfl⟩
   ·
    have HA:=Lib.hid (show start< -2305843009213693952∨(-2305843009213693952≤start∧2305843009213693952<start) by omega);clear ast;go_enter Tryz.func123,Tryz.ntmps123
    go_wp2_with fail;refine(far_no t p0 p1 _).mono ?_;rintro e w1 ⟨rfl,rfl⟩;go_wp2_with fail;refine(far_no first p2 p3 _).mono ?_;rintro e w1 ⟨rfl,rfl⟩;go_wp2_with fail;refine(far_yes start HA.out _).mono ?_;rintro e w1 ⟨rfl,rfl⟩;go_wp2_with fail;refine(wide_c t first start HT.out HF.out HS.out _).mono ?_;rintro e w1 ⟨⟨n,rfl,HN⟩,rfl⟩;have HN:=Lib.hid HN;go_wp2;go_ret2;exact⟨⟨n,rfl,HN.out⟩,rfl⟩
  ·
   have HA:=Lib.hid (show first< -2305843009213693952∨(-2305843009213693952≤first∧2305843009213693952<first) by omega);clear af;go_enter Tryz.func123,Tryz.ntmps123
   go_wp2_with fail;refine(far_no t p0 p1 _).mono ?_;rintro e w1 ⟨rfl,rfl⟩;go_wp2_with fail;refine(far_yes first HA.out _).mono ?_;rintro e w1 ⟨rfl,rfl⟩;go_wp2_with fail;refine(wide_c t first start HT.out HF.out HS.out _).mono ?_;rintro e w1 ⟨⟨n,rfl,HN⟩,rfl⟩;have HN:=Lib.hid HN;go_wp2;go_ret2;exact⟨⟨n,rfl,HN.out⟩,rfl⟩
 ·
  have HA:=Lib.hid (show t< -2305843009213693952∨(-2305843009213693952≤t∧2305843009213693952<t) by omega);clear at';go_enter Tryz.func123,Tryz.ntmps123
  go_wp2_with fail;refine(far_yes t HA.out _).mono ?_;rintro e w1 ⟨rfl,rfl⟩;go_wp2_with fail;refine(wide_c t first start HT.out HF.out HS.out _).mono ?_;rintro e w1 ⟨⟨n,rfl,HN⟩,rfl⟩;have HN:=Lib.hid HN;go_wp2;go_ret2;exact⟨⟨n,rfl,HN.out⟩,rfl⟩
end Go.Proofs.YtncbcmiflffakaaGreat.Fq
namespace Go.Proofs.YtncbcmiflffakaaGreat.Fq
open Go.RowKit
open Frq
theorem info_call:(Tryz.prog.info? 68).map (fun i=>(i.zero,i.size,i.bytes))=some (some (.agg #[.int .i64 0, .int .i64 0, .int .i64 0, .bool false, .bool false]),5,32):=by kernel_rfl
def CRes (cs:List CallD) (start:Int) (e:Ending) (w':World):Prop:= ∃ v',e= .returned (.tuple #[v', .int .i64 (callsS cs start).2])∧CallsIn w'.heap.size w' v' (callsS cs start).1
theorem cres {cs l:List CallD} {start err:Int} {v':Value} {w':World} (h:callsS cs start=(l,err)) (hv:CallsIn w'.heap.size w' v' l):CRes cs start (.returned (.tuple #[v', .int .i64 err])) w':=⟨v',by rw[h],by rw[h];exact hv⟩
end Go.Proofs.YtncbcmiflffakaaGreat.Fq
namespace Go.Proofs.YtncbcmiflffakaaGreat
open Go.RowKit
theorem addr_add (b o j:Nat):((⟨b,o,none⟩:Addr).add j)=⟨b,o+j,none⟩:=by
 unfold Addr.add;split
 · rename_i h;subst h;rfl
 · rfl
theorem flat_cells {α:Type} {cells:α→List Value} {sz:Nat} (hsz: ∀ x,(cells x).length=sz) {w:World} {b:Nat} (xs:List α) (o:Nat)
  (h: ∀ (i:Nat) (x:α),xs[i]? =some x→ ∀ (j:Nat) (u:Value),(cells x)[j]? =some u→w.cell? ⟨b,o+i*sz+j,none⟩=some u):
  ∀ (j:Nat) (v:Value),(xs.flatMap cells)[j]? =some v→w.cell? ((⟨b,o,none⟩:Addr).add j)=some v:=by
 induction xs generalizing o with
 |nil=>intro j v hj;simp at hj
 |cons y ys ih=>
  intro j v hj;rw[List.flatMap_cons]at hj;rcases Nat.lt_or_ge j sz with k|k
  ·
   rw[List.getElem?_append_left (by rw[hsz];exact k)]at hj;have:=h 0 y rfl j v hj;rw[addr_add,show o+j=o+0*sz+j by omega];exact this
  ·
   rw[List.getElem?_append_right (by rw[hsz];exact k),hsz]at hj;have:=ih (o+sz) (fun i x hx j u hu=>by
    have:=h (i+1) x (by simpa using hx) j u hu;rw[Nat.add_mul,Nat.one_mul]at this;rw[show o+sz+i*sz+j=o+(i*sz+sz)+j by omega];exact this) (j-sz) v hj
   rw[addr_add]at this ⊢;rw[show o+j=o+sz+(j-sz) by omega];exact this
theorem run_copy_whole {P:Program} (w:World) (dT sT ty elem:TypeId) (g n dCap sCap:Nat) (a:Addr) (cur:Array Value) (t:TypeId) (cs:List Value) (sz:Nat)
  (hu:P.underlying dT=some (.slice elem)) (hs:(P.info? elem).map (·.size)=some sz)
  (hg:w.heap[g]? =some (.cells cur t (0,0))) (hn:cs.length=n*sz)
  (hsrc: ∀ j v,cs[j]? =some v→w.cell? (a.add j)=some v) (hfit:cs.length≤cur.size) (h1: ∀ v∈cs,v.oneCell'=true):
  (Builtin.copy_ #[dT,sT] ty #[.slice (some ⟨g,0,none⟩) n dCap, .slice (some a) n sCap]).run P w=
   .ok (goInt n) (w.setRow g (cs++cur.toList.drop cs.length).toArray):=by
 have hl:=run_loadCells_list (P:=P) w a cs hsrc;have hst:=run_storeCells_at P g 0 t cs 0 cur w hg (by simpa using hfit) h1;simp only[Nat.zero_add,List.take_zero,List.nil_append]at hst;cases hq:P.info? elem with
 |none=>simp[hq]at hs
 |some i=>
  have hi:i.size=sz:=by simpa[hq]using hs
  have hm:Nat.min n n=n:=Nat.min_self n;simp[Builtin.copy_,run_underlying hu,Builtin.lenOf,Builtin.firstCells,sizeOf,typeInfo,hq,hi,hm,←hn,hl,hst]
theorem wpList_copy_whole {P:Program} {w:World} {ops:Array Oper} {rest:List Oper} {o:Oper} {a:Act} {Q:Exit→Act→World→Prop} (hgd:o.guard=none) (d s:Operand) (dT sT:TypeId)
  (ho:o.op= .call { callee:= .builtin .copy,args:= #[d,s],argTypes:= #[dT,sT] }) (elem:TypeId) (hu:P.underlying dT=some (.slice elem)) (sz:Nat) (hsz:(P.info? elem).map (·.size)=some sz)
  (base g n cap sCap:Nat) (ad:Addr) (hd:a.eval d= .slice (some ⟨g,0,none⟩) n cap) (hs:a.eval s= .slice (some ad) n sCap)
  (xs:List Value) (hown:w.ownsRow base elem sz (.slice (some ⟨g,0,none⟩) n cap) n xs) (cs:List Value) (hn:cs.length=n*sz)
  (hsrc: ∀ j v,cs[j]? =some v→w.cell? (ad.add j)=some v) (h1: ∀ v∈cs,v.oneCell'=true)
  (h: ∀ w',w'.ownsRow base elem sz (.slice (some ⟨g,0,none⟩) n cap) n cs→w.grownBy w' (some g)→wpList P ops Q rest (a.put o.dst (goInt n)) w'):wpList P ops Q (o::rest) a w:=by
 refine wpList_plain hgd fun K hK=>?_
 obtain⟨hl,hx⟩:=hown;rcases hx with⟨hv,_⟩|⟨g',cap',cur,hv,hb,hg,hnc,hm,hcs,ht⟩
 · simp at hv
 ·
  simp only[Value.slice.injEq,Option.some.injEq,Addr.mk.injEq,and_true,true_and]at hv;obtain⟨rfl,rfl⟩:=hv;have hle:n*sz≤cur.size:=by rw[hcs];exact Nat.mul_le_mul_right _ hnc
  have hrun:=run_copy_whole (P:=P) w dT sT o.type elem g n cap sCap ad cur elem cs sz hu hsz hg hn hsrc (by omega) h1;unfold Oper.wp;simp[execOp,ho,resolve,invoke,builtin,hd,hs,hrun,Result.andThen]
  refine hK _ _ (h _ ⟨hn, .inr ⟨g,cap,_,rfl,hb,setRow_heap w g _ _ elem _ hg,hnc,hm, ?_, ?_⟩⟩ ⟨rfl,rfl,rfl,by simp[World.setRow],fun k _ hk=>setRow_other w g k _ (fun e=>hk (by rw[e]))⟩)
  ·
   simp
   omega
  ·
   rw[←hn];simp
end Go.Proofs.YtncbcmiflffakaaGreat
namespace Go.Proofs.YtncbcmiflffakaaGreat.Fq
open Go.RowKit
open Frq
theorem flat_len (l:List CallD):(l.flatMap callCells).length=l.length*5:=by
 induction l with
 |nil=>rfl
 |cons c l ih=>rw[List.flatMap_cons,List.length_append,ih,List.length_cons];show 5+_=_;omega
theorem flat_set2 (A B:List CallD) (x:CallD) (a d:Int) (k:Nat) (hk:A.length=k):
  (((A++x::B).flatMap callCells).set (k*5+1) (.int .i64 a)).set (k*5+2) (.int .i64 d)=(A++{ x with arrive:=a,depart:=d }::B).flatMap callCells:=by
 have hl:=flat_len A;rw[hk]at hl;rw[List.flatMap_append,List.flatMap_append,List.flatMap_cons,List.flatMap_cons];rw[List.set_append_right _ _ (by omega),List.set_append_right _ _ (by omega),hl];rw[show k*5+1-k*5=1 by omega,show k*5+2-k*5=2 by omega];rfl
def mix (cs:List CallD) (first start:Int) (k:Nat):List CallD:=(cs.take k).map (shiftC first start)++cs.drop k
theorem mix_at {cs:List CallD} {first start:Int} {k:Nat} {x:CallD} (h:cs[k]? =some x):mix cs first start k=(cs.take k).map (shiftC first start)++x::cs.drop (k+1):=by
 obtain⟨hk,rfl⟩:=List.getElem?_eq_some_iff.1 h;unfold mix;rw[List.drop_eq_getElem_cons hk]
theorem mix_succ {cs:List CallD} {first start:Int} {k:Nat} {x:CallD} (h:cs[k]? =some x):mix cs first start (k+1)=(cs.take k).map (shiftC first start)++shiftC first start x::cs.drop (k+1):=by
 unfold mix;rw[take_snoc_at h];simp
theorem mix_get {cs:List CallD} {first start:Int} {k:Nat} {x:CallD} (h:cs[k]? =some x):(mix cs first start k)[k]? =some x:=by
 rw[mix_at h];have hk:k<cs.length:=(List.getElem?_eq_some_iff.1 h).1;have e:((cs.take k).map (shiftC first start)).length=k:=by simp;omega
 rw[List.getElem?_append_right (by omega),e,Nat.sub_self];rfl
theorem mixed_step {cs:List CallD} {first start:Int} {k:Nat} {x:CallD} (h:cs[k]? =some x):
  (((mix cs first start k).flatMap callCells).set (k*5+1) (.int .i64 (x.arrive-first+start))).set (k*5+2) (.int .i64 (x.depart-first+start))=(mix cs first start (k+1)).flatMap callCells:=by
 have hk:k<cs.length:=(List.getElem?_eq_some_iff.1 h).1;rw[mix_at h,mix_succ h,flat_set2 _ _ _ _ _ _ (by simp;omega)];rfl
theorem okC_no1 {first start:Int} {x:CallD} (h:near x.arrive first start=false):okC first start x=false:=by unfold okC;rw[h];rfl
theorem okC_no2 {first start:Int} {x:CallD} (h:near x.depart first start=false):okC first start x=false:=by unfold okC;rw[h,Bool.and_false]
theorem callInfo:(Tryz.prog.info? 68).map (·.size)=some 5:=by kernel_rfl
theorem calls_c (id:ByteArray) (rt cal:Int) (step:Bool) (v:Value) (cs:List CallD) (start:Int) (hst:isInt start) (B:Nat) (w:World) (hcs:CallsIn B w v cs) (hB:B≤w.heap.size) (hok: ∀ c∈cs,okT c) (hlen:cs.length≤1000):
  Calls Tryz.prog 90 #[.agg #[.string id, .int .i64 rt, .int .i64 cal, .bool step,v], .int .i64 start] w fun e w'=>CRes cs start e w'∧Bl w w':=by
 obtain⟨i0,hi,hz0,hz1,hz2⟩:=info_parts info_call;have HC:=Lib.hid hcs;have HO:=Lib.hid hok;have HST:=Lib.hid hst;clear hcs hok hst;by_cases hlen0:0<cs.length
 ·
  obtain⟨b,o,cap,rfl,hl1,hl2,hbB,hcell⟩:=HC.out.open hlen0;obtain⟨x0,hx0⟩: ∃ x0,cs[0]? =some x0:=⟨_,List.getElem?_eq_getElem hlen0⟩;have d2:=hcell 0 x0 hx0 2 _ rfl;rw[show o+0*5+2=o+2 by omega]at d2;have hlt:b<w.heap.size:=by omega
  have HX0:=Lib.hid hx0;have HCell:=Lib.hid hcell;have q0:((cs.length:Int)==0)=false:=by rw[beq_eq_false_iff_ne];omega
  clear hcell hx0 HC;go_enter Tryz.func90,Tryz.ntmps90
  go_wp2_with (refine wpList_make_full _ rfl _ _ 46 rfl (w.heap.size+1) 68 i0 (.agg #[.int .i64 0, .int .i64 0, .int .i64 0, .bool false, .bool false]) 5 Tryz.underlying46 hi hz0 hz1 .i64 .i64 _ _ cs.length rfl rfl rfl rfl ?c1 ?c2 ?c3 ?_)
  case c1=>rw[hz2];omega
  case c2=>unfold maxLen;omega
  case c3=>simp
  intro w2 own2 gr2;have b2:Bl w w2:=(bl_alloc (bl_refl w) _).grown gr2 (by simp) (fun k hk=>by cases hk);have c4:w2.cell? ⟨w.heap.size,4,none⟩=some (.slice (some ⟨b,o,none⟩) cs.length cap):=gr2.cell (by rw[World.cell?_alloc_at (hn:=rfl)];rfl) (by simp);have HS:=Lib.hid (flat_cells (w:=w2) (b:=b) callCells_len cs o (fun i x hx j u hu=>by rw[(bl_cell b2).1 _ _ hlt];exact HCell.out i x hx j u hu));have hs2:=gr2.size;simp only[World.size_alloc]at own2 hs2;have O2:=Lib.hid own2;clear own2 gr2;go_wp2_with (refine wpList_copy_whole rfl (.tmp 24) (.tmp 26) 46 46 rfl 68 Tryz.underlying46 5 callInfo (w.heap.size+1) (w.heap.size+1) cs.length cs.length cap ⟨b,o,none⟩ rfl rfl _ O2.out (cs.flatMap callCells) (flat_len cs) HS.out ?c4 ?_)
  case c4=>
   intro u hu;simp only[List.mem_flatMap,callCells,List.mem_cons,List.not_mem_nil,or_false]at hu;obtain⟨c,_,h|h|h|h|h⟩:=hu<;>rw[h]<;>rfl
  intro w3 own3 gr3;have b3:Bl w w3:=b2.grown gr3 b2.size (fun k hk=>by cases hk;omega);have hs3:=gr3.size;have own3':w3.ownsRow (w.heap.size+1) 68 5 (.slice (some ⟨w.heap.size+1,0,none⟩) cs.length cs.length) cs.length ((mix cs x0.depart start 0).flatMap callCells):=own3;have O3:=Lib.hid own3';clear own3 own3' gr3 HS O2 c4 d2;go_wp2_with fail;go_loopw [30] (fun i wr=> ∃ k:Nat,k≤cs.length∧i= .int .i64 k∧(wr.ownsRow (w.heap.size+1) 68 5 (.slice (some ⟨w.heap.size+1,0,none⟩) cs.length cs.length) cs.length ((mix cs x0.depart start k).flatMap callCells)∧(∀ x∈cs.take k,okC x0.depart start x=true))∧Bl w wr∧w.heap.size+1<wr.heap.size) (fun i _=>cs.length-(intOf i).toNat)
  case atStart=>exact⟨0,Nat.zero_le _,rfl,⟨O3.out,by simp⟩,b3,(World.ownsRow.lt O3.out _ rfl).2⟩
  case round=>
   obtain⟨k,hk,rfl,hinv,hb,hgs⟩:=hrel;have HI:=Lib.hid hinv;clear hinv;by_cases hltk:k<cs.length
   ·
    obtain⟨x,hx⟩: ∃ x,cs[k]? =some x:=⟨_,List.getElem?_eq_getElem hltk⟩;have hc: ∀ j u,j<5→(callCells x)[j]? =some u→wr.cell? ⟨w.heap.size+1,k*5+j,none⟩=some u:=fun j u hj hu=>by
     rw[World.ownsRow.cellAt HI.out.1 (k*5+j) (by omega)];exact flat_get callCells_len (mix_get hx) hu
    have g1:=hc 1 _ (by decide) rfl;have g2:=hc 2 _ (by decide) rfl;have f1:=World.ownsRow.frozenAt HI.out.1 (k*5+1);have f2:=World.ownsRow.frozenAt HI.out.1 (k*5+2);have HX:=Lib.hid hx;have HM:Hid (x∈cs):=List.mem_of_getElem? HX.out;have HT:=Lib.hid (take_snoc_at HX.out);have HST2:=Lib.hid (mixed_step (first:=x0.depart) (start:=start) HX.out);clear hx hc;go_wp2_with fail;refine(moved_c x.arrive x0.depart start (HO.out x HM.out).1 (HO.out x0 (List.mem_of_getElem? HX0.out)).2 HST.out _).mono ?_;rintro e w5 ⟨⟨n1,rfl,N1⟩,rfl⟩;obtain⟨p1,hp1⟩: ∃ p,near x.arrive x0.depart start=p:=⟨_,rfl⟩;rw[hp1]at N1;rw[hp1];have P1:=Lib.hid (And.intro hp1 N1);clear hp1 N1;go_wp2_with fail;refine(moved_c x.depart x0.depart start (HO.out x HM.out).2 (HO.out x0 (List.mem_of_getElem? HX0.out)).2 HST.out _).mono ?_;rintro e w6 ⟨⟨n2,rfl,N2⟩,rfl⟩;obtain⟨p2,hp2⟩: ∃ p,near x.depart x0.depart start=p:=⟨_,rfl⟩;rw[hp2]at N2;rw[hp2];have P2:=Lib.hid (And.intro hp2 N2);clear hp2 N2;cases p1 with
    |false=>
     have HR:=Lib.hid (callsS_no HX0.out HM.out (okC_no1 P1.out.1));go_wp2;go_ret2;exact⟨cres HR.out slIn_nil,bl_set (bl_set hb (by simp) _) (by simp) _⟩
    |true=>
     cases p2 with
     |false=>
      have HR:=Lib.hid (callsS_no HX0.out HM.out (okC_no2 P2.out.1));go_wp2;go_ret2;exact⟨cres HR.out slIn_nil,bl_set (bl_set hb (by simp) _) (by simp) _⟩
     |true=>
      obtain⟨rfl⟩:n1=x.arrive-x0.depart+start:=P1.out.2 rfl;obtain⟨rfl⟩:n2=x.depart-x0.depart+start:=P2.out.2 rfl;have HOK:=Lib.hid (show okC x0.depart start x=true by unfold okC;rw[P1.out.1,P2.out.1];rfl);go_wp2;go_roundw;case rel=>
       refine⟨k+1,by omega,by go_num,⟨?_, ?_⟩,bl_set (bl_set hb (by simp) _) (by simp) _,by simpa[World.setCell]using hgs⟩
       ·
        have:=((World.ownsRow.stored HI.out.1 (k*5+1) (.int .i64 (x.arrive-x0.depart+start))).1.stored (k*5+2) (.int .i64 (x.depart-x0.depart+start))).1;rw[HST2.out]at this;exact this
       ·
        intro y hy;rw[HT.out]at hy;rcases List.mem_append.1 hy with hy|hy
        · exact HI.out.2 y hy
        · rw[List.mem_singleton.1 hy];exact HOK.out
      case measure=>simp[intOf];omega
   ·
    have hkn:k=cs.length:=by omega
    have HF:Hid (wr.ownsRow (w.heap.size+1) 68 5 (.slice (some ⟨w.heap.size+1,0,none⟩) cs.length cs.length) (cs.map (shiftC x0.depart start)).length ((cs.map (shiftC x0.depart start)).flatMap callCells)):=by
     have:=HI.out.1;unfold mix at this;rw[List.take_of_length_le (by omega),List.drop_of_length_le (by omega),List.append_nil]at this;show World.ownsRow _ _ _ _ _ _ _
     rw[List.length_map];exact this
    have HR:=Lib.hid (callsS_yes HX0.out (by rw[List.all_eq_true];exact fun y hy=>HI.out.2 y (by rw[List.take_of_length_le (by omega)];exact hy)));clear hkn;go_wp2;go_ret2;exact⟨cres HR.out (slIn_own (fun _=>rfl) HF.out),hb⟩
 ·
  obtain⟨a,cap,rfl,hl2,rfl⟩:=HC.out.empty (by omega);go_enter Tryz.func90,Tryz.ntmps90
  go_wp2;go_ret2;exact⟨cres (callsS_nil start) slIn_nil,bl_alloc (bl_refl _) _⟩
end Go.Proofs.YtncbcmiflffakaaGreat.Fq
namespace Go.Proofs.YtncbcmiflffakaaGreat.Fq
open Go.RowKit
open Frq
def repB (fs:List FreqD) (t:Int):Bool:=fs.any fun f=>f.trip==t
theorem rep_b (v:Value) (fs:List FreqD) (t:Int) (r:Bool) (H:Hid (repB fs t=r)) (B:Nat) (w:World) (ha:FreqsIn B w v fs) (hB:B≤w.heap.size):
  Calls Tryz.prog 93 #[v, .int .i64 t] w fun e w'=>e= .returned (.bool r)∧Bl w w':=by
 by_cases h0:0<fs.length
 ·
  obtain⟨b1,o1,cap1,rfl,l1,m1,hb1,hc1⟩:=ha.open h0;have H1:=Lib.hid hc1;clear ha hc1;go_enter Tryz.func93,Tryz.ntmps93
  go_wp2;go_loopw [9] (fun i wr=> ∃ k:Nat,k≤fs.length∧i= .int .i64 k∧Hid ((fs.take k).any (fun f=>f.trip==t)=false)∧Bl w wr) (fun i _=>fs.length-(intOf i).toNat)
  case atStart=>exact⟨0,Nat.zero_le _,rfl,rfl,bl_refl _⟩
  case round=>
   obtain⟨k,hk,rfl,HA,hbl⟩:=hrel;by_cases hlt:k<fs.length
   ·
    obtain⟨x,hx⟩: ∃ x,fs[k]? =some x:=⟨_,List.getElem?_eq_getElem hlt⟩;have c1: ∀ j u,(freqCells x)[j]? =some u→wr.cell? ⟨b1,o1+k*4+j,none⟩=some u:=fun j u hu=>by rw[(bl_cell hbl).1 _ _ (by omega)];exact H1.out k x hx j u hu
    have d10:wr.cell? ⟨b1,o1+k*4,none⟩=some (.int .i64 x.trip):=c1 0 _ rfl;have d11:=c1 1 _ rfl;have d12:=c1 2 _ rfl;have d13:=c1 3 _ rfl;have HX:=Lib.hid hx;clear hx c1;by_cases he:x.trip=t
    ·
     have HR:=Lib.hid (show r=true by rw[←H.out];exact any_yes HX.out (by simp[he]));have q:(x.trip==t)=true:=by rw[beq_iff_eq];exact he
     clear he;go_wp2;go_ret;exact⟨ret_bool HR.out.symm,bl_alloc hbl _⟩
    ·
     have q:(x.trip==t)=false:=by rw[beq_eq_false_iff_ne];exact he
     have HN:=Lib.hid ((any_take (p:=fun f:FreqD=>f.trip==t) HX.out HA.out).trans q);clear he;go_wp2;go_roundw;case rel=>exact⟨k+1,by omega,by go_num,HN,bl_alloc hbl _⟩
     case measure=>simp[intOf];omega
   ·
    have HR:=Lib.hid (show r=false by
     have:=HA.out;rw[List.take_of_length_le (by omega)]at this;rw[←H.out];exact this)
    go_wp2;go_ret;exact⟨ret_bool HR.out.symm,hbl⟩
 ·
  obtain⟨a1,c1,rfl,m1,rfl⟩:=ha.empty (by omega);obtain rfl:r=false:=H.out.symm;go_enter Tryz.func93,Tryz.ntmps93
  go_wp2_with fail;refine wp_loop_rounds 1 ?_;rw[rounds_succ];go_wp2;go_ret;exact⟨rfl,bl_refl _⟩
end Go.Proofs.YtncbcmiflffakaaGreat.Fq
namespace Go.Proofs.YtncbcmiflffakaaGreat.Fq
open Go.RowKit
open Frq
theorem info_int:(Tryz.prog.info? 3).map (fun i=>(i.zero,i.size,i.bytes))=some (some (.int .i64 0),1,8):=by kernel_rfl
end Go.Proofs.YtncbcmiflffakaaGreat.Fq
namespace Go.Proofs.YtncbcmiflffakaaGreat.Fq
open Go.RowKit
open Frq
structure TripOk (B:Nat) (w:World) (t:TripD):Prop where
 calls:CallsIn B w t.v t.calls
 ok: ∀ c∈t.calls,okT c
 len:t.calls.length≤1000
theorem TripOk.bl {B:Nat} {w w':World} {t:TripD} (h:TripOk B w t) (hb:Bl w w') (hB:B≤w.heap.size):TripOk B w' t:=⟨h.calls.below (hb.mono hB),h.ok,h.len⟩
def fitsB (cs:List CallD) (f:FreqD):Bool:=cs.isEmpty||((callsS cs f.frm).2==0&&(callsS cs (lastS f)).2==0)
theorem fits_b (id:ByteArray) (rt cal:Int) (step:Bool) (v:Value) (cs:List CallD) (f:FreqD) (hf:sound f) (r:Bool) (H:Hid (fitsB cs f=r)) (B:Nat) (w:World) (hcs:CallsIn B w v cs) (hB:B≤w.heap.size) (hok: ∀ c∈cs,okT c) (hlen:cs.length≤1000):
  Calls Tryz.prog 54 #[.agg #[.string id, .int .i64 rt, .int .i64 cal, .bool step,v], .agg #[.int .i64 f.trip, .int .i64 f.frm, .int .i64 f.to, .int .i64 f.every]] w fun e w'=>e= .returned (.bool r)∧Bl w w':=by
 have HC:=Lib.hid hcs;have HO:=Lib.hid hok;have HF:=Lib.hid hf;clear hok;by_cases hlen0:0<cs.length
 ·
  obtain⟨b,o,cap,rfl,hl1,hl2,hbB,-⟩:=hcs.open hlen0;clear hcs;have q0:((cs.length:Int)==0)=false:=by rw[beq_eq_false_iff_ne];omega
  obtain⟨l0,l1,l2⟩:=last_bd f hf;have HI1:Hid (isInt f.frm):=by obtain⟨h1,h2,h3,h4,h5⟩:=hf;constructor<;>omega
  have HI2:Hid (isInt (lastS f)):=by obtain⟨h1,h2,h3,h4,h5⟩:=hf;unfold lastS at*;constructor<;>omega
  clear l0 l1 l2 hf;go_enter Tryz.func54,Tryz.ntmps54
  go_wp2_with fail;obtain⟨w1,hw1⟩: ∃ w1,(w.alloc (.cells #[.string id, .int .i64 rt, .int .i64 cal, .bool step, .slice (some ⟨b,o,none⟩) cs.length cap] 63)).alloc (.cells #[.int .i64 f.trip, .int .i64 f.frm, .int .i64 f.to, .int .i64 f.every] 124)=w1:=⟨_,rfl⟩;rw[hw1];have b1:Bl w w1:=by rw[←hw1];exact bl_alloc (bl_alloc (bl_refl _) _) _
  have s1:w1.heap.size=w.heap.size+2:=by rw[←hw1];simp
  have kt: ∀ j u,(tripCells ⟨id,rt,cal,step, .slice (some ⟨b,o,none⟩) cs.length cap,cs⟩)[j]? =some u→w1.cell? ⟨w.heap.size,j,none⟩=some u:=by
   intro j u hu;rw[←hw1,(bl_cell (bl_alloc (bl_refl _) _)).1 _ _ (by simp),World.cell?_alloc_at (hn:=rfl)];simpa[tripCells]using hu
  have kf: ∀ j u,(freqCells f)[j]? =some u→w1.cell? ⟨w.heap.size+1,j,none⟩=some u:=by
   intro j u hu;rw[←hw1,World.cell?_alloc_at (hn:=by simp)];simpa[freqCells]using hu
  have KT:=Lib.hid kt;have KF:=Lib.hid kf;clear kt kf hw1;refine(calls_c id rt cal step _ cs f.frm HI1.out B w1 (HC.out.below (b1.mono hB)) (by omega) HO.out hlen).mono ?_;rintro e w2 ⟨⟨v1,rfl,-⟩,b2⟩;have hs2:=b2.size;have kt2: ∀ j u,(tripCells ⟨id,rt,cal,step, .slice (some ⟨b,o,none⟩) cs.length cap,cs⟩)[j]? =some u→w2.cell? ⟨w.heap.size,j,none⟩=some u:=fun j u hu=>((bl_cell b2).1 _ _ (by omega)).trans (KT.out j u hu)
  have kf2: ∀ j u,(freqCells f)[j]? =some u→w2.cell? ⟨w.heap.size+1,j,none⟩=some u:=fun j u hu=>((bl_cell b2).1 _ _ (by omega)).trans (KF.out j u hu)
  have t0:=kt2 0 _ rfl;have t1:=kt2 1 _ rfl;have t2:=kt2 2 _ rfl;have t3:=kt2 3 _ rfl;have t4:=kt2 4 _ rfl;have f0:=kf2 0 _ rfl;have f1:=kf2 1 _ rfl;have f2:=kf2 2 _ rfl;have f3:=kf2 3 _ rfl;have HC2:Hid (CallsIn B w2 (.slice (some ⟨b,o,none⟩) cs.length cap) cs):=HC.out.below ((bl_next b1 b2).mono hB);have B2:=Lib.hid (bl_next b1 b2);have KT2:=Lib.hid kt2;clear kt2 kf2 b1 b2;have hold: ∀ w':World,Bl w2 w'→Bl w2 w'∧CallsIn B w' (.slice (some ⟨b,o,none⟩) cs.length cap) cs∧w'.cell? ⟨w.heap.size,0,none⟩=some (.string id)∧w'.cell? ⟨w.heap.size,1,none⟩=some (.int .i64 rt)∧w'.cell? ⟨w.heap.size,2,none⟩=some (.int .i64 cal)∧w'.cell? ⟨w.heap.size,3,none⟩=some (.bool step)∧w'.cell? ⟨w.heap.size,4,none⟩=some (.slice (some ⟨b,o,none⟩) cs.length cap)∧w'.cell? ⟨w.heap.size+1,0,none⟩=some (.int .i64 f.trip)∧w'.cell? ⟨w.heap.size+1,1,none⟩=some (.int .i64 f.frm)∧w'.cell? ⟨w.heap.size+1,2,none⟩=some (.int .i64 f.to)∧w'.cell? ⟨w.heap.size+1,3,none⟩=some (.int .i64 f.every):=fun w' hb=>⟨hb,HC2.out.below (hb.mono (by omega)),((bl_cell hb).1 _ _ (by omega)).trans t0,((bl_cell hb).1 _ _ (by omega)).trans t1,((bl_cell hb).1 _ _ (by omega)).trans t2,((bl_cell hb).1 _ _ (by omega)).trans t3,((bl_cell hb).1 _ _ (by omega)).trans t4,((bl_cell hb).1 _ _ (by omega)).trans f0,((bl_cell hb).1 _ _ (by omega)).trans f1,((bl_cell hb).1 _ _ (by omega)).trans f2,((bl_cell hb).1 _ _ (by omega)).trans f3⟩
  go_wp2_with fail;go_region_held3 (fun w'=>Bl w2 w'∧CallsIn B w' (.slice (some ⟨b,o,none⟩) cs.length cap) cs∧w'.cell? ⟨w.heap.size,0,none⟩=some (.string id)∧w'.cell? ⟨w.heap.size,1,none⟩=some (.int .i64 rt)∧w'.cell? ⟨w.heap.size,2,none⟩=some (.int .i64 cal)∧w'.cell? ⟨w.heap.size,3,none⟩=some (.bool step)∧w'.cell? ⟨w.heap.size,4,none⟩=some (.slice (some ⟨b,o,none⟩) cs.length cap)∧w'.cell? ⟨w.heap.size+1,0,none⟩=some (.int .i64 f.trip)∧w'.cell? ⟨w.heap.size+1,1,none⟩=some (.int .i64 f.frm)∧w'.cell? ⟨w.heap.size+1,2,none⟩=some (.int .i64 f.to)∧w'.cell? ⟨w.heap.size+1,3,none⟩=some (.int .i64 f.every)) (first|exact hold _ (bl_drew (bl_refl _))|exact hold _ (bl_next (bl_drew (bl_refl _)) b3)|exact hold _ (bl_next (bl_next (bl_drew (bl_refl _)) b3) b4)) (first|(go_at_call 91;refine(last_c f HF _).mono ?_;rintro e w3 ⟨rfl,b3⟩)|(go_at_call 90;refine(calls_c id rt cal step _ cs (lastS f) HI2.out B _ (HC2.out.below ((bl_next (bl_drew (bl_refl _)) b3).mono (by omega))) (by have:=b3.size;simp at this;omega) HO.out hlen).mono ?_;rintro e w4 ⟨⟨v3,rfl,-⟩,b4⟩))
  have BF:Hid (Bl w _):=bl_next (bl_next (bl_next B2.out (bl_drew (bl_refl _))) b3) b4;have HR:Hid (((callsS cs f.frm).2==0&&(callsS cs (lastS f)).2==0)=r):=by
   have:=H.out;unfold fitsB at this;rw[show cs.isEmpty=false by cases cs<;>simp at*]at this;exact this
  obtain⟨e1,he1⟩: ∃ e1,(callsS cs f.frm).2=e1:=⟨_,rfl⟩;obtain⟨e2,he2⟩: ∃ e2,(callsS cs (lastS f)).2=e2:=⟨_,rfl⟩;rw[he1,he2]at HR;rw[he1,he2];clear he1 he2 hold;rcases Bool.eq_false_or_eq_true (e1==0)with q1|q1
  ·
   rcases Bool.eq_false_or_eq_true (e2==0)with q2|q2
   all_goals
    have HB:Hid (r=_):=HR.out.symm.trans (by rw[q1,q2]);go_wp2;go_ret;exact⟨ret_bool (by rw[HB.out];rfl),BF.out⟩
  ·
   have HB:Hid (r=_):=HR.out.symm.trans (by rw[q1]);go_wp2;go_ret;exact⟨ret_bool (by rw[HB.out];rfl),BF.out⟩
 ·
  obtain⟨a,cap,rfl,hcap,rfl⟩:=hcs.empty (by omega);have HB:Hid (r=true):=H.out.symm;clear HC;go_enter Tryz.func54,Tryz.ntmps54
  go_wp2_with fail;go_ret;exact⟨ret_bool HB.out.symm,bl_alloc (bl_alloc (bl_refl _) _) _⟩
end Go.Proofs.YtncbcmiflffakaaGreat.Fq
namespace Go.Proofs.YtncbcmiflffakaaGreat.Fq
open Go.RowKit
open Frq
def oneOf (f g:FreqD):Int:=if g.trip==f.trip then cnt g else 0
def sumOf (f:FreqD) (pre:List FreqD):Int:=(pre.map (oneOf f)).sum
theorem sumOf_snoc (f:FreqD) (pre:List FreqD) (g:FreqD):sumOf f (pre++[g])=sumOf f pre+oneOf f g:=by simp[sumOf]
theorem sumOf_bd (f:FreqD) (pre:List FreqD) (h: ∀ g∈pre,sound g):0≤sumOf f pre∧sumOf f pre≤172800*pre.length:=by
 induction pre with
 |nil=>exact⟨Int.le_refl _,by simp[sumOf]⟩
 |cons x l ih=>
  have e:sumOf f (x::l)=oneOf f x+sumOf f l:=by simp[sumOf]
  have:=ih fun g hg=>h g (List.mem_cons_of_mem _ hg)
  have:=cnt_bd x (h x (List.mem_cons_self ..));rw[e,List.length_cons];unfold oneOf;split<;>omega
def overlap (f g:FreqD):Bool:=decide (g.frm<f.to)&&decide (f.frm<g.to)
def meetB (f g:FreqD):Bool:=(g.trip==f.trip)&&overlap f g
def fitAt (ts:List TripD) (f:FreqD):Bool:=match ts[f.trip.toNat]? with
 |some t=>fitsB t.calls f
 |none=>false
def errAt (ts:List TripD) (pre:List FreqD) (f:FreqD):Int:=
 if f.trip<0∨(ts.length:Int)≤f.trip then 9 else
 if soundB f&&fitAt ts f then(if 256<cnt f+sumOf f pre then 17 else if pre.any (meetB f)then 8 else 0)else 10
theorem errAt_9 {ts:List TripD} {pre:List FreqD} {f:FreqD} (h:f.trip<0∨(ts.length:Int)≤f.trip):errAt ts pre f=9:=by unfold errAt;rw[if_pos h]
theorem errAt_10 {ts:List TripD} {pre:List FreqD} {f:FreqD} (h0:0≤f.trip) (h1:f.trip<ts.length) (h:(soundB f&&fitAt ts f)=false):errAt ts pre f=10:=by unfold errAt;rw[if_neg (by omega),h];rfl
theorem errAt_n {ts:List TripD} {pre:List FreqD} {f:FreqD} (h0:0≤f.trip) (h1:f.trip<ts.length) (h:(soundB f&&fitAt ts f)=true):errAt ts pre f=if 256<cnt f+sumOf f pre then 17 else if pre.any (meetB f)then 8 else 0:=by unfold errAt;rw[if_neg (by omega),h];rfl
def chk (ts:List TripD) (pre:List FreqD):List FreqD→Int×Int
 |[]=>(0,0)
 |f::rest=>if errAt ts pre f=0 then chk ts (pre++[f]) rest else(pre.length,errAt ts pre f)
def checkS (l:List FreqD) (ts:List TripD):Int×Int:=if 64<l.length then(0,5)else chk ts [] l
theorem chk_end {ts:List TripD} {l:List FreqD} {k:Nat} (h:l.length≤k):chk ts (l.take k) (l.drop k)=(0,0):=by
 rw[List.drop_of_length_le h];rfl
theorem chk_bad {ts:List TripD} {l:List FreqD} {k:Nat} {f:FreqD} {e:Int} (hf:l[k]? =some f) (he:errAt ts (l.take k) f=e) (hne:e≠0):chk ts (l.take k) (l.drop k)=((k:Int),e):=by
 obtain⟨hk,rfl⟩:=List.getElem?_eq_some_iff.1 hf;rw[List.drop_eq_getElem_cons hk];show(if _ then _ else _)=_
 rw[he,if_neg hne,List.length_take,Nat.min_eq_left (by omega)]
theorem chk_good {ts:List TripD} {l:List FreqD} {k:Nat} {f:FreqD} (hf:l[k]? =some f) (he:errAt ts (l.take k) f=0):chk ts (l.take k) (l.drop k)=chk ts (l.take (k+1)) (l.drop (k+1)):=by
 obtain⟨hk,rfl⟩:=List.getElem?_eq_some_iff.1 hf;rw[List.drop_eq_getElem_cons hk];show(if _ then _ else _)=_
 rw[he,if_pos rfl,take_snoc_at hf]
structure TripsIn (B:Nat) (w:World) (v:Value) (ts:List TripD):Prop where
 sl:SlIn tripCells 5 B w v ts
 ok: ∀ t∈ts,TripOk B w t
theorem TripsIn.bl {B:Nat} {w w':World} {v:Value} {ts:List TripD} (h:TripsIn B w v ts) (hb:Bl w w') (hB:B≤w.heap.size):TripsIn B w' v ts:=
 ⟨h.sl.below (hb.mono hB),fun t ht=>(h.ok t ht).bl hb hB⟩
theorem ret_ie {a b c d:Int} (h:a=c) (h':b=d):Ending.returned (.tuple #[.int .i64 a, .int .i64 b])= .returned (.tuple #[.int .i64 c, .int .i64 d]):=by rw[h,h']
end Go.Proofs.YtncbcmiflffakaaGreat.Fq
namespace Go.Proofs.YtncbcmiflffakaaGreat.Fq
open Go.RowKit
open Frq
theorem check_c (v:Value) (fs:List FreqD) (vt:Value) (ts:List TripD) (r:Int×Int) (H:Hid (checkS fs ts=r)) (B:Nat) (w:World) (ha:FreqsIn B w v fs) (ht:TripsIn B w vt ts) (hB:B≤w.heap.size):
  Calls Tryz.prog 28 #[v,vt] w fun e w'=>e= .returned (.tuple #[.int .i64 r.1, .int .i64 r.2])∧Bl w w':=by
 have HT:=Lib.hid ht;have hT: ∃ at' capt,vt= .slice at' ts.length capt∧capt≤9223372036854775807∧ts.length≤capt:=by
  obtain⟨a,c,h1,h2,h3,_⟩:=ht.sl;exact⟨a,c,h1,by unfold maxLen at h3;exact h3,h2⟩
 obtain⟨at',capt,rfl,tcap,tlen⟩:=hT;clear ht;by_cases h64:64<fs.length
 ·
  obtain⟨b1,o1,cap1,rfl,l1,m1,hb1,-⟩:=ha.open (by omega);have HR:=Lib.hid (show r=(0,5) by rw[←H.out];unfold checkS;rw[if_pos h64]);have hi:(64:Int)<(fs.length:Int):=by omega
  clear ha;go_enter Tryz.func28,Tryz.ntmps28
  go_wp2;go_ret2;exact⟨ret_ie (by rw[HR.out]) (by rw[HR.out]),bl_refl _⟩
 by_cases h0:0<fs.length
 ·
  obtain⟨b1,o1,cap1,rfl,l1,m1,hb1,hc1⟩:=ha.open h0;have H1:=Lib.hid hc1;have hi:(fs.length:Int)≤64:=by omega
  have HR:=Lib.hid (show chk ts (fs.take 0) (fs.drop 0)=r by rw[←H.out];unfold checkS;rw[if_neg h64];rfl);clear ha hc1 h64 H;go_enter Tryz.func28,Tryz.ntmps28
  go_wp2_with fail;go_loopw [17] (fun i wr=> ∃ k:Nat,k≤fs.length∧i= .int .i64 k∧Hid (chk ts (fs.take k) (fs.drop k)=r)∧Hid (∀ g∈fs.take k,sound g)∧Bl w wr) (fun i _=>fs.length-(intOf i).toNat)
  case atStart=>exact⟨0,Nat.zero_le _,rfl,HR,by simp[Hid],bl_refl _⟩
  case round=>
   rename World=>wo
   obtain⟨k,hk,rfl,HA,HSO,hbl⟩:=hrel;have hzw:=hbl.size;by_cases hlt:k<fs.length
   ·
    obtain⟨x,hx⟩: ∃ x,fs[k]? =some x:=⟨_,List.getElem?_eq_getElem hlt⟩;have c1: ∀ j u,(freqCells x)[j]? =some u→wo.cell? ⟨b1,o1+k*4+j,none⟩=some u:=fun j u hu=>by rw[(bl_cell hbl).1 _ _ (by omega)];exact H1.out k x hx j u hu
    have d10:wo.cell? ⟨b1,o1+k*4,none⟩=some (.int .i64 x.trip):=c1 0 _ rfl;have d11:=c1 1 _ rfl;have d12:=c1 2 _ rfl;have d13:=c1 3 _ rfl;have HX:=Lib.hid hx;clear hx c1;by_cases htr:x.trip<0∨(ts.length:Int)≤x.trip
    ·
     have HE:=Lib.hid (HA.out.symm.trans (chk_bad HX.out (errAt_9 htr) (by decide)));rcases Int.lt_or_le x.trip 0 with hn|hn
     ·
      clear htr;go_wp2;go_ret2;exact⟨ret_ie (by rw[HE.out]) (by rw[HE.out]),bl_alloc hbl _⟩
     ·
      have hn2:(ts.length:Int)≤x.trip:=by omega
      clear htr;go_wp2;go_ret2;exact⟨ret_ie (by rw[HE.out]) (by rw[HE.out]),bl_alloc hbl _⟩
    ·
     obtain⟨htr0,htr1⟩:0≤x.trip∧x.trip<ts.length:=by omega
     clear htr;obtain⟨bt,ot,capt',xt,hve,-,-,hbt,hxt,hct⟩:=HT.out.sl.at (k:=x.trip.toNat) (by omega);simp only[Value.slice.injEq]at hve;obtain⟨rfl,-,-⟩:=hve;have HTO:=Lib.hid (HT.out.ok xt (List.mem_of_getElem? hxt));have HFA:=Lib.hid (show fitAt ts x=fitsB xt.calls x by unfold fitAt;rw[hxt]);have HCT:=Lib.hid hct;clear hct hxt;go_wp2_with fail;obtain⟨w1,hw1⟩: ∃ w1,wo.alloc (.cells #[.int .i64 x.trip, .int .i64 x.frm, .int .i64 x.to, .int .i64 x.every] 124)=w1:=⟨_,rfl⟩;rw[hw1];have s1:w1.heap.size=wo.heap.size+1:=by rw[←hw1];simp
     have HB1:Hid (Bl w w1):=by rw[←hw1];exact bl_alloc hbl _
     have kf: ∀ j u,(freqCells x)[j]? =some u→w1.cell? ⟨wo.heap.size,j,none⟩=some u:=by
      intro j u hu;rw[←hw1,World.cell?_alloc_at (hn:=rfl)];simpa[freqCells]using hu
     have kt: ∀ j u,(tripCells xt)[j]? =some u→w1.cell? ⟨bt,ot+x.trip.toNat*5+j,none⟩=some u:=fun j u hu=>by
      rw[(bl_cell HB1.out).1 _ _ (by omega)];exact HCT.out j u hu
     have f0:=kf 0 _ rfl;have f1:=kf 1 _ rfl;have f2:=kf 2 _ rfl;have f3:=kf 3 _ rfl;have t0:w1.cell? ⟨bt,ot+x.trip.toNat*5,none⟩=some (.string xt.id):=kt 0 _ rfl;have t1:=kt 1 _ rfl;have t2:=kt 2 _ rfl;have t3:=kt 3 _ rfl;have t4:=kt 4 _ rfl;have hbt1:bt<w1.heap.size:=by omega
     have hold: ∀ w':World,Bl w1 w'→w'.cell? ⟨wo.heap.size,0,none⟩=some (.int .i64 x.trip)∧w'.cell? ⟨wo.heap.size,1,none⟩=some (.int .i64 x.frm)∧w'.cell? ⟨wo.heap.size,2,none⟩=some (.int .i64 x.to)∧w'.cell? ⟨wo.heap.size,3,none⟩=some (.int .i64 x.every)∧w'.cell? ⟨bt,ot+x.trip.toNat*5,none⟩=some (.string xt.id)∧w'.cell? ⟨bt,ot+x.trip.toNat*5+1,none⟩=some (.int .i64 xt.rt)∧w'.cell? ⟨bt,ot+x.trip.toNat*5+2,none⟩=some (.int .i64 xt.cal)∧w'.cell? ⟨bt,ot+x.trip.toNat*5+3,none⟩=some (.bool xt.step)∧w'.cell? ⟨bt,ot+x.trip.toNat*5+4,none⟩=some (xt.v):=fun w' hb=>⟨((bl_cell hb).1 _ _ (by omega)).trans f0,((bl_cell hb).1 _ _ (by omega)).trans f1,((bl_cell hb).1 _ _ (by omega)).trans f2,((bl_cell hb).1 _ _ (by omega)).trans f3,((bl_cell hb).1 _ _ (by omega)).trans t0,((bl_cell hb).1 _ _ (by omega)).trans t1,((bl_cell hb).1 _ _ (by omega)).trans t2,((bl_cell hb).1 _ _ (by omega)).trans t3,((bl_cell hb).1 _ _ (by omega)).trans t4⟩
     have KF:=Lib.hid kf;clear kf kt hw1;rcases sound_cases x with⟨hs,ks⟩|⟨_,ks⟩
     ·
      have HK:=Lib.hid ks;have HS:=Lib.hid hs;clear hs ks;rcases Bool.eq_false_or_eq_true (fitsB xt.calls x)with kf|kf
      ·
       have HF:=Lib.hid kf;have HGO:Hid ((soundB x&&fitAt ts x)=true):=by show _=_;rw[HK.out,HFA.out,HF.out];rfl
       clear kf;go_region_held3 (fun w'=>w'.cell? ⟨wo.heap.size,0,none⟩=some (.int .i64 x.trip)∧w'.cell? ⟨wo.heap.size,1,none⟩=some (.int .i64 x.frm)∧w'.cell? ⟨wo.heap.size,2,none⟩=some (.int .i64 x.to)∧w'.cell? ⟨wo.heap.size,3,none⟩=some (.int .i64 x.every)∧w'.cell? ⟨bt,ot+x.trip.toNat*5,none⟩=some (.string xt.id)∧w'.cell? ⟨bt,ot+x.trip.toNat*5+1,none⟩=some (.int .i64 xt.rt)∧w'.cell? ⟨bt,ot+x.trip.toNat*5+2,none⟩=some (.int .i64 xt.cal)∧w'.cell? ⟨bt,ot+x.trip.toNat*5+3,none⟩=some (.bool xt.step)∧w'.cell? ⟨bt,ot+x.trip.toNat*5+4,none⟩=some (xt.v)) (first|exact hold _ (bl_drew (bl_refl _))|exact hold _ (bl_next (bl_drew (bl_refl _)) b3)|exact hold _ (bl_next (bl_next (bl_drew (bl_refl _)) b3) b4)) (first|(go_at_call 53;refine(sound_b x true HK _).mono ?_;rintro e w3 ⟨rfl,b3⟩)|(go_at_call 54;refine(fits_b xt.id xt.rt xt.cal xt.step xt.v xt.calls x HS.out true HF B _ ((TripOk.bl HTO.out (bl_next HB1.out (bl_next (bl_drew (bl_refl _)) b3)) hB).calls) (by have:=b3.size;simp at this;omega) HTO.out.ok HTO.out.len).mono ?_;rintro e w4 ⟨rfl,b4⟩))
       all_goals
        have B4:Hid (Bl w1 w4):=bl_next (bl_next (bl_drew (bl_refl _)) b3) b4;obtain⟨g0,g1,g2,g3,-⟩:=hold _ B4.out;clear hold t0 t1 t2 t3 t4 f0 f1 f2 f3;go_wp2_with fail;refine(count_c x HS _).mono ?_;rintro e w5 ⟨rfl,b5⟩;obtain⟨cc0,cc1⟩:=cnt_bd x HS.out;have B5:Hid (Bl w1 w5):=bl_next B4.out b5;have s5:wo.heap.size+1≤w5.heap.size:=by have:=B5.out.size;omega
        clear g0 g1 g2 g3 b3 b4 b5;go_wp2_with fail;have hb1w:b1<w1.heap.size:=by omega
        have HSO':=HSO;go_loopw [8,9,53] (fun n m i wr=> ∃ j:Nat,j≤k∧i= .int .i64 j∧n= .int .i64 (cnt x+sumOf x (fs.take j))∧m= .bool ((fs.take j).any (meetB x))∧Bl w5 wr) (fun _ _ i _=>k-(intOf i).toNat)
        case atStart=>exact⟨0,Nat.zero_le _,rfl,by simp[sumOf],rfl,bl_refl _⟩
        case round=>
         obtain⟨j,hj,rfl,rfl,rfl,hbq⟩:=hrel;have hzq:=hbq.size;have HBQ:Hid (Bl w1 wr):=bl_next B5.out hbq;have gx: ∀ jj u,(freqCells x)[jj]? =some u→wr.cell? ⟨wo.heap.size,jj,none⟩=some u:=fun jj u hu=>by rw[(bl_cell HBQ.out).1 _ _ (by omega)];exact KF.out jj u hu
         have hsum:=sumOf_bd x (fs.take j) (fun g hg=>HSO.out g (List.mem_of_mem_take (by rw[List.take_take,Nat.min_eq_left hj];exact hg)));rw[List.length_take,Nat.min_eq_left (by omega)]at hsum;by_cases hjk:j<k
         ·
          obtain⟨y,hy⟩: ∃ y,fs[j]? =some y:=⟨_,List.getElem?_eq_getElem (by omega)⟩;have cy: ∀ jj u,(freqCells y)[jj]? =some u→wr.cell? ⟨b1,o1+j*4+jj,none⟩=some u:=fun jj u hu=>by rw[(bl_cell HBQ.out).1 _ _ hb1w,(bl_cell HB1.out).1 _ _ (by omega)];exact H1.out j y hy jj u hu
          have e0:wr.cell? ⟨b1,o1+j*4,none⟩=some (.int .i64 y.trip):=cy 0 _ rfl;have e1:=cy 1 _ rfl;have e2:=cy 2 _ rfl;have e3:=cy 3 _ rfl;have g0:=gx 0 _ rfl;have g1:=gx 1 _ rfl;have g2:=gx 2 _ rfl;have g3:=gx 3 _ rfl;have HY:=Lib.hid hy;have HYS:Hid (sound y):=HSO.out y (List.mem_iff_getElem?.2 ⟨j,by rw[List.getElem?_take_of_lt hjk];exact hy⟩);have HSU:Hid (sumOf x (fs.take (j+1))=sumOf x (fs.take j)+oneOf x y):=by show _=_;rw[take_snoc_at hy,sumOf_snoc]
          have HAN:Hid ((fs.take (j+1)).any (meetB x)=((fs.take j).any (meetB x)||meetB x y)):=by show _=_;rw[take_snoc_at hy,List.any_append];simp
          generalize sumOf x (fs.take j)=n at*
          generalize (fs.take j).any (meetB x)=m at*
          obtain⟨n0,n1⟩:=hsum;have hfar:Hid (wo.heap.size<wr.heap.size):=by show _<_;omega
          have a0:(wr.alloc (.cells #[.int .i64 y.trip, .int .i64 y.frm, .int .i64 y.to, .int .i64 y.every] 124)).cell? ⟨wo.heap.size,0,none⟩=some (.int .i64 x.trip):=by rw[(bl_cell (bl_alloc (bl_refl wr) _)).1 _ _ hfar.out];exact g0
          clear hy cy gx;by_cases he:y.trip=x.trip
          ·
           have q:(y.trip==x.trip)=true:=by rw[beq_iff_eq];exact he
           obtain⟨y0,y1⟩:=cnt_bd y HYS.out;have HSU2:=Lib.hid (show cnt x+sumOf x (fs.take (j+1))=cnt x+n+cnt y by rw[HSU.out,oneOf,q];simp;omega);have HAN2:=Lib.hid (show(fs.take (j+1)).any (meetB x)=(m||(decide (y.frm<x.to)&&decide (x.frm<y.to))) by rw[HAN.out,meetB,q];rfl);clear HSU HAN he;go_wp2_with fail;obtain⟨wy,hwy⟩: ∃ wy,wr.alloc (.cells #[.int .i64 y.trip, .int .i64 y.frm, .int .i64 y.to, .int .i64 y.every] 124)=wy:=⟨_,rfl⟩;rw[hwy];have BY:Hid (Bl wr wy):=by rw[←hwy];exact bl_alloc (bl_refl _) _
           have sy:wy.heap.size=wr.heap.size+1:=by rw[←hwy];simp
           have ky: ∀ jj u,(freqCells y)[jj]? =some u→wy.cell? ⟨wr.heap.size,jj,none⟩=some u:=by
            intro jj u hu;rw[←hwy,World.cell?_alloc_at (hn:=rfl)];simpa[freqCells]using hu
           clear hwy a0 e0 e1 e2 e3 g0;refine(count_c y HYS _).mono ?_;rintro e w6 ⟨rfl,b6⟩;have p1:w6.cell? ⟨wo.heap.size,1,none⟩=some (.int .i64 x.frm):=by rw[(bl_cell b6).1 _ _ (by omega),(bl_cell BY.out).1 _ _ hfar.out];exact g1
           have p2:w6.cell? ⟨wo.heap.size,2,none⟩=some (.int .i64 x.to):=by rw[(bl_cell b6).1 _ _ (by omega),(bl_cell BY.out).1 _ _ hfar.out];exact g2
           have q1:w6.cell? ⟨wr.heap.size,1,none⟩=some (.int .i64 y.frm):=by rw[(bl_cell b6).1 _ _ (by omega)];exact ky 1 _ rfl
           have q2:w6.cell? ⟨wr.heap.size,2,none⟩=some (.int .i64 y.to):=by rw[(bl_cell b6).1 _ _ (by omega)];exact ky 2 _ rfl
           have B6:Hid (Bl w5 w6):=bl_next hbq (bl_next BY.out b6);clear ky g1 g2 g3 b6;cases m with
           |true=>
            rw[Bool.true_or]at HAN2;go_wp2;go_roundw;case rel=>exact⟨j+1,by omega,by go_num,by rw[HSU2.out],by rw[HAN2.out],B6.out⟩
            case measure=>simp[intOf];omega
           |false=>
            rw[Bool.false_or]at HAN2;by_cases c1:y.frm<x.to
            ·
             by_cases c2:x.frm<y.to
             ·
              have HAN3:=Lib.hid (show(fs.take (j+1)).any (meetB x)=true by rw[HAN2.out,decide_eq_true c1,decide_eq_true c2];rfl);go_wp2;go_roundw;case rel=>exact⟨j+1,by omega,by go_num,by rw[HSU2.out],by rw[HAN3.out],B6.out⟩
              case measure=>simp[intOf];omega
             ·
              have c2':decide (x.frm<y.to)=false:=decide_eq_false c2;have HAN3:=Lib.hid (show(fs.take (j+1)).any (meetB x)=false by rw[HAN2.out,decide_eq_false c2,Bool.and_false]);go_wp2;go_roundw;case rel=>exact⟨j+1,by omega,by go_num,by rw[HSU2.out],by rw[HAN3.out],B6.out⟩
              case measure=>simp[intOf];omega
            ·
             have c1':decide (y.frm<x.to)=false:=decide_eq_false c1;have HAN3:=Lib.hid (show(fs.take (j+1)).any (meetB x)=false by rw[HAN2.out,decide_eq_false c1,Bool.false_and]);go_wp2;go_roundw;case rel=>exact⟨j+1,by omega,by go_num,by rw[HSU2.out],by rw[HAN3.out],B6.out⟩
             case measure=>simp[intOf];omega
          ·
           have q:(y.trip==x.trip)=false:=by rw[beq_eq_false_iff_ne];exact he
           have HSU2:=Lib.hid (show sumOf x (fs.take (j+1))=n by rw[HSU.out,oneOf,q];simp);have HAN2:=Lib.hid (show(fs.take (j+1)).any (meetB x)=m by rw[HAN.out,meetB,q];simp);clear HSU HAN he;go_wp2;go_roundw;case rel=>exact⟨j+1,by omega,by go_num,by rw[HSU2.out],by rw[HAN2.out],bl_alloc hbq _⟩
           case measure=>simp[intOf];omega
         ·
          obtain rfl:j=k:=by omega
          have HN:=Lib.hid (errAt_n (pre:=fs.take j) htr0 htr1 HGO.out);have HBW:Hid (Bl w wr):=bl_next HB1.out HBQ.out;generalize sumOf x (fs.take j)=n at*
          generalize (fs.take j).any (meetB x)=m at*
          obtain⟨n0,n1⟩:=hsum;clear gx;by_cases h256:256<cnt x+n
          ·
           have HE:=Lib.hid (HA.out.symm.trans (chk_bad HX.out (by rw[HN.out,if_pos h256]) (by decide)));go_wp2;go_ret2;exact⟨ret_ie (by rw[HE.out]) (by rw[HE.out]),HBW.out⟩
          ·
           have h256':cnt x+n≤256:=by omega
           cases m with
           |true=>
            have HE:=Lib.hid (HA.out.symm.trans (chk_bad HX.out (by rw[HN.out,if_neg h256,if_pos rfl]) (by decide)));clear h256;go_wp2;go_ret2;exact⟨ret_ie (by rw[HE.out]) (by rw[HE.out]),HBW.out⟩
           |false=>
            have HE0:=Lib.hid (show errAt ts (fs.take j) x=0 by rw[HN.out,if_neg h256];rfl);have HE:=Lib.hid ((chk_good HX.out HE0.out).symm.trans HA.out);have HSN:Hid (∀ g∈fs.take (j+1),sound g):=by
             intro g hg;rw[take_snoc_at HX.out,List.mem_append]at hg;rcases hg with hg|hg
             · exact HSO.out g hg
             · rw[List.mem_singleton]at hg;rw[hg];exact HS.out
            clear h256;go_wp2;go_roundw;case rel=>exact⟨j+1,by omega,by go_num,HE,HSN,HBW.out⟩
            case measure=>simp[intOf];omega
      ·
       have HF:=Lib.hid kf;have HE:=Lib.hid (HA.out.symm.trans (chk_bad HX.out (errAt_10 htr0 htr1 (by rw[HK.out,HFA.out,kf];rfl)) (by decide)));clear kf;go_region_held3 (fun w'=>w'.cell? ⟨wo.heap.size,0,none⟩=some (.int .i64 x.trip)∧w'.cell? ⟨wo.heap.size,1,none⟩=some (.int .i64 x.frm)∧w'.cell? ⟨wo.heap.size,2,none⟩=some (.int .i64 x.to)∧w'.cell? ⟨wo.heap.size,3,none⟩=some (.int .i64 x.every)∧w'.cell? ⟨bt,ot+x.trip.toNat*5,none⟩=some (.string xt.id)∧w'.cell? ⟨bt,ot+x.trip.toNat*5+1,none⟩=some (.int .i64 xt.rt)∧w'.cell? ⟨bt,ot+x.trip.toNat*5+2,none⟩=some (.int .i64 xt.cal)∧w'.cell? ⟨bt,ot+x.trip.toNat*5+3,none⟩=some (.bool xt.step)∧w'.cell? ⟨bt,ot+x.trip.toNat*5+4,none⟩=some (xt.v)) (first|exact hold _ (bl_drew (bl_refl _))|exact hold _ (bl_next (bl_drew (bl_refl _)) b3)|exact hold _ (bl_next (bl_next (bl_drew (bl_refl _)) b3) b4)) (first|(go_at_call 53;refine(sound_b x true HK _).mono ?_;rintro e w3 ⟨rfl,b3⟩)|(go_at_call 54;refine(fits_b xt.id xt.rt xt.cal xt.step xt.v xt.calls x HS.out false HF B _ ((TripOk.bl HTO.out (bl_next HB1.out (bl_next (bl_drew (bl_refl _)) b3)) hB).calls) (by have:=b3.size;simp at this;omega) HTO.out.ok HTO.out.len).mono ?_;rintro e w4 ⟨rfl,b4⟩))
       all_goals
        go_wp2;go_ret2;exact⟨ret_ie (by rw[HE.out]) (by rw[HE.out]),bl_next HB1.out (bl_next (bl_next (bl_drew (bl_refl _)) b3) b4)⟩
     ·
      have HK:=Lib.hid ks;have HE:=Lib.hid (HA.out.symm.trans (chk_bad HX.out (errAt_10 htr0 htr1 (by rw[ks];rfl)) (by decide)));clear ks;first
      |
       go_region_with ((first
        |(go_at_call 53;refine(sound_b x false HK _).mono ?_;rintro e w3 ⟨rfl,b3⟩)))
      |fail
      all_goals
       go_wp2;go_ret2;exact⟨ret_ie (by rw[HE.out]) (by rw[HE.out]),bl_next HB1.out (bl_next (bl_drew (bl_refl _)) b3)⟩
   ·
    have HE:=Lib.hid (HA.out.symm.trans (chk_end (by omega)));go_wp2;go_ret2;exact⟨ret_ie (by rw[HE.out]) (by rw[HE.out]),hbl⟩
 ·
  obtain⟨a1,c1,rfl,m1,rfl⟩:=ha.empty (by omega);have HR:=Lib.hid (show r=(0,0) by rw[←H.out];rfl);go_enter Tryz.func28,Tryz.ntmps28
  go_wp2_with fail;refine wp_loop_rounds 1 ?_;rw[rounds_succ];go_wp2;go_ret2;exact⟨ret_ie (by rw[HR.out]) (by rw[HR.out]),bl_refl _⟩
end Go.Proofs.YtncbcmiflffakaaGreat.Fq
