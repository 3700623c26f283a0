/-
  What the laws of top need of TopIbC, TopIbD, TopIbE, TopIbF. Conditions: those of each lemma.
-/
import Derived.Test.YtncbcmiflffakaaGreatPkIbA
import Derived.Test.YtncbcmiflffakaaGreatPkPlB
import Derived.Deep.QuietTactic
import Derived.BigQuiet
set_option maxRecDepth 1000000
set_option maxHeartbeats 32000000
namespace Go.Proofs.YtncbcmiflffakaaGreat
open Go.RowKit
open Frq Thr Tt
def srcCells (s:SrcD):List Value:=[.bool s.ever, .int .i64 s.last, .bool s.got, .int .i64 s.seq]
theorem srcCells_len (s:SrcD):(srcCells s).length=4:=rfl
def hearsB (s:SrcD) (now:Int):Bool:= !s.ever||decide (s.last<now)
theorem hearP_eq (s:SrcD) (now:Int):hearP s now=if hearsB s now=true then{ s with ever:=true,last:=now }else s:=by
 unfold hearP hearsB;by_cases h:s.ever=false∨s.last<now
 · rw[if_pos h,if_pos (by rcases h with h|h<;>simp[h])]
 ·
  rw[if_neg h,if_neg (by
   simp only[not_or]at h;simp[h])]
theorem hear_c (g o:Nat) (s:SrcD) (now:Int) (w:World) (h0:w.cell? ⟨g,o,none⟩=some (.bool s.ever)) (h1:w.cell? ⟨g,o+1,none⟩=some (.int .i64 s.last)) (f0:w.frozen? ⟨g,o,none⟩=false) (f1:w.frozen? ⟨g,o+1,none⟩=false):
  Calls Tryz.prog 67 #[.pointer (some ⟨g,o,none⟩), .int .i64 now] w fun e w'=>e= .returned (.tuple #[])∧w'=if hearsB s now=true then(w.setCell ⟨g,o,none⟩ (.bool true)).setCell ⟨g,o+1,none⟩ (.int .i64 now)else w:=by
 obtain⟨ev,la,gt,sq⟩:=s;simp only at h0 h1;cases ev with
 |false=>
  have hh:hearsB ⟨false,la,gt,sq⟩ now=true:=rfl;rw[hh,if_pos rfl];go_enter Tryz.func67,Tryz.ntmps67
  go_wp2_with fail;go_end0;exact⟨rfl,rfl⟩
 |true=>
  by_cases hn:la<now
  ·
   have hh:hearsB ⟨true,la,gt,sq⟩ now=true:=by simp[hearsB,hn]
   rw[hh,if_pos rfl];go_enter Tryz.func67,Tryz.ntmps67
   go_wp2_with fail;go_end0;exact⟨rfl,rfl⟩
  ·
   have hh:hearsB ⟨true,la,gt,sq⟩ now=false:=by simp[hearsB,hn]
   rw[hh,if_neg (by decide)];have hd:decide (la<now)=false:=decide_eq_false hn;go_enter Tryz.func67,Tryz.ntmps67
   go_wp2_with fail;go_end0;exact⟨rfl,rfl⟩
def okM (n:Int):Prop:=0≤n∧n≤3155932800
theorem silent_c (g o:Nat) (s:SrcD) (now pat:Int) (hn:okM now) (hl:okM s.last) (hp:okM pat) (w:World) (h0:w.cell? ⟨g,o,none⟩=some (.bool s.ever)) (h1:w.cell? ⟨g,o+1,none⟩=some (.int .i64 s.last)):
  Calls Tryz.prog 111 #[.pointer (some ⟨g,o,none⟩), .int .i64 now, .int .i64 pat] w fun e w'=>e= .returned (.bool (silentP s now pat))∧w=w':=by
 obtain⟨ev,la,gt,sq⟩:=s;obtain⟨n0,n1⟩:=hn;obtain⟨l0,l1⟩:=hl;obtain⟨p0,p1⟩:=hp;simp only at h0 h1 l0 l1;cases ev with
 |false=>
  have hh:silentP ⟨false,la,gt,sq⟩ now pat=true:=rfl;rw[hh];go_enter Tryz.func111,Tryz.ntmps111
  go_wp2_with fail;go_ret;exact⟨rfl,rfl⟩
 |true=>
  by_cases hlt:la<now
  ·
   have hh:silentP ⟨true,la,gt,sq⟩ now pat=decide (pat<now-la):=by simp[silentP,hlt]
   rw[hh];have HH:=Lib.hid hlt;go_enter Tryz.func111,Tryz.ntmps111
   go_wp2_with fail;go_ret;exact⟨rfl,rfl⟩
  ·
   have hh:silentP ⟨true,la,gt,sq⟩ now pat=false:=by simp[silentP,hlt]
   rw[hh];have hd:decide (la<now)=false:=decide_eq_false hlt;go_enter Tryz.func111,Tryz.ntmps111
   go_wp2_with fail;go_ret;exact⟨rfl,rfl⟩
end Go.Proofs.YtncbcmiflffakaaGreat
namespace Go.Proofs.YtncbcmiflffakaaGreat
open Go.RowKit
open Frq Thr Tt
theorem mbefore_c (a b:MsgD) (va vb:Value) (w:World):
  Calls Tryz.prog 76 #[Ms.msgV a va,Ms.msgV b vb] w fun e w'=>e= .returned (.bool (befP a b))∧Bl w w':=by
 by_cases h1:a.trip=b.trip
 ·
  have e1:(a.trip==b.trip)=true:=by rw[h1];simp
  by_cases h2:a.day=b.day
  ·
   have e2:(a.day != b.day)=false:=by rw[h2];simp
   by_cases h3:a.inst=b.inst
   ·
    have e3:(a.inst != b.inst)=false:=by rw[h3];simp
    have hb:befP a b=decide (a.seq<b.seq):=by unfold befP;rw[if_neg (fun q=>q h1),if_neg (fun q=>q h2),if_neg (fun q=>q h3)]
    have HB:=Lib.hid hb;clear h1 h2 h3 hb;go_enter Tryz.func76,Tryz.ntmps76
    go_wp2_with fail;go_ret;exact⟨ret_bool HB.out.symm,bl_alloc (bl_alloc (bl_refl _) _) _⟩
   ·
    have e3:(a.inst != b.inst)=true:=by rw[bne_iff_ne];exact h3
    have hb:befP a b=decide (a.inst<b.inst):=by unfold befP;rw[if_neg (fun q=>q h1),if_neg (fun q=>q h2),if_pos h3]
    have HB:=Lib.hid hb;clear h1 h2 h3 hb;go_enter Tryz.func76,Tryz.ntmps76
    go_wp2_with fail;go_ret;exact⟨ret_bool HB.out.symm,bl_alloc (bl_alloc (bl_refl _) _) _⟩
  ·
   have e2:(a.day != b.day)=true:=by rw[bne_iff_ne];exact h2
   have hb:befP a b=decide (a.day<b.day):=by unfold befP;rw[if_neg (fun q=>q h1),if_pos h2]
   have HB:=Lib.hid hb;clear h1 h2 hb;go_enter Tryz.func76,Tryz.ntmps76
   go_wp2_with fail;go_ret;exact⟨ret_bool HB.out.symm,bl_alloc (bl_alloc (bl_refl _) _) _⟩
 ·
  have e1:(a.trip==b.trip)=false:=by rw[beq_eq_false_iff_ne];exact h1
  have hb:befP a b=Op.bytesLess a.trip b.trip:=by unfold befP;rw[if_pos h1]
  have HB:=Lib.hid hb;clear h1 hb;go_enter Tryz.func76,Tryz.ntmps76
  go_wp2_with fail;go_ret;exact⟨ret_bool HB.out.symm,bl_alloc (bl_alloc (bl_refl _) _) _⟩
end Go.Proofs.YtncbcmiflffakaaGreat
namespace Go.Proofs.YtncbcmiflffakaaGreat
open Go.RowKit
open Frq Thr Tt
structure InboxAt (gb gs:Nat) (kv:Value) (ks:List MsgV) (st:BoxD) (w:World):Prop where
 box:w.heap[gb]? =some (.cells #[.slice (some ⟨gs,0,none⟩) st.srcs.length st.srcs.length, .int .i64 st.pat,kv] 145 (0,0))
 src:w.heap[gs]? =some (.cells (st.srcs.flatMap srcCells).toArray 154 (0,0))
 kept:MsgsOwn 0 w kv ks
 same:ks.map (·.m)=st.kept
theorem InboxAt.bl {gb gs:Nat} {kv:Value} {ks:List MsgV} {st:BoxD} {w w':World} (h:InboxAt gb gs kv ks st w) (hb:Bl w w'):InboxAt gb gs kv ks st w':=⟨blk_bl h.box hb,blk_bl h.src hb,h.kept.bl hb,h.same⟩
structure BoxOk (st:BoxD):Prop where
 pat:okM st.pat
 some:st.srcs.length≤8
 last: ∀ s∈st.srcs,okM s.last
 kept:st.kept.length≤256
 ok: ∀ m∈st.kept,checkM m=0
theorem src_cells {gs:Nat} {st:BoxD} {w:World} {i:Nat} {s:SrcD} (h:w.heap[gs]? =some (.cells (st.srcs.flatMap srcCells).toArray 154 (0,0))) (hs:st.srcs[i]? =some s):w.cell? ⟨gs,i*4,none⟩=some (.bool s.ever)∧w.cell? ⟨gs,i*4+1,none⟩=some (.int .i64 s.last)∧w.cell? ⟨gs,i*4+2,none⟩=some (.bool s.got)∧w.cell? ⟨gs,i*4+3,none⟩=some (.int .i64 s.seq):=by
 have h0:=fun j u (hu:(srcCells s)[j]? =some u)=>blk_cell h (i*4+j) u (by rw[List.getElem?_toArray];exact flat_get srcCells_len hs hu)
 exact⟨h0 0 _ rfl,h0 1 _ rfl,h0 2 _ rfl,h0 3 _ rfl⟩
theorem exists_c (gb gs:Nat) (kv:Value) (ks:List MsgV) (st:BoxD) (s:Int) (hl:st.srcs.length≤8) (w:World) (h:InboxAt gb gs kv ks st w):
  Calls Tryz.prog 110 #[.pointer (some ⟨gb,0,none⟩), .int .i64 s] w fun e w'=>e= .returned (.bool (decide (0≤s)&&decide (s<(st.srcs.length:Int))))∧w=w':=by
 have c0:w.cell? ⟨gb,0,none⟩=some (.slice (some ⟨gs,0,none⟩) st.srcs.length st.srcs.length):=blk_cell h.box 0 _ rfl;have hlI:(st.srcs.length:Int)≤8:=by omega
 clear h;by_cases h0:0≤s
 ·
  have e0:decide (0≤s)=true:=decide_eq_true h0;go_enter Tryz.func110,Tryz.ntmps110
  go_wp2_with fail;go_ret;exact⟨ret_bool (by rw[e0];rfl),rfl⟩
 ·
  have e0:decide (0≤s)=false:=decide_eq_false h0;go_enter Tryz.func110,Tryz.ntmps110
  go_wp2_with fail;go_ret;exact⟨rfl,rfl⟩
theorem failed_c (gb gs:Nat) (kv:Value) (ks:List MsgV) (st:BoxD) (ok:Hid (BoxOk st)) (s now:Int) (hn:okM now) (w:World) (h:InboxAt gb gs kv ks st w):
  Calls Tryz.prog 73 #[.pointer (some ⟨gb,0,none⟩), .int .i64 s, .int .i64 now] w fun e w'=>e= .returned (.bool (failedP st s now))∧Bl w w':=by
 have c0:w.cell? ⟨gb,0,none⟩=some (.slice (some ⟨gs,0,none⟩) st.srcs.length st.srcs.length):=blk_cell h.box 0 _ rfl;have c1:w.cell? ⟨gb,1,none⟩=some (.int .i64 st.pat):=blk_cell h.box 1 _ rfl;have hl:=ok.out.some;have hlI:(st.srcs.length:Int)≤8:=by omega
 obtain⟨ex,hex⟩: ∃ b,(decide (0≤s)&&decide (s<(st.srcs.length:Int)))=b:=⟨_,rfl⟩;have hE:=fun(w1:World) (hb:Bl w w1)=>exists_c gb gs kv ks st s hl w1 (h.bl hb)
 rw[hex]at hE;have HE:=Lib.hid hE;have HX:=Lib.hid hex;have HH:=Lib.hid h;clear hE hex h;cases ex with
 |false=>
  have hf:failedP st s now=false:=by
   have:=HX.out;unfold failedP;by_cases h0:0≤s
   ·
    rw[if_pos h0];have h1: ¬ s<(st.srcs.length:Int):=fun q=>by rw[decide_eq_true h0,decide_eq_true q]at this;cases this
    rw[List.getElem?_eq_none (by omega)]
   · rw[if_neg h0]
  have HF:=Lib.hid hf;clear hf;go_enter Tryz.func73,Tryz.ntmps73
  go_wp2_with fail;go_quiet ((go_at_call 110;with_reducible exact Calls.quiet_of_same ((HE.out _ (bl_drewN (bl_refl _) _)).mono fun _ _ h=>⟨h.1,h.2.symm⟩)))
  go_wp2_with fail;go_ret;exact⟨ret_bool HF.out.symm,bl_drewN (bl_refl _) _⟩
 |true=>
  have hx:=HX.out;simp only[Bool.and_eq_true,decide_eq_true_eq]at hx;obtain⟨hx0,hx1⟩:=hx;obtain⟨i,rfl⟩: ∃ i:Nat,s=(i:Int):=⟨s.toNat,by omega⟩;obtain⟨x,hx⟩: ∃ x,st.srcs[i]? =some x:=⟨_,List.getElem?_eq_getElem (by omega)⟩;have hf:failedP st i now=silentP x now st.pat:=by
   unfold failedP;rw[if_pos hx0,Int.toNat_natCast,hx]
  obtain⟨r,hr⟩: ∃ r,silentP x now st.pat=r:=⟨_,rfl⟩;have hS:=fun(w1:World) (hb:Bl w w1)=>silent_c gs (i*4) x now st.pat hn (ok.out.last x (List.mem_of_getElem? hx)) ok.out.pat w1 (src_cells (HH.out.bl hb).src hx).1 (src_cells (HH.out.bl hb).src hx).2.1
  rw[hr]at hS hf;have HS:=Lib.hid hS;have HF:=Lib.hid hf;clear hf hS hr hx;go_enter Tryz.func73,Tryz.ntmps73
  go_wp2_with fail;go_quiet ((first
   |(go_at_call 110;with_reducible exact Calls.quiet_of_same ((HE.out _ (bl_drewN (bl_refl _) _)).mono fun _ _ h=>⟨h.1,h.2.symm⟩))
   |(go_at_call 111;with_reducible exact Calls.quiet_of_same ((HS.out _ (bl_drewN (bl_refl _) _)).mono fun _ _ h=>⟨h.1,h.2.symm⟩))))
  go_wp2_with fail;go_ret;exact⟨ret_bool HF.out.symm,bl_drewN (bl_refl _) _⟩
end Go.Proofs.YtncbcmiflffakaaGreat
namespace Go.Proofs.YtncbcmiflffakaaGreat
open Go.RowKit
open Frq Thr Tt
abbrev intBox (n:Int):Obj:= .cells #[.int .i64 n] 3
abbrev msgBox (m:MsgD) (v:Value):Obj:= .cells (msgL ⟨m,v⟩).toArray 48
theorem holds_recv (mb nb:Nat) (m:MsgD) (mv:Value) (now:Int):Holds 64 #[.pointer (some ⟨mb,0,none⟩), .pointer (some ⟨nb,0,none⟩)] (staysB m now) (fun w=>w.heap[mb]? =some (msgBox m mv)∧w.heap[nb]? =some (intBox now)) where
 enters:=fun _ _=>by kernel_rfl
 keep:=fun _ _ h hb=>⟨blk_bl h.1 hb,blk_bl h.2 hb⟩
 call:=fun o ov w h hov=>by
  obtain⟨hm,hn⟩:=h;have hml:=lt_of_block hm;have hnl:=lt_of_block hn;obtain⟨r,hr⟩: ∃ r,superB m o=r:=⟨_,rfl⟩;have hS:=fun(w1:World)=>Ms.super_c m o mv ov r (Lib.hid hr) w1
  have hs:staysB m now o=(!r&&decide (now<o.exp)):=by unfold staysB;rw[hr]
  have HS:=Lib.hid hs;have c0:w.cell? ⟨nb,0,none⟩=some (.int .i64 now):=blk_cell hn 0 _ rfl;have HN:=Lib.hid hn;have d0:w.cell? ⟨mb,0,none⟩=some (.int .i64 m.src):=blk_cell hm 0 _ rfl;have d1:w.cell? ⟨mb,1,none⟩=some (.int .i64 m.seq):=blk_cell hm 1 _ rfl;have d2:w.cell? ⟨mb,2,none⟩=some (.int .i64 m.iss):=blk_cell hm 2 _ rfl;have d3:w.cell? ⟨mb,3,none⟩=some (.int .i64 m.exp):=blk_cell hm 3 _ rfl;have d4:w.cell? ⟨mb,4,none⟩=some (.int .i64 m.kind):=blk_cell hm 4 _ rfl;have d5:w.cell? ⟨mb,5,none⟩=some (str m.trip):=blk_cell hm 5 _ rfl;have d6:w.cell? ⟨mb,6,none⟩=some (.int .i64 m.day):=blk_cell hm 6 _ rfl;have d7:w.cell? ⟨mb,7,none⟩=some (.int .i64 m.inst):=blk_cell hm 7 _ rfl;have d8:w.cell? ⟨mb,8,none⟩=some (.int .i64 m.call):=blk_cell hm 8 _ rfl;have d9:w.cell? ⟨mb,9,none⟩=some (.int .i64 m.secs):=blk_cell hm 9 _ rfl;have d10:w.cell? ⟨mb,10,none⟩=some (.int .i64 m.route):=blk_cell hm 10 _ rfl;have d11:w.cell? ⟨mb,11,none⟩=some (.bool m.step):=blk_cell hm 11 _ rfl;have d12:w.cell? ⟨mb,12,none⟩=some (mv):=blk_cell hm 12 _ rfl;have HC:=Lib.hid hS;obtain⟨ao,ko,rfl,-,-⟩:=hov.val;clear hS hr hs hm hn hov;show Calls _ _ #[Ms.msgV o (.slice ao o.calls.length ko), .pointer (some ⟨mb,0,none⟩), .pointer (some ⟨nb,0,none⟩)] _ _
  cases r with
  |true=>
   go_enter Tryz.func64,Tryz.ntmps64
   go_wp2_with fail;refine(HC.out _).mono ?_;rintro e w3 ⟨rfl,b3⟩;have B3:=Lib.hid (bl_next (bl_alloc (bl_refl w) _) b3);clear b3;go_wp2_with fail;go_ret;exact⟨ret_bool (by rw[HS.out];rfl),B3.out⟩
  |false=>
   have hbo:=heap_alloc_new w (msgBox o (.slice ao o.calls.length ko));have HBo:=Lib.hid hbo;clear hbo;go_enter Tryz.func64,Tryz.ntmps64
   go_wp2_with fail;refine(HC.out _).mono ?_;rintro e w3 ⟨rfl,b3⟩;have e3:w3.cell? ⟨w.heap.size,3,none⟩=some (.int .i64 o.exp):=blk_cell (blk_bl HBo.out b3) 3 _ rfl;have B3:=Lib.hid (bl_next (bl_alloc (bl_refl w) (msgBox o (.slice ao o.calls.length ko))) b3);have n3:w3.cell? ⟨nb,0,none⟩=some (.int .i64 now):=blk_cell (blk_bl HN.out B3.out) 0 _ rfl;clear b3;go_wp2_with fail;go_ret;exact⟨ret_bool (by rw[HS.out];rfl),B3.out⟩
theorem holds_act (nb pb gb gs:Nat) (kv:Value) (ks:List MsgV) (st:BoxD) (ok:Hid (BoxOk st)) (now:Int) (hn0:okM now):Holds 72 #[.pointer (some ⟨nb,0,none⟩), .pointer (some ⟨pb,0,none⟩)] (currentB st now) (fun w=>w.heap[nb]? =some (intBox now)∧w.heap[pb]? =some (.cells #[.pointer (some ⟨gb,0,none⟩)] 82)∧InboxAt gb gs kv ks st w) where
 enters:=fun _ _=>by kernel_rfl
 keep:=fun _ _ h hb=>⟨blk_bl h.1 hb,blk_bl h.2.1 hb,h.2.2.bl hb⟩
 call:=fun m v w h hov=>by
  obtain⟨hn,hp,hI⟩:=h;have hnl:=lt_of_block hn;have hpl:=lt_of_block hp;have hF:=fun(w1:World) (hb:Bl w w1)=>failed_c gb gs kv ks st ok m.src now hn0 w1 (hI.bl hb)
  obtain⟨f,hf⟩: ∃ f,failedP st m.src now=f:=⟨_,rfl⟩;rw[hf]at hF;have hc:currentB st now m=(decide (m.iss≤now)&&(decide (now<m.exp)&& !f)):=by unfold currentB;rw[hf]
  have HC:=Lib.hid hc;have HF:=Lib.hid hF;have c0:w.cell? ⟨nb,0,none⟩=some (.int .i64 now):=blk_cell hn 0 _ rfl;have c1:w.cell? ⟨pb,0,none⟩=some (.pointer (some ⟨gb,0,none⟩)):=blk_cell hp 0 _ rfl;obtain⟨ao,ko,rfl,-,-⟩:=hov.val;clear hF hf hc hn hp hI hov;show Calls _ _ #[Ms.msgV m (.slice ao m.calls.length ko), .pointer (some ⟨nb,0,none⟩), .pointer (some ⟨pb,0,none⟩)] _ _
  by_cases h1:m.iss≤now
  ·
   have e1:decide (m.iss≤now)=true:=decide_eq_true h1;by_cases h2:now<m.exp
   ·
    have e2:decide (now<m.exp)=true:=decide_eq_true h2;have HR:=Lib.hid (show currentB st now m= !f by rw[HC.out,e1,e2];rfl);go_enter Tryz.func72,Tryz.ntmps72
    go_wp2_with fail;refine(HF.out _ (bl_alloc (bl_refl w) _)).mono ?_;rintro e w3 ⟨rfl,b3⟩;have B3:=Lib.hid (bl_next (bl_alloc (bl_refl w) _) b3);clear b3;go_wp2_with fail;go_ret;exact⟨ret_bool HR.out.symm,B3.out⟩
   ·
    have e2:decide (now<m.exp)=false:=decide_eq_false h2;have HR:=Lib.hid (show currentB st now m=false by rw[HC.out,e1,e2];rfl);go_enter Tryz.func72,Tryz.ntmps72
    go_wp2_with fail;go_ret;exact⟨ret_bool HR.out.symm,bl_alloc (bl_refl w) _⟩
  ·
   have e1:decide (m.iss≤now)=false:=decide_eq_false h1;have HR:=Lib.hid (show currentB st now m=false by rw[HC.out,e1];rfl);go_enter Tryz.func72,Tryz.ntmps72
   go_wp2_with fail;go_ret;exact⟨ret_bool HR.out.symm,bl_alloc (bl_refl w) _⟩
end Go.Proofs.YtncbcmiflffakaaGreat
