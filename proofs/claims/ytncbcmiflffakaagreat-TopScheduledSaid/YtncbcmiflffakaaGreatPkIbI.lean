/-
  What the laws of top need of TopIbI, TopIbK. Conditions: those of each lemma.
-/
import Derived.Test.YtncbcmiflffakaaGreatPkIbC
import Derived.Test.YtncbcmiflffakaaGreatPkIbJ
import Derived.Deep.RegionHeld3
import Derived.Deep.QuietTactic
import Derived.BigQuiet
set_option maxRecDepth 1000000
set_option maxHeartbeats 32000000
namespace Go.Proofs.YtncbcmiflffakaaGreat
open Go.RowKit
open Frq Thr Tt
theorem SlIn.drop {α:Type} {cells:α→List Value} {sz B:Nat} {w:World} {xs:List α} {a:Option Addr} {n cap:Nat} (h:SlIn cells sz B w (.slice a n cap) xs) {k:Nat} (hk:k≤xs.length):SlIn cells sz B w (sliced a k n cap sz) (xs.drop k):=by
 obtain⟨a',cap',hv,h1,h2,h3⟩:=h;simp only[Value.slice.injEq]at hv;obtain⟨rfl,rfl,rfl⟩:=hv;unfold sliced;refine⟨_,_,by rw[List.length_drop],by rw[List.length_drop];omega,by omega,fun h0=>?_⟩;rw[List.length_drop]at h0;obtain⟨b,o,rfl,hb,hc⟩:=h3 (by omega);refine⟨b,o+k*sz, ?_,hb,fun i x hx j u hu=>?_⟩
 ·
  rw[if_neg (by omega)];show some (Addr.add ⟨b,o,none⟩ (k*sz))=_
  unfold Addr.add;split
  · rename_i q;rw[q];rfl
  · rfl
 ·
  rw[List.getElem?_drop]at hx;have:=hc (k+i) x hx j u hu;rw[Nat.add_mul,←Nat.add_assoc]at this;exact this
theorem slice_msg_l (a:Option Addr) (n c k:Nat) (h1:k≤n) (w:World):(Instr.sliceAt 36 (.slice a n c) (some (.int .i64 (k:Int))) none none).run Tryz.prog w= .ok (sliced a k n c 13) w:=by
 have ht:Tryz.prog.underlying 36=some (.slice (Tryz.prog.elem 36)):=by kernel_rfl
 have hs:(sizeOf (Tryz.prog.elem 36)).run Tryz.prog w= .ok 13 w:=by kernel_rfl
 rw[run_sliceAt_slice w _ _ _ _ _ ht,run_slice_l w _ a n c ht .i64 k (by omega) (by omega),hs];simp only[Result.andThen,Int.toNat_natCast]
def insV (L:List MsgV) (t:MsgV):List MsgV:=L.take (goM (L.map (·.m)) t.m L.length)++t::L.drop (goM (L.map (·.m)) t.m L.length)
theorem insV_m (L:List MsgV) (t:MsgV):(insV L t).map (·.m)=insM (L.map (·.m)) t.m:=by
 unfold insV insM;rw[List.map_append,List.map_cons,List.map_take,List.map_drop,List.length_map]
theorem insV_len (L:List MsgV) (t:MsgV):(insV L t).length=L.length+1:=by
 have:=congrArg List.length (insV_m L t);rw[List.length_map,insM_len,List.length_map]at this;exact this
theorem insV_mem {L:List MsgV} {t x:MsgV} (h:x∈insV L t):x∈L∨x=t:=by
 unfold insV at h;rcases List.mem_append.1 h with h|h
 · exact .inl (List.mem_of_mem_take h)
 ·
  rcases List.mem_cons.1 h with h|h
  · exact .inr h
  · exact .inl (List.mem_of_mem_drop h)
theorem inserted_c (vl:Value) (L:List MsgV) (hl:L.length≤1000) (t:MsgV) (hsl:Hid (∀ x∈L,∃ a n c,x.v= .slice a n c)) (ht: ∃ a n c,t.v= .slice a n c) (B:Nat) (w:World) (hv:SlIn msgL 13 B w vl L) (hB:B≤w.heap.size):
  Calls Tryz.prog 75 #[vl,Ms.msgV t.m t.v, .func (.func 76) #[] #[]] w fun e w'=> ∃ v',e= .returned v'∧w'.ownsRow w.heap.size 48 13 v' (insV L t).length ((insV L t).flatMap msgL)∧Bl w w':=by
 obtain⟨i0,hi,hz0,hz1,hz2⟩:=info_parts nfo_msg;obtain⟨a,cap,rfl,hc1,hc2⟩:=hv.val;have HV:=Lib.hid hv;obtain⟨tm,tv⟩:=t;obtain⟨at',nt,ct,hte⟩:=ht;simp only at hte;subst hte;have hlI:(L.length:Int)≤1000:=by omega
 have hz:=heap_alloc_new w (.cells (msgL ⟨tm, .slice at' nt ct⟩).toArray 48);have hbl:=bl_alloc (bl_refl w) (.cells (msgL ⟨tm, .slice at' nt ct⟩).toArray 48);have hent: ∀ (args:Array Value) (w:World),(callFunc 76 args).run Tryz.prog w= .ok (.enter 76 args) w:=fun _ _=>by kernel_rfl
 have HEnt:=Lib.hid hent;have HZ:=Lib.hid (And.intro hz hbl);clear hv hz hbl hent;go_enter Tryz.func75,Tryz.ntmps75
 go_wp2_with fail;change Code.wp _ _ _ _ (w.alloc (.cells (msgL ⟨tm, .slice at' nt ct⟩).toArray 48));obtain⟨w1,hw1⟩: ∃ w1,w.alloc (.cells (msgL ⟨tm, .slice at' nt ct⟩).toArray 48)=w1:=⟨_,rfl⟩;rw[hw1]at HZ ⊢;have HZ1:Hid (w1.heap[w.heap.size]? =some (.cells (msgL ⟨tm, .slice at' nt ct⟩).toArray 48 (0,0))∧Bl w w1):=HZ;clear hw1 HZ;go_loopw [7] (fun i wr=> ∃ k:Nat,(k≤L.length∧i= .int .i64 k)∧Hid (goM (L.map (·.m)) tm k=goM (L.map (·.m)) tm L.length∧wr.heap[w.heap.size]? =some (.cells (msgL ⟨tm, .slice at' nt ct⟩).toArray 48 (0,0))∧Bl w wr)) (fun i _=>(intOf i).toNat)
 case atStart=>exact⟨L.length,⟨Nat.le_refl _,rfl⟩,Lib.hid ⟨rfl,HZ1.out.1,HZ1.out.2⟩⟩
 case round=>
  obtain⟨k,⟨hk,rfl⟩,HR⟩:=hrel;by_cases h0:0<k
  ·
   obtain⟨j,rfl⟩: ∃ j,k=j+1:=⟨k-1,by omega⟩;have hj:j<L.length:=by omega
   obtain⟨b,o,x,rfl,hbB,hx,hcx⟩:=HV.out.get (k:=j) hj HR.out.2.2 hB;have hxr:(L.map (·.m))[j]? =some x.m:=by rw[List.getElem?_map,hx];rfl
   obtain⟨ax,nx,cx,hxv⟩:=hsl.out x (List.mem_of_getElem? hx);obtain⟨xm,xv⟩:=x;simp only at hxv hxr;subst hxv;have c0:wr.cell? ⟨b,o+j*13,none⟩=some (.int .i64 xm.src):=hcx 0 _ rfl;have c1:wr.cell? ⟨b,o+j*13+1,none⟩=some (.int .i64 xm.seq):=hcx 1 _ rfl;have c2:wr.cell? ⟨b,o+j*13+2,none⟩=some (.int .i64 xm.iss):=hcx 2 _ rfl;have c3:wr.cell? ⟨b,o+j*13+3,none⟩=some (.int .i64 xm.exp):=hcx 3 _ rfl;have c4:wr.cell? ⟨b,o+j*13+4,none⟩=some (.int .i64 xm.kind):=hcx 4 _ rfl;have c5:wr.cell? ⟨b,o+j*13+5,none⟩=some (str xm.trip):=hcx 5 _ rfl;have c6:wr.cell? ⟨b,o+j*13+6,none⟩=some (.int .i64 xm.day):=hcx 6 _ rfl;have c7:wr.cell? ⟨b,o+j*13+7,none⟩=some (.int .i64 xm.inst):=hcx 7 _ rfl;have c8:wr.cell? ⟨b,o+j*13+8,none⟩=some (.int .i64 xm.call):=hcx 8 _ rfl;have c9:wr.cell? ⟨b,o+j*13+9,none⟩=some (.int .i64 xm.secs):=hcx 9 _ rfl;have c10:wr.cell? ⟨b,o+j*13+10,none⟩=some (.int .i64 xm.route):=hcx 10 _ rfl;have c11:wr.cell? ⟨b,o+j*13+11,none⟩=some (.bool xm.step):=hcx 11 _ rfl;have c12:wr.cell? ⟨b,o+j*13+12,none⟩=some (.slice ax nx cx):=hcx 12 _ rfl;have hold: ∀ w',Bl wr w'→(w'.cell? ⟨b,o+j*13,none⟩=some (.int .i64 xm.src)∧w'.cell? ⟨b,o+j*13+1,none⟩=some (.int .i64 xm.seq)∧w'.cell? ⟨b,o+j*13+2,none⟩=some (.int .i64 xm.iss)∧w'.cell? ⟨b,o+j*13+3,none⟩=some (.int .i64 xm.exp)∧w'.cell? ⟨b,o+j*13+4,none⟩=some (.int .i64 xm.kind)∧w'.cell? ⟨b,o+j*13+5,none⟩=some (str xm.trip)∧w'.cell? ⟨b,o+j*13+6,none⟩=some (.int .i64 xm.day)∧w'.cell? ⟨b,o+j*13+7,none⟩=some (.int .i64 xm.inst)∧w'.cell? ⟨b,o+j*13+8,none⟩=some (.int .i64 xm.call)∧w'.cell? ⟨b,o+j*13+9,none⟩=some (.int .i64 xm.secs)∧w'.cell? ⟨b,o+j*13+10,none⟩=some (.int .i64 xm.route)∧w'.cell? ⟨b,o+j*13+11,none⟩=some (.bool xm.step)∧w'.cell? ⟨b,o+j*13+12,none⟩=some (.slice ax nx cx)∧w'.cell? ⟨w.heap.size,0,none⟩=some (.int .i64 tm.src)∧w'.cell? ⟨w.heap.size,1,none⟩=some (.int .i64 tm.seq)∧w'.cell? ⟨w.heap.size,2,none⟩=some (.int .i64 tm.iss)∧w'.cell? ⟨w.heap.size,3,none⟩=some (.int .i64 tm.exp)∧w'.cell? ⟨w.heap.size,4,none⟩=some (.int .i64 tm.kind)∧w'.cell? ⟨w.heap.size,5,none⟩=some (str tm.trip)∧w'.cell? ⟨w.heap.size,6,none⟩=some (.int .i64 tm.day)∧w'.cell? ⟨w.heap.size,7,none⟩=some (.int .i64 tm.inst)∧w'.cell? ⟨w.heap.size,8,none⟩=some (.int .i64 tm.call)∧w'.cell? ⟨w.heap.size,9,none⟩=some (.int .i64 tm.secs)∧w'.cell? ⟨w.heap.size,10,none⟩=some (.int .i64 tm.route)∧w'.cell? ⟨w.heap.size,11,none⟩=some (.bool tm.step)∧w'.cell? ⟨w.heap.size,12,none⟩=some (.slice at' nt ct)):=fun w' hb=>by
    have hh:=blk_bl HR.out.2.1 hb;have hc:=fun q=>((bl_cell hb).1 b q hbB)
    exact⟨(hc _).trans c0,(hc _).trans c1,(hc _).trans c2,(hc _).trans c3,(hc _).trans c4,(hc _).trans c5,(hc _).trans c6,(hc _).trans c7,(hc _).trans c8,(hc _).trans c9,(hc _).trans c10,(hc _).trans c11,(hc _).trans c12,blk_cell hh 0 _ rfl,blk_cell hh 1 _ rfl,blk_cell hh 2 _ rfl,blk_cell hh 3 _ rfl,blk_cell hh 4 _ rfl,blk_cell hh 5 _ rfl,blk_cell hh 6 _ rfl,blk_cell hh 7 _ rfl,blk_cell hh 8 _ rfl,blk_cell hh 9 _ rfl,blk_cell hh 10 _ rfl,blk_cell hh 11 _ rfl,blk_cell hh 12 _ rfl⟩
   have hj1:IntKind.i64.wrap (j:Int)=(j:Int):=by simp[IntKind.wrap,IntKind.bits,IntKind.signed];omega
   have hjI:(j:Int)<(L.length:Int):=by omega
   have hj0:(0:Int)≤j:=by omega
   have hjp:decide ((0:Int)<((j+1:Nat):Int))=true:=decide_eq_true (by omega);have HBe:=Lib.hid (fun w1=>mbefore_c tm xm (.slice at' nt ct) (.slice ax nx cx) w1);have hent:=HEnt.out;have hwz:=lt_of_block HR.out.2.1;clear hcx hx c0 c1 c2 c3 c4 c5 c6 c7 c8 c9 c10 c11 c12;obtain⟨bf,hbf⟩: ∃ bf,befP tm xm=bf:=⟨_,rfl⟩;rw[hbf]at HBe;have HBF:=Lib.hid (And.intro hbf hxr);clear hbf hxr;go_wp2_with fail;first
   |go_region_held3 (fun w'=>w'.cell? ⟨b,o+j*13,none⟩=some (.int .i64 xm.src)∧w'.cell? ⟨b,o+j*13+1,none⟩=some (.int .i64 xm.seq)∧w'.cell? ⟨b,o+j*13+2,none⟩=some (.int .i64 xm.iss)∧w'.cell? ⟨b,o+j*13+3,none⟩=some (.int .i64 xm.exp)∧w'.cell? ⟨b,o+j*13+4,none⟩=some (.int .i64 xm.kind)∧w'.cell? ⟨b,o+j*13+5,none⟩=some (str xm.trip)∧w'.cell? ⟨b,o+j*13+6,none⟩=some (.int .i64 xm.day)∧w'.cell? ⟨b,o+j*13+7,none⟩=some (.int .i64 xm.inst)∧w'.cell? ⟨b,o+j*13+8,none⟩=some (.int .i64 xm.call)∧w'.cell? ⟨b,o+j*13+9,none⟩=some (.int .i64 xm.secs)∧w'.cell? ⟨b,o+j*13+10,none⟩=some (.int .i64 xm.route)∧w'.cell? ⟨b,o+j*13+11,none⟩=some (.bool xm.step)∧w'.cell? ⟨b,o+j*13+12,none⟩=some (.slice ax nx cx)∧w'.cell? ⟨w.heap.size,0,none⟩=some (.int .i64 tm.src)∧w'.cell? ⟨w.heap.size,1,none⟩=some (.int .i64 tm.seq)∧w'.cell? ⟨w.heap.size,2,none⟩=some (.int .i64 tm.iss)∧w'.cell? ⟨w.heap.size,3,none⟩=some (.int .i64 tm.exp)∧w'.cell? ⟨w.heap.size,4,none⟩=some (.int .i64 tm.kind)∧w'.cell? ⟨w.heap.size,5,none⟩=some (str tm.trip)∧w'.cell? ⟨w.heap.size,6,none⟩=some (.int .i64 tm.day)∧w'.cell? ⟨w.heap.size,7,none⟩=some (.int .i64 tm.inst)∧w'.cell? ⟨w.heap.size,8,none⟩=some (.int .i64 tm.call)∧w'.cell? ⟨w.heap.size,9,none⟩=some (.int .i64 tm.secs)∧w'.cell? ⟨w.heap.size,10,none⟩=some (.int .i64 tm.route)∧w'.cell? ⟨w.heap.size,11,none⟩=some (.bool tm.step)∧w'.cell? ⟨w.heap.size,12,none⟩=some (.slice at' nt ct))
     (first|exact hold _ (bl_drew (bl_refl _))|exact hold _ (bl_next (bl_drew (bl_refl _)) b3))
     ((go_at_call 76;refine(HBe.out _).mono ?_;rintro e w3 ⟨rfl,b3⟩))
   |fail
   have B3:=bl_next (bl_drew (bl_refl wr)) b3;have HQ:=Lib.hid (And.intro (blk_bl HR.out.2.1 B3) (bl_next HR.out.2.2 B3));clear b3 B3 hold hent;cases bf with
   |true=>
    have hg:=(goM_gt HBF.out.2 HBF.out.1).symm.trans HR.out.1;have HG:=Lib.hid hg;clear hg;go_wp2_with fail;exact⟨⟨j,⟨by omega,by go_num⟩,Lib.hid ⟨HG.out,HQ.out.1,HQ.out.2⟩⟩,by simp only[intOf];omega⟩
   |false=>
    have hg:=HR.out.1.symm.trans (goM_le HBF.out.2 HBF.out.1);have HG:=Lib.hid hg;clear hg hj1 hjI hj0 hjp;have hTK:(L.take (j+1)).length=(j+1):=by rw[List.length_take];omega
    have HT:=Lib.hid (SlIn.take HV.out (k:=(j+1)) (by omega));have HD0:=SlIn.drop HV.out (k:=(j+1)) (by omega);obtain⟨da,dc,hdv,-,-⟩:=HD0.val;obtain⟨dn,hdn⟩: ∃ dn,(L.drop (j+1)).length=dn:=⟨_,rfl⟩;have hdnI:(j+1)+dn=L.length:=by rw[←hdn,List.length_drop];omega
    rw[hdv,hdn]at HD0;have HD:=Lib.hid HD0;have HS2:Hid (∀ w1:World,(Instr.sliceAt 36 (.slice (some ⟨b,o,none⟩) L.length cap) (some (.int .i64 ((j:Int)+1))) none none).run Tryz.prog w1= .ok (.slice da dn dc) w1):=fun w1=>(slice_msg_l (some ⟨b,o,none⟩) L.length cap (j+1) (by omega) w1).trans (by rw[hdv,hdn])
    have HDN:=Lib.hid hdn;have HTK:=Lib.hid hTK;clear HD0 hdv hdn hTK;go_upto_region 6 with(at_builtin;refine wpList_append_sl rfl _ _ 36 rfl msgL_len w.heap.size 48 i0 _ 128 Tryz.underlying36 hi hz0 hz1 hz2 rfl (by decide) (.slice none 0 0) 0 [] rfl (World.ownsRow_nil _ _ _ _) _ (L.take (j+1)) (fun x hx=>msg_one x (hsl.out x (List.mem_of_mem_take hx))) ?g1 ((HT.out.below (HQ.out.2.mono hB))) ?g2 ?g3 HQ.out.2.size ?_)
    case g1=>rfl
    case g2=>rw[HTK.out];unfold maxLen;omega
    case g3=>rw[HTK.out];omega
    intro v5 w5 own5 gr5 _;have own5:w5.ownsRow w.heap.size 48 13 v5 (j+1) ((L.take (j+1)).flatMap msgL):=by first|exact own5|simpa[HTK.out]using own5
    obtain⟨a5,k5,rfl⟩:=own_val own5;have b5:Bl w w5:=HQ.out.2.grown gr5 HQ.out.2.size (fun q e=>by simp[Value.ownBlock]at e);have z5:w5.heap[w.heap.size]? =some (.cells (msgL ⟨tm, .slice at' nt ct⟩).toArray 48 (0,0)):=(gr5.block _ (lt_of_block HQ.out.1) (by simp[Value.ownBlock])).trans HQ.out.1;have H5:=Lib.hid (And.intro own5 (And.intro b5 z5));have p0:w5.cell? ⟨w.heap.size,0,none⟩=some (.int .i64 tm.src):=blk_cell z5 0 _ rfl;have p1:w5.cell? ⟨w.heap.size,1,none⟩=some (.int .i64 tm.seq):=blk_cell z5 1 _ rfl;have p2:w5.cell? ⟨w.heap.size,2,none⟩=some (.int .i64 tm.iss):=blk_cell z5 2 _ rfl;have p3:w5.cell? ⟨w.heap.size,3,none⟩=some (.int .i64 tm.exp):=blk_cell z5 3 _ rfl;have p4:w5.cell? ⟨w.heap.size,4,none⟩=some (.int .i64 tm.kind):=blk_cell z5 4 _ rfl;have p5:w5.cell? ⟨w.heap.size,5,none⟩=some (str tm.trip):=blk_cell z5 5 _ rfl;have p6:w5.cell? ⟨w.heap.size,6,none⟩=some (.int .i64 tm.day):=blk_cell z5 6 _ rfl;have p7:w5.cell? ⟨w.heap.size,7,none⟩=some (.int .i64 tm.inst):=blk_cell z5 7 _ rfl;have p8:w5.cell? ⟨w.heap.size,8,none⟩=some (.int .i64 tm.call):=blk_cell z5 8 _ rfl;have p9:w5.cell? ⟨w.heap.size,9,none⟩=some (.int .i64 tm.secs):=blk_cell z5 9 _ rfl;have p10:w5.cell? ⟨w.heap.size,10,none⟩=some (.int .i64 tm.route):=blk_cell z5 10 _ rfl;have p11:w5.cell? ⟨w.heap.size,11,none⟩=some (.bool tm.step):=blk_cell z5 11 _ rfl;have p12:w5.cell? ⟨w.heap.size,12,none⟩=some (.slice at' nt ct):=blk_cell z5 12 _ rfl;have hz5:=lt_of_block z5;clear own5 gr5 b5 z5;go_upto_region 7 with(at_builtin;refine wpList_append_own _ rfl _ _ 36 rfl w.heap.size 48 i0 _ 13 128 Tryz.underlying36 hi hz0 hz1 hz2 rfl (by decide) _ _ _ rfl (H5.out.1.alloc _) ⟨w5.heap.size,0,none⟩ 1 1 (msgL ⟨tm, .slice at' nt ct⟩) rfl rfl ?c1 ?c2 ?c3 ?c4 ?c5 ?_)
    case c1=>first|exact fun j u hj=>hj|exact cells_new _ _ (by first|rfl|simp) (fun j u hj=>by rw[List.getElem?_toArray];exact hj)
    case c2=>first|exact msg_one _ ⟨_,_,_,rfl⟩|simp[msgL,Value.oneCell']
    case c3=>unfold maxLen;omega
    case c4=>omega
    case c5=>first|omega|(simp;omega)
    intro v6 w6 own6 gr6 _;obtain⟨a6,k6,rfl⟩:=own_val own6;have b6:Bl w w6:=by
     have h1:=bl_alloc H5.out.2.1 (.cells (msgL ⟨tm, .slice at' nt ct⟩).toArray 48);exact h1.grown gr6 h1.size (fun q hq=>(World.ownsRow.lt H5.out.1 q hq).1)
    have H6:=Lib.hid (And.intro own6 b6);have HS3:=HS2.out w6;clear own6 gr6 b6 p0 p1 p2 p3 p4 p5 p6 p7 p8 p9 p10 p11 p12;go_wp2_with (at_builtin;refine wpList_append_sl rfl _ _ 36 rfl msgL_len w.heap.size 48 i0 _ 128 Tryz.underlying36 hi hz0 hz1 hz2 rfl (by decide) _ _ _ rfl H6.out.1 (.slice da dn dc) (L.drop (j+1)) (fun x hx=>msg_one x (hsl.out x (List.mem_of_mem_drop hx))) rfl (HD.out.below (H6.out.2.mono hB)) ?g1 ?g2 H6.out.2.size ?_)
    case g1=>rw[HDN.out];unfold maxLen;omega
    case g2=>rw[HDN.out];omega
    intro v7 w7 own7 gr7 _;have b7:Bl w w7:=H6.out.2.grown gr7 H6.out.2.size (fun q hq=>(World.ownsRow.lt H6.out.1 q hq).1);have hins:insV L ⟨tm, .slice at' nt ct⟩=L.take (j+1)++(⟨tm, .slice at' nt ct⟩:MsgV)::L.drop (j+1):=by unfold insV;rw[HG.out]
    have hO:w7.ownsRow w.heap.size 48 13 v7 (insV L ⟨tm, .slice at' nt ct⟩).length ((insV L ⟨tm, .slice at' nt ct⟩).flatMap msgL):=by
     rw[hins,List.length_append,List.length_cons,HTK.out,List.flatMap_append,List.flatMap_cons,show(j+1)+((L.drop (j+1)).length+1)=(j+1)+1+(L.drop (j+1)).length by omega];first|exact own7|simpa only[List.length_drop,List.append_assoc]using own7|simpa using own7
    have HO:=Lib.hid (And.intro hO b7);clear own7 gr7 b7 hins hO;obtain⟨a7,k7,rfl⟩:=own_val HO.out.1;go_wp2_with fail;go_ret;exact⟨_,rfl,HO.out⟩
  ·
   obtain rfl:k=0:=by omega
   have HG:=Lib.hid (HR.out.1.symm.trans (show goM (L.map (·.m)) tm 0=0 from rfl));go_wp2_with fail;go_quiet (fail)
   go_upto_region 4 with fail
   have B3:Bl wr (wr.drewN nq):=bl_drewN (bl_refl _) _;generalize wr.drewN nq=wq at B3 ⊢
   have HR0:=Lib.hid (And.intro (blk_bl HR.out.2.1 B3) (bl_next HR.out.2.2 B3));clear B3;have hTK:(L.take 0).length=0:=by rw[List.length_take];omega
   have HT:=Lib.hid (SlIn.take HV.out (k:=0) (by omega));have HD0:=SlIn.drop HV.out (k:=0) (by omega);obtain⟨da,dc,hdv,-,-⟩:=HD0.val;obtain⟨dn,hdn⟩: ∃ dn,(L.drop 0).length=dn:=⟨_,rfl⟩;have hdnI:0+dn=L.length:=by rw[←hdn,List.length_drop];omega
   rw[hdv,hdn]at HD0;have HD:=Lib.hid HD0;have HS2:Hid (∀ w1:World,(Instr.sliceAt 36 (.slice a L.length cap) (some (.int .i64 0)) none none).run Tryz.prog w1= .ok (.slice da dn dc) w1):=fun w1=>(slice_msg_l a L.length cap 0 (by omega) w1).trans (by rw[hdv,hdn])
   have HDN:=Lib.hid hdn;have HTK:=Lib.hid hTK;clear HD0 hdv hdn hTK;go_upto_region 6 with(at_builtin;refine wpList_append_sl rfl _ _ 36 rfl msgL_len w.heap.size 48 i0 _ 128 Tryz.underlying36 hi hz0 hz1 hz2 rfl (by decide) (.slice none 0 0) 0 [] rfl (World.ownsRow_nil _ _ _ _) _ (L.take 0) (fun x hx=>msg_one x (hsl.out x (List.mem_of_mem_take hx))) ?g1 ((HT.out.below (HR0.out.2.mono hB))) ?g2 ?g3 HR0.out.2.size ?_)
   case g1=>rfl
   case g2=>rw[HTK.out];unfold maxLen;omega
   case g3=>rw[HTK.out];omega
   intro v5 w5 own5 gr5 _;have own5:w5.ownsRow w.heap.size 48 13 v5 0 ((L.take 0).flatMap msgL):=by first|exact own5|simpa[HTK.out]using own5
   obtain⟨a5,k5,rfl⟩:=own_val own5;have b5:Bl w w5:=HR0.out.2.grown gr5 HR0.out.2.size (fun q e=>by simp[Value.ownBlock]at e);have z5:w5.heap[w.heap.size]? =some (.cells (msgL ⟨tm, .slice at' nt ct⟩).toArray 48 (0,0)):=(gr5.block _ (lt_of_block HR0.out.1) (by simp[Value.ownBlock])).trans HR0.out.1;have H5:=Lib.hid (And.intro own5 (And.intro b5 z5));have p0:w5.cell? ⟨w.heap.size,0,none⟩=some (.int .i64 tm.src):=blk_cell z5 0 _ rfl;have p1:w5.cell? ⟨w.heap.size,1,none⟩=some (.int .i64 tm.seq):=blk_cell z5 1 _ rfl;have p2:w5.cell? ⟨w.heap.size,2,none⟩=some (.int .i64 tm.iss):=blk_cell z5 2 _ rfl;have p3:w5.cell? ⟨w.heap.size,3,none⟩=some (.int .i64 tm.exp):=blk_cell z5 3 _ rfl;have p4:w5.cell? ⟨w.heap.size,4,none⟩=some (.int .i64 tm.kind):=blk_cell z5 4 _ rfl;have p5:w5.cell? ⟨w.heap.size,5,none⟩=some (str tm.trip):=blk_cell z5 5 _ rfl;have p6:w5.cell? ⟨w.heap.size,6,none⟩=some (.int .i64 tm.day):=blk_cell z5 6 _ rfl;have p7:w5.cell? ⟨w.heap.size,7,none⟩=some (.int .i64 tm.inst):=blk_cell z5 7 _ rfl;have p8:w5.cell? ⟨w.heap.size,8,none⟩=some (.int .i64 tm.call):=blk_cell z5 8 _ rfl;have p9:w5.cell? ⟨w.heap.size,9,none⟩=some (.int .i64 tm.secs):=blk_cell z5 9 _ rfl;have p10:w5.cell? ⟨w.heap.size,10,none⟩=some (.int .i64 tm.route):=blk_cell z5 10 _ rfl;have p11:w5.cell? ⟨w.heap.size,11,none⟩=some (.bool tm.step):=blk_cell z5 11 _ rfl;have p12:w5.cell? ⟨w.heap.size,12,none⟩=some (.slice at' nt ct):=blk_cell z5 12 _ rfl;have hz5:=lt_of_block z5;clear own5 gr5 b5 z5;go_upto_region 7 with(at_builtin;refine wpList_append_own _ rfl _ _ 36 rfl w.heap.size 48 i0 _ 13 128 Tryz.underlying36 hi hz0 hz1 hz2 rfl (by decide) _ _ _ rfl (H5.out.1.alloc _) ⟨w5.heap.size,0,none⟩ 1 1 (msgL ⟨tm, .slice at' nt ct⟩) rfl rfl ?c1 ?c2 ?c3 ?c4 ?c5 ?_)
   case c1=>first|exact fun j u hj=>hj|exact cells_new _ _ (by first|rfl|simp) (fun j u hj=>by rw[List.getElem?_toArray];exact hj)
   case c2=>first|exact msg_one _ ⟨_,_,_,rfl⟩|simp[msgL,Value.oneCell']
   case c3=>unfold maxLen;omega
   case c4=>omega
   case c5=>first|omega|(simp;omega)
   intro v6 w6 own6 gr6 _;obtain⟨a6,k6,rfl⟩:=own_val own6;have b6:Bl w w6:=by
    have h1:=bl_alloc H5.out.2.1 (.cells (msgL ⟨tm, .slice at' nt ct⟩).toArray 48);exact h1.grown gr6 h1.size (fun q hq=>(World.ownsRow.lt H5.out.1 q hq).1)
   have H6:=Lib.hid (And.intro own6 b6);have HS3:=HS2.out w6;clear own6 gr6 b6 p0 p1 p2 p3 p4 p5 p6 p7 p8 p9 p10 p11 p12;go_wp2_with (at_builtin;refine wpList_append_sl rfl _ _ 36 rfl msgL_len w.heap.size 48 i0 _ 128 Tryz.underlying36 hi hz0 hz1 hz2 rfl (by decide) _ _ _ rfl H6.out.1 (.slice da dn dc) (L.drop 0) (fun x hx=>msg_one x (hsl.out x (List.mem_of_mem_drop hx))) rfl (HD.out.below (H6.out.2.mono hB)) ?g1 ?g2 H6.out.2.size ?_)
   case g1=>rw[HDN.out];unfold maxLen;omega
   case g2=>rw[HDN.out];omega
   intro v7 w7 own7 gr7 _;have b7:Bl w w7:=H6.out.2.grown gr7 H6.out.2.size (fun q hq=>(World.ownsRow.lt H6.out.1 q hq).1);have hins:insV L ⟨tm, .slice at' nt ct⟩=L.take 0++(⟨tm, .slice at' nt ct⟩:MsgV)::L.drop 0:=by unfold insV;rw[HG.out]
   have hO:w7.ownsRow w.heap.size 48 13 v7 (insV L ⟨tm, .slice at' nt ct⟩).length ((insV L ⟨tm, .slice at' nt ct⟩).flatMap msgL):=by
    rw[hins,List.length_append,List.length_cons,HTK.out,List.flatMap_append,List.flatMap_cons,show 0+((L.drop 0).length+1)=0+1+(L.drop 0).length by omega];first|exact own7|simpa only[List.length_drop,List.append_assoc]using own7|simpa using own7
   have HO:=Lib.hid (And.intro hO b7);clear own7 gr7 b7 hins hO;obtain⟨a7,k7,rfl⟩:=own_val HO.out.1;go_wp2_with fail;go_ret;exact⟨_,rfl,HO.out⟩
end Go.Proofs.YtncbcmiflffakaaGreat
namespace Go.Proofs.YtncbcmiflffakaaGreat
open Go.RowKit
open Frq Thr Tt
theorem act_boxes (w:World) (gb:Nat) (now:Int): ∃ w1,w1=(w.alloc (.cells #[.pointer (some ⟨gb,0,none⟩)] 82)).alloc (intBox now)∧w1.heap[w.heap.size]? =some (.cells #[.pointer (some ⟨gb,0,none⟩)] 82)∧w1.heap[w.heap.size+1]? =some (intBox now)∧w1.heap.size=w.heap.size+2∧Bl w w1:=by
 refine⟨_,rfl,blk_bl (heap_alloc_new w _) (bl_alloc (bl_refl _) _), ?_,by simp,bl_alloc (bl_alloc (bl_refl _) _) _⟩;have:=heap_alloc_new (w.alloc (.cells #[.pointer (some ⟨gb,0,none⟩)] 82)) (intBox now);simpa using this
def overR (m o:MsgD):Bool:=decide (o.src<m.src)&&sameT o m
theorem overB_eq (l:List MsgD) (m:MsgD):overB l m=l.any (overR m):=rfl
theorem iactive_c (gb gs:Nat) (kv:Value) (ks:List MsgV) (st:BoxD) (ok:Hid (BoxOk st)) (now:Int) (hn:okM now) (w:World) (h:InboxAt gb gs kv ks st w):
  Calls Tryz.prog 43 #[.pointer (some ⟨gb,0,none⟩), .int .i64 now] w fun e w'=> ∃ v ys,e= .returned v∧ys.map (·.m)=activeP st now∧MsgsRd w'.heap.size w' v ys∧Bl w w':=by
 have HI:=Lib.hid h;obtain⟨ak,ck,rfl⟩:=own_val h.kept.row;have hkl:ks.length≤256:=by
  have:=congrArg List.length h.same;rw[List.length_map]at this;rw[this];exact ok.out.kept
 have hkc: ∀ x∈ks,x.m.calls.length≤1000:=fun x hx=>by
  have:=checkM_calls (ok.out.ok x.m (by rw[←h.same];exact List.mem_map_of_mem hx));omega
 have HKC:=Lib.hid hkc;have HA:=Lib.hid (holds_act (w.heap.size+1) w.heap.size gb gs (.slice ak ks.length ck) ks st ok now hn);have W0:=Lib.hid (act_boxes w gb now);clear h hkc;go_enter Tryz.func43,Tryz.ntmps43
 go_upto_region 1 with fail
 obtain⟨w1,hw1,bm1,bn1,s1,bl1⟩:=W0.out;change Code.wp _ _ _ _ ((w.alloc (.cells #[.pointer (some ⟨gb,0,none⟩)] 82)).alloc (intBox now));rw[←hw1];have hI1:=HI.out.bl bl1;have c0:w1.cell? ⟨w.heap.size,0,none⟩=some (.pointer (some ⟨gb,0,none⟩)):=blk_cell bm1 0 _ rfl;have c2:w1.cell? ⟨gb,2,none⟩=some (.slice ak ks.length ck):=blk_cell hI1.box 2 _ rfl;have HCF:=Lib.hid (filtered_c 72 #[.pointer (some ⟨w.heap.size+1,0,none⟩), .pointer (some ⟨w.heap.size,0,none⟩)] (currentB st now) _ HA (.slice ak ks.length ck) ks (by omega) HKC w1.heap.size w1 hI1.kept.rd (Nat.le_refl _) ⟨bn1,bm1,hI1⟩);have BL1:=Lib.hid bl1;clear hw1 bm1 bn1 s1 bl1 W0 hI1;go_wp2_with fail;refine HCF.out.mono ?_;rintro e w2 ⟨v5,cs,rfl,hcs,ocs,b2⟩;obtain⟨a5,k5,rfl⟩:=own_val ocs.row;have hcs':cs.map (·.m)=currentP st now:=by rw[hcs,HI.out.same];rfl
 have hcl:cs.length≤256:=by
  have h1:=congrArg List.length hcs';have h2:(currentP st now).length≤st.kept.length:=List.length_filter_le _ _;rw[List.length_map]at h1;have:=ok.out.kept;omega
 have hcI:(cs.length:Int)≤256:=by omega
 have hcv: ∀ x∈cs,∃ a n c,x.v= .slice a n c:=fun x hx=>by
  obtain⟨a,c,h⟩:=own_val (ocs.calls x hx);exact⟨a,_,c,h⟩
 have HCV:=Lib.hid hcv;have HCS:=Lib.hid hcs';have HO:=Lib.hid (And.intro ocs (bl_next BL1.out b2));clear hcs hcs' ocs b2 HCF c0 c2 hcv;go_wp2_with fail;go_loopw [6,22] (fun u i wr=> ∃ (k:Nat) (v:Value) (ys:List MsgV),(k≤cs.length∧i= .int .i64 k∧u=v)∧Hid (wr.ownsRow w.heap.size 48 13 v ys.length (ys.flatMap msgL)∧ys.map (·.m)=sortM (((cs.map (·.m)).take k).filter fun m=> !overB (cs.map (·.m)) m)∧(∀ y∈ys,y∈cs)∧ys.length≤k∧Bl w2 wr)) (fun _ i _=>cs.length-(intOf i).toNat)
 case atStart=>exact⟨0,_,[],⟨Nat.zero_le _,rfl,rfl⟩,Lib.hid ⟨World.ownsRow_nil _ _ _ _,by simp[sortM],by simp,Nat.le_refl _,bl_refl _⟩⟩
 case round=>
  obtain⟨k,u,ys,⟨hk,rfl,rfl⟩,HR⟩:=hrel;obtain⟨au,ku,rfl⟩:=own_val HR.out.1;by_cases hlt:k<cs.length
  ·
   have hltI:(k:Int)<(cs.length:Int):=by omega
   obtain⟨b,o,x,rfl,hbB,hx,hcx⟩:=HO.out.1.rd.sl.get (k:=k) hlt HR.out.2.2.2.2 (Nat.le_refl _);obtain⟨ax,nx,cx,hxv⟩:=HCV.out x (List.mem_of_getElem? hx);obtain⟨m,xv⟩:=x;simp only at hxv;subst hxv;have c0:wr.cell? ⟨b,o+k*13,none⟩=some (.int .i64 m.src):=hcx 0 _ rfl;have c1:wr.cell? ⟨b,o+k*13+1,none⟩=some (.int .i64 m.seq):=hcx 1 _ rfl;have c2:wr.cell? ⟨b,o+k*13+2,none⟩=some (.int .i64 m.iss):=hcx 2 _ rfl;have c3:wr.cell? ⟨b,o+k*13+3,none⟩=some (.int .i64 m.exp):=hcx 3 _ rfl;have c4:wr.cell? ⟨b,o+k*13+4,none⟩=some (.int .i64 m.kind):=hcx 4 _ rfl;have c5:wr.cell? ⟨b,o+k*13+5,none⟩=some (str m.trip):=hcx 5 _ rfl;have c6:wr.cell? ⟨b,o+k*13+6,none⟩=some (.int .i64 m.day):=hcx 6 _ rfl;have c7:wr.cell? ⟨b,o+k*13+7,none⟩=some (.int .i64 m.inst):=hcx 7 _ rfl;have c8:wr.cell? ⟨b,o+k*13+8,none⟩=some (.int .i64 m.call):=hcx 8 _ rfl;have c9:wr.cell? ⟨b,o+k*13+9,none⟩=some (.int .i64 m.secs):=hcx 9 _ rfl;have c10:wr.cell? ⟨b,o+k*13+10,none⟩=some (.int .i64 m.route):=hcx 10 _ rfl;have c11:wr.cell? ⟨b,o+k*13+11,none⟩=some (.bool m.step):=hcx 11 _ rfl;have c12:wr.cell? ⟨b,o+k*13+12,none⟩=some (.slice ax nx cx):=hcx 12 _ rfl;have HX:=Lib.hid hx;clear hx hcx;have hbm:=heap_alloc_new wr (msgBox m (.slice ax nx cx));have Bm:=bl_alloc (bl_refl wr) (msgBox m (.slice ax nx cx));go_upto_region 8 with fail
   change Code.wp _ _ _ _ (wr.alloc (msgBox m (.slice ax nx cx)));generalize wr.alloc (msgBox m (.slice ax nx cx))=w3 at hbm Bm ⊢
   have H3:=Lib.hid (And.intro hbm Bm);clear hbm Bm c0 c1 c2 c3 c4 c5 c6 c7 c8 c9 c10 c11 c12;go_wp2_with fail;go_loopw [9,28] (fun ov i wi=> ∃ (j:Nat) (ovb:Bool),(j≤cs.length∧i= .int .i64 j∧ov= .bool ovb)∧Hid (((cs.map (·.m)).take j).any (overR m)=ovb∧wi.heap[wr.heap.size]? =some (msgBox m (.slice ax nx cx))∧Bl wr wi)) (fun _ i _=>cs.length-(intOf i).toNat)
   case atStart=>exact⟨0,false,⟨Nat.zero_le _,rfl,rfl⟩,Lib.hid ⟨rfl,H3.out.1,H3.out.2⟩⟩
   case round=>
    rename World=>wi
    obtain⟨j,ovb,⟨hj,rfl,rfl⟩,HJ⟩:=hrel;by_cases hjl:j<cs.length
    ·
     have hjlI:(j:Int)<(cs.length:Int):=by omega
     obtain⟨b',o',y,hbb,-,hy,hcy⟩:=HO.out.1.rd.sl.get (k:=j) hjl (bl_next HR.out.2.2.2.2 HJ.out.2.2) (Nat.le_refl _);simp only[Option.some.injEq,Addr.mk.injEq,and_true]at hbb;obtain⟨rfl,rfl⟩:=hbb;obtain⟨ay,ny,cy,hyv⟩:=HCV.out y (List.mem_of_getElem? hy);obtain⟨q,yv⟩:=y;simp only at hyv;subst hyv;have c0:wi.cell? ⟨b,o+j*13,none⟩=some (.int .i64 q.src):=hcy 0 _ rfl;have c1:wi.cell? ⟨b,o+j*13+1,none⟩=some (.int .i64 q.seq):=hcy 1 _ rfl;have c2:wi.cell? ⟨b,o+j*13+2,none⟩=some (.int .i64 q.iss):=hcy 2 _ rfl;have c3:wi.cell? ⟨b,o+j*13+3,none⟩=some (.int .i64 q.exp):=hcy 3 _ rfl;have c4:wi.cell? ⟨b,o+j*13+4,none⟩=some (.int .i64 q.kind):=hcy 4 _ rfl;have c5:wi.cell? ⟨b,o+j*13+5,none⟩=some (str q.trip):=hcy 5 _ rfl;have c6:wi.cell? ⟨b,o+j*13+6,none⟩=some (.int .i64 q.day):=hcy 6 _ rfl;have c7:wi.cell? ⟨b,o+j*13+7,none⟩=some (.int .i64 q.inst):=hcy 7 _ rfl;have c8:wi.cell? ⟨b,o+j*13+8,none⟩=some (.int .i64 q.call):=hcy 8 _ rfl;have c9:wi.cell? ⟨b,o+j*13+9,none⟩=some (.int .i64 q.secs):=hcy 9 _ rfl;have c10:wi.cell? ⟨b,o+j*13+10,none⟩=some (.int .i64 q.route):=hcy 10 _ rfl;have c11:wi.cell? ⟨b,o+j*13+11,none⟩=some (.bool q.step):=hcy 11 _ rfl;have c12:wi.cell? ⟨b,o+j*13+12,none⟩=some (.slice ay ny cy):=hcy 12 _ rfl;have hyr:(cs.map (·.m))[j]? =some q:=by rw[List.getElem?_map,hy];rfl
     have hnext:((cs.map (·.m)).take (j+1)).any (overR m)=(ovb||overR m q):=by rw[take_snoc_at hyr,List.any_append,HJ.out.1];simp
     have HNx:=Lib.hid hnext;clear hy hcy hyr hnext;have hbq:=heap_alloc_new wi (msgBox q (.slice ay ny cy));have Bq:=bl_alloc (bl_refl wi) (msgBox q (.slice ay ny cy));go_upto_region 12 with fail
     change Code.wp _ _ _ _ (wi.alloc (msgBox q (.slice ay ny cy)));generalize wi.alloc (msgBox q (.slice ay ny cy))=w4 at hbq Bq ⊢
     have hbm4:=blk_bl HJ.out.2.1 Bq;have H4:=Lib.hid (And.intro hbm4 (bl_next HJ.out.2.2 Bq));have d0:w4.cell? ⟨wr.heap.size,0,none⟩=some (.int .i64 m.src):=blk_cell hbm4 0 _ rfl;have d1:w4.cell? ⟨wr.heap.size,1,none⟩=some (.int .i64 m.seq):=blk_cell hbm4 1 _ rfl;have d2:w4.cell? ⟨wr.heap.size,2,none⟩=some (.int .i64 m.iss):=blk_cell hbm4 2 _ rfl;have d3:w4.cell? ⟨wr.heap.size,3,none⟩=some (.int .i64 m.exp):=blk_cell hbm4 3 _ rfl;have d4:w4.cell? ⟨wr.heap.size,4,none⟩=some (.int .i64 m.kind):=blk_cell hbm4 4 _ rfl;have d5:w4.cell? ⟨wr.heap.size,5,none⟩=some (str m.trip):=blk_cell hbm4 5 _ rfl;have d6:w4.cell? ⟨wr.heap.size,6,none⟩=some (.int .i64 m.day):=blk_cell hbm4 6 _ rfl;have d7:w4.cell? ⟨wr.heap.size,7,none⟩=some (.int .i64 m.inst):=blk_cell hbm4 7 _ rfl;have d8:w4.cell? ⟨wr.heap.size,8,none⟩=some (.int .i64 m.call):=blk_cell hbm4 8 _ rfl;have d9:w4.cell? ⟨wr.heap.size,9,none⟩=some (.int .i64 m.secs):=blk_cell hbm4 9 _ rfl;have d10:w4.cell? ⟨wr.heap.size,10,none⟩=some (.int .i64 m.route):=blk_cell hbm4 10 _ rfl;have d11:w4.cell? ⟨wr.heap.size,11,none⟩=some (.bool m.step):=blk_cell hbm4 11 _ rfl;have d12:w4.cell? ⟨wr.heap.size,12,none⟩=some (.slice ax nx cx):=blk_cell hbm4 12 _ rfl;have e0:w4.cell? ⟨wi.heap.size,0,none⟩=some (.int .i64 q.src):=blk_cell hbq 0 _ rfl;have e1:w4.cell? ⟨wi.heap.size,1,none⟩=some (.int .i64 q.seq):=blk_cell hbq 1 _ rfl;have e2:w4.cell? ⟨wi.heap.size,2,none⟩=some (.int .i64 q.iss):=blk_cell hbq 2 _ rfl;have e3:w4.cell? ⟨wi.heap.size,3,none⟩=some (.int .i64 q.exp):=blk_cell hbq 3 _ rfl;have e4:w4.cell? ⟨wi.heap.size,4,none⟩=some (.int .i64 q.kind):=blk_cell hbq 4 _ rfl;have e5:w4.cell? ⟨wi.heap.size,5,none⟩=some (str q.trip):=blk_cell hbq 5 _ rfl;have e6:w4.cell? ⟨wi.heap.size,6,none⟩=some (.int .i64 q.day):=blk_cell hbq 6 _ rfl;have e7:w4.cell? ⟨wi.heap.size,7,none⟩=some (.int .i64 q.inst):=blk_cell hbq 7 _ rfl;have e8:w4.cell? ⟨wi.heap.size,8,none⟩=some (.int .i64 q.call):=blk_cell hbq 8 _ rfl;have e9:w4.cell? ⟨wi.heap.size,9,none⟩=some (.int .i64 q.secs):=blk_cell hbq 9 _ rfl;have e10:w4.cell? ⟨wi.heap.size,10,none⟩=some (.int .i64 q.route):=blk_cell hbq 10 _ rfl;have e11:w4.cell? ⟨wi.heap.size,11,none⟩=some (.bool q.step):=blk_cell hbq 11 _ rfl;have e12:w4.cell? ⟨wi.heap.size,12,none⟩=some (.slice ay ny cy):=blk_cell hbq 12 _ rfl;clear hbm4 hbq Bq c0 c1 c2 c3 c4 c5 c6 c7 c8 c9 c10 c11 c12;cases ovb with
     |true=>
      have HE:=Lib.hid (HNx.out.trans (Bool.true_or _));go_wp2_with fail;exact⟨⟨j+1,true,⟨by omega,by go_num,rfl⟩,Lib.hid ⟨HE.out,H4.out.1,H4.out.2⟩⟩,by simp only[intOf];omega⟩
     |false=>
      by_cases hs:q.src<m.src
      ·
       obtain⟨sb,hsb⟩: ∃ sb,sameT q m=sb:=⟨_,rfl⟩;have HC:=Lib.hid (fun w1=>Ms.same_c q m (.slice ay ny cy) (.slice ax nx cx) sb (Lib.hid hsb) w1);have HE:=Lib.hid (show((cs.map (·.m)).take (j+1)).any (overR m)=sb by rw[HNx.out,Bool.false_or];unfold overR;rw[decide_eq_true hs,hsb];rfl);clear hsb;go_wp2_with fail;refine(HC.out w4).mono ?_;rintro e w5 ⟨rfl,b5⟩;have H5:=Lib.hid (And.intro (blk_bl H4.out.1 b5) (bl_next H4.out.2 b5));clear b5 d0 d1 d2 d3 d4 d5 d6 d7 d8 d9 d10 d11 d12 e0 e1 e2 e3 e4 e5 e6 e7 e8 e9 e10 e11 e12;go_wp2_with fail;exact⟨⟨j+1,sb,⟨by omega,by go_num,rfl⟩,Lib.hid ⟨HE.out,H5.out.1,H5.out.2⟩⟩,by simp only[intOf];omega⟩
      ·
       have HE:=Lib.hid (show((cs.map (·.m)).take (j+1)).any (overR m)=false by rw[HNx.out,Bool.false_or];unfold overR;rw[decide_eq_false hs];rfl);go_wp2_with fail;exact⟨⟨j+1,false,⟨by omega,by go_num,rfl⟩,Lib.hid ⟨HE.out,H4.out.1,H4.out.2⟩⟩,by simp only[intOf];omega⟩
    ·
     obtain rfl:j=cs.length:=by omega
     have hov:=HJ.out.1;rw[List.take_of_length_le (by rw[List.length_map];exact Nat.le_refl _),←overB_eq]at hov;have hxr:(cs.map (·.m))[k]? =some m:=by rw[List.getElem?_map,HX.out];rfl
     have hsort:sortM (((cs.map (·.m)).take (k+1)).filter fun m=> !overB (cs.map (·.m)) m)=if ovb=true then sortM (((cs.map (·.m)).take k).filter fun m=> !overB (cs.map (·.m)) m)else insM (sortM (((cs.map (·.m)).take k).filter fun m=> !overB (cs.map (·.m)) m)) m:=by
      rw[take_snoc_at hxr,List.filter_append];cases ovb with
      |true=>simp[hov]
      |false=>simp[hov,sortM_snoc]
     rw[←HR.out.2.1]at hsort;have HSo:=Lib.hid hsort;have hlk:=HR.out.2.2.2.1;have hbw:=HJ.out.2.2;have hbm:=HJ.out.2.1;clear hov hxr hsort;cases ovb with
     |true=>
      have HB:=Lib.hid hbw;clear hbw hbm;go_wp2_with fail;exact⟨⟨k+1,_,ys,⟨by omega,by go_num,rfl⟩,Lib.hid ⟨own_bl HR.out.1 HB.out,HSo.out.symm,HR.out.2.2.1,by omega,bl_next HR.out.2.2.2.2 HB.out⟩⟩,by simp only[intOf];omega⟩
     |false=>
      have d0:wi.cell? ⟨wr.heap.size,0,none⟩=some (.int .i64 m.src):=blk_cell hbm 0 _ rfl;have d1:wi.cell? ⟨wr.heap.size,1,none⟩=some (.int .i64 m.seq):=blk_cell hbm 1 _ rfl;have d2:wi.cell? ⟨wr.heap.size,2,none⟩=some (.int .i64 m.iss):=blk_cell hbm 2 _ rfl;have d3:wi.cell? ⟨wr.heap.size,3,none⟩=some (.int .i64 m.exp):=blk_cell hbm 3 _ rfl;have d4:wi.cell? ⟨wr.heap.size,4,none⟩=some (.int .i64 m.kind):=blk_cell hbm 4 _ rfl;have d5:wi.cell? ⟨wr.heap.size,5,none⟩=some (str m.trip):=blk_cell hbm 5 _ rfl;have d6:wi.cell? ⟨wr.heap.size,6,none⟩=some (.int .i64 m.day):=blk_cell hbm 6 _ rfl;have d7:wi.cell? ⟨wr.heap.size,7,none⟩=some (.int .i64 m.inst):=blk_cell hbm 7 _ rfl;have d8:wi.cell? ⟨wr.heap.size,8,none⟩=some (.int .i64 m.call):=blk_cell hbm 8 _ rfl;have d9:wi.cell? ⟨wr.heap.size,9,none⟩=some (.int .i64 m.secs):=blk_cell hbm 9 _ rfl;have d10:wi.cell? ⟨wr.heap.size,10,none⟩=some (.int .i64 m.route):=blk_cell hbm 10 _ rfl;have d11:wi.cell? ⟨wr.heap.size,11,none⟩=some (.bool m.step):=blk_cell hbm 11 _ rfl;have d12:wi.cell? ⟨wr.heap.size,12,none⟩=some (.slice ax nx cx):=blk_cell hbm 12 _ rfl;have HB:=Lib.hid hbw;have hown:=own_bl HR.out.1 hbw;have HIn:=Lib.hid (inserted_c (.slice au ys.length ku) ys (by omega) ⟨m, .slice ax nx cx⟩ (Lib.hid fun y hy=>HCV.out y (HR.out.2.2.1 y hy)) ⟨_,_,_,rfl⟩ wi.heap.size wi (slIn_own msgL_len hown) (Nat.le_refl _));have HOw:=Lib.hid hown;clear hbw hbm hown;go_wp2_with fail;refine HIn.out.mono ?_;rintro e w5 ⟨v6,rfl,o6,b6⟩;have hzz:=(bl_next (bl_next HO.out.2 HR.out.2.2.2.2) HB.out).size;have hm6:(insV ys ⟨m, .slice ax nx cx⟩).map (·.m)=sortM (((cs.map (·.m)).take (k+1)).filter fun m=> !overB (cs.map (·.m)) m):=by
       rw[insV_m];exact HSo.out.symm
      have H6:=Lib.hid (And.intro (own_down o6 hzz) (And.intro hm6 (bl_next (bl_next HR.out.2.2.2.2 HB.out) b6)));clear o6 b6 hm6;go_wp2_with fail;exact⟨⟨k+1,_,insV ys ⟨m, .slice ax nx cx⟩,⟨by omega,by go_num,rfl⟩,Lib.hid ⟨H6.out.1,H6.out.2.1,fun y hy=>(insV_mem hy).elim (fun h=>HR.out.2.2.1 y h) (fun h=>h ▸ List.mem_of_getElem? HX.out),by rw[insV_len];omega,H6.out.2.2⟩⟩,by simp only[intOf];omega⟩
  ·
   obtain rfl:k=cs.length:=by omega
   have hF:=HR.out.2.1;rw[List.take_of_length_le (by rw[List.length_map];exact Nat.le_refl _),HCS.out]at hF;have HF:=Lib.hid hF;clear hF;go_wp2_with fail;go_ret;first
   |exact⟨_,ys,rfl,HF.out,⟨slIn_own msgL_len HR.out.1,fun y hy=>((slIn_own callCells_len (HO.out.1.calls y (HR.out.2.2.1 y hy))).below HR.out.2.2.2.2).mono HR.out.2.2.2.2.size⟩,bl_next HO.out.2 HR.out.2.2.2.2⟩
   |exact⟨_,rfl,ys,HF.out,⟨slIn_own msgL_len HR.out.1,fun y hy=>((slIn_own callCells_len (HO.out.1.calls y (HR.out.2.2.1 y hy))).below HR.out.2.2.2.2).mono HR.out.2.2.2.2.size⟩,bl_next HO.out.2 HR.out.2.2.2.2⟩
end Go.Proofs.YtncbcmiflffakaaGreat
