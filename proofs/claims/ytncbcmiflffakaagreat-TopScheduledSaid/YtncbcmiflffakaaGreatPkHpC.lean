/-
  What the laws of top need of TopHpC, TopHpD, TopHpE, TopHpF, TopHpG. Conditions: those of each lemma.
-/
import Derived.Test.YtncbcmiflffakaaGreatPkHpA
import Derived.Deep.AppendLies
import Derived.Deep.RegionLaw
import Derived.Deep.DrawnRows
import Derived.Deep.RegionHeld3
import Derived.BigQuiet
import Derived.Deep.QuietTactic
import Derived.Laws.ResultCell
set_option maxRecDepth 1000000
set_option maxHeartbeats 32000000
namespace Go.Proofs.YtncbcmiflffakaaGreat
open Go.RowKit
open Dj
theorem HpAt.val {base hb:Nat} {l:List NodeD} {p:Int} {v:Value} {w:World} (h:HpAt base hb l p v w): ∃ (a:Option Addr) (cap:Nat),v= .slice a l.length cap:=by
 rcases h.row.2 with⟨rfl,h0⟩|⟨g,cap,cur,rfl,-⟩
 · exact⟨none,0,by rw[h0]⟩
 · exact⟨_,_,rfl⟩
theorem HpAt.far {base hb:Nat} {l:List NodeD} {p:Int} {v:Value} {w:World} (h:HpAt base hb l p v w):some hb≠v.ownBlock:=by
 intro e;rcases h.row.2 with⟨rfl,-⟩|⟨g,cap,cur,rfl,-,h3,-⟩
 · simp[Value.ownBlock]at e
 ·
  obtain rfl:hb=g:=by simpa[Value.ownBlock]using e
  rw[h.blk]at h3;simp at h3
theorem len_c (base hb:Nat) (l:List NodeD) (p:Int) (v:Value) (w:World) (hp:HpAt base hb l p v w):
  Calls Tryz.prog 180 #[.pointer (some ⟨hb,0,none⟩)] w fun q w'=>q= .returned (.int .i64 l.length)∧w=w':=by
 obtain⟨a,cap,rfl⟩:=hp.val;obtain⟨e0,e1,e2⟩:=hp.cells;clear hp;go_enter Tryz.func180,Tryz.ntmps180
 go_wp2;go_ret;exact⟨rfl,rfl⟩
structure HpMv (hb:Nat) (v:Value) (w w':World):Prop where
 os:w'.os=w.os
 tape:w'.tape=w.tape
 output:w'.output=w.output
 size:w.heap.size≤w'.heap.size
 block: ∀ k,k<w.heap.size→k≠hb→some k≠v.ownBlock→w'.heap[k]? =w.heap[k]?
theorem HpMv.of_bl {hb:Nat} {v:Value} {w w':World} (h:Bl w w'):HpMv hb v w w':=⟨h.os,h.tape,h.output,h.size,fun k hk _ _=>h.block k hk⟩
theorem HpMv.of_row {hb:Nat} {v:Value} {w w':World} (h:w.grownBy w' v.ownBlock):HpMv hb v w w':=⟨h.os,h.tape,h.output,h.size,fun k hk _ hv=>h.block k hk hv⟩
theorem HpMv.of_blk {hb:Nat} {v:Value} {w w':World} (h:w.grownBy w' (some hb)):HpMv hb v w w':=⟨h.os,h.tape,h.output,h.size,fun k hk hne _=>h.block k hk (fun e=>hne (Option.some.inj e))⟩
def Moved (v v':Value) (w:World):Prop:=v'.ownBlock=v.ownBlock∨ ∀ k,v'.ownBlock=some k→w.heap.size≤k
theorem HpMv.trans {hb:Nat} {v v':Value} {w w1 w2:World} (h:HpMv hb v w w1) (k:HpMv hb v' w1 w2) (m:Moved v v' w):HpMv hb v w w2:=
 ⟨k.os.trans h.os,k.tape.trans h.tape,k.output.trans h.output,Nat.le_trans h.size k.size,fun i hi hne hv=>(k.block i (Nat.lt_of_lt_of_le hi h.size) hne (fun e=>by
  rcases m with m|m
  · exact hv (by rw[←m];exact e)
  ·
   have:=m i e.symm;omega)).trans (h.block i hi hne hv)⟩
theorem HpMv.then {hb:Nat} {v:Value} {w w1 w2:World} (h:HpMv hb v w w1) (k:HpMv hb v w1 w2):HpMv hb v w w2:=h.trans k (.inl rfl)
theorem HpMv.cell {hb:Nat} {v:Value} {w w':World} (h:HpMv hb v w w') {b o:Nat} {u:Value} (hc:w.cell? ⟨b,o,none⟩=some u) (hne:b≠hb) (hv:some b≠v.ownBlock):w'.cell? ⟨b,o,none⟩=some u:=
 (World.cell?_of_block (a:=⟨b,o,none⟩) (h.block b (World.block_lt_of_cell? w _ hc) hne hv)).trans hc
theorem HpMv.below {hb:Nat} {v:Value} {w w':World} (h:HpMv hb v w w') {base:Nat} (h1:base≤hb) (h2: ∀ k,v.ownBlock=some k→base≤k) (h3:base≤w.heap.size):Below base w w':=
 ⟨h.os,h.tape,h.output,h.size,fun k hk=>h.block k (by omega) (by omega) (fun e=>by have:=h2 k e.symm;omega)⟩
theorem HpAt.grown {base hb:Nat} {l:List NodeD} {p:Int} {v:Value} {w w1:World} (h:HpAt base hb l p v w) {g cap:Nat} {x:NodeD} (hg:w.grownBy w1 v.ownBlock)
  (ho:w1.ownsRow base 280 4 (.slice (some ⟨g,0,none⟩) (l.length+1) cap) (l.length+1) (l.flatMap nodeCells++nodeCells x)) (hat:v.ownBlock=some g∨w.heap.size≤g):
  HpAt base hb (l++[x]) p (.slice (some ⟨g,0,none⟩) (l.length+1) cap) (w1.setCell ⟨hb,1,none⟩ (.slice (some ⟨g,0,none⟩) (l.length+1) cap))
   ∧HpMv hb v w (w1.setCell ⟨hb,1,none⟩ (.slice (some ⟨g,0,none⟩) (l.length+1) cap))∧Moved v (.slice (some ⟨g,0,none⟩) (l.length+1) cap) w:=by
 have hb1:w1.heap[hb]? =some (.cells (hpC v p) 278 (0,0)):=(hg.block hb h.lt h.far).trans h.blk;have hgb:some hb≠some g:=fun e=>by
  rcases hat with k|k
  · exact h.far (e.trans k.symm)
  · have:=h.lt;simp only[Option.some.injEq]at e;omega
 have b2:=blk_set hb1 1 (.slice (some ⟨g,0,none⟩) (l.length+1) cap);have g2:w1.grownBy (w1.setCell ⟨hb,1,none⟩ (.slice (some ⟨g,0,none⟩) (l.length+1) cap)) (some hb):=gr_set hb w1 1 _;refine⟨⟨b2, ?_,h.lo⟩,(HpMv.of_row hg).then (HpMv.of_blk g2), ?_⟩
 ·
  rw[List.length_append,List.length_singleton,List.flatMap_append];have:=ho.kept g2 (.inr (fun e=>hgb (by rw[←e];rfl)));simpa using this
 ·
  rcases hat with k|k
  · exact .inl k.symm
  ·
   exact .inr fun j hj=>by
    obtain rfl:g=j:=by simpa[Value.ownBlock]using hj
    exact k
theorem HpAt.count {base hb:Nat} {l:List NodeD} {p:Int} {v:Value} {w:World} (h:HpAt base hb l p v w) (p':Int):HpAt base hb l p' v (w.setCell ⟨hb,2,none⟩ (.int .i64 p'))∧HpMv hb v w (w.setCell ⟨hb,2,none⟩ (.int .i64 p')):=by
 have g2:w.grownBy (w.setCell ⟨hb,2,none⟩ (.int .i64 p')) (some hb):=gr_set hb w 2 _;exact⟨⟨blk_set h.blk 2 _,h.row.kept g2 (.inr fun e=>h.far e.symm),h.lo⟩,HpMv.of_blk g2⟩
theorem HpAt.row_lt {base hb:Nat} {l:List NodeD} {p:Int} {v:Value} {w:World} (h:HpAt base hb l p v w): ∀ k,v.ownBlock=some k→base≤k∧k<w.heap.size:=World.ownsRow.lt h.row
end Go.Proofs.YtncbcmiflffakaaGreat
namespace Go.Proofs.YtncbcmiflffakaaGreat
open Go.RowKit
open Dj
theorem info_node:(Tryz.prog.info? 280).map (fun i=>(i.zero,i.size,i.bytes))=some (some (.agg #[.int .i64 0, .int .i64 0, .int .i64 0, .int .i64 0]),4,32):=by kernel_rfl
structure PushAt (base hb:Nat) (l:List NodeD) (nd:NodeD) (p:Int) (v v':Value) (w:World) (l':List NodeD) (i:Nat) (wr:World):Prop where
 hp:HpAt base hb l' p v' wr
 len:l'.length=l.length+1
 mem: ∀ z,z∈l'↔z=nd∨z∈l
 up:UpAt l' i
 lt:i<l'.length
 mv:HpMv hb v w wr
theorem push_c (base hb:Nat) (l:List NodeD) (p:Int) (v:Value) (n x e:Int) (hl:l.length≤100000) (hp0:0≤p∧p≤100000) (ok:HeapOk l) (w:World) (hp:HpAt base hb l p v w):
  Calls Tryz.prog 168 #[.pointer (some ⟨hb,0,none⟩), .agg #[.int .i64 n, .int .i64 x, .int .i64 e]] w fun q w'=>q= .returned (.tuple #[])∧
   ∃ l' v',HpAt base hb l' (p+1) v' w'∧l'.length=l.length+1∧(∀ z,z∈l'↔z=⟨n,x,e,p⟩∨z∈l)∧HeapOk l'∧HpMv hb v w w'∧Moved v v' w:=by
 obtain⟨a,cap,rfl⟩:=hp.val;obtain⟨i0,hi,hz0,hz1,hz2⟩:=info_parts info_node;have HP:=Lib.hid hp;have HK:=Lib.hid ok;obtain⟨w0,hw0⟩: ∃ w0,w.alloc (.cells #[.int .i64 n, .int .i64 x, .int .i64 e] 263)=w0:=⟨_,rfl⟩;have b0:Bl w w0:=by rw[←hw0];exact bl_alloc (bl_refl _) _
 have hn0:w0.heap[w.heap.size]? =some (.cells #[.int .i64 n, .int .i64 x, .int .i64 e] 263 (0,0)):=by rw[←hw0];exact heap_alloc_new w _
 have s0:w0.heap.size=w.heap.size+1:=by rw[←hw0];simp
 have HP0:=Lib.hid (hp.bl b0);have B0:=Lib.hid b0;obtain⟨e0,e1,e2⟩:=HP0.out.cells;have x0:w0.cell? ⟨w.heap.size,0,none⟩=some (.int .i64 n):=blk_cell hn0 0 _ rfl;have x1:w0.cell? ⟨w.heap.size,1,none⟩=some (.int .i64 x):=blk_cell hn0 1 _ rfl;have x2:w0.cell? ⟨w.heap.size,2,none⟩=some (.int .i64 e):=blk_cell hn0 2 _ rfl;have fz:w0.frozen? ⟨hb,1,none⟩=false:=Lib.frozen_of_heap HP0.out.blk 1;have hlt:=HP0.out.lt;have hlo:=hp.lo;have far:=HP0.out.far;have al:=bl_cell (bl_alloc (bl_drew (bl_refl w0)) (.cells #[.int .i64 n, .int .i64 x, .int .i64 e, .int .i64 p] 280));have hb0:base≤w0.heap.size:=by omega
 have S0:=Lib.hid s0;clear hp ok b0 hn0 s0;go_enter Tryz.func168,Tryz.ntmps168
 have R:Hid ((w0.drew).ownsRow base 280 4 (.slice a l.length cap) l.length (l.flatMap nodeCells)):=HP0.out.row.drew;go_wp2_with fail;go_cut [] (fun wx=> ∃ (g c:Nat),Hid (HpAt base hb (l++[⟨n,x,e,p⟩]) p (.slice (some ⟨g,0,none⟩) (l.length+1) c) wx∧HpMv hb (.slice a l.length cap) w wx∧Moved (.slice a l.length cap) (.slice (some ⟨g,0,none⟩) (l.length+1) c) w))
 case first=>
  rename_i J0 K0 hJ0 hK0;go_region_law ((refine step_append_lies _ (by rfl) _ _ _ (by rfl) base 280 i0 _ 4 32 Tryz.underlying276 hi hz0 hz1 hz2 rfl (by omega) (.slice a l.length cap) l.length (l.flatMap nodeCells) (by rfl) (World.ownsRow.alloc R.out _) ⟨w0.heap.size,0,none⟩ 1 1 (nodeCells ⟨n,x,e,p⟩) (by rfl) (by rfl) (World.news_of_block (cs:= #[.int .i64 n, .int .i64 x, .int .i64 e, .int .i64 p]) (heap_alloc_new w0.drew _)) (by simp[nodeCells,Value.oneCell']) (by omega) (by unfold maxLen;omega) (by omega) (by simp;omega) (w0.heap.size+1) (by simp) ?_;intro gg6 cap6 w6 hown6 hgrow6 hat6 hlt6;have mk6:=(hgrow6.cell_far ⟨hb,1,none⟩ (by simp;omega) far).trans ((al.1 _ _ (by omega)).trans e1);have mf6:=(hgrow6.frozen_far ⟨hb,1,none⟩ (by simp;omega) far).trans ((al.2 _ _ (by omega)).trans fz)))
  all_goals
   refine hK0 _ _ (Met.intro (hJ0 _ _ ?_));repeat apply Exists.intro
   refine⟨?rel,rfl⟩;case rel=>
    have q:=(HP0.out.bl (bl_alloc (bl_drew (bl_refl _)) (.cells #[.int .i64 n, .int .i64 x, .int .i64 e, .int .i64 p] 280))).grown (x:=⟨n,x,e,p⟩) hgrow6 hown6 (by
     rcases hat6 with k|k
     · exact .inl k
     · exact .inr (by simp;omega))
    refine⟨gg6,cap6,q.1,(HpMv.of_bl (bl_alloc (bl_drew B0.out) _)).then q.2.1, ?_⟩;rcases q.2.2 with k|k
    · exact .inl k
    · exact .inr fun j hj=>by have:=k j hj;have:=(bl_alloc (bl_drew B0.out) (.cells #[.int .i64 n, .int .i64 x, .int .i64 e, .int .i64 p] 280)).size;omega
 case rest=>
  obtain⟨g,c,HC⟩:=hcut;obtain⟨d0,d1,d2⟩:=HC.out.1.cells;have fz2:wc.frozen? ⟨hb,2,none⟩=false:=Lib.frozen_of_heap HC.out.1.blk 2;obtain⟨hp0,hp1⟩:=hp0;clear e0 e1 e2 x0 x1 x2 fz al R hw0;go_wp2_with fail;have Q:=Lib.hid (HC.out.1.count (p+1));have hm2:HpMv hb (.slice a l.length cap) w (wc.setCell ⟨hb,2,none⟩ (.int .i64 (p+1))):=HC.out.2.1.trans Q.out.2 HC.out.2.2;go_loopw [4] (fun i wr=> ∃ (l':List NodeD) (k:Nat),i= .int .i64 k∧Hid (PushAt base hb l ⟨n,x,e,p⟩ (p+1) (.slice a l.length cap) (.slice (some ⟨g,0,none⟩) (l.length+1) c) w l' k wr)) (fun i _=>(intOf i).toNat)
  case atStart=>exact⟨l++[⟨n,x,e,p⟩],l.length,by go_num,Lib.hid ⟨Q.out.1,by simp,fun z=>by simp[or_comm],up_new HK.out _,by simp,hm2⟩⟩
  case round=>
   obtain⟨l',k,rfl,HR⟩:=hrel;by_cases hk:k=0
   ·
    subst hk;go_wp2;go_end0;exact⟨rfl,l',_,HR.out.hp,HR.out.len,HR.out.mem,up_done0 HR.out.up,HR.out.mv,HC.out.2.2⟩
   ·
    have hk0:(0:Int)<(k:Int):=by omega
    have hkl:=HR.out.lt;have hll:=HR.out.len;obtain⟨y,hy⟩: ∃ y,l'[k]? =some y:=⟨_,List.getElem?_eq_getElem hkl⟩;obtain⟨z,hz⟩: ∃ z,l'[(k-1) / 2]? =some z:=⟨_,List.getElem?_eq_getElem (by omega)⟩;obtain⟨r,hr⟩: ∃ r,befB y z=r:=⟨_,rfl⟩;have HY:=Lib.hid hy;have HZ:=Lib.hid hz;have HB:=Lib.hid hr;clear hy hz hr;obtain⟨j,hj⟩: ∃ j,(k-1) / 2=j:=⟨_,rfl⟩;have hq:((k:Int)-1) / 2=(j:Int):=by omega
    have HJ:=Lib.hid hj;rw[hj]at HZ;clear hj;go_wp2_with (go_at_call 175;with_reducible refine(before_c base hb l' (p+1) _ k j y z HY.out HZ.out r HB _ HR.out.hp).mono ?_;rintro q w2 ⟨rfl,b2⟩;have B2:=Lib.hid b2;clear b2;cases r)
    ·
     go_end0;have e:=up_done HR.out.up HY.out (by rw[HJ.out];exact HZ.out) (befB_no HB.out);exact⟨rfl,l',_,HR.out.hp.bl B2.out,HR.out.len,HR.out.mem,e,HR.out.mv.then (HpMv.of_bl B2.out),HC.out.2.2⟩
    ·
     have hsw:=swap_c base hb l' (p+1) g c k j y z HY.out HZ.out w2 (by rw[HR.out.len];exact HR.out.hp.bl B2.out);rw[HR.out.len]at hsw;go_wp2_with (go_at_call 176;with_reducible refine hsw.mono ?_;rintro q w3 ⟨rfl,h3,g3⟩;have H3:=Lib.hid (And.intro h3 g3);clear h3 g3)
     have hu:UpAt (swp l' k j y z) j:=by
      have e:=up_step HR.out.up (by omega) HY.out (by rw[HJ.out];exact HZ.out) (befB_yes HB.out);rw[HJ.out]at e;exact e
     refine⟨⟨swp l' k j y z,j,by rw[hq],Lib.hid ⟨?_,by rw[swp_len];exact hll,fun t=>(swp_mem HY.out HZ.out t).trans (HR.out.mem t),hu,by rw[swp_len];have:=HJ.out;omega, ?_⟩⟩, ?_⟩
     · exact H3.out.1
     · exact HR.out.mv.trans ((HpMv.of_bl B2.out).then (HpMv.of_row (v:= .slice (some ⟨g,0,none⟩) (l.length+1) c) H3.out.2)) HC.out.2.2
     ·
      simp only[intOf];have:=HJ.out;omega
end Go.Proofs.YtncbcmiflffakaaGreat
namespace Go.Proofs.YtncbcmiflffakaaGreat
open Go.RowKit
open Dj
structure SinkAt (base hb:Nat) (l:List NodeD) (p:Int) (v:Value) (w:World) (l':List NodeD) (i:Nat) (wr:World):Prop where
 hp:HpAt base hb l' p v wr
 len:l'.length=l.length
 mem: ∀ z,z∈l'↔z∈l
 dn:DownAt l' i
 mv:HpMv hb v w wr
theorem sink_child {l:List NodeD} {i k:Nat} {b:NodeD} (hk:(k-1) / 2=i) (hk0:0<k) (hb:l[k]? =some b)
  (ho: ∀ (j:Nat) (x:NodeD),0<j→(j-1) / 2=i→j≠k→l[j]? =some x→b.len≤x.len): ∀ (j:Nat) (x:NodeD),0<j→(j-1) / 2=i→l[j]? =some x→b.len≤x.len:=fun j x h0 hj hx=>by
 by_cases e:j=k
 ·
  subst e;rw[hb]at hx;cases hx
  exact Int.le_refl _
 · exact ho j x h0 hj e hx
theorem sink_c (base hb:Nat) (l:List NodeD) (p:Int) (g cap:Nat) (hl:l.length≤200000) (dn:DownAt l 0) (w:World) (hp:HpAt base hb l p (.slice (some ⟨g,0,none⟩) l.length cap) w):
  Calls Tryz.prog 178 #[.pointer (some ⟨hb,0,none⟩)] w fun q w'=>q= .returned (.tuple #[])∧
   ∃ l',HpAt base hb l' p (.slice (some ⟨g,0,none⟩) l.length cap) w'∧l'.length=l.length∧(∀ z,z∈l'↔z∈l)∧HeapOk l'∧HpMv hb (.slice (some ⟨g,0,none⟩) l.length cap) w w':=by
 have HP:=Lib.hid hp;have DN:=Lib.hid dn;clear hp dn;go_enter Tryz.func178,Tryz.ntmps178
 go_wp2_with fail;go_loopw [2] (fun i wr=> ∃ (l':List NodeD) (k:Nat),i= .int .i64 k∧k≤l.length∧Hid (SinkAt base hb l p (.slice (some ⟨g,0,none⟩) l.length cap) w l' k wr)) (fun i _=>l.length-(intOf i).toNat)
 case atStart=>exact⟨l,0,rfl,Nat.zero_le _,Lib.hid ⟨HP.out,rfl,fun _=>Iff.rfl,DN.out,HpMv.of_bl (bl_refl _)⟩⟩
 case round=>
  obtain⟨l',i,rfl,hi,HR⟩:=hrel;obtain⟨d0,d1,d2⟩:=HR.out.hp.cells;have hll:=HR.out.len;have hlI:(l.length:Int)≤200000:=by omega
  by_cases h1:2*i+1<l.length
  ·
   obtain⟨k1,hk1⟩: ∃ k,2*i+1=k:=⟨_,rfl⟩;have hq1:2*(i:Int)+1=(k1:Int):=by omega
   have h1I:(k1:Int)<(l.length:Int):=by omega
   obtain⟨x,hx⟩: ∃ x,l'[i]? =some x:=⟨_,List.getElem?_eq_getElem (by omega)⟩;obtain⟨y,hy⟩: ∃ y,l'[k1]? =some y:=⟨_,List.getElem?_eq_getElem (by omega)⟩;have HX:=Lib.hid hx;have HY:=Lib.hid hy;clear hx hy;obtain⟨k2,hk2⟩: ∃ k,k1+1=k:=⟨_,rfl⟩;have hq2:(k1:Int)+1=(k2:Int):=by omega
   by_cases h2:k2<l.length
   ·
    have h2I:(k2:Int)<(l.length:Int):=by omega
    obtain⟨z,hz⟩: ∃ z,l'[k2]? =some z:=⟨_,List.getElem?_eq_getElem (by omega)⟩;obtain⟨r,hr⟩: ∃ r,befB z y=r:=⟨_,rfl⟩;have HZ:=Lib.hid hz;have HB:=Lib.hid hr;clear hz hr;go_wp2_with (go_at_call 175;with_reducible refine(before_c base hb l' p _ k2 k1 z y HZ.out HY.out r HB _ HR.out.hp).mono ?_;rintro q w2 ⟨rfl,b2⟩;have B2:=Lib.hid b2;clear b2;cases r)
    ·
     have hmin:=Lib.hid (sink_child (i:=i) (k:=k1) (by omega) (by omega) HY.out (fun j t h0 hj hne ht=>by
      obtain rfl:j=k2:=by omega
      rw[HZ.out]at ht;cases ht
      exact befB_no HB.out))
     obtain⟨rr,hrr⟩: ∃ r,befB y x=r:=⟨_,rfl⟩;have HRR:=Lib.hid hrr;clear hrr;go_wp2_with (go_at_call 175;with_reducible refine(before_c base hb l' p _ k1 i y x HY.out HX.out rr HRR _ (HR.out.hp.bl B2.out)).mono ?_;rintro q w3 ⟨rfl,b3⟩;have B3:=Lib.hid (show Bl wr w3 from bl_next B2.out b3);clear b3;cases rr)
     ·
      (try simp only[Exit.inBlock,Exit.then]);refine bodyPost_ret (results_none rfl _ _ _) rfl ?_
      refine⟨rfl,l',HR.out.hp.bl B3.out,hll,HR.out.mem,down_done HR.out.dn (fun j a b h0 hj ha hb'=>?_),HR.out.mv.then (HpMv.of_bl B3.out)⟩;rw[HX.out]at hb';cases hb'
      exact Int.le_trans (befB_no HRR.out) ((hmin.out) j a h0 hj ha)
     ·
      have hsw:=swap_c base hb l' p g cap i k1 x y HX.out HY.out w3 (by rw[hll];exact HR.out.hp.bl B3.out);rw[hll]at hsw;go_wp2_with (go_at_call 176;with_reducible refine hsw.mono ?_;rintro q w4 ⟨rfl,h4,g4⟩;have H4:=Lib.hid (And.intro h4 g4);clear h4 g4)
      refine⟨⟨swp l' i k1 x y,k1,by rfl,by omega,Lib.hid ⟨H4.out.1,by rw[swp_len];exact hll,fun t=>(swp_mem HX.out HY.out t).trans (HR.out.mem t),down_step HR.out.dn (by omega) (by omega) HX.out HY.out (befB_yes HRR.out) (hmin.out),HR.out.mv.then ((HpMv.of_bl B3.out).then (HpMv.of_row (v:= .slice (some ⟨g,0,none⟩) l.length cap) H4.out.2))⟩⟩, ?_⟩;simp only[intOf];omega
    ·
     have hmin:=Lib.hid (sink_child (i:=i) (k:=k2) (by omega) (by omega) HZ.out (fun j t h0 hj hne ht=>by
      obtain rfl:j=k1:=by omega
      rw[HY.out]at ht;cases ht
      exact befB_yes HB.out))
     obtain⟨rr,hrr⟩: ∃ r,befB z x=r:=⟨_,rfl⟩;have HRR:=Lib.hid hrr;clear hrr;go_wp2_with (go_at_call 175;with_reducible refine(before_c base hb l' p _ k2 i z x HZ.out HX.out rr HRR _ (HR.out.hp.bl B2.out)).mono ?_;rintro q w3 ⟨rfl,b3⟩;have B3:=Lib.hid (show Bl wr w3 from bl_next B2.out b3);clear b3;cases rr)
     ·
      (try simp only[Exit.inBlock,Exit.then]);refine bodyPost_ret (results_none rfl _ _ _) rfl ?_
      refine⟨rfl,l',HR.out.hp.bl B3.out,hll,HR.out.mem,down_done HR.out.dn (fun j a b h0 hj ha hb'=>?_),HR.out.mv.then (HpMv.of_bl B3.out)⟩;rw[HX.out]at hb';cases hb'
      exact Int.le_trans (befB_no HRR.out) ((hmin.out) j a h0 hj ha)
     ·
      have hsw:=swap_c base hb l' p g cap i k2 x z HX.out HZ.out w3 (by rw[hll];exact HR.out.hp.bl B3.out);rw[hll]at hsw;go_wp2_with (go_at_call 176;with_reducible refine hsw.mono ?_;rintro q w4 ⟨rfl,h4,g4⟩;have H4:=Lib.hid (And.intro h4 g4);clear h4 g4)
      refine⟨⟨swp l' i k2 x z,k2,by rfl,by omega,Lib.hid ⟨H4.out.1,by rw[swp_len];exact hll,fun t=>(swp_mem HX.out HZ.out t).trans (HR.out.mem t),down_step HR.out.dn (by omega) (by omega) HX.out HZ.out (befB_yes HRR.out) (hmin.out),HR.out.mv.then ((HpMv.of_bl B3.out).then (HpMv.of_row (v:= .slice (some ⟨g,0,none⟩) l.length cap) H4.out.2))⟩⟩, ?_⟩;simp only[intOf];omega
   ·
    have h2I: ¬ (k2:Int)<(l.length:Int):=by omega
    have hmin:=Lib.hid (sink_child (i:=i) (k:=k1) (by omega) (by omega) HY.out (fun j t h0 hj hne ht=>by
     have:=(List.getElem?_eq_some_iff.1 ht).1;omega))
    obtain⟨rr,hrr⟩: ∃ r,befB y x=r:=⟨_,rfl⟩;have HRR:=Lib.hid hrr;clear hrr;go_wp2_with (go_at_call 175;with_reducible refine(before_c base hb l' p _ k1 i y x HY.out HX.out rr HRR _ (HR.out.hp)).mono ?_;rintro q w3 ⟨rfl,b3⟩;have B3:=Lib.hid (show Bl wr w3 from b3);clear b3;cases rr)
    ·
     (try simp only[Exit.inBlock,Exit.then]);refine bodyPost_ret (results_none rfl _ _ _) rfl ?_
     refine⟨rfl,l',HR.out.hp.bl B3.out,hll,HR.out.mem,down_done HR.out.dn (fun j a b h0 hj ha hb'=>?_),HR.out.mv.then (HpMv.of_bl B3.out)⟩;rw[HX.out]at hb';cases hb'
     exact Int.le_trans (befB_no HRR.out) ((hmin.out) j a h0 hj ha)
    ·
     have hsw:=swap_c base hb l' p g cap i k1 x y HX.out HY.out w3 (by rw[hll];exact HR.out.hp.bl B3.out);rw[hll]at hsw;go_wp2_with (go_at_call 176;with_reducible refine hsw.mono ?_;rintro q w4 ⟨rfl,h4,g4⟩;have H4:=Lib.hid (And.intro h4 g4);clear h4 g4)
     refine⟨⟨swp l' i k1 x y,k1,by rfl,by omega,Lib.hid ⟨H4.out.1,by rw[swp_len];exact hll,fun t=>(swp_mem HX.out HY.out t).trans (HR.out.mem t),down_step HR.out.dn (by omega) (by omega) HX.out HY.out (befB_yes HRR.out) (hmin.out),HR.out.mv.then ((HpMv.of_bl B3.out).then (HpMv.of_row (v:= .slice (some ⟨g,0,none⟩) l.length cap) H4.out.2))⟩⟩, ?_⟩;simp only[intOf];omega
  ·
   have h1I:(l.length:Int)≤2*(i:Int)+1:=by omega
   go_wp2;(try simp only[Exit.inBlock,Exit.then]);refine bodyPost_ret (results_none rfl _ _ _) rfl ?_
   refine⟨rfl,l',HR.out.hp,hll,HR.out.mem,down_done HR.out.dn (fun j x y h0 hj hx _=>?_),HR.out.mv⟩;have:=(List.getElem?_eq_some_iff.1 hx).1;omega
end Go.Proofs.YtncbcmiflffakaaGreat
namespace Go.Proofs.YtncbcmiflffakaaGreat
open Go.RowKit
open Dj
theorem results_cell_slot {P:Program} {fn:Func} {p u:Tmp} {ty:TypeId} (h:fn.results= #[.cell p ty, .tmp u]) (tmps:Array Value) (w:World) (g:Nat) (t:TypeId) (cs:Array Value) (fr:Nat×Nat) (d:TypeDesc) (x:Value)
  (hp:tmps.getD p undef= .pointer (some ⟨g,0,none⟩)) (hx:tmps.getD u undef=x) (hg:w.heap[g]? =some (.cells cs t fr))
  (hu:P.underlying ty=some d) (hd:(match d with| .struct _| .array _ _=>true|_=>false)=true) (hi:(P.info? ty).map (·.size)=some cs.size):
  (results fn tmps).run P w= .ok (.tuple #[.agg cs,x]) w:=by
 have hp':tmps[p]?.getD undef= .pointer (some ⟨g,0,none⟩):=by simpa using hp
 have hx':tmps[u]?.getD undef=x:=by simpa using hx
 simp[results,h,hp',hx',asAddr,run_loadVar_row w g t ty cs fr d hg hu hd hi]
theorem blk_run {g:Nat} {T:TypeId}: ∀ (vs:List Value) (w:World) (C:Array Value) (o:Nat),w.heap[g]? =some (.cells C T (0,0))→(setRunW w g o vs).heap[g]? =some (.cells (setRun C.toList o vs).toArray T (0,0))
 |[],_,_,_,h=>h
 |v::vs,w,C,o,h=>by
  have:=blk_run vs _ _ (o+1) (blk_set h o v);rw[Array.toList_setIfInBounds]at this;exact this
theorem blk_full {g:Nat} {T:TypeId} (vs:List Value) {w:World} {C:Array Value} (h:w.heap[g]? =some (.cells C T (0,0))) (hs:C.size=vs.length):(setRunW w g 0 vs).heap[g]? =some (.cells vs.toArray T (0,0)):=by
 have:=blk_run vs w C 0 h;have e:=setRun_mid [] vs [] C.toList (by simpa using hs);simp only[List.nil_append,List.append_nil,List.length_nil]at e;rw[e]at this;exact this
theorem gr_run (g:Nat): ∀ (vs:List Value) (w:World) (o:Nat),w.grownBy (setRunW w g o vs) (some g)
 |[],w,_=>gr_refl g w
 |v::vs,w,o=>gr_next (gr_set g w o v) (gr_run g vs _ _)
theorem bl_new {w a b:World} (h:Bl w a) {g:Nat} (hg:a.grownBy b (some g)) (hw:w.heap.size≤g):Bl w b:=h.grown hg h.size (fun k hk=>by cases hk;exact hw)
theorem setRunW3 (w:World) (g o:Nat) (a b c:Value):setRunW w g o [a,b,c]=((w.setCell ⟨g,o,none⟩ a).setCell ⟨g,o+1,none⟩ b).setCell ⟨g,o+2,none⟩ c:=rfl
theorem put3 {w:World} {r:Nat} {a0 a1 a2 v0 v1 v2:Value} {T:TypeId} (h:w.heap[r]? =some (.cells #[a0,a1,a2] T (0,0))):
  (((w.setCell ⟨r,0,none⟩ v0).setCell ⟨r,1,none⟩ v1).setCell ⟨r,2,none⟩ v2).heap[r]? =some (.cells #[v0,v1,v2] T (0,0))∧w.grownBy (((w.setCell ⟨r,0,none⟩ v0).setCell ⟨r,1,none⟩ v1).setCell ⟨r,2,none⟩ v2) (some r):=
 ⟨blk_full [v0,v1,v2] h rfl,gr_run r [v0,v1,v2] w 0⟩
def labV (n l e:Int):Value:= .agg #[.int .i64 n, .int .i64 l, .int .i64 e]
theorem peek_none (base hb:Nat) (p:Int) (v:Value) (w:World) (hp:HpAt base hb [] p v w):
  Calls Tryz.prog 177 #[.pointer (some ⟨hb,0,none⟩)] w fun q w'=>q= .returned (.tuple #[labV 0 0 0, .bool false])∧Bl w w':=by
 have HP:=Lib.hid hp;clear hp;go_enter Tryz.func177,Tryz.ntmps177
 go_wp2_with (go_at_call 180;refine(len_c base hb [] p v _ ((HP.out.bl (bl_alloc (bl_refl _) _)).bl (bl_alloc (bl_refl _) _))).mono ?_;rintro q w2 ⟨rfl,rfl⟩)
 have h0:((w.alloc (.cells #[.int .i64 0, .int .i64 0, .int .i64 0] 263)).alloc (.cells #[.int .i64 0, .int .i64 0, .int .i64 0] 263)).heap[w.heap.size]? =some (.cells #[.int .i64 0, .int .i64 0, .int .i64 0] 263 (0,0)):=blk_bl (heap_alloc_new w _) (bl_alloc (bl_refl _) _);(try simp only[Exit.inBlock,Exit.then])
 refine bodyPost_ret (results_cell_slot rfl _ _ w.heap.size 263 _ (0,0) _ _ rfl rfl h0 Tryz.underlying263 rfl (by kernel_rfl)) rfl ?_;exact⟨rfl,bl_alloc (bl_alloc (bl_refl _) _) _⟩
theorem peek_some (base hb:Nat) (x:NodeD) (l:List NodeD) (p:Int) (v:Value) (w:World) (hp:HpAt base hb (x::l) p v w):
  Calls Tryz.prog 177 #[.pointer (some ⟨hb,0,none⟩)] w fun q w'=>q= .returned (.tuple #[labV x.node x.len x.edg, .bool true])∧Bl w w':=by
 have HP:=Lib.hid hp;obtain⟨g,cap,rfl,hg,-,hc1,hc2,ca⟩:=hp.at (i:=0) (x:=x) rfl;obtain⟨e0,e1,e2⟩:=hp.cells;have hlt:=hp.lt;have b2:=bl_cell (bl_alloc (bl_alloc (bl_refl w) (.cells #[.int .i64 0, .int .i64 0, .int .i64 0] 263)) (.cells #[.int .i64 0, .int .i64 0, .int .i64 0] 263));have a0:w.cell? ⟨g,0,none⟩=some (.int .i64 x.node):=ca 0 _ rfl;have a1:w.cell? ⟨g,1,none⟩=some (.int .i64 x.len):=ca 1 _ rfl;have a2:w.cell? ⟨g,2,none⟩=some (.int .i64 x.edg):=ca 2 _ rfl;have hn:(((x::l).length:Int)==0)=false:=by rw[beq_eq_false_iff_ne,List.length_cons];omega
 have hn0:(0:Int)<((x::l).length:Int):=by rw[List.length_cons];omega
 obtain⟨n,hnn⟩: ∃ n,(x::l).length=n:=⟨_,rfl⟩;have HN:=Lib.hid hnn;rw[hnn]at hc1 hn hn0 e1;clear hp ca hnn;go_enter Tryz.func177,Tryz.ntmps177
 go_wp2_with (go_at_call 180;refine(len_c base hb (x::l) p _ _ ((HP.out.bl (bl_alloc (bl_refl _) _)).bl (bl_alloc (bl_refl _) _))).mono ?_;rintro q w2 ⟨rfl,rfl⟩;rw[HN.out])
 have h0:((w.alloc (.cells #[.int .i64 x.node, .int .i64 x.len, .int .i64 x.edg] 263)).alloc (.cells #[.int .i64 0, .int .i64 0, .int .i64 0] 263)).heap[w.heap.size]? =some (.cells #[.int .i64 x.node, .int .i64 x.len, .int .i64 x.edg] 263 (0,0)):=blk_bl (heap_alloc_new w _) (bl_alloc (bl_refl _) _);(try simp only[Exit.inBlock,Exit.then])
 refine bodyPost_ret (results_cell_slot rfl _ _ w.heap.size 263 _ (0,0) _ _ rfl rfl h0 Tryz.underlying263 rfl (by kernel_rfl)) rfl ?_;exact⟨rfl,bl_alloc (bl_alloc (bl_refl _) _) _⟩
end Go.Proofs.YtncbcmiflffakaaGreat
namespace Go.Proofs.YtncbcmiflffakaaGreat
open Go.RowKit
open Dj
theorem row_take {α:Type} {cells:α→List Value} {base:Nat} {e:TypeId} {sz g n cap:Nat} {w:World} {l:List α} (hsz: ∀ x,(cells x).length=sz) (h:w.ownsRow base e sz (.slice (some ⟨g,0,none⟩) n cap) n (l.flatMap cells)) (hn:l.length=n) {m:Nat} (hm:m≤n):
  w.ownsRow base e sz (.slice (some ⟨g,0,none⟩) m cap) m ((l.take m).flatMap cells):=by
 have hlen: ∀ k:List α,(k.flatMap cells).length=k.length*sz:=by
  intro k;induction k with
  |nil=>simp
  |cons c k ih=>rw[List.flatMap_cons,List.length_append,ih,hsz,List.length_cons,Nat.add_mul,Nat.one_mul,Nat.add_comm]
 have hl:(l.take m).length=m:=by rw[List.length_take];omega
 refine⟨by rw[hlen,hl], ?_⟩;rcases h.2 with⟨k,-⟩|⟨g',cap',cur,hv,h2,h3,h4,h5,h6,h7⟩
 · cases k
 ·
  simp only[Value.slice.injEq,Option.some.injEq,Addr.mk.injEq]at hv;obtain⟨⟨rfl,-⟩,-,rfl⟩:=hv;refine .inr ⟨g,cap,cur,rfl,h2,h3,by omega,h5,h6, ?_⟩;have e1:l.flatMap cells=(l.take m).flatMap cells++(l.drop m).flatMap cells:=by rw[←List.flatMap_append,List.take_append_drop]
  have e2:cur.toList.take (m*sz)=(cur.toList.take (n*sz)).take (m*sz):=by rw[List.take_take,Nat.min_eq_left (Nat.mul_le_mul_right sz hm)]
  rw[e2,h7,e1,List.take_append_of_le_length (by rw[hlen,hl];exact Nat.le_refl _),List.take_of_length_le (by rw[hlen,hl];exact Nat.le_refl _)]
theorem HpAt.shrunk {base hb:Nat} {l:List NodeD} {p:Int} {g n cap:Nat} {w:World} (h:HpAt base hb l p (.slice (some ⟨g,0,none⟩) n cap) w) (hn:l.length=n) {m:Nat} (hm:m≤n):
  HpAt base hb (l.take m) p (.slice (some ⟨g,0,none⟩) m cap) (w.setCell ⟨hb,1,none⟩ (.slice (some ⟨g,0,none⟩) m cap))∧HpMv hb (.slice (some ⟨g,0,none⟩) n cap) w (w.setCell ⟨hb,1,none⟩ (.slice (some ⟨g,0,none⟩) m cap)):=by
 have g2:w.grownBy (w.setCell ⟨hb,1,none⟩ (.slice (some ⟨g,0,none⟩) m cap)) (some hb):=gr_set hb w 1 _;refine⟨⟨blk_set h.blk 1 _, ?_,h.lo⟩,HpMv.of_blk g2⟩;have hr:=h.row;rw[hn]at hr;have:=(row_take nodeCells_len hr hn hm).kept g2 (.inr fun e=>h.far e.symm);rw[show(l.take m).length=m by rw[List.length_take];omega];exact this
theorem pop_none (base hb:Nat) (p:Int) (v:Value) (w:World) (hp:HpAt base hb [] p v w):
  Calls Tryz.prog 169 #[.pointer (some ⟨hb,0,none⟩)] w fun q w'=>q= .returned (.tuple #[labV 0 0 0, .bool false])∧Bl w w':=by
 have HP:=Lib.hid hp;clear hp;go_enter Tryz.func169,Tryz.ntmps169
 obtain⟨wa,hwa⟩: ∃ wa,w.alloc (.cells #[.int .i64 0, .int .i64 0, .int .i64 0] 263)=wa:=⟨_,rfl⟩;have ba:Bl w wa:=by rw[←hwa];exact bl_alloc (bl_refl _) _
 have h0:wa.heap[w.heap.size]? =some (.cells #[.int .i64 0, .int .i64 0, .int .i64 0] 263 (0,0)):=by rw[←hwa];exact heap_alloc_new w _
 have BA:=Lib.hid ba;have H0:=Lib.hid h0;clear ba h0;go_wp2_with (go_at_call 177;refine(peek_none base hb p v _ (HP.out.bl BA.out)).mono ?_;rintro q w2 ⟨rfl,b2⟩;have B2:=Lib.hid b2;have H2:=Lib.hid (blk_bl H0.out b2);have c0:w2.cell? ⟨w.heap.size,0,none⟩=some (.int .i64 0):=blk_cell H2.out 0 _ rfl;have c1:w2.cell? ⟨w.heap.size,1,none⟩=some (.int .i64 0):=blk_cell H2.out 1 _ rfl;have c2:w2.cell? ⟨w.heap.size,2,none⟩=some (.int .i64 0):=blk_cell H2.out 2 _ rfl;have fz:=fun j=>Lib.frozen_of_heap H2.out j;have hsz:=lt_of_block H2.out;unfold labV;clear b2)
 have q:=put3 (v0:= .int .i64 0) (v1:= .int .i64 0) (v2:= .int .i64 0) H2.out;(try simp only[Exit.inBlock,Exit.then])
 refine bodyPost_ret (results_cell_slot rfl _ _ w.heap.size 263 _ (0,0) _ _ rfl rfl (blk_bl q.1 (bl_alloc (bl_refl _) _)) Tryz.underlying263 rfl (by kernel_rfl)) rfl ?_;exact⟨rfl,bl_alloc (bl_new (bl_next BA.out B2.out) q.2 (Nat.le_refl _)) _⟩
theorem pop_some (base hb:Nat) (x:NodeD) (rest:List NodeD) (p:Int) (v:Value) (hl:rest.length≤100000) (ok:HeapOk (x::rest)) (w:World) (hp:HpAt base hb (x::rest) p v w):
  Calls Tryz.prog 169 #[.pointer (some ⟨hb,0,none⟩)] w fun q w'=>q= .returned (.tuple #[labV x.node x.len x.edg, .bool true])∧
   ∃ l' v',HpAt base hb l' p v' w'∧l'.length=rest.length∧(∀ y∈l',y∈x::rest)∧(∀ y∈x::rest,y=x∨y∈l')∧HeapOk l'∧HpMv hb v w w'∧v'.ownBlock=v.ownBlock:=by
 have HP:=Lib.hid hp;have OK:=Lib.hid ok;obtain⟨g,cap,rfl,hg,-,hc1,hc2,-⟩:=hp.at (i:=0) (x:=x) rfl;obtain⟨m,hm⟩: ∃ m,rest.length=m:=⟨_,rfl⟩;obtain⟨n,hn⟩: ∃ n,(x::rest).length=n:=⟨_,rfl⟩;have hnm:n=m+1:=by rw[←hn,←hm];rfl
 have hq:(n:Int)-1=(m:Int):=by omega
 have HM:=Lib.hid hm;have HN:=Lib.hid hn;have HNM:=Lib.hid hnm;obtain⟨lst,hlst⟩: ∃ y,(x::rest)[m]? =some y:=⟨_,List.getElem?_eq_getElem (by omega)⟩;have HL:=Lib.hid hlst;have hlt:=hp.lt;rw[hn]at hc1;have hmn:(m:Int)≤(n:Int):=by omega
 have hmc:(m:Int)≤(cap:Int):=by omega
 have hm0:(0:Int)≤(m:Int):=by omega
 have hmI:(m:Int)≤100000:=by omega
 clear hp ok hm hn hlst;obtain⟨wa,hwa⟩: ∃ wa,w.alloc (.cells #[.int .i64 0, .int .i64 0, .int .i64 0] 263)=wa:=⟨_,rfl⟩;have ba:Bl w wa:=by rw[←hwa];exact bl_alloc (bl_refl _) _
 have h0:wa.heap[w.heap.size]? =some (.cells #[.int .i64 0, .int .i64 0, .int .i64 0] 263 (0,0)):=by rw[←hwa];exact heap_alloc_new w _
 have BA:=Lib.hid ba;have H0:=Lib.hid h0;clear ba h0;have HPN:Hid (HpAt base hb (x::rest) p (.slice (some ⟨g,0,none⟩) n cap) w):=by rw[←HN.out];exact HP.out
 go_enter Tryz.func169,Tryz.ntmps169
 go_wp2_with (go_at_call 177;refine(peek_some base hb x rest p _ _ (HPN.out.bl BA.out)).mono ?_;rintro q w2 ⟨rfl,b2⟩;have B2:=Lib.hid b2;have H2:=Lib.hid (blk_bl H0.out b2);have HP2:=Lib.hid ((HPN.out.bl BA.out).bl b2);obtain⟨d0,d1,d2⟩:=HP2.out.cells;have hsz:=lt_of_block H2.out;have hlt2:=HP2.out.lt;unfold labV;clear b2)
 have b4:Bl w2 (w2.alloc (.cells #[.int .i64 x.node, .int .i64 x.len, .int .i64 x.edg] 263)):=bl_alloc (bl_refl _) _;have hx4:(w2.alloc (.cells #[.int .i64 x.node, .int .i64 x.len, .int .i64 x.edg] 263)).heap[w2.heap.size]? =some (.cells #[.int .i64 x.node, .int .i64 x.len, .int .i64 x.edg] 263 (0,0)):=heap_alloc_new w2 _;have hs4:(w2.alloc (.cells #[.int .i64 x.node, .int .i64 x.len, .int .i64 x.edg] 263)).heap.size=w2.heap.size+1:=by simp
 generalize w2.alloc (.cells #[.int .i64 x.node, .int .i64 x.len, .int .i64 x.edg] 263)=w4 at b4 hx4 hs4 ⊢
 have B4:=Lib.hid b4;have X4:=Lib.hid hx4;have S4:=Lib.hid hs4;have hg2:g<w2.heap.size:=by have:=BA.out.size;have:=B2.out.size;omega
 clear b4 hx4 hs4 d0 d1 d2;have hsw:Calls Tryz.prog 176 #[.pointer (some ⟨hb,0,none⟩), .int .i64 0, .int .i64 m] w4 fun q w'=>q= .returned (.tuple #[])∧HpAt base hb (swp (x::rest) 0 m x lst) p (.slice (some ⟨g,0,none⟩) n cap) w'∧w4.grownBy w' (some g):=by
  have:=swap_c base hb (x::rest) p g cap 0 m x lst rfl HL.out w4 (by rw[HN.out];exact HP2.out.bl B4.out);rw[HN.out]at this;exact this
 have hdn:DownAt ((swp (x::rest) 0 m x lst).take m) 0:=by
  have:=down_new OK.out (a:=x) (b:=lst) rfl (by rw[show(x::rest).length-1=m by rw[HN.out];omega];exact HL.out);rw[show(x::rest).length-1=m by rw[HN.out];omega]at this;exact this
 have DN:=Lib.hid hdn;have hmem:=pop_mem (l:=x::rest) (a:=x) (b:=lst) rfl (by rw[show(x::rest).length-1=m by rw[HN.out];omega];exact HL.out);rw[show(x::rest).length-1=m by rw[HN.out];omega]at hmem;have MEM:=Lib.hid hmem;clear hdn hmem;have htk:((swp (x::rest) 0 m x lst).take m).length=m:=by rw[List.length_take,swp_len,HN.out];omega
 have HTK:=Lib.hid htk;clear htk;go_wp2_with (go_at_call 176;refine hsw.mono ?_;rintro q w5 ⟨rfl,h5,g5⟩;have H5:=Lib.hid h5;have G5:=Lib.hid g5;obtain⟨d0,d1,d2⟩:=h5.cells;have fz:=Lib.frozen_of_heap h5.blk 1;clear h5 g5)
 have h6:=H5.out.shrunk (by rw[swp_len];exact HN.out) (m:=m) (by omega);generalize w5.setCell ⟨hb,1,none⟩ (.slice (some ⟨g,0,none⟩) m cap)=w6 at h6 ⊢
 have hsk:=sink_c base hb ((swp (x::rest) 0 m x lst).take m) p g cap (by rw[HTK.out];omega) DN.out w6 (by rw[HTK.out];exact h6.1);rw[HTK.out]at hsk;have M6:=Lib.hid h6.2;clear h6 d0 d1 d2 fz;go_wp2_with (go_at_call 178;refine hsk.mono ?_;rintro q w7 ⟨rfl,l',h7,e7,m7,k7,v7⟩;have H7:=Lib.hid (And.intro h7 (And.intro e7 (And.intro m7 (And.intro k7 v7))));have MV:Hid (HpMv hb (.slice (some ⟨g,0,none⟩) n cap) w4 w7):=HpMv.trans (v':= .slice (some ⟨g,0,none⟩) m cap) ((HpMv.of_row (v:= .slice (some ⟨g,0,none⟩) n cap) G5.out).then M6.out) v7 (.inl rfl);have X7:=Lib.hid ((MV.out.block w2.heap.size (by have:=S4.out;omega) (by omega) (by simp[Value.ownBlock];omega)).trans X4.out);have Z7:=Lib.hid ((MV.out.block w.heap.size (by have:=S4.out;omega) (by omega) (by simp[Value.ownBlock];omega)).trans (blk_bl H2.out B4.out));have c0:w7.cell? ⟨w2.heap.size,0,none⟩=some (.int .i64 x.node):=blk_cell X7.out 0 _ rfl;have c1:w7.cell? ⟨w2.heap.size,1,none⟩=some (.int .i64 x.len):=blk_cell X7.out 1 _ rfl;have c2:w7.cell? ⟨w2.heap.size,2,none⟩=some (.int .i64 x.edg):=blk_cell X7.out 2 _ rfl;have y0:w7.cell? ⟨w.heap.size,0,none⟩=some (.int .i64 0):=blk_cell Z7.out 0 _ rfl;have y1:w7.cell? ⟨w.heap.size,1,none⟩=some (.int .i64 0):=blk_cell Z7.out 1 _ rfl;have y2:w7.cell? ⟨w.heap.size,2,none⟩=some (.int .i64 0):=blk_cell Z7.out 2 _ rfl;have fz:=fun j=>Lib.frozen_of_heap Z7.out j;clear h7 e7 m7 k7 v7)
 have q:=put3 (v0:= .int .i64 x.node) (v1:= .int .i64 x.len) (v2:= .int .i64 x.edg) Z7.out;(try simp only[Exit.inBlock,Exit.then])
 refine bodyPost_ret (results_cell_slot rfl _ _ w.heap.size 263 _ (0,0) _ _ rfl rfl q.1 Tryz.underlying263 rfl (by kernel_rfl)) rfl ?_;obtain⟨h7,e7,m7,k7,-⟩:=H7.out;have hne:some w.heap.size≠(Value.slice (some ⟨g,0,none⟩) m cap).ownBlock:=by simp[Value.ownBlock];omega
 have mv2:HpMv hb (.slice (some ⟨g,0,none⟩) n cap) w w7:=(HpMv.of_bl (bl_next (bl_next BA.out B2.out) B4.out)).then MV.out;refine⟨rfl,l', .slice (some ⟨g,0,none⟩) m cap,⟨(q.2.block hb h7.lt (by simp;omega)).trans h7.blk,h7.row.kept q.2 (.inr fun e=>hne e.symm),h7.lo⟩,e7.trans HM.out.symm,fun y hy=>MEM.out.1 y ((m7 y).1 hy),fun y hy=>?_,k7, ?_, ?_⟩
 ·
  rcases MEM.out.2 y hy with e|e
  · exact .inl e
  · exact .inr ((m7 y).2 e)
 · exact⟨q.2.os.trans mv2.os,q.2.tape.trans mv2.tape,q.2.output.trans mv2.output,Nat.le_trans mv2.size q.2.size,fun k hk h1 h2=>(q.2.block k (by have:=mv2.size;omega) (by simp;omega)).trans (mv2.block k hk h1 (by simpa[Value.ownBlock]using h2))⟩
 · rfl
theorem func_nil (w:World):(binOp BinOp.eql 266 lessF Value.nilFunc).run Tryz.prog w= .ok (.bool false) w:=by kernel_rfl
theorem hnew_c (w:World):Calls Tryz.prog 166 #[lessF] w fun q w'=>q= .returned (.pointer (some ⟨w.heap.size,0,none⟩))∧HpAt w.heap.size w.heap.size [] 0 (.slice none 0 0) w'∧Bl w w':=by
 have fn:=func_nil;go_enter Tryz.func166,Tryz.ntmps166
 go_wp2;go_ret;exact⟨rfl,⟨heap_alloc_new w _,World.ownsRow_nil _ _ _ _,Nat.le_refl _⟩,bl_alloc (bl_refl _) _⟩
end Go.Proofs.YtncbcmiflffakaaGreat
