/-
  What the laws of top need of TopOvF, TopOvG. Conditions: those of each lemma.
-/
import Derived.Test.YtncbcmiflffakaaGreatPkOvE
import Derived.Test.YtncbcmiflffakaaGreatPkIbJ
import Derived.Lib.SliceRun
set_option maxRecDepth 1000000
set_option maxHeartbeats 32000000
namespace Go.Proofs.YtncbcmiflffakaaGreat
open Go.RowKit
open Frq Thr Tt
def offB (i:Int) (l:LinkD):Bool:=l.frm==i||l.dst==i
abbrev linkV (l:LinkD):Value:= .agg #[.int .i64 l.frm, .int .i64 l.frmC, .int .i64 l.dst, .int .i64 l.dstC, .bool l.stay]
def idxI:Option Nat→Int
 |some k=>k
 |none=> -1
theorem findIdx_hit {α:Type} {l:List α} {p:α→Bool} {k:Nat} {x:α} (hx:l[k]? =some x) (h:p x=true) (hno:(l.take k).any p=false):l.findIdx? p=some k:=by
 rw[List.findIdx?_eq_some_iff_getElem];obtain⟨hk,rfl⟩:=List.getElem?_eq_some_iff.1 hx;refine⟨hk,h,fun j hj hp=>?_⟩;have:=List.any_eq_false.1 hno l[j] (List.mem_take_iff_getElem.2 ⟨j,by omega,rfl⟩);exact this hp
theorem findIdx_no {α:Type} {l:List α} {p:α→Bool} (hno:l.any p=false):l.findIdx? p=none:=by
 rw[List.findIdx?_eq_none_iff];intro x hx;have:=List.any_eq_false.1 hno x hx;simpa using this
theorem off_c (tb:Nat) (i:Int) (l:LinkD) (w:World) (ht:w.heap[tb]? =some (intBox i)):
  Calls Tryz.prog 130 #[linkV l, .pointer (some ⟨tb,0,none⟩)] w fun e w'=>e= .returned (.bool (offB i l))∧Bl w w':=by
 have c0:w.cell? ⟨tb,0,none⟩=some (.int .i64 i):=blk_cell ht 0 _ rfl;have hl:=lt_of_block ht;clear ht;cases e1:(l.frm==i)with
 |true=>
  have HB:=Lib.hid (show offB i l=true by unfold offB;rw[e1];rfl);go_enter Tryz.func130,Tryz.ntmps130
  go_wp2_with fail;go_ret;exact⟨ret_bool HB.out.symm,bl_alloc (bl_refl _) _⟩
 |false=>
  have HB:=Lib.hid (show offB i l=(l.dst==i) by unfold offB;rw[e1];rfl);go_enter Tryz.func130,Tryz.ntmps130
  go_wp2_with fail;go_ret;exact⟨ret_bool HB.out.symm,bl_alloc (bl_refl _) _⟩
theorem index_link_c (tb:Nat) (i:Int) (vl:Value) (l:List LinkD) (hl:l.length≤100000) (B:Nat) (w:World) (hv:SlIn linkCells 5 B w vl l) (hB:B≤w.heap.size) (ht:w.heap[tb]? =some (intBox i)):
  Calls Tryz.prog 144 #[vl, .func (.func 130) #[] #[.pointer (some ⟨tb,0,none⟩)]] w fun e w'=>e= .returned (.int .i64 (idxI (l.findIdx? (offB i))))∧Bl w w':=by
 obtain⟨a,cap,rfl,-,-⟩:=hv.val;have HV:=Lib.hid hv;have HT:=Lib.hid ht;have hlI:(l.length:Int)≤100000:=by omega
 have hent: ∀ (args:Array Value) (w:World),(callFunc 130 args).run Tryz.prog w= .ok (.enter 130 args) w:=fun _ _=>by kernel_rfl
 clear hv ht;go_enter Tryz.func144,Tryz.ntmps144
 go_wp2_with fail;go_loopw [8] (fun j wr=> ∃ k:Nat,(k≤l.length∧j= .int .i64 k)∧Hid ((l.take k).any (offB i)=false∧Bl w wr)) (fun j _=>l.length-(intOf j).toNat)
 case atStart=>exact⟨0,⟨Nat.zero_le _,rfl⟩,Lib.hid ⟨rfl,bl_refl _⟩⟩
 case round=>
  obtain⟨k,⟨hk,rfl⟩,HR⟩:=hrel;by_cases hlt:k<l.length
  ·
   have hltI:(k:Int)<(l.length:Int):=by omega
   obtain⟨b,o,x,rfl,-,hx,hcx⟩:=HV.out.get (k:=k) hlt HR.out.2 hB;have c0:wr.cell? ⟨b,o+k*5,none⟩=some (.int .i64 x.frm):=hcx 0 _ rfl;have c1:wr.cell? ⟨b,o+k*5+1,none⟩=some (.int .i64 x.frmC):=hcx 1 _ rfl;have c2:wr.cell? ⟨b,o+k*5+2,none⟩=some (.int .i64 x.dst):=hcx 2 _ rfl;have c3:wr.cell? ⟨b,o+k*5+3,none⟩=some (.int .i64 x.dstC):=hcx 3 _ rfl;have c4:wr.cell? ⟨b,o+k*5+4,none⟩=some (.bool x.stay):=hcx 4 _ rfl;have HX:=Lib.hid hx;have HC:=Lib.hid (off_c tb i x wr (blk_bl HT.out HR.out.2));obtain⟨pb,hpb⟩: ∃ pb,offB i x=pb:=⟨_,rfl⟩;rw[hpb]at HC;have HP:=Lib.hid hpb;clear hcx hx hpb;go_wp2_with fail;refine HC.out.mono ?_;rintro e w5 ⟨rfl,b5⟩;have B5:=Lib.hid (bl_next HR.out.2 b5);clear b5 HC c0 c1 c2 c3 c4;cases pb with
   |true=>
    have HF:=Lib.hid (findIdx_hit HX.out HP.out HR.out.1);go_wp2_with fail;go_ret;exact⟨by rw[HF.out];rfl,B5.out⟩
   |false=>
    have HN:=Lib.hid (show(l.take (k+1)).any (offB i)=false by rw[take_snoc_at HX.out,List.any_append,HR.out.1];simp[HP.out]);go_wp2_with fail;exact⟨⟨k+1,⟨by omega,by go_num⟩,Lib.hid ⟨HN.out,B5.out⟩⟩,by simp only[intOf];omega⟩
  ·
   obtain rfl:k=l.length:=by omega
   have hno:=HR.out.1;rw[List.take_length]at hno;have HF:=Lib.hid (findIdx_no hno);clear hno;go_wp2_with fail;go_ret;exact⟨by rw[HF.out];rfl,HR.out.2⟩
theorem setRunW_cells (b:Nat): ∀ (vs:List Value) (o:Nat) (w:World),w.setCells b o vs=setRunW w b o vs
 |[],_,_=>rfl
 |_::vs,o,_=>setRunW_cells b vs (o+1) _
theorem setRun_take: ∀ (vs xs:List Value) (o m:Nat),m≤o→(setRun xs o vs).take m=xs.take m
 |[],_,_,_,_=>rfl
 |v::vs,xs,o,m,h=>by
  show(setRun (xs.set o v) (o+1) vs).take m=_
  rw[setRun_take vs _ _ m (by omega),List.take_set_of_le h]
theorem rowIn_run {base:Nat} {e:TypeId} {sz g n cap:Nat}: ∀ (vs:List Value) (w:World) (xs:List Value) (o:Nat),RowIn w base e sz (.slice (some ⟨g,0,none⟩) n cap) n xs→
  RowIn (setRunW w g o vs) base e sz (.slice (some ⟨g,0,none⟩) n cap) n (setRun xs o vs)∧Gr g w (setRunW w g o vs)
 |[],w,xs,o,h=>⟨h,gr_refl g w⟩
 |v::vs,w,xs,o,h=>by
  obtain⟨h1,g1,-,-⟩:=h.set o v;obtain⟨h2,g2⟩:=rowIn_run vs _ _ (o+1) h1;exact⟨h2,gr_next g1 g2⟩
theorem zeros_one (n:Nat): ∀ v∈(Builtin.zeroCells #[.int .i64 0, .int .i64 0, .int .i64 0, .int .i64 0, .bool false] n).toList,v.oneCell'=true:=by
 intro v hv;unfold Builtin.zeroCells at hv;rw[Array.toList_map,List.mem_map]at hv;obtain⟨j,-,rfl⟩:=hv;have:j%5<5:=Nat.mod_lt _ (by omega);show((#[Value.int .i64 0, .int .i64 0, .int .i64 0, .int .i64 0, .bool false]:Array Value)[j%5]!).oneCell'=true
 have h:j%5=0∨j%5=1∨j%5=2∨j%5=3∨j%5=4:=by omega
 rcases h with h|h|h|h|h<;>rw[h]<;>rfl
theorem run_clear_links {w:World} {base b n cap k:Nat} {L:List LinkD} (hk:k<n) (hL:L.length=n) (h:RowIn w base 95 5 (.slice (some ⟨b,0,none⟩) n cap) n (L.flatMap linkCells)) (c:Nat):
  ∃ w',(∀ ty,(Builtin.clear_ #[52] ty #[.slice (some ⟨b,k*5,none⟩) (n-k) c]).run Tryz.prog w= .ok (.tuple #[]) w')∧RowIn w' base 95 5 (.slice (some ⟨b,0,none⟩) k cap) k ((L.take k).flatMap linkCells)∧Gr b w w':=by
 obtain⟨vs,hvs⟩: ∃ vs,(Builtin.zeroCells #[.int .i64 0, .int .i64 0, .int .i64 0, .int .i64 0, .bool false] (n-k)).toList=vs:=⟨_,rfl⟩;have hone:=zeros_one (n-k);rw[hvs]at hone;have hlen:vs.length=(n-k)*5:=by rw[←hvs,Array.length_toList,size_zeroCells];rfl
 have hcell: ∀ j,j<vs.length→(w.cell? ⟨b,k*5+0+j,none⟩).isSome=true:=fun j hj=>by
  rw[Nat.add_zero,h.cellAt (k*5+j) (by omega)];have:k*5+j<(L.flatMap linkCells).length:=by rw[h.1];omega
  rw[List.getElem?_eq_getElem this];rfl
 have hfr: ∀ j,j<vs.length→w.frozen? ⟨b,k*5+0+j,none⟩=false:=fun j _=>(h.set (k*5+0+j) undef).2.2.1
 have hst:=run_storeCells_cells (P:=Tryz.prog) b (k*5) vs 0 w hcell hfr hone;rw[Nat.add_zero,setRunW_cells]at hst;obtain⟨h1,h2⟩:=rowIn_run vs w _ (k*5) h;refine⟨_,fun ty=>?_, ?_,h2⟩
 ·
  obtain⟨m,hm⟩: ∃ m,n-k=m+1:=⟨n-k-1,by omega⟩;rw[hm]at hvs ⊢;simp[Builtin.clear_,run_underlying Tryz.underlying52,Value.cells,hvs,hst]
 ·
  have hfl: ∀ M:List LinkD,(M.flatMap linkCells).length=M.length*5:=fun M=>by
   induction M with
   |nil=>rfl
   |cons y M ih=>rw[List.flatMap_cons,List.length_append,ih,linkCells_len,List.length_cons];omega
  have htk:(L.flatMap linkCells).take (k*5)=(L.take k).flatMap linkCells:=by
   conv=>lhs;rw[←List.take_append_drop k L,List.flatMap_append]
   have h5:((L.take k).flatMap linkCells).length=k*5:=by rw[hfl,List.length_take];omega
   rw[←h5,List.take_left'];rfl
  rcases h1.2 with⟨h',_⟩|⟨g',cap',cur,h',hb,hg,h3,h4,h5,h6⟩
  · simp at h'
  ·
   simp only[Value.slice.injEq,Option.some.injEq,Addr.mk.injEq,and_true,true_and]at h';obtain⟨rfl,rfl⟩:=h';refine⟨by rw[hfl,List.length_take];omega, .inr ⟨b,cap,cur,rfl,hb,hg,by omega,h4,h5, ?_⟩⟩;have:=congrArg (List.take (k*5)) h6;rw[List.take_take,Nat.min_eq_left (by omega),setRun_take _ _ _ _ (Nat.le_refl _),htk]at this;exact this
theorem slice_link_h (a:Option Addr) (n c k:Nat) (h1:k≤c) (w:World):(Instr.sliceAt 52 (.slice a n c) none (some (.int .i64 (k:Int))) none).run Tryz.prog w= .ok (.slice a k c) w:=by
 have ht:Tryz.prog.underlying 52=some (.slice (Tryz.prog.elem 52)):=by kernel_rfl
 have hs:(sizeOf (Tryz.prog.elem 52)).run Tryz.prog w= .ok 5 w:=by kernel_rfl
 rw[run_sliceAt_slice w _ _ _ _ _ ht,run_slice_h w _ a n c ht .i64 k (by omega) (by omega),hs];have hz:a.map (fun x=>x.add (0*5))=a:=by
  cases a with
  |none=>rfl
  |some x=>simp[Addr.add]
 simp only[Result.andThen,sliced,hz,ite_self,Nat.sub_zero,Int.toNat_natCast]
theorem slice_link_l (b n c k:Nat) (h1:k<n) (h2:n≤c) (w:World):(Instr.sliceAt 52 (.slice (some ⟨b,0,none⟩) n c) (some (.int .i64 (k:Int))) none none).run Tryz.prog w= .ok (.slice (some ⟨b,k*5,none⟩) (n-k) (c-k)) w:=by
 have ht:Tryz.prog.underlying 52=some (.slice (Tryz.prog.elem 52)):=by kernel_rfl
 have hs:(sizeOf (Tryz.prog.elem 52)).run Tryz.prog w= .ok 5 w:=by kernel_rfl
 rw[run_sliceAt_slice w _ _ _ _ _ ht,run_slice_l w _ (some ⟨b,0,none⟩) n c ht .i64 k (by omega) (by omega),hs];have hz:(some (⟨b,0,none⟩:Addr)).map (fun x=>x.add (k*5))=some ⟨b,k*5,none⟩:=by simp[Addr.add];omega
 simp only[Result.andThen,sliced,Int.toNat_natCast,hz];rw[if_neg (by omega)]
structure DelL (p:LinkD→Bool) (l:List LinkD) (j:Nat) (F L:List LinkD):Prop where
 kept:F=(l.take j).filter fun x=> !p x
 lay: ∃ M,L=F++M++l.drop j∧F.length+M.length=j∧1≤M.length
theorem DelL.len {p:LinkD→Bool} {l:List LinkD} {j:Nat} {F L:List LinkD} (h:DelL p l j F L) (hj:j≤l.length):L.length=l.length∧F.length<j:=by
 obtain⟨M,rfl,h1,h2⟩:=h.lay;simp
 omega
theorem DelL.skip {p:LinkD→Bool} {l:List LinkD} {j:Nat} {F L:List LinkD} {x:LinkD} (h:DelL p l j F L) (hx:l[j]? =some x) (hp:p x=true):DelL p l (j+1) F L:=by
 obtain⟨M,hL,h1,h2⟩:=h.lay;have hd:l.drop j=x::l.drop (j+1):=by
  obtain⟨h1,rfl⟩:=List.getElem?_eq_some_iff.1 hx;exact List.drop_eq_getElem_cons h1
 refine⟨?_,M++[x],by rw[hL,hd];simp,by simp;omega,by simp⟩;rw[take_snoc_at hx,List.filter_append,←h.kept];simp[hp]
theorem DelL.keep {p:LinkD→Bool} {l:List LinkD} {j:Nat} {F L:List LinkD} {x:LinkD} (h:DelL p l j F L) (hx:l[j]? =some x) (hp:p x=false):DelL p l (j+1) (F++[x]) (L.set F.length x):=by
 obtain⟨M,hL,h1,h2⟩:=h.lay;have hd:l.drop j=x::l.drop (j+1):=by
  obtain⟨h1,rfl⟩:=List.getElem?_eq_some_iff.1 hx;exact List.drop_eq_getElem_cons h1
 obtain⟨y,M',rfl⟩: ∃ y M',M=y::M':=by
  cases M with
  |nil=>simp at h2
  |cons y M'=>exact⟨y,M',rfl⟩
 refine⟨?_,M'++[x], ?_,by simp at h1 ⊢;omega,by simp⟩
 ·
  rw[take_snoc_at hx,List.filter_append,←h.kept];simp[hp]
 ·
  rw[hL,hd,List.append_assoc,List.set_append_right _ _ (Nat.le_refl _),Nat.sub_self];simp
theorem DelL.at {p:LinkD→Bool} {l:List LinkD} {j:Nat} {F L:List LinkD} (h:DelL p l j F L) {k:Nat} (hk:j≤k):L[k]? =l[k]? :=by
 obtain⟨M,hL,h1,h2⟩:=h.lay;rw[hL,List.getElem?_append_right (by simp;omega),List.getElem?_drop];congr 1
 simp
 omega
def DelPost (base:Nat) (w:World) (vl:Value) (ls:List LinkD) (e:Ending) (w':World):Prop:= ∃ v',e= .returned v'∧RowIn w' base 95 5 v' ls.length (ls.flatMap linkCells)∧w.grownBy w' vl.ownBlock
theorem gby_bl {w w':World} (h:Bl w w') (r:Option Nat):w.grownBy w' r:=⟨h.os,h.tape,h.output,h.size,fun k hk _=>h.block k hk⟩
theorem delete_c (tb:Nat) (i:Int) (vl:Value) (l:List LinkD) (hl:l.length≤100000) (base:Nat) (w:World) (hr:RowIn w base 95 5 vl l.length (l.flatMap linkCells)) (ht:w.heap[tb]? =some (intBox i)):
  Calls Tryz.prog 129 #[vl, .func (.func 130) #[] #[.pointer (some ⟨tb,0,none⟩)]] w fun e w'=>DelPost base w vl (l.filter fun x=> !offB i x) e w':=by
 have HI:=Lib.hid (index_link_c tb i vl l hl w.heap.size w (hr.sl linkCells_len) (Nat.le_refl _) ht);have HT:=Lib.hid ht;have HR0:=Lib.hid hr;obtain⟨a,cap,rfl⟩:=hr.val;have hlI:(l.length:Int)≤100000:=by omega
 obtain⟨ix,hix⟩: ∃ ix,l.findIdx? (offB i)=ix:=⟨_,rfl⟩;rw[hix]at HI;have HIx:=Lib.hid hix;clear hr ht hix;cases ix with
 |none=>
  have hF:l.filter (fun x=> !offB i x)=l:=by
   rw[List.filter_eq_self];intro x hx;have:=List.findIdx?_eq_none_iff.1 HIx.out x hx;simpa using this
  have HF:=Lib.hid hF;clear hF;go_enter Tryz.func129,Tryz.ntmps129
  go_wp2_with fail;refine HI.out.mono ?_;rintro e w1 ⟨rfl,b1⟩;have B1:=Lib.hid b1;clear b1 HI;simp only[idxI];go_wp2_with fail;go_ret;exact⟨_,rfl,by rw[HF.out];exact HR0.out.bl B1.out,gby_bl B1.out _⟩
 |some k0=>
  obtain⟨hk0,hp0,hno⟩:=List.findIdx?_eq_some_iff_getElem.1 HIx.out;obtain⟨b,rfl⟩: ∃ b,a=some ⟨b,0,none⟩:=by
   rcases HR0.out.2 with⟨h',h0⟩|⟨g',cap',cur,h',-⟩
   · omega
   ·
    simp only[Value.slice.injEq]at h';exact⟨g',h'.1⟩
  have hst:DelL (offB i) l (k0+1) (l.take k0) l:=by
   refine⟨?_,[l[k0]],by rw[List.append_assoc,List.singleton_append,←List.drop_eq_getElem_cons hk0,List.take_append_drop],by simp;omega,by simp⟩;rw[List.take_succ_eq_append_getElem hk0,List.filter_append];have e1:(l.take k0).filter (fun x=> !offB i x)=l.take k0:=by
    rw[List.filter_eq_self];intro x hx;obtain⟨j,hj,rfl⟩:=List.mem_take_iff_getElem.1 hx;have:=hno j (by omega);simpa using this
   rw[e1];simp[hp0]
  have HSt:=Lib.hid hst;have hkl:(l.take k0).length=k0:=by rw[List.length_take];omega
  have HKl:=Lib.hid hkl;have hent: ∀ (args:Array Value) (w:World),(callFunc 130 args).run Tryz.prog w= .ok (.enter 130 args) w:=fun _ _=>by kernel_rfl
  have hcapl:l.length≤cap:=by
   rcases HR0.out.2 with⟨h',_⟩|⟨g',cap',cur,h',-,-,h3,-⟩
   · simp at h'
   ·
    simp only[Value.slice.injEq,Option.some.injEq,Addr.mk.injEq,and_true,true_and]at h';obtain⟨rfl,rfl⟩:=h';exact h3
  clear hst hkl hno hp0;go_enter Tryz.func129,Tryz.ntmps129
  go_wp2_with fail;refine HI.out.mono ?_;rintro e w1 ⟨rfl,b1⟩;have B1:=Lib.hid b1;clear b1 HI;simp only[idxI];go_wp2_with fail;go_loopw [5,6] (fun s5 s6 wr=> ∃ (j:Nat) (F L:List LinkD) (f:Nat),(j≤l.length∧s6= .int .i64 j∧s5= .int .i64 f)∧Hid (f=F.length∧DelL (offB i) l j F L∧RowIn wr base 95 5 (.slice (some ⟨b,0,none⟩) l.length cap) l.length (L.flatMap linkCells)∧wr.heap[tb]? =some (intBox i)∧Gr b w wr)) (fun _ s6 _=>l.length-(intOf s6).toNat)
  case atStart=>exact⟨k0+1,l.take k0,l,k0,⟨by omega,by go_num,rfl⟩,Lib.hid ⟨HKl.out.symm,HSt.out,HR0.out.bl B1.out,blk_bl HT.out B1.out,gr_bl B1.out⟩⟩
  case round=>
   obtain⟨j,F,L,f,⟨hj,rfl,rfl⟩,HR⟩:=hrel;have hlen:=HR.out.2.1.len hj;by_cases hlt:j<l.length
   ·
    have hltI:(j:Int)<(l.length:Int):=by omega
    obtain⟨x,hx⟩: ∃ x,l[j]? =some x:=⟨_,List.getElem?_eq_getElem hlt⟩;have hLx:L[j]? =some x:=(HR.out.2.1.at (Nat.le_refl j)).trans hx;have hcl: ∀ q u,q<5→(linkCells x)[q]? =some u→wr.cell? ⟨b,j*5+q,none⟩=some u:=fun q u hq hu=>by
     rw[HR.out.2.2.1.cellAt (j*5+q) (by omega)];exact flat_get linkCells_len hLx hu
    have c0:wr.cell? ⟨b,j*5,none⟩=some (.int .i64 x.frm):=hcl 0 _ (by decide) rfl;have c1:wr.cell? ⟨b,j*5+1,none⟩=some (.int .i64 x.frmC):=hcl 1 _ (by decide) rfl;have c2:wr.cell? ⟨b,j*5+2,none⟩=some (.int .i64 x.dst):=hcl 2 _ (by decide) rfl;have c3:wr.cell? ⟨b,j*5+3,none⟩=some (.int .i64 x.dstC):=hcl 3 _ (by decide) rfl;have c4:wr.cell? ⟨b,j*5+4,none⟩=some (.bool x.stay):=hcl 4 _ (by decide) rfl;have Bb:=bl_alloc (bl_refl wr) (.cells #[.int .i64 x.frm, .int .i64 x.frmC, .int .i64 x.dst, .int .i64 x.dstC, .bool x.stay] 95);have hbx:=heap_alloc_new wr (.cells #[.int .i64 x.frm, .int .i64 x.frmC, .int .i64 x.dst, .int .i64 x.dstC, .bool x.stay] 95);have hLfx: ∀ q,q<5→ ∃ u,wr.cell? ⟨b,f*5+q,none⟩=some u:=fun q hq=>⟨_,(HR.out.2.2.1.cellAt (f*5+q) (by rw[HR.out.1];omega)).trans (List.getElem?_eq_getElem (by rw[HR.out.2.2.1.1];rw[HR.out.1];omega))⟩
    have HFx:=Lib.hid hLfx;have HX:=Lib.hid (And.intro hx hLx);clear hx hLx hcl hLfx;go_upto_region 8 with fail
    change Code.wp _ _ _ _ (wr.alloc (.cells #[.int .i64 x.frm, .int .i64 x.frmC, .int .i64 x.dst, .int .i64 x.dstC, .bool x.stay] 95));generalize wr.alloc (.cells #[.int .i64 x.frm, .int .i64 x.frmC, .int .i64 x.dst, .int .i64 x.dstC, .bool x.stay] 95)=w4 at Bb hbx ⊢
    have H4:=Lib.hid (And.intro Bb hbx);have d0:w4.cell? ⟨wr.heap.size,0,none⟩=some (.int .i64 x.frm):=blk_cell hbx 0 _ rfl;have d1:w4.cell? ⟨wr.heap.size,1,none⟩=some (.int .i64 x.frmC):=blk_cell hbx 1 _ rfl;have d2:w4.cell? ⟨wr.heap.size,2,none⟩=some (.int .i64 x.dst):=blk_cell hbx 2 _ rfl;have d3:w4.cell? ⟨wr.heap.size,3,none⟩=some (.int .i64 x.dstC):=blk_cell hbx 3 _ rfl;have d4:w4.cell? ⟨wr.heap.size,4,none⟩=some (.bool x.stay):=blk_cell hbx 4 _ rfl;have HC:=Lib.hid (off_c tb i x w4 (blk_bl HR.out.2.2.2.1 Bb));obtain⟨pb,hpb⟩: ∃ pb,offB i x=pb:=⟨_,rfl⟩;rw[hpb]at HC;have HP:=Lib.hid hpb;clear Bb hbx hpb c0 c1 c2 c3 c4;go_wp2_with fail;refine HC.out.mono ?_;rintro e w5 ⟨rfl,b5⟩;have H5:=Lib.hid (And.intro (bl_next H4.out.1 b5) (blk_bl H4.out.2 b5));clear b5 HC d0 d1 d2 d3 d4;cases pb with
    |true=>
     have HN:=Lib.hid (HR.out.2.1.skip HX.out.1 HP.out);go_wp2_with fail;go_roundw;case rel=>exact⟨_,_,_,_,_,_,_,_,_,_,_,_,_,_,_,_,_,_,_,_,_,_,_,⟨j+1,F,L,f,⟨by omega,by go_num,rfl⟩,Lib.hid ⟨HR.out.1,HN.out,HR.out.2.2.1.bl H5.out.1,blk_bl HR.out.2.2.2.1 H5.out.1,gr_next HR.out.2.2.2.2 (gr_bl H5.out.1)⟩⟩,rfl⟩
     case measure=>simp[intOf];omega
    |false=>
     have hb5:=H5.out.2;have hR5:=HR.out.2.2.1.bl H5.out.1;have hfl:f<l.length:=by have:=HR.out.1;omega
     have hfI:(f:Int)<(l.length:Int):=by omega
     have d0:w5.cell? ⟨wr.heap.size,0,none⟩=some (.int .i64 x.frm):=blk_cell hb5 0 _ rfl;have d1:w5.cell? ⟨wr.heap.size,1,none⟩=some (.int .i64 x.frmC):=blk_cell hb5 1 _ rfl;have d2:w5.cell? ⟨wr.heap.size,2,none⟩=some (.int .i64 x.dst):=blk_cell hb5 2 _ rfl;have d3:w5.cell? ⟨wr.heap.size,3,none⟩=some (.int .i64 x.dstC):=blk_cell hb5 3 _ rfl;have d4:w5.cell? ⟨wr.heap.size,4,none⟩=some (.bool x.stay):=blk_cell hb5 4 _ rfl;obtain⟨e0v,e0⟩: ∃ u,w5.cell? ⟨b,f*5,none⟩=some u:=by obtain⟨u,hu⟩:=HFx.out 0 (by decide);exact⟨u,((bl_cell H5.out.1).1 _ _ (World.block_lt_of_cell? _ _ hu)).trans hu⟩
     have z0:w5.frozen? ⟨b,f*5,none⟩=false:=(hR5.set (f*5) undef).2.2.1;obtain⟨e1v,e1⟩: ∃ u,w5.cell? ⟨b,f*5+1,none⟩=some u:=by obtain⟨u,hu⟩:=HFx.out 1 (by decide);exact⟨u,((bl_cell H5.out.1).1 _ _ (World.block_lt_of_cell? _ _ hu)).trans hu⟩
     have z1:w5.frozen? ⟨b,f*5+1,none⟩=false:=(hR5.set (f*5+1) undef).2.2.1;obtain⟨e2v,e2⟩: ∃ u,w5.cell? ⟨b,f*5+2,none⟩=some u:=by obtain⟨u,hu⟩:=HFx.out 2 (by decide);exact⟨u,((bl_cell H5.out.1).1 _ _ (World.block_lt_of_cell? _ _ hu)).trans hu⟩
     have z2:w5.frozen? ⟨b,f*5+2,none⟩=false:=(hR5.set (f*5+2) undef).2.2.1;obtain⟨e3v,e3⟩: ∃ u,w5.cell? ⟨b,f*5+3,none⟩=some u:=by obtain⟨u,hu⟩:=HFx.out 3 (by decide);exact⟨u,((bl_cell H5.out.1).1 _ _ (World.block_lt_of_cell? _ _ hu)).trans hu⟩
     have z3:w5.frozen? ⟨b,f*5+3,none⟩=false:=(hR5.set (f*5+3) undef).2.2.1;obtain⟨e4v,e4⟩: ∃ u,w5.cell? ⟨b,f*5+4,none⟩=some u:=by obtain⟨u,hu⟩:=HFx.out 4 (by decide);exact⟨u,((bl_cell H5.out.1).1 _ _ (World.block_lt_of_cell? _ _ hu)).trans hu⟩
     have z4:w5.frozen? ⟨b,f*5+4,none⟩=false:=(hR5.set (f*5+4) undef).2.2.1;have hbw:b<w5.heap.size:=(hR5.lt b rfl).2;have hlL:F.length<L.length:=by have:=HR.out.1;omega
     have hput:=rowIn_run (linkCells x) w5 _ (f*5) hR5;have hflat:=flat_put linkCells_len (l:=L) (i:=F.length) hlL x;rw[←HR.out.1]at hflat;rw[←hflat]at hput;have HPut:=Lib.hid hput;have hnt:tb≠b:=fun e=>by
      have h1:=HR.out.2.2.2.1;exact hR5.ne (blk_bl h1 H5.out.1) (by decide) (by rw[e];rfl)
     have htb:=(hput.2.block tb (lt_of_block (blk_bl HR.out.2.2.2.1 H5.out.1)) (fun e=>hnt (Option.some.inj e))).trans (blk_bl HR.out.2.2.2.1 H5.out.1);have HTb:=Lib.hid htb;have HN:=Lib.hid (HR.out.2.1.keep HX.out.1 HP.out);have hf1:f+1=(F++[x]).length:=by rw[List.length_append,List.length_singleton,HR.out.1]
     have HF1:=Lib.hid hf1;rw[←HR.out.1]at HN;clear hput hflat htb hR5 hb5 hf1 hlL;go_wp2_with fail;go_roundw;case rel=>exact⟨_,_,_,_,_,_,_,_,_,_,_,_,_,_,_,_,_,_,_,_,_,_,_,⟨j+1,F++[x],L.set f x,f+1,⟨by omega,by go_num,by go_num⟩,Lib.hid ⟨HF1.out,HN.out,HPut.out.1,HTb.out,gr_next (gr_next HR.out.2.2.2.2 (gr_bl H5.out.1)) HPut.out.2⟩⟩,rfl⟩
     case measure=>simp[intOf];omega
   ·
    obtain rfl:j=l.length:=by omega
    obtain⟨hL1,hF1⟩:=hlen;have hff:f<l.length:=by have:=HR.out.1;omega
    obtain⟨w',hrun,hrow,hgr⟩:=run_clear_links (k:=f) hff hL1 HR.out.2.2.1 (cap-f);have HS1:=slice_link_l b l.length cap f hff hcapl wr;have HS2:=slice_link_h (some ⟨b,0,none⟩) l.length cap f (by omega) w';have hFe:L.take f=l.filter fun x=> !offB i x:=by
     obtain⟨M,hL,h1,-⟩:=HR.out.2.1.lay;rw[hL,HR.out.1,List.append_assoc,List.take_left',HR.out.2.1.kept,List.take_length];rfl
    have hfn:(l.filter fun x=> !offB i x).length=f:=by rw[←hFe,List.length_take];omega
    rw[hFe]at hrow;have HFin:=Lib.hid (And.intro hrow (And.intro (gr_next HR.out.2.2.2.2 hgr) hfn));have hffI:(f:Int)≤(l.length:Int):=by omega
    clear hrow hgr hFe hfn;go_wp2_with fail;go_ret;exact⟨_,rfl,by rw[HFin.out.2.2];exact HFin.out.1,HFin.out.2.1⟩
end Go.Proofs.YtncbcmiflffakaaGreat
namespace Go.Proofs.YtncbcmiflffakaaGreat
open Go.RowKit
open Frq Thr Tt
theorem RowIn.val0 {w:World} {base:Nat} {e:TypeId} {sz n:Nat} {v:Value} {xs:List Value} (h:RowIn w base e sz v n xs) (h0:0<n): ∃ g cap,v= .slice (some ⟨g,0,none⟩) n cap:=by
 rcases h.2 with⟨rfl,h1⟩|⟨g,cap,cur,rfl,-⟩
 · omega
 · exact⟨g,cap,rfl⟩
theorem setR_set {n:NetD} {i:Nat} {r:RunD} (h:n.runs[i]? =some r) (f:RunD→RunD):setR n i f={ n with runs:=n.runs.set i (f r) }:=by
 unfold setR;rw[modify_set f h]
theorem NetAt.set_calls {g base:Nat} {w:World} {V:NetV} {rs:List RunV} {n:NetD} (h:NetAt g base w V rs n) {i:Nat} {x:RunV} (hx:rs[i]? =some x) {b cap:Nat} (hV:V.runs= .slice (some ⟨b,0,none⟩) rs.length cap) {v':Value} {cs:List CallD} (hr:RowIn w base 68 5 v' cs.length (cs.flatMap callCells))
  (hnew: ∀ q,v'.ownBlock=some q→ ∀ (k:Nat) (z:RunV),rs[k]? =some z→z.v.ownBlock≠some q):
  NetAt g base (w.setCell ⟨b,i*8+7,none⟩ v') V (rs.set i ⟨{ x.r with calls:=cs },v'⟩) { n with runs:=n.runs.set i { x.r with calls:=cs } }∧Gr b w (w.setCell ⟨b,i*8+7,none⟩ v'):=by
 obtain⟨h1,h2⟩:=h.net.run_set (y:=⟨{ x.r with calls:=cs },v'⟩) hx hV (j:=7) (u:=v') (by decide) rfl hr (fun k z _ hz=>by
  cases hq:v'.ownBlock with
  |none=>
   cases hzb:z.v.ownBlock with
   |none=>exact .inl rfl
   |some s=>exact .inr (by simp)
  |some q=>exact .inr (fun e=>hnew q hq k z hz (e.trans rfl)))
 have hne:=h.net.runs.row.ne h.blk (by decide);rw[hV]at hne;exact⟨⟨(h2.block g (lt_of_block h.blk) (fun e=>hne e.symm)).trans h.blk,h.lo,h1⟩,h2⟩
theorem NetAt.run_cell {g base:Nat} {w:World} {V:NetV} {rs:List RunV} {n:NetD} (h:NetAt g base w V rs n) {i j:Nat} {x:RunV} (hx:rs[i]? =some x) {b cap:Nat} (hV:V.runs= .slice (some ⟨b,0,none⟩) rs.length cap) {u:Value} (hu:(runCells x)[j]? =some u) (hj:j<8):w.cell? ⟨b,i*8+j,none⟩=some u∧w.frozen? ⟨b,i*8+j,none⟩=false∧b<w.heap.size∧base≤b:=by
 have hr:=h.net.runs.row;rw[hV]at hr;have hi:=(List.getElem?_eq_some_iff.1 hx).1;exact⟨(hr.cellAt (i*8+j) (by omega)).trans (flat_get runCells_len hx hu),(hr.set (i*8+j) undef).2.2.1,(hr.lt b rfl).2,(hr.lt b rfl).1⟩
theorem own_new {g base z:Nat} {w w':World} {V:NetV} {rs:List RunV} {n:NetD} (h:NetAt g base w V rs n) {v':Value} {k sz:Nat} {e:TypeId} {xs:List Value} (ho:w'.ownsRow z e sz v' k xs) (hz:w.heap.size≤z): ∀ q,v'.ownBlock=some q→ ∀ (k:Nat) (z:RunV),rs[k]? =some z→z.v.ownBlock≠some q:=fun q hq _ y hx e=>by
 have h1:=((h.net.runs.calls y (List.mem_of_getElem? hx)).lt q e).2;have h2:=(World.ownsRow.lt ho q hq).1;omega
theorem oshift_c (g base:Nat) (V:NetV) (rs:List RunV) (n:NetD) (sm:Hid (SmallN n)) (m:MsgD) (mv:Value) (hmv: ∃ a k c,mv= .slice a k c) (i:Nat) (r:RunD) (hr:n.runs[i]? =some r) (w:World) (h:NetAt g base w V rs n) (hbase:base≤w.heap.size):
  Calls Tryz.prog 108 #[.pointer (some ⟨g,0,none⟩),Ms.msgV m mv, .int .i64 i] w fun e w'=>OutPost g base w (shiftP n m i r) e w':=by
 obtain⟨am,nm,km,rfl⟩:=hmv;have hrl:rs.length=n.runs.length:=by rw[h.net.same,List.length_map]
 have hi:i<rs.length:=by rw[hrl];exact(List.getElem?_eq_some_iff.1 hr).1
 obtain⟨x,hx⟩: ∃ x,rs[i]? =some x:=⟨_,List.getElem?_eq_getElem hi⟩;obtain rfl:x.r=r:=by
  have:n.runs[i]? =some x.r:=by rw[h.net.same,List.getElem?_map,hx];rfl
  exact Option.some.inj (this.symm.trans hr)
 obtain⟨b,kb,hV⟩:=h.net.runs.row.val0 (by omega);have hxc:=h.net.runs.calls x (List.mem_of_getElem? hx);obtain⟨av,kv,hxv⟩:=hxc.val;have hrn:=sm.out.runs;have hrI:(rs.length:Int)≤1024:=by omega
 have hiI:(i:Int)<(rs.length:Int):=by omega
 have hx32:=sm.out.calls x.r (List.mem_of_getElem? hr);have HO:=Lib.hid h;have HX:=Lib.hid (And.intro hx hr);have HXc:=Lib.hid (hxc.sl callCells_len);have HV:=Lib.hid hV;obtain⟨xr,xv⟩:=x;simp only at hxv;subst hxv;simp only at HX HXc hx32 hr;have hbm:=heap_alloc_new w (msgBox m (.slice am nm km));have hbl:=bl_alloc (bl_refl w) (msgBox m (.slice am nm km));have HBm:=Lib.hid (And.intro hbm hbl);obtain⟨P,hP⟩: ∃ P,propagateP xr.calls m.call m.secs=P:=⟨_,rfl⟩;have HCP:=Lib.hid (fun(w9:World) (hb:Bl w w9)=>propagate_c (.slice av xr.calls.length kv) xr.calls m.call m.secs (by omega) w.heap.size w9 (HXc.out.below hb) hb.size);rw[hP]at HCP;have hS:shiftP n m i xr=if P.2=0 then({ n with runs:=n.runs.set i { xr with calls:=P.1 } },0)else(n,P.2):=by
  unfold shiftP;rw[hP];show(if P.2=0 then(setR n i (fun r=>{ r with calls:=P.1 }),0)else(n,P.2))=_
  rw[setR_set hr]
 have HS:=Lib.hid hS;have hold: ∀ w',Bl (w.alloc (msgBox m (.slice am nm km))) w'→(w'.cell? ⟨g,2,none⟩=some (.slice (some ⟨b,0,none⟩) rs.length kb)∧w'.cell? ⟨b,i*8+7,none⟩=some (.slice av xr.calls.length kv)∧w'.cell? ⟨w.heap.size,8,none⟩=some (.int .i64 m.call)∧w'.cell? ⟨w.heap.size,9,none⟩=some (.int .i64 m.secs)):=fun w' hb=>by
  have h1:=HO.out.bl (bl_next HBm.out.2 hb);have h2:=blk_bl HBm.out.1 hb;refine⟨?_,(h1.run_cell (j:=7) HX.out.1 HV.out rfl (by decide)).1,blk_cell h2 8 _ rfl,blk_cell h2 9 _ rfl⟩;have:=blk_cell h1.blk 2 _ rfl;rw[HV.out]at this;exact this
 have HHold:=Lib.hid hold;clear h hr hx hxc hV hrl hbm hbl hP hS hold;go_enter Tryz.func108,Tryz.ntmps108
 go_upto_region 1 with fail
 change Code.wp _ _ _ _ (w.alloc (msgBox m (.slice am nm km)));have hold:=HHold.out;obtain⟨w1,hw1⟩: ∃ w1,w.alloc (msgBox m (.slice am nm km))=w1:=⟨_,rfl⟩;rw[hw1]at HBm hold ⊢;have HB1:Hid (w1.heap[w.heap.size]? =some (msgBox m (.slice am nm km))∧Bl w w1):=HBm;have hbd:=bl_next HB1.out.2 (bl_drew (bl_refl w1));have hgw:=lt_of_block (HO.out.bl HB1.out.2).blk;have hbw:=(HO.out.run_cell (j:=7) HX.out.1 HV.out rfl (by decide)).2.2.1;have hzw:=lt_of_block HB1.out.1;have hbw1:b<w1.heap.size:=Nat.lt_of_lt_of_le hbw HB1.out.2.size;clear hw1 HBm HHold;first
 |go_region_held3 (fun w'=>w'.cell? ⟨g,2,none⟩=some (.slice (some ⟨b,0,none⟩) rs.length kb)∧w'.cell? ⟨b,i*8+7,none⟩=some (.slice av xr.calls.length kv)∧w'.cell? ⟨w.heap.size,8,none⟩=some (.int .i64 m.call)∧w'.cell? ⟨w.heap.size,9,none⟩=some (.int .i64 m.secs))
   (first|exact hold _ (bl_drew (bl_refl _))|exact hold _ (bl_next (bl_drew (bl_refl _)) b3))
   ((go_at_call 128;refine(HCP.out _ hbd).mono ?_;rintro e w3 ⟨⟨v3,rfl,ho3⟩,b3⟩))
 |fail
 have B3:=bl_next hbd b3;have hz3:w.heap.size≤w1.drew.heap.size:=hbd.size;have HB3:=Lib.hid (And.intro B3 (And.intro (hold _ (bl_next (bl_drew (bl_refl _)) b3)) ho3));have HZ3:=Lib.hid hz3;clear b3 B3 hbd hold ho3 hz3;by_cases h0:P.2=0
 ·
  have HE:=Lib.hid (HS.out.trans (if_pos h0));have ho3:=HB3.out.2.2 h0;obtain⟨a3,k3,rfl⟩:=own_val ho3;have HO3:=HO.out.bl HB3.out.1;obtain⟨r1,r2,r3,r4⟩:=HO3.run_cell (j:=7) HX.out.1 HV.out rfl (by decide);obtain⟨q1,q2⟩:=HO3.set_calls HX.out.1 HV.out ((rowIn_own ho3).low (Nat.le_trans hbase HZ3.out)) (own_new HO.out ho3 HZ3.out);have HQ:=Lib.hid (And.intro q1 (And.intro q2 r4));have g2:=HB3.out.2.1.1;have hg3w:=lt_of_block HO3.blk;have HKe:=Lib.hid ((keep_bl HB3.out.1).trans (keep_row HO3.net.runs.row (by decide) (by rw[HV.out];exact q2)));have h0':(P.2==0)=true:=by rw[h0];rfl
  have H0:=Lib.hid h0;clear ho3 HO3 q1 q2 h0;go_wp2_with fail;go_ret;rw[HE.out];exact⟨_,_,ret_int H0.out,HQ.out.1,Below.setCell (HB3.out.1.mono hbase) HQ.out.2.2 _,HKe.out⟩
 ·
  have HE:=Lib.hid (HS.out.trans (if_neg h0));have h0':(P.2==0)=false:=by rw[beq_eq_false_iff_ne];exact h0
  go_wp2_with fail;go_ret;exact HO.out.post HB3.out.1 hbase HE.out rfl
theorem reroute_c (g base:Nat) (V:NetV) (rs:List RunV) (n:NetD) (sm:Hid (SmallN n)) (m:MsgD) (mv:Value) (hml:m.calls.length≤32) (i:Nat) (r:RunD) (hr:n.runs[i]? =some r) (w:World) (h:NetAt g base w V rs n) (hv:CallsIn base w mv m.calls) (hbase:base≤w.heap.size):
  Calls Tryz.prog 109 #[.pointer (some ⟨g,0,none⟩),Ms.msgV m mv, .int .i64 i] w fun e w'=>OutPost g base w (rerouteP n m i) e w':=by
 obtain⟨am,km,rfl,-,-⟩:=hv.val;have hrl:rs.length=n.runs.length:=by rw[h.net.same,List.length_map]
 have hi:i<rs.length:=by rw[hrl];exact(List.getElem?_eq_some_iff.1 hr).1
 obtain⟨x,hx⟩: ∃ x,rs[i]? =some x:=⟨_,List.getElem?_eq_getElem hi⟩;obtain rfl:x.r=r:=by
  have:n.runs[i]? =some x.r:=by rw[h.net.same,List.getElem?_map,hx];rfl
  exact Option.some.inj (this.symm.trans hr)
 obtain⟨b,kb,hV⟩:=h.net.runs.row.val0 (by omega);obtain⟨a0,k0,hV0⟩:=h.net.stops.val;obtain⟨a3,k3,hV3⟩:=h.net.links.val;have hrn:=sm.out.runs;have hst:=sm.out.stops;have hln:=sm.out.links;have hrI:(rs.length:Int)≤1024:=by omega
 have hiI:(i:Int)<(rs.length:Int):=by omega
 have hstI:(n.stops.length:Int)≤64:=by omega
 have HO:=Lib.hid h;have HX:=Lib.hid (And.intro hx hr);have HV:=Lib.hid hV;have HV0:=Lib.hid hV0;have HV3:=Lib.hid hV3;have HMv:=Lib.hid hv;obtain⟨ce,hce⟩: ∃ ce,callsErr n.stops.length 0 3155932800 m.calls=ce:=⟨_,rfl⟩;have HCE:=Lib.hid hce;have HCC:=Lib.hid (fun(w9:World) (hb:Bl w w9)=>Ms.calls_c (.slice am m.calls.length km) m.calls n.stops.length 0 3155932800 ce (Lib.hid hce) base w9 (HMv.out.below (hb.mono hbase)) (Nat.le_trans hbase hb.size));have W0:=Lib.hid (recv_boxes w m (.slice am m.calls.length km) i);clear h hx hV hV0 hV3 hrl hv hce;go_enter Tryz.func109,Tryz.ntmps109
 go_upto_region 1 with fail
 obtain⟨w1,hw1,bm1,bn1,s1,bl1⟩:=W0.out;change Code.wp _ _ _ _ ((w.alloc (msgBox m (.slice am m.calls.length km))).alloc (intBox i));rw[←hw1];have HB1:=Lib.hid (And.intro bm1 (And.intro bn1 bl1));have hold: ∀ w',Bl w1 w'→(w'.cell? ⟨g,0,none⟩=some (.slice a0 n.stops.length k0)∧w'.cell? ⟨w.heap.size,12,none⟩=some (.slice am m.calls.length km)):=fun w' hb=>by
  have h1:=HO.out.bl (bl_next HB1.out.2.2 hb);have:=blk_cell h1.blk 0 _ rfl;rw[HV0.out]at this;exact⟨this,blk_cell (blk_bl HB1.out.1 hb) 12 _ rfl⟩
 have hbd:=bl_next bl1 (bl_drew (bl_refl w1));have hgw1:=lt_of_block (HO.out.bl bl1).blk;have hzw1:=lt_of_block bm1;clear hw1 bm1 bn1 s1 bl1 W0;first
 |go_region_held3 (fun w'=>w'.cell? ⟨g,0,none⟩=some (.slice a0 n.stops.length k0)∧w'.cell? ⟨w.heap.size,12,none⟩=some (.slice am m.calls.length km))
   (first|exact hold _ (bl_drew (bl_refl _))|exact hold _ (bl_next (bl_drew (bl_refl _)) b3))
   ((go_at_call 52;refine(HCC.out _ hbd).mono ?_;rintro e w3 ⟨⟨i3,rfl⟩,b3⟩))
 |fail
 have B3:=bl_next (bl_drew (bl_refl w1)) b3;have HB3:=Lib.hid (And.intro (blk_bl HB1.out.1 B3) (And.intro (blk_bl HB1.out.2.1 B3) (bl_next HB1.out.2.2 B3)));clear b3 B3 hbd hold;by_cases hc0:ce=0
 ·
  subst hc0;have hE:rerouteP n m i=({ n with runs:=n.runs.set i { x.r with calls:=m.calls },links:=n.links.filter fun l=> !offB i l },0):=by
   unfold rerouteP;rw[if_neg (by rw[HCE.out];exact fun q=>q rfl),setR_set hr];rfl
  have HE:=Lib.hid hE;have hcl2:=callsErr_ok HCE.out;clear hE;go_upto_region 4 with fail
  have hsb: ∀ w9,Bl w3 w9→(w9.cell? ⟨g,2,none⟩=some (.slice (some ⟨b,0,none⟩) rs.length kb)∧w9.cell? ⟨w.heap.size,12,none⟩=some (.slice am m.calls.length km)∧w9.cell? ⟨w.heap.size+1,0,none⟩=some (.int .i64 i)):=fun w9 hb=>by
   have h1:=HO.out.bl (bl_next HB3.out.2.2 hb);have:=blk_cell h1.blk 2 _ rfl;rw[HV.out]at this;exact⟨this,blk_cell (blk_bl HB3.out.1 hb) 12 _ rfl,blk_cell (blk_bl HB3.out.2.1 hb) 0 _ rfl⟩
  have hg3w:=lt_of_block (HO.out.bl HB3.out.2.2).blk;have hz3w:=lt_of_block HB3.out.1;have hn3w:=lt_of_block HB3.out.2.1;refine startW (fun w9=>w9.cell? ⟨g,2,none⟩=some (.slice (some ⟨b,0,none⟩) rs.length kb)∧w9.cell? ⟨w.heap.size,12,none⟩=some (.slice am m.calls.length km)∧w9.cell? ⟨w.heap.size+1,0,none⟩=some (.int .i64 i)) 10 (hsb _ (bl_drew (bl_refl _))) ?_;intro hHeld;obtain⟨wd,hwd⟩: ∃ wd,w3.drew=wd:=⟨_,rfl⟩;have Bd:Bl w3 wd:=by rw[←hwd];exact bl_drew (bl_refl _)
  rw[hwd]at hHeld ⊢;clear hwd;refine takeW 0 ?_;refine takeW 1 ?_;refine takeW 2 ?_;refine takeW 3 ?_;refine takeW 4 ?_;refine takeW 5 ?_;refine takeW 6 ?_;have Bwd:=bl_next HB3.out.2.2 Bd;have HOC:=ocalls_c (.slice am m.calls.length km) m.calls (by omega) (by omega) base wd (HMv.out.below (Bwd.mono hbase)) (Nat.le_trans hbase Bwd.size);refine stepW 7 (fun KK hKK=>?_);go_simp;go_at_call 127
  refine HOC.mono ?_;rintro e w5 ⟨v4,rfl,o4,b4⟩;obtain⟨a4v,k4v,rfl⟩:=own_val o4;have B5:=bl_next Bd b4;refine hKK.out _ _ (hsb _ B5) (fun hHeld=>?_);clear HOC;have B5w:=bl_next HB3.out.2.2 B5;have HO5:=HO.out.bl B5w;obtain⟨r1,r2,r3,r4⟩:=HO5.run_cell (j:=7) HX.out.1 HV.out rfl (by decide);obtain⟨q1,q2⟩:=HO5.set_calls HX.out.1 HV.out ((rowIn_own o4).low (Nat.le_trans hbase Bwd.size)) (own_new HO.out o4 Bwd.size);have hne:b≠w.heap.size+1:=fun e=>by
   have:=(HO.out.run_cell (j:=7) HX.out.1 HV.out rfl (by decide)).2.2.1;omega
  have hn5:=(q2.block (w.heap.size+1) (lt_of_block (blk_bl HB3.out.2.1 B5)) (fun e=>hne (Option.some.inj e).symm)).trans (blk_bl HB3.out.2.1 B5);have HKe:=Lib.hid ((keep_bl B5w).trans (keep_row HO5.net.runs.row (by decide) (by rw[HV.out];exact q2)));have HQ:=Lib.hid (And.intro q1 (And.intro (Below.setCell (B5w.mono hbase) r4 _:Below base w (w5.setCell ⟨b,i*8+7,none⟩ (.slice a4v m.calls.length k4v))) (And.intro hn5 HKe.out)));clear HO5 q1 q2 hn5 hsb o4 b4 B5 Bd Bwd B5w;refine takeL 8 ?_;refine takeL 9 ?_;refine lastW (fun KK hKK=>?_);go_simp;refine hKK.out _ _ ?_;clear r1 r2 r3 hHeld;obtain⟨hO6,hbl6,hn6,hke6⟩:=HQ.out;generalize w5.setCell ⟨b,i*8+7,none⟩ (.slice a4v m.calls.length k4v)=w6 at hO6 hbl6 hn6 hke6 ⊢
  have H6:=Lib.hid (And.intro hO6 (And.intro hbl6 hn6));have hb6:=hO6.blk;have g3:w6.cell? ⟨g,3,none⟩=some (.slice a3 n.links.length k3):=by rw[←HV3.out];exact blk_cell hb6 3 _ rfl
  have hg6w:=lt_of_block hb6;have hr6:=hO6.net.links;rw[HV3.out]at hr6;have HD:=Lib.hid (delete_c (w.heap.size+1) i (.slice a3 n.links.length k3) n.links (by omega) base w6 hr6 hn6);clear hO6 hbl6 hn6 HQ hb6 hr6;go_wp2_with fail;refine HD.out.mono ?_;rintro e w7 ⟨v7,rfl,row7,gr7⟩;obtain⟨a7,k7,rfl⟩:=row7.val;have hgl:=H6.out.1.net.links.ne H6.out.1.blk (by decide);rw[HV3.out]at hgl;have hb7:=(gr7.block g hg6w (fun e=>hgl e.symm)).trans H6.out.1.blk;have hN7:NetIn base w7 ⟨V.stops,V.routes,V.runs, .slice a7 (n.links.filter fun l=> !offB i l).length k7,V.paths,V.prods⟩ (rs.set i ⟨{ x.r with calls:=m.calls }, .slice a4v m.calls.length k4v⟩) { n with runs:=n.runs.set i { x.r with calls:=m.calls },links:=n.links.filter fun l=> !offB i l }:=by
   cases hq:(Value.slice a3 n.links.length k3).ownBlock with
   |none=>
    rw[hq]at gr7;have hb:Bl w6 w7:=⟨gr7.os,gr7.tape,gr7.output,gr7.size,fun k hk=>gr7.block k hk (fun e=>by cases e)⟩;have h:=H6.out.1.net.bl hb;exact⟨h.stops,h.routes,h.runs,h.same,row7,h.paths,h.prods,h.apart⟩
   |some q=>
    rw[hq]at gr7;exact H6.out.1.net.links_turn (by rw[HV3.out];exact hq) gr7 row7
  have hbl7:Below base w w7:=H6.out.2.1.grown gr7 (Nat.le_trans hbase H6.out.2.1.size) (fun q hq=>(H6.out.1.net.links.lt q (by rw[HV3.out];exact hq)).1);have HK7:=Lib.hid (hke6.trans (keep_row H6.out.1.net.links (by decide) (by rw[HV3.out];exact gr7)));have HK8:=Lib.hid (HK7.out.trans (keep_gr hb7 (by decide) (gr_set g w7 3 (.slice a7 (n.links.filter fun l=> !offB i l).length k7))));have f3:w7.frozen? ⟨g,3,none⟩=false:=Lib.frozen_of_heap hb7 3;have c3:w7.cell? ⟨g,3,none⟩=some V.links:=blk_cell hb7 3 _ rfl;have hg7w:=lt_of_block hb7;have hb8:=blk_set hb7 3 (.slice a7 (n.links.filter fun l=> !offB i l).length k7);simp only[List.setIfInBounds_toArray,List.set_cons_succ,List.set_cons_zero]at hb8;have hN8:=hN7.other hb7 (gr_set g w7 3 (.slice a7 (n.links.filter fun l=> !offB i l).length k7));have HF:=Lib.hid (And.intro hb8 (And.intro hN8 (Below.setCell hbl7 HO.out.lo (.slice a7 (n.links.filter fun l=> !offB i l).length k7):Below base w (w7.setCell ⟨g,3,none⟩ (.slice a7 (n.links.filter fun l=> !offB i l).length k7)))));clear row7 gr7 hgl hb7 hN7 hbl7 hb8 hN8 HD g3;go_wp2_with fail;go_ret;rw[HE.out];exact⟨⟨V.stops,V.routes,V.runs, .slice a7 (n.links.filter fun l=> !offB i l).length k7,V.paths,V.prods⟩,_,rfl,⟨HF.out.1,HO.out.lo,HF.out.2.1⟩,HF.out.2.2,HK8.out⟩
 ·
  have HE:=Lib.hid (show rerouteP n m i=(n,ce) by unfold rerouteP;rw[HCE.out,if_pos hc0]);have hne:(ce != 0)=true:=by rw[bne_iff_ne];exact hc0
  go_wp2_with fail;go_ret;exact HO.out.post HB3.out.2.2 hbase HE.out rfl
end Go.Proofs.YtncbcmiflffakaaGreat
