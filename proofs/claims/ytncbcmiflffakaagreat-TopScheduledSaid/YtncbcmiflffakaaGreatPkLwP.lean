/-
  What the laws of top need of TopLwP, TopLwQ. Conditions: those of each lemma.
-/
import Derived.Test.YtncbcmiflffakaaGreatPkLvA
set_option maxRecDepth 1000000
set_option maxHeartbeats 32000000
namespace Go.Proofs.YtncbcmiflffakaaGreat
open Go.RowKit
open Frq Thr Tt
theorem own_same {w w':World} {base:Nat} {e:TypeId} {size n:Nat} {v:Value} {xs:List Value} (h:w.ownsRow base e size v n xs) (hs: ∀ b,v.ownBlock=some b→w'.heap[b]? =w.heap[b]?):w'.ownsRow base e size v n xs:=by
 refine⟨h.1,h.2.imp id ?_⟩;rintro⟨g,cap,cur,rfl,h2,h3,h4⟩;exact⟨g,cap,cur,rfl,h2,(hs g rfl).trans h3,h4⟩
theorem bl_gr2 {a w w':World} {g h:Nat} (b:Bl a w) (G:Gr2 g h w w') (hg:a.heap.size≤g) (hh:a.heap.size≤h):Bl a w':=
 ⟨G.os.trans b.os,G.tape.trans b.tape,G.output.trans b.output,Nat.le_trans b.size G.size,fun k hk=>(G.block k (Nat.lt_of_lt_of_le hk b.size) (by omega) (by omega)).trans (b.block k hk)⟩
theorem bl_gr {a w w':World} {g:Nat} (b:Bl a w) (G:Gr g w w') (hg:a.heap.size≤g):Bl a w':=b.grown G b.size (fun q hq=>by simp only[Option.some.injEq]at hq;omega)
section
variable {gx gb gs:Nat} {srcs:Int} {V:NetV} {rs:List RunV} {n:NetD} {kv:Value} {ks:List MsgV} {st:BoxD} {mom:Int} {w w':World}
theorem LiveAt.kept_of (h:LiveAt gx gb gs srcs V rs n kv ks st mom w) (Q:Nat→Prop) (hQ: ∀ k,k<w.heap.size→ ¬ Q k→w'.heap[k]? =w.heap[k]?) (qx: ¬ Q gx) (qb: ¬ Q gb) (qs: ¬ Q gs) (qk: ∀ b,kv.ownBlock=some b→ ¬ Q b)
  (qt: ∀ b e C,(e=91∨e=93∨e=66∨e=68∨e=95∨e=97∨e=142)→w.heap[b]? =some (.cells C e (0,0))→ ¬ Q b):LiveAt gx gb gs srcs V rs n kv ks st mom w':=by
 have hk: ∀ {k:Nat} {o:Obj},w.heap[k]? =some o→ ¬ Q k→w'.heap[k]? =some o:=fun{k o} ho hq=>(hQ k (lt_of_block ho) hq).trans ho
 have hrow: ∀ {e:TypeId} {sz c:Nat} {v:Value} {xs:List Value},(e=91∨e=93∨e=66∨e=68∨e=95∨e=97∨e=142)→ ∀ b C,v.ownBlock=some b→w.heap[b]? =some (.cells C e (0,0))→w'.heap[b]? =w.heap[b]? :=fun he b C _ hb=>hQ b (lt_of_block hb) (qt b _ C he hb)
 refine⟨hk h.blk qx,⟨hk h.box.box qb,hk h.box.src qs,⟨own_same h.box.kept.row fun b hb=>hQ b (World.ownsRow.lt h.box.kept.row b hb).2 (qk b hb),fun y hy=>?_⟩,h.box.same⟩,h.net.kept_of fun e sz k v xs he hr=>hr.same fun b hb=>?_⟩
 ·
  refine own_same (h.box.kept.calls y hy) fun b hb=>?_
  rcases(h.box.kept.calls y hy).2 with⟨q,-⟩|⟨g,cap,cur,q,-,q3,-⟩
  · rw[q]at hb;simp[Value.ownBlock]at hb
  ·
   obtain rfl:g=b:=by rw[q]at hb;simpa[Value.ownBlock]using hb
   exact hQ g (lt_of_block q3) (qt g _ _ (by simp) q3)
 ·
  rcases hr.2 with⟨q,-⟩|⟨g,cap,cur,q,-,q3,-⟩
  · rw[q]at hb;simp[Value.ownBlock]at hb
  ·
   obtain rfl:g=b:=by rw[q]at hb;simpa[Value.ownBlock]using hb
   exact hQ g (lt_of_block q3) (qt g _ _ he q3)
theorem LiveAt.other {gb2 gs2:Nat} {kv2:Value} {ks2:List MsgV} {st2:BoxD} (h:LiveAt gx gb gs srcs V rs n kv ks st mom w) (h2:InboxAt gb2 gs2 kv2 ks2 st2 w) (nb:gb≠gb2) (ns:gs≠gs2) (hG:Gr2 gb2 gs2 w w'):LiveAt gx gb gs srcs V rs n kv ks st mom w':=by
 have key: ∀ {k:Nat} {C C':Array Value} {T T':TypeId},w.heap[k]? =some (.cells C T (0,0))→w.heap[k]? =some (.cells C' T' (0,0))→T=T':=fun{k C C' T T'} a b=>by
  rw[a]at b;simp only[Option.some.injEq,Obj.cells.injEq]at b;exact b.2.1
 refine h.kept_of (fun k=>k=gb2∨k=gs2) (fun k hk hn=>hG.block k hk (fun e=>hn (.inl e)) (fun e=>hn (.inr e))) ?_ ?_ ?_ (fun b hb=>?_) (fun b e C he hb=>?_)
 ·
  rintro(rfl|rfl)
  · exact absurd (key h.blk h2.box) (by decide)
  · exact absurd (key h.blk h2.src) (by decide)
 ·
  rintro(rfl|rfl)
  · exact nb rfl
  · exact absurd (key h.box.box h2.src) (by decide)
 ·
  rintro(rfl|rfl)
  · exact absurd (key h.box.src h2.box) (by decide)
  · exact ns rfl
 ·
  rintro(rfl|rfl)
  · exact own_ne h2.box (by decide) h.box.kept.row hb
  · exact own_ne h2.src (by decide) h.box.kept.row hb
 ·
  rintro(rfl|rfl)
  ·
   have:=key hb h2.box;subst this;revert he;decide
  ·
   have:=key hb h2.src;subst this;revert he;decide
theorem LiveAt.row {g:Nat} {C:Array Value} (h:LiveAt gx gb gs srcs V rs n kv ks st mom w) (hg:w.heap[g]? =some (.cells C 48 (0,0))) (hk:kv.ownBlock≠some g) (hG:Gr g w w'):LiveAt gx gb gs srcs V rs n kv ks st mom w':=by
 have key: ∀ {k:Nat} {C C':Array Value} {T T':TypeId},w.heap[k]? =some (.cells C T (0,0))→w.heap[k]? =some (.cells C' T' (0,0))→T=T':=fun{k C C' T T'} a b=>by
  rw[a]at b;simp only[Option.some.injEq,Obj.cells.injEq]at b;exact b.2.1
 refine h.kept_of (fun k=>k=g) (fun k hk hn=>hG.block k hk (fun e=>hn (Option.some.inj e))) ?_ ?_ ?_ (fun b hb=>?_) (fun b e C he hb=>?_)
 ·
  rintro rfl;exact absurd (key h.blk hg) (by decide)
 ·
  rintro rfl;exact absurd (key h.box.box hg) (by decide)
 ·
  rintro rfl;exact absurd (key h.box.src hg) (by decide)
 ·
  rintro rfl;exact hk hb
 ·
  rintro rfl;have:=key hb hg;subst this;revert he;decide
theorem LiveAt.live {g:Nat} {C:Array Value} (h:LiveAt gx gb gs srcs V rs n kv ks st mom w) (hg:w.heap[g]? =some (.cells C 88 (0,0))) (hx:gx≠g) (hG:Gr g w w'):LiveAt gx gb gs srcs V rs n kv ks st mom w':=by
 have key: ∀ {k:Nat} {C C':Array Value} {T T':TypeId},w.heap[k]? =some (.cells C T (0,0))→w.heap[k]? =some (.cells C' T' (0,0))→T=T':=fun{k C C' T T'} a b=>by
  rw[a]at b;simp only[Option.some.injEq,Obj.cells.injEq]at b;exact b.2.1
 refine h.kept_of (fun k=>k=g) (fun k hk hn=>hG.block k hk (fun e=>hn (Option.some.inj e))) hx ?_ ?_ (fun b hb=>?_) (fun b e C he hb=>?_)
 ·
  rintro rfl;exact absurd (key h.box.box hg) (by decide)
 ·
  rintro rfl;exact absurd (key h.box.src hg) (by decide)
 ·
  rintro rfl;exact own_ne hg (by decide) h.box.kept.row hb
 ·
  rintro rfl;have:=key hb hg;subst this;revert he;decide
end
theorem ttFrom_ok (t:TtD): ∀ (n p:Nat),(ttFrom t n p).2.2=0→ttFrom t n p=(0,0,0)
 |0,_,_=>rfl
 |n+1,p,h=>by
  unfold ttFrom at h ⊢;split at h
  ·
   rename_i q;rw[if_pos q];exact ttFrom_ok t n (p+1) h
  ·
   rename_i q;exact absurd h q
theorem ttChk_ok {t:TtD} (h:(ttChk t).2.2=0):ttChk t=(0,0,0):=ttFrom_ok t 10 0 h
def setS (s:Int) (x:MsgV):MsgV:=⟨{ x.m with src:=s },x.v⟩
def markK (s:Int) (l:List MsgV) (k:Nat):List MsgV:=(l.take k).map (setS s)++l.drop k
theorem markK_zero (s:Int) (l:List MsgV):markK s l 0=l:=by simp[markK]
theorem markK_full (s:Int) (l:List MsgV) {k:Nat} (h:l.length≤k):markK s l k=l.map (setS s):=by
 unfold markK;rw[List.take_of_length_le h,List.drop_of_length_le h,List.append_nil]
theorem markK_len (s:Int) (l:List MsgV) (k:Nat):(markK s l k).length=l.length:=by
 unfold markK;rw[List.length_append,List.length_map,←List.length_append,List.take_append_drop]
theorem markK_at {s:Int} {l:List MsgV} {k:Nat} {x:MsgV} (h:l[k]? =some x):(markK s l k)[k]? =some x:=by
 obtain⟨hk,rfl⟩:=List.getElem?_eq_some_iff.1 h;unfold markK;rw[List.getElem?_append_right (by simp;omega)];simp only[List.length_map,List.length_take];rw[Nat.min_eq_left (by omega),Nat.sub_self,List.getElem?_drop];simp
theorem markK_next {s:Int} {l:List MsgV} {k:Nat} {x:MsgV} (h:l[k]? =some x):(markK s l k).set k (setS s x)=markK s l (k+1):=by
 obtain⟨hk,rfl⟩:=List.getElem?_eq_some_iff.1 h;unfold markK;rw[take_snoc' h,List.map_append,List.append_assoc,List.set_append_right _ _ (by rw[List.length_map,List.length_take];exact Nat.min_le_left _ _)];simp only[List.length_map,List.length_take];rw[Nat.min_eq_left (by omega),Nat.sub_self,List.drop_eq_getElem_cons hk];rfl
theorem markK_now {s:Int} {l:List MsgV} {k:Nat} {x:MsgV} (h:l[k]? =some x):(markK s l (k+1))[k]? =some (setS s x):=by
 rw[←markK_next h,List.getElem?_set_self];rw[markK_len];exact(List.getElem?_eq_some_iff.1 h).1
theorem markK_past {s:Int} {l:List MsgV} {k:Nat} {x:MsgV} (h:l[k]? =some x):(l.map (setS s))[k]? =some (setS s x):=by
 rw[List.getElem?_map,h];rfl
theorem mark_row {s:Int} {base g cap:Nat} {l:List MsgV} {k:Nat} {x:MsgV} {w:World} (hx:l[k]? =some x) (h:w.ownsRow base 48 13 (.slice (some ⟨g,0,none⟩) l.length cap) l.length ((markK s l k).flatMap msgL)):
  (w.setCell ⟨g,k*13,none⟩ (.int .i64 s)).ownsRow base 48 13 (.slice (some ⟨g,0,none⟩) l.length cap) l.length ((markK s l (k+1)).flatMap msgL)∧Gr g w (w.setCell ⟨g,k*13,none⟩ (.int .i64 s)):=by
 obtain⟨h1,h0⟩:=World.ownsRow.stored h (k*13) (.int .i64 s);have h2:=flat_cell msgL_len (l:=markK s l k) (markK_at hx) (j:=0) (u:= .int .i64 s) (y:=setS s x) (by decide) rfl;rw[Nat.add_zero]at h2;rw[h2,markK_next hx]at h1;exact⟨h1,h0⟩
def msgs (s:Int) (l:List MsgV):List MsgD:=(l.map (setS s)).map (·.m)
theorem msgs_len (s:Int) (l:List MsgV):(msgs s l).length=l.length:=by simp[msgs]
theorem msgs_at {s:Int} {l:List MsgV} {k:Nat} {x:MsgV} (h:l[k]? =some x):(msgs s l)[k]? =some (setS s x).m:=by
 unfold msgs;rw[List.getElem?_map,List.getElem?_map,h];rfl
theorem msgs_src {s:Int} {l:List MsgV}: ∀ m∈msgs s l,m.src=s:=by
 intro m hm;unfold msgs at hm;obtain⟨y,hy,rfl⟩:=List.mem_map.1 hm;obtain⟨z,-,rfl⟩:=List.mem_map.1 hy;rfl
theorem recvAll_next {now:Int} {b:BoxD} {l:List MsgD} {k:Nat} {m:MsgD} (h:l[k]? =some m):recvAll now b (l.take (k+1))=(recvP (recvAll now b (l.take k)) m now).1:=by
 rw[take_snoc' h];unfold recvAll;rw[List.foldl_append];rfl
theorem BoxOk.all {now:Int} (hn:okM now): ∀ (l:List MsgD) {b:BoxD},BoxOk b→BoxOk (recvAll now b l)
 |[],_,h=>h
 |m::l,_,h=>BoxOk.all hn l (h.recv m hn)
end Go.Proofs.YtncbcmiflffakaaGreat
namespace Go.Proofs.YtncbcmiflffakaaGreat
open Go.RowKit
open Frq Thr Tt
theorem late_ok:okM 816506000:=by unfold okM;omega
section
variable (gx gbx gsx gy gby gsy:Nat) (Vx Vy:NetV) (rsx rsy:List RunV) (N:NetD) (so sa s2 no na:Nat) (ro ra:Value) (w:World)
structure Ord (stx sty:BoxD) (lo la:List MsgV) (wr:World):Prop where
 lx: ∃ kv ks,LiveAt gx gbx gsx 2 Vx rsx N kv ks stx 816506000 wr∧ ∀ b,kv.ownBlock=some b→s2≤b
 ly: ∃ kv ks,LiveAt gy gby gsy 2 Vy rsy N kv ks sty 816506000 wr∧ ∀ b,kv.ownBlock=some b→s2≤b
 ro:wr.ownsRow so 48 13 ro no (lo.flatMap msgL)
 ra:wr.ownsRow sa 48 13 ra na (la.flatMap msgL)
 bl:Bl w wr
 sz:s2≤wr.heap.size
structure OrdH:Prop where
 nb:gbx≠gby
 ns:gsx≠gsy
 wx:w.heap.size≤gbx∧w.heap.size≤gsx
 wy:w.heap.size≤gby∧w.heap.size≤gsy
 lo: ∀ b,ro.ownBlock=some b→b<s2
 la: ∀ b,ra.ownBlock=some b→b<s2
 wa:w.heap.size≤sa
 ap: ∀ b,ro.ownBlock=some b→ra.ownBlock≠some b
end
section
variable {gx gbx gsx gy gby gsy:Nat} {Vx Vy:NetV} {rsx rsy:List RunV} {N:NetD} {so sa s2 no na:Nat} {ro ra:Value} {w wr w':World} {stx sty st':BoxD} {lo la:List MsgV} {kv kv':Value} {ks ks':List MsgV}
theorem own_gr2 {base:Nat} {e:TypeId} {size n:Nat} {v:Value} {l:List Value} {gb gs:Nat} {k2:Value} {s2':List MsgV} {st2:BoxD} (h:wr.ownsRow base e size v n l) (hI:InboxAt gb gs k2 s2' st2 wr) (h1:145≠e) (h2:154≠e) (hG:Gr2 gb gs wr w'):w'.ownsRow base e size v n l:=
 own_same h fun b hb=>hG.block b (World.ownsRow.lt h b hb).2 (fun q=>own_ne hI.box h1 h (hb.trans (by rw[q]))) (fun q=>own_ne hI.src h2 h (hb.trans (by rw[q])))
theorem Ord.recvX (H:OrdH gbx gsx gby gsy sa s2 ro ra w) (h:Ord gx gbx gsx gy gby gsy Vx Vy rsx rsy N so sa s2 no na ro ra w stx sty lo la wr) (hl:LiveAt gx gbx gsx 2 Vx rsx N kv ks stx 816506000 wr) (hk: ∀ b,kv.ownBlock=some b→s2≤b)
  (hL:LiveAt gx gbx gsx 2 Vx rsx N kv' ks' st' 816506000 w') (hG:Gr2 gbx gsx wr w') (hK:KeptAt kv kv' wr.heap.size):Ord gx gbx gsx gy gby gsy Vx Vy rsx rsy N so sa s2 no na ro ra w st' sty lo la w':=by
 obtain⟨kvy,ksy,hy,hky⟩:=h.ly;exact⟨⟨kv',ks',hL,fun b hb=>(hK b hb).elim (hk b) (Nat.le_trans h.sz)⟩,⟨kvy,ksy,hy.other hl.box H.nb.symm H.ns.symm hG,hky⟩,own_gr2 h.ro hl.box (by decide) (by decide) hG,own_gr2 h.ra hl.box (by decide) (by decide) hG,bl_gr2 h.bl hG H.wx.1 H.wx.2,Nat.le_trans h.sz hG.size⟩
theorem Ord.recvY (H:OrdH gbx gsx gby gsy sa s2 ro ra w) (h:Ord gx gbx gsx gy gby gsy Vx Vy rsx rsy N so sa s2 no na ro ra w stx sty lo la wr) (hl:LiveAt gy gby gsy 2 Vy rsy N kv ks sty 816506000 wr) (hk: ∀ b,kv.ownBlock=some b→s2≤b)
  (hL:LiveAt gy gby gsy 2 Vy rsy N kv' ks' st' 816506000 w') (hG:Gr2 gby gsy wr w') (hK:KeptAt kv kv' wr.heap.size):Ord gx gbx gsx gy gby gsy Vx Vy rsx rsy N so sa s2 no na ro ra w stx st' lo la w':=by
 obtain⟨kvx,ksx,hx,hkx⟩:=h.lx;exact⟨⟨kvx,ksx,hx.other hl.box H.nb H.ns hG,hkx⟩,⟨kv',ks',hL,fun b hb=>(hK b hb).elim (hk b) (Nat.le_trans h.sz)⟩,own_gr2 h.ro hl.box (by decide) (by decide) hG,own_gr2 h.ra hl.box (by decide) (by decide) hG,bl_gr2 h.bl hG H.wy.1 H.wy.2,Nat.le_trans h.sz hG.size⟩
theorem Ord.mark {xs:List MsgV} {k g cap:Nat} {x:MsgV} (H:OrdH gbx gsx gby gsy sa s2 ro (.slice (some ⟨g,0,none⟩) xs.length cap) w) (h:Ord gx gbx gsx gy gby gsy Vx Vy rsx rsy N so sa s2 no xs.length ro (.slice (some ⟨g,0,none⟩) xs.length cap) w stx sty lo (markK 0 xs k) wr) (hx:xs[k]? =some x):
  Ord gx gbx gsx gy gby gsy Vx Vy rsx rsy N so sa s2 no xs.length ro (.slice (some ⟨g,0,none⟩) xs.length cap) w stx sty lo (markK 0 xs (k+1)) (wr.setCell ⟨g,k*13,none⟩ (.int .i64 0)):=by
 obtain⟨r1,g1⟩:=mark_row hx h.ra;have hg2:=H.la g rfl;have hga:=(World.ownsRow.lt h.ra g rfl).1;obtain⟨C,hC⟩: ∃ C,wr.heap[g]? =some (.cells C 48 (0,0)):=by
  rcases h.ra.2 with⟨q,-⟩|⟨g',c',cur,q,-,q3,-⟩
  · cases q
  ·
   simp only[Value.slice.injEq,Option.some.injEq,Addr.mk.injEq,and_true,true_and]at q;obtain⟨rfl,-⟩:=q;exact⟨cur,q3⟩
 obtain⟨kvx,ksx,hx',hkx⟩:=h.lx;obtain⟨kvy,ksy,hy',hky⟩:=h.ly;exact⟨⟨kvx,ksx,hx'.row hC (fun e=>by have:=hkx g e;omega) g1,hkx⟩,⟨kvy,ksy,hy'.row hC (fun e=>by have:=hky g e;omega) g1,hky⟩,own_kept h.ro g1 (fun b hb e=>by have:=H.ap b hb;rw[←Option.some.inj e]at this;exact this rfl),r1,bl_gr h.bl g1 (Nat.le_trans H.wa hga),Nat.le_trans h.sz g1.size⟩
end
theorem mark_one {gx gbx gsx gy gby gsy:Nat} {Vx Vy:NetV} {rsx rsy:List RunV} {N:NetD} {w wr:World} {stx sty:BoxD} {base g cap k:Nat} {s:Int} {l:List MsgV} {x:MsgV} (hx:l[k]? =some x) (hw:w.heap.size≤base)
  (h:LiveAt gx gbx gsx 2 Vx rsx N (.slice none 0 0) [] stx 816506000 wr∧LiveAt gy gby gsy 2 Vy rsy N (.slice none 0 0) [] sty 816506000 wr∧wr.ownsRow base 48 13 (.slice (some ⟨g,0,none⟩) l.length cap) l.length ((markK s l k).flatMap msgL)∧Bl w wr):
  LiveAt gx gbx gsx 2 Vx rsx N (.slice none 0 0) [] stx 816506000 (wr.setCell ⟨g,k*13,none⟩ (.int .i64 s))∧LiveAt gy gby gsy 2 Vy rsy N (.slice none 0 0) [] sty 816506000 (wr.setCell ⟨g,k*13,none⟩ (.int .i64 s))∧(wr.setCell ⟨g,k*13,none⟩ (.int .i64 s)).ownsRow base 48 13 (.slice (some ⟨g,0,none⟩) l.length cap) l.length ((markK s l (k+1)).flatMap msgL)∧Bl w (wr.setCell ⟨g,k*13,none⟩ (.int .i64 s)):=by
 obtain⟨hX,hY,hr,hb⟩:=h;obtain⟨r1,g1⟩:=mark_row hx hr;have hga:=(World.ownsRow.lt hr g rfl).1;obtain⟨C,hC⟩: ∃ C,wr.heap[g]? =some (.cells C 48 (0,0)):=by
  rcases hr.2 with⟨q,-⟩|⟨g',c',cur,q,-,q3,-⟩
  · cases q
  ·
   simp only[Value.slice.injEq,Option.some.injEq,Addr.mk.injEq,and_true,true_and]at q;obtain⟨rfl,-⟩:=q;exact⟨cur,q3⟩
 exact⟨hX.row hC (by simp[Value.ownBlock]) g1,hY.row hC (by simp[Value.ownBlock]) g1,r1,bl_gr hb g1 (Nat.le_trans hw hga)⟩
theorem ord_start {gx gbx gsx gy gby gsy:Nat} {Vx Vy:NetV} {rsx rsy:List RunV} {N:NetD} {w wr w':World} {stx sty:BoxD} {so n m:Nat} {ao ar:Option Addr} {ko kr:Nat} {lo la:List MsgV}
  (hX:LiveAt gx gbx gsx 2 Vx rsx N (.slice none 0 0) [] stx 816506000 wr) (hY:LiveAt gy gby gsy 2 Vy rsy N (.slice none 0 0) [] sty 816506000 wr) (hr:wr.ownsRow so 48 13 (.slice ao n ko) n (lo.flatMap msgL)) (hb:Bl w wr)
  (b2:Bl wr w') (ha:w'.ownsRow wr.heap.size 48 13 (.slice ar m kr) m (la.flatMap msgL)) (nb:gbx≠gby) (ns:gsx≠gsy) (wx:w.heap.size≤gbx∧w.heap.size≤gsx) (wy:w.heap.size≤gby∧w.heap.size≤gsy):
  OrdH gbx gsx gby gsy wr.heap.size w'.heap.size (.slice ao n ko) (.slice ar m kr) w∧Ord gx gbx gsx gy gby gsy Vx Vy rsx rsy N so wr.heap.size w'.heap.size n m (.slice ao n ko) (.slice ar m kr) w stx sty lo la w':=by
 have hs:=b2.size;refine⟨⟨nb,ns,wx,wy,fun b q=>by have:=(World.ownsRow.lt hr b q).2;omega,fun b q=>(World.ownsRow.lt ha b q).2,hb.size,fun b q e=>?_⟩,⟨_,_,hX.bl b2,fun b q=>by simp[Value.ownBlock]at q⟩,⟨_,_,hY.bl b2,fun b q=>by simp[Value.ownBlock]at q⟩,own_bl hr b2,ha,bl_next hb b2,Nat.le_refl _⟩;have h1:=(World.ownsRow.lt hr b q).2;have h2:=(World.ownsRow.lt ha b e).1;omega
theorem msg_cells {base g cap n k:Nat} {l:List MsgV} {x:MsgV} {w:World} (h:w.ownsRow base 48 13 (.slice (some ⟨g,0,none⟩) n cap) n (l.flatMap msgL)) (hx:l[k]? =some x) {j:Nat} {u:Value} (hj:(msgL x)[j]? =some u):w.cell? ⟨g,k*13+j,none⟩=some u:=by
 have hf:=flat_get msgL_len hx hj;have hlt:=(List.getElem?_eq_some_iff.1 hf).1;rw[h.1]at hlt;rw[World.ownsRow.cellAt h _ hlt];exact hf
theorem row_addr {base e sz n c:Nat} {a:Option Addr} {l:List Value} {w:World} (h:w.ownsRow base e sz (.slice a n c) n l) (h0:0<n): ∃ g,a=some ⟨g,0,none⟩:=by
 rcases h.2 with⟨q,q2⟩|⟨g,c',cur,q,-⟩
 · omega
 ·
  simp only[Value.slice.injEq]at q;exact⟨g,q.1⟩
end Go.Proofs.YtncbcmiflffakaaGreat
