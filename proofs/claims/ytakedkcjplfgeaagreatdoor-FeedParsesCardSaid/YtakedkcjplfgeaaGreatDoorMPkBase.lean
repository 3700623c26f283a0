/- Contracts, proved. Conditions: theirs. -/
import Derived.Test.YtakedkcjplfgeaaGreatDoorMPkPlain
import Derived.Deep.RegionHeld
import Derived.WalkSmall
import Derived.Lib.Hide
set_option maxRecDepth 1000000
set_option maxHeartbeats 32000000
namespace Go.Proofs.YtakedkcjplfgeaaGreatDoor
open Go.RowKit
instance:Coe Unit Value:=⟨fun _=>.slice none 0 0⟩
instance:Coe String Value:=⟨fun _=>.int .i64 0⟩
theorem ε{α:Type}(a:α): ∃ x,a=x:=⟨a,rfl⟩
theorem _root_.Go.RowKit.Hid.o{p:Prop}(h:Hid p):p:=h
theorem _root_.Go.Shut.o{p:Prop}(h:Shut p):p:=h
abbrev A:=Addr
abbrev Z:=Value
instance(b o:Nat):CoeDep (Nat×Nat) (b,o) Addr:=⟨⟨b,o,none⟩⟩
instance(b o:Nat):CoeDep (Nat×Nat) (b,o) Value:=⟨.pointer (some ⟨b,o,none⟩)⟩
instance(b o n c:Nat):CoeDep (Nat×Nat×Nat×Nat) (b,o,n,c) Value:=⟨.slice (some ⟨b,o,none⟩) n c⟩
instance:Coe Int Value:=⟨.int .i64⟩
instance:Coe Nat Value:=⟨fun n=> .int .i64 n⟩
instance:Coe Bool Value:=⟨.bool⟩
instance:Coe ByteArray Value:=⟨.string⟩
theorem κ{p:Prop}(h:p:=by kernel_rfl):p:=h
theorem ζ{p:Prop}(h:p:=by unfold maxLen;omega):p:=h
theorem π{p:Prop}(h:p:=by rw[U0];omega):p:=h
theorem qA {p:Prop} (h:p):Hid p:=Go.Lib.hid h
theorem Uw {α:Type} {i:Nat} {a:α} {l:List α}:l[i]?=some a<->∃ h:i<l.length,l[i]=a:=List.getElem?_eq_some_iff
theorem Ux {n m k:Nat}:n<=m->m<=k->n<=k:=Nat.le_trans
theorem Uy {w:World} (c:Array Value) (t:TypeId) (n i:Nat) (hn:n=w.heap.size):(w.alloc (Obj.cells c t)).cell? {block:=n,off:=i}=c[i]?:=World.cell?_alloc_at c t n i hn
theorem Uz {α:Type} {l:List α} {i:Nat} {a:α} (e:l[i]?=some a):a∈l:=List.mem_of_getElem? e
theorem U0 {α:Type} [BEq α] [LawfulBEq α] {a b:α}:(a==b)=false<->a≠b:=beq_eq_false_iff_ne
theorem U1 {α:Type} {x y:List α}:(x++y).length=x.length+y.length:=List.length_append
theorem U2 {α:Type} {l:List α} {i:Nat} (h:i<l.length):l[i]?=some l[i]:=List.getElem?_eq_getElem h
theorem U3 (n:Nat):n<=n:=Nat.le_refl n
theorem U4 {α β:Type} {x:List α} (f:α->β):(x.map f).length=x.length:=List.length_map f
theorem U5.{u} {c:Prop} {h:Decidable c} (hnc:¬c) {α:Sort u} {t e:α}:(if c then t else e)=e:=if_neg hnc
theorem U6.{u} {c:Prop} {h:Decidable c} (hc:c) {α:Sort u} {t e:α}:(if c then t else e)=t:=if_pos hc
theorem U7 {α:Type} {a:α} {x:List α}:(a::x).length=x.length+1:=List.length_cons
theorem U8 {w:World} {b:Nat} {cs:Array Value} {T:TypeId} (hb:w.heap[b]?=some (Obj.cells cs T)) (j:Nat):w.frozen? {block:=b,off:=j}=false:=Lib.frozen_of_heap hb j
theorem U9 {α:Type} {i:Nat} {l:List α} (h:l.length<=i):l.take i=l:=List.take_of_length_le h
theorem qAA {α:Type} (a b:α):(some a=some b)=(a=b):=Option.some.injEq a b
theorem qAB {α:Type} {a b:α}:some a=some b->a=b:=Option.some.inj
theorem qAD (n:Nat):0<=n:=Nat.zero_le n
theorem qAE {α β:Type} {a:α} {b:β} {c:α} {d:β}:(a,b)=(c,d)->a=c/\b=d:=Prod.mk.inj
theorem qAF {α β:Type} (a:α) (b:β) (c:α) (d:β):((a,b)=(c,d))=(a=c/\b=d):=Prod.mk.injEq a b c d
theorem qAG {w:World} {base:Nat} {e:TypeId} {size:Nat} {v:Value} {n:Nat} {xs:List Value} (h:w.ownsRow base e size v n xs) (k:Nat):v.ownBlock=some k->base<=k/\k<w.heap.size:=World.ownsRow.lt h k
abbrev Bl (w w':World):Prop:=Below w.heap.size w w'
theorem qB (w:World):Bl w w:=Below.refl _ _
theorem qE {a w:World} (h:Bl a w) (o:Obj):Bl a (w.alloc o):=h.alloc h.size o
theorem qH {a w:World} (h:Bl a w):Bl a w.drew:=Below.drew h
theorem qM {a w:World} (h:Bl a w) (n:Nat):Bl a (w.drewN n):=below_drewN h n
theorem qF {a b c:World} (h:Bl a b) (k:Bl b c):Bl a c:=h.trans (k.mono h.size)
theorem zF {a w:World} (h:Bl a w) {p:Addr} (hp:a.heap.size<=p.block) (u:Value):Bl a (w.setCell p u):=Below.setCell h hp u
theorem yT {a w:World} (h:Bl a w) (s:Φ) (pos:Nat):Bl a (w.iter s pos):=qE h _
theorem qG {W w1:World} (hb:Bl W w1):(∀ b o,b<W.heap.size->w1.cell? ⟨b,o,none⟩=W.cell? ⟨b,o,none⟩)/\(∀ b o,b<W.heap.size->w1.frozen? ⟨b,o,none⟩=W.frozen? ⟨b,o,none⟩):=
 ⟨λb o h=>hb.cell (p:=⟨b,o,none⟩) h,λb o h=>hb.frozen (p:=⟨b,o,none⟩) h⟩
def jA {α:Type} (cells:α->List Value) (sz:Nat) (B:Nat) (w:World) (v:Value) (xs:List α):Prop:=
 ∃ (a:Option Addr) (cap:Nat),v=.slice a xs.length cap/\xs.length<=cap/\cap<=maxLen/\
  (0<xs.length-> ∃ b o:Nat,a=some ((b,o):A)/\b<B/\ ∀ (i:Nat) (x:α),xs[i]? =some x-> ∀ (j:Nat) (u:Value),(cells x)[j]? =some u->w.cell? (b,o+i*sz+j)=some u)
section
variable {α:Type} {cells:α->List Value} {sz B:Nat} {w:World} {v:Value} {xs:List α}
theorem jA.below (h:jA cells sz B w v xs) {w':World} (hb:Below B w w'):jA cells sz B w' v xs:=by
 obtain⟨a,cap,hv,h1,h2,h3⟩:=h;refine⟨a,cap,hv,h1,h2,λh0=>?_⟩;obtain⟨b,o,ha,hbB,hc⟩:=h3 h0;refine⟨b,o,ha,hbB,λi x hx j u hu=>?_⟩;rw[hb.cell (p:=((b,o+i*sz+j):A)) hbB];exact hc i x hx j u hu
theorem jA.mono (h:jA cells sz B w v xs) {B':Nat} (hB:B<=B'):jA cells sz B' w v xs:=by
 obtain⟨a,cap,hv,h1,h2,h3⟩:=h;refine⟨a,cap,hv,h1,h2,λh0=>?_⟩;obtain⟨b,o,ha,hbB,hc⟩:=h3 h0;exact⟨b,o,ha,Nat.lt_of_lt_of_le hbB hB,hc⟩
theorem jA.bl (h:jA cells sz w.heap.size w v xs) {w':World} (hb:Bl w w'):jA cells sz w'.heap.size w' v xs:=(h.below hb).mono hb.size
theorem zJ:jA cells sz B w () []:=⟨none,0,rfl,U3 _,qAD _,λh=>absurd h (Nat.lt_irrefl 0)⟩
theorem XY {cells:α->List Value} {sz:Nat} (hsz: ∀ x,(cells x).length=sz) {xs:List α} {i j:Nat} {x:α} {u:Value} (hx:xs[i]? =some x) (hu:(cells x)[j]? =some u):(xs.flatMap cells)[i*sz+j]? =some u:=by
 induction xs generalizing i with
 |nil=>simp at hx
 |cons y ys ih=>
  rw[List.flatMap_cons];cases i with
  |zero=>
   simp only[List.getElem?_cons_zero,qAA]at hx;subst hx;have hj:j<(cells y).length:=(Uw.1 hu).1;rw[Nat.zero_mul,Nat.zero_add,List.getElem?_append_left hj];exact hu
  |succ i=>
   rw[List.getElem?_cons_succ]at hx;have e:(i+1)*sz+j=(cells y).length+(i*sz+j):=by rw[hsz,Nat.add_mul,Nat.one_mul];omega
   rw[e,List.getElem?_append_right ω,Nat.add_sub_cancel_left];exact ih hx
theorem zq {e:TypeId} {base:Nat} (hsz: ∀ x,(cells x).length=sz) (h:w.ownsRow base e sz v xs.length (xs.flatMap cells)):jA cells sz w.heap.size w v xs:=by
 have h':=h;rcases h.2 with⟨rfl,h0⟩|⟨g,cap,cur,rfl,hg,hb,hn,hc,hs,ht⟩
 · exact⟨none,0,by rw[h0],ω,qAD _,λk=>ω⟩
 have hlt:g<w.heap.size:=by
  rcases Nat.lt_or_ge g w.heap.size with k|k
  · exact k
  simp[Array.getElem?_eq_none k]at hb
 refine⟨some (g,0),cap,rfl,hn,hc,λ_=>⟨g,0,rfl,hlt,λi x hx j u hu=>?_⟩⟩;have:=World.ownsRow.cells h' rfl (i*sz+j) u (XY hsz hx hu);have e1:(((g,0):Addr).add (i*sz+j))=((g,0+i*sz+j):A):=by
  unfold Addr.add;split
  · rename_i k;rw[show 0+i*sz+j=0 by omega]
  rw[Nat.add_assoc]
 rw[e1]at this;exact this
theorem jA.open (h:jA cells sz B w v xs) (h0:0<xs.length): ∃ b o cap:Nat,v=((b,o,xs.length,cap):Z)/\xs.length<=cap/\cap<=9223372036854775807/\b<B/\ ∀ (i:Nat) (x:α),xs[i]? =some x-> ∀ (j:Nat) (u:Value),(cells x)[j]? =some u->w.cell? (b,o+i*sz+j)=some u:=by
 obtain⟨a,cap,rfl,h1,h2,h3⟩:=h;obtain⟨b,o,rfl,hb,hc⟩:=h3 h0;exact⟨b,o,cap,rfl,h1,by unfold maxLen at h2;omega,hb,hc⟩
theorem jA.empty (h:jA cells sz B w v xs) (h0:xs.length=0): ∃ (a:Option Addr) (cap:Nat),v=.slice a 0 cap/\cap<=9223372036854775807/\xs=[]:=by
 obtain⟨a,cap,rfl,h1,h2,h3⟩:=h;exact⟨a,cap,by rw[h0],by unfold maxLen at h2;omega,List.length_eq_zero_iff.1 h0⟩
theorem jA.at (h:jA cells sz B w v xs) {k:Nat} (hk:k<xs.length): ∃ (b o cap:Nat) (x:α),v=((b,o,xs.length,cap):Z)/\xs.length<=cap/\cap<=maxLen/\b<B/\xs[k]? =some x/\ ∀ (j:Nat) (u:Value),(cells x)[j]? =some u->w.cell? (b,o+k*sz+j)=some u:=by
 obtain⟨a,cap,rfl,h1,h2,h3⟩:=h;obtain⟨b,o,rfl,hb,hc⟩:=h3 ω;exact⟨b,o,cap,xs[k],rfl,h1,h2,hb,U2 hk,hc k _ (U2 hk)⟩
end
theorem Kt {W:World} {T:TypeId} {C:Array Value} (news:List Value) (g:Nat) (hg:g=W.heap.size) (h: ∀ (j:Nat) (u:Value),news[j]? =some u->C[j]? =some u): ∀ (j:Nat) (u:Value),news[j]? =some u->(W.alloc (.cells C T)).cell? (((g,0):Addr).add j)=some u:=by
 intro j u hj;subst hg;have:(((W.heap.size,0):Addr).add j)=((W.heap.size,j):A):=by simp[Addr.add];omega
 rw[this,Uy (hn:=rfl),h j u hj]
