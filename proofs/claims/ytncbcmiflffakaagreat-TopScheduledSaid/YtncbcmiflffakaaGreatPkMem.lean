/-
  What the laws of top need of TMem. Conditions: those of each lemma.
-/
import Derived.Test.YtncbcmiflffakaaGreatRows
import Derived.Test.YtncbcmiflffakaaGreatPkPl
import Derived.WalkKit
import Derived.WalkSmall
import Derived.Lib.Hide
import Derived.WalkSpells
import Derived.WalkLawsBesides
import Derived.Lib.SmallJoins
import Derived.Deep.QuietTactic
import Derived.BigQuiet
import Derived.Deep.RegionHeld3
import Derived.Deep.DeepCutAuto
import Derived.Lib.DecodeN
import Derived.Laws.RangeAny
import Derived.Maps.OwnSet
import Derived.Deep.AppendLies
import Derived.DeepKeys4
import Derived.Lib.Strings
import GoSem.Op.String
import Derived.Lib.IndexMore
set_option maxRecDepth 1000000
set_option maxHeartbeats 32000000
namespace Go.Proofs.YtncbcmiflffakaaGreat
open Go.RowKit
abbrev Bl (w w':World):Prop:=Below w.heap.size w w'
theorem bl_refl (w:World):Bl w w:=Below.refl _ _
theorem bl_alloc {a w:World} (h:Bl a w) (o:Obj):Bl a (w.alloc o):=h.alloc h.size o
theorem bl_drew {a w:World} (h:Bl a w):Bl a w.drew:=Below.drew h
theorem bl_drewN {a w:World} (h:Bl a w) (n:Nat):Bl a (w.drewN n):=below_drewN h n
theorem bl_next {a b c:World} (h:Bl a b) (k:Bl b c):Bl a c:=h.trans (k.mono h.size)
theorem bl_set {a w:World} (h:Bl a w) {p:Addr} (hp:a.heap.size≤p.block) (u:Value):Bl a (w.setCell p u):=Below.setCell h hp u
theorem bl_cell {W w1:World} (hb:Bl W w1):(∀ b o,b<W.heap.size→w1.cell? ⟨b,o,none⟩=W.cell? ⟨b,o,none⟩)∧(∀ b o,b<W.heap.size→w1.frozen? ⟨b,o,none⟩=W.frozen? ⟨b,o,none⟩):=
 ⟨fun b o h=>hb.cell (p:=⟨b,o,none⟩) h,fun b o h=>hb.frozen (p:=⟨b,o,none⟩) h⟩
end Go.Proofs.YtncbcmiflffakaaGreat
namespace Go.Proofs.YtncbcmiflffakaaGreat
open Go.RowKit
def SlIn {α:Type} (cells:α→List Value) (sz:Nat) (B:Nat) (w:World) (v:Value) (xs:List α):Prop:=
 ∃ (a:Option Addr) (cap:Nat),v= .slice a xs.length cap∧xs.length≤cap∧cap≤maxLen∧
  (0<xs.length→ ∃ b o:Nat,a=some ⟨b,o,none⟩∧b<B∧ ∀ (i:Nat) (x:α),xs[i]? =some x→ ∀ (j:Nat) (u:Value),(cells x)[j]? =some u→w.cell? ⟨b,o+i*sz+j,none⟩=some u)
section
variable {α:Type} {cells:α→List Value} {sz B:Nat} {w:World} {v:Value} {xs:List α}
theorem SlIn.below (h:SlIn cells sz B w v xs) {w':World} (hb:Below B w w'):SlIn cells sz B w' v xs:=by
 obtain⟨a,cap,hv,h1,h2,h3⟩:=h;refine⟨a,cap,hv,h1,h2,fun h0=>?_⟩;obtain⟨b,o,ha,hbB,hc⟩:=h3 h0;refine⟨b,o,ha,hbB,fun i x hx j u hu=>?_⟩;rw[hb.cell (p:=⟨b,o+i*sz+j,none⟩) hbB];exact hc i x hx j u hu
theorem SlIn.mono (h:SlIn cells sz B w v xs) {B':Nat} (hB:B≤B'):SlIn cells sz B' w v xs:=by
 obtain⟨a,cap,hv,h1,h2,h3⟩:=h;refine⟨a,cap,hv,h1,h2,fun h0=>?_⟩;obtain⟨b,o,ha,hbB,hc⟩:=h3 h0;exact⟨b,o,ha,Nat.lt_of_lt_of_le hbB hB,hc⟩
theorem SlIn.bl (h:SlIn cells sz w.heap.size w v xs) {w':World} (hb:Bl w w'):SlIn cells sz w'.heap.size w' v xs:=(h.below hb).mono hb.size
theorem SlIn.len (h:SlIn cells sz B w v xs):xs.length≤maxLen:=by
 obtain⟨a,cap,hv,h1,h2,h3⟩:=h;omega
theorem slIn_nil:SlIn cells sz B w (.slice none 0 0) []:=⟨none,0,rfl,Nat.le_refl _,Nat.zero_le _,fun h=>absurd h (Nat.lt_irrefl 0)⟩
theorem flat_get {cells:α→List Value} {sz:Nat} (hsz: ∀ x,(cells x).length=sz) {xs:List α} {i j:Nat} {x:α} {u:Value} (hx:xs[i]? =some x) (hu:(cells x)[j]? =some u):(xs.flatMap cells)[i*sz+j]? =some u:=by
 induction xs generalizing i with
 |nil=>simp at hx
 |cons y ys ih=>
  rw[List.flatMap_cons];cases i with
  |zero=>
   simp only[List.getElem?_cons_zero,Option.some.injEq]at hx;subst hx;have hj:j<(cells y).length:=(List.getElem?_eq_some_iff.1 hu).1;rw[Nat.zero_mul,Nat.zero_add,List.getElem?_append_left hj];exact hu
  |succ i=>
   rw[List.getElem?_cons_succ]at hx;have e:(i+1)*sz+j=(cells y).length+(i*sz+j):=by rw[hsz,Nat.add_mul,Nat.one_mul];omega
   rw[e,List.getElem?_append_right (by omega),Nat.add_sub_cancel_left];exact ih hx
theorem slIn_own {e:TypeId} {base:Nat} (hsz: ∀ x,(cells x).length=sz) (h:w.ownsRow base e sz v xs.length (xs.flatMap cells)):SlIn cells sz w.heap.size w v xs:=by
 have h':=h;rcases h.2 with⟨rfl,h0⟩|⟨g,cap,cur,rfl,hg,hb,hn,hc,hs,ht⟩
 · exact⟨none,0,by rw[h0],by omega,Nat.zero_le _,fun k=>by omega⟩
 ·
  have hlt:g<w.heap.size:=by
   rcases Nat.lt_or_ge g w.heap.size with k|k
   · exact k
   · simp[Array.getElem?_eq_none k]at hb
  refine⟨some ⟨g,0,none⟩,cap,rfl,hn,hc,fun _=>⟨g,0,rfl,hlt,fun i x hx j u hu=>?_⟩⟩;have:=World.ownsRow.cells h' rfl (i*sz+j) u (flat_get hsz hx hu);have e1:((⟨g,0,none⟩:Addr).add (i*sz+j))=⟨g,0+i*sz+j,none⟩:=by
   unfold Addr.add;split
   · rename_i k;rw[show 0+i*sz+j=0 by omega]
   · rw[Nat.add_assoc]
  rw[e1]at this;exact this
theorem SlIn.open (h:SlIn cells sz B w v xs) (h0:0<xs.length): ∃ b o cap:Nat,v= .slice (some ⟨b,o,none⟩) xs.length cap∧xs.length≤cap∧cap≤9223372036854775807∧b<B∧ ∀ (i:Nat) (x:α),xs[i]? =some x→ ∀ (j:Nat) (u:Value),(cells x)[j]? =some u→w.cell? ⟨b,o+i*sz+j,none⟩=some u:=by
 obtain⟨a,cap,rfl,h1,h2,h3⟩:=h;obtain⟨b,o,rfl,hb,hc⟩:=h3 h0;exact⟨b,o,cap,rfl,h1,by unfold maxLen at h2;omega,hb,hc⟩
theorem SlIn.empty (h:SlIn cells sz B w v xs) (h0:xs.length=0): ∃ (a:Option Addr) (cap:Nat),v= .slice a 0 cap∧cap≤9223372036854775807∧xs=[]:=by
 obtain⟨a,cap,rfl,h1,h2,h3⟩:=h;exact⟨a,cap,by rw[h0],by unfold maxLen at h2;omega,List.length_eq_zero_iff.1 h0⟩
theorem SlIn.at (h:SlIn cells sz B w v xs) {k:Nat} (hk:k<xs.length): ∃ (b o cap:Nat) (x:α),v= .slice (some ⟨b,o,none⟩) xs.length cap∧xs.length≤cap∧cap≤maxLen∧b<B∧xs[k]? =some x∧ ∀ (j:Nat) (u:Value),(cells x)[j]? =some u→w.cell? ⟨b,o+k*sz+j,none⟩=some u:=by
 obtain⟨a,cap,rfl,h1,h2,h3⟩:=h;obtain⟨b,o,rfl,hb,hc⟩:=h3 (by omega);exact⟨b,o,cap,xs[k],rfl,h1,h2,hb,List.getElem?_eq_getElem hk,hc k _ (List.getElem?_eq_getElem hk)⟩
end
theorem cells_new {W:World} {T:TypeId} {C:Array Value} (news:List Value) (g:Nat) (hg:g=W.heap.size) (h: ∀ (j:Nat) (u:Value),news[j]? =some u→C[j]? =some u): ∀ (j:Nat) (u:Value),news[j]? =some u→(W.alloc (.cells C T)).cell? ((⟨g,0,none⟩:Addr).add j)=some u:=by
 intro j u hj;subst hg;have:((⟨W.heap.size,0,none⟩:Addr).add j)=⟨W.heap.size,j,none⟩:=by simp[Addr.add];omega
 rw[this,World.cell?_alloc_at (hn:=rfl),h j u hj]
end Go.Proofs.YtncbcmiflffakaaGreat
namespace Go.Proofs.YtncbcmiflffakaaGreat
open Go.RowKit
open Frq Thr
def isInt (n:Int):Prop:= -9223372036854775808≤n∧n≤9223372036854775807
theorem ret_int {k:IntKind} {a b:Int} (h:a=b):Ending.returned (.int k a)= .returned (.int k b):=by rw[h]
theorem ret_bool {a b:Bool} (h:a=b):Ending.returned (.bool a)= .returned (.bool b):=by rw[h]
def callCells (c:CallD):List Value:=[.int .i64 c.stop, .int .i64 c.arrive, .int .i64 c.depart, .bool c.board, .bool c.alight]
theorem callCells_len (c:CallD):(callCells c).length=5:=rfl
abbrev CallsIn (B:Nat) (w:World) (v:Value) (cs:List CallD):Prop:=SlIn callCells 5 B w v cs
def okT (c:CallD):Prop:=isInt c.arrive∧isInt c.depart
theorem flat_snoc {α:Type} (cells:α→List Value) (l:List α) (x:α):(l++[x]).flatMap cells=l.flatMap cells++cells x:=by simp
theorem take_snoc_at {α:Type} {l:List α} {k:Nat} {x:α} (h:l[k]? =some x):l.take (k+1)=l.take k++[x]:=by
 obtain⟨hk,rfl⟩:=List.getElem?_eq_some_iff.1 h;rw[List.take_succ_eq_append_getElem hk]
def intCells (x:Int):List Value:=[.int .i64 x]
theorem intCells_len (x:Int):(intCells x).length=1:=rfl
abbrev IntsIn (B:Nat) (w:World) (v:Value) (xs:List Int):Prop:=SlIn intCells 1 B w v xs
def freqCells (f:FreqD):List Value:=[.int .i64 f.trip, .int .i64 f.frm, .int .i64 f.to, .int .i64 f.every]
theorem freqCells_len (f:FreqD):(freqCells f).length=4:=rfl
abbrev FreqsIn (B:Nat) (w:World) (v:Value) (fs:List FreqD):Prop:=SlIn freqCells 4 B w v fs
theorem any_take {α:Type} {p:α→Bool} {l:List α} {k:Nat} {x:α} (h:l[k]? =some x) (h1:(l.take k).any p=false):(l.take (k+1)).any p=p x:=by
 rw[take_snoc_at h,List.any_append,h1];simp
theorem any_yes {α:Type} {p:α→Bool} {l:List α} {k:Nat} {x:α} (h:l[k]? =some x) (h1:p x=true):l.any p=true:=List.any_eq_true.2 ⟨x,List.mem_of_getElem? h,h1⟩
structure TripD where
 id:ByteArray
 rt:Int
 cal:Int
 step:Bool
 v:Value
 calls:List CallD
def tripCells (t:TripD):List Value:=[.string t.id, .int .i64 t.rt, .int .i64 t.cal, .bool t.step,t.v]
theorem tripCells_len (t:TripD):(tripCells t).length=5:=rfl
structure TripRd (B:Nat) (w:World) (t:TripD):Prop where
 calls:CallsIn B w t.v t.calls
 ok: ∀ c∈t.calls,okT c
structure TripsRd (B:Nat) (w:World) (v:Value) (ts:List TripD):Prop where
 sl:SlIn tripCells 5 B w v ts
 ok: ∀ t∈ts,TripRd B w t
theorem TripRd.bl {B:Nat} {w w':World} {t:TripD} (h:TripRd B w t) (hb:Bl w w') (hB:B≤w.heap.size):TripRd B w' t:=⟨h.calls.below (hb.mono hB),h.ok⟩
theorem TripsRd.bl {B:Nat} {w w':World} {v:Value} {ts:List TripD} (h:TripsRd B w v ts) (hb:Bl w w') (hB:B≤w.heap.size):TripsRd B w' v ts:=
 ⟨h.sl.below (hb.mono hB),fun t ht=>(h.ok t ht).bl hb hB⟩
def thrCells (x:ThrD):List Value:=[.int .i64 x.frm, .int .i64 x.to]
theorem thrCells_len (x:ThrD):(thrCells x).length=2:=rfl
abbrev ThrIn (B:Nat) (w:World) (v:Value) (xs:List ThrD):Prop:=SlIn thrCells 2 B w v xs
def guaCells (x:GuaD):List Value:=[.int .i64 x.frm, .int .i64 x.to, .int .i64 x.stop]
theorem guaCells_len (x:GuaD):(guaCells x).length=3:=rfl
abbrev GuaIn (B:Nat) (w:World) (v:Value) (xs:List GuaD):Prop:=SlIn guaCells 3 B w v xs
section
variable {α:Type} {cells:α→List Value} {sz B:Nat} {w:World} {v:Value} {xs:List α}
theorem SlIn.val (h:SlIn cells sz B w v xs): ∃ (a:Option Addr) (cap:Nat),v= .slice a xs.length cap∧xs.length≤cap∧cap≤9223372036854775807:=by
 obtain⟨a,cap,rfl,h1,h2,-⟩:=h;exact⟨a,cap,rfl,h1,by unfold maxLen at h2;exact h2⟩
theorem SlIn.get {a:Option Addr} {n cap:Nat} (h:SlIn cells sz B w (.slice a n cap) xs) {k:Nat} (hk:k<xs.length) {w':World} (hb:Bl w w') (hB:B≤w.heap.size):
  ∃ (b o:Nat) (x:α),a=some ⟨b,o,none⟩∧b<w'.heap.size∧xs[k]? =some x∧ ∀ (j:Nat) (u:Value),(cells x)[j]? =some u→w'.cell? ⟨b,o+k*sz+j,none⟩=some u:=by
 obtain⟨b,o,cap',x,hv,-,-,hbB,hx,hc⟩:=h.at hk;simp only[Value.slice.injEq]at hv;have:=hb.size;exact⟨b,o,x,hv.1,by omega,hx,fun j u hu=>((bl_cell hb).1 _ _ (by omega)).trans (hc j u hu)⟩
theorem SlIn.take {a:Option Addr} {n cap:Nat} (h:SlIn cells sz B w (.slice a n cap) xs) {k:Nat} (hk:k≤xs.length):SlIn cells sz B w (.slice a k cap) (xs.take k):=by
 obtain⟨a',cap',hv,h1,h2,h3⟩:=h;simp only[Value.slice.injEq]at hv;obtain⟨rfl,-,rfl⟩:=hv;have hl:(xs.take k).length=k:=by rw[List.length_take];omega
 refine⟨a,cap,by rw[hl],by omega,h2,fun h0=>?_⟩;obtain⟨b,o,ha,hbB,hc⟩:=h3 (by omega);refine⟨b,o,ha,hbB,fun i x hx=>?_⟩;have hik:i<(xs.take k).length:=(List.getElem?_eq_some_iff.1 hx).1;rw[List.getElem?_take_of_lt (by omega)]at hx;exact hc i x hx
theorem SlIn.out (h:SlIn cells sz B w v xs) {w':World} (hb:Bl w w') (hB:B≤w.heap.size):SlIn cells sz B w' v xs:=h.below (hb.mono hB)
end
def trpOf (t:TripD):TrpD:=⟨t.cal,t.calls⟩
theorem atT_of {ts:List TripD} {k:Int} {t:TripD} (h:ts[k.toNat]? =some t):atT (ts.map trpOf) k=trpOf t:=by
 unfold atT;rw[List.getElem?_map,h];rfl
end Go.Proofs.YtncbcmiflffakaaGreat
namespace Go.Proofs.YtncbcmiflffakaaGreat
open Go.RowKit
open Fld
abbrev str (l:List UInt8):Value:= .string ⟨l.toArray⟩
theorem bytes_get (s:ByteArray) (k:Nat) (h:k<s.size):s.data.toList[k]'(by simpa using h)=s[k]'h:=by simp;rfl
theorem bytes_get? (s:ByteArray) (k:Nat) (h:k<s.size):s.data.toList[k]? =some (s[k]'h):=by rw[List.getElem?_eq_getElem (by simpa using h),bytes_get s k h]
end Go.Proofs.YtncbcmiflffakaaGreat
namespace Go.Proofs.YtncbcmiflffakaaGreat
open Go.RowKit
open Frq Thr Tt
def stopCells (x:StopD):List Value:=[str x.id, .int .i64 x.zone, .bool x.free, .int .i64 x.change]
theorem stopCells_len (x:StopD):(stopCells x).length=4:=rfl
def routeCells (x:RouteD):List Value:=[str x.id, .int .i64 x.mode, .bool x.bikes]
theorem routeCells_len (x:RouteD):(routeCells x).length=3:=rfl
def calCells (x:CalD):List Value:=[str x.id, .bool x.week.d0, .bool x.week.d1, .bool x.week.d2, .bool x.week.d3, .bool x.week.d4, .bool x.week.d5, .bool x.week.d6, .int .i64 x.frm, .int .i64 x.to]
theorem calCells_len (x:CalD):(calCells x).length=10:=rfl
def excCells (x:ExcD):List Value:=[.int .i64 x.cal, .int .i64 x.day, .bool x.added]
theorem excCells_len (x:ExcD):(excCells x).length=3:=rfl
def pathCells (x:PathD):List Value:=[.int .i64 x.frm, .int .i64 x.to, .int .i64 x.secs, .bool x.free]
theorem pathCells_len (x:PathD):(pathCells x).length=4:=rfl
def prodCells (x:ProdD):List Value:=[str x.id, .int .i64 x.price, .int .i64 x.rides, .int .i64 x.zones, .int .i64 x.secs, .int .i64 x.modes]
theorem prodCells_len (x:ProdD):(prodCells x).length=6:=rfl
def xOf (t:TripD):TripX:=⟨t.id.data.toList,t.rt,t.cal,t.step,t.calls⟩
structure TtV where
 stops:Value
 routes:Value
 cals:Value
 excs:Value
 trips:Value
 freqs:Value
 thrus:Value
 guars:Value
 paths:Value
 prods:Value
def fareV (p:Value) (f:FareD):Value:= .agg #[p, .int .i64 f.disc, .int .i64 f.within, .int .i64 f.cap]
def ttV (V:TtV) (t:TtD):Value:= .agg #[V.stops,V.routes,V.cals,V.excs,V.trips,V.freqs,V.thrus,V.guars,V.paths,V.prods, .int .i64 t.fares.disc, .int .i64 t.fares.within, .int .i64 t.fares.cap]
structure TtRd (B:Nat) (w:World) (V:TtV) (ts:List TripD) (t:TtD):Prop where
 stops:SlIn stopCells 4 B w V.stops t.stops
 routes:SlIn routeCells 3 B w V.routes t.routes
 cals:SlIn calCells 10 B w V.cals t.cals
 excs:SlIn excCells 3 B w V.excs t.excs
 trips:TripsRd B w V.trips ts
 same:t.trips=ts.map xOf
 freqs:SlIn freqCells 4 B w V.freqs (t.freqs.map freqOf)
 thrus:SlIn thrCells 2 B w V.thrus (t.thrus.map thruOf)
 guars:SlIn guaCells 3 B w V.guars t.guars
 paths:SlIn pathCells 4 B w V.paths t.paths
 prods:SlIn prodCells 6 B w V.prods t.fares.prods
end Go.Proofs.YtncbcmiflffakaaGreat
namespace Go.Proofs.YtncbcmiflffakaaGreat
open Go.RowKit Go.Maps Go.MapKept
open Go.Maps (Keyed)
def OwnsSet (w:World) (P:Program) (k e:TypeId) (b n:Nat) (S:Lit→Bool):Prop:=
 ∃ D:DataW Unit,w.ownsMap P k (plainElem P e) b n D∧IsMap D∧ ∀ kl,WideAt.IsKeyLit kl→D.atKey kl (.lit (.bool false))= .lit (.bool (S kl))
def setPut (S:Lit→Bool) (kl:Lit):Lit→Bool:=fun l=>l.sameKey kl||S l
theorem setPut_at (S:Lit→Bool) {kl:Lit} (h:WideAt.IsKeyLit kl):setPut S kl kl=true:=by unfold setPut;rw[WideAt.sameKey_self h];rfl
theorem setPut_ne {S:Lit→Bool} {kl l:Lit} (h:l≠kl):setPut S kl l=S l:=by unfold setPut;rw[Maps.sameKey_ne h];rfl
theorem plainElem_bool_inv {P:Program} {e:TypeId} (he:P.underlying e=some .bool) {v:Value} {z:DataW Unit×List MemPlace} (h:plainElem P e v=some z): ∃ c,v= .bool c∧z=(.lit (.bool c),[]):=by
 unfold plainElem at h;rw[he]at h;cases v<;>simp at h
 exact⟨_,rfl,h.symm⟩
section
variable {P:Program} {k e t:TypeId} {w:World} {b n:Nat} {S:Lit→Bool}
theorem ownsSet_made (w:World) (P:Program) (k e:TypeId):OwnsSet (w.alloc (.map #[] 0)) P k e w.heap.size 0 (fun _=>false):=
 ⟨.map [],World.ownsMap_made _ _ _ _,isMap_empty,fun _ _=>rfl⟩
theorem OwnsSet.lt (h:OwnsSet w P k e b n S):b<w.heap.size:=by obtain⟨D,h,-⟩:=h;exact h.lt
theorem OwnsSet.kept {w':World} (h:OwnsSet w P k e b n S) (hb:w'.heap[b]? =w.heap[b]?):OwnsSet w' P k e b n S:=by
 obtain⟨D,⟨es,clock,h1,h2⟩,h3⟩:=h;exact⟨D,⟨es,clock,hb.trans h1,h2⟩,h3⟩
theorem OwnsSet.bl {w':World} (h:OwnsSet w P k e b n S) (hb:Bl w w'):OwnsSet w' P k e b n S:=h.kept (hb.block b h.lt)
theorem OwnsSet.grown {w':World} {row:Option Nat} (h:OwnsSet w P k e b n S) (hg:w.grownBy w' row) (hne:some b≠row):OwnsSet w' P k e b n S:=by
 obtain⟨D,h1,h2⟩:=h;exact⟨D,h1.kept hg hne,h2⟩
theorem OwnsSet.mono (h:OwnsSet w P k e b n S) {n':Nat} (hn:n≤n'):OwnsSet w P k e b n' S:=by
 obtain⟨D,h1,h2⟩:=h;exact⟨D,h1.mono hn,h2⟩
theorem OwnsSet.congr (h:OwnsSet w P k e b n S) {S':Lit→Bool} (hS: ∀ l,WideAt.IsKeyLit l→S l=S' l):OwnsSet w P k e b n S':=by
 obtain⟨D,h1,h2,h3⟩:=h;exact⟨D,h1,h2,fun kl hk=>by rw[h3 kl hk,hS kl hk]⟩
theorem OwnsSet.look (h:OwnsSet w P k e b n S) (K:Keyed P k) (ht:P.underlying t=some (.map k e)) (he:P.underlying e=some .bool) (hz:(zeroValue e).run P w= .ok (.bool false) w) {key:Value} {kl:Lit} (hkey:keyOf P k key=some kl):
  (Instr.lookup t (.map (some b)) key false).run P w= .ok (.bool (S kl)) w:=by
 obtain⟨D,h1,h2,h3⟩:=h;obtain⟨v,ps,hrun,hv⟩:=h1.lookup K ht hz (plainElem_bool he false) hkey;obtain⟨c,rfl,hc⟩:=plainElem_bool_inv he hv;rw[h3 kl (K.key hkey)]at hc;simp only[Prod.mk.injEq,DataW.lit.injEq,Lit.bool.injEq]at hc;rw[hc.1];exact hrun
theorem OwnsSet.put (h:OwnsSet w P k e b n S) (K:Keyed P k) (ht:P.underlying t=some (.map k e)) (he:P.underlying e=some .bool) (hn:n<maxLen) {key:Value} {kl:Lit} (hkey:keyOf P k key=some kl):
  ∃ w',(Instr.mapUpdate t (.map (some b)) key (.bool true)).run P w= .ok () w'∧OwnsSet w' P k e b (n+1) (setPut S kl)∧w.grownBy w' (some b):=by
 obtain⟨D,h1,h2,h3⟩:=h;obtain⟨w',hrun,r1,r2⟩:=h1.update K ht hn hkey (plainElem_bool he true);refine⟨w',hrun,⟨_,r1,h2.put _ _,fun l hl=>?_⟩,r2⟩;by_cases hlk:l=kl
 · rw[hlk,atKey_put_same h2 (K.key hkey),setPut_at S (K.key hkey)]
 · rw[atKey_put_other hlk,h3 l hl,setPut_ne hlk]
end
end Go.Proofs.YtncbcmiflffakaaGreat
namespace Go.Proofs.YtncbcmiflffakaaGreat
open Go.RowKit Go.Maps Go.MapKept
open Go.Maps (Keyed)
open Tt
theorem wf_int {x:Int} (h:isInt x):(Lit.int .i64 x).wf=true:=by
 unfold isInt at h;exact WalkArith.wf_i64 (by omega)
theorem str_law:Keyed Tryz.prog 9:=Go.Maps.string_keyed Tryz.underlying9
theorem key_str {x:List UInt8} (h:x.length≤9223372036854775807):keyOf Tryz.prog 9 (str x)=some (.string x):=by
 have h':(⟨x.toArray⟩:ByteArray).size≤maxLen:=by show x.toArray.size≤_;rw[List.size_toArray];unfold maxLen;omega
 simp[keyOf,Tryz.underlying9,mapKey,h']
abbrev StrSet (w:World) (b n:Nat) (S:Lit→Bool):Prop:=OwnsSet w Tryz.prog 9 4 b n S
def WordSet (l:List (List UInt8)) (S:Lit→Bool):Prop:= ∀ x:List UInt8,S (.string x)=l.any fun y=>y==x
theorem wordSet_nil:WordSet [] (fun _=>false):=fun _=>rfl
theorem setPut_str (S:Lit→Bool) (a x:List UInt8):setPut S (.string a) (.string x)=(S (.string x)||(a==x)):=by
 by_cases h:x=a
 · rw[h,setPut_at _ (by trivial)];simp
 · rw[setPut_ne (by simpa using h),show(a==x)=false by rw[beq_eq_false_iff_ne];exact fun e=>h e.symm,Bool.or_false]
theorem WordSet.snoc {l:List (List UInt8)} {S:Lit→Bool} (h:WordSet l S) (a:List UInt8):WordSet (l++[a]) (setPut S (.string a)):=fun x=>by
 rw[setPut_str,h x,List.any_append];simp
structure IdxD (D:DataW Unit) (ids:List (List UInt8)):Prop where
 map:IsMap D
 has: ∀ x:List UInt8,Maps.has D (.string x)=(idxOf x ids).isSome
 at': ∀ x:List UInt8,D.atKey (.string x) (.lit (.int .i64 0))= .lit (.int .i64 (((idxOf x ids).getD 0:Nat):Int))
theorem idxOf_cons (x y:List UInt8) (l:List (List UInt8)):idxOf x (y::l)=if y=x then some 0 else(idxOf x l).map (· +1):=rfl
theorem idxOf_app (x:List UInt8): ∀ (l m:List (List UInt8)),idxOf x (l++m)=match idxOf x l with
  |some i=>some i
  |none=>(idxOf x m).map (· +l.length)
 |[],m=>by
  show idxOf x m=(idxOf x m).map (· +0)
  cases idxOf x m<;>rfl
 |y::l,m=>by
  rw[List.cons_append,idxOf_cons,idxOf_cons];split
  · rfl
  ·
   rw[idxOf_app x l m];cases idxOf x l with
   |some i=>rfl
   |none=>
    cases idxOf x m with
    |none=>rfl
    |some j=>rfl
theorem IdxD.old {D:DataW Unit} {ids:List (List UInt8)} (h:IdxD D ids) {a:List UInt8} {i:Nat} (ha:idxOf a ids=some i):IdxD D (ids++[a]):=by
 have e: ∀ x,idxOf x (ids++[a])=idxOf x ids:=fun x=>by
  rw[idxOf_app];cases hx:idxOf x ids with
  |some j=>rfl
  |none=>
   have hne:a≠x:=fun e=>by rw[←e,ha]at hx;cases hx
   simp only[idxOf];rw[if_neg hne];rfl
 exact⟨h.map,fun x=>by rw[e,h.has x],fun x=>by rw[e,h.at' x]⟩
theorem IdxD.new {D:DataW Unit} {ids:List (List UInt8)} (h:IdxD D ids) {a:List UInt8} (ha:idxOf a ids=none):IdxD (D.put (.string a) (.lit (.int .i64 (ids.length:Int)))) (ids++[a]):=by
 have e: ∀ x,x≠a→idxOf x (ids++[a])=idxOf x ids:=fun x hx=>by
  rw[idxOf_app];cases hx':idxOf x ids with
  |some j=>rfl
  |none=>
   simp only[idxOf];rw[if_neg (fun e=>hx e.symm)];rfl
 have e2:idxOf a (ids++[a])=some ids.length:=by
  rw[idxOf_app,ha];simp[idxOf]
 refine⟨h.map.put _ _,fun x=>?_,fun x=>?_⟩
 ·
  by_cases hx:x=a
  · rw[hx,has_put_same h.map (by trivial),e2];rfl
  · rw[has_put_other (by simpa using hx),e x hx,h.has x]
 ·
  by_cases hx:x=a
  · rw[hx,atKey_put_same h.map (by trivial),e2];rfl
  · rw[atKey_put_other (by simpa using hx),e x hx,h.at' x]
def OwnsIdx (w:World) (b n:Nat) (ids:List (List UInt8)):Prop:= ∃ D:DataW Unit,w.ownsMap Tryz.prog 9 (plainElem Tryz.prog 3) b n D∧IdxD D ids
theorem OwnsIdx.lt {w:World} {b n:Nat} {ids:List (List UInt8)} (h:OwnsIdx w b n ids):b<w.heap.size:=by obtain⟨D,h,-⟩:=h;exact h.lt
theorem OwnsIdx.grown {w w':World} {b n:Nat} {ids:List (List UInt8)} {row:Option Nat} (h:OwnsIdx w b n ids) (hg:w.grownBy w' row) (hne:some b≠row):OwnsIdx w' b n ids:=by
 obtain⟨D,h1,h2⟩:=h;exact⟨D,h1.kept hg hne,h2⟩
theorem OwnsIdx.old {w:World} {b n:Nat} {ids:List (List UInt8)} (h:OwnsIdx w b n ids) {a:List UInt8} {i:Nat} (ha:idxOf a ids=some i):OwnsIdx w b (n+1) (ids++[a]):=by
 obtain⟨D,h1,h2⟩:=h;exact⟨D,h1.mono (by omega),h2.old ha⟩
end Go.Proofs.YtncbcmiflffakaaGreat
namespace Go.Proofs.YtncbcmiflffakaaGreat
open Go.RowKit
open Frq Thr Tt
def upd (vs:Nat→Value) (k:Nat) (v:Value):Nat→Value:=fun i=>if i=k then v else vs i
theorem upd_at (vs:Nat→Value) (k:Nat) (v:Value):upd vs k v k=v:=if_pos rfl
theorem upd_ne (vs:Nat→Value) {k i:Nat} (h:i≠k) (v:Value):upd vs k v i=vs i:=if_neg h
structure Slot where
 ty:TypeId
 sz:Nat
 n:Nat
 cells:List Value
def lineAt (s:St) (j:Nat):List Int:=s.lines.getD j []
def slot (s:St) (ts:List TripD):Nat→Slot
 |0=>⟨91,4,s.t.stops.length,s.t.stops.flatMap stopCells⟩
 |1=>⟨93,3,s.t.routes.length,s.t.routes.flatMap routeCells⟩
 |2=>⟨114,10,s.t.cals.length,s.t.cals.flatMap calCells⟩
 |3=>⟨120,3,s.t.excs.length,s.t.excs.flatMap excCells⟩
 |4=>⟨63,5,ts.length,ts.flatMap tripCells⟩
 |5=>⟨124,4,s.t.freqs.length,(s.t.freqs.map freqOf).flatMap freqCells⟩
 |6=>⟨130,2,s.t.thrus.length,(s.t.thrus.map thruOf).flatMap thrCells⟩
 |7=>⟨137,3,s.t.guars.length,s.t.guars.flatMap guaCells⟩
 |8=>⟨97,4,s.t.paths.length,s.t.paths.flatMap pathCells⟩
 |9=>⟨142,6,s.t.fares.prods.length,s.t.fares.prods.flatMap prodCells⟩
 |k=>⟨3,1,(lineAt s (k-10)).length,(lineAt s (k-10)).flatMap intCells⟩
def OwnK (B:Nat) (S:Slot) (v:Value) (w:World):Prop:=w.ownsRow B S.ty S.sz v S.n S.cells
def OwnC (B:Nat) (v:Value) (cs:List CallD) (w:World):Prop:=w.ownsRow B 68 5 v cs.length (cs.flatMap callCells)
structure PartsM (M B:Nat) (w:World) (vs:Nat→Value) (ts:List TripD) (mb own:Nat→Nat) (s:St) (ids:Nat→List (List UInt8)):Prop where
 same:s.t.trips=ts.map xOf
 lines:s.lines.length=10
 row: ∀ k,k<20→OwnK B (slot s ts k) (vs k) w
 lab: ∀ k,k<20→ ∀ b,(vs k).ownBlock=some b→own b=k
 calls: ∀ (i:Nat) (x:TripD),ts[i]? =some x→OwnC B x.v x.calls w
 ok: ∀ x∈ts,∀ c∈x.calls,okT c
 labc: ∀ (i:Nat) (x:TripD),ts[i]? =some x→ ∀ b,x.v.ownBlock=some b→own b=100+i
 maps: ∀ j,j<M→OwnsIdx w (mb j) (ids j).length (ids j)
 labm: ∀ j,j<M→own (mb j)=50+j∧B≤mb j
 four:M≤4
structure Mv (own:Nat→Nat) (w:World) (own':Nat→Nat) (w':World):Prop where
 os:w'.os=w.os
 tape:w'.tape=w.tape
 output:w'.output=w.output
 size:w.heap.size≤w'.heap.size
 lab: ∀ b,b<w.heap.size→own' b=own b
 block: ∀ b,b<w.heap.size→own b=97∨own b=98→w'.heap[b]? =w.heap[b]?
theorem Mv.refl (own:Nat→Nat) (w:World):Mv own w own w:=⟨rfl,rfl,rfl,Nat.le_refl _,fun _ _=>rfl,fun _ _ _=>rfl⟩
theorem Mv.trans {o1 o2 o3:Nat→Nat} {a b c:World} (h:Mv o1 a o2 b) (k:Mv o2 b o3 c):Mv o1 a o3 c:=
 ⟨k.os.trans h.os,k.tape.trans h.tape,k.output.trans h.output,Nat.le_trans h.size k.size,fun i hi=>(k.lab i (Nat.lt_of_lt_of_le hi h.size)).trans (h.lab i hi),fun i hi hl=>(k.block i (Nat.lt_of_lt_of_le hi h.size) (by rw[h.lab i hi];exact hl)).trans (h.block i hi hl)⟩
theorem Mv.grown {own:Nat→Nat} {w w':World} {row:Option Nat} (hg:w.grownBy w' row) (hr: ∀ b,row=some b→own b≠97∧own b≠98):Mv own w own w':=
 ⟨hg.os,hg.tape,hg.output,hg.size,fun _ _=>rfl,fun b hb hl=>hg.block b hb (fun e=>by have:=hr b e.symm;omega)⟩
theorem ownK_kept {B:Nat} {S:Slot} {v:Value} {w w':World} {row:Option Nat} (h:OwnK B S v w) (hg:w.grownBy w' row) (hne: ∀ b,v.ownBlock=some b→row≠some b):OwnK B S v w':=by
 refine World.ownsRow.kept h hg ?_;cases hv:v.ownBlock with
 |none=>exact .inl rfl
 |some k=>exact .inr (fun e=>hne k hv e.symm)
theorem ownC_kept' {B:Nat} {cs:List CallD} {v:Value} {w w':World} {row:Option Nat} (h:OwnC B v cs w) (hg:w.grownBy w' row) (hne: ∀ b,v.ownBlock=some b→row≠some b):OwnC B v cs w':=by
 refine World.ownsRow.kept h hg ?_;cases hv:v.ownBlock with
 |none=>exact .inl rfl
 |some k=>exact .inr (fun e=>hne k hv e.symm)
section
variable {M B:Nat} {w w':World} {vs:Nat→Value} {ts:List TripD} {mb own:Nat→Nat} {s:St} {ids:Nat→List (List UInt8)}
theorem PartsM.kept {row:Option Nat} (h:PartsM M B w vs ts mb own s ids) (hg:w.grownBy w' row) (hr: ∀ b,row=some b→97≤own b∧own b≤99):PartsM M B w' vs ts mb own s ids where
 same:=h.same
 lines:=h.lines
 row k hk:=ownK_kept (h.row k hk) hg (fun b hb e=>by have:=h.lab k hk b hb;have:=hr b e;omega)
 lab:=h.lab
 calls i x hx:=ownC_kept' (h.calls i x hx) hg (fun b hb e=>by have:=h.labc i x hx b hb;have:=hr b e;omega)
 ok:=h.ok
 labc:=h.labc
 maps j hj:=(h.maps j hj).grown hg (fun e=>by have:=(h.labm j hj).1;have h4:=h.four;have:=hr _ e.symm;omega)
 labm:=h.labm
 four:=h.four
def lab1 (own:Nat→Nat) (g k:Nat):Nat→Nat:=fun b=>if b=g then k else own b
theorem lab1_at (own:Nat→Nat) (g k:Nat):lab1 own g k g=k:=if_pos rfl
theorem lab1_ne (own:Nat→Nat) {g b:Nat} (h:b≠g) (k:Nat):lab1 own g k b=own b:=if_neg h
theorem lab_grown {v:Value} {g k b:Nat} (hg:v.ownBlock=some g∨g=w.heap.size) (hl: ∀ b,v.ownBlock=some b→own b=k) (hb:b<w.heap.size):lab1 own g k b=own b:=by
 by_cases e:b=g
 ·
  rcases hg with hg|hg
  · rw[e,lab1_at,hl g hg]
  · omega
 · exact lab1_ne own e k
theorem flat_set (pre:List TripD) (x:TripD) (v':Value) (cs:List CallD):((pre++[x]).flatMap tripCells).set (pre.length*5+4) v'=(pre++[{ x with v:=v',calls:=cs }]).flatMap tripCells:=by
 induction pre with
 |nil=>rfl
 |cons y ys ih=>
  rw[List.cons_append,List.cons_append,List.flatMap_cons,List.flatMap_cons,←ih,List.length_cons,List.set_append_right _ _ (by rw[tripCells_len];omega),tripCells_len,show(ys.length+1)*5+4-5=ys.length*5+4 by omega]
theorem PartsM.call {w1:World} {pre:List TripD} {x:TripD} {c:CallD} {v':Value} {gg cap gb cap4:Nat} {s':St} (h:PartsM M B w vs (pre++[x]) mb own s ids) (hv4:vs 4= .slice (some ⟨gb,0,none⟩) (pre++[x]).length cap4)
  (hg:w.grownBy w1 x.v.ownBlock) (ho:OwnC B v' (x.calls++[c]) w1) (hv:v'= .slice (some ⟨gg,0,none⟩) (x.calls.length+1) cap) (hgg:x.v.ownBlock=some gg∨gg=w.heap.size) (hc:okT c)
  (hs:s'.t.trips=(pre++[{ x with v:=v',calls:=x.calls++[c] }]).map xOf) (hlines:s'.lines=s.lines) (hslot: ∀ i,i<20→i≠4→slot s' (pre++[{ x with v:=v',calls:=x.calls++[c] }]) i=slot s (pre++[x]) i):
  PartsM M B (w1.setCell ⟨gb,pre.length*5+4,none⟩ v') vs (pre++[{ x with v:=v',calls:=x.calls++[c] }]) mb (lab1 own gg (100+pre.length)) s' ids:=by
 have hx0:(pre++[x])[pre.length]? =some x:=by simp
 have hlx: ∀ b,x.v.ownBlock=some b→own b=100+pre.length:=h.labc _ x hx0;have hl4:own gb=4:=h.lab 4 (by omega) gb (by rw[hv4];rfl);have r4:OwnK B (slot s (pre++[x]) 4) (vs 4) w1:=ownK_kept (h.row 4 (by omega)) hg (fun b hb e=>by have h1:=h.lab 4 (by omega) b hb;have h2:=hlx b e;omega);rw[hv4]at r4;obtain⟨r4',hg2⟩:=World.ownsRow.stored r4 (pre.length*5+4) v';have hgb:gb<w.heap.size:=(World.ownsRow.lt (h.row 4 (by omega)) gb (by rw[hv4];rfl)).2;have hlab: ∀ b,b<w.heap.size→lab1 own gg (100+pre.length) b=own b:=fun b hb=>lab_grown hgg hlx hb
 refine⟨hs,by rw[hlines];exact h.lines,fun i hi=>?_,fun i hi b hb=>?_,fun i y hy=>?_,fun y hy d hd=>?_,fun i y hy b hb=>?_,fun j hj=>?_,fun j hj=>?_,h.four⟩
 ·
  by_cases e:i=4
  ·
   rw[e,hv4];have e2:slot s' (pre++[{ x with v:=v',calls:=x.calls++[c] }]) 4=⟨63,5,(pre++[x]).length,(pre++[{ x with v:=v',calls:=x.calls++[c] }]).flatMap tripCells⟩:=by
    show(⟨_,_,_,_⟩:Slot)=_
    rw[List.length_append,List.length_append];rfl
   rw[e2];unfold OwnK;rw[←flat_set pre x v' (x.calls++[c])];exact r4'
  ·
   rw[hslot i hi e];have k1:=ownK_kept (h.row i hi) hg (fun b hb e2=>by have h1:=h.lab i hi b hb;have h2:=hlx b e2;omega);exact ownK_kept k1 hg2 (fun b hb e2=>by have h1:=h.lab i hi b hb;simp only[Option.some.injEq]at e2;rw[←e2]at h1;omega)
 ·
  rw[hlab b (World.ownsRow.lt (h.row i hi) b hb).2];exact h.lab i hi b hb
 ·
  by_cases e:i=pre.length
  ·
   rw[e]at hy;have hy':y={ x with v:=v',calls:=x.calls++[c] }:=by simpa using hy.symm
   rw[hy'];refine ownC_kept' ho hg2 (fun b hb e2=>?_);simp only[hv,Value.ownBlock,Option.some.injEq]at hb e2;rw[←hb]at e2;rcases hgg with k|k
   · have:=hlx gg k;rw[←e2]at this;omega
   · omega
  ·
   have hi:i<pre.length:=by
    have:=(List.getElem?_eq_some_iff.1 hy).1;simp at this
    omega
   rw[List.getElem?_append_left hi]at hy;have hy2:(pre++[x])[i]? =some y:=by rw[List.getElem?_append_left hi];exact hy
   have k1:=ownC_kept' (h.calls i y hy2) hg (fun b hb e2=>by have h1:=h.labc i y hy2 b hb;have h2:=hlx b e2;omega);exact ownC_kept' k1 hg2 (fun b hb e2=>by have h1:=h.labc i y hy2 b hb;simp only[Option.some.injEq]at e2;rw[←e2]at h1;omega)
 ·
  rcases List.mem_append.1 hy with hy|hy
  · exact h.ok y (List.mem_append_left _ hy) d hd
  ·
   rw[List.mem_singleton.1 hy]at hd;rcases List.mem_append.1 hd with hd|hd
   · exact h.ok x (by simp) d hd
   · rw[List.mem_singleton.1 hd];exact hc
 ·
  by_cases e:i=pre.length
  ·
   rw[e]at hy;have hy':y={ x with v:=v',calls:=x.calls++[c] }:=by simpa using hy.symm
   rw[hy',hv]at hb;simp only[Value.ownBlock,Option.some.injEq]at hb;rw[←hb,lab1_at,e]
  ·
   have hi:i<pre.length:=by
    have:=(List.getElem?_eq_some_iff.1 hy).1;simp at this
    omega
   rw[List.getElem?_append_left hi]at hy;have hy2:(pre++[x])[i]? =some y:=by rw[List.getElem?_append_left hi];exact hy
   rw[hlab b (World.ownsRow.lt (h.calls i y hy2) b hb).2];exact h.labc i y hy2 b hb
 ·
  have k1:=(h.maps j hj).grown hg (fun e=>by have h1:=(h.labm j hj).1;have h4:=h.four;have h2:=hlx _ e.symm;omega);exact k1.grown hg2 (fun e=>by have h1:=(h.labm j hj).1;have h4:=h.four;simp only[Option.some.injEq]at e;rw[e]at h1;omega)
 ·
  rw[hlab _ (h.maps j hj).lt];exact h.labm j hj
theorem PartsM.trip {g cap:Nat} {x:TripD} {s':St} {v':Value} (h:PartsM M B w vs ts mb own s ids) (hx:x.v= .slice none 0 0) (hxc:x.calls=[]) (hg:w.grownBy w' (vs 4).ownBlock) (hv:v'= .slice (some ⟨g,0,none⟩) (ts.length+1) cap) (ho:w'.ownsRow B 63 5 v' (ts.length+1) (ts.flatMap tripCells++tripCells x)) (hgg:(vs 4).ownBlock=some g∨g=w.heap.size)
  (hsame:s'.t.trips=(ts++[x]).map xOf) (hlines:s'.lines.length=10) (hslot: ∀ i,i<20→i≠4→slot s' (ts++[x]) i=slot s ts i):PartsM M B w' (upd vs 4 v') (ts++[x]) mb (lab1 own g 4) s' ids where
 same:=hsame
 lines:=hlines
 row i hi:=by
  by_cases e:i=4
  ·
   rw[e,upd_at];show w'.ownsRow B 63 5 v' (ts++[x]).length ((ts++[x]).flatMap tripCells)
   rw[List.length_append,List.flatMap_append];simpa using ho
  ·
   rw[upd_ne vs e,hslot i hi e];exact ownK_kept (h.row i hi) hg (fun b hb e2=>by have h1:=h.lab i hi b hb;have h2:=h.lab 4 (by omega) b e2;omega)
 lab i hi b hb:=by
  by_cases e:i=4
  ·
   rw[e,upd_at,hv]at hb;simp only[Value.ownBlock,Option.some.injEq]at hb;rw[←hb,e,lab1_at]
  ·
   rw[upd_ne vs e]at hb;rw[lab_grown hgg (h.lab 4 (by omega)) ((World.ownsRow.lt (h.row i hi) b hb).2)];exact h.lab i hi b hb
 calls i y hy:=by
  rcases Nat.lt_or_ge i ts.length with hi|hi
  ·
   rw[List.getElem?_append_left hi]at hy;exact ownC_kept' (h.calls i y hy) hg (fun b hb e=>by have h1:=h.labc i y hy b hb;have h2:=h.lab 4 (by omega) b e;omega)
  ·
   have hy':y=x:=by
    have hl:=(List.getElem?_eq_some_iff.1 hy).1;simp only[List.length_append,List.length_cons,List.length_nil]at hl;obtain rfl:i=ts.length:=by omega
    simpa using hy.symm
   rw[hy',hx,hxc];exact World.ownsRow_nil w' B _ 5
 ok y hy d hd:=by
  rcases List.mem_append.1 hy with hy|hy
  · exact h.ok y hy d hd
  ·
   rw[List.mem_singleton.1 hy,hxc]at hd;cases hd
 labc i y hy b hb:=by
  rcases Nat.lt_or_ge i ts.length with hi|hi
  ·
   rw[List.getElem?_append_left hi]at hy;rw[lab_grown hgg (h.lab 4 (by omega)) ((World.ownsRow.lt (h.calls i y hy) b hb).2)];exact h.labc i y hy b hb
  ·
   have hy':y=x:=by
    have hl:=(List.getElem?_eq_some_iff.1 hy).1;simp only[List.length_append,List.length_cons,List.length_nil]at hl;obtain rfl:i=ts.length:=by omega
    simpa using hy.symm
   rw[hy',hx]at hb;cases hb
 maps j hj:=(h.maps j hj).grown hg (fun e=>by have h1:=(h.labm j hj).1;have h4:=h.four;have h2:=h.lab 4 (by omega) _ e.symm;omega)
 labm j hj:=by
  rw[lab_grown hgg (h.lab 4 (by omega)) (h.maps j hj).lt];exact h.labm j hj
 four:=h.four
theorem PartsM.rd (h:PartsM M B w vs ts mb own s ids):TtRd w.heap.size w ⟨vs 0,vs 1,vs 2,vs 3,vs 4,vs 5,vs 6,vs 7,vs 8,vs 9⟩ ts s.t where
 stops:=slIn_own stopCells_len (h.row 0 (by omega))
 routes:=slIn_own routeCells_len (h.row 1 (by omega))
 cals:=slIn_own calCells_len (h.row 2 (by omega))
 excs:=slIn_own excCells_len (h.row 3 (by omega))
 trips:=⟨slIn_own tripCells_len (h.row 4 (by omega)),fun x hx=>by
  obtain⟨i,hi⟩:=List.getElem?_of_mem hx;exact⟨slIn_own callCells_len (h.calls i x hi),h.ok x hx⟩⟩
 same:=h.same
 freqs:=slIn_own freqCells_len (by have:=h.row 5 (by omega);unfold OwnK slot at this;simpa using this)
 thrus:=slIn_own thrCells_len (by have:=h.row 6 (by omega);unfold OwnK slot at this;simpa using this)
 guars:=slIn_own guaCells_len (h.row 7 (by omega))
 paths:=slIn_own pathCells_len (h.row 8 (by omega))
 prods:=slIn_own prodCells_len (h.row 9 (by omega))
end
end Go.Proofs.YtncbcmiflffakaaGreat
namespace Go.Proofs.YtncbcmiflffakaaGreat
open Go.RowKit
theorem blk_bl {w w':World} {g:Nat} {o:Obj} (hu:w.heap[g]? =some o) (hb:Bl w w'):w'.heap[g]? =some o:=(hb.block g (lt_of_block hu)).trans hu
theorem blk_cell {g:Nat} {w:World} {C:Array Value} {T:TypeId} (hu:w.heap[g]? =some (.cells C T (0,0))) (i:Nat) (u:Value) (hi:C[i]? =some u):w.cell? ⟨g,i,none⟩=some u:=by
 rw[cell_of_row w g i C T (0,0) hu];exact hi
theorem heap_alloc_new (w:World) (o:Obj):(w.alloc o).heap[w.heap.size]? =some o:=(MapKept.heap_alloc w o).1
end Go.Proofs.YtncbcmiflffakaaGreat
namespace Go.Proofs.YtncbcmiflffakaaGreat
open Go.RowKit Go.Maps
open Go.Maps (Keyed)
open Frq Thr Tt
theorem laidOut:laidOutB Tryz.prog=true:=by kernel_rfl
theorem int_cells:Tryz.prog.cellsOf 3=1:=by kernel_rfl
theorem bool_cells:Tryz.prog.cellsOf 4=1:=by kernel_rfl
theorem types_pos: ∃ n,Tryz.prog.types.size=n+1:=by
 have h:0<Tryz.prog.types.size:=by decide+kernel
 exact⟨Tryz.prog.types.size-1,by omega⟩
theorem exck_law:Keyed Tryz.prog 121:=Keyed.of_law (deep_law_laid laidOut (m:=5) (by omega) (by decide+kernel) (by kernel_rfl) (by kernel_rfl))
def exckV (x:Int×Int):Value:= .agg #[.int .i64 x.1, .int .i64 x.2]
def exckOk (x:Int×Int):Prop:=isInt x.1∧isInt x.2
theorem exck_type:Tryz.prog.keyType 121=true:=by kernel_rfl
theorem exck_cells:Tryz.prog.cellsOf 121=2:=by kernel_rfl
theorem exck_key {x:Int×Int} (h:exckOk x): ∃ kl,keyOf Tryz.prog 121 (exckV x)=some kl:=by
 obtain⟨n,hn⟩:=types_pos;have w0:=wf_int h.1;have w1:=wf_int h.2;unfold keyOf exckV;rw[Tryz.underlying121];simp only[exck_type,Value.formed,Tryz.underlying121,exck_cells,hn];simp[Program.keyLits,Tryz.underlying121,Tryz.underlying3,show List.range 2=[0,1] from rfl,exck_cells,int_cells,w0,w1,Value.cells]
def exckFn (gk:Int×Int→Lit):Prop:= ∀ x,exckOk x→keyOf Tryz.prog 121 (exckV x)=some (gk x)
theorem exckFn_ex: ∃ gk,exckFn gk:=by
 have h: ∀ x:Int×Int,∃ kl,exckOk x→keyOf Tryz.prog 121 (exckV x)=some kl:=fun x=>by
  by_cases hx:exckOk x
  ·
   obtain⟨kl,hk⟩:=exck_key hx;exact⟨kl,fun _=>hk⟩
  · exact⟨.bool false,fun h=>absurd h hx⟩
 exact⟨fun x=>Classical.choose (h x),fun x hx=>Classical.choose_spec (h x) hx⟩
theorem exckFn_inj {gk:Int×Int→Lit} (K:exckFn gk) {x y:Int×Int} (hx:exckOk x) (hy:exckOk y) (h:gk x=gk y):x=y:=by
 have:=exck_law.inj (K x hx) (h ▸ K y hy);cases x
 cases y
 simpa[exckV,Prod.ext_iff]using this
def exckSet (gk:Int×Int→Lit) (l:List (Int×Int)) (S:Lit→Bool):Prop:= ∀ x:Int×Int,exckOk x→S (gk x)=l.any fun y=>y==x
theorem exckSet_snoc {gk:Int×Int→Lit} (K:exckFn gk) {l:List (Int×Int)} {S:Lit→Bool} {x:Int×Int} (h:exckSet gk l S) (hk:exckOk x):exckSet gk (l++[x]) (setPut S (gk x)):=fun y hy=>by
 by_cases e:y=x
 · rw[e,setPut_at _ (exck_law.key (K x hk))];simp
 · rw[setPut_ne (fun e'=>e (exckFn_inj K hy hk e')),h y hy,List.any_append,List.any_cons,List.any_nil,Bool.or_false,show(x==y)=false by rw[beq_eq_false_iff_ne];exact fun e'=>e e'.symm,Bool.or_false]
abbrev exckM (w:World) (b n:Nat) (S:Lit→Bool):Prop:=OwnsSet w Tryz.prog 121 4 b n S
theorem pathk_law:Keyed Tryz.prog 183:=Keyed.of_law (deep_law_laid laidOut (m:=5) (by omega) (by decide+kernel) (by kernel_rfl) (by kernel_rfl))
def pathkV (x:Int×Int×Bool):Value:= .agg #[.int .i64 x.1, .int .i64 x.2.1, .bool x.2.2]
def pathkOk (x:Int×Int×Bool):Prop:=isInt x.1∧isInt x.2.1
theorem pathk_type:Tryz.prog.keyType 183=true:=by kernel_rfl
theorem pathk_cells:Tryz.prog.cellsOf 183=3:=by kernel_rfl
theorem pathk_key {x:Int×Int×Bool} (h:pathkOk x): ∃ kl,keyOf Tryz.prog 183 (pathkV x)=some kl:=by
 obtain⟨n,hn⟩:=types_pos;have w0:=wf_int h.1;have w1:=wf_int h.2;unfold keyOf pathkV;rw[Tryz.underlying183];simp only[pathk_type,Value.formed,Tryz.underlying183,pathk_cells,hn];simp[Program.keyLits,Tryz.underlying183,Tryz.underlying3,Tryz.underlying4,bool_cells,pathk_cells,int_cells,w0,w1,Value.cells]
def pathkFn (gk:Int×Int×Bool→Lit):Prop:= ∀ x,pathkOk x→keyOf Tryz.prog 183 (pathkV x)=some (gk x)
theorem pathkFn_ex: ∃ gk,pathkFn gk:=by
 have h: ∀ x:Int×Int×Bool,∃ kl,pathkOk x→keyOf Tryz.prog 183 (pathkV x)=some kl:=fun x=>by
  by_cases hx:pathkOk x
  ·
   obtain⟨kl,hk⟩:=pathk_key hx;exact⟨kl,fun _=>hk⟩
  · exact⟨.bool false,fun h=>absurd h hx⟩
 exact⟨fun x=>Classical.choose (h x),fun x hx=>Classical.choose_spec (h x) hx⟩
theorem pathkFn_inj {gk:Int×Int×Bool→Lit} (K:pathkFn gk) {x y:Int×Int×Bool} (hx:pathkOk x) (hy:pathkOk y) (h:gk x=gk y):x=y:=by
 have:=pathk_law.inj (K x hx) (h ▸ K y hy);cases x
 cases y
 simpa[pathkV,Prod.ext_iff]using this
def pathkSet (gk:Int×Int×Bool→Lit) (l:List (Int×Int×Bool)) (S:Lit→Bool):Prop:= ∀ x:Int×Int×Bool,pathkOk x→S (gk x)=l.any fun y=>y==x
theorem pathkSet_snoc {gk:Int×Int×Bool→Lit} (K:pathkFn gk) {l:List (Int×Int×Bool)} {S:Lit→Bool} {x:Int×Int×Bool} (h:pathkSet gk l S) (hk:pathkOk x):pathkSet gk (l++[x]) (setPut S (gk x)):=fun y hy=>by
 by_cases e:y=x
 · rw[e,setPut_at _ (pathk_law.key (K x hk))];simp
 · rw[setPut_ne (fun e'=>e (pathkFn_inj K hy hk e')),h y hy,List.any_append,List.any_cons,List.any_nil,Bool.or_false,show(x==y)=false by rw[beq_eq_false_iff_ne];exact fun e'=>e e'.symm,Bool.or_false]
abbrev pathkM (w:World) (b n:Nat) (S:Lit→Bool):Prop:=OwnsSet w Tryz.prog 183 4 b n S
end Go.Proofs.YtncbcmiflffakaaGreat
namespace Go.Proofs.YtncbcmiflffakaaGreat
open Go.RowKit
open Fld
theorem bl_grown {W W':World} (hb:Bl W W'):W.grownBy W' none:=⟨hb.os,hb.tape,hb.output,hb.size,fun k hk _=>hb.block k hk⟩
end Go.Proofs.YtncbcmiflffakaaGreat
namespace Go.Proofs.YtncbcmiflffakaaGreat
open Go.RowKit
open Fld
theorem len_bytes (s:ByteArray):s.data.toList.length=s.size:=by simp
end Go.Proofs.YtncbcmiflffakaaGreat
namespace Go.Proofs.YtncbcmiflffakaaGreat
open Go.RowKit
open Fld
def pre (out:List (List UInt8)) (r:List (List UInt8)×Int):List (List UInt8)×Int:=if r.2=0 then(out++r.1,0)else r
end Go.Proofs.YtncbcmiflffakaaGreat
