/-
  What the laws of top need of TopReg, TopMap. Conditions: those of each lemma.
-/
import Derived.Test.YtncbcmiflffakaaGreatPkMem
import Derived.Deep.RegionHeld3
import Derived.KernelRfl
import Derived.Maps.OwnSet
import Derived.DeepKeys4
set_option maxRecDepth 1000000
set_option maxHeartbeats 32000000
namespace Go.Proofs.YtncbcmiflffakaaGreat
open Go.RowKit
variable {P:Program} {ops:Array Oper} {Q:Exit→Act→World→Prop} {S:World→Prop} {z:Nat}
def wpAnyW (P:Program) (ops:Array Oper) (Q:Exit→Act→World→Prop) (S:World→Prop) (z:Nat):Nat→Array Bool→Act→World→Prop
 |0,listed,a,w=>Region.ready .any ops listed=[]∧Q .normal a w
 |fuel+1,listed,a,w=>(Region.ready .any ops listed=[]→Q .normal a w)∧ ∀ i∈Region.ready .any ops listed,wpOp P ops Q i (fun a' w'=>(i≠z→S w')∧wpAnyW P ops Q S z fuel (listed.setIfInBounds i true) a' w') a w
theorem wpAny_of_W: ∀ (fuel:Nat) (listed:Array Bool) (a:Act) (w:World),wpAnyW P ops Q S z fuel listed a w→wpAny P .any ops Q fuel listed a w
 |0,_,_,_,h=>h
 |fuel+1,_,_,_,h=>⟨h.1,fun i hi=>wpOp_mono (fun a' w' h'=>wpAny_of_W fuel _ a' w' h'.2) (h.2 i hi)⟩
def waits (ops:Array Oper) (z i:Nat):Bool:=match ops[z]? with
 |some o=>o.after.any fun e=>Region.binds .any e&&e.on==i
 |none=>true
theorem waits_spec {i:Nat} (h:waits ops z i=true): ∀ oz,ops[z]? =some oz→ ∃ e∈oz.after,Region.binds .any e=true∧e.on=i:=fun oz ho=>by
 unfold waits at h;rw[ho]at h;obtain⟨e,he,hb⟩:=Array.any_eq_true'.1 h;simp only[Bool.and_eq_true,beq_iff_eq]at hb;exact⟨e,he,hb.1,hb.2⟩
theorem not_ready {listed:Array Bool} {i k:Nat} (hw:waits ops k i=true) (hi:listed.getD i true=false) (hk:k∈Region.ready .any ops listed):False:=by
 obtain⟨_,ok,hok,hall⟩:=mem_ready.1 hk;obtain⟨e,he,hb,ho⟩:=waits_spec hw ok hok;have h1:=hall e he hb;rw[ho]at h1;rcases Nat.lt_or_ge i listed.size with h'|h'
 · simp[h']at hi h1;rw[hi]at h1;cases h1
 · simp[Array.getElem?_eq_none h']at h1
def chainW (ops:Array Oper) (z:Nat) (listed:Array Bool):Nat→List Nat→Bool
 |i,[]=>waits ops z i
 |i,p::r=>waits ops p i&& !listed.getD p true&&chainW ops z listed p r
theorem chain_step {listed:Array Bool} {j:Nat} (hj:j∈Region.ready .any ops listed): ∀ (ps:List Nat) (i:Nat),listed.getD i true=false→chainW ops z listed i ps=true→j≠z∧chainW ops z (listed.setIfInBounds j true) i ps=true
 |[],_,hi,hc=>⟨fun e=>not_ready hc hi (e ▸ hj),hc⟩
 |p::r,i,hi,hc=>by
  simp only[chainW,Bool.and_eq_true,Bool.not_eq_true']at hc;obtain⟨⟨h1,h2⟩,h3⟩:=hc;have hjp: ¬ j=p:=fun e=>not_ready h1 hi (e ▸ hj)
  obtain⟨k1,k2⟩:=chain_step hj r p h2 h3;refine⟨k1, ?_⟩;simp only[chainW,Bool.and_eq_true,Bool.not_eq_true'];exact⟨⟨h1,by rw[getD_set_ne true hjp];exact h2⟩,k2⟩
theorem wpAnyW_first {i:Nat} {oi:Oper} {v:Value} (hi:ops[i]? =some oi) (hsel: ∀ (j:Nat) (o:Oper) cs b,ops[j]? =some o→o.op≠ .select cs b) (hQ: ∀ c a w,Q (.panic c) (a.put oi.dst v) w→Q (.panic c) a w) (ps:List Nat): ∀ (fuel:Nat) (listed:Array Bool) (a:Act) (w:World),chainW ops z listed i ps=true→
   (∀ j oj,ops[j]? =some oj→j≠i→listed.getD j true=false→(∀ e∈oj.after,Region.binds .any e=true→e.on≠i)→oi.apart ops oj=true)→
   i∈Region.ready .any ops listed→YieldsIf P ops S oi v a→S w→wpAnyW P ops Q S z fuel (listed.setIfInBounds i true) (a.put oi.dst v) w→wpAnyW P ops Q S z (fuel+1) listed a w:=by
 intro fuel;induction fuel with
 |zero=>
  intro listed a w _ _ hr hy hS H;refine⟨fun h=>(by rw[h]at hr;cases hr),fun j hj=>?_⟩;by_cases hji:j=i
  · subst hji;exact hy.wpOp hi hS ⟨fun _=>hS,H⟩
  ·
   have:=ready_mono hj hji;rw[H.1]at this;cases this
 |succ fuel ih=>
  intro listed a w hc hfree hr hy hS H;refine⟨fun h=>(by rw[h]at hr;cases hr),fun j hj=>?_⟩;by_cases hji:j=i
  · subst hji;exact hy.wpOp hi hS ⟨fun _=>hS,H⟩
  ·
   have h1:=H.2 j (ready_mono hj hji);obtain⟨hjun,oj,hoj,hall⟩:=mem_ready.1 hj;have hnot: ∀ e∈oj.after,Region.binds .any e=true→e.on≠i:=fun e he hb heq=>by
    have h1:=hall e he hb;have h0:=(mem_ready.1 hr).1;rw[heq]at h1;rcases Nat.lt_or_ge i listed.size with h'|h'
    · simp[h']at h0 h1;rw[h0]at h1;cases h1
    · simp[Array.getElem?_eq_none h']at h1
   obtain⟨hjz,hc'⟩:=chain_step hj ps i (mem_ready.1 hr).1 hc;have h2:=wpOp_putIf hoj (hfree j oj hoj hji hjun hnot) (fun cs b=>hsel i oi cs b hi) (fun cs b=>hsel j oj cs b hoj) hQ hy h1;have hfree': ∀ k ok,ops[k]? =some ok→k≠i→(listed.setIfInBounds j true).getD k true=false→
     (∀ e∈ok.after,Region.binds .any e=true→e.on≠i)→oi.apart ops ok=true:=fun k ok hk hki hun hno=>by
    refine hfree k ok hk hki ?_ hno;by_cases hjk:j=k
    · subst hjk;exact hjun
    · rw[getD_set_ne true hjk]at hun;exact hun
   refine wpOp_mono (fun a' w' h3=>⟨h3.2.1,ih (listed.setIfInBounds j true) a' w' hc' hfree' (ready_mono hr (Ne.symm hji)) h3.1 (h3.2.1 hjz) ?_⟩) h2;rw[Array.setIfInBounds_comm _ _ hji];exact h3.2.2
theorem takeW (i:Nat) {v:Value} {oi:Oper} {fuel:Nat} {listed:Array Bool} {a a':Act} {w:World} (h:wpAnyW P ops Q S z fuel (listed.setIfInBounds i true) a' w) (hi:ops[i]? =some oi:=by rfl) (hS:S w:=by assumption)
  (hy: ∀ w',S w'→(execOp a.eval oi).run P w'= .ok (.value v) w':=by intro w' hSw;(try dsimp only at hSw);go_simp;first|done|with_reducible rfl) (hg:Region.wanted oi (yielded ops a.tmps)=true:=by rfl)
  (hs:Region.noSelect ops=true:=by kernel_rfl) (hf:Region.free .any ops listed i=true:=by kernel_rfl) (hr:(Region.ready .any ops listed).contains i=true:=by kernel_rfl) (ps:List Nat:=[]) (hz:chainW ops z listed i ps=true:=by kernel_rfl)
  (hQ: ∀ c a w,Q (.panic c) (a.put oi.dst v) w→Q (.panic c) a w:=by exact fun _ _ _ h=>h) (ha:a.put oi.dst v=a':=by(try simp only[Act.put]);rfl):wpAnyW P ops Q S z (fuel+1) listed a w:=
 by subst ha;exact wpAnyW_first hi (Region.noSelect_spec hs) hQ ps fuel listed a w hz (Region.free_spec hi hf) (by simpa using hr) (Or.inl ⟨hg,hy⟩) hS h
theorem takeL (i:Nat) {v:Value} {oi:Oper} {fuel:Nat} {listed:Array Bool} {a a':Act} {w:World} (h:wpAnyW P ops Q S z fuel (listed.setIfInBounds i true) a' w) (hi:ops[i]? =some oi:=by rfl) (hS:S w:=by assumption)
  (hy: ∀ w',S w'→(execOp a.eval oi).run P w'= .ok (.value v) w':=by intro w' hSw;(try dsimp only at hSw);go_simp;first|done|with_reducible rfl) (hg:Region.wanted oi (yielded ops a.tmps)=true:=by rfl)
  (hr:Region.ready .any ops listed=[i]:=by kernel_rfl) (ha:a.put oi.dst v=a':=by(try simp only[Act.put]);rfl):wpAnyW P ops Q S z (fuel+1) listed a w:=
 ⟨fun h0=>(by rw[hr]at h0;cases h0),fun j hj=>by
  subst ha;rw[hr]at hj;obtain rfl:=List.mem_singleton.1 hj;have y:YieldsIf P ops S oi v a:=Or.inl ⟨hg,hy⟩;exact y.wpOp hi hS ⟨fun _=>hS,h⟩⟩
theorem stepW (i:Nat) {o:Oper} {fuel:Nat} {listed:Array Bool} {a:Act} {w:World}
  (h: ∀ K':Act→World→Prop,Shut (∀ a w,S w→(S w→wpAnyW P ops Q S z fuel (listed.setIfInBounds i true) a w)→K' a w)→if Region.wanted o (yielded ops a.tmps)=true then Oper.wp P o a w K' Q else K' (a.put o.dst undef) w)
  (ho:ops[i]? =some o:=by rfl) (hr:Region.ready .any ops listed=[i]:=by kernel_rfl):wpAnyW P ops Q S z (fuel+1) listed a w:=
 ⟨fun h0=>(by rw[hr]at h0;cases h0),fun j hj=>by
  rw[hr]at hj;obtain rfl:=List.mem_singleton.1 hj;exact wpOp_step ho (fun K' hK=>h K' (fun a w hS hW=>hK a w ⟨fun _=>hS,hW hS⟩))⟩
theorem stepW2 (i k:Nat) {o o':Oper} {fuel:Nat} {listed:Array Bool} {a:Act} {w:World}
  (h: ∀ K':Act→World→Prop,Shut (∀ a w,S w→(S w→wpAnyW P ops Q S z fuel (listed.setIfInBounds i true) a w)→K' a w)→if Region.wanted o (yielded ops a.tmps)=true then Oper.wp P o a w K' Q else K' (a.put o.dst undef) w)
  (h': ∀ K':Act→World→Prop,Shut (∀ a w,S w→(S w→wpAnyW P ops Q S z fuel (listed.setIfInBounds k true) a w)→K' a w)→if Region.wanted o' (yielded ops a.tmps)=true then Oper.wp P o' a w K' Q else K' (a.put o'.dst undef) w)
  (ho:ops[i]? =some o:=by rfl) (ho':ops[k]? =some o':=by rfl) (hr:Region.ready .any ops listed=[i,k]:=by kernel_rfl):wpAnyW P ops Q S z (fuel+1) listed a w:=
 ⟨fun h0=>(by rw[hr]at h0;cases h0),fun j hj=>by
  rw[hr]at hj;rcases List.mem_cons.1 hj with rfl|hj
  · exact wpOp_step ho (fun K' hK=>h K' (fun a w hS hW=>hK a w ⟨fun _=>hS,hW hS⟩))
  ·
   obtain rfl:=List.mem_singleton.1 hj;exact wpOp_step ho' (fun K' hK=>h' K' (fun a w hS hW=>hK a w ⟨fun _=>hS,hW hS⟩))⟩
theorem lastW {o:Oper} {fuel:Nat} {listed:Array Bool} {a:Act} {w:World}
  (h: ∀ K':Act→World→Prop,Shut (∀ a w,Q .normal a w→K' a w)→if Region.wanted o (yielded ops a.tmps)=true then Oper.wp P o a w K' Q else K' (a.put o.dst undef) w)
  (ho:ops[z]? =some o:=by rfl) (hr:Region.ready .any ops listed=[z]:=by kernel_rfl) (he:Region.ready .any ops (listed.setIfInBounds z true)=[]:=by kernel_rfl):wpAnyW P ops Q S z (fuel+1) listed a w:=
 ⟨fun h0=>(by rw[hr]at h0;cases h0),fun j hj=>by
  rw[hr]at hj;obtain rfl:=List.mem_singleton.1 hj;refine wpOp_step ho (fun K' hK=>h K' (fun a w hq=>hK a w ⟨fun e=>absurd rfl e, ?_⟩));cases fuel with
  |zero=>exact⟨he,hq⟩
  |succ n=>exact⟨fun _=>hq,by rw[he];intro i hi;cases hi⟩⟩
theorem startW (S:World→Prop) (z:Nat) {id:Nat} {a:Act} {w:World} (hS:S w.drew) (h:S w.drew→wpAnyW P ops Q S z ops.size (Array.replicate ops.size false) a w.drew) (hm:P.follows .mixedOrders=true:=by kernel_rfl):(Code.region id ops true).wp P Q a w:=
 wp_region_any hm (wpAny_of_W _ _ _ _ (h hS))
end Go.Proofs.YtncbcmiflffakaaGreat
namespace Go.Proofs.YtncbcmiflffakaaGreat
open Go.RowKit Go.Maps Go.MapKept
open Go.Maps (Keyed)
def rawElem (v:Value):Option (DataW Value×List MemPlace):=some (.held v,[])
structure ValD (D:DataW Value) (G:Lit→Option Value):Prop where
 map:IsMap D
 at': ∀ kl,WideAt.IsKeyLit kl→ ∀ z,D.atKey kl z=match G kl with
  |some v=> .held v
  |none=>z
theorem ValD.has {D:DataW Value} {G:Lit→Option Value} (h:ValD D G) {kl:Lit} (hk:WideAt.IsKeyLit kl):Maps.has D kl=(G kl).isSome:=by
 cases hg:G kl with
 |none=>exact has_false_of_atKey fun z=>by rw[h.at' kl hk,hg]
 |some v=>exact has_true_of_atKey (y:= .held v) fun z=>by rw[h.at' kl hk,hg]
def putV (G:Lit→Option Value) (kl:Lit) (v:Value):Lit→Option Value:=fun l=>if l.sameKey kl then some v else G l
theorem putV_at (G:Lit→Option Value) {kl:Lit} (h:WideAt.IsKeyLit kl) (v:Value):putV G kl v kl=some v:=by unfold putV;rw[WideAt.sameKey_self h];rfl
theorem putV_ne {G:Lit→Option Value} {kl l:Lit} (h:l≠kl) (v:Value):putV G kl v l=G l:=by unfold putV;rw[Maps.sameKey_ne h];rfl
def OwnsVal (w:World) (P:Program) (k:TypeId) (b n:Nat) (G:Lit→Option Value):Prop:= ∃ D:DataW Value,w.ownsMap P k rawElem b n D∧ValD D G
section
variable {P:Program} {k e t:TypeId} {w w':World} {b n:Nat} {G:Lit→Option Value}
theorem ownsVal_made (w:World) (P:Program) (k:TypeId):OwnsVal (w.alloc (.map #[] 0)) P k w.heap.size 0 (fun _=>none):=
 ⟨.map [],World.ownsMap_made _ _ _ _,isMap_empty,fun _ _ _=>rfl⟩
theorem OwnsVal.lt (h:OwnsVal w P k b n G):b<w.heap.size:=by obtain⟨D,h,-⟩:=h;exact h.lt
theorem OwnsVal.kept (h:OwnsVal w P k b n G) (hb:w'.heap[b]? =w.heap[b]?):OwnsVal w' P k b n G:=by
 obtain⟨D,⟨es,clock,h1,h2⟩,h3⟩:=h;exact⟨D,⟨es,clock,hb.trans h1,h2⟩,h3⟩
theorem OwnsVal.bl (h:OwnsVal w P k b n G) (hb:Bl w w'):OwnsVal w' P k b n G:=h.kept (hb.block b h.lt)
theorem OwnsVal.mono (h:OwnsVal w P k b n G) {n':Nat} (hn:n≤n'):OwnsVal w P k b n' G:=by
 obtain⟨D,h1,h2⟩:=h;exact⟨D,h1.mono hn,h2⟩
theorem OwnsVal.congr (h:OwnsVal w P k b n G) {G':Lit→Option Value} (hS: ∀ l,WideAt.IsKeyLit l→G l=G' l):OwnsVal w P k b n G':=by
 obtain⟨D,h1,h2,h3⟩:=h;exact⟨D,h1,h2,fun kl hk z=>by rw[h3 kl hk z,hS kl hk]⟩
theorem OwnsVal.look (h:OwnsVal w P k b n G) (K:Keyed P k) (ht:P.underlying t=some (.map k e)) {z:Value} (hz:(zeroValue e).run P w= .ok z w) {key:Value} {kl:Lit} (hkey:keyOf P k key=some kl):
  (Instr.lookup t (.map (some b)) key false).run P w= .ok ((G kl).getD z) w:=by
 obtain⟨D,h1,h2⟩:=h;obtain⟨v,ps,hrun,hv⟩:=h1.lookup K ht hz (R:=rawElem) (z:=z) (zd:= .held z) (zp:=[]) rfl hkey;have e:=h2.at' kl (K.key hkey) (.held z);simp only[rawElem,Option.some.injEq,Prod.mk.injEq]at hv;rw[e]at hv;rw[hrun];cases hg:G kl with
 |none=>rw[hg]at hv;simp only[DataW.held.injEq]at hv;rw[hv.1];rfl
 |some u=>rw[hg]at hv;simp only[DataW.held.injEq]at hv;rw[hv.1];rfl
theorem OwnsVal.look_ok (h:OwnsVal w P k b n G) (K:Keyed P k) (ht:P.underlying t=some (.map k e)) {z:Value} (hz:(zeroValue e).run P w= .ok z w) {key:Value} {kl:Lit} (hkey:keyOf P k key=some kl):
  (Instr.lookup t (.map (some b)) key true).run P w= .ok (.tuple #[(G kl).getD z, .bool (G kl).isSome]) w:=by
 obtain⟨D,h1,h2⟩:=h;obtain⟨v,ps,hrun,hv⟩:=h1.look_ok K ht hz (R:=rawElem) (z:=z) (zd:= .held z) (zp:=[]) rfl hkey;have e:=h2.at' kl (K.key hkey) (.held z);simp only[rawElem,Option.some.injEq,Prod.mk.injEq]at hv;rw[e]at hv;rw[hrun,h2.has (K.key hkey)];cases hg:G kl with
 |none=>rw[hg]at hv;simp only[DataW.held.injEq]at hv;rw[hv.1];rfl
 |some u=>rw[hg]at hv;simp only[DataW.held.injEq]at hv;rw[hv.1];rfl
theorem OwnsVal.put (h:OwnsVal w P k b n G) (K:Keyed P k) (ht:P.underlying t=some (.map k e)) (hn:n<maxLen) {key:Value} {kl:Lit} (hkey:keyOf P k key=some kl) (v:Value):
  ∃ w',(Instr.mapUpdate t (.map (some b)) key v).run P w= .ok () w'∧OwnsVal w' P k b (n+1) (putV G kl v)∧w.grownBy w' (some b):=by
 obtain⟨D,h1,h2⟩:=h;obtain⟨w',hrun,r1,r2⟩:=h1.update K ht hn hkey (R:=rawElem) (d:= .held v) (ps:=[]) rfl;refine⟨w',hrun,⟨_,r1,h2.map.put _ _,fun l hl z=>?_⟩,r2⟩;by_cases hlk:l=kl
 · rw[hlk,atKey_put_same h2.map (K.key hkey),putV_at G (K.key hkey)]
 · rw[atKey_put_other hlk,h2.at' l hl z,putV_ne hlk]
end
end Go.Proofs.YtncbcmiflffakaaGreat
