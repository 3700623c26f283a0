/-
  What the laws of top need of TopMsP, TopDj. Conditions: those of each lemma.
-/
import Derived.Test.YtncbcmiflffakaaGreatPkPl
set_option maxRecDepth 1000000
set_option maxHeartbeats 32000000
namespace Go.Proofs.YtncbcmiflffakaaGreat.Tt
open Num Clk Dat Frq Thr
structure MsgD where
 src:Int
 seq:Int
 iss:Int
 exp:Int
 kind:Int
 trip:List UInt8
 day:Int
 inst:Int
 call:Int
 secs:Int
 route:Int
 step:Bool
 calls:List CallD
 deriving DecidableEq
def uCall (k:Int):Bool:=k==1||k==3
def uSecs (k:Int):Bool:=k==1
def uRoute (k:Int):Bool:=k==5
def uCalls (k:Int):Bool:=k==4||k==5
def kindErr (m:MsgD):Int:=
 if(uCall m.kind&&outside m.call 0 31)||((uSecs m.kind&&outside m.secs (-43200) 43200)||(uRoute m.kind&&outside m.route 0 63))then 2
 else if uCalls m.kind&& !(callsErr 64 0 3155932800 m.calls==0)then callsErr 64 0 3155932800 m.calls
 else if(!uCall m.kind&& !(m.call==0))||((!uSecs m.kind&& !(m.secs==0))||((!uRoute m.kind&& !(m.route==0))||((!uRoute m.kind&&m.step)||(!uCalls m.kind&& !m.calls.isEmpty))))then 1 else 0
def checkM (m:MsgD):Int:=
 if outside m.src 0 7 then 36 else if m.seq<1 then 2
 else if outside m.iss 0 3155932800||(outside m.exp 0 3155932800||decide (m.exp≤m.iss))then 10
 else if outside m.kind 1 6 then 35 else if nameB m.trip=false then 12 else if outside m.day 0 36524 then 11 else if m.inst<0 then 2 else kindErr m
def sameT (a b:MsgD):Bool:=a.trip==b.trip&&(a.day==b.day&&a.inst==b.inst)
def statB (k:Int):Bool:=k==2||(k==4||(k==5||k==6))
def superB (a b:MsgD):Bool:=a.src==b.src&&(sameT a b&&(decide (b.seq<a.seq)&&(statB a.kind||(a.kind==b.kind&&a.call==b.call))))
end Go.Proofs.YtncbcmiflffakaaGreat.Tt
namespace Go.Proofs.YtncbcmiflffakaaGreat.Dj
structure NodeD where
 node:Int
 len:Int
 edg:Int
 num:Int
structure LabD where
 node:Int
 len:Int
 edg:Int
structure EdgeD where
 frm:Int
 to:Int
 wt:Int
 deriving DecidableEq
inductive Walk (E:List EdgeD) (s:Int):Int→Int→Prop
 |nil:Walk E s s 0
 |snoc {u d:Int} {e:EdgeD}:Walk E s u d→e∈E→e.frm=u→Walk E s e.to (d+e.wt)
def IsDist (E:List EdgeD) (s v d:Int):Prop:=(Walk E s v d∧ ∀ d',Walk E s v d'→d≤d')∨(d= -1∧ ∀ d',¬ Walk E s v d')
theorem IsDist.unique {E:List EdgeD} {s v d d':Int} (h:IsDist E s v d) (h':IsDist E s v d'):d=d':=by
 rcases h with⟨w,m⟩|⟨rfl,n⟩
 ·
  rcases h' with⟨w',m'⟩|⟨rfl,n'⟩
  · have:=m _ w';have:=m' _ w;omega
  · exact absurd w (n' _)
 ·
  rcases h' with⟨w',m'⟩|⟨rfl,n'⟩
  · exact absurd w' (n _)
  · rfl
theorem Walk.same {E E':List EdgeD} (hE: ∀ e,e∈E→e∈E') {s v d:Int} (h:Walk E s v d):Walk E' s v d:=by
 induction h with
 |nil=>exact .nil
 |snoc _ he hf ih=>exact .snoc ih (hE _ he) hf
theorem IsDist.same {E E':List EdgeD} (hE: ∀ e,e∈E↔e∈E') {s v d:Int} (h:IsDist E s v d):IsDist E' s v d:=by
 rcases h with⟨w,m⟩|⟨rfl,n⟩
 · exact .inl ⟨w.same fun e h=>(hE e).1 h,fun d' h=>m d' (h.same fun e h=>(hE e).2 h)⟩
 · exact .inr ⟨rfl,fun d' h=>n d' (h.same fun e h=>(hE e).2 h)⟩
def Set (out:List LabD) (v:Int):Prop:=0≤v∧ ∃ x,out[v.toNat]? =some x∧0≤x.edg
structure Inv (E:List EdgeD) (s:Int) (n:Nat) (p:Int) (done:EdgeD→Prop) (out:List LabD) (h:List NodeD):Prop where
 size:out.length=n
 labs: ∀ (v:Nat) (x:LabD),out[v]? =some x→(x.edg= -1∧x.len= -1)∨(0≤x.edg∧Walk E s v x.len∧ ∀ d,Walk E s v d→x.len≤d)
 heap: ∀ y∈h,0≤y.edg∧Walk E s y.node y.len∧0≤y.node∧y.node<n
 start:Set out s∨ ∃ y∈h,y.node=s∧y.len=0
 near: ∀ e∈E,∀ x,0≤e.frm→out[e.frm.toNat]? =some x→0≤x.edg→(e.frm≠p∨done e)→Set out e.to∨ ∃ y∈h,y.node=e.to∧y.len≤x.len+e.wt
variable {E:List EdgeD} {s p:Int} {n:Nat} {done:EdgeD→Prop} {out:List LabD} {h:List NodeD}
theorem Inv.least (I:Inv E s n p (fun _=>True) out h) (hw: ∀ e∈E,0≤e.wt) (m:Int) (hm: ∀ y∈h,m≤y.len):
  ∀ v d,Walk E s v d→ ¬ Set out v→m≤d:=by
 intro v d w;induction w with
 |nil=>
  intro hv;rcases I.start with k|⟨y,hy,-,h0⟩
  · exact absurd k hv
  · have:=hm y hy;omega
 | @snoc u d e w he hf ih=>
  intro hv;by_cases hu:Set out u
  ·
   obtain⟨h0,x,hx,h1⟩:=hu;subst hf;rcases I.near e he x h0 hx h1 (.inr trivial)with k|⟨y,hy,-,hl⟩
   · exact absurd k hv
   ·
    have:=hm y hy;rcases I.labs _ x hx with k|⟨-,-,k⟩
    · omega
    ·
     have:=k d (by rw[Int.toNat_of_nonneg h0];exact w);omega
  ·
   have:=ih hu;have:=hw e he;omega
theorem Inv.ends (I:Inv E s n p (fun _=>True) out []) (v:Nat) (x:LabD) (hx:out[v]? =some x):IsDist E s v x.len:=by
 have key: ∀ u d,Walk E s u d→Set out u:=by
  intro u d w;induction w with
  |nil=>
   rcases I.start with k|⟨y,hy,-⟩
   · exact k
   · cases hy
  | @snoc u d e w he hf ih=>
   obtain⟨h0,x,hx,h1⟩:=ih;subst hf;rcases I.near e he x h0 hx h1 (.inr trivial)with k|⟨y,hy,-⟩
   · exact k
   · cases hy
 rcases I.labs v x hx with⟨h1,h2⟩|⟨-,h1,h2⟩
 ·
  refine .inr ⟨h2,fun d' w=>?_⟩;obtain⟨-,y,hy,h3⟩:=key _ _ w;rw[Int.toNat_natCast,hx]at hy;cases hy
  omega
 · exact .inl ⟨h1,h2⟩
theorem Inv.skip (I:Inv E s n p (fun _=>True) out h) {x:NodeD} {h':List NodeD} (h1: ∀ y∈h',y∈h) (h2: ∀ y∈h,y=x∨y∈h') (hx:Set out x.node) (q:Int):Inv E s n q (fun _=>True) out h':=by
 refine⟨I.size,I.labs,fun y hy=>I.heap y (h1 y hy), ?_,fun e he z h0 hz hz0 _=>?_⟩
 ·
  rcases I.start with k|⟨y,hy,k1,k2⟩
  · exact .inl k
  ·
   rcases h2 y hy with rfl|k
   · exact .inl (k1 ▸ hx)
   · exact .inr ⟨y,k,k1,k2⟩
 ·
  rcases I.near e he z h0 hz hz0 (.inr trivial)with k|⟨y,hy,k1,k2⟩
  · exact .inl k
  ·
   rcases h2 y hy with rfl|k
   · exact .inl (k1 ▸ hx)
   · exact .inr ⟨y,k,k1,k2⟩
theorem Inv.take (I:Inv E s n p (fun _=>True) out h) (hw: ∀ e∈E,0≤e.wt) {x:NodeD} {h':List NodeD} (hxh:x∈h) (hm: ∀ y∈h,x.len≤y.len)
  (h1: ∀ y∈h',y∈h) (h2: ∀ y∈h,y=x∨y∈h') (hx: ¬ Set out x.node):Inv E s n x.node (fun _=>False) (out.set x.node.toNat ⟨x.node,x.len,x.edg⟩) h':=by
 obtain⟨he0,hwx,hx0,hxn⟩:=I.heap x hxh;have hlt:x.node.toNat<out.length:=by rw[I.size];omega
 have hsx:Set (out.set x.node.toNat ⟨x.node,x.len,x.edg⟩) x.node:=⟨hx0,_,by rw[List.getElem?_set_self hlt],he0⟩;have hup: ∀ v,Set out v→Set (out.set x.node.toNat ⟨x.node,x.len,x.edg⟩) v:=by
  rintro v ⟨h0,y,hy,k⟩;by_cases hv:v=x.node
  · exact hv ▸ hsx
  · exact⟨h0,y,by rw[List.getElem?_set_ne (by omega)];exact hy,k⟩
 refine⟨by rw[List.length_set];exact I.size,fun v y hy=>?_,fun y hy=>I.heap y (h1 y hy), ?_,fun e he z h0 hz hz0 hd=>?_⟩
 ·
  by_cases hv:v=x.node.toNat
  ·
   subst hv;rw[List.getElem?_set_self hlt]at hy;cases hy
   rw[Int.toNat_of_nonneg hx0];exact .inr ⟨he0,hwx,fun d hd=>I.least hw x.len hm _ d hd hx⟩
  ·
   rw[List.getElem?_set_ne (by omega)]at hy;exact I.labs v y hy
 ·
  rcases I.start with k|⟨y,hy,k1,k2⟩
  · exact .inl (hup _ k)
  ·
   rcases h2 y hy with rfl|k
   · exact .inl (k1 ▸ hsx)
   · exact .inr ⟨y,k,k1,k2⟩
 ·
  rcases hd with hd|hd
  ·
   rw[List.getElem?_set_ne (by omega)]at hz;rcases I.near e he z h0 hz hz0 (.inr trivial)with k|⟨y,hy,k1,k2⟩
   · exact .inl (hup _ k)
   ·
    rcases h2 y hy with rfl|k
    · exact .inl (k1 ▸ hsx)
    · exact .inr ⟨y,k,k1,k2⟩
  · exact hd.elim
theorem Inv.known (I:Inv E s n p done out h) {e:EdgeD} (he:Set out e.to):Inv E s n p (fun d=>done d∨d=e) out h:=by
 refine⟨I.size,I.labs,I.heap,I.start,fun d hd z h0 hz hz0 hq=>?_⟩;rcases hq with hq|hq|rfl
 · exact I.near d hd z h0 hz hz0 (.inl hq)
 · exact I.near d hd z h0 hz hz0 (.inr hq)
 · exact .inl he
theorem Inv.pushed (I:Inv E s n p done out h) {e:EdgeD} (hE:e∈E) (hto:0≤e.to∧e.to<n) (hp:e.frm=p) {x:LabD} (hp0:0≤p) (hx:out[p.toNat]? =some x) (hx0:0≤x.edg) {y:NodeD} (hy:y.node=e.to∧y.len=x.len+e.wt∧y.edg=x.edg+1)
  {h':List NodeD} (h1: ∀ z,z∈h'↔z=y∨z∈h):Inv E s n p (fun d=>done d∨d=e) out h':=by
 have hwy:Walk E s y.node y.len:=by
  rw[hy.1,hy.2.1];rcases I.labs _ x hx with k|⟨-,k,-⟩
  · omega
  ·
   rw[Int.toNat_of_nonneg hp0]at k;exact .snoc k hE hp
 refine⟨I.size,I.labs,fun z hz=>?_, ?_,fun d hd z h0 hz hz0 hq=>?_⟩
 ·
  rcases(h1 z).1 hz with rfl|k
  · exact⟨by omega,hwy,by omega,by omega⟩
  · exact I.heap z k
 ·
  rcases I.start with k|⟨z,hz,k⟩
  · exact .inl k
  · exact .inr ⟨z,(h1 z).2 (.inr hz),k⟩
 ·
  have old:(d.frm≠p∨done d)→Set out d.to∨ ∃ y∈h',y.node=d.to∧y.len≤z.len+d.wt:=fun hq=>by
   rcases I.near d hd z h0 hz hz0 hq with k|⟨u,hu,k⟩
   · exact .inl k
   · exact .inr ⟨u,(h1 u).2 (.inr hu),k⟩
  rcases hq with hq|hq|rfl
  · exact old (.inl hq)
  · exact old (.inr hq)
  ·
   rw[hp,hx]at hz;cases hz
   exact .inr ⟨y,(h1 y).2 (.inl rfl),hy.1,by omega⟩
theorem Inv.all (I:Inv E s n p done out h) (hd: ∀ e∈E,e.frm=p→done e) (q:Int):Inv E s n q (fun _=>True) out h:=by
 refine⟨I.size,I.labs,I.heap,I.start,fun d hd' z h0 hz hz0 _=>?_⟩;by_cases hp:d.frm=p
 · exact I.near d hd' z h0 hz hz0 (.inr (hd d hd' hp))
 · exact I.near d hd' z h0 hz hz0 (.inl hp)
def openE (out:List LabD) (e:EdgeD):Bool:=match out[e.frm.toNat]? with
 |some x=>decide (x.edg<0)
 |none=>false
theorem open_drop {out:List LabD} {k:Nat} {x:LabD} (hk:k<out.length) (h0:0≤x.edg) (ho: ∀ y,out[k]? =some y→y.edg<0): ∀ (E:List EdgeD),(∀ e∈E,0≤e.frm)→
  (E.filter (openE (out.set k x))).length+(E.filter fun e=>e.frm==(k:Int)).length=(E.filter (openE out)).length
 |[],_=>rfl
 |e::E,hE=>by
  have ih:=open_drop hk h0 ho E fun e h=>hE e (.tail _ h)
  have h1:=hE e (.head _);by_cases he:e.frm=(k:Int)
  ·
   have a1:openE (out.set k x) e=false:=by
    unfold openE;rw[he,Int.toNat_natCast,List.getElem?_set_self hk];simp only[decide_eq_false_iff_not];omega
   have a2:openE out e=true:=by
    unfold openE;rw[he,Int.toNat_natCast];have:=ho _ (List.getElem?_eq_getElem hk);rw[List.getElem?_eq_getElem hk];exact decide_eq_true this
   rw[List.filter_cons_of_neg (by rw[a1];decide),List.filter_cons_of_pos (by rw[beq_iff_eq];exact he),List.filter_cons_of_pos a2,List.length_cons,List.length_cons];omega
  ·
   have a1:openE (out.set k x) e=openE out e:=by
    unfold openE;rw[List.getElem?_set_ne (by omega)]
   cases a2:openE out e
   ·
    rw[List.filter_cons_of_neg (by rw[a1,a2];decide),List.filter_cons_of_neg (by rw[beq_iff_eq];exact he),List.filter_cons_of_neg (by rw[a2];decide)];exact ih
   ·
    rw[List.filter_cons_of_pos (by rw[a1,a2]),List.filter_cons_of_neg (by rw[beq_iff_eq];exact he),List.filter_cons_of_pos a2,List.length_cons,List.length_cons];omega
def HeapOk (l:List NodeD):Prop:= ∀ (i:Nat) (x y:NodeD),0<i→l[i]? =some x→l[(i-1) / 2]? =some y→y.len≤x.len
def UpAt (l:List NodeD) (i:Nat):Prop:=
 (∀ (j:Nat) (x y:NodeD),0<j→j≠i→l[j]? =some x→l[(j-1) / 2]? =some y→y.len≤x.len)∧
 (∀ (j:Nat) (x y:NodeD),0<j→(j-1) / 2=i→0<i→l[j]? =some x→l[(i-1) / 2]? =some y→y.len≤x.len)
def DownAt (l:List NodeD) (i:Nat):Prop:=
 (∀ (j:Nat) (x y:NodeD),0<j→(j-1) / 2≠i→l[j]? =some x→l[(j-1) / 2]? =some y→y.len≤x.len)∧
 (∀ (j:Nat) (x y:NodeD),0<j→(j-1) / 2=i→0<i→l[j]? =some x→l[(i-1) / 2]? =some y→y.len≤x.len)
theorem root_min {l:List NodeD} (h:HeapOk l): ∀ (i:Nat) (x y:NodeD),l[i]? =some x→l[0]? =some y→y.len≤x.len:=by
 intro i;induction i using Nat.strongRecOn with
 |ind i ih=>
  intro x y hx hy;by_cases h0:i=0
  ·
   subst h0;rw[hx]at hy;cases hy
   exact Int.le_refl _
  ·
   have hlt:(i-1) / 2<i:=by omega
   have hl:(i-1) / 2<l.length:=by have:=(List.getElem?_eq_some_iff.1 hx).1;omega
   have a:=h i x _ (by omega) hx (List.getElem?_eq_getElem hl);have b:=ih _ hlt _ y (List.getElem?_eq_getElem hl) hy;exact Int.le_trans b a
def swp (l:List NodeD) (i k:Nat) (a b:NodeD):List NodeD:=(l.set i b).set k a
section
variable {l:List NodeD} {i k:Nat} {a b:NodeD}
theorem swp_len:(swp l i k a b).length=l.length:=by unfold swp;rw[List.length_set,List.length_set]
theorem swp_at (hi:l[i]? =some a) (hk:l[k]? =some b) (j:Nat):(swp l i k a b)[j]? =if j=k then some a else if j=i then some b else l[j]? :=by
 have h1:=(List.getElem?_eq_some_iff.1 hi).1;have h2:=(List.getElem?_eq_some_iff.1 hk).1;unfold swp;by_cases e:j=k
 ·
  subst e;rw[if_pos rfl,List.getElem?_set_self (by rw[List.length_set];exact h2)]
 ·
  rw[if_neg e,List.getElem?_set_ne (fun q=>e q.symm)];by_cases e':j=i
  ·
   subst e';rw[if_pos rfl,List.getElem?_set_self h1]
  · rw[if_neg e',List.getElem?_set_ne (fun q=>e' q.symm)]
theorem swp_mem (hi:l[i]? =some a) (hk:l[k]? =some b) (z:NodeD):z∈swp l i k a b↔z∈l:=by
 constructor
 ·
  intro h;obtain⟨j,hj⟩:=List.getElem?_of_mem h;rw[swp_at hi hk]at hj;split at hj
  · cases hj;exact List.mem_of_getElem? hi
  ·
   split at hj
   · cases hj;exact List.mem_of_getElem? hk
   · exact List.mem_of_getElem? hj
 ·
  intro h;obtain⟨j,hj⟩:=List.getElem?_of_mem h;by_cases e:j=k
  ·
   subst e;rw[hk]at hj;cases hj
   refine List.mem_of_getElem? (i:=i) ?_;rw[swp_at hi hk];split
   ·
    rename_i e;subst e;rw[hi]at hk;exact hk
   · rw[if_pos rfl]
  ·
   by_cases e':j=i
   ·
    subst e';rw[hi]at hj;cases hj
    refine List.mem_of_getElem? (i:=k) ?_;rw[swp_at hi hk,if_pos rfl]
   ·
    refine List.mem_of_getElem? (i:=j) ?_;rw[swp_at hi hk,if_neg e,if_neg e'];exact hj
end
theorem up_new {l:List NodeD} (h:HeapOk l) (x:NodeD):UpAt (l++[x]) l.length:=by
 constructor
 ·
  intro j a b h0 hj ha hb;have hl:=(List.getElem?_eq_some_iff.1 ha).1;rw[List.length_append,List.length_singleton]at hl;rw[List.getElem?_append_left (by omega)]at ha;rw[List.getElem?_append_left (by omega)]at hb;exact h j a b h0 ha hb
 ·
  intro j a b h0 hj hi ha hb;have hl:=(List.getElem?_eq_some_iff.1 ha).1;rw[List.length_append,List.length_singleton]at hl;omega
theorem up_done0 {l:List NodeD} (h:UpAt l 0):HeapOk l:=fun i x y h0 hx hy=>h.1 i x y h0 (by omega) hx hy
theorem up_done {l:List NodeD} {i:Nat} {a b:NodeD} (h:UpAt l i) (ha:l[i]? =some a) (hb:l[(i-1) / 2]? =some b) (hab:b.len≤a.len):HeapOk l:=fun j x y h0 hx hy=>by
 by_cases e:j=i
 ·
  subst e;rw[ha]at hx;rw[hb]at hy;cases hx
  cases hy
  exact hab
 · exact h.1 j x y h0 e hx hy
theorem up_step {l:List NodeD} {i:Nat} {a b:NodeD} (h:UpAt l i) (hi0:0<i) (ha:l[i]? =some a) (hb:l[(i-1) / 2]? =some b) (hab:a.len≤b.len):UpAt (swp l i ((i-1) / 2) a b) ((i-1) / 2):=by
 have hlt:(i-1) / 2<i:=by omega
 constructor
 ·
  intro j x y h0 hj hx hy;rw[swp_at ha hb]at hx hy;rw[if_neg hj]at hx;by_cases e:j=i
  ·
   subst e;rw[if_pos rfl]at hx hy;cases hx
   cases hy
   exact hab
  ·
   rw[if_neg e]at hx;by_cases e2:(j-1) / 2=(i-1) / 2
   ·
    rw[if_pos e2]at hy;cases hy
    have:=h.1 j x b h0 e hx (by rw[e2];exact hb);omega
   ·
    rw[if_neg e2]at hy;by_cases e3:(j-1) / 2=i
    ·
     rw[if_pos e3]at hy;cases hy
     exact h.2 j x b h0 e3 hi0 hx hb
    ·
     rw[if_neg e3]at hy;exact h.1 j x y h0 e hx hy
 ·
  intro j x y h0 hj hp hx hy;rw[swp_at ha hb]at hx hy;rw[if_neg (by omega),if_neg (by omega)]at hy;have q:y.len≤b.len:=h.1 ((i-1) / 2) b y hp (by omega) hb hy;by_cases e:j=(i-1) / 2
  · omega
  ·
   rw[if_neg e]at hx;by_cases e2:j=i
   ·
    rw[if_pos e2]at hx;cases hx
    exact q
   ·
    rw[if_neg e2]at hx;have:=h.1 j x b h0 e2 hx (by rw[hj];exact hb);omega
theorem down_done {l:List NodeD} {i:Nat} (h:DownAt l i) (hb: ∀ (j:Nat) (x y:NodeD),0<j→(j-1) / 2=i→l[j]? =some x→l[i]? =some y→y.len≤x.len):HeapOk l:=fun j x y h0 hx hy=>by
 by_cases e:(j-1) / 2=i
 · exact hb j x y h0 e hx (by rw[←e];exact hy)
 · exact h.1 j x y h0 e hx hy
theorem down_step {l:List NodeD} {i k:Nat} {a b:NodeD} (h:DownAt l i) (hk:(k-1) / 2=i) (hk0:0<k) (ha:l[i]? =some a) (hb:l[k]? =some b) (hba:b.len≤a.len)
  (hmin: ∀ (j:Nat) (x:NodeD),0<j→(j-1) / 2=i→l[j]? =some x→b.len≤x.len):DownAt (swp l i k a b) k:=by
 have hik:i<k:=by omega
 constructor
 ·
  intro j x y h0 hj hx hy;rw[swp_at ha hb]at hx hy;rw[if_neg hj]at hy;by_cases e:j=k
  ·
   rw[if_pos e]at hx;cases hx
   rw[e,hk,if_pos rfl]at hy;cases hy
   exact hba
  ·
   rw[if_neg e]at hx;by_cases e2:j=i
   ·
    rw[if_pos e2]at hx;cases hx
    rw[if_neg (by omega)]at hy;exact h.2 k b y hk0 hk (by omega) hb (by rw[←e2];exact hy)
   ·
    rw[if_neg e2]at hx;by_cases e3:(j-1) / 2=i
    ·
     rw[if_pos e3]at hy;cases hy
     exact hmin j x h0 e3 hx
    ·
     rw[if_neg e3]at hy;exact h.1 j x y h0 e3 hx hy
 ·
  intro j x y h0 hj _ hx hy;rw[hk]at hy;rw[swp_at ha hb]at hx hy;rw[if_neg (by omega),if_pos rfl]at hy;cases hy
  rw[if_neg (by omega),if_neg (by omega)]at hx;exact h.1 j x b h0 (by omega) hx (by rw[hj];exact hb)
theorem down_new {l:List NodeD} {a b:NodeD} (h:HeapOk l) (ha:l[0]? =some a) (hb:l[l.length-1]? =some b):DownAt ((swp l 0 (l.length-1) a b).take (l.length-1)) 0:=by
 constructor
 ·
  intro j x y h0 hj hx hy;have hl:=(List.getElem?_eq_some_iff.1 hx).1;rw[List.length_take,swp_len]at hl;rw[List.getElem?_take_of_lt (by omega),swp_at ha hb,if_neg (by omega),if_neg (by omega)]at hx;rw[List.getElem?_take_of_lt (by omega),swp_at ha hb,if_neg (by omega),if_neg hj]at hy;exact h j x y h0 hx hy
 ·
  intro j x y h0 hj h1;omega
theorem pop_mem {l:List NodeD} {a b:NodeD} (ha:l[0]? =some a) (hb:l[l.length-1]? =some b):
  (∀ y∈(swp l 0 (l.length-1) a b).take (l.length-1),y∈l)∧(∀ y∈l,y=a∨y∈(swp l 0 (l.length-1) a b).take (l.length-1)):=by
 refine⟨fun y hy=>(swp_mem ha hb y).1 (List.mem_of_mem_take hy),fun y hy=>?_⟩;have hl:=(List.getElem?_eq_some_iff.1 ha).1;obtain⟨j,hj⟩:=List.getElem?_of_mem ((swp_mem ha hb y).2 hy);have hjl:=(List.getElem?_eq_some_iff.1 hj).1;rw[swp_len]at hjl;by_cases e:j=l.length-1
 ·
  rw[swp_at ha hb,if_pos e]at hj;cases hj
  exact .inl rfl
 ·
  refine .inr (List.mem_of_getElem? (i:=j) ?_);rw[List.getElem?_take_of_lt (by omega)];exact hj
end Go.Proofs.YtncbcmiflffakaaGreat.Dj
