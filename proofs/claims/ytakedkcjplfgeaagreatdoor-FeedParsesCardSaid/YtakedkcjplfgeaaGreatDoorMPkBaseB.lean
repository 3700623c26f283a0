/- Contracts, proved. Conditions: theirs. -/
import Derived.Test.YtakedkcjplfgeaaGreatDoorRows
import Derived.Test.YtakedkcjplfgeaaGreatDoorMPkPlain
import Derived.Test.YtakedkcjplfgeaaGreatDoorMPkBase
import Derived.WalkSpells
import Derived.WalkLawsBesides
import Derived.Lib.SmallJoins
import Derived.BigQuiet
import Derived.Deep.RegionHeld3
import Derived.Deep.DeepCutAuto
import Derived.Laws.CopyOwn
set_option maxRecDepth 1000000
set_option maxHeartbeats 32000000
namespace Go.Proofs.YtakedkcjplfgeaaGreatDoor
open Go.RowKit
open Frq Thr
def zB (n:Int):Prop:= -9223372036854775808<=n/\n<=9223372036854775807
theorem qR {k:IntKind} {a b:Int} (h:a=b):Ending.returned (.int k a)=.returned (.int k b):=by rw[h]
theorem qO {a b:Bool} (h:a=b):Ending.returned (a:Z)=.returned (b:Z):=by rw[h]
def callCells (c:CallD):List Value:=[c.stop,c.arrive,c.depart,c.board,c.alight]
theorem Zw (c:CallD):(callCells c).length=5:=rfl
abbrev CallsIn (B:Nat) (w:World) (v:Value) (cs:List CallD):Prop:=jA callCells 5 B w v cs
def Ik (c:CallD):Prop:=zB c.arrive/\zB c.depart
theorem Ky {α:Type} (cells:α->List Value) (l:List α) (x:α):(l++[x]).flatMap cells=l.flatMap cells++cells x:=σ
theorem ql {α:Type} {l:List α} {k:Nat} {x:α} (h:l[k]? =some x):l.take (k+1)=l.take k++[x]:=by
 obtain⟨hk,rfl⟩:=Uw.1 h;rw[List.take_succ_eq_append_getElem hk]
def qi (x:Int):List Value:=[x]
theorem kY (x:Int):(qi x).length=1:=rfl
abbrev Wy (B:Nat) (w:World) (v:Value) (xs:List Int):Prop:=jA qi 1 B w v xs
def qj (f:FreqD):List Value:=[f.trip,f.frm,f.to,f.every]
theorem bC (f:FreqD):(qj f).length=4:=rfl
abbrev xG (B:Nat) (w:World) (v:Value) (fs:List FreqD):Prop:=jA qj 4 B w v fs
theorem Yq {α:Type} {p:α->Bool} {l:List α} {k:Nat} {x:α} (h:l[k]? =some x) (h1:(l.take k).any p=false):(l.take (k+1)).any p=p x:=by
 rw[ql h,List.any_append,h1];simp
theorem Zb {α:Type} {p:α->Bool} {l:List α} {k:Nat} {x:α} (h:l[k]? =some x) (h1:p x=true):l.any p=true:=List.any_eq_true.2 ⟨x,Uz h,h1⟩
structure TripD where
 id:Φ
 rt:Int
 cal:Int
 step:Bool
 v:Value
 calls:List CallD
def tripCells (t:TripD):List Value:=[t.id,t.rt,t.cal,t.step,t.v]
theorem QZ (t:TripD):(tripCells t).length=5:=rfl
theorem vJ {α:Type} {cells:α->List Value} {sz:Nat} (hsz: ∀ x,(cells x).length=sz) (xs:List α) (w:World) (C:Array Value) (T:TypeId) (n cap:Nat) (hn:xs.length=n) (hc:n<=cap) (hcap:cap<=maxLen) (hC:C.toList=xs.flatMap cells):
  jA cells sz (w.alloc (.cells C T)).heap.size (w.alloc (.cells C T)) ((w.heap.size,0,n,cap):Z) xs:=by
 refine⟨_,cap,by rw[hn],ω,hcap,λ_=>⟨w.heap.size,0,rfl,σ,λi x hx j u hu=>?_⟩⟩;rw[Uy (hn:=rfl)];have:=XY hsz hx hu;rw[<-hC,Array.getElem?_toList]at this;rw[show 0+i*sz+j=i*sz+j by omega];exact this
structure fP (B:Nat) (w:World) (t:TripD):Prop where
 calls:CallsIn B w t.v t.calls
 ok: ∀ c∈t.calls,Ik c
structure vP (B:Nat) (w:World) (v:Value) (ts:List TripD):Prop where
 sl:jA tripCells 5 B w v ts
 ok: ∀ t∈ts,fP B w t
theorem fP.bl {B:Nat} {w w':World} {t:TripD} (h:fP B w t) (hb:Bl w w') (hB:B<=w.heap.size):fP B w' t:=⟨h.calls.below (hb.mono hB),h.ok⟩
theorem vP.bl {B:Nat} {w w':World} {v:Value} {ts:List TripD} (h:vP B w v ts) (hb:Bl w w') (hB:B<=w.heap.size):vP B w' v ts:=
 ⟨h.sl.below (hb.mono hB),λt ht=>(h.ok t ht).bl hb hB⟩
def kV (x:ThrD):List Value:=[x.frm,x.to]
theorem ig (x:ThrD):(kV x).length=2:=rfl
abbrev Vu (B:Nat) (w:World) (v:Value) (xs:List ThrD):Prop:=jA kV 2 B w v xs
def kU (x:wL):List Value:=[x.frm,x.to,x.stop]
theorem gY (x:wL):(kU x).length=3:=rfl
abbrev Ec (B:Nat) (w:World) (v:Value) (xs:List wL):Prop:=jA kU 3 B w v xs
section
variable {α:Type} {cells:α->List Value} {sz B:Nat} {w:World} {v:Value} {xs:List α}
theorem jA.val (h:jA cells sz B w v xs): ∃ (a:Option Addr) (cap:Nat),v=.slice a xs.length cap/\xs.length<=cap/\cap<=9223372036854775807:=by
 obtain⟨a,cap,rfl,h1,h2,-⟩:=h;exact⟨a,cap,rfl,h1,by unfold maxLen at h2;exact h2⟩
theorem jA.get {a:Option Addr} {n cap:Nat} (h:jA cells sz B w (.slice a n cap) xs) {k:Nat} (hk:k<xs.length) {w':World} (hb:Bl w w') (hB:B<=w.heap.size):
  ∃ (b o:Nat) (x:α),a=some ((b,o):A)/\b<w'.heap.size/\xs[k]? =some x/\ ∀ (j:Nat) (u:Value),(cells x)[j]? =some u->w'.cell? (b,o+k*sz+j)=some u:=by
 obtain⟨b,o,cap',x,hv,-,-,hbB,hx,hc⟩:=h.at hk;simp only[Value.slice.injEq]at hv;have:=hb.size;exact⟨b,o,x,hv.1,ω,hx,λj u hu=>((qG hb).1 _ _ ω).trans (hc j u hu)⟩
theorem jA.take {a:Option Addr} {n cap:Nat} (h:jA cells sz B w (.slice a n cap) xs) {k:Nat} (hk:k<=xs.length):jA cells sz B w (.slice a k cap) (xs.take k):=by
 obtain⟨a',cap',hv,h1,h2,h3⟩:=h;simp only[Value.slice.injEq]at hv;obtain⟨rfl,-,rfl⟩:=hv;have hl:(xs.take k).length=k:=by rw[List.length_take];omega
 refine⟨a,cap,by rw[hl],ω,h2,λh0=>?_⟩;obtain⟨b,o,ha,hbB,hc⟩:=h3 ω;refine⟨b,o,ha,hbB,λi x hx=>?_⟩;have hik:i<(xs.take k).length:=(Uw.1 hx).1;rw[List.getElem?_take_of_lt ω]at hx;exact hc i x hx
theorem jA.o (h:jA cells sz B w v xs) {w':World} (hb:Bl w w') (hB:B<=w.heap.size):jA cells sz B w' v xs:=h.below (hb.mono hB)
end
def trpOf (t:TripD):TrpD:=⟨t.cal,t.calls⟩
theorem J3 {ts:List TripD} {k:Int} {t:TripD} (h:ts[k.toNat]? =some t):Zc (ts.map trpOf) k=trpOf t:=by
 unfold Zc;rw[List.getElem?_map,h];rfl
end Go.Proofs.YtakedkcjplfgeaaGreatDoor
namespace Go.Proofs.YtakedkcjplfgeaaGreatDoor
open Go.RowKit
theorem lM (b o j:Nat):(((b,o):Addr).add j)=((b,o+j):A):=by
 unfold Addr.add;split
 · rename_i h;subst h;rfl
 rfl
theorem sV {α:Type} {cells:α->List Value} {sz:Nat} (hsz: ∀ x,(cells x).length=sz) {w:World} {b:Nat} (xs:List α) (o:Nat)
  (h: ∀ (i:Nat) (x:α),xs[i]? =some x-> ∀ (j:Nat) (u:Value),(cells x)[j]? =some u->w.cell? (b,o+i*sz+j)=some u):
  ∀ (j:Nat) (v:Value),(xs.flatMap cells)[j]? =some v->w.cell? (((b,o):Addr).add j)=some v:=by
 induction xs generalizing o with
 |nil=>intro j v hj;simp at hj
 |cons y ys ih=>
  intro j v hj;rw[List.flatMap_cons]at hj;rcases Nat.lt_or_ge j sz with k|k
  ·
   rw[List.getElem?_append_left (by rw[hsz];exact k)]at hj;have:=h 0 y rfl j v hj;rw[lM,show o+j=o+0*sz+j by omega];exact this
  rw[List.getElem?_append_right (by rw[hsz];exact k),hsz]at hj;have:=ih (o+sz) (λi x hx j u hu=>by
   have:=h (i+1) x (by simpa using hx) j u hu;rw[Nat.add_mul,Nat.one_mul]at this;rw[show o+sz+i*sz+j=o+(i*sz+sz)+j by omega];exact this) (j-sz) v hj
  rw[lM]at this ⊢;rw[show o+j=o+sz+(j-sz) by omega];exact this
theorem aH {P:Program} (w:World) (dT sT ty elem:TypeId) (g n dCap sCap:Nat) (a:Addr) (cur:Array Value) (t:TypeId) (cs:List Value) (sz:Nat)
  (hu:P.underlying dT=some (.slice elem)) (hs:(P.info? elem).map (·.size)=some sz)
  (hg:w.heap[g]? =some (.cells cur t (0,0))) (hn:cs.length=n*sz)
  (hsrc: ∀ j v,cs[j]? =some v->w.cell? (a.add j)=some v) (hfit:cs.length<=cur.size) (h1: ∀ v∈cs,v.oneCell'=true):
  (Builtin.copy_ #[dT,sT] ty #[(g,0,n,dCap),.slice (some a) n sCap]).run P w=
   .ok (goInt n) (w.setRow g (cs++cur.toList.drop cs.length).toArray):=by
 have hl:=run_loadCells_list (P:=P) w a cs hsrc;have hst:=run_storeCells_at P g 0 t cs 0 cur w hg (by simpa using hfit) h1;simp only[Nat.zero_add,List.take_zero,List.nil_append]at hst;cases hq:P.info? elem with
 |none=>simp[hq]at hs
 |some i=>
  have hi:i.size=sz:=by simpa[hq]using hs
  have hm:Nat.min n n=n:=Nat.min_self n;simp[Builtin.copy_,run_underlying hu,Builtin.lenOf,Builtin.firstCells,sizeOf,typeInfo,hq,hi,hm,<-hn,hl,hst]
theorem VU {P:Program} {w:World} {ops:Array Oper} {rest:List Oper} {o:Oper} {a:Act} {Q:Exit->Act->World->Prop} (hgd:o.guard=none) (d s:Operand) (dT sT:TypeId)
  (ho:o.op=.call { callee:=.builtin .copy,args:= #[d,s],argTypes:= #[dT,sT] }) (elem:TypeId) (hu:P.underlying dT=some (.slice elem)) (sz:Nat) (hsz:(P.info? elem).map (·.size)=some sz)
  (base g n cap sCap:Nat) (ad:Addr) (hd:a.eval d=((g,0,n,cap):Z)) (hs:a.eval s=.slice (some ad) n sCap)
  (xs:List Value) (hown:w.ownsRow base elem sz ((g,0,n,cap):Z) n xs) (cs:List Value) (hn:cs.length=n*sz)
  (hsrc: ∀ j v,cs[j]? =some v->w.cell? (ad.add j)=some v) (h1: ∀ v∈cs,v.oneCell'=true)
  (h: ∀ w',w'.ownsRow base elem sz ((g,0,n,cap):Z) n cs->w.grownBy w' (some g)->wpList P ops Q rest (a.put o.dst (goInt n)) w'):wpList P ops Q (o::rest) a w:=by
 refine wpList_plain hgd λK hK=>?_
 obtain⟨hl,hx⟩:=hown;rcases hx with⟨hv,_⟩|⟨g',cap',cur,hv,hb,hg,hnc,hm,hcs,ht⟩
 · simp at hv
 simp only[Value.slice.injEq,qAA,Addr.mk.injEq,and_true,true_and]at hv;obtain⟨rfl,rfl⟩:=hv;have hle:n*sz<=cur.size:=by rw[hcs];exact Nat.mul_le_mul_right _ hnc
 have hrun:=aH (P:=P) w dT sT o.type elem g n cap sCap ad cur elem cs sz hu hsz hg hn hsrc ω h1;unfold Oper.wp;simp[execOp,ho,resolve,invoke,builtin,hd,hs,hrun,Result.andThen]
 refine hK _ _ (h _ ⟨hn,.inr ⟨g,cap,_,rfl,hb,setRow_heap w g _ _ elem _ hg,hnc,hm, ?_, ?_⟩⟩ ⟨rfl,rfl,rfl,by simp[World.setRow],λk _ hk=>setRow_other w g k _ (λe=>hk (by rw[e]))⟩)
 ·
  simp
  omega
 rw[<-hn];simp
end Go.Proofs.YtakedkcjplfgeaaGreatDoor
namespace Go.Proofs.YtakedkcjplfgeaaGreatDoor
open Go.RowKit Go.Maps Go.MapKept
open Go.Maps (Keyed)
def jE (w:World) (P:Program) (k e:TypeId) (b n:Nat) (S:Lit->Bool):Prop:=
 ∃ D:DataW Unit,w.ownsMap P k (plainElem P e) b n D/\IsMap D/\ ∀ kl,WideAt.IsKeyLit kl->D.atKey kl (.lit (.bool false))= .lit (.bool (S kl))
def wY (S:Lit->Bool) (kl:Lit):Lit->Bool:=λl=>l.sameKey kl||S l
theorem xq (S:Lit->Bool) {kl:Lit} (h:WideAt.IsKeyLit kl):wY S kl kl=true:=by unfold wY;rw[WideAt.sameKey_self h];rfl
theorem xu {S:Lit->Bool} {kl l:Lit} (h:l≠kl):wY S kl l=S l:=by unfold wY;rw[Maps.sameKey_ne h];rfl
theorem Yb {P:Program} {e:TypeId} (he:P.underlying e=some .bool) {v:Value} {z:DataW Unit×List MemPlace} (h:plainElem P e v=some z): ∃ c,v= .bool c/\z=(.lit (.bool c),[]):=by
 unfold plainElem at h;rw[he]at h;cases v<;>simp at h
 exact⟨_,rfl,h.symm⟩
section
variable {P:Program} {k e t:TypeId} {w:World} {b n:Nat} {S:Lit->Bool}
theorem je (w:World) (P:Program) (k e:TypeId):jE (w.alloc (.map #[] 0)) P k e w.heap.size 0 (λ_=>false):=
 ⟨.map [],World.ownsMap_made _ _ _ _,isMap_empty,λ_ _=>rfl⟩
theorem jE.lt (h:jE w P k e b n S):b<w.heap.size:=by obtain⟨D,h,-⟩:=h;exact h.lt
theorem jE.kept {w':World} (h:jE w P k e b n S) (hb:w'.heap[b]? =w.heap[b]?):jE w' P k e b n S:=by
 obtain⟨D,⟨es,clock,h1,h2⟩,h3⟩:=h;exact⟨D,⟨es,clock,hb.trans h1,h2⟩,h3⟩
theorem jE.bl {w':World} (h:jE w P k e b n S) (hb:Bl w w'):jE w' P k e b n S:=h.kept (hb.block b h.lt)
theorem jE.grown {w':World} {row:Option Nat} (h:jE w P k e b n S) (hg:w.grownBy w' row) (hne:some b≠row):jE w' P k e b n S:=by
 obtain⟨D,h1,h2⟩:=h;exact⟨D,h1.kept hg hne,h2⟩
theorem jE.mono (h:jE w P k e b n S) {n':Nat} (hn:n<=n'):jE w P k e b n' S:=by
 obtain⟨D,h1,h2⟩:=h;exact⟨D,h1.mono hn,h2⟩
theorem jE.look (h:jE w P k e b n S) (K:Keyed P k) (ht:P.underlying t=some (.map k e)) (he:P.underlying e=some .bool) (hz:(zeroValue e).run P w=.ok (false:Z) w) {key:Value} {kl:Lit} (hkey:keyOf P k key=some kl):
  (Instr.lookup t (.map (some b)) key false).run P w=.ok (.bool (S kl)) w:=by
 obtain⟨D,h1,h2,h3⟩:=h;obtain⟨v,ps,hrun,hv⟩:=h1.lookup K ht hz (plainElem_bool he false) hkey;obtain⟨c,rfl,hc⟩:=Yb he hv;rw[h3 kl (K.key hkey)]at hc;simp only[qAF,DataW.lit.injEq,Lit.bool.injEq]at hc;rw[hc.1];exact hrun
theorem jE.put (h:jE w P k e b n S) (K:Keyed P k) (ht:P.underlying t=some (.map k e)) (he:P.underlying e=some .bool) (hn:n<maxLen) {key:Value} {kl:Lit} (hkey:keyOf P k key=some kl):
  ∃ w',(Instr.mapUpdate t (.map (some b)) key (true:Z)).run P w=.ok () w'/\jE w' P k e b (n+1) (wY S kl)/\w.grownBy w' (some b):=by
 obtain⟨D,h1,h2,h3⟩:=h;obtain⟨w',hrun,r1,r2⟩:=h1.update K ht hn hkey (plainElem_bool he true);refine⟨w',hrun,⟨_,r1,h2.put _ _,λl hl=>?_⟩,r2⟩;by_cases hlk:l=kl
 · rw[hlk,atKey_put_same h2 (K.key hkey),xq S (K.key hkey)]
 rw[atKey_put_other hlk,h3 l hl,xu hlk]
end
