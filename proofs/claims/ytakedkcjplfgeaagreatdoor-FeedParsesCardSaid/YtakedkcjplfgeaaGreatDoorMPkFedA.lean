/- Contracts, proved. Conditions: theirs. -/
import Derived.Test.YtakedkcjplfgeaaGreatDoorMPkFldA
import Derived.Test.YtakedkcjplfgeaaGreatDoorMPkFqA
set_option maxRecDepth 1000000
set_option maxHeartbeats 32000000
open Go.Proofs.Tryz
namespace Go.Proofs.YtakedkcjplfgeaaGreatDoor
open Go.RowKit
open Frq Thr Tt
def jY (x:ZH):List Value:=[qP x.id,x.zone,x.free,x.change]
theorem bP (x:ZH):(jY x).length=4:=rfl
def jP (x:xy):List Value:=[qP x.id,x.mode,x.bikes]
theorem aG (x:xy):(jP x).length=3:=rfl
def kD (x:Yj):List Value:=[qP x.id,x.week.d0,x.week.d1,x.week.d2,x.week.d3,x.week.d4,x.week.d5,x.week.d6,x.frm,x.to]
theorem fV (x:Yj):(kD x).length=10:=rfl
def kE (x:Yk):List Value:=[x.cal,x.day,x.added]
theorem gK (x:Yk):(kE x).length=3:=rfl
def zt (x:Qq):List Value:=[x.frm,x.to,x.secs,x.free]
theorem bJ (x:Qq):(zt x).length=4:=rfl
def zu (x:JA):List Value:=[qP x.id,x.price,x.rides,x.zones,x.secs,x.modes]
theorem bM (x:JA):(zu x).length=6:=rfl
def xOf (t:TripD):TripX:=⟨t.id.data.toList,t.rt,t.cal,t.step,t.calls⟩
structure TtV where
 stops:Value
 routes:Value
 cals:Value
 excs:Value
 trips:Value
 freqs:Value
 thrus:Value
 guars:Value
 paths:Value
 prods:Value
def FZ (p:Value) (f:Jp):Value:=.agg #[p,f.disc,f.within,f.cap]
def JP (V:TtV) (t:TtD):Value:=.agg #[V.stops,V.routes,V.cals,V.excs,V.trips,V.freqs,V.thrus,V.guars,V.paths,V.prods,t.fares.disc,t.fares.within,t.fares.cap]
structure yA (B:Nat) (w:World) (V:TtV) (ts:List TripD) (t:TtD):Prop where
 stops:jA jY 4 B w V.stops t.stops
 routes:jA jP 3 B w V.routes t.routes
 cals:jA kD 10 B w V.cals t.cals
 excs:jA kE 3 B w V.excs t.excs
 trips:vP B w V.trips ts
 same:t.trips=ts.map xOf
 freqs:jA qj 4 B w V.freqs (t.freqs.map zS)
 thrus:jA kV 2 B w V.thrus (t.thrus.map ja)
 guars:jA kU 3 B w V.guars t.guars
 paths:jA zt 4 B w V.paths t.paths
 prods:jA zu 6 B w V.prods t.fares.prods
end Go.Proofs.YtakedkcjplfgeaaGreatDoor
namespace Go.Proofs.YtakedkcjplfgeaaGreatDoor
open Go.RowKit Go.Maps Go.MapKept
open Go.Maps (Keyed)
open Tt
theorem Z8 {x:Int} (h:zB x):(Lit.int .i64 x).wf=true:=by
 unfold zB at h;exact WalkArith.wf_i64 ω
theorem xM:Keyed prog 9:=Go.Maps.string_keyed underlying9
theorem xJ {x:Ψ} (h:x.length<=9223372036854775807):keyOf prog 9 (qP x)=some (.string x):=by
 have h':(⟨x.toArray⟩:Φ).size<=maxLen:=by show x.toArray.size<=_;rw[List.size_toArray];unfold maxLen;omega
 simp[keyOf,underlying9,mapKey,h']
abbrev Zv (w:World) (b n:Nat) (S:Lit->Bool):Prop:=jE w prog 9 4 b n S
def QV (l:List Ψ) (S:Lit->Bool):Prop:= ∀ x:Ψ,S (.string x)=l.any λy=>y==x
theorem Ql:QV [] (λ_=>false):=λ_=>rfl
theorem uk (S:Lit->Bool) (a x:Ψ):wY S (.string a) (.string x)=(S (.string x)||(a==x)):=by
 by_cases h:x=a
 · rw[h,xq _ (by trivial)];simp
 rw[xu η,show(a==x)=false by rw[U0];exact λe=>h e.symm,Bool.or_false]
theorem QV.snoc {l:List Ψ} {S:Lit->Bool} (h:QV l S) (a:Ψ):QV (l++[a]) (wY S (.string a)):=λx=>by
 rw[uk,h x,List.any_append];simp
structure lG (D:DataW Unit) (ids:List Ψ):Prop where
 map:IsMap D
 has: ∀ x:Ψ,Maps.has D (.string x)=(qm x ids).isSome
 at': ∀ x:Ψ,D.atKey (.string x) (.lit (.int .i64 0))= .lit (.int .i64 (((qm x ids).getD 0:Nat):Int))
theorem GI:lG (.map []) []:=⟨isMap_empty,λ_=>rfl,λ_=>rfl⟩
theorem Jb (x y:Ψ) (l:List Ψ):qm x (y::l)=if y=x then some 0 else(qm x l).map (· +1):=rfl
theorem ZF (x:Ψ): ∀ (l m:List Ψ),qm x (l++m)=match qm x l with
  |some i=>some i
  |none=>(qm x m).map (· +l.length)
 |[],m=>by
  show qm x m=(qm x m).map (· +0)
  cases qm x m<;>rfl
 |y::l,m=>by
  rw[List.cons_append,Jb,Jb];split
  · rfl
  rw[ZF x l m];cases qm x l with
  |some i=>rfl
  |none=>
   cases qm x m with
   |none=>rfl
   |some j=>rfl
theorem lG.old {D:DataW Unit} {ids:List Ψ} (h:lG D ids) {a:Ψ} {i:Nat} (ha:qm a ids=some i):lG D (ids++[a]):=by
 have e: ∀ x,qm x (ids++[a])=qm x ids:=λx=>by
  rw[ZF];cases hx:qm x ids with
  |some j=>rfl
  |none=>
   have hne:a≠x:=λe=>by rw[<-e,ha]at hx;cases hx
   simp only[qm];rw[U5 hne];rfl
 exact⟨h.map,λx=>by rw[e,h.has x],λx=>by rw[e,h.at' x]⟩
theorem lG.new {D:DataW Unit} {ids:List Ψ} (h:lG D ids) {a:Ψ} (ha:qm a ids=none):lG (D.put (.string a) (.lit (.int .i64 (ids.length:Int)))) (ids++[a]):=by
 have e: ∀ x,x≠a->qm x (ids++[a])=qm x ids:=λx hx=>by
  rw[ZF];cases hx':qm x ids with
  |some j=>rfl
  |none=>
   simp only[qm];rw[U5 (λe=>hx e.symm)];rfl
 have e2:qm a (ids++[a])=some ids.length:=by
  rw[ZF,ha];simp[qm]
 refine⟨h.map.put _ _,λx=>?_,λx=>?_⟩
 ·
  by_cases hx:x=a
  · rw[hx,has_put_same h.map (by trivial),e2];rfl
  rw[has_put_other (by simpa using hx),e x hx,h.has x]
 by_cases hx:x=a
 · rw[hx,atKey_put_same h.map (by trivial),e2];rfl
 rw[atKey_put_other (by simpa using hx),e x hx,h.at' x]
def qx (w:World) (b n:Nat) (ids:List Ψ):Prop:= ∃ D:DataW Unit,w.ownsMap prog 9 (plainElem prog 3) b n D/\lG D ids
theorem Q3 (w:World):qx (w.alloc (.map #[] 0)) w.heap.size 0 []:=⟨.map [],World.ownsMap_made _ _ _ _,GI⟩
theorem qx.lt {w:World} {b n:Nat} {ids:List Ψ} (h:qx w b n ids):b<w.heap.size:=by obtain⟨D,h,-⟩:=h;exact h.lt
theorem qx.grown {w w':World} {b n:Nat} {ids:List Ψ} {row:Option Nat} (h:qx w b n ids) (hg:w.grownBy w' row) (hne:some b≠row):qx w' b n ids:=by
 obtain⟨D,h1,h2⟩:=h;exact⟨D,h1.kept hg hne,h2⟩
theorem qx.look {w:World} {b n:Nat} {ids:List Ψ} (h:qx w b n ids) {x:Ψ} (hx:x.length<=9223372036854775807):
  (Instr.lookup 70 (.map (some b)) (qP x) true).run prog w= .ok (.tuple #[.int .i64 (((qm x ids).getD 0:Nat):Int), .bool (qm x ids).isSome]) w:=by
 obtain⟨D,h1,h2⟩:=h;have hz:(zeroValue 3).run prog w= .ok (.int .i64 0) w:=κ
 obtain⟨v,ps,hrun,hv⟩:=h1.look_ok xM underlying70 hz (plainElem_int underlying3 δ) (xJ hx);obtain⟨c,rfl,hc,hwc⟩:=plainElem_int_inv underlying3 hv;simp only[qAF]at hc;have e:=hc.1;rw[h2.at' x]at e;rw[h2.has x]at hrun;simp only[DataW.lit.injEq,Lit.int.injEq,true_and]at e;rw[<-e]at hrun;exact hrun
theorem qx.put {w:World} {b n:Nat} {ids:List Ψ} (h:qx w b n ids) (hn:n<maxLen) {a:Ψ} (hx:a.length<=9223372036854775807) (ha:qm a ids=none) (hl:(ids.length:Int)<=9223372036854775807):
  ∃ w',(Instr.mapUpdate 70 (.map (some b)) (qP a) ((ids.length:Int):Z)).run prog w=.ok () w'/\qx w' b (n+1) (ids++[a])/\w.grownBy w' (some b):=by
 obtain⟨D,h1,h2⟩:=h;have hw:(Lit.int .i64 (ids.length:Int)).wf=true:=by
  have:=Z8 (show zB (ids.length:Int) from⟨ω,hl⟩);exact this
 obtain⟨w',hrun,r1,r2⟩:=h1.update xM underlying70 hn (xJ hx) (plainElem_int underlying3 hw);exact⟨w',hrun,⟨_,r1,h2.new ha⟩,r2⟩
theorem qx.old {w:World} {b n:Nat} {ids:List Ψ} (h:qx w b n ids) {a:Ψ} {i:Nat} (ha:qm a ids=some i):qx w b (n+1) (ids++[a]):=by
 obtain⟨D,h1,h2⟩:=h;exact⟨D,h1.mono ω,h2.old ha⟩
end Go.Proofs.YtakedkcjplfgeaaGreatDoor
namespace Go.Proofs.YtakedkcjplfgeaaGreatDoor
open Go.RowKit
open Frq Thr Tt
def pC (u:Value) (e:Int) (vs:Nat->Value) (f:Jp) (mb:Nat->Nat) (rules:Int) (o:Bool):Array Value:=
 #[u,e,vs 0,vs 1,vs 2,vs 3,vs 4,vs 5,vs 6,vs 7,vs 8,vs 9,f.disc,f.within,f.cap,.map (some (mb 0)),.map (some (mb 1)),.map (some (mb 2)),.map (some (mb 3)),vs 10,vs 11,vs 12,vs 13,vs 14,vs 15,vs 16,vs 17,vs 18,vs 19,rules,o]
def Nv (vs:Nat->Value) (k:Nat) (v:Value):Nat->Value:=λi=>if i=k then v else vs i
theorem iw (vs:Nat->Value) (k:Nat) (v:Value):Nv vs k v k=v:=U6 rfl
theorem iy (vs:Nat->Value) {k i:Nat} (h:i≠k) (v:Value):Nv vs k v i=vs i:=U5 h
structure Yn where
 ty:TypeId
 sz:Nat
 n:Nat
 cells:List Value
def qN (s:St) (j:Nat):List Int:=s.lines.getD j []
def jf (s:St) (ts:List TripD):Nat->Yn
 |0=>⟨120,4,s.t.stops.length,s.t.stops.flatMap jY⟩
 |1=>⟨122,3,s.t.routes.length,s.t.routes.flatMap jP⟩
 |2=>⟨61,10,s.t.cals.length,s.t.cals.flatMap kD⟩
 |3=>⟨124,3,s.t.excs.length,s.t.excs.flatMap kE⟩
 |4=>⟨56,5,ts.length,ts.flatMap tripCells⟩
 |5=>⟨126,4,s.t.freqs.length,(s.t.freqs.map zS).flatMap qj⟩
 |6=>⟨128,2,s.t.thrus.length,(s.t.thrus.map ja).flatMap kV⟩
 |7=>⟨130,3,s.t.guars.length,s.t.guars.flatMap kU⟩
 |8=>⟨63,4,s.t.paths.length,s.t.paths.flatMap zt⟩
 |9=>⟨65,6,s.t.fares.prods.length,s.t.fares.prods.flatMap zu⟩
 |k=>⟨3,1,(qN s (k-10)).length,(qN s (k-10)).flatMap qi⟩
def vO (B:Nat) (S:Yn) (v:Value) (w:World):Prop:=w.ownsRow B S.ty S.sz v S.n S.cells
def lI (B:Nat) (v:Value) (cs:List CallD) (w:World):Prop:=w.ownsRow B 58 5 v cs.length (cs.flatMap callCells)
def yX (t:TtD):Nat->List Ψ
 |0=>t.stops.map (·.id)
 |1=>t.routes.map (·.id)
 |2=>t.cals.map (·.id)
 |_=>t.trips.map (·.id)
def rE (ids:Nat->List Ψ) (k:Nat) (l:List Ψ):Nat->List Ψ:=λi=>if i=k then l else ids i
theorem VR (ids:Nat->List Ψ) (k:Nat) (l:List Ψ):rE ids k l k=l:=U6 rfl
theorem wQ (ids:Nat->List Ψ) {k i:Nat} (h:i≠k) (l:List Ψ):rE ids k l i=ids i:=U5 h
structure qAK (M B:Nat) (w:World) (vs:Nat->Value) (ts:List TripD) (mb own:Nat->Nat) (s:St) (ids:Nat->List Ψ):Prop where
 same:s.t.trips=ts.map xOf
 lines:s.lines.length=10
 row: ∀ k,k<20->vO B (jf s ts k) (vs k) w
 lab: ∀ k,k<20-> ∀ b,(vs k).ownBlock=some b->own b=k
 calls: ∀ (i:Nat) (x:TripD),ts[i]? =some x->lI B x.v x.calls w
 ok: ∀ x∈ts,∀ c∈x.calls,Ik c
 labc: ∀ (i:Nat) (x:TripD),ts[i]? =some x-> ∀ b,x.v.ownBlock=some b->own b=100+i
 maps: ∀ j,j<M->qx w (mb j) (ids j).length (ids j)
 labm: ∀ j,j<M->own (mb j)=50+j/\B<=mb j
 four:M<=4
abbrev kT (B:Nat) (w:World) (vs:Nat->Value) (ts:List TripD) (mb own:Nat->Nat) (s:St) (ids:Nat->List Ψ):Prop:=qAK 4 B w vs ts mb own s ids
structure Mv (own:Nat->Nat) (w:World) (own':Nat->Nat) (w':World):Prop where
 os:w'.os=w.os
 tape:w'.tape=w.tape
 output:w'.output=w.output
 size:w.heap.size<=w'.heap.size
 lab: ∀ b,b<w.heap.size->own' b=own b
 block: ∀ b,b<w.heap.size->own b=97∨own b=98->w'.heap[b]? =w.heap[b]?
theorem Mv.refl (own:Nat->Nat) (w:World):Mv own w own w:=⟨rfl,rfl,rfl,U3 _,λ_ _=>rfl,λ_ _ _=>rfl⟩
theorem Mv.trans {o1 o2 o3:Nat->Nat} {a b c:World} (h:Mv o1 a o2 b) (k:Mv o2 b o3 c):Mv o1 a o3 c:=
 ⟨k.os.trans h.os,k.tape.trans h.tape,k.output.trans h.output,Ux h.size k.size,λi hi=>(k.lab i (Nat.lt_of_lt_of_le hi h.size)).trans (h.lab i hi),λi hi hl=>(k.block i (Nat.lt_of_lt_of_le hi h.size) (by rw[h.lab i hi];exact hl)).trans (h.block i hi hl)⟩
theorem Mv.grown {own:Nat->Nat} {w w':World} {row:Option Nat} (hg:w.grownBy w' row) (hr: ∀ b,row=some b->own b≠97/\own b≠98):Mv own w own w':=
 ⟨hg.os,hg.tape,hg.output,hg.size,λ_ _=>rfl,λb hb hl=>hg.block b hb (λe=>by have:=hr b e.symm;omega)⟩
theorem QS {B:Nat} {S:Yn} {v:Value} {w w':World} {row:Option Nat} (h:vO B S v w) (hg:w.grownBy w' row) (hne: ∀ b,v.ownBlock=some b->row≠some b):vO B S v w':=by
 refine World.ownsRow.kept h hg ?_;cases hv:v.ownBlock with
 |none=>exact .inl rfl
 |some k=>exact .inr (λe=>hne k hv e.symm)
theorem xW {B:Nat} {cs:List CallD} {v:Value} {w w':World} {row:Option Nat} (h:lI B v cs w) (hg:w.grownBy w' row) (hne: ∀ b,v.ownBlock=some b->row≠some b):lI B v cs w':=by
 refine World.ownsRow.kept h hg ?_;cases hv:v.ownBlock with
 |none=>exact .inl rfl
 |some k=>exact .inr (λe=>hne k hv e.symm)
section
variable {M B:Nat} {w w':World} {vs:Nat->Value} {ts:List TripD} {mb own:Nat->Nat} {s:St} {ids:Nat->List (List UInt8)}
theorem qAK.kept {row:Option Nat} (h:qAK M B w vs ts mb own s ids) (hg:w.grownBy w' row) (hr: ∀ b,row=some b->97<=own b/\own b<=99):qAK M B w' vs ts mb own s ids where
 same:=h.same
 lines:=h.lines
 row k hk:=QS (h.row k hk) hg (λb hb e=>by have:=h.lab k hk b hb;have:=hr b e;omega)
 lab:=h.lab
 calls i x hx:=xW (h.calls i x hx) hg (λb hb e=>by have:=h.labc i x hx b hb;have:=hr b e;omega)
 ok:=h.ok
 labc:=h.labc
 maps j hj:=(h.maps j hj).grown hg (λe=>by have:=(h.labm j hj).1;have h4:=h.four;have:=hr _ e.symm;omega)
 labm:=h.labm
 four:=h.four
def wO (own:Nat->Nat) (g k:Nat):Nat->Nat:=λb=>if b=g then k else own b
theorem Zm (own:Nat->Nat) (g k:Nat):wO own g k g=k:=U6 rfl
theorem kC (own:Nat->Nat) {g b:Nat} (h:b≠g) (k:Nat):wO own g k b=own b:=U5 h
theorem vw {v:Value} {g k b:Nat} (hg:v.ownBlock=some g∨g=w.heap.size) (hl: ∀ b,v.ownBlock=some b->own b=k) (hb:b<w.heap.size):wO own g k b=own b:=by
 by_cases e:b=g
 ·
  rcases hg with hg|hg
  · rw[e,Zm,hl g hg]
  omega
 exact kC own e k
theorem qAK.push {k g cap:Nat} {s':St} {v':Value} (h:qAK M B w vs ts mb own s ids) (hk:k<20) (hg:w.grownBy w' (vs k).ownBlock) (hv:v'=.slice (some (g,0)) (jf s' ts k).n cap) (ho:vO B (jf s' ts k) v' w') (hgg:(vs k).ownBlock=some g∨g=w.heap.size)
  (hsame:s'.t.trips=s.t.trips) (hlines:s'.lines.length=10) (hslot: ∀ i,i<20->i≠k->jf s' ts i=jf s ts i):qAK M B w' (Nv vs k v') ts mb (wO own g k) s' ids where
 same:=hsame.trans h.same
 lines:=hlines
 row i hi:=by
  by_cases e:i=k
  · rw[e,iw];exact ho
  rw[iy vs e,hslot i hi e];exact QS (h.row i hi) hg (λb hb e2=>by have h1:=h.lab i hi b hb;have h2:=h.lab k hk b e2;omega)
 lab i hi b hb:=by
  by_cases e:i=k
  ·
   rw[e,iw,hv]at hb;simp only[Value.ownBlock,qAA]at hb;rw[<-hb,e,Zm]
  rw[iy vs e]at hb;rw[vw hgg (h.lab k hk) ((qAG (h.row i hi) b hb).2)];exact h.lab i hi b hb
 calls i x hx:=xW (h.calls i x hx) hg (λb hb e=>by have h1:=h.labc i x hx b hb;have h2:=h.lab k hk b e;omega)
 ok:=h.ok
 labc i x hx b hb:=by
  rw[vw hgg (h.lab k hk) ((qAG (h.calls i x hx) b hb).2)];exact h.labc i x hx b hb
 maps j hj:=by
  exact(h.maps j hj).grown hg (λe=>by have h1:=(h.labm j hj).1;have h4:=h.four;have h2:=h.lab k hk _ e.symm;omega)
 labm j hj:=by
  rw[vw hgg (h.lab k hk) (h.maps j hj).lt];exact h.labm j hj
 four:=h.four
theorem qAK.note {j:Nat} {l:List Ψ} (h:qAK M B w vs ts mb own s ids) (hj:j<M) (hg:w.grownBy w' (some (mb j))) (ho:qx w' (mb j) l.length l):qAK M B w' vs ts mb own s (rE ids j l) where
 same:=h.same
 lines:=h.lines
 row i hi:=QS (h.row i hi) hg (λb hb e=>by have h1:=h.lab i hi b hb;have h2:=(h.labm j hj).1;have h4:=h.four;simp only[qAA]at e;rw[e]at h2;omega)
 lab:=h.lab
 calls i x hx:=xW (h.calls i x hx) hg (λb hb e=>by have h1:=h.labc i x hx b hb;have h2:=(h.labm j hj).1;have h4:=h.four;simp only[qAA]at e;rw[e]at h2;omega)
 ok:=h.ok
 labc:=h.labc
 maps i hi:=by
  by_cases e:i=j
  · rw[e,VR];exact ho
  rw[wQ ids e];exact(h.maps i hi).grown hg (λe2=>by have h1:=(h.labm i hi).1;have h2:=(h.labm j hj).1;have h4:=h.four;simp only[qAA]at e2;rw[e2]at h1;omega)
 labm:=h.labm
 four:=h.four
theorem Ff (pre:List TripD) (x:TripD) (v':Value) (cs:List CallD):((pre++[x]).flatMap tripCells).set (pre.length*5+4) v'=(pre++[{ x with v:=v',calls:=cs }]).flatMap tripCells:=by
 induction pre with
 |nil=>rfl
 |cons y ys ih=>
  rw[List.cons_append,List.cons_append,List.flatMap_cons,List.flatMap_cons,<-ih,U7,List.set_append_right _ _ (by rw[QZ];omega),QZ,show(ys.length+1)*5+4-5=ys.length*5+4 by omega]
theorem qAK.call {w1:World} {pre:List TripD} {x:TripD} {c:CallD} {v':Value} {gg cap gb cap4:Nat} {s':St} (h:qAK M B w vs (pre++[x]) mb own s ids) (hv4:vs 4=.slice (some (gb,0)) (pre++[x]).length cap4)
  (hg:w.grownBy w1 x.v.ownBlock) (ho:lI B v' (x.calls++[c]) w1) (hv:v'=((gg,0,x.calls.length+1,cap):Z)) (hgg:x.v.ownBlock=some gg∨gg=w.heap.size) (hc:Ik c)
  (hs:s'.t.trips=(pre++[{ x with v:=v',calls:=x.calls++[c] }]).map xOf) (hlines:s'.lines=s.lines) (hslot: ∀ i,i<20->i≠4->jf s' (pre++[{ x with v:=v',calls:=x.calls++[c] }]) i=jf s (pre++[x]) i):
  qAK M B (w1.setCell (gb,pre.length*5+4) v') vs (pre++[{ x with v:=v',calls:=x.calls++[c] }]) mb (wO own gg (100+pre.length)) s' ids:=by
 have hx0:(pre++[x])[pre.length]? =some x:=σ
 have hlx: ∀ b,x.v.ownBlock=some b->own b=100+pre.length:=h.labc _ x hx0;have hl4:own gb=4:=h.lab 4 ω gb (by rw[hv4];rfl);have r4:vO B (jf s (pre++[x]) 4) (vs 4) w1:=QS (h.row 4 ω) hg (λb hb e=>by have h1:=h.lab 4 ω b hb;have h2:=hlx b e;omega);rw[hv4]at r4;obtain⟨r4',hg2⟩:=World.ownsRow.stored r4 (pre.length*5+4) v';have hgb:gb<w.heap.size:=(qAG (h.row 4 ω) gb (by rw[hv4];rfl)).2;have hlab: ∀ b,b<w.heap.size->wO own gg (100+pre.length) b=own b:=λb hb=>vw hgg hlx hb
 refine⟨hs,by rw[hlines];exact h.lines,λi hi=>?_,λi hi b hb=>?_,λi y hy=>?_,λy hy d hd=>?_,λi y hy b hb=>?_,λj hj=>?_,λj hj=>?_,h.four⟩
 ·
  by_cases e:i=4
  ·
   rw[e,hv4];have e2:jf s' (pre++[{ x with v:=v',calls:=x.calls++[c] }]) 4=⟨56,5,(pre++[x]).length,(pre++[{ x with v:=v',calls:=x.calls++[c] }]).flatMap tripCells⟩:=by
    show(⟨_,_,_,_⟩:Yn)=_
    rw[U1,U1];rfl
   rw[e2];unfold vO;rw[<-Ff pre x v' (x.calls++[c])];exact r4'
  rw[hslot i hi e];have k1:=QS (h.row i hi) hg (λb hb e2=>by have h1:=h.lab i hi b hb;have h2:=hlx b e2;omega);exact QS k1 hg2 (λb hb e2=>by have h1:=h.lab i hi b hb;simp only[qAA]at e2;rw[<-e2]at h1;omega)
 ·
  rw[hlab b (qAG (h.row i hi) b hb).2];exact h.lab i hi b hb
 ·
  by_cases e:i=pre.length
  ·
   rw[e]at hy;have hy':y={ x with v:=v',calls:=x.calls++[c] }:=by simpa using hy.symm
   rw[hy'];refine xW ho hg2 (λb hb e2=>?_);simp only[hv,Value.ownBlock,qAA]at hb e2;rw[<-hb]at e2;rcases hgg with k|k
   · have:=hlx gg k;rw[<-e2]at this;omega
   omega
  have hi:i<pre.length:=by
   have:=(Uw.1 hy).1;simp at this
   omega
  rw[List.getElem?_append_left hi]at hy;have hy2:(pre++[x])[i]? =some y:=by rw[List.getElem?_append_left hi];exact hy
  have k1:=xW (h.calls i y hy2) hg (λb hb e2=>by have h1:=h.labc i y hy2 b hb;have h2:=hlx b e2;omega);exact xW k1 hg2 (λb hb e2=>by have h1:=h.labc i y hy2 b hb;simp only[qAA]at e2;rw[<-e2]at h1;omega)
 ·
  rcases List.mem_append.1 hy with hy|hy
  · exact h.ok y (List.mem_append_left _ hy) d hd
  rw[List.mem_singleton.1 hy]at hd;rcases List.mem_append.1 hd with hd|hd
  · exact h.ok x σ d hd
  rw[List.mem_singleton.1 hd];exact hc
 ·
  by_cases e:i=pre.length
  ·
   rw[e]at hy;have hy':y={ x with v:=v',calls:=x.calls++[c] }:=by simpa using hy.symm
   rw[hy',hv]at hb;simp only[Value.ownBlock,qAA]at hb;rw[<-hb,Zm,e]
  have hi:i<pre.length:=by
   have:=(Uw.1 hy).1;simp at this
   omega
  rw[List.getElem?_append_left hi]at hy;have hy2:(pre++[x])[i]? =some y:=by rw[List.getElem?_append_left hi];exact hy
  rw[hlab b (qAG (h.calls i y hy2) b hb).2];exact h.labc i y hy2 b hb
 ·
  have k1:=(h.maps j hj).grown hg (λe=>by have h1:=(h.labm j hj).1;have h4:=h.four;have h2:=hlx _ e.symm;omega);exact k1.grown hg2 (λe=>by have h1:=(h.labm j hj).1;have h4:=h.four;simp only[qAA]at e;rw[e]at h1;omega)
 rw[hlab _ (h.maps j hj).lt];exact h.labm j hj
theorem qAK.trip {g cap:Nat} {x:TripD} {s':St} {v':Value} (h:qAK M B w vs ts mb own s ids) (hx:x.v=.slice none 0 0) (hxc:x.calls=[]) (hg:w.grownBy w' (vs 4).ownBlock) (hv:v'=((g,0,ts.length+1,cap):Z)) (ho:w'.ownsRow B 56 5 v' (ts.length+1) (ts.flatMap tripCells++tripCells x)) (hgg:(vs 4).ownBlock=some g∨g=w.heap.size)
  (hsame:s'.t.trips=(ts++[x]).map xOf) (hlines:s'.lines.length=10) (hslot: ∀ i,i<20->i≠4->jf s' (ts++[x]) i=jf s ts i):qAK M B w' (Nv vs 4 v') (ts++[x]) mb (wO own g 4) s' ids where
 same:=hsame
 lines:=hlines
 row i hi:=by
  by_cases e:i=4
  ·
   rw[e,iw];show w'.ownsRow B 56 5 v' (ts++[x]).length ((ts++[x]).flatMap tripCells)
   rw[U1,List.flatMap_append];simpa using ho
  rw[iy vs e,hslot i hi e];exact QS (h.row i hi) hg (λb hb e2=>by have h1:=h.lab i hi b hb;have h2:=h.lab 4 ω b e2;omega)
 lab i hi b hb:=by
  by_cases e:i=4
  ·
   rw[e,iw,hv]at hb;simp only[Value.ownBlock,qAA]at hb;rw[<-hb,e,Zm]
  rw[iy vs e]at hb;rw[vw hgg (h.lab 4 ω) ((qAG (h.row i hi) b hb).2)];exact h.lab i hi b hb
 calls i y hy:=by
  rcases Nat.lt_or_ge i ts.length with hi|hi
  ·
   rw[List.getElem?_append_left hi]at hy;exact xW (h.calls i y hy) hg (λb hb e=>by have h1:=h.labc i y hy b hb;have h2:=h.lab 4 ω b e;omega)
  have hy':y=x:=by
   have hl:=(Uw.1 hy).1;simp only[U1,U7,List.length_nil]at hl;obtain rfl:i=ts.length:=ω
   simpa using hy.symm
  rw[hy',hx,hxc];exact World.ownsRow_nil w' B _ 5
 ok y hy d hd:=by
  rcases List.mem_append.1 hy with hy|hy
  · exact h.ok y hy d hd
  rw[List.mem_singleton.1 hy,hxc]at hd;cases hd
 labc i y hy b hb:=by
  rcases Nat.lt_or_ge i ts.length with hi|hi
  ·
   rw[List.getElem?_append_left hi]at hy;rw[vw hgg (h.lab 4 ω) ((qAG (h.calls i y hy) b hb).2)];exact h.labc i y hy b hb
  have hy':y=x:=by
   have hl:=(Uw.1 hy).1;simp only[U1,U7,List.length_nil]at hl;obtain rfl:i=ts.length:=ω
   simpa using hy.symm
  rw[hy',hx]at hb;cases hb
 maps j hj:=(h.maps j hj).grown hg (λe=>by have h1:=(h.labm j hj).1;have h4:=h.four;have h2:=h.lab 4 ω _ e.symm;omega)
 labm j hj:=by
  rw[vw hgg (h.lab 4 ω) (h.maps j hj).lt];exact h.labm j hj
 four:=h.four
theorem qAK.rd (h:qAK M B w vs ts mb own s ids):yA w.heap.size w ⟨vs 0,vs 1,vs 2,vs 3,vs 4,vs 5,vs 6,vs 7,vs 8,vs 9⟩ ts s.t where
 stops:=zq bP (h.row 0 ω)
 routes:=zq aG (h.row 1 ω)
 cals:=zq fV (h.row 2 ω)
 excs:=zq gK (h.row 3 ω)
 trips:=⟨zq QZ (h.row 4 ω),λx hx=>by
  obtain⟨i,hi⟩:=List.getElem?_of_mem hx;exact⟨zq Zw (h.calls i x hi),h.ok x hx⟩⟩
 same:=h.same
 freqs:=zq bC (by have:=h.row 5 ω;unfold vO jf at this;simpa using this)
 thrus:=zq ig (by have:=h.row 6 ω;unfold vO jf at this;simpa using this)
 guars:=zq gY (h.row 7 ω)
 paths:=zq bJ (h.row 8 ω)
 prods:=zq bM (h.row 9 ω)
theorem qAK.lns (h:qAK M B w vs ts mb own s ids) {j:Nat} (hj:j<10):Wy w.heap.size w (vs (j+10)) (qN s j):=by
 have:=h.row (j+10) ω;unfold vO jf at this;have e:j+10-10=j:=ω
 refine zq kY (e:=3) (base:=B) ?_;rcases j with _|_|_|_|_|_|_|_|_|_|j
 all_goals first
  |exact this
  |omega
end
end Go.Proofs.YtakedkcjplfgeaaGreatDoor
namespace Go.Proofs.YtakedkcjplfgeaaGreatDoor
open Go.RowKit
theorem qX {w w':World} {g:Nat} {o:Obj} (hu:w.heap[g]? =some o) (hb:Bl w w'):w'.heap[g]? =some o:=(hb.block g (lt_of_block hu)).trans hu
theorem qC {g:Nat} {w:World} {C:Array Value} {T:TypeId} (hu:w.heap[g]? =some (.cells C T (0,0))) (i:Nat) (u:Value) (hi:C[i]? =some u):w.cell? (g,i)=some u:=by
 rw[cell_of_row w g i C T (0,0) hu];exact hi
theorem qQ {w:World} {g:Nat} {C:Array Value} {T:TypeId} (h:w.heap[g]? =some (.cells C T (0,0))) (i:Nat) (v:Value):(w.setCell (g,i) v).heap[g]? =some (.cells (C.setIfInBounds i v) T (0,0)):=by
 have hlt:=lt_of_block h;have h':w.heap[g]=.cells C T (0,0):=by simpa[Array.getElem?_eq_getElem hlt]using h
 show(w.heap.modify g _)[g]? =_
 rw[Array.getElem?_eq_getElem (by simpa using hlt),Array.getElem_modify_self,h'];rfl
abbrev Gr (g:Nat) (w w':World):Prop:=w.grownBy w' (some g)
theorem jH {g:Nat} {w w':World} (h:Bl w w'):Gr g w w':=⟨h.os,h.tape,h.output,h.size,λk hk _=>h.block k hk⟩
theorem BH (g:Nat) (w:World):Gr g w w:=jH (qB _)
theorem qJ {g:Nat} {a b c:World} (h:Gr g a b) (k:Gr g b c):Gr g a c:=
 ⟨k.os.trans h.os,k.tape.trans h.tape,k.output.trans h.output,Ux h.size k.size,λi hi hne=>(k.block i (Nat.lt_of_lt_of_le hi h.size) hne).trans (h.block i hi hne)⟩
theorem zH (g:Nat) (w:World) (i:Nat) (v:Value):Gr g w (w.setCell (g,i) v):=
 ⟨rfl,rfl,rfl,σ,λk _ hne=>Below.heap_setCell w (g,i) v k (λe=>hne (by rw[e]))⟩
theorem heap_alloc_new (w:World) (o:Obj):(w.alloc o).heap[w.heap.size]? =some o:=(MapKept.heap_alloc w o).1
theorem qg {g b:Nat} {w w':World} (h:Gr g w w') (hb:b<w.heap.size) (hne:b≠g):w'.heap[b]? =w.heap[b]? :=h.block b hb (λe=>by simp only[qAA]at e;exact hne e)
open Frq Thr Tt
theorem LX (ts:List TripD) (pre:List FreqD) (f:FreqD):Fq.Zi ts pre f=Zk ((ts.map xOf).map (·.calls)) pre f:=by
 have h1:Fq.J8 ts f=sU ((ts.map xOf).map (·.calls)) f:=by
  unfold Fq.J8 sU;rw[List.getElem?_map,List.getElem?_map];cases ts[f.trip.toNat]? <;>rfl
 unfold Fq.Zi Zk;rw[h1,U4,U4];rfl
theorem mY (ts:List TripD): ∀ (l pre:List FreqD),Fq.wU ts pre l=wU (Zk ((ts.map xOf).map (·.calls))) pre l
 |[],_=>rfl
 |f::l,pre=>by
  unfold Fq.wU wU;rw[LX,mY ts l]
theorem V5 (ts:List TripD) (fs:List FreqD):Fq.qZ fs ts=qZ 64 (Zk ((ts.map xOf).map (·.calls))) fs:=by
 unfold Fq.qZ qZ;rw[mY]
theorem Jj (ts:List TripD):(ts.map xOf).map IV=ts.map trpOf:=by
 rw[List.map_map];rfl
theorem WR {ts:List TripD} {stops routes cals:Int} (h:(qZ 256 (zG stops routes cals) (ts.map xOf)).2=0): ∀ t∈ts,t.calls.length<=32:=λt ht=>by
 obtain⟨k,hk⟩:=List.getElem?_of_mem ht;have e:=(yV h).2 (k:=k) (x:=xOf t) (by rw[List.getElem?_map,hk];rfl);have hc:yU stops 0 172800 (xOf t).calls=0:=by
  unfold zG at e;split at e
  · exact absurd e δ
  split at e
  · exact absurd e δ
  split at e
  · exact absurd e δ
  exact e
 unfold yU at hc;split at hc
 · exact absurd hc δ
 rename_i hn;rw[not_or]at hn;have: ¬ 32<t.calls.length:=hn.2;omega
structure ZZ (t:TtD):Prop where
 stops: ∀ x∈t.stops,x.id.length<=9223372036854775807
 routes: ∀ x∈t.routes,x.id.length<=9223372036854775807
 cals: ∀ x∈t.cals,x.id.length<=9223372036854775807
 trips: ∀ x∈t.trips,x.id.length<=9223372036854775807
 prods: ∀ x∈t.fares.prods,x.id.length<=9223372036854775807
 excs: ∀ x∈t.excs,zB x.cal/\zB x.day
 thrus: ∀ x∈t.thrus,zB x.frm/\zB x.to
 guars: ∀ x∈t.guars,zB x.frm/\zB x.to/\zB x.stop
 paths: ∀ x∈t.paths,zB x.frm/\zB x.to
def Qa (V:TtV) (f:Jp):Array Value:= #[V.stops,V.routes,V.cals,V.excs,V.trips,V.freqs,V.thrus,V.guars,V.paths,V.prods,f.disc,f.within,f.cap]
def JV (b:Nat) (V:TtV) (f:Jp) (w:World):Prop:=w.heap[b]? =some (.cells (Qa V f) 36 (0,0))
theorem yA.bl {B:Nat} {w w':World} {V:TtV} {ts:List TripD} {t:TtD} (h:yA B w V ts t) (hb:Bl w w') (hB:B<=w.heap.size):yA B w' V ts t:=
 ⟨h.stops.o hb hB,h.routes.o hb hB,h.cals.o hb hB,h.excs.o hb hB,h.trips.bl hb hB,h.same,h.freqs.o hb hB,h.thrus.o hb hB,h.guars.o hb hB,h.paths.o hb hB,h.prods.o hb hB⟩
open Num Clk Dat Fld
structure ww (N:Nat) (s:St):Prop where
 stops:s.t.stops.length<=N
 routes:s.t.routes.length<=N
 cals:s.t.cals.length<=N
 excs:s.t.excs.length<=N
 trips:s.t.trips.length<=N
 freqs:s.t.freqs.length<=N
 thrus:s.t.thrus.length<=N
 guars:s.t.guars.length<=N
 paths:s.t.paths.length<=N
 prods:s.t.fares.prods.length<=N
 lines:s.lines.length=10
 lens: ∀ j,(qN s j).length<=N
 calls: ∀ x∈s.t.trips,x.calls.length<=N
theorem oW:ww 0 Tt.start:=by
 refine⟨U3 _,U3 _,U3 _,U3 _,U3 _,U3 _,U3 _,U3 _,U3 _,U3 _,rfl,λj=>?_,λx hx=>by cases hx⟩;unfold qN Tt.start;simp only;rcases j with _|_|_|_|_|_|_|_|_|_|j<;>simp
theorem ww.mono {N M:Nat} {s:St} (h:ww N s) (hm:N<=M):ww M s:=
 ⟨Ux h.stops hm,Ux h.routes hm,Ux h.cals hm,Ux h.excs hm,Ux h.trips hm,Ux h.freqs hm,Ux h.thrus hm,Ux h.guars hm,Ux h.paths hm,Ux h.prods hm,h.lines,λj=>Ux (h.lens j) hm,λx hx=>Ux (h.calls x hx) hm⟩
theorem MB (l:List (List Int)) (k j:Nat) (n:Int):((l.modify k (· ++[n])).getD j []).length<=(l.getD j []).length+1:=by
 rw[List.getD_eq_getElem?_getD,List.getD_eq_getElem?_getD,List.getElem?_modify];by_cases h:k=j
 · cases l[j]? <;>simp[h]
 simp[h]
theorem QG {α:Type} {l:List α} {N:Nat} (h:l.length<=N) (x:α):(l++[x]).length<=N+1:=τ
theorem Vx {l:List TripX} {c:CallD} {x:TripX} (h:x∈kH l c): ∃ y∈l,x=y∨x={ y with calls:=y.calls++[c] }:=by
 unfold kH at h;split at h
 ·
  rename_i y hy;have hm:=List.mem_of_getLast? hy;rcases List.mem_append.1 h with h|h
  · exact⟨x,List.dropLast_subset _ h,.inl rfl⟩
  exact⟨y,hm,.inr (List.mem_singleton.1 h)⟩
 exact⟨x,h,.inl rfl⟩
theorem Za (l:List TripX) (c:CallD):(kH l c).length=l.length:=by
 unfold kH;split
 ·
  rename_i y hy;have:l≠[]:=λe=>by rw[e]at hy;cases hy
  have:=List.length_pos_iff.2 this;simp
  omega
 rfl
theorem YL {N:Nat} {s:St} (h:ww N s) (k:Nat) (f:List Ψ) (n:Int):ww (N+1) (qy s k f n).1:=by
 have hl: ∀ k,(jm s k n).length=10:=λk=>by unfold jm;rw[List.length_modify];exact h.lines
 have hj: ∀ k j,((jm s k n).getD j []).length<=N+1:=λk j=>Ux (MB s.lines k j n) (by have:=h.lens j;unfold qN at this;omega)
 have h0:ww (N+1) s:=h.mono ω;unfold qy;split
 · exact⟨QG h.stops _,h0.routes,h0.cals,h0.excs,h0.trips,h0.freqs,h0.thrus,h0.guars,h0.paths,h0.prods,hl _,hj _,h0.calls⟩
 · exact⟨h0.stops,QG h.routes _,h0.cals,h0.excs,h0.trips,h0.freqs,h0.thrus,h0.guars,h0.paths,h0.prods,hl _,hj _,h0.calls⟩
 · exact⟨h0.stops,h0.routes,QG h.cals _,h0.excs,h0.trips,h0.freqs,h0.thrus,h0.guars,h0.paths,h0.prods,hl _,hj _,h0.calls⟩
 · exact⟨h0.stops,h0.routes,h0.cals,QG h.excs _,h0.trips,h0.freqs,h0.thrus,h0.guars,h0.paths,h0.prods,hl _,hj _,h0.calls⟩
 ·
  exact⟨h0.stops,h0.routes,h0.cals,h0.excs,QG h.trips _,h0.freqs,h0.thrus,h0.guars,h0.paths,h0.prods,hl _,hj _,λx hx=>by
   rcases List.mem_append.1 hx with hx|hx
   · exact h0.calls x hx
   rw[List.mem_singleton.1 hx];exact qAD _⟩
 · exact⟨h0.stops,h0.routes,h0.cals,h0.excs,h0.trips,QG h.freqs _,h0.thrus,h0.guars,h0.paths,h0.prods,hl _,hj _,h0.calls⟩
 · exact⟨h0.stops,h0.routes,h0.cals,h0.excs,h0.trips,h0.freqs,QG h.thrus _,h0.guars,h0.paths,h0.prods,hl _,hj _,h0.calls⟩
 · exact⟨h0.stops,h0.routes,h0.cals,h0.excs,h0.trips,h0.freqs,h0.thrus,QG h.guars _,h0.paths,h0.prods,hl _,hj _,h0.calls⟩
 · exact⟨h0.stops,h0.routes,h0.cals,h0.excs,h0.trips,h0.freqs,h0.thrus,h0.guars,QG h.paths _,h0.prods,hl _,hj _,h0.calls⟩
 · exact⟨h0.stops,h0.routes,h0.cals,h0.excs,h0.trips,h0.freqs,h0.thrus,h0.guars,h0.paths,QG h.prods _,hl _,hj _,h0.calls⟩
 ·
  exact⟨h0.stops,h0.routes,h0.cals,h0.excs,by show(kH _ _).length<=_;rw[Za];exact h0.trips,h0.freqs,h0.thrus,h0.guars,h0.paths,h0.prods,h0.lines,h0.lens,λx hx=>by
   obtain⟨y,hy,rfl|rfl⟩:=Vx hx
   · exact h0.calls _ hy
   exact QG (h.calls y hy) _⟩
 exact⟨h0.stops,h0.routes,h0.cals,h0.excs,h0.trips,h0.freqs,h0.thrus,h0.guars,h0.paths,h0.prods,h0.lines,h0.lens,h0.calls⟩
theorem mi: ∀ {ids:List Ψ} {x:Ψ} {i:Nat},qm x ids=some i->i<ids.length
 |[],x,i,h=>by cases h
 |y::r,x,i,h=>by
  unfold qm at h;split at h
  ·
   obtain rfl:=qAB h;simp
  cases hr:qm x r with
  |none=>rw[hr]at h;cases h
  |some j=>
   rw[hr]at h;obtain rfl:=qAB h;have:=mi hr;simp
   omega
theorem MW (ids:List Ψ) (x:Ψ):0<=(zW ids x).1/\(zW ids x).1<=ids.length:=by
 unfold zW;cases h:qm x ids with
 |none=>exact⟨Int.le_refl _,by show(0:Int)<=_;omega⟩
 |some i=>
  have:=mi h;exact⟨by show(0:Int)<=(i:Int);omega,by show(i:Int)<=_;omega⟩
theorem VJ {ids:List Ψ} (h:ids.length<=1000000) (x:Ψ):zB (zW ids x).1:=by
 have:=MW ids x;unfold zB;omega
theorem IU (x:Ψ):0<=(jw x).1/\(jw x).1<=172800:=⟨(Bo (Yh x)).1,(Bo (Yh x)).2.1⟩
theorem fD (x:Ψ):zB (jw x).1:=by
 have:=IU x;unfold zB;omega
theorem Iq (x:Ψ):0<=(wB x).1/\(wB x).1<=36524:=by
 unfold wB;split
 ·
  split
  ·
   split
   ·
    rename_i h;exact(rq h).1
   exact⟨δ,δ⟩
  exact⟨δ,δ⟩
 exact⟨δ,δ⟩
theorem FH (x:Ψ):zB (wB x).1:=by
 have:=Iq x;unfold zB;omega
theorem I8 {f:List Ψ} {M:Nat} (hf: ∀ x∈f,x.length<=M) (i:Nat):(yK f i).length<=M:=by
 unfold yK;rw[List.getD_eq_getElem?_getD];cases h:f[i]? with
 |none=>exact qAD _
 |some x=>exact hf x (Uz h)
theorem QF {α:Type} {p:α->Prop} {l:List α} {y:α} (h: ∀ x∈l,p x) (hy:p y): ∀ x∈l++[y],p x:=λx hx=>by
 rcases List.mem_append.1 hx with hx|hx
 · exact h x hx
 rw[List.mem_singleton.1 hx];exact hy
theorem aW:ZZ Tt.start.t:=by
 refine⟨?_, ?_, ?_, ?_, ?_, ?_, ?_, ?_, ?_⟩<;>(intro x h;cases h)
theorem VQ {N:Nat} {s:St} (h:ZZ s.t) (hs:ww N s) (hN:N<=1000000) (k:Nat) (f:List Ψ) (hf: ∀ x∈f,x.length<=131072) (n:Int):ZZ (qy s k f n).1.t:=by
 have h1:(yK f 1).length<=9223372036854775807:=Ux (I8 hf 1) δ;have rs: ∀ x,zB (zW (s.t.stops.map (·.id)) x).1:=λx=>VJ (by rw[U4];exact Ux hs.stops hN) x
 have rr: ∀ x,zB (zW (s.t.routes.map (·.id)) x).1:=λx=>VJ (by rw[U4];exact Ux hs.routes hN) x
 have rc: ∀ x,zB (zW (s.t.cals.map (·.id)) x).1:=λx=>VJ (by rw[U4];exact Ux hs.cals hN) x
 have rt: ∀ x,zB (zW (s.t.trips.map (·.id)) x).1:=λx=>VJ (by rw[U4];exact Ux hs.trips hN) x
 unfold qy;split
 · exact⟨QF h.stops h1,h.routes,h.cals,h.trips,h.prods,h.excs,h.thrus,h.guars,h.paths⟩
 · exact⟨h.stops,QF h.routes h1,h.cals,h.trips,h.prods,h.excs,h.thrus,h.guars,h.paths⟩
 · exact⟨h.stops,h.routes,QF h.cals h1,h.trips,h.prods,h.excs,h.thrus,h.guars,h.paths⟩
 · exact⟨h.stops,h.routes,h.cals,h.trips,h.prods,QF h.excs ⟨rc _,FH _⟩,h.thrus,h.guars,h.paths⟩
 · exact⟨h.stops,h.routes,h.cals,QF h.trips h1,h.prods,h.excs,h.thrus,h.guars,h.paths⟩
 · exact⟨h.stops,h.routes,h.cals,h.trips,h.prods,h.excs,h.thrus,h.guars,h.paths⟩
 · exact⟨h.stops,h.routes,h.cals,h.trips,h.prods,h.excs,QF h.thrus ⟨rt _,rt _⟩,h.guars,h.paths⟩
 · exact⟨h.stops,h.routes,h.cals,h.trips,h.prods,h.excs,h.thrus,QF h.guars ⟨rt _,rt _,rs _⟩,h.paths⟩
 · exact⟨h.stops,h.routes,h.cals,h.trips,h.prods,h.excs,h.thrus,h.guars,QF h.paths ⟨rs _,rs _⟩⟩
 · exact⟨h.stops,h.routes,h.cals,h.trips,QF h.prods h1,h.excs,h.thrus,h.guars,h.paths⟩
 ·
  exact⟨h.stops,h.routes,h.cals,λx hx=>by
   obtain⟨y,hy,rfl|rfl⟩:=Vx hx
   · exact h.trips _ hy
   exact h.trips y hy,h.prods,h.excs,h.thrus,h.guars,h.paths⟩
 exact⟨h.stops,h.routes,h.cals,h.trips,h.prods,h.excs,h.thrus,h.guars,h.paths⟩
