/- Contracts, proved. Conditions: each contract's own. -/
import Derived.Test.YtakedkcjplfgeaaGreatDoorMPkRecB
import Derived.Test.YtakedkcjplfgeaaGreatDoorMPkRecC
import Derived.Test.YtakedkcjplfgeaaGreatDoorMPkRecE
import Derived.Test.YtakedkcjplfgeaaGreatDoorMPkRecF
set_option maxRecDepth 1000000
set_option maxHeartbeats 32000000
namespace Go.Proofs.YtakedkcjplfgeaaGreatDoor
open Go.RowKit
open Frq Thr Tt Num Clk Dat Fld
def Ym (B g rb:Nat) (m E:Int) (mb own:Nat->Nat) (s':St) (o:Bool) (w w':World):Prop:= ∃ (vs':Nat->Value) (ts':List TripD) (own':Nat->Nat) (ids':Nat->List (List UInt8)),kN B g rb m E vs' ts' mb own' s' ids' o [] w'/\(∀ j,j<4->ids' j=yX s'.t j)/\Mv own w own' w'
theorem QP (g:Nat) (kw:List UInt8) (n:Int) (h0:(kw==[115,116,111,112])=false) (h1:(kw==[114,111,117,116,101])=false) (h2:(kw==[99,97,108,101,110,100,97,114])=false) (h3:(kw==[101,120,99,101,112,116,105,111,110])=false) (h4:(kw==[116,114,105,112])=false) (h10:(kw==[99,97,108,108])=false) (P:World->Prop) (w:World)
  (hc:Calls Tryz.prog 118 #[.pointer (some ⟨g,0,none⟩),qP kw, .int .i64 n] w fun q w'=>q= .returned (.tuple #[])/\P w'):
  Calls Tryz.prog 41 #[.pointer (some ⟨g,0,none⟩),qP kw, .int .i64 n] w fun q w'=>q= .returned (.tuple #[])/\P w':=by
 go_enter Tryz.func41,Tryz.ntmps41
 go_wp2_with (go_at_call 118;refine hc.mono ?_)
 rintro y1 w1 ⟨rfl,p1⟩;go_wp2;go_end0;exact⟨rfl,p1⟩
structure Eb (B g N:Nat) (m:Int) (mb own:Nat->Nat) (s:St) (w:World):Prop where
 small:ww N s
 ok:ZZ s.t
 opn:s.opened=true->s.t.trips≠[]
 mem: ∃ (u:Value) (e:Int) (vs:Nat->Value) (ts:List TripD) (ids:Nat->List (List UInt8)),Ih g u e ⟨vs,s.t.fares,mb,s.rules,s.opened⟩ w/\kT B w vs ts mb own s ids/\(∀ j,j<4->ids j=yX s.t j)
 env:ah m w
 lg:own g=99
 l1:own 1=97
 l2:own 0=97
theorem Eb.mv {B g N:Nat} {m:Int} {mb own:Nat->Nat} {s:St} {w w':World} (h:Eb B g N m mb own s w) (hb:Bl w w'):Eb B g N m mb own s w':=by
 obtain⟨u,e,vs,ts,ids,h1,h2,h3⟩:=h.mem;exact⟨h.small,h.ok,h.opn,⟨u,e,vs,ts,ids,qX h1 hb,h2.bl hb,h3⟩,h.env.bl hb,h.lg,h.l1,h.l2⟩
theorem Eb.more {B g N M:Nat} {m:Int} {mb own:Nat->Nat} {s:St} {w:World} (h:Eb B g N m mb own s w) (hm:N<=M):Eb B g M m mb own s w:=⟨h.small.mono hm,h.ok,h.opn,h.mem,h.env,h.lg,h.l1,h.l2⟩
theorem kT.relabel {B:Nat} {w:World} {vs:Nat->Value} {ts:List TripD} {mb own:Nat->Nat} {s:St} {ids:Nat->List (List UInt8)} (h:kT B w vs ts mb own s ids) {pb:Nat} (hp:w.heap.size<=pb) (k:Nat):kT B w vs ts mb (wO own pb k) s ids:=
 ⟨h.same,h.lines,h.row,fun i hi b hb=>by rw[kC own (by have:=(qAG (h.row i hi) b hb).2;omega)];exact h.lab i hi b hb,h.calls,h.ok,fun i x hx b hb=>by rw[kC own (by have:=(qAG (h.calls i x hx) b hb).2;omega)];exact h.labc i x hx b hb,h.maps,fun j hj=>by rw[kC own (by have:=(h.maps j hj).lt;omega)];exact h.labm j hj⟩
theorem VB {own:Nat->Nat} {w w':World} (hb:Bl w w') {pb:Nat} (hp:w.heap.size<=pb) (k:Nat):Mv own w (wO own pb k) w':=
 ⟨hb.os,hb.tape,hb.output,hb.size,fun b hlt=>kC own (by omega) k,fun b hlt _=>hb.block b hlt⟩
theorem D6 {s:List UInt8} {l:List (List UInt8)} (h:yM s=(l,0)) (hs:s≠[]):l≠[]:=fun e=>by
 subst e;have h2:=tX h;rw[show zL []=([],0) from rfl]at h2;exact hs (qAE h2).1.symm
theorem Wn (s:St) (k:Nat) (f:List (List UInt8)) (n:Int):(qy s k f n).1.opened=(k==4||k==10):=by
 unfold qy;split
 all_goals first
  |rfl
  |(rename_i h0 h1 h2 h3 h4 h5 h6 h7 h8 h9 h10;show(_==4||_==10)=_;rfl)
theorem rP {l:List TripX} {c:CallD} (h:l≠[]):kH l c≠[]:=fun e=>by
 have:=Za l c;rw[e]at this;exact h (List.length_eq_zero_iff.1 this.symm)
theorem fE (s:St) (k:Nat) (f:List (List UInt8)) (n:Int) (hk:k=4∨(k=10/\s.t.trips≠[])):(qy s k f n).1.t.trips≠[]:=by
 rcases hk with rfl|⟨rfl,h⟩
 ·
  show s.t.trips++[_]≠[]
  simp
 · exact rP h
theorem tq {s:St} {x:List UInt8} {n:Int} {l:List (List UInt8)} (h1: ¬ (x=[]∨x.head?=some 35)) (hs:yM x=(l,0)) (hk:ZM (yK l 0)=none):vN s x n=(s,41):=by
 unfold vN;rw[U5 h1,hs];simp only;rw[U5 (by simp),hk]
theorem tu {s:St} {x:List UInt8} {n:Int} {l:List (List UInt8)} {k:Nat} (h1: ¬ (x=[]∨x.head?=some 35)) (hs:yM x=(l,0)) (hk:ZM (yK l 0)=some k):vN s x n=if l.length≠wM k then(s,1)
   else if k=10/\s.opened=false then(s,8)
   else if k=11/\0<s.rules then(s,6)
   else qy s k l n:=by
 unfold vN;rw[U5 h1,hs];simp only;rw[U5 (by simp),hk]
theorem DJ {s:St} {x:List UInt8} {n:Int} {l:List (List UInt8)} {e:Int} (h1: ¬ (x=[]∨x.head?=some 35)) (hs:yM x=(l,e)) (he:e≠0):vN s x n=(s,e):=by
 unfold vN;rw[U5 h1,hs];simp only;rw[U6 he]
def uM (g:Nat) (mb:Nat->Nat):Nat->Nat:=fun b=>if b=g then 99 else if b=mb 0 then 50 else if b=mb 1 then 51 else if b=mb 2 then 52 else if b=mb 3 then 53 else 97
theorem Xv {g B:Nat} {mb:Nat->Nat} (hg:B<=g) (hm: ∀ j,j<4->B<=mb j) {b:Nat} (hb:b<B):uM g mb b=97:=by
 have h0:=hm 0 (by omega);have h1:=hm 1 (by omega);have h2:=hm 2 (by omega);have h3:=hm 3 (by omega);unfold uM;rw[U5 (by omega),U5 (by omega),U5 (by omega),U5 (by omega),U5 (by omega)]
theorem Gv {g:Nat} {mb:Nat->Nat} (hg: ∀ j,j<4->mb j≠g) (hd: ∀ i j,i<4->j<4->mb i=mb j->i=j) {j:Nat} (hj:j<4):uM g mb (mb j)=50+j:=by
 have hn: ∀ i,i<4->i≠j->mb j≠mb i:=fun i hi hne e=>hne (hd i j hi hj e.symm)
 unfold uM;rw[U5 (hg j hj)];rcases j with _|_|_|_|j
 · rw[U6 rfl]
 · rw[U5 (hn 0 (by omega) (by omega)),U6 rfl]
 · rw[U5 (hn 0 (by omega) (by omega)),U5 (hn 1 (by omega) (by omega)),U6 rfl]
 · rw[U5 (hn 0 (by omega) (by omega)),U5 (hn 1 (by omega) (by omega)),U5 (hn 2 (by omega) (by omega)),U6 rfl]
 · omega
theorem nz (B:Nat) (mb own:Nat->Nat) (w:World) (hm: ∀ j,j<4->qx w (mb j) 0 []/\B<=mb j) (hl: ∀ j,j<4->own (mb j)=50+j):kT B w (fun _=> .slice none 0 0) [] mb own Tt.start (fun _=>[]) where
 same:=rfl
 lines:=rfl
 row k hk:=by
  rcases k with _|_|_|_|_|_|_|_|_|_|_|_|_|_|_|_|_|_|_|_|k
  all_goals first
   |exact World.ownsRow_nil w B _ _
   |omega
 lab k _ b hb:=by cases hb
 calls i x hx:=by cases hx
 ok x hx:=by cases hx
 labc i x hx:=by cases hx
 maps j hj:=(hm j hj).1
 labm j hj:=⟨hl j hj,(hm j hj).2⟩
theorem Cf (B g:Nat) (m:Int) (mb:Nat->Nat) (w:World) (fa:Ih g (.slice none 0 0) 0 ⟨fun _=> .slice none 0 0,emptyT.fares,mb,0,false⟩ w) (hm: ∀ j,j<4->qx w (mb j) 0 []/\B<=mb j/\mb j≠g) (hd: ∀ i j,i<4->j<4->mb i=mb j->i=j) (env:ah m w) (hg:B<=g)
  (he:1<B/\0<B):Eb B g 0 m mb (uM g mb) Tt.start w where
 small:=oW
 ok:=aW
 opn h:=by cases h
 mem:=⟨_,_,_,_,_,fa,nz B mb _ w (fun j hj=>⟨(hm j hj).1,(hm j hj).2.1⟩) (fun j hj=>Gv (fun j hj=>(hm j hj).2.2) hd hj),fun j hj=>by
  rcases j with _|_|_|_|j
  all_goals first
   |rfl
   |omega⟩
 env:=env
 lg:=U6 rfl
 l1:=Xv hg (fun j hj=>(hm j hj).2.1) he.1
 l2:=Xv hg (fun j hj=>(hm j hj).2.1) he.2
def BP (a b c d:Nat):Nat->Nat
 |0=>a
 |1=>b
 |2=>c
 |_=>d
theorem Ce {w:World} {n:Nat} (h:w.heap.size=n) (B:Nat) (hB:B<=n) (C:Array Value) (T:TypeId): ∀ j,j<4->qx (((((w.alloc (.map #[] 0)).alloc (.map #[] 0)).alloc (.map #[] 0)).alloc (.map #[] 0)).alloc (.cells C T (0,0))) (BP n (n+1) (n+2) (n+3) j) 0 []/\B<=BP n (n+1) (n+2) (n+3) j/\BP n (n+1) (n+2) (n+3) j≠n+4:=fun j hj=>by
 subst h;have e1:(w.alloc (.map #[] 0)).heap.size=w.heap.size+1:=by simp
 have e2:((w.alloc (.map #[] 0)).alloc (.map #[] 0)).heap.size=w.heap.size+2:=by simp
 have e3:(((w.alloc (.map #[] 0)).alloc (.map #[] 0)).alloc (.map #[] 0)).heap.size=w.heap.size+3:=by simp
 have m0:=Q3 w;have m1:=Q3 (w.alloc (.map #[] 0));have m2:=Q3 ((w.alloc (.map #[] 0)).alloc (.map #[] 0));have m3:=Q3 (((w.alloc (.map #[] 0)).alloc (.map #[] 0)).alloc (.map #[] 0));have G: ∀ {w w':World} {b:Nat},qx w b 0 []->Bl w w'->qx w' b 0 []:=fun h hb=>h.grown (J4 hb) (by simp)
 rcases j with _|_|_|_|j
 · exact⟨G m0 (qE (qE (qE (qE (qB _) _) _) _) _),hB,by show w.heap.size≠_;omega⟩
 ·
  rw[e1]at m1;exact⟨G m1 (qE (qE (qE (qB _) _) _) _),by show B<=w.heap.size+1;omega,by show w.heap.size+1≠_;omega⟩
 ·
  rw[e2]at m2;exact⟨G m2 (qE (qE (qB _) _) _),by show B<=w.heap.size+2;omega,by show w.heap.size+2≠_;omega⟩
 ·
  rw[e3]at m3;exact⟨G m3 (qE (qB _) _),by show B<=w.heap.size+3;omega,by show w.heap.size+3≠_;omega⟩
 · omega
theorem Oo (n:Nat): ∀ i j,i<4->j<4->BP n (n+1) (n+2) (n+3) i=BP n (n+1) (n+2) (n+3) j->i=j:=fun i j hi hj h=>by
 have e: ∀ k,k<4->BP n (n+1) (n+2) (n+3) k=n+k:=fun k hk=>by
  rcases k with _|_|_|_|k
  all_goals first
   |rfl
   |omega
 rw[e i hi,e j hj]at h;omega
def YV:TtV:=⟨.slice none 0 0, .slice none 0 0, .slice none 0 0, .slice none 0 0, .slice none 0 0, .slice none 0 0, .slice none 0 0, .slice none 0 0, .slice none 0 0, .slice none 0 0⟩
theorem Jm (B:Nat) (w:World):yA B w YV [] emptyT:=
 ⟨zJ,zJ,zJ,zJ,⟨zJ,fun x hx=>by cases hx⟩,rfl,zJ,zJ,zJ,zJ,zJ⟩
theorem Jl:ZZ emptyT:=aW
end Go.Proofs.YtakedkcjplfgeaaGreatDoor
