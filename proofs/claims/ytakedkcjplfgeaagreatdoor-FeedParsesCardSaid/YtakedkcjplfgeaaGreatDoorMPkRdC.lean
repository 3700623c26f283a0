/- Contracts, proved. Conditions: theirs. -/
import Derived.Test.YtakedkcjplfgeaaGreatDoorMPkRdB
set_option maxRecDepth 1000000
set_option maxHeartbeats 32000000
open Go.Proofs.Tryz
namespace Go.Proofs.YtakedkcjplfgeaaGreatDoor
open Go.RowKit
open Frq Thr Tt Num Clk Dat Fld
theorem yD:(prog.info? 3).map (λi=>(i.zero,i.size,i.bytes))=some (some (.int .i64 0),1,8):=κ
def Hm (w:World) (b:Nat):Nat->List Value->World
 |_,[]=>w
 |i,v::r=>Hm (w.setCell (b,i) v) b (i+1) r
def O4 (C:Array Value):Nat->List Value->Array Value
 |_,[]=>C
 |i,v::r=>O4 (C.setIfInBounds i v) (i+1) r
theorem Jd {g rb b:Nat} {m e:Int} {X:PX} {l:List Ψ} {T:TypeId} {w0:World} (hb:w0.heap.size<=b) (hg:g<w0.heap.size) (hr:rb<w0.heap.size) (h1:1<w0.heap.size) (h2:0<w0.heap.size): ∀ (L:List Value) (i:Nat) {w:World} {C:Array Value},wR g rb m e X l w->Gr g w0 w->w.heap[b]? =some (.cells C T (0,0))->
  wR g rb m e X l (Hm w b i L)/\Gr g w0 (Hm w b i L)/\(Hm w b i L).heap[b]? =some (.cells (O4 C i L) T (0,0))
 |[],_,_,_,h,k,q=>⟨h,k,q⟩
 |v::L,i,w,C,h,k,q=>Jd hb hg hr h1 h2 L (i+1) (h.far (p:=((b,i):A)) v (by dsimp only;omega) (by dsimp only;omega) (by dsimp only;omega) (by dsimp only;omega)) (zX k hb i v) (qQ q i v)
section
variable {B g rb:Nat} {m e:Int} {vs:Nat->Value} {ts:List TripD} {mb own:Nat->Nat} {s:St} {ids:Nat->List (List UInt8)} {o:Bool} {l:List (List UInt8)} {w w':World} {gg cap:Nat}
def RH (s:St) (x:ZH):St:=⟨{ s.t with stops:=s.t.stops++[x] },s.lines,s.rules,s.opened⟩
theorem o7 (s:St) (x:ZH) (ts:List TripD):jf (RH s x) ts 0=⟨120,4,s.t.stops.length+1,s.t.stops.flatMap jY++jY x⟩:=by
 show(⟨120,4,(s.t.stops++[x]).length,_⟩:Yn)=_
 have e:(s.t.stops++[x]).flatMap jY=s.t.stops.flatMap jY++jY x:=by rw[List.flatMap_append];rw[List.flatMap_cons,List.flatMap_nil,List.append_nil]
 have e2:(s.t.stops++[x]).length=s.t.stops.length+1:=by rw[U1];rfl
 rw[e2,<-e];rfl
theorem D8 (s:St) (x:ZH) (ts:List TripD): ∀ i,i<20->i≠0->jf (RH s x) ts i=jf s ts i:=λi hi hne=>by
 rcases i with _|_|_|_|_|_|_|_|_|_|_|_|_|_|_|_|_|_|_|_|i
 all_goals first
  |exact absurd rfl hne
  |rfl
  |omega
theorem kN.push0 (h:kN B g rb m e vs ts mb own s ids o l w) {x:ZH} (hg:w.grownBy w' (vs 0).ownBlock)
  (ho:w'.ownsRow B 120 4 ((gg,0,s.t.stops.length+1,cap):Z) (s.t.stops.length+1) (s.t.stops.flatMap jY++jY x)) (hgg:(vs 0).ownBlock=some gg∨gg=w.heap.size):
  ∃ vs' own',kN B g rb m e vs' ts mb own' (RH s x) ids o l (w'.setCell (g,2) ((gg,0,s.t.stops.length+1,cap):Z))/\Mv own w own' (w'.setCell (g,2) ((gg,0,s.t.stops.length+1,cap):Z)):=
 ⟨_,_,h.push (k:=0) (s':=RH s x) ω hg (by rw[o7]) (by rw[o7];exact ho) hgg rfl h.parts.lines (D8 s x ts) ⟨rfl,rfl,rfl⟩ rfl⟩
def RI (s:St) (x:xy):St:=⟨{ s.t with routes:=s.t.routes++[x] },s.lines,s.rules,s.opened⟩
theorem o8 (s:St) (x:xy) (ts:List TripD):jf (RI s x) ts 1=⟨122,3,s.t.routes.length+1,s.t.routes.flatMap jP++jP x⟩:=by
 show(⟨122,3,(s.t.routes++[x]).length,_⟩:Yn)=_
 have e:(s.t.routes++[x]).flatMap jP=s.t.routes.flatMap jP++jP x:=by rw[List.flatMap_append];rw[List.flatMap_cons,List.flatMap_nil,List.append_nil]
 have e2:(s.t.routes++[x]).length=s.t.routes.length+1:=by rw[U1];rfl
 rw[e2,<-e];rfl
theorem EC (s:St) (x:xy) (ts:List TripD): ∀ i,i<20->i≠1->jf (RI s x) ts i=jf s ts i:=λi hi hne=>by
 rcases i with _|_|_|_|_|_|_|_|_|_|_|_|_|_|_|_|_|_|_|_|i
 all_goals first
  |exact absurd rfl hne
  |rfl
  |omega
theorem kN.push1 (h:kN B g rb m e vs ts mb own s ids o l w) {x:xy} (hg:w.grownBy w' (vs 1).ownBlock)
  (ho:w'.ownsRow B 122 3 ((gg,0,s.t.routes.length+1,cap):Z) (s.t.routes.length+1) (s.t.routes.flatMap jP++jP x)) (hgg:(vs 1).ownBlock=some gg∨gg=w.heap.size):
  ∃ vs' own',kN B g rb m e vs' ts mb own' (RI s x) ids o l (w'.setCell (g,3) ((gg,0,s.t.routes.length+1,cap):Z))/\Mv own w own' (w'.setCell (g,3) ((gg,0,s.t.routes.length+1,cap):Z)):=
 ⟨_,_,h.push (k:=1) (s':=RI s x) ω hg (by rw[o8]) (by rw[o8];exact ho) hgg rfl h.parts.lines (EC s x ts) ⟨rfl,rfl,rfl⟩ rfl⟩
def RJ (s:St) (x:Yj):St:=⟨{ s.t with cals:=s.t.cals++[x] },s.lines,s.rules,s.opened⟩
theorem pF (s:St) (x:Yj) (ts:List TripD):jf (RJ s x) ts 2=⟨61,10,s.t.cals.length+1,s.t.cals.flatMap kD++kD x⟩:=by
 show(⟨61,10,(s.t.cals++[x]).length,_⟩:Yn)=_
 have e:(s.t.cals++[x]).flatMap kD=s.t.cals.flatMap kD++kD x:=by rw[List.flatMap_append];rw[List.flatMap_cons,List.flatMap_nil,List.append_nil]
 have e2:(s.t.cals++[x]).length=s.t.cals.length+1:=by rw[U1];rfl
 rw[e2,<-e];rfl
theorem ED (s:St) (x:Yj) (ts:List TripD): ∀ i,i<20->i≠2->jf (RJ s x) ts i=jf s ts i:=λi hi hne=>by
 rcases i with _|_|_|_|_|_|_|_|_|_|_|_|_|_|_|_|_|_|_|_|i
 all_goals first
  |exact absurd rfl hne
  |rfl
  |omega
theorem kN.push2 (h:kN B g rb m e vs ts mb own s ids o l w) {x:Yj} (hg:w.grownBy w' (vs 2).ownBlock)
  (ho:w'.ownsRow B 61 10 ((gg,0,s.t.cals.length+1,cap):Z) (s.t.cals.length+1) (s.t.cals.flatMap kD++kD x)) (hgg:(vs 2).ownBlock=some gg∨gg=w.heap.size):
  ∃ vs' own',kN B g rb m e vs' ts mb own' (RJ s x) ids o l (w'.setCell (g,4) ((gg,0,s.t.cals.length+1,cap):Z))/\Mv own w own' (w'.setCell (g,4) ((gg,0,s.t.cals.length+1,cap):Z)):=
 ⟨_,_,h.push (k:=2) (s':=RJ s x) ω hg (by rw[pF]) (by rw[pF];exact ho) hgg rfl h.parts.lines (ED s x ts) ⟨rfl,rfl,rfl⟩ rfl⟩
def RN (s:St) (x:Yk):St:=⟨{ s.t with excs:=s.t.excs++[x] },s.lines,s.rules,s.opened⟩
theorem pG (s:St) (x:Yk) (ts:List TripD):jf (RN s x) ts 3=⟨124,3,s.t.excs.length+1,s.t.excs.flatMap kE++kE x⟩:=by
 show(⟨124,3,(s.t.excs++[x]).length,_⟩:Yn)=_
 have e:(s.t.excs++[x]).flatMap kE=s.t.excs.flatMap kE++kE x:=by rw[List.flatMap_append];rw[List.flatMap_cons,List.flatMap_nil,List.append_nil]
 have e2:(s.t.excs++[x]).length=s.t.excs.length+1:=by rw[U1];rfl
 rw[e2,<-e];rfl
theorem EE (s:St) (x:Yk) (ts:List TripD): ∀ i,i<20->i≠3->jf (RN s x) ts i=jf s ts i:=λi hi hne=>by
 rcases i with _|_|_|_|_|_|_|_|_|_|_|_|_|_|_|_|_|_|_|_|i
 all_goals first
  |exact absurd rfl hne
  |rfl
  |omega
theorem kN.push3 (h:kN B g rb m e vs ts mb own s ids o l w) {x:Yk} (hg:w.grownBy w' (vs 3).ownBlock)
  (ho:w'.ownsRow B 124 3 ((gg,0,s.t.excs.length+1,cap):Z) (s.t.excs.length+1) (s.t.excs.flatMap kE++kE x)) (hgg:(vs 3).ownBlock=some gg∨gg=w.heap.size):
  ∃ vs' own',kN B g rb m e vs' ts mb own' (RN s x) ids o l (w'.setCell (g,5) ((gg,0,s.t.excs.length+1,cap):Z))/\Mv own w own' (w'.setCell (g,5) ((gg,0,s.t.excs.length+1,cap):Z)):=
 ⟨_,_,h.push (k:=3) (s':=RN s x) ω hg (by rw[pG]) (by rw[pG];exact ho) hgg rfl h.parts.lines (EE s x ts) ⟨rfl,rfl,rfl⟩ rfl⟩
def RP (s:St) (x:Yl):St:=⟨{ s.t with freqs:=s.t.freqs++[x] },s.lines,s.rules,s.opened⟩
theorem pI (s:St) (x:Yl) (ts:List TripD):jf (RP s x) ts 5=⟨126,4,s.t.freqs.length+1,(s.t.freqs.map zS).flatMap qj++qj (zS x)⟩:=by
 show(⟨126,4,(s.t.freqs++[x]).length,_⟩:Yn)=_
 have e:((s.t.freqs++[x]).map zS).flatMap qj=(s.t.freqs.map zS).flatMap qj++qj (zS x):=by rw[List.map_append,List.flatMap_append];rw[List.map_cons,List.map_nil,List.flatMap_cons,List.flatMap_nil,List.append_nil]
 have e2:(s.t.freqs++[x]).length=s.t.freqs.length+1:=by rw[U1];rfl
 rw[e2,<-e];rfl
theorem EG (s:St) (x:Yl) (ts:List TripD): ∀ i,i<20->i≠5->jf (RP s x) ts i=jf s ts i:=λi hi hne=>by
 rcases i with _|_|_|_|_|_|_|_|_|_|_|_|_|_|_|_|_|_|_|_|i
 all_goals first
  |exact absurd rfl hne
  |rfl
  |omega
theorem kN.push5 (h:kN B g rb m e vs ts mb own s ids o l w) {x:Yl} (hg:w.grownBy w' (vs 5).ownBlock)
  (ho:w'.ownsRow B 126 4 ((gg,0,s.t.freqs.length+1,cap):Z) (s.t.freqs.length+1) ((s.t.freqs.map zS).flatMap qj++qj (zS x))) (hgg:(vs 5).ownBlock=some gg∨gg=w.heap.size):
  ∃ vs' own',kN B g rb m e vs' ts mb own' (RP s x) ids o l (w'.setCell (g,7) ((gg,0,s.t.freqs.length+1,cap):Z))/\Mv own w own' (w'.setCell (g,7) ((gg,0,s.t.freqs.length+1,cap):Z)):=
 ⟨_,_,h.push (k:=5) (s':=RP s x) ω hg (by rw[pI]) (by rw[pI];exact ho) hgg rfl h.parts.lines (EG s x ts) ⟨rfl,rfl,rfl⟩ rfl⟩
def RQ (s:St) (x:Yo):St:=⟨{ s.t with thrus:=s.t.thrus++[x] },s.lines,s.rules,s.opened⟩
theorem pJ (s:St) (x:Yo) (ts:List TripD):jf (RQ s x) ts 6=⟨128,2,s.t.thrus.length+1,(s.t.thrus.map ja).flatMap kV++kV (ja x)⟩:=by
 show(⟨128,2,(s.t.thrus++[x]).length,_⟩:Yn)=_
 have e:((s.t.thrus++[x]).map ja).flatMap kV=(s.t.thrus.map ja).flatMap kV++kV (ja x):=by rw[List.map_append,List.flatMap_append];rw[List.map_cons,List.map_nil,List.flatMap_cons,List.flatMap_nil,List.append_nil]
 have e2:(s.t.thrus++[x]).length=s.t.thrus.length+1:=by rw[U1];rfl
 rw[e2,<-e];rfl
theorem EH (s:St) (x:Yo) (ts:List TripD): ∀ i,i<20->i≠6->jf (RQ s x) ts i=jf s ts i:=λi hi hne=>by
 rcases i with _|_|_|_|_|_|_|_|_|_|_|_|_|_|_|_|_|_|_|_|i
 all_goals first
  |exact absurd rfl hne
  |rfl
  |omega
theorem kN.push6 (h:kN B g rb m e vs ts mb own s ids o l w) {x:Yo} (hg:w.grownBy w' (vs 6).ownBlock)
  (ho:w'.ownsRow B 128 2 ((gg,0,s.t.thrus.length+1,cap):Z) (s.t.thrus.length+1) ((s.t.thrus.map ja).flatMap kV++kV (ja x))) (hgg:(vs 6).ownBlock=some gg∨gg=w.heap.size):
  ∃ vs' own',kN B g rb m e vs' ts mb own' (RQ s x) ids o l (w'.setCell (g,8) ((gg,0,s.t.thrus.length+1,cap):Z))/\Mv own w own' (w'.setCell (g,8) ((gg,0,s.t.thrus.length+1,cap):Z)):=
 ⟨_,_,h.push (k:=6) (s':=RQ s x) ω hg (by rw[pJ]) (by rw[pJ];exact ho) hgg rfl h.parts.lines (EH s x ts) ⟨rfl,rfl,rfl⟩ rfl⟩
def RS (s:St) (x:wL):St:=⟨{ s.t with guars:=s.t.guars++[x] },s.lines,s.rules,s.opened⟩
theorem pK (s:St) (x:wL) (ts:List TripD):jf (RS s x) ts 7=⟨130,3,s.t.guars.length+1,s.t.guars.flatMap kU++kU x⟩:=by
 show(⟨130,3,(s.t.guars++[x]).length,_⟩:Yn)=_
 have e:(s.t.guars++[x]).flatMap kU=s.t.guars.flatMap kU++kU x:=by rw[List.flatMap_append];rw[List.flatMap_cons,List.flatMap_nil,List.append_nil]
 have e2:(s.t.guars++[x]).length=s.t.guars.length+1:=by rw[U1];rfl
 rw[e2,<-e];rfl
theorem EI (s:St) (x:wL) (ts:List TripD): ∀ i,i<20->i≠7->jf (RS s x) ts i=jf s ts i:=λi hi hne=>by
 rcases i with _|_|_|_|_|_|_|_|_|_|_|_|_|_|_|_|_|_|_|_|i
 all_goals first
  |exact absurd rfl hne
  |rfl
  |omega
theorem kN.push7 (h:kN B g rb m e vs ts mb own s ids o l w) {x:wL} (hg:w.grownBy w' (vs 7).ownBlock)
  (ho:w'.ownsRow B 130 3 ((gg,0,s.t.guars.length+1,cap):Z) (s.t.guars.length+1) (s.t.guars.flatMap kU++kU x)) (hgg:(vs 7).ownBlock=some gg∨gg=w.heap.size):
  ∃ vs' own',kN B g rb m e vs' ts mb own' (RS s x) ids o l (w'.setCell (g,9) ((gg,0,s.t.guars.length+1,cap):Z))/\Mv own w own' (w'.setCell (g,9) ((gg,0,s.t.guars.length+1,cap):Z)):=
 ⟨_,_,h.push (k:=7) (s':=RS s x) ω hg (by rw[pK]) (by rw[pK];exact ho) hgg rfl h.parts.lines (EI s x ts) ⟨rfl,rfl,rfl⟩ rfl⟩
def RU (s:St) (x:Qq):St:=⟨{ s.t with paths:=s.t.paths++[x] },s.lines,s.rules,s.opened⟩
theorem pM (s:St) (x:Qq) (ts:List TripD):jf (RU s x) ts 8=⟨63,4,s.t.paths.length+1,s.t.paths.flatMap zt++zt x⟩:=by
 show(⟨63,4,(s.t.paths++[x]).length,_⟩:Yn)=_
 have e:(s.t.paths++[x]).flatMap zt=s.t.paths.flatMap zt++zt x:=by rw[List.flatMap_append];rw[List.flatMap_cons,List.flatMap_nil,List.append_nil]
 have e2:(s.t.paths++[x]).length=s.t.paths.length+1:=by rw[U1];rfl
 rw[e2,<-e];rfl
theorem EJ (s:St) (x:Qq) (ts:List TripD): ∀ i,i<20->i≠8->jf (RU s x) ts i=jf s ts i:=λi hi hne=>by
 rcases i with _|_|_|_|_|_|_|_|_|_|_|_|_|_|_|_|_|_|_|_|i
 all_goals first
  |exact absurd rfl hne
  |rfl
  |omega
theorem kN.push8 (h:kN B g rb m e vs ts mb own s ids o l w) {x:Qq} (hg:w.grownBy w' (vs 8).ownBlock)
  (ho:w'.ownsRow B 63 4 ((gg,0,s.t.paths.length+1,cap):Z) (s.t.paths.length+1) (s.t.paths.flatMap zt++zt x)) (hgg:(vs 8).ownBlock=some gg∨gg=w.heap.size):
  ∃ vs' own',kN B g rb m e vs' ts mb own' (RU s x) ids o l (w'.setCell (g,10) ((gg,0,s.t.paths.length+1,cap):Z))/\Mv own w own' (w'.setCell (g,10) ((gg,0,s.t.paths.length+1,cap):Z)):=
 ⟨_,_,h.push (k:=8) (s':=RU s x) ω hg (by rw[pM]) (by rw[pM];exact ho) hgg rfl h.parts.lines (EJ s x ts) ⟨rfl,rfl,rfl⟩ rfl⟩
def RV (s:St) (x:JA):St:=⟨{ s.t with fares:={ s.t.fares with prods:=s.t.fares.prods++[x] } },s.lines,s.rules,s.opened⟩
theorem pO (s:St) (x:JA) (ts:List TripD):jf (RV s x) ts 9=⟨65,6,s.t.fares.prods.length+1,s.t.fares.prods.flatMap zu++zu x⟩:=by
 show(⟨65,6,(s.t.fares.prods++[x]).length,_⟩:Yn)=_
 have e:(s.t.fares.prods++[x]).flatMap zu=s.t.fares.prods.flatMap zu++zu x:=by rw[List.flatMap_append];rw[List.flatMap_cons,List.flatMap_nil,List.append_nil]
 have e2:(s.t.fares.prods++[x]).length=s.t.fares.prods.length+1:=by rw[U1];rfl
 rw[e2,<-e];rfl
theorem EK (s:St) (x:JA) (ts:List TripD): ∀ i,i<20->i≠9->jf (RV s x) ts i=jf s ts i:=λi hi hne=>by
 rcases i with _|_|_|_|_|_|_|_|_|_|_|_|_|_|_|_|_|_|_|_|i
 all_goals first
  |exact absurd rfl hne
  |rfl
  |omega
theorem kN.push9 (h:kN B g rb m e vs ts mb own s ids o l w) {x:JA} (hg:w.grownBy w' (vs 9).ownBlock)
  (ho:w'.ownsRow B 65 6 ((gg,0,s.t.fares.prods.length+1,cap):Z) (s.t.fares.prods.length+1) (s.t.fares.prods.flatMap zu++zu x)) (hgg:(vs 9).ownBlock=some gg∨gg=w.heap.size):
  ∃ vs' own',kN B g rb m e vs' ts mb own' (RV s x) ids o l (w'.setCell (g,11) ((gg,0,s.t.fares.prods.length+1,cap):Z))/\Mv own w own' (w'.setCell (g,11) ((gg,0,s.t.fares.prods.length+1,cap):Z)):=
 ⟨_,_,h.push (k:=9) (s':=RV s x) ω hg (by rw[pO]) (by rw[pO];exact ho) hgg rfl h.parts.lines (EK s x ts) ⟨rfl,rfl,rfl⟩ rfl⟩
def PV (f1:Ψ) (n2 n3:Int) (n4:Bool):TripD:=⟨⟨f1.toArray⟩,n2,n3,n4,(),[]⟩
def Ri (s:St) (x:TripX):St:=⟨{ s.t with trips:=s.t.trips++[x] },s.lines,s.rules,s.opened⟩
theorem EF (s:St) (x:TripX) (ts:List TripD) (y:TripD): ∀ i,i<20->i≠4->jf (Ri s x) (ts++[y]) i=jf s ts i:=λi hi hne=>by
 rcases i with _|_|_|_|_|_|_|_|_|_|_|_|_|_|_|_|_|_|_|_|i
 all_goals first
  |exact absurd rfl hne
  |rfl
  |omega
theorem kN.push4 (h:kN B g rb m e vs ts mb own s ids o l w) {f1:Ψ} {n2 n3:Int} {n4:Bool} (hg:w.grownBy w' (vs 4).ownBlock)
  (ho:w'.ownsRow B 56 5 ((gg,0,ts.length+1,cap):Z) (ts.length+1) (ts.flatMap tripCells++tripCells (PV f1 n2 n3 n4))) (hgg:(vs 4).ownBlock=some gg∨gg=w.heap.size):
  ∃ vs' own',kN B g rb m e vs' (ts++[PV f1 n2 n3 n4]) mb own' (Ri s ⟨f1,n2,n3,n4,[]⟩) ids o l (w'.setCell (g,6) ((gg,0,ts.length+1,cap):Z))/\Mv own w own' (w'.setCell (g,6) ((gg,0,ts.length+1,cap):Z)):=by
 have hlab: ∀ b,b<w.heap.size->wO own gg 4 b=own b:=λb hb=>vw hgg (h.parts.lab 4 ω) hb
 have p1:=h.parts.trip (x:=PV f1 n2 n3 n4) (s':=Ri s ⟨f1,n2,n3,n4,[]⟩) rfl rfl hg rfl ho hgg (by show s.t.trips++_=_;rw[h.parts.same,List.map_append];rfl) h.parts.lines (EF s _ ts _);have r1:=h.rat.row hg (h.far ω (.inr (.inr h.lg))) (h.far ω (.inr (.inl h.lrb))) (h.far ω (.inl h.l1)) (h.far ω (.inl h.l2));have lg':wO own gg 4 g=99:=(hlab g h.glt).trans h.lg;have gs:=zH g w' 6 ((gg,0,ts.length+1,cap):Z);obtain⟨u,q1,q2⟩:=r1.at';refine⟨_,_,⟨r1.turn gs ⟨u, ?_,q2⟩,p1.kept gs (λb hb=>by simp only[qAA]at hb;rw[<-hb,lg'];omega),lg',(hlab rb h.rat.lt).trans h.lrb,(hlab _ h.rat.env.lt.1).trans h.l1,(hlab _ h.rat.env.lt.2).trans h.l2⟩, ?_⟩
 ·
  have:=qQ q1 (KR 4) ((gg,0,ts.length+1,cap):Z);rw[Gy u e vs _ mb _ o ω _]at this;exact this
 have m1:Mv own w (wO own gg 4) w':=by
  refine⟨hg.os,hg.tape,hg.output,hg.size,hlab,λb hb hl=>hg.block b hb (λe2=>?_)⟩;have:=h.parts.lab 4 ω b e2.symm;omega
 exact m1.trans (QK gs lg')
theorem kN.line' (h:kN B g rb m e vs ts mb own s ids o l w) {k:Nat} {n:Int} {s':St} (hk:k<10) (hg:w.grownBy w' (vs (k+10)).ownBlock)
  (ho:w'.ownsRow B 3 1 (.slice (some ⟨gg,0,none⟩) ((qN s k).length+1) cap) ((qN s k).length+1) ((qN s k).flatMap qi++[.int .i64 n])) (hgg:(vs (k+10)).ownBlock=some gg∨gg=w.heap.size) (ht:s'.t=s.t) (hl:s'.lines=jm s k n) (hr:s'.rules=s.rules):
  ∃ vs' own',kN B g rb m e vs' ts mb own' s' ids o l (w'.setCell ⟨g,k+19,none⟩ (.slice (some ⟨gg,0,none⟩) ((qN s k).length+1) cap))/\Mv own w own' (w'.setCell ⟨g,k+19,none⟩ (.slice (some ⟨gg,0,none⟩) ((qN s k).length+1) cap)):=⟨_,_,h.lined hk hg ho hgg ht hl hr⟩
end
theorem Xo (b:UInt8) (v:Bool) (H:Hid (GU b=v)) (w:World):
  Calls prog 280 #[.int .u8 b.toNat] w λq w'=>q=.returned (v:Z)/\w'=w:=by
 have hb:((b.toNat:Int)=43∨(97<=(b.toNat:Int)/\(b.toNat:Int)<=122))↔v=true:=by
  rw[<-H.o];unfold GU;simp only[Bool.or_eq_true,beq_iff_eq,Bool.and_eq_true,decide_eq_true_eq];omega
 clear H;generalize (b.toNat:Int)=z at hb ⊢
 by_cases h43:z=43
 ·
  obtain rfl:true=v:=(hb.1 (.inl h43)).symm;subst h43;clear hb;go_enter func280,ntmps280
  go_wp2;go_ret;exact⟨rfl,rfl⟩
 have n43:(z==43)=false:=by rw[U0];exact h43
 by_cases h97:97<=z
 ·
  by_cases h122:z<=122
  ·
   obtain rfl:true=v:=(hb.1 (.inr ⟨h97,h122⟩)).symm;clear hb;go_enter func280,ntmps280
   go_wp2;go_ret;exact⟨rfl,rfl⟩
  obtain rfl:false=v:=by cases v with
   |false=>rfl
   |true=>exfalso;have:=hb.2 rfl;omega
  clear hb;go_enter func280,ntmps280
  go_wp2;go_ret;exact⟨rfl,rfl⟩
 obtain rfl:false=v:=by cases v with
  |false=>rfl
  |true=>exfalso;have:=hb.2 rfl;omega
 clear hb;go_enter func280,ntmps280
 go_wp2;go_ret;exact⟨rfl,rfl⟩
theorem ZX {a:UInt8} {n:Nat} {k:Int} (hn:n<256) (hk:(n:Int)=k) (h:a=UInt8.ofNat n):((a.toNat:Int)==k)=true/\((a.toNat:Int) != k)=false:=by
 have:a.toNat=n:=by rw[h,UInt8.toNat_ofNat'];omega
 rw[this,hk];simp
theorem xY {a:UInt8} {n:Nat} {k:Int} (hk:(n:Int)=k) (h: ¬ a=UInt8.ofNat n):((a.toNat:Int)==k)=false/\((a.toNat:Int) != k)=true:=by
 have: ¬ a.toNat=n:=λe=>h (by rw[<-e];simp)
 have h1: ¬ (a.toNat:Int)=k:=ω
 exact⟨by rw[U0];exact h1,by rw[bne_iff_ne];exact h1⟩
def wkV (x:Ψ) (k:Nat):List Value:=(x.take k).map (λb=> .bool (b==49))++List.replicate (7-k) (false:Z)
theorem qBt {x:Ψ} {k:Nat} (hx:x.length=7) (hk:k<7):(wkV x k).toArray[k]? =some (false:Z):=by
 have hl:((x.take k).map (λb=>Value.bool (b==49))).length=k:=by rw[U4,List.length_take];omega
 rw[List.getElem?_toArray];unfold wkV;rw[List.getElem?_append_right ω,hl,List.getElem?_replicate,U6 ω]
theorem qBy {x:Ψ} {k:Nat} {b:UInt8} (hb:x[k]? =some b) (hk:k<7):(wkV x k).toArray.setIfInBounds k (.bool (b==49))=(wkV x (k+1)).toArray:=by
 have hl:((x.take k).map (λb=>Value.bool (b==49))).length=k:=by
  have:=(Uw.1 hb).1;simp
  omega
 have e1:List.replicate (7-k) (Value.bool false)=.bool false::List.replicate (7-(k+1)) (false:Z):=by
  rw[show 7-k=(7-(k+1))+1 by omega];rfl
 rw[List.setIfInBounds_toArray];unfold wkV;rw[e1,List.set_append_right _ _ ω,hl,Nat.sub_self,List.take_add_one,hb,List.map_append,List.append_assoc];rfl
theorem u8b (b:UInt8) (n:Nat) (hn:n<256):(b==UInt8.ofNat n)=((b.toNat:Int)==(n:Int)):=by
 rw[Bool.eq_iff_iff,beq_iff_eq,beq_iff_eq];constructor
 · rintro rfl;rw[UInt8.toNat_ofNat'];omega
 intro h;apply UInt8.toNat.inj;rw[UInt8.toNat_ofNat'];omega
def wkE (x:Ψ) (k:Nat):Int:=if(x.take k).all (λx=>x==48||x==49)=true then 0 else 3
theorem qBj {x:Ψ} {k:Nat} {b:UInt8} (hb:x[k]? =some b) (e:Int):fe e (wkE x (k+1))=if(b==48||b==49)=true then fe e (wkE x k)else fe (fe e (wkE x k)) 3:=by
 have h1:(x.take (k+1)).all (λx=>x==48||x==49)=((x.take k).all (λx=>x==48||x==49)&&(b==48||b==49)):=by
  rw[List.take_add_one,hb,List.all_append];simp
 unfold wkE;rw[h1];unfold fe;cases (x.take k).all (λx=>x==48||x==49)<;>cases (b==48||b==49)<;>by_cases he:e=0<;>simp[he]
theorem BD (g rb:Nat) (m e e2 E:Int) (wk:Vw) (X:PX) (x:Ψ) (r:List Ψ) (HX:Hid (JR x=(wk,e2))) (H:Hid (fe e e2=E)) (w:World) (hr:wR g rb m e X (x::r) w):
  Calls prog 112 #[.pointer (some ⟨g,0,none⟩)] w λq w'=>q= .returned (.agg #[.bool wk.d0, .bool wk.d1, .bool wk.d2, .bool wk.d3, .bool wk.d4, .bool wk.d5, .bool wk.d6])/\wR g rb m E X r w'/\Gr g w w':=by
 have HR:=qA hr;have hg:=hr.glt;clear hr;obtain⟨wz,hwz⟩:=ε ((w.alloc (.cells #[.bool false, .bool false, .bool false, .bool false, .bool false, .bool false, .bool false] 59)).alloc (.cells #[.bool false, .bool false, .bool false, .bool false, .bool false, .bool false, .bool false] 59));have bz:Bl w wz:=by rw[<-hwz];exact qE (qE (qB _) _) _
 have Z0:Hid (wz.heap[w.heap.size]? =some (.cells #[.bool false, .bool false, .bool false, .bool false, .bool false, .bool false, .bool false] 59 (0,0))):=by rw[<-hwz];exact qX (heap_alloc_new w _) (qE (qB _) _)
 have Z1:Hid (wz.heap[w.heap.size+1]? =some (.cells #[.bool false, .bool false, .bool false, .bool false, .bool false, .bool false, .bool false] 59 (0,0))):=by rw[<-hwz];have h:=heap_alloc_new (w.alloc (.cells #[.bool false, .bool false, .bool false, .bool false, .bool false, .bool false, .bool false] 59)) (.cells #[.bool false, .bool false, .bool false, .bool false, .bool false, .bool false, .bool false] 59);rw[show(w.alloc (.cells #[.bool false, .bool false, .bool false, .bool false, .bool false, .bool false, .bool false] 59)).heap.size=w.heap.size+1 by simp]at h;exact h
 have RZ:=qA (HR.o.bl bz);have GZ:Hid (Gr g w wz):=jH bz;have sz:w.heap.size+2<=wz.heap.size:=by rw[<-hwz];simp
 have lt4:=HR.o.lt;have le4:=HR.o.env.lt;have d1:w.heap.size≠g:=ω
 have d2:w.heap.size≠rb:=ω
 have d3:w.heap.size≠1:=ω
 have d4:w.heap.size≠0:=ω
 go_enter func112,ntmps112
 go_wp2_with (go_at_call 107;refine(zy g rb m e X x r wz RZ.o).mono ?_)
 rintro y0 w0 ⟨rfl,r0,g0⟩;have R0:=qA r0;have G0:=qA (qJ GZ.o g0);have D0:=qA ((qg g0 ω ω).trans Z0.o);have D1:=qA ((qg g0 ω ω).trans Z1.o);clear r0 g0 Z0 Z1 RZ GZ hwz bz;by_cases h7:x.length=7
 ·
  have hxi:((x.length:Int) != 7)=false:=by rw[h7];rfl
  have hsz:(⟨x.toArray⟩:ByteArray).size=7:=by rw[<-h7];rfl
  go_wp2_with fail;go_loopw [14] (λi wr=> ∃ k:Nat,(k<=7/\i= .int .i64 k)/\Hid (wR g rb m (fe e (wkE x k)) X r wr)/\Hid (Gr g w wr)/\Hid (wr.heap[w.heap.size]? =some (.cells #[.bool false, .bool false, .bool false, .bool false, .bool false, .bool false, .bool false] 59 (0,0)))/\Hid (wr.heap[w.heap.size+1]? =some (.cells (wkV x k).toArray 59 (0,0)))) (λi _=>7-(intOf i).toNat)
  case atStart=>exact⟨0,⟨ω,rfl⟩,by have h1:fe e (wkE x 0)=e:=ji e;rw[h1];exact R0,G0,D0,D1⟩
  obtain⟨k,⟨hk,rfl⟩,HRr,HG,D0,D1⟩:=hrel;by_cases hlt:k<7
  ·
   have hkI:(k:Int)<7:=ω
   have hks:k<(⟨x.toArray⟩:ByteArray).size:=ω
   obtain⟨b,hb⟩: ∃ b,x[k]? =some b:=⟨_,U2 ω⟩;have hbs:(⟨x.toArray⟩:ByteArray)[k]'hks=b:=by
    have:=(Uw.1 hb).2;rw[<-this];rfl
   have y0: ∀ w:World,(Instr.index 9 (qP x) (.int .i64 k)).run prog w= .ok (.int .u8 (b.toNat:Int)) w:=λw=>by rw[<-hbs];exact Nu.KI ⟨x.toArray⟩ k k rfl hks w
   obtain⟨v,hv⟩:=ε ((b==49));obtain⟨u,hu⟩:=ε ((b==48));have q49:((b.toNat:Int)==49)=v:=by rw[<-hv];exact(u8b b 49 ω).symm
   have q48:((b.toNat:Int)==48)=u:=by rw[<-hu];exact(u8b b 48 ω).symm
   have m49:((b.toNat:Int) != 49)= !v:=by rw[bne,q49]
   have m48:((b.toNat:Int) != 48)= !u:=by rw[bne,q48]
   have hV:=qBy hb hlt;have hE:=qBj hb e;rw[hv]at hV hE;rw[hu]at hE;have HV:=qA hV;have HE:=qA hE;have c1:wr.cell? ⟨w.heap.size+1,k,none⟩=some (.bool false):=qC D1.o k _ (qBt h7 hlt);have f1:=U8 D1.o k;have zz:=lt_of_block D1.o;have R1:=HRr.o.far (p:=⟨w.heap.size+1,k,none⟩) (.bool v) (by dsimp only;omega) (by dsimp only;omega) (by dsimp only;omega) (by dsimp only;omega);have HK:=qA (show Gr g w (wr.setCell ⟨w.heap.size+1,k,none⟩ (.bool v))/\(wr.setCell ⟨w.heap.size+1,k,none⟩ (.bool v)).heap[w.heap.size]? =_/\(wr.setCell ⟨w.heap.size+1,k,none⟩ (.bool v)).heap[w.heap.size+1]? =_ from⟨zX HG.o ω k _,(Below.heap_setCell wr ⟨w.heap.size+1,k,none⟩ _ w.heap.size σ).trans D0.o,qQ D1.o k _⟩);rw[HV.o]at HK;clear hV hE hb hu hv hbs HV;cases hq:(u||v)with
   |true=>
    have HE2:=qA (HE.o.trans (U6 hq));clear HE;rcases(show v=true∨v=false/\u=true by cases v<;>simp_all)with rfl|⟨rfl,rfl⟩
    all_goals
     go_wp2;go_roundw;case rel=>exact⟨k+1,⟨ω,by go_num⟩,by rw[HE2.o];exact R1,HK.o.1,HK.o.2.1,HK.o.2.2⟩
     simp[intOf];omega
   |false=>
    have HE2:=qA (HE.o.trans (U5 (by rw[hq];decide)));obtain⟨rfl,rfl⟩:=Bool.or_eq_false_iff.1 hq;clear HE;go_wp2_with (go_at_call 186;refine(yH g rb m (fe e (wkE x k)) 3 _ (qA rfl) X r _ R1).mono ?_;rintro y2 w2 ⟨rfl,r2,g2⟩)
    go_roundw;case rel=>exact⟨k+1,⟨ω,by go_num⟩,by rw[HE2.o];exact r2,qJ HK.o.1 g2,(qg g2 (lt_of_block HK.o.2.1) ω).trans HK.o.2.1,(qg g2 (lt_of_block HK.o.2.2) ω).trans HK.o.2.2⟩
    simp[intOf];omega
  obtain rfl:k=7:=ω
  obtain⟨a,b,c,d,e',f',g',rfl⟩: ∃ a b c d e' f' g',x=[a,b,c,d,e',f',g']:=by
   match x,h7 with
   |[a,b,c,d,e',f',g'],_=>exact⟨a,b,c,d,e',f',g',rfl⟩
  obtain⟨z1,z2⟩:=qAE HX.o;have HE:=qA (show fe e (wkE [a,b,c,d,e',f',g'] 7)=E by rw[<-H.o,<-z2];rfl);subst z1;have D2:Hid (wr.heap[w.heap.size+1]? =some (.cells #[.bool (a==49), .bool (b==49), .bool (c==49), .bool (d==49), .bool (e'==49), .bool (f'==49), .bool (g'==49)] 59 (0,0))):=D1.o;have q0:=qC D2.o 0 _ rfl;have p0:=qC D0.o 0 _ rfl;have fr0:=U8 D0.o 0;have q1:=qC D2.o 1 _ rfl;have p1:=qC D0.o 1 _ rfl;have fr1:=U8 D0.o 1;have q2:=qC D2.o 2 _ rfl;have p2:=qC D0.o 2 _ rfl;have fr2:=U8 D0.o 2;have q3:=qC D2.o 3 _ rfl;have p3:=qC D0.o 3 _ rfl;have fr3:=U8 D0.o 3;have q4:=qC D2.o 4 _ rfl;have p4:=qC D0.o 4 _ rfl;have fr4:=U8 D0.o 4;have q5:=qC D2.o 5 _ rfl;have p5:=qC D0.o 5 _ rfl;have fr5:=U8 D0.o 5;have q6:=qC D2.o 6 _ rfl;have p6:=qC D0.o 6 _ rfl;have fr6:=U8 D0.o 6;clear D1;go_wp2;refine bodyPost_ret (results_cell_row rfl _ _ w.heap.size 59 #[.bool (a==49), .bool (b==49), .bool (c==49), .bool (d==49), .bool (e'==49), .bool (f'==49), .bool (g'==49)] (0,0) _ rfl (qQ (qQ (qQ (qQ (qQ (qQ (qQ D0.o 0 _) 1 _) 2 _) 3 _) 4 _) 5 _) 6 _) underlying59 rfl κ) rfl ?_;exact⟨rfl,by rw[<-HE.o];exact(((((((HRr.o).far (p:=⟨w.heap.size,0,none⟩) _ d1 d2 d3 d4).far (p:=⟨w.heap.size,1,none⟩) _ d1 d2 d3 d4).far (p:=⟨w.heap.size,2,none⟩) _ d1 d2 d3 d4).far (p:=⟨w.heap.size,3,none⟩) _ d1 d2 d3 d4).far (p:=⟨w.heap.size,4,none⟩) _ d1 d2 d3 d4).far (p:=⟨w.heap.size,5,none⟩) _ d1 d2 d3 d4).far (p:=⟨w.heap.size,6,none⟩) _ d1 d2 d3 d4,zX (zX (zX (zX (zX (zX (zX (HG.o) (U3 _) 0 _) (U3 _) 1 _) (U3 _) 2 _) (U3 _) 3 _) (U3 _) 4 _) (U3 _) 5 _) (U3 _) 6 _⟩
 have hxi:((x.length:Int) != 7)=true:=by rw[bne_iff_ne];omega
 have hw3:JR x=(⟨false,false,false,false,false,false,false⟩,3):=by
  unfold JR;split
  · exact absurd rfl h7
  rfl
 obtain⟨q1,q2⟩:=qAE (hw3.symm.trans HX.o);subst q1 q2;go_wp2_with (go_at_call 186;refine(yH g rb m e 3 E H X r w0 R0.o).mono ?_)
 rintro y2 w2 ⟨rfl,r2,g2⟩;have D3:=qA ((qg g2 (lt_of_block D1.o) ω).trans D1.o);have D4:=qA ((qg g2 (lt_of_block D0.o) ω).trans D0.o);clear D1 D0;have D1:=D3;have D0:=D4;have q0:=qC D1.o 0 _ rfl;have p0:=qC D0.o 0 _ rfl;have fr0:=U8 D0.o 0;have q1:=qC D1.o 1 _ rfl;have p1:=qC D0.o 1 _ rfl;have fr1:=U8 D0.o 1;have q2:=qC D1.o 2 _ rfl;have p2:=qC D0.o 2 _ rfl;have fr2:=U8 D0.o 2;have q3:=qC D1.o 3 _ rfl;have p3:=qC D0.o 3 _ rfl;have fr3:=U8 D0.o 3;have q4:=qC D1.o 4 _ rfl;have p4:=qC D0.o 4 _ rfl;have fr4:=U8 D0.o 4;have q5:=qC D1.o 5 _ rfl;have p5:=qC D0.o 5 _ rfl;have fr5:=U8 D0.o 5;have q6:=qC D1.o 6 _ rfl;have p6:=qC D0.o 6 _ rfl;have fr6:=U8 D0.o 6;go_wp2;refine bodyPost_ret (results_cell_row rfl _ _ w.heap.size 59 #[.bool false, .bool false, .bool false, .bool false, .bool false, .bool false, .bool false] (0,0) _ rfl (qQ (qQ (qQ (qQ (qQ (qQ (qQ D0.o 0 _) 1 _) 2 _) 3 _) 4 _) 5 _) 6 _) underlying59 rfl κ) rfl ?_;exact⟨rfl,(((((((r2).far (p:=⟨w.heap.size,0,none⟩) _ d1 d2 d3 d4).far (p:=⟨w.heap.size,1,none⟩) _ d1 d2 d3 d4).far (p:=⟨w.heap.size,2,none⟩) _ d1 d2 d3 d4).far (p:=⟨w.heap.size,3,none⟩) _ d1 d2 d3 d4).far (p:=⟨w.heap.size,4,none⟩) _ d1 d2 d3 d4).far (p:=⟨w.heap.size,5,none⟩) _ d1 d2 d3 d4).far (p:=⟨w.heap.size,6,none⟩) _ d1 d2 d3 d4,zX (zX (zX (zX (zX (zX (zX (qJ G0.o g2) (U3 _) 0 _) (U3 _) 1 _) (U3 _) 2 _) (U3 _) 3 _) (U3 _) 4 _) (U3 _) 5 _) (U3 _) 6 _⟩
theorem mM (s:Φ) (i j:Nat):(s.extract i j).data.toList=(s.data.toList.drop i).take (j-i):=yC s i j
theorem sJ (l:Ψ) {a k:Nat} (h1:a<=k) (h2:k<l.length):l.drop a=(l.drop a).take (k-a)++l[k]::l.drop (k+1):=by
 have e:=List.take_append_drop (k-a) (l.drop a);rw[List.drop_drop,show a+(k-a)=k by omega,List.drop_eq_getElem_cons h2]at e;exact e.symm
theorem IP (l:Ψ) {a k:Nat} (h2:k=l.length):(l.drop a).take (k-a)=l.drop a:=U9 (by rw[List.length_drop];omega)
theorem EQ (l:Ψ) {a k:Nat} (h1:a<=k) (h2:k<l.length):(l.drop a).take (k+1-a)=(l.drop a).take (k-a)++[l[k]]:=by
 rw[show k+1-a=(k-a)+1 by omega,List.take_add_one,List.getElem?_drop,show a+(k-a)=k by omega,U2 h2];rfl
def W9 (l:Ψ) (R:Option Nat) (acc a k:Nat):Prop:=
 acc<256/\((a<=k/\k<=l.length/\(43:UInt8)∉(l.drop a).take (k-a)/\wG acc (zK 43 (l.drop a))=R)∨(k=l.length+1/\a=l.length+1/\R=some acc))
theorem Ou: ∀ a:Fin 256,∀ m:Fin 8,bits .or .i64 ((a.val:Nat):Int) ((2:Int) ^ m.val)=((a.val|||1<<<m.val:Nat):Int):=ξ
theorem Nk {a m:Nat} (ha:a<256) (hm:m<8):bits .or .i64 (a:Int) ((2:Int) ^ m)=((a|||1<<<m:Nat):Int):=Ou ⟨a,ha⟩ ⟨m,hm⟩
theorem rJ: ∀ m:Fin 8,IntKind.i64.wrap ((2:Int) ^ m.val)=(2:Int) ^ m.val:=ξ
theorem WQ (s:Φ):s.toList=s.data.toList:=by rw[ByteArray.toList_eq]
theorem He (s:Φ) (hs:s.size<=131072) (n e:Int) (H:Hid (QR s.data.toList=(n,e))) (w:World) (nm:yS w):
  Calls prog 250 #[s] w λq w'=>q=.returned (.tuple #[n,e])/\w'=w:=by
 by_cases h0:s.toList=[110,111,110,101]
 ·
  have hb0:(s.toList==[110,111,110,101])=true:=by rw[beq_iff_eq];exact h0
  have HF:=qA (show((0:Int),(0:Int))=(n,e) by rw[<-H.o,show s.data.toList=ae from(WQ s).symm.trans h0];rfl);obtain⟨e1,e2⟩:=qAE HF.o;clear H HF h0;subst e1 e2;go_enter func250,ntmps250
  go_wp2;go_step3
  go_wp2;rw[Exit.noGoto_ret];go_ret2;exact⟨rfl,rfl⟩
 have hb0:(s.toList==[110,111,110,101])=false:=by rw[U0];exact h0
 have hl:=yB s;obtain⟨R,hR⟩:=ε (wG 0 (zK 43 s.data.toList));have HR:Hid (uG R=(n,e)):=by
  show _=_
  rw[<-hR,<-gu (λk=>h0 ((WQ s).trans k))];exact H.o
 have HS:Hid (W9 s.data.toList R 0 0 0):=⟨ω,.inl ⟨U3 _,qAD _,σ,hR⟩⟩;have NM:=qA nm;clear H hR h0 nm;go_enter func250,ntmps250
 go_wp2_with fail;go_step3
 go_wp2_with fail;go_step3
 go_wp2_with fail;go_loop [4,5,6] (λsm sa si=> ∃ acc a k:Nat,sm=acc/\sa=a/\si=k/\k<=s.size+1/\Hid (W9 s.data.toList R acc a k)) (λ_ _ i=>s.size+2-(intOf i).toNat)
 case atStart=>exact⟨0,0,0,rfl,rfl,rfl,ω,HS⟩
 obtain⟨acc,a,k,rfl,rfl,rfl,hk,HK⟩:=hrel;rcases HK.o with⟨h256,⟨hak,hks,hno,hmf⟩|⟨hk1,ha1,hRR⟩⟩
 ·
  by_cases hlt:k<s.size
  ·
   have hb:s.data.toList[k]'ω=s[k]'hlt:=qw s k hlt;have HSP:=qA (sJ s.data.toList hak (by omega:k<s.data.toList.length));obtain⟨v,hv⟩:=ε (GU (s[k]'hlt));have HV:=qA hv;have HNO:=qA hno;have HMF:=qA hmf;have HB:=qA hb;have haS:a<=s.size:=ω
   clear hno hmf hv hb hks;cases v with
   |false=>
    have HRN:=qA (show R=none by rw[<-HMF.o,HSP.o];exact uF HNO.o (by rw[HB.o];exact HV.o));have HE:Hid (((0:Int),(3:Int))=(n,e)):=by show _=_;rw[<-HR.o,HRN.o];rfl
    obtain⟨e1,e2⟩:=qAE HE.o;clear HE HR;subst e1 e2;go_wp2_with (go_at_call 280;refine(Xo _ false HV _).mono ?_;rintro y w2 ⟨rfl,rfl⟩)
    rw[Exit.noGoto_ret];go_ret2;exact⟨rfl,rfl⟩
   |true=>
    by_cases h43:((s[k]'hlt).toNat:Int)=43
    ·
     have hb43:s.data.toList[k]'ω=43:=by
      rw[HB.o];have h:(s[k]'hlt).toNat=43:=ω
      exact UInt8.toNat.inj h
     have HSPL:=qA (show zK 43 (s.data.toList.drop a)=(s.extract a k).data.toList::zK 43 (s.data.toList.drop (k+1)) by rw[HSP.o,hb43,Yf _ _ HNO.o,mM]);have HNEXT:Hid (∀ mm,qm (s.extract a k).data.toList modeWords=some mm->acc>>>mm=0->(k+1<=k+1/\k+1<=s.data.toList.length/\(43:UInt8)∉(s.data.toList.drop (k+1)).take (k+1-(k+1))/\wG (acc|||1<<<mm) (zK 43 (s.data.toList.drop (k+1)))=R)∨(k+1=s.data.toList.length+1/\k+1=s.data.toList.length+1/\R=some (acc|||1<<<mm))):=λmm h1 h2=> .inl ⟨U3 _,ω,σ,by rw[<-HMF.o,HSPL.o,Xr h1 h2]⟩
     clear HSP hb43 HB;have hl43: ∀ w,Calls prog 280 #[.int .u8 43] w λq w'=>q=.returned (true:Z)/\w'=w:=λw=>Xo 43 true rfl w
     clear HV;obtain⟨q,hq⟩:=ε (qm (s.extract a k).data.toList modeWords);have HQ:=qA hq;have NM2:=NM;cases q with
     |none=>
      have hpm:Calls prog 187 #[.string (s.extract a k)] w λq w'=>q=.returned (.tuple #["",false])/\w'=w:=VH (s.extract a k).data.toList 0 false (by show _=_;rw[HQ.o];rfl) w NM.o
      have HRN:=qA (show R=none by rw[<-HMF.o,HSPL.o];exact di HQ.o);have HE:Hid (((0:Int),(3:Int))=(n,e)):=by show _=_;rw[<-HR.o,HRN.o];rfl
      obtain⟨e1,e2⟩:=qAE HE.o;clear HE HR hq;subst e1 e2;go_wp2_with (first
       |(go_at_call 280;refine(hl43 _).mono ?_;rintro y w2 ⟨rfl,rfl⟩)
       |(go_at_call 187;refine hpm.mono ?_;rintro y5 w5 ⟨rfl,rfl⟩))
      rw[Exit.noGoto_ret];go_ret2;exact⟨rfl,rfl⟩
     |some mm=>
      have hmm:=VA hq;have hpm:Calls prog 187 #[.string (s.extract a k)] w λq w'=>q=.returned (.tuple #[.int .i64 mm,true])/\w'=w:=VH (s.extract a k).data.toList mm true (by show _=_;rw[HQ.o];rfl) w NM.o
      clear hq;by_cases hsh:acc>>>mm=0
      ·
       have HNX:=qA (show W9 s.data.toList R (acc|||1<<<mm) (k+1) (k+1) from⟨Gu h256 hmm,HNEXT.o mm HQ.o hsh⟩);have HD:=qA hsh;have hsh2:(((acc:Int) / 2 ^ mm) != 0)=false:=by
        have e:((acc / 2 ^ mm:Nat):Int)=0:=by rw[<-Nat.shiftRight_eq_div_pow,hsh];rfl
        rw[show(acc:Int) / 2 ^ mm=((acc / 2 ^ mm:Nat):Int) by push_cast;rfl,e];rfl
       have hwr:=rJ ⟨mm,hmm⟩;have hor:=Nk h256 hmm;go_wp2_with (first
         |(go_at_call 280;refine(hl43 _).mono ?_;rintro y w2 ⟨rfl,rfl⟩)
         |(go_at_call 187;refine hpm.mono ?_;rintro y5 w5 ⟨rfl,rfl⟩))
       exact⟨⟨_,_,_,rfl,by go_num,by go_num,ω,HNX⟩,by first|(simp[intOf];done)|(simp[intOf];omega)⟩
      have HRN:=qA (show R=none by rw[<-HMF.o,HSPL.o];exact Xq HQ.o hsh);have HE:Hid (((0:Int),(3:Int))=(n,e)):=by show _=_;rw[<-HR.o,HRN.o];rfl
      obtain⟨e1,e2⟩:=qAE HE.o;clear HE HR HNEXT;subst e1 e2;have hsh2:(((acc:Int) / 2 ^ mm) != 0)=true:=by
       rw[Nat.shiftRight_eq_div_pow]at hsh;rw[bne_iff_ne,show(acc:Int) / 2 ^ mm=((acc / 2 ^ mm:Nat):Int) by push_cast;rfl];omega
      go_wp2_with (first
        |(go_at_call 280;refine(hl43 _).mono ?_;rintro y w2 ⟨rfl,rfl⟩)
        |(go_at_call 187;refine hpm.mono ?_;rintro y5 w5 ⟨rfl,rfl⟩))
      rw[Exit.noGoto_ret];go_ret2;exact⟨rfl,rfl⟩
    have n43:(((s[k]'hlt).toNat:Int) != 43)=true:=by rw[bne_iff_ne];exact h43
    have hb43: ¬ s.data.toList[k]'ω=43:=λe=>h43 (by rw[<-HB.o,e];rfl)
    have HNX:=qA (show W9 s.data.toList R acc a (k+1) from⟨h256,.inl ⟨ω,ω,by
     rw[EQ s.data.toList hak ω];intro hm;rcases List.mem_append.1 hm with hm|hm
     · exact HNO.o hm
     exact hb43 (List.mem_singleton.1 hm).symm,HMF.o⟩⟩)
    clear hb43 HSP HNO HMF HB;go_wp2_with (go_at_call 280;refine(Xo _ true HV _).mono ?_;rintro y w2 ⟨rfl,rfl⟩)
    exact⟨⟨_,_,_,rfl,rfl,by go_num,ω,HNX⟩,by first|(simp[intOf];done)|(simp[intOf];omega)⟩
  obtain rfl:k=s.size:=ω
  have HNO:=qA hno;have HMF:=qA hmf;have HSPL:=qA (show zK 43 (s.data.toList.drop a)=[(s.extract a s.size).data.toList] by
   have e:=IP s.data.toList (a:=a) hl.symm;rw[mM,e];exact aQ _ (by rw[<-e];exact HNO.o))
  have HNEXT:Hid (∀ mm,qm (s.extract a s.size).data.toList modeWords=some mm->acc>>>mm=0->(s.size+1<=s.size+1/\s.size+1<=s.data.toList.length/\(43:UInt8)∉(s.data.toList.drop (s.size+1)).take (s.size+1-(s.size+1))/\wG (acc|||1<<<mm) (zK 43 (s.data.toList.drop (s.size+1)))=R)∨(s.size+1=s.data.toList.length+1/\s.size+1=s.data.toList.length+1/\R=some (acc|||1<<<mm))):=λmm h1 h2=> .inr ⟨ω,ω,by rw[<-HMF.o,HSPL.o,Xr h1 h2];rfl⟩
  clear hno hmf;obtain⟨q,hq⟩:=ε (qm (s.extract a s.size).data.toList modeWords);have HQ:=qA hq;have NM2:=NM;cases q with
  |none=>
   have hpm:Calls prog 187 #[.string (s.extract a s.size)] w λq w'=>q=.returned (.tuple #["",false])/\w'=w:=VH (s.extract a s.size).data.toList 0 false (by show _=_;rw[HQ.o];rfl) w NM.o
   have HRN:=qA (show R=none by rw[<-HMF.o,HSPL.o];exact di HQ.o);have HE:Hid (((0:Int),(3:Int))=(n,e)):=by show _=_;rw[<-HR.o,HRN.o];rfl
   obtain⟨e1,e2⟩:=qAE HE.o;clear HE HR hq;subst e1 e2;go_wp2_with (go_at_call 187;refine hpm.mono ?_;rintro y5 w5 ⟨rfl,rfl⟩)
   rw[Exit.noGoto_ret];go_ret2;exact⟨rfl,rfl⟩
  |some mm=>
   have hmm:=VA hq;have hpm:Calls prog 187 #[.string (s.extract a s.size)] w λq w'=>q=.returned (.tuple #[.int .i64 mm,true])/\w'=w:=VH (s.extract a s.size).data.toList mm true (by show _=_;rw[HQ.o];rfl) w NM.o
   clear hq;by_cases hsh:acc>>>mm=0
   ·
    have HNX:=qA (show W9 s.data.toList R (acc|||1<<<mm) (s.size+1) (s.size+1) from⟨Gu h256 hmm,HNEXT.o mm HQ.o hsh⟩);have HD:=qA hsh;have hsh2:(((acc:Int) / 2 ^ mm) != 0)=false:=by
     have e:((acc / 2 ^ mm:Nat):Int)=0:=by rw[<-Nat.shiftRight_eq_div_pow,hsh];rfl
     rw[show(acc:Int) / 2 ^ mm=((acc / 2 ^ mm:Nat):Int) by push_cast;rfl,e];rfl
    have hwr:=rJ ⟨mm,hmm⟩;have hor:=Nk h256 hmm;go_wp2_with (go_at_call 187;refine hpm.mono ?_;rintro y5 w5 ⟨rfl,rfl⟩)
    exact⟨⟨_,_,_,rfl,by go_num,by go_num,ω,HNX⟩,by first|(simp[intOf];done)|(simp[intOf];omega)⟩
   have HRN:=qA (show R=none by rw[<-HMF.o,HSPL.o];exact Xq HQ.o hsh);have HE:Hid (((0:Int),(3:Int))=(n,e)):=by show _=_;rw[<-HR.o,HRN.o];rfl
   obtain⟨e1,e2⟩:=qAE HE.o;clear HE HR HNEXT;subst e1 e2;have hsh2:(((acc:Int) / 2 ^ mm) != 0)=true:=by
    rw[Nat.shiftRight_eq_div_pow]at hsh;rw[bne_iff_ne,show(acc:Int) / 2 ^ mm=((acc / 2 ^ mm:Nat):Int) by push_cast;rfl];omega
   go_wp2_with (go_at_call 187;refine hpm.mono ?_;rintro y5 w5 ⟨rfl,rfl⟩)
   rw[Exit.noGoto_ret];go_ret2;exact⟨rfl,rfl⟩
 subst hk1 ha1;have HE:Hid (((acc:Int),(0:Int))=(n,e)):=by show _=_;rw[<-HR.o,hRR];rfl
 obtain⟨e1,e2⟩:=qAE HE.o;clear HE HR;subst e1 e2;go_wp2;go_ret2;exact⟨rfl,rfl⟩
theorem mQ (g rb:Nat) (m e e2 E n:Int) (X:PX) (x:Ψ) (r:List Ψ) (HX:Hid (QR x=(n,e2))) (hx:x.length<=131072) (H:Hid (fe e e2=E)) (w:World) (h:wR g rb m e X (x::r) w):
  Calls prog 192 #[(g,0)] w λq w'=>q=.returned (n:Z)/\wR g rb m E X r w'/\Gr g w w':=by
 have HR:=qA h;clear h;have hp:=λw hw=>He ⟨x.toArray⟩ (VO x hx) n e2 HX w hw
 go_enter func192,ntmps192
 go_wp2_with (first
  |(go_at_call 107;refine(zy g rb m e X x r w HR.o).mono ?_;rintro y0 w0 ⟨rfl,r0,g0⟩;have nm0:=r0.env.nm)
  |(go_at_call 250;refine(hp _ nm0).mono ?_;rintro y1 w1 ⟨rfl,rfl⟩)
  |(go_at_call 186;refine(yH g rb m e e2 E H X r _ r0).mono ?_;rintro y2 w2 ⟨rfl,r2,g2⟩))
 go_ret;exact⟨rfl,r2,qJ g0 g2⟩
theorem qAK.relabel {M:Nat} {B:Nat} {w:World} {vs:Nat->Value} {ts:List TripD} {mb own:Nat->Nat} {s:St} {ids:Nat->List Ψ} (h:qAK M B w vs ts mb own s ids) {pb:Nat} (hp:w.heap.size<=pb) (k:Nat):qAK M B w vs ts mb (wO own pb k) s ids:=
 ⟨h.same,h.lines,h.row,λi hi b hb=>by rw[kC own (by have:=(qAG (h.row i hi) b hb).2;omega)];exact h.lab i hi b hb,h.calls,h.ok,λi x hx b hb=>by rw[kC own (by have:=(qAG (h.calls i x hx) b hb).2;omega)];exact h.labc i x hx b hb,h.maps,λj hj=>by rw[kC own (by have:=(h.maps j hj).lt;omega)];exact h.labm j hj,h.four⟩
theorem VB {own:Nat->Nat} {w w':World} (hb:Bl w w') {pb:Nat} (hp:w.heap.size<=pb) (k:Nat):Mv own w (wO own pb k) w':=
 ⟨hb.os,hb.tape,hb.output,hb.size,λb hlt=>kC own ω k,λb hlt _=>hb.block b hlt⟩
theorem D6 {s:Ψ} {l:List Ψ} (h:yM s=(l,0)) (hs:s≠[]):l≠[]:=λe=>by
 subst e;have h2:=tX h;rw[show zL []=([],0) from rfl]at h2;exact hs (qAE h2).1.symm
theorem Wn (s:St) (k:Nat) (f:List Ψ) (n:Int):(qy s k f n).1.opened=(k==4||k==10):=by
 unfold qy;split
 all_goals first
  |rfl
  |(rename_i h0 h1 h2 h3 h4 h5 h6 h7 h8 h9 h10;show(_==4||_==10)=_;rfl)
theorem rP {l:List TripX} {c:CallD} (h:l≠[]):kH l c≠[]:=λe=>by
 have:=Za l c;rw[e]at this;exact h (List.length_eq_zero_iff.1 this.symm)
theorem fE (s:St) (k:Nat) (f:List Ψ) (n:Int) (hk:k=4∨(k=10/\s.t.trips≠[])):(qy s k f n).1.t.trips≠[]:=by
 rcases hk with rfl|⟨rfl,h⟩
 ·
  show s.t.trips++[_]≠[]
  simp
 exact rP h
theorem tq {s:St} {x:Ψ} {n:Int} {l:List Ψ} (h1: ¬ (x=[]∨x.head?=some 35)) (hs:yM x=(l,0)) (hk:ZM (yK l 0)=none):vN s x n=(s,41):=by
 unfold vN;rw[U5 h1,hs];simp only;rw[U5 σ,hk]
theorem tu {s:St} {x:Ψ} {n:Int} {l:List Ψ} {k:Nat} (h1: ¬ (x=[]∨x.head?=some 35)) (hs:yM x=(l,0)) (hk:ZM (yK l 0)=some k):vN s x n=if l.length≠wM k then(s,1)
   else if k=10/\s.opened=false then(s,8)
   else if k=11/\0<s.rules then(s,6)
   else qy s k l n:=by
 unfold vN;rw[U5 h1,hs];simp only;rw[U5 σ,hk]
theorem DJ {s:St} {x:Ψ} {n:Int} {l:List Ψ} {e:Int} (h1: ¬ (x=[]∨x.head?=some 35)) (hs:yM x=(l,e)) (he:e≠0):vN s x n=(s,e):=by
 unfold vN;rw[U5 h1,hs];simp only;rw[U6 he]
theorem nz {M:Nat} (hM:M<=4) (B:Nat) (mb own:Nat->Nat) (w:World) (hm: ∀ j,j<M->qx w (mb j) 0 []/\B<=mb j) (hl: ∀ j,j<M->own (mb j)=50+j):qAK M B w (λ_=> .slice none 0 0) [] mb own Tt.start (λ_=>[]) where
 same:=rfl
 lines:=rfl
 row k hk:=by
  rcases k with _|_|_|_|_|_|_|_|_|_|_|_|_|_|_|_|_|_|_|_|k
  all_goals first
   |exact World.ownsRow_nil w B _ _
   |omega
 lab k _ b hb:=by cases hb
 calls i x hx:=by cases hx
 ok x hx:=by cases hx
 labc i x hx:=by cases hx
 maps j hj:=(hm j hj).1
 labm j hj:=⟨hl j hj,(hm j hj).2⟩
 four:=hM
def YV:TtV:=⟨.slice none 0 0,(),(),(),(),(),(),(),(),.slice none 0 0⟩
theorem Jm (B:Nat) (w:World):yA B w YV [] emptyT:=
 ⟨zJ,zJ,zJ,zJ,⟨zJ,λx hx=>by cases hx⟩,rfl,zJ,zJ,zJ,zJ,zJ⟩
theorem Jl:ZZ emptyT:=aW
theorem yF {P:Program} {fn:Func} {p u v:Tmp} {ty:TypeId} (h:fn.results= #[.cell p ty,.tmp u,.tmp v]) (tmps:Array Value) (w:World) (g:Nat) (t:TypeId) (cs:Array Value) (fr:Nat×Nat) (d:TypeDesc) (x y:Value)
  (hp:tmps.getD p undef=((g,0):Z)) (hx:tmps.getD u undef=x) (hy:tmps.getD v undef=y) (hg:w.heap[g]? =some (.cells cs t fr))
  (hu:P.underlying ty=some d) (hd:(match d with| .struct _| .array _ _=>true|_=>false)=true) (hi:(P.info? ty).map (·.size)=some cs.size):
  (results fn tmps).run P w=.ok (.tuple #[.agg cs,x,y]) w:=by
 have hp':tmps[p]?.getD undef=.pointer (some (g,0)):=by simpa using hp
 have hx':tmps[u]?.getD undef=x:=by simpa using hx
 have hy':tmps[v]?.getD undef=y:=by simpa using hy
 simp[results,h,hp',hx',hy',asAddr,run_loadVar_row w g t ty cs fr d hg hu hd hi]
abbrev KW (w:World) (r:Nat) (v0 v1 v2 v3 v4 v5 v6 v7 v8 v9 v10 v11 v12:Value):World:=((((((((((((w.setCell (r,0) v0).setCell (r,1) v1).setCell (r,2) v2).setCell (r,3) v3).setCell (r,4) v4).setCell (r,5) v5).setCell (r,6) v6).setCell (r,7) v7).setCell (r,8) v8).setCell (r,9) v9).setCell (r,10) v10).setCell (r,11) v11).setCell (r,12) v12
theorem VP {w:World} {r:Nat} {a0 a1 a2 a3 a4 a5 a6 a7 a8 a9 a10 a11 a12 v0 v1 v2 v3 v4 v5 v6 v7 v8 v9 v10 v11 v12:Value} {T:TypeId} (h:w.heap[r]? =some (.cells #[a0,a1,a2,a3,a4,a5,a6,a7,a8,a9,a10,a11,a12] T (0,0))):
  (KW w r v0 v1 v2 v3 v4 v5 v6 v7 v8 v9 v10 v11 v12).heap[r]? =some (.cells #[v0,v1,v2,v3,v4,v5,v6,v7,v8,v9,v10,v11,v12] T (0,0)):=by
 have h0:(w.setCell (r,0) v0).heap[r]? =some (.cells #[v0,a1,a2,a3,a4,a5,a6,a7,a8,a9,a10,a11,a12] T (0,0)):=qQ h 0 v0;have h1:((w.setCell (r,0) v0).setCell (r,1) v1).heap[r]? =some (.cells #[v0,v1,a2,a3,a4,a5,a6,a7,a8,a9,a10,a11,a12] T (0,0)):=qQ h0 1 v1;have h2:(((w.setCell (r,0) v0).setCell (r,1) v1).setCell (r,2) v2).heap[r]? =some (.cells #[v0,v1,v2,a3,a4,a5,a6,a7,a8,a9,a10,a11,a12] T (0,0)):=qQ h1 2 v2;have h3:((((w.setCell (r,0) v0).setCell (r,1) v1).setCell (r,2) v2).setCell (r,3) v3).heap[r]? =some (.cells #[v0,v1,v2,v3,a4,a5,a6,a7,a8,a9,a10,a11,a12] T (0,0)):=qQ h2 3 v3;have h4:(((((w.setCell (r,0) v0).setCell (r,1) v1).setCell (r,2) v2).setCell (r,3) v3).setCell (r,4) v4).heap[r]? =some (.cells #[v0,v1,v2,v3,v4,a5,a6,a7,a8,a9,a10,a11,a12] T (0,0)):=qQ h3 4 v4;have h5:((((((w.setCell (r,0) v0).setCell (r,1) v1).setCell (r,2) v2).setCell (r,3) v3).setCell (r,4) v4).setCell (r,5) v5).heap[r]? =some (.cells #[v0,v1,v2,v3,v4,v5,a6,a7,a8,a9,a10,a11,a12] T (0,0)):=qQ h4 5 v5;have h6:(((((((w.setCell (r,0) v0).setCell (r,1) v1).setCell (r,2) v2).setCell (r,3) v3).setCell (r,4) v4).setCell (r,5) v5).setCell (r,6) v6).heap[r]? =some (.cells #[v0,v1,v2,v3,v4,v5,v6,a7,a8,a9,a10,a11,a12] T (0,0)):=qQ h5 6 v6;have h7:((((((((w.setCell (r,0) v0).setCell (r,1) v1).setCell (r,2) v2).setCell (r,3) v3).setCell (r,4) v4).setCell (r,5) v5).setCell (r,6) v6).setCell (r,7) v7).heap[r]? =some (.cells #[v0,v1,v2,v3,v4,v5,v6,v7,a8,a9,a10,a11,a12] T (0,0)):=qQ h6 7 v7;have h8:(((((((((w.setCell (r,0) v0).setCell (r,1) v1).setCell (r,2) v2).setCell (r,3) v3).setCell (r,4) v4).setCell (r,5) v5).setCell (r,6) v6).setCell (r,7) v7).setCell (r,8) v8).heap[r]? =some (.cells #[v0,v1,v2,v3,v4,v5,v6,v7,v8,a9,a10,a11,a12] T (0,0)):=qQ h7 8 v8;have h9:((((((((((w.setCell (r,0) v0).setCell (r,1) v1).setCell (r,2) v2).setCell (r,3) v3).setCell (r,4) v4).setCell (r,5) v5).setCell (r,6) v6).setCell (r,7) v7).setCell (r,8) v8).setCell (r,9) v9).heap[r]? =some (.cells #[v0,v1,v2,v3,v4,v5,v6,v7,v8,v9,a10,a11,a12] T (0,0)):=qQ h8 9 v9;have h10:(((((((((((w.setCell (r,0) v0).setCell (r,1) v1).setCell (r,2) v2).setCell (r,3) v3).setCell (r,4) v4).setCell (r,5) v5).setCell (r,6) v6).setCell (r,7) v7).setCell (r,8) v8).setCell (r,9) v9).setCell (r,10) v10).heap[r]? =some (.cells #[v0,v1,v2,v3,v4,v5,v6,v7,v8,v9,v10,a11,a12] T (0,0)):=qQ h9 10 v10;have h11:((((((((((((w.setCell (r,0) v0).setCell (r,1) v1).setCell (r,2) v2).setCell (r,3) v3).setCell (r,4) v4).setCell (r,5) v5).setCell (r,6) v6).setCell (r,7) v7).setCell (r,8) v8).setCell (r,9) v9).setCell (r,10) v10).setCell (r,11) v11).heap[r]? =some (.cells #[v0,v1,v2,v3,v4,v5,v6,v7,v8,v9,v10,v11,a12] T (0,0)):=qQ h10 11 v11;have h12:(((((((((((((w.setCell (r,0) v0).setCell (r,1) v1).setCell (r,2) v2).setCell (r,3) v3).setCell (r,4) v4).setCell (r,5) v5).setCell (r,6) v6).setCell (r,7) v7).setCell (r,8) v8).setCell (r,9) v9).setCell (r,10) v10).setCell (r,11) v11).setCell (r,12) v12).heap[r]? =some (.cells #[v0,v1,v2,v3,v4,v5,v6,v7,v8,v9,v10,v11,v12] T (0,0)):=qQ h11 12 v12;exact h12
theorem Ej {w a:World} (h:Bl w a) {r:Nat} (hr:w.heap.size<=r) {v0 v1 v2 v3 v4 v5 v6 v7 v8 v9 v10 v11 v12:Value}:Bl w (KW a r v0 v1 v2 v3 v4 v5 v6 v7 v8 v9 v10 v11 v12):=
 zF (zF (zF (zF (zF (zF (zF (zF (zF (zF (zF (zF (zF h hr _) hr _) hr _) hr _) hr _) hr _) hr _) hr _) hr _) hr _) hr _) hr _) hr _
abbrev Kr:Array Value:= #[(),(),(),(),(),(),(),(),(),(),"","",""]
theorem Rl {w:World} {r:Nat} {v0 v1 v2 v3 v4 v5 v6 v7 v8 v9 v10 v11 v12:Value}:Gr r w (KW w r v0 v1 v2 v3 v4 v5 v6 v7 v8 v9 v10 v11 v12):=
 qJ (qJ (qJ (qJ (qJ (qJ (qJ (qJ (qJ (qJ (qJ (qJ (zH r w 0 _) (zH r _ 1 _)) (zH r _ 2 _)) (zH r _ 3 _)) (zH r _ 4 _)) (zH r _ 5 _)) (zH r _ 6 _)) (zH r _ 7 _)) (zH r _ 8 _)) (zH r _ 9 _)) (zH r _ 10 _)) (zH r _ 11 _)) (zH r _ 12 _)
theorem nT {own own':Nat->Nat} {w0 w w':World} (h0:Bl w0 w) (h:Mv own w own' w') (hl: ∀ b,b<w0.heap.size->own b=97):Bl w0 w':=
 ⟨h.os.trans h0.os,h.tape.trans h0.tape,h.output.trans h0.output,Ux h0.size h.size,λb hb=>(h.block b (by have:=h0.size;omega) (.inl (hl b hb))).trans (h0.block b hb)⟩
theorem EW {pre:List TripD} {x:TripD} {c:CallD} {v:Value}:kH ((pre++[x]).map xOf) c=(pre++[{ x with v:=v,calls:=x.calls++[c] }]).map xOf:=by
 unfold kH;rw[List.map_append,List.map_append];simp[xOf]
def O8 (s:St) (a b c n:Int) (o:Bool):St:=⟨{ s.t with fares:=⟨s.t.fares.prods,a,b,c⟩ },s.lines,n,o⟩
theorem D9 (s:St) (a b c n:Int) (o:Bool) (ts:List TripD): ∀ k,k<20->jf (O8 s a b c n o) ts k=jf s ts k:=λk hk=>by
 rcases k with _|_|_|_|_|_|_|_|_|_|_|_|_|_|_|_|_|_|_|_|k
 all_goals first
  |rfl
  |omega
theorem OV:(prog.info? 120).map (λi=>(i.zero,i.size,i.bytes))=some (some (.agg #[ByteArray.empty,"",false,""]),4,40):=κ
theorem OW:(prog.info? 122).map (λi=>(i.zero,i.size,i.bytes))=some (some (.agg #[ByteArray.empty,"",false]),3,32):=κ
theorem OX:(prog.info? 61).map (λi=>(i.zero,i.size,i.bytes))=some (some (.agg #[ByteArray.empty,false,false,false,false,false,false,false,"",""]),10,40):=κ
theorem OY:(prog.info? 124).map (λi=>(i.zero,i.size,i.bytes))=some (some (.agg #["","",false]),3,24):=κ
theorem OZ:(prog.info? 56).map (λi=>(i.zero,i.size,i.bytes))=some (some (.agg #[ByteArray.empty,"","",false,()]),5,64):=κ
theorem Oa:(prog.info? 126).map (λi=>(i.zero,i.size,i.bytes))=some (some (.agg #["","","",""]),4,32):=κ
theorem Ob:(prog.info? 128).map (λi=>(i.zero,i.size,i.bytes))=some (some (.agg #["",""]),2,16):=κ
theorem Oc:(prog.info? 130).map (λi=>(i.zero,i.size,i.bytes))=some (some (.agg #["","",""]),3,24):=κ
theorem Oe:(prog.info? 63).map (λi=>(i.zero,i.size,i.bytes))=some (some (.agg #["","","",false]),4,32):=κ
theorem Og:(prog.info? 65).map (λi=>(i.zero,i.size,i.bytes))=some (some (.agg #[ByteArray.empty,"","","","",""]),6,56):=κ
theorem La:(prog.info? 58).map (λi=>(i.zero,i.size,i.bytes))=some (some (.agg #["","","",false,false]),5,32):=κ
end Go.Proofs.YtakedkcjplfgeaaGreatDoor
namespace Go.Proofs.YtakedkcjplfgeaaGreatDoor
open Go.RowKit
variable {P:Program} {ops:Array Oper} {Q:Exit->Act->World->Prop} {S:World->Prop}
theorem qI (i:Nat) {v:Value} {oi:Oper} {fuel:Nat} {listed:Array Bool} {a a':Act} {w:World} (h:wpAnyH P .any ops Q S fuel (listed.setIfInBounds i true) a' w) (hi:ops[i]? =some oi:=by rfl) (hS:S w:=by assumption)
  (hy: ∀ w',S w'->(execOp a.eval oi).run P w'= .ok (.value v) w':=by intro w' hSw;(try dsimp only at hSw);go_simp;first|done|with_reducible rfl) (hg:Region.wanted oi (yielded ops a.tmps)=true:=by rfl)
  (hs:Region.noSelect ops=true:=by kernel_rfl) (hf:Region.free .any ops listed i=true:=by kernel_rfl) (hr:(Region.ready .any ops listed).contains i=true:=by kernel_rfl)
  (hQ: ∀ c a w,Q (.panic c) (a.put oi.dst v) w->Q (.panic c) a w:=by exact fun _ _ _ h=>h) (ha:a.put oi.dst v=a':=by(try simp only[Act.put]);rfl):wpAnyH P .any ops Q S (fuel+1) listed a w:=
 by subst ha;exact wpAnyH_take hi hs hf hr hQ (Or.inl ⟨hg,hy⟩) hS h
theorem zh (i:Nat) {o:Oper} {fuel:Nat} {listed:Array Bool} {a:Act} {w:World}
  (h: ∀ K':Act->World->Prop,Shut (∀ a w,S w->(S w->wpAnyH P .any ops Q S fuel (listed.setIfInBounds i true) a w)->K' a w)->if Region.wanted o (yielded ops a.tmps)=true then Oper.wp P o a w K' Q else K' (a.put o.dst undef) w)
  (ho:ops[i]? =some o:=by rfl) (hr:Region.ready .any ops listed=[i]:=by kernel_rfl):wpAnyH P .any ops Q S (fuel+1) listed a w:=
 wpAnyH_ready hr (by simp) (AllReadyH.cons ho h AllReadyH.nil)
end Go.Proofs.YtakedkcjplfgeaaGreatDoor
namespace Go.Proofs.YtakedkcjplfgeaaGreatDoor
open Go.RowKit
variable {P:Program} {ops:Array Oper} {Q:Exit->Act->World->Prop} {S:World->Prop} {z:Nat}
def qAS (P:Program) (ops:Array Oper) (Q:Exit->Act->World->Prop) (S:World->Prop) (z:Nat):Nat->Array Bool->Act->World->Prop
 |0,listed,a,w=>Region.ready .any ops listed=[]/\Q .normal a w
 |fuel+1,listed,a,w=>(Region.ready .any ops listed=[]->Q .normal a w)/\ ∀ i∈Region.ready .any ops listed,wpOp P ops Q i (λa' w'=>(i≠z->S w')/\qAS P ops Q S z fuel (listed.setIfInBounds i true) a' w') a w
theorem qBM: ∀ (fuel:Nat) (listed:Array Bool) (a:Act) (w:World),qAS P ops Q S z fuel listed a w->wpAny P .any ops Q fuel listed a w
 |0,_,_,_,h=>h
 |fuel+1,_,_,_,h=>⟨h.1,λi hi=>wpOp_mono (λa' w' h'=>qBM fuel _ a' w' h'.2) (h.2 i hi)⟩
def qBi (ops:Array Oper) (z i:Nat):Bool:=match ops[z]? with
 |some o=>o.after.any λe=>Region.binds .any e&&e.on==i
 |none=>true
theorem qBs {i:Nat} (h:qBi ops z i=true): ∀ oz,ops[z]? =some oz-> ∃ e∈oz.after,Region.binds .any e=true/\e.on=i:=λoz ho=>by
 unfold qBi at h;rw[ho]at h;obtain⟨e,he,hb⟩:=Array.any_eq_true'.1 h;simp only[Bool.and_eq_true,beq_iff_eq]at hb;exact⟨e,he,hb.1,hb.2⟩
theorem qBQ {listed:Array Bool} {i k:Nat} (hw:qBi ops k i=true) (hi:listed.getD i true=false) (hk:k∈Region.ready .any ops listed):False:=by
 obtain⟨_,ok,hok,hall⟩:=mem_ready.1 hk;obtain⟨e,he,hb,ho⟩:=qBs hw ok hok;have h1:=hall e he hb;rw[ho]at h1;rcases Nat.lt_or_ge i listed.size with h'|h'
 · simp[h']at hi h1;rw[hi]at h1;cases h1
 simp[Array.getElem?_eq_none h']at h1
def qAp (ops:Array Oper) (z:Nat) (listed:Array Bool):Nat->List Nat->Bool
 |i,[]=>qBi ops z i
 |i,p::r=>qBi ops p i&& !listed.getD p true&&qAp ops z listed p r
theorem qA9 {listed:Array Bool} {j:Nat} (hj:j∈Region.ready .any ops listed): ∀ (ps:List Nat) (i:Nat),listed.getD i true=false->qAp ops z listed i ps=true->j≠z/\qAp ops z (listed.setIfInBounds j true) i ps=true
 |[],_,hi,hc=>⟨λe=>qBQ hc hi (e ▸ hj),hc⟩
 |p::r,i,hi,hc=>by
  simp only[qAp,Bool.and_eq_true,Bool.not_eq_true']at hc;obtain⟨⟨h1,h2⟩,h3⟩:=hc;have hjp: ¬ j=p:=λe=>qBQ h1 hi (e ▸ hj)
  obtain⟨k1,k2⟩:=qA9 hj r p h2 h3;refine⟨k1, ?_⟩;simp only[qAp,Bool.and_eq_true,Bool.not_eq_true'];exact⟨⟨h1,by rw[getD_set_ne true hjp];exact h2⟩,k2⟩
theorem qBZ {i:Nat} {oi:Oper} {v:Value} (hi:ops[i]? =some oi) (hsel: ∀ (j:Nat) (o:Oper) cs b,ops[j]? =some o->o.op≠ .select cs b) (hQ: ∀ c a w,Q (.panic c) (a.put oi.dst v) w->Q (.panic c) a w) (ps:List Nat): ∀ (fuel:Nat) (listed:Array Bool) (a:Act) (w:World),qAp ops z listed i ps=true->
   (∀ j oj,ops[j]? =some oj->j≠i->listed.getD j true=false->(∀ e∈oj.after,Region.binds .any e=true->e.on≠i)->oi.apart ops oj=true)->
   i∈Region.ready .any ops listed->YieldsIf P ops S oi v a->S w->qAS P ops Q S z fuel (listed.setIfInBounds i true) (a.put oi.dst v) w->qAS P ops Q S z (fuel+1) listed a w:=by
 intro fuel;induction fuel with
 |zero=>
  intro listed a w _ _ hr hy hS H;refine⟨λh=>(by rw[h]at hr;cases hr),λj hj=>?_⟩;by_cases hji:j=i
  · subst hji;exact hy.wpOp hi hS ⟨λ_=>hS,H⟩
  have:=ready_mono hj hji;rw[H.1]at this;cases this
 |succ fuel ih=>
  intro listed a w hc hfree hr hy hS H;refine⟨λh=>(by rw[h]at hr;cases hr),λj hj=>?_⟩;by_cases hji:j=i
  · subst hji;exact hy.wpOp hi hS ⟨λ_=>hS,H⟩
  have h1:=H.2 j (ready_mono hj hji);obtain⟨hjun,oj,hoj,hall⟩:=mem_ready.1 hj;have hnot: ∀ e∈oj.after,Region.binds .any e=true->e.on≠i:=λe he hb heq=>by
   have h1:=hall e he hb;have h0:=(mem_ready.1 hr).1;rw[heq]at h1;rcases Nat.lt_or_ge i listed.size with h'|h'
   · simp[h']at h0 h1;rw[h0]at h1;cases h1
   simp[Array.getElem?_eq_none h']at h1
  obtain⟨hjz,hc'⟩:=qA9 hj ps i (mem_ready.1 hr).1 hc;have h2:=wpOp_putIf hoj (hfree j oj hoj hji hjun hnot) (λcs b=>hsel i oi cs b hi) (λcs b=>hsel j oj cs b hoj) hQ hy h1;have hfree': ∀ k ok,ops[k]? =some ok->k≠i->(listed.setIfInBounds j true).getD k true=false->
    (∀ e∈ok.after,Region.binds .any e=true->e.on≠i)->oi.apart ops ok=true:=λk ok hk hki hun hno=>by
   refine hfree k ok hk hki ?_ hno;by_cases hjk:j=k
   · subst hjk;exact hjun
   rw[getD_set_ne true hjk]at hun;exact hun
  refine wpOp_mono (λa' w' h3=>⟨h3.2.1,ih (listed.setIfInBounds j true) a' w' hc' hfree' (ready_mono hr (Ne.symm hji)) h3.1 (h3.2.1 hjz) ?_⟩) h2;rw[Array.setIfInBounds_comm _ _ hji];exact h3.2.2
theorem SG (i:Nat) {v:Value} {oi:Oper} {fuel:Nat} {listed:Array Bool} {a a':Act} {w:World} (h:qAS P ops Q S z fuel (listed.setIfInBounds i true) a' w) (hi:ops[i]? =some oi:=by rfl) (hS:S w:=by assumption)
  (hy: ∀ w',S w'->(execOp a.eval oi).run P w'= .ok (.value v) w':=by intro w' hSw;(try dsimp only at hSw);go_simp;first|done|with_reducible rfl) (hg:Region.wanted oi (yielded ops a.tmps)=true:=by rfl)
  (hs:Region.noSelect ops=true:=by kernel_rfl) (hf:Region.free .any ops listed i=true:=by kernel_rfl) (hr:(Region.ready .any ops listed).contains i=true:=by kernel_rfl) (ps:List Nat:=[]) (hz:qAp ops z listed i ps=true:=by kernel_rfl)
  (hQ: ∀ c a w,Q (.panic c) (a.put oi.dst v) w->Q (.panic c) a w:=by exact fun _ _ _ h=>h) (ha:a.put oi.dst v=a':=by(try simp only[Act.put]);rfl):qAS P ops Q S z (fuel+1) listed a w:=
 by subst ha;exact qBZ hi (Region.noSelect_spec hs) hQ ps fuel listed a w hz (Region.free_spec hi hf) (by simpa using hr) (Or.inl ⟨hg,hy⟩) hS h
theorem qAJ (i:Nat) {v:Value} {oi:Oper} {fuel:Nat} {listed:Array Bool} {a a':Act} {w:World} (h:qAS P ops Q S z fuel (listed.setIfInBounds i true) a' w) (hi:ops[i]? =some oi:=by rfl) (hS:S w:=by assumption)
  (hy: ∀ w',S w'->(execOp a.eval oi).run P w'= .ok (.value v) w':=by intro w' hSw;(try dsimp only at hSw);go_simp;first|done|with_reducible rfl) (hg:Region.wanted oi (yielded ops a.tmps)=true:=by rfl)
  (hr:Region.ready .any ops listed=[i]:=by kernel_rfl) (ha:a.put oi.dst v=a':=by(try simp only[Act.put]);rfl):qAS P ops Q S z (fuel+1) listed a w:=
 ⟨fun h0=>(by rw[hr]at h0;cases h0),fun j hj=>by
  subst ha;rw[hr]at hj;obtain rfl:=List.mem_singleton.1 hj;have y:YieldsIf P ops S oi v a:=Or.inl ⟨hg,hy⟩;exact y.wpOp hi hS ⟨fun _=>hS,h⟩⟩
theorem qAI (i:Nat) {o:Oper} {fuel:Nat} {listed:Array Bool} {a:Act} {w:World}
  (h: ∀ K':Act->World->Prop,Shut (∀ a w,S w->(S w->qAS P ops Q S z fuel (listed.setIfInBounds i true) a w)->K' a w)->if Region.wanted o (yielded ops a.tmps)=true then Oper.wp P o a w K' Q else K' (a.put o.dst undef) w)
  (ho:ops[i]? =some o:=by rfl) (hr:Region.ready .any ops listed=[i]:=by kernel_rfl):qAS P ops Q S z (fuel+1) listed a w:=
 ⟨fun h0=>(by rw[hr]at h0;cases h0),fun j hj=>by
  rw[hr]at hj;obtain rfl:=List.mem_singleton.1 hj;exact wpOp_step ho (fun K' hK=>h K' (fun a w hS hW=>hK a w ⟨fun _=>hS,hW hS⟩))⟩
theorem qBL (i k:Nat) {o o':Oper} {fuel:Nat} {listed:Array Bool} {a:Act} {w:World}
  (h: ∀ K':Act->World->Prop,Shut (∀ a w,S w->(S w->qAS P ops Q S z fuel (listed.setIfInBounds i true) a w)->K' a w)->if Region.wanted o (yielded ops a.tmps)=true then Oper.wp P o a w K' Q else K' (a.put o.dst undef) w)
  (h': ∀ K':Act->World->Prop,Shut (∀ a w,S w->(S w->qAS P ops Q S z fuel (listed.setIfInBounds k true) a w)->K' a w)->if Region.wanted o' (yielded ops a.tmps)=true then Oper.wp P o' a w K' Q else K' (a.put o'.dst undef) w)
  (ho:ops[i]? =some o:=by rfl) (ho':ops[k]? =some o':=by rfl) (hr:Region.ready .any ops listed=[i,k]:=by kernel_rfl):qAS P ops Q S z (fuel+1) listed a w:=
 ⟨fun h0=>(by rw[hr]at h0;cases h0),fun j hj=>by
  rw[hr]at hj;rcases List.mem_cons.1 hj with rfl|hj
  · exact wpOp_step ho (fun K' hK=>h K' (fun a w hS hW=>hK a w ⟨fun _=>hS,hW hS⟩))
  obtain rfl:=List.mem_singleton.1 hj;exact wpOp_step ho' (fun K' hK=>h' K' (fun a w hS hW=>hK a w ⟨fun _=>hS,hW hS⟩))⟩
theorem qAQ {o:Oper} {fuel:Nat} {listed:Array Bool} {a:Act} {w:World}
  (h: ∀ K':Act->World->Prop,Shut (∀ a w,Q .normal a w->K' a w)->if Region.wanted o (yielded ops a.tmps)=true then Oper.wp P o a w K' Q else K' (a.put o.dst undef) w)
  (ho:ops[z]? =some o:=by rfl) (hr:Region.ready .any ops listed=[z]:=by kernel_rfl) (he:Region.ready .any ops (listed.setIfInBounds z true)=[]:=by kernel_rfl):qAS P ops Q S z (fuel+1) listed a w:=
 ⟨fun h0=>(by rw[hr]at h0;cases h0),fun j hj=>by
  rw[hr]at hj;obtain rfl:=List.mem_singleton.1 hj;refine wpOp_step ho (fun K' hK=>h K' (fun a w hq=>hK a w ⟨fun e=>absurd rfl e, ?_⟩));cases fuel with
  |zero=>exact⟨he,hq⟩
  |succ n=>exact⟨fun _=>hq,by rw[he];intro i hi;cases hi⟩⟩
theorem qAP (S:World->Prop) (z:Nat) {id:Nat} {a:Act} {w:World} (hS:S w.drew) (h:S w.drew->qAS P ops Q S z ops.size (Array.replicate ops.size false) a w.drew) (hm:P.follows .mixedOrders=true:=by kernel_rfl):(Code.region id ops true).wp P Q a w:=
 wp_region_any hm (qBM _ _ _ _ (h hS))
