/-
  PkRdC: what the law of feed needs of FedPush, FedRdE, FedRdF. Conditions: those of each lemma.
-/
import Derived.Test.YtakedkcjplfgeaaGreatDoorPkRdB
set_option maxRecDepth 1000000
set_option maxHeartbeats 32000000
namespace Go.Proofs.YtakedkcjplfgeaaGreatDoor
open Go.RowKit
open Frq Thr Tt Num Clk Dat Fld
theorem info_int:(Tryz.prog.info? 3).map (fun i=>(i.zero,i.size,i.bytes))=some (some (.int .i64 0),1,8):=by kernel_rfl
def puts (w:World) (b:Nat):Nat→List Value→World
 |_,[]=>w
 |i,v::r=>puts (w.setCell ⟨b,i,none⟩ v) b (i+1) r
def putC (C:Array Value):Nat→List Value→Array Value
 |_,[]=>C
 |i,v::r=>putC (C.setIfInBounds i v) (i+1) r
theorem put_all {g rb b:Nat} {m e:Int} {X:PX} {l:List (List UInt8)} {T:TypeId} {w0:World} (hb:w0.heap.size≤b) (hg:g<w0.heap.size) (hr:rb<w0.heap.size) (h1:1<w0.heap.size) (h2:0<w0.heap.size): ∀ (L:List Value) (i:Nat) {w:World} {C:Array Value},RAt g rb m e X l w→Gr g w0 w→w.heap[b]? =some (.cells C T (0,0))→
  RAt g rb m e X l (puts w b i L)∧Gr g w0 (puts w b i L)∧(puts w b i L).heap[b]? =some (.cells (putC C i L) T (0,0))
 |[],_,_,_,h,k,q=>⟨h,k,q⟩
 |v::L,i,w,C,h,k,q=>put_all hb hg hr h1 h2 L (i+1) (h.far (p:=⟨b,i,none⟩) v (by dsimp only;omega) (by dsimp only;omega) (by dsimp only;omega) (by dsimp only;omega)) (gr_setNew k hb i v) (blk_set q i v)
section
variable {B g rb:Nat} {m e:Int} {vs:Nat→Value} {ts:List TripD} {mb own:Nat→Nat} {s:St} {ids:Nat→List (List UInt8)} {o:Bool} {l:List (List UInt8)} {w w':World} {gg cap:Nat}
def st0 (s:St) (x:StopD):St:=⟨{ s.t with stops:=s.t.stops++[x] },s.lines,s.rules,s.opened⟩
theorem st0_slot (s:St) (x:StopD) (ts:List TripD):slot (st0 s x) ts 0=⟨120,4,s.t.stops.length+1,s.t.stops.flatMap stopCells++stopCells x⟩:=by
 show(⟨120,4,(s.t.stops++[x]).length,_⟩:Slot)=_
 have e:(s.t.stops++[x]).flatMap stopCells=s.t.stops.flatMap stopCells++stopCells x:=by rw[List.flatMap_append];rw[List.flatMap_cons,List.flatMap_nil,List.append_nil]
 have e2:(s.t.stops++[x]).length=s.t.stops.length+1:=by rw[List.length_append];rfl
 rw[e2,←e];rfl
theorem st0_other (s:St) (x:StopD) (ts:List TripD): ∀ i,i<20→i≠0→slot (st0 s x) ts i=slot s ts i:=fun i hi hne=>by
 rcases i with _|_|_|_|_|_|_|_|_|_|_|_|_|_|_|_|_|_|_|_|i
 all_goals first
  |exact absurd rfl hne
  |rfl
  |omega
theorem Rec.push0 (h:Rec B g rb m e vs ts mb own s ids o l w) {x:StopD} (hg:w.grownBy w' (vs 0).ownBlock)
  (ho:w'.ownsRow B 120 4 (.slice (some ⟨gg,0,none⟩) (s.t.stops.length+1) cap) (s.t.stops.length+1) (s.t.stops.flatMap stopCells++stopCells x)) (hgg:(vs 0).ownBlock=some gg∨gg=w.heap.size):
  ∃ vs' own',Rec B g rb m e vs' ts mb own' (st0 s x) ids o l (w'.setCell ⟨g,2,none⟩ (.slice (some ⟨gg,0,none⟩) (s.t.stops.length+1) cap))∧Mv own w own' (w'.setCell ⟨g,2,none⟩ (.slice (some ⟨gg,0,none⟩) (s.t.stops.length+1) cap)):=
 ⟨_,_,h.push (k:=0) (s':=st0 s x) (by omega) hg (by rw[st0_slot]) (by rw[st0_slot];exact ho) hgg rfl h.parts.lines (st0_other s x ts) ⟨rfl,rfl,rfl⟩ rfl⟩
def st1 (s:St) (x:RouteD):St:=⟨{ s.t with routes:=s.t.routes++[x] },s.lines,s.rules,s.opened⟩
theorem st1_slot (s:St) (x:RouteD) (ts:List TripD):slot (st1 s x) ts 1=⟨122,3,s.t.routes.length+1,s.t.routes.flatMap routeCells++routeCells x⟩:=by
 show(⟨122,3,(s.t.routes++[x]).length,_⟩:Slot)=_
 have e:(s.t.routes++[x]).flatMap routeCells=s.t.routes.flatMap routeCells++routeCells x:=by rw[List.flatMap_append];rw[List.flatMap_cons,List.flatMap_nil,List.append_nil]
 have e2:(s.t.routes++[x]).length=s.t.routes.length+1:=by rw[List.length_append];rfl
 rw[e2,←e];rfl
theorem st1_other (s:St) (x:RouteD) (ts:List TripD): ∀ i,i<20→i≠1→slot (st1 s x) ts i=slot s ts i:=fun i hi hne=>by
 rcases i with _|_|_|_|_|_|_|_|_|_|_|_|_|_|_|_|_|_|_|_|i
 all_goals first
  |exact absurd rfl hne
  |rfl
  |omega
theorem Rec.push1 (h:Rec B g rb m e vs ts mb own s ids o l w) {x:RouteD} (hg:w.grownBy w' (vs 1).ownBlock)
  (ho:w'.ownsRow B 122 3 (.slice (some ⟨gg,0,none⟩) (s.t.routes.length+1) cap) (s.t.routes.length+1) (s.t.routes.flatMap routeCells++routeCells x)) (hgg:(vs 1).ownBlock=some gg∨gg=w.heap.size):
  ∃ vs' own',Rec B g rb m e vs' ts mb own' (st1 s x) ids o l (w'.setCell ⟨g,3,none⟩ (.slice (some ⟨gg,0,none⟩) (s.t.routes.length+1) cap))∧Mv own w own' (w'.setCell ⟨g,3,none⟩ (.slice (some ⟨gg,0,none⟩) (s.t.routes.length+1) cap)):=
 ⟨_,_,h.push (k:=1) (s':=st1 s x) (by omega) hg (by rw[st1_slot]) (by rw[st1_slot];exact ho) hgg rfl h.parts.lines (st1_other s x ts) ⟨rfl,rfl,rfl⟩ rfl⟩
def st2 (s:St) (x:CalD):St:=⟨{ s.t with cals:=s.t.cals++[x] },s.lines,s.rules,s.opened⟩
theorem st2_slot (s:St) (x:CalD) (ts:List TripD):slot (st2 s x) ts 2=⟨61,10,s.t.cals.length+1,s.t.cals.flatMap calCells++calCells x⟩:=by
 show(⟨61,10,(s.t.cals++[x]).length,_⟩:Slot)=_
 have e:(s.t.cals++[x]).flatMap calCells=s.t.cals.flatMap calCells++calCells x:=by rw[List.flatMap_append];rw[List.flatMap_cons,List.flatMap_nil,List.append_nil]
 have e2:(s.t.cals++[x]).length=s.t.cals.length+1:=by rw[List.length_append];rfl
 rw[e2,←e];rfl
theorem st2_other (s:St) (x:CalD) (ts:List TripD): ∀ i,i<20→i≠2→slot (st2 s x) ts i=slot s ts i:=fun i hi hne=>by
 rcases i with _|_|_|_|_|_|_|_|_|_|_|_|_|_|_|_|_|_|_|_|i
 all_goals first
  |exact absurd rfl hne
  |rfl
  |omega
theorem Rec.push2 (h:Rec B g rb m e vs ts mb own s ids o l w) {x:CalD} (hg:w.grownBy w' (vs 2).ownBlock)
  (ho:w'.ownsRow B 61 10 (.slice (some ⟨gg,0,none⟩) (s.t.cals.length+1) cap) (s.t.cals.length+1) (s.t.cals.flatMap calCells++calCells x)) (hgg:(vs 2).ownBlock=some gg∨gg=w.heap.size):
  ∃ vs' own',Rec B g rb m e vs' ts mb own' (st2 s x) ids o l (w'.setCell ⟨g,4,none⟩ (.slice (some ⟨gg,0,none⟩) (s.t.cals.length+1) cap))∧Mv own w own' (w'.setCell ⟨g,4,none⟩ (.slice (some ⟨gg,0,none⟩) (s.t.cals.length+1) cap)):=
 ⟨_,_,h.push (k:=2) (s':=st2 s x) (by omega) hg (by rw[st2_slot]) (by rw[st2_slot];exact ho) hgg rfl h.parts.lines (st2_other s x ts) ⟨rfl,rfl,rfl⟩ rfl⟩
def st3 (s:St) (x:ExcD):St:=⟨{ s.t with excs:=s.t.excs++[x] },s.lines,s.rules,s.opened⟩
theorem st3_slot (s:St) (x:ExcD) (ts:List TripD):slot (st3 s x) ts 3=⟨124,3,s.t.excs.length+1,s.t.excs.flatMap excCells++excCells x⟩:=by
 show(⟨124,3,(s.t.excs++[x]).length,_⟩:Slot)=_
 have e:(s.t.excs++[x]).flatMap excCells=s.t.excs.flatMap excCells++excCells x:=by rw[List.flatMap_append];rw[List.flatMap_cons,List.flatMap_nil,List.append_nil]
 have e2:(s.t.excs++[x]).length=s.t.excs.length+1:=by rw[List.length_append];rfl
 rw[e2,←e];rfl
theorem st3_other (s:St) (x:ExcD) (ts:List TripD): ∀ i,i<20→i≠3→slot (st3 s x) ts i=slot s ts i:=fun i hi hne=>by
 rcases i with _|_|_|_|_|_|_|_|_|_|_|_|_|_|_|_|_|_|_|_|i
 all_goals first
  |exact absurd rfl hne
  |rfl
  |omega
theorem Rec.push3 (h:Rec B g rb m e vs ts mb own s ids o l w) {x:ExcD} (hg:w.grownBy w' (vs 3).ownBlock)
  (ho:w'.ownsRow B 124 3 (.slice (some ⟨gg,0,none⟩) (s.t.excs.length+1) cap) (s.t.excs.length+1) (s.t.excs.flatMap excCells++excCells x)) (hgg:(vs 3).ownBlock=some gg∨gg=w.heap.size):
  ∃ vs' own',Rec B g rb m e vs' ts mb own' (st3 s x) ids o l (w'.setCell ⟨g,5,none⟩ (.slice (some ⟨gg,0,none⟩) (s.t.excs.length+1) cap))∧Mv own w own' (w'.setCell ⟨g,5,none⟩ (.slice (some ⟨gg,0,none⟩) (s.t.excs.length+1) cap)):=
 ⟨_,_,h.push (k:=3) (s':=st3 s x) (by omega) hg (by rw[st3_slot]) (by rw[st3_slot];exact ho) hgg rfl h.parts.lines (st3_other s x ts) ⟨rfl,rfl,rfl⟩ rfl⟩
def st5 (s:St) (x:FreqX):St:=⟨{ s.t with freqs:=s.t.freqs++[x] },s.lines,s.rules,s.opened⟩
theorem st5_slot (s:St) (x:FreqX) (ts:List TripD):slot (st5 s x) ts 5=⟨126,4,s.t.freqs.length+1,(s.t.freqs.map freqOf).flatMap freqCells++freqCells (freqOf x)⟩:=by
 show(⟨126,4,(s.t.freqs++[x]).length,_⟩:Slot)=_
 have e:((s.t.freqs++[x]).map freqOf).flatMap freqCells=(s.t.freqs.map freqOf).flatMap freqCells++freqCells (freqOf x):=by rw[List.map_append,List.flatMap_append];rw[List.map_cons,List.map_nil,List.flatMap_cons,List.flatMap_nil,List.append_nil]
 have e2:(s.t.freqs++[x]).length=s.t.freqs.length+1:=by rw[List.length_append];rfl
 rw[e2,←e];rfl
theorem st5_other (s:St) (x:FreqX) (ts:List TripD): ∀ i,i<20→i≠5→slot (st5 s x) ts i=slot s ts i:=fun i hi hne=>by
 rcases i with _|_|_|_|_|_|_|_|_|_|_|_|_|_|_|_|_|_|_|_|i
 all_goals first
  |exact absurd rfl hne
  |rfl
  |omega
theorem Rec.push5 (h:Rec B g rb m e vs ts mb own s ids o l w) {x:FreqX} (hg:w.grownBy w' (vs 5).ownBlock)
  (ho:w'.ownsRow B 126 4 (.slice (some ⟨gg,0,none⟩) (s.t.freqs.length+1) cap) (s.t.freqs.length+1) ((s.t.freqs.map freqOf).flatMap freqCells++freqCells (freqOf x))) (hgg:(vs 5).ownBlock=some gg∨gg=w.heap.size):
  ∃ vs' own',Rec B g rb m e vs' ts mb own' (st5 s x) ids o l (w'.setCell ⟨g,7,none⟩ (.slice (some ⟨gg,0,none⟩) (s.t.freqs.length+1) cap))∧Mv own w own' (w'.setCell ⟨g,7,none⟩ (.slice (some ⟨gg,0,none⟩) (s.t.freqs.length+1) cap)):=
 ⟨_,_,h.push (k:=5) (s':=st5 s x) (by omega) hg (by rw[st5_slot]) (by rw[st5_slot];exact ho) hgg rfl h.parts.lines (st5_other s x ts) ⟨rfl,rfl,rfl⟩ rfl⟩
def st6 (s:St) (x:ThruX):St:=⟨{ s.t with thrus:=s.t.thrus++[x] },s.lines,s.rules,s.opened⟩
theorem st6_slot (s:St) (x:ThruX) (ts:List TripD):slot (st6 s x) ts 6=⟨128,2,s.t.thrus.length+1,(s.t.thrus.map thruOf).flatMap thrCells++thrCells (thruOf x)⟩:=by
 show(⟨128,2,(s.t.thrus++[x]).length,_⟩:Slot)=_
 have e:((s.t.thrus++[x]).map thruOf).flatMap thrCells=(s.t.thrus.map thruOf).flatMap thrCells++thrCells (thruOf x):=by rw[List.map_append,List.flatMap_append];rw[List.map_cons,List.map_nil,List.flatMap_cons,List.flatMap_nil,List.append_nil]
 have e2:(s.t.thrus++[x]).length=s.t.thrus.length+1:=by rw[List.length_append];rfl
 rw[e2,←e];rfl
theorem st6_other (s:St) (x:ThruX) (ts:List TripD): ∀ i,i<20→i≠6→slot (st6 s x) ts i=slot s ts i:=fun i hi hne=>by
 rcases i with _|_|_|_|_|_|_|_|_|_|_|_|_|_|_|_|_|_|_|_|i
 all_goals first
  |exact absurd rfl hne
  |rfl
  |omega
theorem Rec.push6 (h:Rec B g rb m e vs ts mb own s ids o l w) {x:ThruX} (hg:w.grownBy w' (vs 6).ownBlock)
  (ho:w'.ownsRow B 128 2 (.slice (some ⟨gg,0,none⟩) (s.t.thrus.length+1) cap) (s.t.thrus.length+1) ((s.t.thrus.map thruOf).flatMap thrCells++thrCells (thruOf x))) (hgg:(vs 6).ownBlock=some gg∨gg=w.heap.size):
  ∃ vs' own',Rec B g rb m e vs' ts mb own' (st6 s x) ids o l (w'.setCell ⟨g,8,none⟩ (.slice (some ⟨gg,0,none⟩) (s.t.thrus.length+1) cap))∧Mv own w own' (w'.setCell ⟨g,8,none⟩ (.slice (some ⟨gg,0,none⟩) (s.t.thrus.length+1) cap)):=
 ⟨_,_,h.push (k:=6) (s':=st6 s x) (by omega) hg (by rw[st6_slot]) (by rw[st6_slot];exact ho) hgg rfl h.parts.lines (st6_other s x ts) ⟨rfl,rfl,rfl⟩ rfl⟩
def st7 (s:St) (x:GuaD):St:=⟨{ s.t with guars:=s.t.guars++[x] },s.lines,s.rules,s.opened⟩
theorem st7_slot (s:St) (x:GuaD) (ts:List TripD):slot (st7 s x) ts 7=⟨130,3,s.t.guars.length+1,s.t.guars.flatMap guaCells++guaCells x⟩:=by
 show(⟨130,3,(s.t.guars++[x]).length,_⟩:Slot)=_
 have e:(s.t.guars++[x]).flatMap guaCells=s.t.guars.flatMap guaCells++guaCells x:=by rw[List.flatMap_append];rw[List.flatMap_cons,List.flatMap_nil,List.append_nil]
 have e2:(s.t.guars++[x]).length=s.t.guars.length+1:=by rw[List.length_append];rfl
 rw[e2,←e];rfl
theorem st7_other (s:St) (x:GuaD) (ts:List TripD): ∀ i,i<20→i≠7→slot (st7 s x) ts i=slot s ts i:=fun i hi hne=>by
 rcases i with _|_|_|_|_|_|_|_|_|_|_|_|_|_|_|_|_|_|_|_|i
 all_goals first
  |exact absurd rfl hne
  |rfl
  |omega
theorem Rec.push7 (h:Rec B g rb m e vs ts mb own s ids o l w) {x:GuaD} (hg:w.grownBy w' (vs 7).ownBlock)
  (ho:w'.ownsRow B 130 3 (.slice (some ⟨gg,0,none⟩) (s.t.guars.length+1) cap) (s.t.guars.length+1) (s.t.guars.flatMap guaCells++guaCells x)) (hgg:(vs 7).ownBlock=some gg∨gg=w.heap.size):
  ∃ vs' own',Rec B g rb m e vs' ts mb own' (st7 s x) ids o l (w'.setCell ⟨g,9,none⟩ (.slice (some ⟨gg,0,none⟩) (s.t.guars.length+1) cap))∧Mv own w own' (w'.setCell ⟨g,9,none⟩ (.slice (some ⟨gg,0,none⟩) (s.t.guars.length+1) cap)):=
 ⟨_,_,h.push (k:=7) (s':=st7 s x) (by omega) hg (by rw[st7_slot]) (by rw[st7_slot];exact ho) hgg rfl h.parts.lines (st7_other s x ts) ⟨rfl,rfl,rfl⟩ rfl⟩
def st8 (s:St) (x:PathD):St:=⟨{ s.t with paths:=s.t.paths++[x] },s.lines,s.rules,s.opened⟩
theorem st8_slot (s:St) (x:PathD) (ts:List TripD):slot (st8 s x) ts 8=⟨63,4,s.t.paths.length+1,s.t.paths.flatMap pathCells++pathCells x⟩:=by
 show(⟨63,4,(s.t.paths++[x]).length,_⟩:Slot)=_
 have e:(s.t.paths++[x]).flatMap pathCells=s.t.paths.flatMap pathCells++pathCells x:=by rw[List.flatMap_append];rw[List.flatMap_cons,List.flatMap_nil,List.append_nil]
 have e2:(s.t.paths++[x]).length=s.t.paths.length+1:=by rw[List.length_append];rfl
 rw[e2,←e];rfl
theorem st8_other (s:St) (x:PathD) (ts:List TripD): ∀ i,i<20→i≠8→slot (st8 s x) ts i=slot s ts i:=fun i hi hne=>by
 rcases i with _|_|_|_|_|_|_|_|_|_|_|_|_|_|_|_|_|_|_|_|i
 all_goals first
  |exact absurd rfl hne
  |rfl
  |omega
theorem Rec.push8 (h:Rec B g rb m e vs ts mb own s ids o l w) {x:PathD} (hg:w.grownBy w' (vs 8).ownBlock)
  (ho:w'.ownsRow B 63 4 (.slice (some ⟨gg,0,none⟩) (s.t.paths.length+1) cap) (s.t.paths.length+1) (s.t.paths.flatMap pathCells++pathCells x)) (hgg:(vs 8).ownBlock=some gg∨gg=w.heap.size):
  ∃ vs' own',Rec B g rb m e vs' ts mb own' (st8 s x) ids o l (w'.setCell ⟨g,10,none⟩ (.slice (some ⟨gg,0,none⟩) (s.t.paths.length+1) cap))∧Mv own w own' (w'.setCell ⟨g,10,none⟩ (.slice (some ⟨gg,0,none⟩) (s.t.paths.length+1) cap)):=
 ⟨_,_,h.push (k:=8) (s':=st8 s x) (by omega) hg (by rw[st8_slot]) (by rw[st8_slot];exact ho) hgg rfl h.parts.lines (st8_other s x ts) ⟨rfl,rfl,rfl⟩ rfl⟩
def st9 (s:St) (x:ProdD):St:=⟨{ s.t with fares:={ s.t.fares with prods:=s.t.fares.prods++[x] } },s.lines,s.rules,s.opened⟩
theorem st9_slot (s:St) (x:ProdD) (ts:List TripD):slot (st9 s x) ts 9=⟨65,6,s.t.fares.prods.length+1,s.t.fares.prods.flatMap prodCells++prodCells x⟩:=by
 show(⟨65,6,(s.t.fares.prods++[x]).length,_⟩:Slot)=_
 have e:(s.t.fares.prods++[x]).flatMap prodCells=s.t.fares.prods.flatMap prodCells++prodCells x:=by rw[List.flatMap_append];rw[List.flatMap_cons,List.flatMap_nil,List.append_nil]
 have e2:(s.t.fares.prods++[x]).length=s.t.fares.prods.length+1:=by rw[List.length_append];rfl
 rw[e2,←e];rfl
theorem st9_other (s:St) (x:ProdD) (ts:List TripD): ∀ i,i<20→i≠9→slot (st9 s x) ts i=slot s ts i:=fun i hi hne=>by
 rcases i with _|_|_|_|_|_|_|_|_|_|_|_|_|_|_|_|_|_|_|_|i
 all_goals first
  |exact absurd rfl hne
  |rfl
  |omega
theorem Rec.push9 (h:Rec B g rb m e vs ts mb own s ids o l w) {x:ProdD} (hg:w.grownBy w' (vs 9).ownBlock)
  (ho:w'.ownsRow B 65 6 (.slice (some ⟨gg,0,none⟩) (s.t.fares.prods.length+1) cap) (s.t.fares.prods.length+1) (s.t.fares.prods.flatMap prodCells++prodCells x)) (hgg:(vs 9).ownBlock=some gg∨gg=w.heap.size):
  ∃ vs' own',Rec B g rb m e vs' ts mb own' (st9 s x) ids o l (w'.setCell ⟨g,11,none⟩ (.slice (some ⟨gg,0,none⟩) (s.t.fares.prods.length+1) cap))∧Mv own w own' (w'.setCell ⟨g,11,none⟩ (.slice (some ⟨gg,0,none⟩) (s.t.fares.prods.length+1) cap)):=
 ⟨_,_,h.push (k:=9) (s':=st9 s x) (by omega) hg (by rw[st9_slot]) (by rw[st9_slot];exact ho) hgg rfl h.parts.lines (st9_other s x ts) ⟨rfl,rfl,rfl⟩ rfl⟩
def mkT (f1:List UInt8) (n2 n3:Int) (n4:Bool):TripD:=⟨⟨f1.toArray⟩,n2,n3,n4, .slice none 0 0,[]⟩
def st4 (s:St) (x:TripX):St:=⟨{ s.t with trips:=s.t.trips++[x] },s.lines,s.rules,s.opened⟩
theorem st4_other (s:St) (x:TripX) (ts:List TripD) (y:TripD): ∀ i,i<20→i≠4→slot (st4 s x) (ts++[y]) i=slot s ts i:=fun i hi hne=>by
 rcases i with _|_|_|_|_|_|_|_|_|_|_|_|_|_|_|_|_|_|_|_|i
 all_goals first
  |exact absurd rfl hne
  |rfl
  |omega
theorem Rec.push4 (h:Rec B g rb m e vs ts mb own s ids o l w) {f1:List UInt8} {n2 n3:Int} {n4:Bool} (hg:w.grownBy w' (vs 4).ownBlock)
  (ho:w'.ownsRow B 56 5 (.slice (some ⟨gg,0,none⟩) (ts.length+1) cap) (ts.length+1) (ts.flatMap tripCells++tripCells (mkT f1 n2 n3 n4))) (hgg:(vs 4).ownBlock=some gg∨gg=w.heap.size):
  ∃ vs' own',Rec B g rb m e vs' (ts++[mkT f1 n2 n3 n4]) mb own' (st4 s ⟨f1,n2,n3,n4,[]⟩) ids o l (w'.setCell ⟨g,6,none⟩ (.slice (some ⟨gg,0,none⟩) (ts.length+1) cap))∧Mv own w own' (w'.setCell ⟨g,6,none⟩ (.slice (some ⟨gg,0,none⟩) (ts.length+1) cap)):=by
 have hlab: ∀ b,b<w.heap.size→lab1 own gg 4 b=own b:=fun b hb=>lab_grown hgg (h.parts.lab 4 (by omega)) hb
 have p1:=h.parts.trip (x:=mkT f1 n2 n3 n4) (s':=st4 s ⟨f1,n2,n3,n4,[]⟩) rfl rfl hg rfl ho hgg (by show s.t.trips++_=_;rw[h.parts.same,List.map_append];rfl) h.parts.lines (st4_other s _ ts _);have r1:=h.rat.row hg (h.far (by omega) (.inr (.inr h.lg))) (h.far (by omega) (.inr (.inl h.lrb))) (h.far (by omega) (.inl h.l1)) (h.far (by omega) (.inl h.l2));have lg':lab1 own gg 4 g=99:=(hlab g h.glt).trans h.lg;have gs:=gr_set g w' 6 (.slice (some ⟨gg,0,none⟩) (ts.length+1) cap);obtain⟨u,q1,q2⟩:=r1.at';refine⟨_,_,⟨r1.turn gs ⟨u, ?_,q2⟩,p1.kept gs (fun b hb=>by simp only[Option.some.injEq]at hb;rw[←hb,lg'];omega),lg',(hlab rb h.rat.lt).trans h.lrb,(hlab _ h.rat.env.lt.1).trans h.l1,(hlab _ h.rat.env.lt.2).trans h.l2⟩, ?_⟩
 ·
  have:=blk_set q1 (posK 4) (.slice (some ⟨gg,0,none⟩) (ts.length+1) cap);rw[pC_set u e vs _ mb _ o (by omega) _]at this;exact this
 ·
  have m1:Mv own w (lab1 own gg 4) w':=by
   refine⟨hg.os,hg.tape,hg.output,hg.size,hlab,fun b hb hl=>hg.block b hb (fun e2=>?_)⟩;have:=h.parts.lab 4 (by omega) b e2.symm;omega
  exact m1.trans (mv_gr gs lg')
theorem Rec.line' (h:Rec B g rb m e vs ts mb own s ids o l w) {k:Nat} {n:Int} {s':St} (hk:k<10) (hg:w.grownBy w' (vs (k+10)).ownBlock)
  (ho:w'.ownsRow B 3 1 (.slice (some ⟨gg,0,none⟩) ((lineAt s k).length+1) cap) ((lineAt s k).length+1) ((lineAt s k).flatMap intCells++[.int .i64 n])) (hgg:(vs (k+10)).ownBlock=some gg∨gg=w.heap.size) (ht:s'.t=s.t) (hl:s'.lines=noteL s k n) (hr:s'.rules=s.rules):
  ∃ vs' own',Rec B g rb m e vs' ts mb own' s' ids o l (w'.setCell ⟨g,k+19,none⟩ (.slice (some ⟨gg,0,none⟩) ((lineAt s k).length+1) cap))∧Mv own w own' (w'.setCell ⟨g,k+19,none⟩ (.slice (some ⟨gg,0,none⟩) ((lineAt s k).length+1) cap)):=⟨_,_,h.lined hk hg ho hgg ht hl hr⟩
end
end Go.Proofs.YtakedkcjplfgeaaGreatDoor
namespace Go.Proofs.YtakedkcjplfgeaaGreatDoor
open Go.RowKit
open Frq Thr Tt Num Clk Dat Fld
theorem letter_c (b:UInt8) (v:Bool) (H:Hid (letB b=v)) (w:World):
  Calls Tryz.prog 280 #[.int .u8 b.toNat] w fun q w'=>q= .returned (.bool v)∧w'=w:=by
 have hb:((b.toNat:Int)=43∨(97≤(b.toNat:Int)∧(b.toNat:Int)≤122))↔v=true:=by
  rw[←H.out];unfold letB;simp only[Bool.or_eq_true,beq_iff_eq,Bool.and_eq_true,decide_eq_true_eq];omega
 clear H;generalize (b.toNat:Int)=z at hb ⊢
 by_cases h43:z=43
 ·
  obtain rfl:true=v:=(hb.1 (.inl h43)).symm;subst h43;clear hb;go_enter Tryz.func280,Tryz.ntmps280
  go_wp2;go_ret;exact⟨rfl,rfl⟩
 ·
  have n43:(z==43)=false:=by rw[beq_eq_false_iff_ne];exact h43
  by_cases h97:97≤z
  ·
   by_cases h122:z≤122
   ·
    obtain rfl:true=v:=(hb.1 (.inr ⟨h97,h122⟩)).symm;clear hb;go_enter Tryz.func280,Tryz.ntmps280
    go_wp2;go_ret;exact⟨rfl,rfl⟩
   ·
    obtain rfl:false=v:=by cases v with
     |false=>rfl
     |true=>exfalso;have:=hb.2 rfl;omega
    clear hb;go_enter Tryz.func280,Tryz.ntmps280
    go_wp2;go_ret;exact⟨rfl,rfl⟩
  ·
   obtain rfl:false=v:=by cases v with
    |false=>rfl
    |true=>exfalso;have:=hb.2 rfl;omega
   clear hb;go_enter Tryz.func280,Tryz.ntmps280
   go_wp2;go_ret;exact⟨rfl,rfl⟩
def badB (b:UInt8):Int:=if b=48∨b=49 then 0 else 3
theorem badB_all (l:List UInt8):firstE (l.map badB)=if l.all (fun x=>x==48||x==49)=true then 0 else 3:=by
 induction l with
 |nil=>rfl
 |cons x r ih=>
  show(if badB x=0 then firstE (r.map badB)else badB x)=_
  unfold badB at ih ⊢;by_cases h:x=48∨x=49
  ·
   rw[if_pos h,if_pos rfl,ih,List.all_cons];rcases h with h|h<;>simp[h]
  ·
   rw[if_neg h,if_neg (by decide),List.all_cons];rw[not_or]at h;have h1:(x==48)=false:=by rw[beq_eq_false_iff_ne];exact h.1
   have h2:(x==49)=false:=by rw[beq_eq_false_iff_ne];exact h.2
   rw[h1,h2];rfl
def wkC (a b c d e1 f h:UInt8):Nat→Array Value
 |0=> #[.bool false, .bool false, .bool false, .bool false, .bool false, .bool false, .bool false]
 |1=> #[.bool (a==49), .bool false, .bool false, .bool false, .bool false, .bool false, .bool false]
 |2=> #[.bool (a==49), .bool (b==49), .bool false, .bool false, .bool false, .bool false, .bool false]
 |3=> #[.bool (a==49), .bool (b==49), .bool (c==49), .bool false, .bool false, .bool false, .bool false]
 |4=> #[.bool (a==49), .bool (b==49), .bool (c==49), .bool (d==49), .bool false, .bool false, .bool false]
 |5=> #[.bool (a==49), .bool (b==49), .bool (c==49), .bool (d==49), .bool (e1==49), .bool false, .bool false]
 |6=> #[.bool (a==49), .bool (b==49), .bool (c==49), .bool (d==49), .bool (e1==49), .bool (f==49), .bool false]
 |_=> #[.bool (a==49), .bool (b==49), .bool (c==49), .bool (d==49), .bool (e1==49), .bool (f==49), .bool (h==49)]
theorem u8_is {a:UInt8} {n:Nat} {k:Int} (hn:n<256) (hk:(n:Int)=k) (h:a=UInt8.ofNat n):((a.toNat:Int)==k)=true∧((a.toNat:Int) != k)=false:=by
 have:a.toNat=n:=by rw[h,UInt8.toNat_ofNat'];omega
 rw[this,hk];simp
theorem u8_not {a:UInt8} {n:Nat} {k:Int} (hk:(n:Int)=k) (h: ¬ a=UInt8.ofNat n):((a.toNat:Int)==k)=false∧((a.toNat:Int) != k)=true:=by
 have: ¬ a.toNat=n:=fun e=>h (by rw[←e];simp)
 have h1: ¬ (a.toNat:Int)=k:=by omega
 exact⟨by rw[beq_eq_false_iff_ne];exact h1,by rw[bne_iff_ne];exact h1⟩
theorem fweek7_c (g rb:Nat) (m e E:Int) (X:PX) (a b c d e1 f h:UInt8) (r:List (List UInt8)) (H:Hid (fe e (if[a,b,c,d,e1,f,h].all (fun x=>x==48||x==49)=true then 0 else 3)=E)) (w:World) (hr:RAt g rb m e X ([a,b,c,d,e1,f,h]::r) w):
  Calls Tryz.prog 112 #[.pointer (some ⟨g,0,none⟩)] w fun q w'=>q= .returned (.agg (wkC a b c d e1 f h 7))∧RAt g rb m E X r w'∧Gr g w w':=by
 have HR:=Lib.hid hr;have hg:=hr.glt;clear hr;have HE:Hid (([a,b,c,d,e1,f,h].map badB).foldl fe e=E):=by
  show _=_
  rw[fe_fold,badB_all,←H.out];unfold fe;rfl
 clear H;have y0: ∀ w:World,(Instr.index 9 (str [a,b,c,d,e1,f,h]) (.int .i64 0)).run Tryz.prog w= .ok (.int .u8 (a.toNat:Int)) w:=fun _=>by kernel_rfl
 have y1: ∀ w:World,(Instr.index 9 (str [a,b,c,d,e1,f,h]) (.int .i64 1)).run Tryz.prog w= .ok (.int .u8 (b.toNat:Int)) w:=fun _=>by kernel_rfl
 have y2: ∀ w:World,(Instr.index 9 (str [a,b,c,d,e1,f,h]) (.int .i64 2)).run Tryz.prog w= .ok (.int .u8 (c.toNat:Int)) w:=fun _=>by kernel_rfl
 have y3: ∀ w:World,(Instr.index 9 (str [a,b,c,d,e1,f,h]) (.int .i64 3)).run Tryz.prog w= .ok (.int .u8 (d.toNat:Int)) w:=fun _=>by kernel_rfl
 have y4: ∀ w:World,(Instr.index 9 (str [a,b,c,d,e1,f,h]) (.int .i64 4)).run Tryz.prog w= .ok (.int .u8 (e1.toNat:Int)) w:=fun _=>by kernel_rfl
 have y5: ∀ w:World,(Instr.index 9 (str [a,b,c,d,e1,f,h]) (.int .i64 5)).run Tryz.prog w= .ok (.int .u8 (f.toNat:Int)) w:=fun _=>by kernel_rfl
 have y6: ∀ w:World,(Instr.index 9 (str [a,b,c,d,e1,f,h]) (.int .i64 6)).run Tryz.prog w= .ok (.int .u8 (h.toNat:Int)) w:=fun _=>by kernel_rfl
 obtain⟨wz,hwz⟩: ∃ wz,(w.alloc (.cells #[.bool false, .bool false, .bool false, .bool false, .bool false, .bool false, .bool false] 59)).alloc (.cells #[.bool false, .bool false, .bool false, .bool false, .bool false, .bool false, .bool false] 59)=wz:=⟨_,rfl⟩;have bz:Bl w wz:=by rw[←hwz];exact bl_alloc (bl_alloc (bl_refl _) _) _
 have Z0:Hid (wz.heap[w.heap.size]? =some (.cells #[.bool false, .bool false, .bool false, .bool false, .bool false, .bool false, .bool false] 59 (0,0))):=by rw[←hwz];exact blk_bl (heap_alloc_new w _) (bl_alloc (bl_refl _) _)
 have Z1:Hid (wz.heap[w.heap.size+1]? =some (.cells #[.bool false, .bool false, .bool false, .bool false, .bool false, .bool false, .bool false] 59 (0,0))):=by rw[←hwz];have:=heap_alloc_new (w.alloc (.cells #[.bool false, .bool false, .bool false, .bool false, .bool false, .bool false, .bool false] 59)) (.cells #[.bool false, .bool false, .bool false, .bool false, .bool false, .bool false, .bool false] 59);simp only[World.size_alloc]at this;exact this
 have RZ:=Lib.hid (HR.out.bl bz);have GZ:Hid (Gr g w wz):=gr_bl bz;have sz:w.heap.size+2≤wz.heap.size:=by rw[←hwz];simp
 go_enter Tryz.func112,Tryz.ntmps112
 go_wp2_with (go_at_call 107;refine(fnext_c g rb m e X [a,b,c,d,e1,f,h] r wz RZ.out).mono ?_)
 rintro y0 w0 ⟨rfl,r0,g0⟩;have R0:=Lib.hid r0;have G0:=Lib.hid (gr_next GZ.out g0);have C0:=Lib.hid ((gr_blk g0 (by omega) (by omega)).trans Z0.out);have C1:=Lib.hid ((gr_blk g0 (by omega) (by omega)).trans Z1.out);have s0:w.heap.size+2≤w0.heap.size:=Nat.le_trans sz g0.size;clear r0 g0 Z0 Z1 RZ GZ hwz bz;go_wp2_with fail;go_loopw [14] (fun i wr=> ∃ (k:Nat) (e':Int),(k≤7∧i= .int .i64 k)∧Hid (RAt g rb m e' X r wr)∧Hid (Gr g w wr)∧Hid ((([a,b,c,d,e1,f,h].take k).map badB).foldl fe e=e')∧Hid (wr.heap[w.heap.size]? =some (.cells #[.bool false, .bool false, .bool false, .bool false, .bool false, .bool false, .bool false] 59 (0,0)))∧Hid (wr.heap[w.heap.size+1]? =some (.cells (wkC a b c d e1 f h k) 59 (0,0)))) (fun i _=>7-(intOf i).toNat)
 case atStart=>exact⟨0,e,⟨by omega,rfl⟩,R0,G0,rfl,C0,C1⟩
 case round=>
  obtain⟨k,e',⟨hk,rfl⟩,HRr,HGr,HEr,HC0,HC1⟩:=hrel;clear R0 G0 C0 C1;by_cases hlt:k<7
  ·
   obtain rfl|rfl|rfl|rfl|rfl|rfl|rfl:k=0∨k=1∨k=2∨k=3∨k=4∨k=5∨k=6:=by omega
   ·
    have q0:=blk_cell HC1.out 0 _ rfl;have fr:=Lib.frozen_of_heap HC1.out 0;have S1:Hid ((wr.setCell ⟨w.heap.size+1,0,none⟩ (.bool (a==49))).heap[w.heap.size+1]? =some (.cells (wkC a b c d e1 f h 1) 59 (0,0))):=blk_set HC1.out 0 _;have S0:Hid ((wr.setCell ⟨w.heap.size+1,0,none⟩ (.bool (a==49))).heap[w.heap.size]? =some (.cells #[.bool false, .bool false, .bool false, .bool false, .bool false, .bool false, .bool false] 59 (0,0))):=(Below.heap_setCell _ _ _ w.heap.size (by simp)).trans HC0.out;have SR:=Lib.hid (HRr.out.far (p:=⟨w.heap.size+1,0,none⟩) (.bool (a==49)) (by show w.heap.size+1≠g;omega) (by show w.heap.size+1≠rb;have:=HR.out.lt;omega) (by show w.heap.size+1≠_;have:=HR.out.env.lt.1;omega) (by show w.heap.size+1≠_;have:=HR.out.env.lt.2;omega));have SG:Hid (Gr g w (wr.setCell ⟨w.heap.size+1,0,none⟩ (.bool (a==49)))):=gr_setNew HGr.out (by omega) 0 _;by_cases h49:a=49
    ·
     obtain⟨u1,u2⟩:=u8_is (n:=49) (k:=49) (by omega) rfl h49;have HB:=Lib.hid (show badB a=0 by unfold badB;rw[if_pos (.inr h49)]);have hv:(a==49)=true:=by rw[beq_iff_eq];exact h49
     rw[hv]at S0 S1 SR SG;clear HC0 HC1 HRr HGr h49;go_wp2;go_roundw;case rel=>exact⟨1,_,⟨by omega,rfl⟩,SR,SG,by show _=_;rw[←HEr.out];show fe _ (badB a)=_;rw[HB.out,fe_zero];rfl,S0,S1⟩
     case measure=>simp[intOf]
    ·
     obtain⟨u1,u2⟩:=u8_not (n:=49) (k:=49) rfl h49;have hv:(a==49)=false:=by rw[beq_eq_false_iff_ne];exact h49
     rw[hv]at S0 S1 SR SG;by_cases h48:a=48
     ·
      obtain⟨u3,u4⟩:=u8_is (n:=48) (k:=48) (by omega) rfl h48;have HB:=Lib.hid (show badB a=0 by unfold badB;rw[if_pos (.inl h48)]);clear HC0 HC1 HRr HGr h49 h48;go_wp2;go_roundw;case rel=>exact⟨1,_,⟨by omega,rfl⟩,SR,SG,by show _=_;rw[←HEr.out];show fe _ (badB a)=_;rw[HB.out,fe_zero];rfl,S0,S1⟩
      case measure=>simp[intOf]
     ·
      obtain⟨u3,u4⟩:=u8_not (n:=48) (k:=48) rfl h48;have HB:=Lib.hid (show badB a=3 by unfold badB;rw[if_neg (by rintro(q|q)<;>contradiction)]);clear HC0 HC1 HRr HGr h49 h48;go_wp2_with (go_at_call 186;refine(ffail_c g rb m e' 3 (fe e' 3) rfl X r _ SR.out).mono ?_)
      rintro y2 w2 ⟨rfl,r2,g2⟩;have R2:=Lib.hid r2;have G2:=Lib.hid (gr_next SG.out g2);have D0:=Lib.hid ((gr_blk g2 (lt_of_block S0.out) (by omega)).trans S0.out);have D1:=Lib.hid ((gr_blk g2 (lt_of_block S1.out) (by omega)).trans S1.out);clear r2 g2 S0 S1 SR SG;go_wp2;go_roundw;case rel=>exact⟨1,_,⟨by omega,rfl⟩,R2,G2,by show _=_;rw[←HEr.out];show fe _ (badB a)=_;rw[HB.out];rfl,D0,D1⟩
      case measure=>simp[intOf]
   ·
    have q0:=blk_cell HC1.out 1 _ rfl;have fr:=Lib.frozen_of_heap HC1.out 1;have S1:Hid ((wr.setCell ⟨w.heap.size+1,1,none⟩ (.bool (b==49))).heap[w.heap.size+1]? =some (.cells (wkC a b c d e1 f h 2) 59 (0,0))):=blk_set HC1.out 1 _;have S0:Hid ((wr.setCell ⟨w.heap.size+1,1,none⟩ (.bool (b==49))).heap[w.heap.size]? =some (.cells #[.bool false, .bool false, .bool false, .bool false, .bool false, .bool false, .bool false] 59 (0,0))):=(Below.heap_setCell _ _ _ w.heap.size (by simp)).trans HC0.out;have SR:=Lib.hid (HRr.out.far (p:=⟨w.heap.size+1,1,none⟩) (.bool (b==49)) (by show w.heap.size+1≠g;omega) (by show w.heap.size+1≠rb;have:=HR.out.lt;omega) (by show w.heap.size+1≠_;have:=HR.out.env.lt.1;omega) (by show w.heap.size+1≠_;have:=HR.out.env.lt.2;omega));have SG:Hid (Gr g w (wr.setCell ⟨w.heap.size+1,1,none⟩ (.bool (b==49)))):=gr_setNew HGr.out (by omega) 1 _;by_cases h49:b=49
    ·
     obtain⟨u1,u2⟩:=u8_is (n:=49) (k:=49) (by omega) rfl h49;have HB:=Lib.hid (show badB b=0 by unfold badB;rw[if_pos (.inr h49)]);have hv:(b==49)=true:=by rw[beq_iff_eq];exact h49
     rw[hv]at S0 S1 SR SG;clear HC0 HC1 HRr HGr h49;go_wp2;go_roundw;case rel=>exact⟨2,_,⟨by omega,rfl⟩,SR,SG,by show _=_;rw[←HEr.out];show fe _ (badB b)=_;rw[HB.out,fe_zero];rfl,S0,S1⟩
     case measure=>simp[intOf]
    ·
     obtain⟨u1,u2⟩:=u8_not (n:=49) (k:=49) rfl h49;have hv:(b==49)=false:=by rw[beq_eq_false_iff_ne];exact h49
     rw[hv]at S0 S1 SR SG;by_cases h48:b=48
     ·
      obtain⟨u3,u4⟩:=u8_is (n:=48) (k:=48) (by omega) rfl h48;have HB:=Lib.hid (show badB b=0 by unfold badB;rw[if_pos (.inl h48)]);clear HC0 HC1 HRr HGr h49 h48;go_wp2;go_roundw;case rel=>exact⟨2,_,⟨by omega,rfl⟩,SR,SG,by show _=_;rw[←HEr.out];show fe _ (badB b)=_;rw[HB.out,fe_zero];rfl,S0,S1⟩
      case measure=>simp[intOf]
     ·
      obtain⟨u3,u4⟩:=u8_not (n:=48) (k:=48) rfl h48;have HB:=Lib.hid (show badB b=3 by unfold badB;rw[if_neg (by rintro(q|q)<;>contradiction)]);clear HC0 HC1 HRr HGr h49 h48;go_wp2_with (go_at_call 186;refine(ffail_c g rb m e' 3 (fe e' 3) rfl X r _ SR.out).mono ?_)
      rintro y2 w2 ⟨rfl,r2,g2⟩;have R2:=Lib.hid r2;have G2:=Lib.hid (gr_next SG.out g2);have D0:=Lib.hid ((gr_blk g2 (lt_of_block S0.out) (by omega)).trans S0.out);have D1:=Lib.hid ((gr_blk g2 (lt_of_block S1.out) (by omega)).trans S1.out);clear r2 g2 S0 S1 SR SG;go_wp2;go_roundw;case rel=>exact⟨2,_,⟨by omega,rfl⟩,R2,G2,by show _=_;rw[←HEr.out];show fe _ (badB b)=_;rw[HB.out];rfl,D0,D1⟩
      case measure=>simp[intOf]
   ·
    have q0:=blk_cell HC1.out 2 _ rfl;have fr:=Lib.frozen_of_heap HC1.out 2;have S1:Hid ((wr.setCell ⟨w.heap.size+1,2,none⟩ (.bool (c==49))).heap[w.heap.size+1]? =some (.cells (wkC a b c d e1 f h 3) 59 (0,0))):=blk_set HC1.out 2 _;have S0:Hid ((wr.setCell ⟨w.heap.size+1,2,none⟩ (.bool (c==49))).heap[w.heap.size]? =some (.cells #[.bool false, .bool false, .bool false, .bool false, .bool false, .bool false, .bool false] 59 (0,0))):=(Below.heap_setCell _ _ _ w.heap.size (by simp)).trans HC0.out;have SR:=Lib.hid (HRr.out.far (p:=⟨w.heap.size+1,2,none⟩) (.bool (c==49)) (by show w.heap.size+1≠g;omega) (by show w.heap.size+1≠rb;have:=HR.out.lt;omega) (by show w.heap.size+1≠_;have:=HR.out.env.lt.1;omega) (by show w.heap.size+1≠_;have:=HR.out.env.lt.2;omega));have SG:Hid (Gr g w (wr.setCell ⟨w.heap.size+1,2,none⟩ (.bool (c==49)))):=gr_setNew HGr.out (by omega) 2 _;by_cases h49:c=49
    ·
     obtain⟨u1,u2⟩:=u8_is (n:=49) (k:=49) (by omega) rfl h49;have HB:=Lib.hid (show badB c=0 by unfold badB;rw[if_pos (.inr h49)]);have hv:(c==49)=true:=by rw[beq_iff_eq];exact h49
     rw[hv]at S0 S1 SR SG;clear HC0 HC1 HRr HGr h49;go_wp2;go_roundw;case rel=>exact⟨3,_,⟨by omega,rfl⟩,SR,SG,by show _=_;rw[←HEr.out];show fe _ (badB c)=_;rw[HB.out,fe_zero];rfl,S0,S1⟩
     case measure=>simp[intOf]
    ·
     obtain⟨u1,u2⟩:=u8_not (n:=49) (k:=49) rfl h49;have hv:(c==49)=false:=by rw[beq_eq_false_iff_ne];exact h49
     rw[hv]at S0 S1 SR SG;by_cases h48:c=48
     ·
      obtain⟨u3,u4⟩:=u8_is (n:=48) (k:=48) (by omega) rfl h48;have HB:=Lib.hid (show badB c=0 by unfold badB;rw[if_pos (.inl h48)]);clear HC0 HC1 HRr HGr h49 h48;go_wp2;go_roundw;case rel=>exact⟨3,_,⟨by omega,rfl⟩,SR,SG,by show _=_;rw[←HEr.out];show fe _ (badB c)=_;rw[HB.out,fe_zero];rfl,S0,S1⟩
      case measure=>simp[intOf]
     ·
      obtain⟨u3,u4⟩:=u8_not (n:=48) (k:=48) rfl h48;have HB:=Lib.hid (show badB c=3 by unfold badB;rw[if_neg (by rintro(q|q)<;>contradiction)]);clear HC0 HC1 HRr HGr h49 h48;go_wp2_with (go_at_call 186;refine(ffail_c g rb m e' 3 (fe e' 3) rfl X r _ SR.out).mono ?_)
      rintro y2 w2 ⟨rfl,r2,g2⟩;have R2:=Lib.hid r2;have G2:=Lib.hid (gr_next SG.out g2);have D0:=Lib.hid ((gr_blk g2 (lt_of_block S0.out) (by omega)).trans S0.out);have D1:=Lib.hid ((gr_blk g2 (lt_of_block S1.out) (by omega)).trans S1.out);clear r2 g2 S0 S1 SR SG;go_wp2;go_roundw;case rel=>exact⟨3,_,⟨by omega,rfl⟩,R2,G2,by show _=_;rw[←HEr.out];show fe _ (badB c)=_;rw[HB.out];rfl,D0,D1⟩
      case measure=>simp[intOf]
   ·
    have q0:=blk_cell HC1.out 3 _ rfl;have fr:=Lib.frozen_of_heap HC1.out 3;have S1:Hid ((wr.setCell ⟨w.heap.size+1,3,none⟩ (.bool (d==49))).heap[w.heap.size+1]? =some (.cells (wkC a b c d e1 f h 4) 59 (0,0))):=blk_set HC1.out 3 _;have S0:Hid ((wr.setCell ⟨w.heap.size+1,3,none⟩ (.bool (d==49))).heap[w.heap.size]? =some (.cells #[.bool false, .bool false, .bool false, .bool false, .bool false, .bool false, .bool false] 59 (0,0))):=(Below.heap_setCell _ _ _ w.heap.size (by simp)).trans HC0.out;have SR:=Lib.hid (HRr.out.far (p:=⟨w.heap.size+1,3,none⟩) (.bool (d==49)) (by show w.heap.size+1≠g;omega) (by show w.heap.size+1≠rb;have:=HR.out.lt;omega) (by show w.heap.size+1≠_;have:=HR.out.env.lt.1;omega) (by show w.heap.size+1≠_;have:=HR.out.env.lt.2;omega));have SG:Hid (Gr g w (wr.setCell ⟨w.heap.size+1,3,none⟩ (.bool (d==49)))):=gr_setNew HGr.out (by omega) 3 _;by_cases h49:d=49
    ·
     obtain⟨u1,u2⟩:=u8_is (n:=49) (k:=49) (by omega) rfl h49;have HB:=Lib.hid (show badB d=0 by unfold badB;rw[if_pos (.inr h49)]);have hv:(d==49)=true:=by rw[beq_iff_eq];exact h49
     rw[hv]at S0 S1 SR SG;clear HC0 HC1 HRr HGr h49;go_wp2;go_roundw;case rel=>exact⟨4,_,⟨by omega,rfl⟩,SR,SG,by show _=_;rw[←HEr.out];show fe _ (badB d)=_;rw[HB.out,fe_zero];rfl,S0,S1⟩
     case measure=>simp[intOf]
    ·
     obtain⟨u1,u2⟩:=u8_not (n:=49) (k:=49) rfl h49;have hv:(d==49)=false:=by rw[beq_eq_false_iff_ne];exact h49
     rw[hv]at S0 S1 SR SG;by_cases h48:d=48
     ·
      obtain⟨u3,u4⟩:=u8_is (n:=48) (k:=48) (by omega) rfl h48;have HB:=Lib.hid (show badB d=0 by unfold badB;rw[if_pos (.inl h48)]);clear HC0 HC1 HRr HGr h49 h48;go_wp2;go_roundw;case rel=>exact⟨4,_,⟨by omega,rfl⟩,SR,SG,by show _=_;rw[←HEr.out];show fe _ (badB d)=_;rw[HB.out,fe_zero];rfl,S0,S1⟩
      case measure=>simp[intOf]
     ·
      obtain⟨u3,u4⟩:=u8_not (n:=48) (k:=48) rfl h48;have HB:=Lib.hid (show badB d=3 by unfold badB;rw[if_neg (by rintro(q|q)<;>contradiction)]);clear HC0 HC1 HRr HGr h49 h48;go_wp2_with (go_at_call 186;refine(ffail_c g rb m e' 3 (fe e' 3) rfl X r _ SR.out).mono ?_)
      rintro y2 w2 ⟨rfl,r2,g2⟩;have R2:=Lib.hid r2;have G2:=Lib.hid (gr_next SG.out g2);have D0:=Lib.hid ((gr_blk g2 (lt_of_block S0.out) (by omega)).trans S0.out);have D1:=Lib.hid ((gr_blk g2 (lt_of_block S1.out) (by omega)).trans S1.out);clear r2 g2 S0 S1 SR SG;go_wp2;go_roundw;case rel=>exact⟨4,_,⟨by omega,rfl⟩,R2,G2,by show _=_;rw[←HEr.out];show fe _ (badB d)=_;rw[HB.out];rfl,D0,D1⟩
      case measure=>simp[intOf]
   ·
    have q0:=blk_cell HC1.out 4 _ rfl;have fr:=Lib.frozen_of_heap HC1.out 4;have S1:Hid ((wr.setCell ⟨w.heap.size+1,4,none⟩ (.bool (e1==49))).heap[w.heap.size+1]? =some (.cells (wkC a b c d e1 f h 5) 59 (0,0))):=blk_set HC1.out 4 _;have S0:Hid ((wr.setCell ⟨w.heap.size+1,4,none⟩ (.bool (e1==49))).heap[w.heap.size]? =some (.cells #[.bool false, .bool false, .bool false, .bool false, .bool false, .bool false, .bool false] 59 (0,0))):=(Below.heap_setCell _ _ _ w.heap.size (by simp)).trans HC0.out;have SR:=Lib.hid (HRr.out.far (p:=⟨w.heap.size+1,4,none⟩) (.bool (e1==49)) (by show w.heap.size+1≠g;omega) (by show w.heap.size+1≠rb;have:=HR.out.lt;omega) (by show w.heap.size+1≠_;have:=HR.out.env.lt.1;omega) (by show w.heap.size+1≠_;have:=HR.out.env.lt.2;omega));have SG:Hid (Gr g w (wr.setCell ⟨w.heap.size+1,4,none⟩ (.bool (e1==49)))):=gr_setNew HGr.out (by omega) 4 _;by_cases h49:e1=49
    ·
     obtain⟨u1,u2⟩:=u8_is (n:=49) (k:=49) (by omega) rfl h49;have HB:=Lib.hid (show badB e1=0 by unfold badB;rw[if_pos (.inr h49)]);have hv:(e1==49)=true:=by rw[beq_iff_eq];exact h49
     rw[hv]at S0 S1 SR SG;clear HC0 HC1 HRr HGr h49;go_wp2;go_roundw;case rel=>exact⟨5,_,⟨by omega,rfl⟩,SR,SG,by show _=_;rw[←HEr.out];show fe _ (badB e1)=_;rw[HB.out,fe_zero];rfl,S0,S1⟩
     case measure=>simp[intOf]
    ·
     obtain⟨u1,u2⟩:=u8_not (n:=49) (k:=49) rfl h49;have hv:(e1==49)=false:=by rw[beq_eq_false_iff_ne];exact h49
     rw[hv]at S0 S1 SR SG;by_cases h48:e1=48
     ·
      obtain⟨u3,u4⟩:=u8_is (n:=48) (k:=48) (by omega) rfl h48;have HB:=Lib.hid (show badB e1=0 by unfold badB;rw[if_pos (.inl h48)]);clear HC0 HC1 HRr HGr h49 h48;go_wp2;go_roundw;case rel=>exact⟨5,_,⟨by omega,rfl⟩,SR,SG,by show _=_;rw[←HEr.out];show fe _ (badB e1)=_;rw[HB.out,fe_zero];rfl,S0,S1⟩
      case measure=>simp[intOf]
     ·
      obtain⟨u3,u4⟩:=u8_not (n:=48) (k:=48) rfl h48;have HB:=Lib.hid (show badB e1=3 by unfold badB;rw[if_neg (by rintro(q|q)<;>contradiction)]);clear HC0 HC1 HRr HGr h49 h48;go_wp2_with (go_at_call 186;refine(ffail_c g rb m e' 3 (fe e' 3) rfl X r _ SR.out).mono ?_)
      rintro y2 w2 ⟨rfl,r2,g2⟩;have R2:=Lib.hid r2;have G2:=Lib.hid (gr_next SG.out g2);have D0:=Lib.hid ((gr_blk g2 (lt_of_block S0.out) (by omega)).trans S0.out);have D1:=Lib.hid ((gr_blk g2 (lt_of_block S1.out) (by omega)).trans S1.out);clear r2 g2 S0 S1 SR SG;go_wp2;go_roundw;case rel=>exact⟨5,_,⟨by omega,rfl⟩,R2,G2,by show _=_;rw[←HEr.out];show fe _ (badB e1)=_;rw[HB.out];rfl,D0,D1⟩
      case measure=>simp[intOf]
   ·
    have q0:=blk_cell HC1.out 5 _ rfl;have fr:=Lib.frozen_of_heap HC1.out 5;have S1:Hid ((wr.setCell ⟨w.heap.size+1,5,none⟩ (.bool (f==49))).heap[w.heap.size+1]? =some (.cells (wkC a b c d e1 f h 6) 59 (0,0))):=blk_set HC1.out 5 _;have S0:Hid ((wr.setCell ⟨w.heap.size+1,5,none⟩ (.bool (f==49))).heap[w.heap.size]? =some (.cells #[.bool false, .bool false, .bool false, .bool false, .bool false, .bool false, .bool false] 59 (0,0))):=(Below.heap_setCell _ _ _ w.heap.size (by simp)).trans HC0.out;have SR:=Lib.hid (HRr.out.far (p:=⟨w.heap.size+1,5,none⟩) (.bool (f==49)) (by show w.heap.size+1≠g;omega) (by show w.heap.size+1≠rb;have:=HR.out.lt;omega) (by show w.heap.size+1≠_;have:=HR.out.env.lt.1;omega) (by show w.heap.size+1≠_;have:=HR.out.env.lt.2;omega));have SG:Hid (Gr g w (wr.setCell ⟨w.heap.size+1,5,none⟩ (.bool (f==49)))):=gr_setNew HGr.out (by omega) 5 _;by_cases h49:f=49
    ·
     obtain⟨u1,u2⟩:=u8_is (n:=49) (k:=49) (by omega) rfl h49;have HB:=Lib.hid (show badB f=0 by unfold badB;rw[if_pos (.inr h49)]);have hv:(f==49)=true:=by rw[beq_iff_eq];exact h49
     rw[hv]at S0 S1 SR SG;clear HC0 HC1 HRr HGr h49;go_wp2;go_roundw;case rel=>exact⟨6,_,⟨by omega,rfl⟩,SR,SG,by show _=_;rw[←HEr.out];show fe _ (badB f)=_;rw[HB.out,fe_zero];rfl,S0,S1⟩
     case measure=>simp[intOf]
    ·
     obtain⟨u1,u2⟩:=u8_not (n:=49) (k:=49) rfl h49;have hv:(f==49)=false:=by rw[beq_eq_false_iff_ne];exact h49
     rw[hv]at S0 S1 SR SG;by_cases h48:f=48
     ·
      obtain⟨u3,u4⟩:=u8_is (n:=48) (k:=48) (by omega) rfl h48;have HB:=Lib.hid (show badB f=0 by unfold badB;rw[if_pos (.inl h48)]);clear HC0 HC1 HRr HGr h49 h48;go_wp2;go_roundw;case rel=>exact⟨6,_,⟨by omega,rfl⟩,SR,SG,by show _=_;rw[←HEr.out];show fe _ (badB f)=_;rw[HB.out,fe_zero];rfl,S0,S1⟩
      case measure=>simp[intOf]
     ·
      obtain⟨u3,u4⟩:=u8_not (n:=48) (k:=48) rfl h48;have HB:=Lib.hid (show badB f=3 by unfold badB;rw[if_neg (by rintro(q|q)<;>contradiction)]);clear HC0 HC1 HRr HGr h49 h48;go_wp2_with (go_at_call 186;refine(ffail_c g rb m e' 3 (fe e' 3) rfl X r _ SR.out).mono ?_)
      rintro y2 w2 ⟨rfl,r2,g2⟩;have R2:=Lib.hid r2;have G2:=Lib.hid (gr_next SG.out g2);have D0:=Lib.hid ((gr_blk g2 (lt_of_block S0.out) (by omega)).trans S0.out);have D1:=Lib.hid ((gr_blk g2 (lt_of_block S1.out) (by omega)).trans S1.out);clear r2 g2 S0 S1 SR SG;go_wp2;go_roundw;case rel=>exact⟨6,_,⟨by omega,rfl⟩,R2,G2,by show _=_;rw[←HEr.out];show fe _ (badB f)=_;rw[HB.out];rfl,D0,D1⟩
      case measure=>simp[intOf]
   ·
    have q0:=blk_cell HC1.out 6 _ rfl;have fr:=Lib.frozen_of_heap HC1.out 6;have S1:Hid ((wr.setCell ⟨w.heap.size+1,6,none⟩ (.bool (h==49))).heap[w.heap.size+1]? =some (.cells (wkC a b c d e1 f h 7) 59 (0,0))):=blk_set HC1.out 6 _;have S0:Hid ((wr.setCell ⟨w.heap.size+1,6,none⟩ (.bool (h==49))).heap[w.heap.size]? =some (.cells #[.bool false, .bool false, .bool false, .bool false, .bool false, .bool false, .bool false] 59 (0,0))):=(Below.heap_setCell _ _ _ w.heap.size (by simp)).trans HC0.out;have SR:=Lib.hid (HRr.out.far (p:=⟨w.heap.size+1,6,none⟩) (.bool (h==49)) (by show w.heap.size+1≠g;omega) (by show w.heap.size+1≠rb;have:=HR.out.lt;omega) (by show w.heap.size+1≠_;have:=HR.out.env.lt.1;omega) (by show w.heap.size+1≠_;have:=HR.out.env.lt.2;omega));have SG:Hid (Gr g w (wr.setCell ⟨w.heap.size+1,6,none⟩ (.bool (h==49)))):=gr_setNew HGr.out (by omega) 6 _;by_cases h49:h=49
    ·
     obtain⟨u1,u2⟩:=u8_is (n:=49) (k:=49) (by omega) rfl h49;have HB:=Lib.hid (show badB h=0 by unfold badB;rw[if_pos (.inr h49)]);have hv:(h==49)=true:=by rw[beq_iff_eq];exact h49
     rw[hv]at S0 S1 SR SG;clear HC0 HC1 HRr HGr h49;go_wp2;go_roundw;case rel=>exact⟨7,_,⟨by omega,rfl⟩,SR,SG,by show _=_;rw[←HEr.out];show fe _ (badB h)=_;rw[HB.out,fe_zero];rfl,S0,S1⟩
     case measure=>simp[intOf]
    ·
     obtain⟨u1,u2⟩:=u8_not (n:=49) (k:=49) rfl h49;have hv:(h==49)=false:=by rw[beq_eq_false_iff_ne];exact h49
     rw[hv]at S0 S1 SR SG;by_cases h48:h=48
     ·
      obtain⟨u3,u4⟩:=u8_is (n:=48) (k:=48) (by omega) rfl h48;have HB:=Lib.hid (show badB h=0 by unfold badB;rw[if_pos (.inl h48)]);clear HC0 HC1 HRr HGr h49 h48;go_wp2;go_roundw;case rel=>exact⟨7,_,⟨by omega,rfl⟩,SR,SG,by show _=_;rw[←HEr.out];show fe _ (badB h)=_;rw[HB.out,fe_zero];rfl,S0,S1⟩
      case measure=>simp[intOf]
     ·
      obtain⟨u3,u4⟩:=u8_not (n:=48) (k:=48) rfl h48;have HB:=Lib.hid (show badB h=3 by unfold badB;rw[if_neg (by rintro(q|q)<;>contradiction)]);clear HC0 HC1 HRr HGr h49 h48;go_wp2_with (go_at_call 186;refine(ffail_c g rb m e' 3 (fe e' 3) rfl X r _ SR.out).mono ?_)
      rintro y2 w2 ⟨rfl,r2,g2⟩;have R2:=Lib.hid r2;have G2:=Lib.hid (gr_next SG.out g2);have D0:=Lib.hid ((gr_blk g2 (lt_of_block S0.out) (by omega)).trans S0.out);have D1:=Lib.hid ((gr_blk g2 (lt_of_block S1.out) (by omega)).trans S1.out);clear r2 g2 S0 S1 SR SG;go_wp2;go_roundw;case rel=>exact⟨7,_,⟨by omega,rfl⟩,R2,G2,by show _=_;rw[←HEr.out];show fe _ (badB h)=_;rw[HB.out];rfl,D0,D1⟩
      case measure=>simp[intOf]
  ·
   obtain rfl:k=7:=by omega
   have HF:=Lib.hid (show e'=E by rw[←HEr.out,←HE.out];rfl);have q0:wr.cell? ⟨w.heap.size+1,0,none⟩=some (.bool (a==49)):=blk_cell HC1.out 0 _ rfl;have p0:wr.cell? ⟨w.heap.size,0,none⟩=some (.bool false):=blk_cell HC0.out 0 _ rfl;have fr0:=Lib.frozen_of_heap HC0.out 0;have q1:wr.cell? ⟨w.heap.size+1,1,none⟩=some (.bool (b==49)):=blk_cell HC1.out 1 _ rfl;have p1:wr.cell? ⟨w.heap.size,1,none⟩=some (.bool false):=blk_cell HC0.out 1 _ rfl;have fr1:=Lib.frozen_of_heap HC0.out 1;have q2:wr.cell? ⟨w.heap.size+1,2,none⟩=some (.bool (c==49)):=blk_cell HC1.out 2 _ rfl;have p2:wr.cell? ⟨w.heap.size,2,none⟩=some (.bool false):=blk_cell HC0.out 2 _ rfl;have fr2:=Lib.frozen_of_heap HC0.out 2;have q3:wr.cell? ⟨w.heap.size+1,3,none⟩=some (.bool (d==49)):=blk_cell HC1.out 3 _ rfl;have p3:wr.cell? ⟨w.heap.size,3,none⟩=some (.bool false):=blk_cell HC0.out 3 _ rfl;have fr3:=Lib.frozen_of_heap HC0.out 3;have q4:wr.cell? ⟨w.heap.size+1,4,none⟩=some (.bool (e1==49)):=blk_cell HC1.out 4 _ rfl;have p4:wr.cell? ⟨w.heap.size,4,none⟩=some (.bool false):=blk_cell HC0.out 4 _ rfl;have fr4:=Lib.frozen_of_heap HC0.out 4;have q5:wr.cell? ⟨w.heap.size+1,5,none⟩=some (.bool (f==49)):=blk_cell HC1.out 5 _ rfl;have p5:wr.cell? ⟨w.heap.size,5,none⟩=some (.bool false):=blk_cell HC0.out 5 _ rfl;have fr5:=Lib.frozen_of_heap HC0.out 5;have q6:wr.cell? ⟨w.heap.size+1,6,none⟩=some (.bool (h==49)):=blk_cell HC1.out 6 _ rfl;have p6:wr.cell? ⟨w.heap.size,6,none⟩=some (.bool false):=blk_cell HC0.out 6 _ rfl;have fr6:=Lib.frozen_of_heap HC0.out 6;have d1:w.heap.size≠g:=by omega
   have d2:w.heap.size≠rb:=by have:=HR.out.lt;omega
   have d3:w.heap.size≠1:=by have:=HR.out.env.lt.1;omega
   have d4:w.heap.size≠0:=by have:=HR.out.env.lt.2;omega
   go_wp2;rw[←HF.out];refine bodyPost_ret (results_cell_row rfl _ _ w.heap.size 59 #[.bool (a==49), .bool (b==49), .bool (c==49), .bool (d==49), .bool (e1==49), .bool (f==49), .bool (h==49)] (0,0) _ rfl (blk_set (blk_set (blk_set (blk_set (blk_set (blk_set (blk_set HC0.out 0 _) 1 _) 2 _) 3 _) 4 _) 5 _) 6 _) Tryz.underlying59 rfl (by kernel_rfl)) rfl ?_;exact⟨rfl,(((((((HRr.out.far (p:=⟨w.heap.size,0,none⟩) _ d1 d2 d3 d4).far (p:=⟨w.heap.size,1,none⟩) _ d1 d2 d3 d4).far (p:=⟨w.heap.size,2,none⟩) _ d1 d2 d3 d4).far (p:=⟨w.heap.size,3,none⟩) _ d1 d2 d3 d4).far (p:=⟨w.heap.size,4,none⟩) _ d1 d2 d3 d4).far (p:=⟨w.heap.size,5,none⟩) _ d1 d2 d3 d4).far (p:=⟨w.heap.size,6,none⟩) _ d1 d2 d3 d4),(gr_setNew (gr_setNew (gr_setNew (gr_setNew (gr_setNew (gr_setNew (gr_setNew HGr.out (Nat.le_refl _) 0 _) (Nat.le_refl _) 1 _) (Nat.le_refl _) 2 _) (Nat.le_refl _) 3 _) (Nat.le_refl _) 4 _) (Nat.le_refl _) 5 _) (Nat.le_refl _) 6 _)⟩
theorem fweekx_c (g rb:Nat) (m e E:Int) (X:PX) (x:List UInt8) (hx:x.length≠7) (r:List (List UInt8)) (H:Hid (fe e 3=E)) (w:World) (hr:RAt g rb m e X (x::r) w):
  Calls Tryz.prog 112 #[.pointer (some ⟨g,0,none⟩)] w fun q w'=>q= .returned (.agg #[.bool false, .bool false, .bool false, .bool false, .bool false, .bool false, .bool false])∧RAt g rb m E X r w'∧Gr g w w':=by
 have HR:=Lib.hid hr;have hg:=hr.glt;clear hr;have hxi:((x.length:Int) != 7)=true:=by rw[bne_iff_ne];omega
 obtain⟨wz,hwz⟩: ∃ wz,(w.alloc (.cells #[.bool false, .bool false, .bool false, .bool false, .bool false, .bool false, .bool false] 59)).alloc (.cells #[.bool false, .bool false, .bool false, .bool false, .bool false, .bool false, .bool false] 59)=wz:=⟨_,rfl⟩;have bz:Bl w wz:=by rw[←hwz];exact bl_alloc (bl_alloc (bl_refl _) _) _
 have Z0:Hid (wz.heap[w.heap.size]? =some (.cells #[.bool false, .bool false, .bool false, .bool false, .bool false, .bool false, .bool false] 59 (0,0))):=by rw[←hwz];exact blk_bl (heap_alloc_new w _) (bl_alloc (bl_refl _) _)
 have Z1:Hid (wz.heap[w.heap.size+1]? =some (.cells #[.bool false, .bool false, .bool false, .bool false, .bool false, .bool false, .bool false] 59 (0,0))):=by rw[←hwz];have:=heap_alloc_new (w.alloc (.cells #[.bool false, .bool false, .bool false, .bool false, .bool false, .bool false, .bool false] 59)) (.cells #[.bool false, .bool false, .bool false, .bool false, .bool false, .bool false, .bool false] 59);simp only[World.size_alloc]at this;exact this
 have RZ:=Lib.hid (HR.out.bl bz);have GZ:Hid (Gr g w wz):=gr_bl bz;have sz:w.heap.size+2≤wz.heap.size:=by rw[←hwz];simp
 go_enter Tryz.func112,Tryz.ntmps112
 go_wp2_with (go_at_call 107;refine(fnext_c g rb m e X x r wz RZ.out).mono ?_)
 rintro y0 w0 ⟨rfl,r0,g0⟩;have R0:=Lib.hid r0;have G0:=Lib.hid (gr_next GZ.out g0);have C0:=Lib.hid ((gr_blk g0 (by omega) (by omega)).trans Z0.out);have C1:=Lib.hid ((gr_blk g0 (by omega) (by omega)).trans Z1.out);have s0:w.heap.size+2≤w0.heap.size:=Nat.le_trans sz g0.size;clear r0 g0 Z0 Z1 RZ GZ hwz bz;go_wp2_with (go_at_call 186;refine(ffail_c g rb m e 3 E H X r w0 R0.out).mono ?_)
 rintro y2 w2 ⟨rfl,r2,g2⟩;have R2:=Lib.hid r2;have G2:=Lib.hid (gr_next G0.out g2);have D0:=Lib.hid ((gr_blk g2 (by omega) (by omega)).trans C0.out);have D1:=Lib.hid ((gr_blk g2 (by omega) (by omega)).trans C1.out);clear r2 g2 C0 C1 R0 G0;have q0:w2.cell? ⟨w.heap.size+1,0,none⟩=some (.bool false):=blk_cell D1.out 0 _ rfl;have p0:w2.cell? ⟨w.heap.size,0,none⟩=some (.bool false):=blk_cell D0.out 0 _ rfl;have fr0:=Lib.frozen_of_heap D0.out 0;have q1:w2.cell? ⟨w.heap.size+1,1,none⟩=some (.bool false):=blk_cell D1.out 1 _ rfl;have p1:w2.cell? ⟨w.heap.size,1,none⟩=some (.bool false):=blk_cell D0.out 1 _ rfl;have fr1:=Lib.frozen_of_heap D0.out 1;have q2:w2.cell? ⟨w.heap.size+1,2,none⟩=some (.bool false):=blk_cell D1.out 2 _ rfl;have p2:w2.cell? ⟨w.heap.size,2,none⟩=some (.bool false):=blk_cell D0.out 2 _ rfl;have fr2:=Lib.frozen_of_heap D0.out 2;have q3:w2.cell? ⟨w.heap.size+1,3,none⟩=some (.bool false):=blk_cell D1.out 3 _ rfl;have p3:w2.cell? ⟨w.heap.size,3,none⟩=some (.bool false):=blk_cell D0.out 3 _ rfl;have fr3:=Lib.frozen_of_heap D0.out 3;have q4:w2.cell? ⟨w.heap.size+1,4,none⟩=some (.bool false):=blk_cell D1.out 4 _ rfl;have p4:w2.cell? ⟨w.heap.size,4,none⟩=some (.bool false):=blk_cell D0.out 4 _ rfl;have fr4:=Lib.frozen_of_heap D0.out 4;have q5:w2.cell? ⟨w.heap.size+1,5,none⟩=some (.bool false):=blk_cell D1.out 5 _ rfl;have p5:w2.cell? ⟨w.heap.size,5,none⟩=some (.bool false):=blk_cell D0.out 5 _ rfl;have fr5:=Lib.frozen_of_heap D0.out 5;have q6:w2.cell? ⟨w.heap.size+1,6,none⟩=some (.bool false):=blk_cell D1.out 6 _ rfl;have p6:w2.cell? ⟨w.heap.size,6,none⟩=some (.bool false):=blk_cell D0.out 6 _ rfl;have fr6:=Lib.frozen_of_heap D0.out 6;have d1:w.heap.size≠g:=by omega
 have d2:w.heap.size≠rb:=by have:=HR.out.lt;omega
 have d3:w.heap.size≠1:=by have:=HR.out.env.lt.1;omega
 have d4:w.heap.size≠0:=by have:=HR.out.env.lt.2;omega
 go_wp2;refine bodyPost_ret (results_cell_row rfl _ _ w.heap.size 59 #[.bool false, .bool false, .bool false, .bool false, .bool false, .bool false, .bool false] (0,0) _ rfl (blk_set (blk_set (blk_set (blk_set (blk_set (blk_set (blk_set D0.out 0 _) 1 _) 2 _) 3 _) 4 _) 5 _) 6 _) Tryz.underlying59 rfl (by kernel_rfl)) rfl ?_;exact⟨rfl,(((((((R2.out.far (p:=⟨w.heap.size,0,none⟩) _ d1 d2 d3 d4).far (p:=⟨w.heap.size,1,none⟩) _ d1 d2 d3 d4).far (p:=⟨w.heap.size,2,none⟩) _ d1 d2 d3 d4).far (p:=⟨w.heap.size,3,none⟩) _ d1 d2 d3 d4).far (p:=⟨w.heap.size,4,none⟩) _ d1 d2 d3 d4).far (p:=⟨w.heap.size,5,none⟩) _ d1 d2 d3 d4).far (p:=⟨w.heap.size,6,none⟩) _ d1 d2 d3 d4),(gr_setNew (gr_setNew (gr_setNew (gr_setNew (gr_setNew (gr_setNew (gr_setNew G2.out (Nat.le_refl _) 0 _) (Nat.le_refl _) 1 _) (Nat.le_refl _) 2 _) (Nat.le_refl _) 3 _) (Nat.le_refl _) 4 _) (Nat.le_refl _) 5 _) (Nat.le_refl _) 6 _)⟩
theorem fweek_c (g rb:Nat) (m e e2 E:Int) (wk:WeekD) (X:PX) (x:List UInt8) (r:List (List UInt8)) (HX:Hid (weekR x=(wk,e2))) (H:Hid (fe e e2=E)) (w:World) (hr:RAt g rb m e X (x::r) w):
  Calls Tryz.prog 112 #[.pointer (some ⟨g,0,none⟩)] w fun q w'=>q= .returned (.agg #[.bool wk.d0, .bool wk.d1, .bool wk.d2, .bool wk.d3, .bool wk.d4, .bool wk.d5, .bool wk.d6])∧RAt g rb m E X r w'∧Gr g w w':=by
 by_cases h7:x.length=7
 ·
  obtain⟨a,b,c,d,e1,f,h,rfl⟩: ∃ a b c d e1 f h,x=[a,b,c,d,e1,f,h]:=by
   match x,h7 with
   |[a,b,c,d,e1,f,h],_=>exact⟨a,b,c,d,e1,f,h,rfl⟩
  have h1:=HX.out;unfold weekR at h1;simp only[Prod.mk.injEq]at h1;obtain⟨rfl,rfl⟩:=h1;exact fweek7_c g rb m e E X a b c d e1 f h r H w hr
 ·
  have h1:weekR x=(⟨false,false,false,false,false,false,false⟩,3):=by
   unfold weekR;split
   · exact absurd rfl h7
   · rfl
  rw[h1]at HX;obtain⟨rfl,rfl⟩:=Prod.mk.inj HX.out;exact fweekx_c g rb m e E X x h7 r H w hr
end Go.Proofs.YtakedkcjplfgeaaGreatDoor
namespace Go.Proofs.YtakedkcjplfgeaaGreatDoor
open Go.RowKit
open Frq Thr Tt Num Clk Dat Fld
theorem ext_take (s:ByteArray) (i j:Nat):(s.extract i j).data.toList=(s.data.toList.drop i).take (j-i):=ext_list s i j
theorem drop_split (l:List UInt8) {a k:Nat} (h1:a≤k) (h2:k<l.length):l.drop a=(l.drop a).take (k-a)++l[k]::l.drop (k+1):=by
 have e:=List.take_append_drop (k-a) (l.drop a);rw[List.drop_drop,show a+(k-a)=k by omega,List.drop_eq_getElem_cons h2]at e;exact e.symm
theorem take_all (l:List UInt8) {a k:Nat} (h2:k=l.length):(l.drop a).take (k-a)=l.drop a:=List.take_of_length_le (by rw[List.length_drop];omega)
theorem take_more (l:List UInt8) {a k:Nat} (h1:a≤k) (h2:k<l.length):(l.drop a).take (k+1-a)=(l.drop a).take (k-a)++[l[k]]:=by
 rw[show k+1-a=(k-a)+1 by omega,List.take_add_one,List.getElem?_drop,show a+(k-a)=k by omega,List.getElem?_eq_getElem h2];rfl
def ScanAt (l:List UInt8) (R:Option Nat) (acc a k:Nat):Prop:=
 acc<256∧((a≤k∧k≤l.length∧(43:UInt8)∉(l.drop a).take (k-a)∧modesF acc (splitL 43 (l.drop a))=R)∨(k=l.length+1∧a=l.length+1∧R=some acc))
theorem or_all: ∀ a:Fin 256,∀ m:Fin 8,bits .or .i64 ((a.val:Nat):Int) ((2:Int) ^ m.val)=((a.val|||1<<<m.val:Nat):Int):=by decide+kernel
theorem or_eq {a m:Nat} (ha:a<256) (hm:m<8):bits .or .i64 (a:Int) ((2:Int) ^ m)=((a|||1<<<m:Nat):Int):=or_all ⟨a,ha⟩ ⟨m,hm⟩
theorem wrap_all: ∀ m:Fin 8,IntKind.i64.wrap ((2:Int) ^ m.val)=(2:Int) ^ m.val:=by decide+kernel
theorem toList_data (s:ByteArray):s.toList=s.data.toList:=by rw[ByteArray.toList_eq]
theorem pmodes_c (s:ByteArray) (hs:s.size≤131072) (n e:Int) (H:Hid (modesR s.data.toList=(n,e))) (w:World) (nm:NamesAt w):
  Calls Tryz.prog 250 #[.string s] w fun q w'=>q= .returned (.tuple #[.int .i64 n, .int .i64 e])∧w'=w:=by
 by_cases h0:s.toList=[110,111,110,101]
 ·
  have hb0:(s.toList==[110,111,110,101])=true:=by rw[beq_iff_eq];exact h0
  have HF:=Lib.hid (show((0:Int),(0:Int))=(n,e) by rw[←H.out,show s.data.toList=wNone from(toList_data s).symm.trans h0];rfl);obtain⟨e1,e2⟩:=Prod.mk.inj HF.out;clear H HF h0;subst e1 e2;go_enter Tryz.func250,Tryz.ntmps250
  go_wp2;go_step3
  go_wp2;rw[Exit.noGoto_ret];go_ret2;exact⟨rfl,rfl⟩
 ·
  have hb0:(s.toList==[110,111,110,101])=false:=by rw[beq_eq_false_iff_ne];exact h0
  have hl:=len_bytes s;obtain⟨R,hR⟩: ∃ R,modesF 0 (splitL 43 s.data.toList)=R:=⟨_,rfl⟩;have HR:Hid (modesO R=(n,e)):=by
   show _=_
   rw[←hR,←modesR_other (fun k=>h0 ((toList_data s).trans k))];exact H.out
  have HS:Hid (ScanAt s.data.toList R 0 0 0):=⟨by omega, .inl ⟨Nat.le_refl _,Nat.zero_le _,by simp,hR⟩⟩;have NM:=Lib.hid nm;clear H hR h0 nm;go_enter Tryz.func250,Tryz.ntmps250
  go_wp2_with fail;go_step3
  go_wp2_with fail;go_step3
  go_wp2_with fail;go_loop [4,5,6] (fun sm sa si=> ∃ acc a k:Nat,sm= .int .i64 acc∧sa= .int .i64 a∧si= .int .i64 k∧k≤s.size+1∧Hid (ScanAt s.data.toList R acc a k)) (fun _ _ i=>s.size+2-(intOf i).toNat)
  case atStart=>exact⟨0,0,0,rfl,rfl,rfl,by omega,HS⟩
  case round=>
   obtain⟨acc,a,k,rfl,rfl,rfl,hk,HK⟩:=hrel;rcases HK.out with⟨h256,⟨hak,hks,hno,hmf⟩|⟨hk1,ha1,hRR⟩⟩
   ·
    by_cases hlt:k<s.size
    ·
     have hb:s.data.toList[k]'(by omega)=s[k]'hlt:=bytes_get s k hlt;have HSP:=Lib.hid (drop_split s.data.toList hak (by omega:k<s.data.toList.length));obtain⟨v,hv⟩: ∃ v,letB (s[k]'hlt)=v:=⟨_,rfl⟩;have HV:=Lib.hid hv;have HNO:=Lib.hid hno;have HMF:=Lib.hid hmf;have HB:=Lib.hid hb;have haS:a≤s.size:=by omega
     clear hno hmf hv hb hks;cases v with
     |false=>
      have HRN:=Lib.hid (show R=none by rw[←HMF.out,HSP.out];exact modesF_bad HNO.out (by rw[HB.out];exact HV.out));have HE:Hid (((0:Int),(3:Int))=(n,e)):=by show _=_;rw[←HR.out,HRN.out];rfl
      obtain⟨e1,e2⟩:=Prod.mk.inj HE.out;clear HE HR;subst e1 e2;go_wp2_with (go_at_call 280;refine(letter_c _ false HV _).mono ?_;rintro y w2 ⟨rfl,rfl⟩)
      rw[Exit.noGoto_ret];go_ret2;exact⟨rfl,rfl⟩
     |true=>
      by_cases h43:((s[k]'hlt).toNat:Int)=43
      ·
       have hb43:s.data.toList[k]'(by omega)=43:=by
        rw[HB.out];have h:(s[k]'hlt).toNat=43:=by omega
        exact UInt8.toNat.inj h
       have HSPL:=Lib.hid (show splitL 43 (s.data.toList.drop a)=(s.extract a k).data.toList::splitL 43 (s.data.toList.drop (k+1)) by rw[HSP.out,hb43,splitL_app _ _ HNO.out,ext_take]);have HNEXT:Hid (∀ mm,idxOf (s.extract a k).data.toList modeWords=some mm→acc>>>mm=0→(k+1≤k+1∧k+1≤s.data.toList.length∧(43:UInt8)∉(s.data.toList.drop (k+1)).take (k+1-(k+1))∧modesF (acc|||1<<<mm) (splitL 43 (s.data.toList.drop (k+1)))=R)∨(k+1=s.data.toList.length+1∧k+1=s.data.toList.length+1∧R=some (acc|||1<<<mm))):=fun mm h1 h2=> .inl ⟨Nat.le_refl _,by omega,by simp,by rw[←HMF.out,HSPL.out,modesF_yes h1 h2]⟩
       clear HSP hb43 HB;have hl43: ∀ w,Calls Tryz.prog 280 #[.int .u8 43] w fun q w'=>q= .returned (.bool true)∧w'=w:=fun w=>letter_c 43 true rfl w
       clear HV;obtain⟨q,hq⟩: ∃ q,idxOf (s.extract a k).data.toList modeWords=q:=⟨_,rfl⟩;have HQ:=Lib.hid hq;have NM2:=NM;cases q with
       |none=>
        have hpm:Calls Tryz.prog 187 #[.string (s.extract a k)] w fun q w'=>q= .returned (.tuple #[.int .i64 0, .bool false])∧w'=w:=pmode_c (s.extract a k).data.toList 0 false (by show _=_;rw[HQ.out];rfl) w NM.out
        have HRN:=Lib.hid (show R=none by rw[←HMF.out,HSPL.out];exact modesF_no HQ.out);have HE:Hid (((0:Int),(3:Int))=(n,e)):=by show _=_;rw[←HR.out,HRN.out];rfl
        obtain⟨e1,e2⟩:=Prod.mk.inj HE.out;clear HE HR hq;subst e1 e2;go_wp2_with (first
         |(go_at_call 280;refine(hl43 _).mono ?_;rintro y w2 ⟨rfl,rfl⟩)
         |(go_at_call 187;refine hpm.mono ?_;rintro y5 w5 ⟨rfl,rfl⟩))
        rw[Exit.noGoto_ret];go_ret2;exact⟨rfl,rfl⟩
       |some mm=>
        have hmm:=modeWords_lt hq;have hpm:Calls Tryz.prog 187 #[.string (s.extract a k)] w fun q w'=>q= .returned (.tuple #[.int .i64 mm, .bool true])∧w'=w:=pmode_c (s.extract a k).data.toList mm true (by show _=_;rw[HQ.out];rfl) w NM.out
        clear hq;by_cases hsh:acc>>>mm=0
        ·
         have HNX:=Lib.hid (show ScanAt s.data.toList R (acc|||1<<<mm) (k+1) (k+1) from⟨or_bit h256 hmm,HNEXT.out mm HQ.out hsh⟩);have HD:=Lib.hid hsh;have hsh2:(((acc:Int) / 2 ^ mm) != 0)=false:=by
          have e:((acc / 2 ^ mm:Nat):Int)=0:=by rw[←Nat.shiftRight_eq_div_pow,hsh];rfl
          rw[show(acc:Int) / 2 ^ mm=((acc / 2 ^ mm:Nat):Int) by push_cast;rfl,e];rfl
         have hwr:=wrap_all ⟨mm,hmm⟩;have hor:=or_eq h256 hmm;go_wp2_with (first
           |(go_at_call 280;refine(hl43 _).mono ?_;rintro y w2 ⟨rfl,rfl⟩)
           |(go_at_call 187;refine hpm.mono ?_;rintro y5 w5 ⟨rfl,rfl⟩))
         exact⟨⟨_,_,_,rfl,by go_num,by go_num,by omega,HNX⟩,by first|(simp[intOf];done)|(simp[intOf];omega)⟩
        ·
         have HRN:=Lib.hid (show R=none by rw[←HMF.out,HSPL.out];exact modesF_old HQ.out hsh);have HE:Hid (((0:Int),(3:Int))=(n,e)):=by show _=_;rw[←HR.out,HRN.out];rfl
         obtain⟨e1,e2⟩:=Prod.mk.inj HE.out;clear HE HR HNEXT;subst e1 e2;have hsh2:(((acc:Int) / 2 ^ mm) != 0)=true:=by
          rw[Nat.shiftRight_eq_div_pow]at hsh;rw[bne_iff_ne,show(acc:Int) / 2 ^ mm=((acc / 2 ^ mm:Nat):Int) by push_cast;rfl];omega
         go_wp2_with (first
           |(go_at_call 280;refine(hl43 _).mono ?_;rintro y w2 ⟨rfl,rfl⟩)
           |(go_at_call 187;refine hpm.mono ?_;rintro y5 w5 ⟨rfl,rfl⟩))
         rw[Exit.noGoto_ret];go_ret2;exact⟨rfl,rfl⟩
      ·
       have n43:(((s[k]'hlt).toNat:Int) != 43)=true:=by rw[bne_iff_ne];exact h43
       have hb43: ¬ s.data.toList[k]'(by omega)=43:=fun e=>h43 (by rw[←HB.out,e];rfl)
       have HNX:=Lib.hid (show ScanAt s.data.toList R acc a (k+1) from⟨h256, .inl ⟨by omega,by omega,by
        rw[take_more s.data.toList hak (by omega)];intro hm;rcases List.mem_append.1 hm with hm|hm
        · exact HNO.out hm
        · exact hb43 (List.mem_singleton.1 hm).symm,HMF.out⟩⟩)
       clear hb43 HSP HNO HMF HB;go_wp2_with (go_at_call 280;refine(letter_c _ true HV _).mono ?_;rintro y w2 ⟨rfl,rfl⟩)
       exact⟨⟨_,_,_,rfl,rfl,by go_num,by omega,HNX⟩,by first|(simp[intOf];done)|(simp[intOf];omega)⟩
    ·
     obtain rfl:k=s.size:=by omega
     have HNO:=Lib.hid hno;have HMF:=Lib.hid hmf;have HSPL:=Lib.hid (show splitL 43 (s.data.toList.drop a)=[(s.extract a s.size).data.toList] by
      have e:=take_all s.data.toList (a:=a) hl.symm;rw[ext_take,e];exact splitL_one _ (by rw[←e];exact HNO.out))
     have HNEXT:Hid (∀ mm,idxOf (s.extract a s.size).data.toList modeWords=some mm→acc>>>mm=0→(s.size+1≤s.size+1∧s.size+1≤s.data.toList.length∧(43:UInt8)∉(s.data.toList.drop (s.size+1)).take (s.size+1-(s.size+1))∧modesF (acc|||1<<<mm) (splitL 43 (s.data.toList.drop (s.size+1)))=R)∨(s.size+1=s.data.toList.length+1∧s.size+1=s.data.toList.length+1∧R=some (acc|||1<<<mm))):=fun mm h1 h2=> .inr ⟨by omega,by omega,by rw[←HMF.out,HSPL.out,modesF_yes h1 h2];rfl⟩
     clear hno hmf;obtain⟨q,hq⟩: ∃ q,idxOf (s.extract a s.size).data.toList modeWords=q:=⟨_,rfl⟩;have HQ:=Lib.hid hq;have NM2:=NM;cases q with
     |none=>
      have hpm:Calls Tryz.prog 187 #[.string (s.extract a s.size)] w fun q w'=>q= .returned (.tuple #[.int .i64 0, .bool false])∧w'=w:=pmode_c (s.extract a s.size).data.toList 0 false (by show _=_;rw[HQ.out];rfl) w NM.out
      have HRN:=Lib.hid (show R=none by rw[←HMF.out,HSPL.out];exact modesF_no HQ.out);have HE:Hid (((0:Int),(3:Int))=(n,e)):=by show _=_;rw[←HR.out,HRN.out];rfl
      obtain⟨e1,e2⟩:=Prod.mk.inj HE.out;clear HE HR hq;subst e1 e2;go_wp2_with (go_at_call 187;refine hpm.mono ?_;rintro y5 w5 ⟨rfl,rfl⟩)
      rw[Exit.noGoto_ret];go_ret2;exact⟨rfl,rfl⟩
     |some mm=>
      have hmm:=modeWords_lt hq;have hpm:Calls Tryz.prog 187 #[.string (s.extract a s.size)] w fun q w'=>q= .returned (.tuple #[.int .i64 mm, .bool true])∧w'=w:=pmode_c (s.extract a s.size).data.toList mm true (by show _=_;rw[HQ.out];rfl) w NM.out
      clear hq;by_cases hsh:acc>>>mm=0
      ·
       have HNX:=Lib.hid (show ScanAt s.data.toList R (acc|||1<<<mm) (s.size+1) (s.size+1) from⟨or_bit h256 hmm,HNEXT.out mm HQ.out hsh⟩);have HD:=Lib.hid hsh;have hsh2:(((acc:Int) / 2 ^ mm) != 0)=false:=by
        have e:((acc / 2 ^ mm:Nat):Int)=0:=by rw[←Nat.shiftRight_eq_div_pow,hsh];rfl
        rw[show(acc:Int) / 2 ^ mm=((acc / 2 ^ mm:Nat):Int) by push_cast;rfl,e];rfl
       have hwr:=wrap_all ⟨mm,hmm⟩;have hor:=or_eq h256 hmm;go_wp2_with (go_at_call 187;refine hpm.mono ?_;rintro y5 w5 ⟨rfl,rfl⟩)
       exact⟨⟨_,_,_,rfl,by go_num,by go_num,by omega,HNX⟩,by first|(simp[intOf];done)|(simp[intOf];omega)⟩
      ·
       have HRN:=Lib.hid (show R=none by rw[←HMF.out,HSPL.out];exact modesF_old HQ.out hsh);have HE:Hid (((0:Int),(3:Int))=(n,e)):=by show _=_;rw[←HR.out,HRN.out];rfl
       obtain⟨e1,e2⟩:=Prod.mk.inj HE.out;clear HE HR HNEXT;subst e1 e2;have hsh2:(((acc:Int) / 2 ^ mm) != 0)=true:=by
        rw[Nat.shiftRight_eq_div_pow]at hsh;rw[bne_iff_ne,show(acc:Int) / 2 ^ mm=((acc / 2 ^ mm:Nat):Int) by push_cast;rfl];omega
       go_wp2_with (go_at_call 187;refine hpm.mono ?_;rintro y5 w5 ⟨rfl,rfl⟩)
       rw[Exit.noGoto_ret];go_ret2;exact⟨rfl,rfl⟩
   ·
    subst hk1 ha1;have HE:Hid (((acc:Int),(0:Int))=(n,e)):=by show _=_;rw[←HR.out,hRR];rfl
    obtain⟨e1,e2⟩:=Prod.mk.inj HE.out;clear HE HR;subst e1 e2;go_wp2;go_ret2;exact⟨rfl,rfl⟩
theorem fmodes_c (g rb:Nat) (m e e2 E n:Int) (X:PX) (x:List UInt8) (r:List (List UInt8)) (HX:Hid (modesR x=(n,e2))) (hx:x.length≤131072) (H:Hid (fe e e2=E)) (w:World) (h:RAt g rb m e X (x::r) w):
  Calls Tryz.prog 192 #[.pointer (some ⟨g,0,none⟩)] w fun q w'=>q= .returned (.int .i64 n)∧RAt g rb m E X r w'∧Gr g w w':=by
 have HR:=Lib.hid h;clear h;have hp:=fun w hw=>pmodes_c ⟨x.toArray⟩ (size_le x hx) n e2 HX w hw
 go_enter Tryz.func192,Tryz.ntmps192
 go_wp2_with (first
  |(go_at_call 107;refine(fnext_c g rb m e X x r w HR.out).mono ?_;rintro y0 w0 ⟨rfl,r0,g0⟩;have nm0:=r0.env.nm)
  |(go_at_call 250;refine(hp _ nm0).mono ?_;rintro y1 w1 ⟨rfl,rfl⟩)
  |(go_at_call 186;refine(ffail_c g rb m e e2 E H X r _ r0).mono ?_;rintro y2 w2 ⟨rfl,r2,g2⟩))
 go_ret;exact⟨rfl,r2,gr_next g0 g2⟩
end Go.Proofs.YtakedkcjplfgeaaGreatDoor
