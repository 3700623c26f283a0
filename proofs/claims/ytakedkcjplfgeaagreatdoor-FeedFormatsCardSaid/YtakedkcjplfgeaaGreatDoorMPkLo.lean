/- Contracts, proved. Conditions: each contract's own. -/
import Derived.Test.YtakedkcjplfgeaaGreatDoorMPkFedA
set_option maxRecDepth 1000000
set_option maxHeartbeats 32000000
namespace Go.Proofs.YtakedkcjplfgeaaGreatDoor
open Go.RowKit
open Frq Thr Tt
structure lJ (B:Nat) (V:TtV) (ts:List TripD):Prop where
 parts: ∀ v∈[V.stops,V.routes,V.cals,V.excs,V.trips,V.freqs,V.thrus,V.guars,V.paths,V.prods],∀ b,v.ownBlock=some b->B<=b
 calls: ∀ x∈ts,∀ b,x.v.ownBlock=some b->B<=b
theorem lJ.le {B C:Nat} {V:TtV} {ts:List TripD} (h:lJ B V ts) (hc:C<=B):lJ C V ts:=
 ⟨fun v hv b hb=>Ux hc (h.parts v hv b hb),fun x hx b hb=>Ux hc (h.calls x hx b hb)⟩
theorem ZQ {w:World} {B:Nat} {e:TypeId} {sz n:Nat} {v:Value} {xs:List Value} (h:w.ownsRow B e sz v n xs): ∀ b,v.ownBlock=some b->B<=b:=by
 intro b hb;rcases h.2 with⟨rfl,-⟩|⟨g,cap,cur,rfl,hg,-⟩
 · simp[Value.ownBlock]at hb
 ·
  simp[Value.ownBlock]at hb
  omega
theorem kT.lo {B:Nat} {w:World} {vs:Nat->Value} {ts:List TripD} {mb own:Nat->Nat} {s:St} {ids:Nat->List (List UInt8)} (h:kT B w vs ts mb own s ids):lJ B ⟨vs 0,vs 1,vs 2,vs 3,vs 4,vs 5,vs 6,vs 7,vs 8,vs 9⟩ ts:=
 ⟨fun v hv=>by
  simp only[List.mem_cons,List.not_mem_nil,or_false]at hv;rcases hv with rfl|rfl|rfl|rfl|rfl|rfl|rfl|rfl|rfl|rfl
  · exact ZQ (h.row 0 (by omega))
  · exact ZQ (h.row 1 (by omega))
  · exact ZQ (h.row 2 (by omega))
  · exact ZQ (h.row 3 (by omega))
  · exact ZQ (h.row 4 (by omega))
  · exact ZQ (h.row 5 (by omega))
  · exact ZQ (h.row 6 (by omega))
  · exact ZQ (h.row 7 (by omega))
  · exact ZQ (h.row 8 (by omega))
  · exact ZQ (h.row 9 (by omega)),fun x hx=>by
  obtain⟨i,hi⟩:=List.getElem?_of_mem hx;exact ZQ (h.calls i x hi)⟩
theorem IW (B:Nat) (V:TtV) (h: ∀ v∈[V.stops,V.routes,V.cals,V.excs,V.trips,V.freqs,V.thrus,V.guars,V.paths,V.prods],v= .slice none 0 0):lJ B V []:=
 ⟨fun v hv b hb=>by rw[h v hv]at hb;simp[Value.ownBlock]at hb,fun x hx=>by simp at hx⟩
theorem yA.up {B C:Nat} {w:World} {V:TtV} {ts:List TripD} {t:TtD} (h:yA B w V ts t) (hb:B<=C):yA C w V ts t:=
 ⟨h.stops.mono hb,h.routes.mono hb,h.cals.mono hb,h.excs.mono hb,⟨h.trips.sl.mono hb,fun x hx=>⟨(h.trips.ok x hx).calls.mono hb,(h.trips.ok x hx).ok⟩⟩,h.same,h.freqs.mono hb,h.thrus.mono hb,h.guars.mono hb,h.paths.mono hb,h.prods.mono hb⟩
end Go.Proofs.YtakedkcjplfgeaaGreatDoor
