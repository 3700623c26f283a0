/-
  PkLo: what the law of feed needs of FedLo. Conditions: those of each lemma.
-/
import Derived.Test.YtakedkcjplfgeaaGreatDoorPkFedA
set_option maxRecDepth 1000000
set_option maxHeartbeats 32000000
namespace Go.Proofs.YtakedkcjplfgeaaGreatDoor
open Go.RowKit
open Frq Thr Tt
structure TtLo (B:Nat) (V:TtV) (ts:List TripD):Prop where
 parts: ∀ v∈[V.stops,V.routes,V.cals,V.excs,V.trips,V.freqs,V.thrus,V.guars,V.paths,V.prods],∀ b,v.ownBlock=some b→B≤b
 calls: ∀ x∈ts,∀ b,x.v.ownBlock=some b→B≤b
theorem TtLo.le {B C:Nat} {V:TtV} {ts:List TripD} (h:TtLo B V ts) (hc:C≤B):TtLo C V ts:=
 ⟨fun v hv b hb=>Nat.le_trans hc (h.parts v hv b hb),fun x hx b hb=>Nat.le_trans hc (h.calls x hx b hb)⟩
theorem own_lo {w:World} {B:Nat} {e:TypeId} {sz n:Nat} {v:Value} {xs:List Value} (h:w.ownsRow B e sz v n xs): ∀ b,v.ownBlock=some b→B≤b:=by
 intro b hb;rcases h.2 with⟨rfl,-⟩|⟨g,cap,cur,rfl,hg,-⟩
 · simp[Value.ownBlock]at hb
 ·
  simp[Value.ownBlock]at hb
  omega
theorem Parts.lo {B:Nat} {w:World} {vs:Nat→Value} {ts:List TripD} {mb own:Nat→Nat} {s:St} {ids:Nat→List (List UInt8)} (h:Parts B w vs ts mb own s ids):TtLo B ⟨vs 0,vs 1,vs 2,vs 3,vs 4,vs 5,vs 6,vs 7,vs 8,vs 9⟩ ts:=
 ⟨fun v hv=>by
  simp only[List.mem_cons,List.not_mem_nil,or_false]at hv;rcases hv with rfl|rfl|rfl|rfl|rfl|rfl|rfl|rfl|rfl|rfl
  · exact own_lo (h.row 0 (by omega))
  · exact own_lo (h.row 1 (by omega))
  · exact own_lo (h.row 2 (by omega))
  · exact own_lo (h.row 3 (by omega))
  · exact own_lo (h.row 4 (by omega))
  · exact own_lo (h.row 5 (by omega))
  · exact own_lo (h.row 6 (by omega))
  · exact own_lo (h.row 7 (by omega))
  · exact own_lo (h.row 8 (by omega))
  · exact own_lo (h.row 9 (by omega)),fun x hx=>by
  obtain⟨i,hi⟩:=List.getElem?_of_mem hx;exact own_lo (h.calls i x hi)⟩
theorem ttLo_nil (B:Nat) (V:TtV) (h: ∀ v∈[V.stops,V.routes,V.cals,V.excs,V.trips,V.freqs,V.thrus,V.guars,V.paths,V.prods],v= .slice none 0 0):TtLo B V []:=
 ⟨fun v hv b hb=>by rw[h v hv]at hb;simp[Value.ownBlock]at hb,fun x hx=>by simp at hx⟩
section
variable {α:Type} {cells:α→List Value} {sz B L:Nat} {w w':World} {v:Value} {xs:List α}
theorem SlIn.farL (h:SlIn cells sz B w v xs) (hl: ∀ b,v.ownBlock=some b→L≤b) (hc: ∀ b o,L≤b→b<B→w'.cell? ⟨b,o,none⟩=w.cell? ⟨b,o,none⟩):SlIn cells sz B w' v xs:=by
 obtain⟨a,cap,rfl,h1,h2,h3⟩:=h;refine⟨a,cap,rfl,h1,h2,fun h0=>?_⟩;obtain⟨b,o,rfl,hbB,hx⟩:=h3 h0;refine⟨b,o,rfl,hbB,fun i x hi j u hu=>?_⟩;rw[hc b _ (hl b rfl) hbB];exact hx i x hi j u hu
end
theorem TtRd.farL {B L:Nat} {w w':World} {V:TtV} {ts:List TripD} {t:TtD} (h:TtRd B w V ts t) (hl:TtLo L V ts) (hc: ∀ b o,L≤b→b<B→w'.cell? ⟨b,o,none⟩=w.cell? ⟨b,o,none⟩):TtRd B w' V ts t:=
 ⟨h.stops.farL (hl.parts _ (by simp)) hc,h.routes.farL (hl.parts _ (by simp)) hc,h.cals.farL (hl.parts _ (by simp)) hc,h.excs.farL (hl.parts _ (by simp)) hc,
  ⟨h.trips.sl.farL (hl.parts _ (by simp)) hc,fun x hx=>⟨(h.trips.ok x hx).calls.farL (hl.calls x hx) hc,(h.trips.ok x hx).ok⟩⟩,h.same,
  h.freqs.farL (hl.parts _ (by simp)) hc,h.thrus.farL (hl.parts _ (by simp)) hc,h.guars.farL (hl.parts _ (by simp)) hc,h.paths.farL (hl.parts _ (by simp)) hc,h.prods.farL (hl.parts _ (by simp)) hc⟩
theorem TtRd.up {B C:Nat} {w:World} {V:TtV} {ts:List TripD} {t:TtD} (h:TtRd B w V ts t) (hb:B≤C):TtRd C w V ts t:=
 ⟨h.stops.mono hb,h.routes.mono hb,h.cals.mono hb,h.excs.mono hb,⟨h.trips.sl.mono hb,fun x hx=>⟨(h.trips.ok x hx).calls.mono hb,(h.trips.ok x hx).ok⟩⟩,h.same,h.freqs.mono hb,h.thrus.mono hb,h.guars.mono hb,h.paths.mono hb,h.prods.mono hb⟩
end Go.Proofs.YtakedkcjplfgeaaGreatDoor
