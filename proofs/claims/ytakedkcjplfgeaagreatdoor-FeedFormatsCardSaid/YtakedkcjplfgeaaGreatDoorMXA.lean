/- Contracts, proved. Conditions: each contract's own. -/
import Derived.Test.YtakedkcjplfgeaaGreatDoorMPkEx
set_option maxRecDepth 1000000
set_option maxHeartbeats 32000000
namespace Go.Proofs.YtakedkcjplfgeaaGreatDoor
open Go.RowKit
open Frq Thr Tt Num Clk Dat Fld
theorem jA.getB {α:Type} {cells:α->List Value} {sz B:Nat} {w:World} {xs:List α} {a:Option Addr} {n cap:Nat} (h:jA cells sz B w (.slice a n cap) xs) {k:Nat} {x:α} (hx:xs[k]? =some x):
  ∃ (b o:Nat),a=some ⟨b,o,none⟩/\b<B/\ ∀ (j:Nat) (u:Value),(cells x)[j]? =some u->w.cell? ⟨b,o+k*sz+j,none⟩=some u:=by
 obtain⟨b,o,cap',y,hv,-,-,hbB,hy,hc⟩:=h.at (Uw.1 hx).1;simp only[Value.slice.injEq]at hv;obtain rfl:x=y:=qAB (hx.symm.trans hy);exact⟨b,o,hv.1,hbB,hc⟩
end Go.Proofs.YtakedkcjplfgeaaGreatDoor
namespace Go.Proofs.YtakedkcjplfgeaaGreatDoor.Fld
theorem ZR {l:List UInt8} (h:jq l=true): ∀ b∈l,Qi b=false:=by
 unfold jq at h;rw[Bool.and_eq_true,Bool.not_eq_true',List.any_eq_false]at h;intro b hb;simpa using h.1 b hb
end Go.Proofs.YtakedkcjplfgeaaGreatDoor.Fld
namespace Go.Proofs.YtakedkcjplfgeaaGreatDoor.Tt
open Num Clk Dat Frq Thr Fld
def St.ids (s:St):List (List UInt8):=s.t.stops.map (·.id)
end Go.Proofs.YtakedkcjplfgeaaGreatDoor.Tt
namespace Go.Proofs.YtakedkcjplfgeaaGreatDoor.Fld
theorem Xd {n:Nat} (h:n<16):Ey (KE n)=false:=by
 unfold Ey;rw[Xe h];split
 · rw[decide_eq_false (by omega),Bool.false_or,U0];omega
 · rw[decide_eq_false (by omega),Bool.false_or,U0];omega
theorem V9 (o:List UInt8): ∀ b∈zg o,Ey b=false:=by
 cases h:jq o with
 |true=>
  rw[xm h];intro b hb;have:=ZR h b hb;unfold Qi at this;simp only[Bool.or_eq_false_iff]at this;exact this.2.2.2
 |false=>
  rw[JM h];intro b hb;rcases List.mem_cons.1 hb with rfl|hb
  · decide
  ·
   rcases List.mem_append.1 hb with hb|hb
   ·
    obtain⟨c,-,hc⟩:=List.mem_flatMap.1 hb;unfold xR at hc;split at hc
    ·
     rename_i h1;simp only[List.mem_cons,List.not_mem_nil,or_false]at hc;rcases hc with rfl|rfl
     · decide
     ·
      simp only[Bool.or_eq_true,beq_iff_eq]at h1;unfold Ey;rcases h1 with h1|h1<;>rw[h1]<;>decide
    ·
     split at hc
     ·
      have hb:=rD c;simp only[List.mem_cons,List.not_mem_nil,or_false]at hc;rcases hc with rfl|rfl|rfl|rfl
      · decide
      · decide
      · exact Xd (by omega)
      · exact Xd (by omega)
     ·
      rename_i h2;rw[List.mem_singleton]at hc;rw[hc];simpa using h2
   ·
    rw[List.mem_singleton]at hb;rw[hb];decide
end Go.Proofs.YtakedkcjplfgeaaGreatDoor.Fld
namespace Go.Proofs.YtakedkcjplfgeaaGreatDoor.Tt
open Num Clk Dat Frq Thr Fld
theorem V6: ∀ l:List (List UInt8),∀ b∈kK l,Ey b=false
 |[],b,hb=>by cases hb
 |[x],b,hb=>V9 x b hb
 |x::y::r,b,hb=>by
  rw[yx x (by simp)]at hb;rcases List.mem_append.1 hb with h|h
  · exact V9 x b h
  ·
   rcases List.mem_cons.1 h with rfl|h
   · decide
   · exact V6 (y::r) b h
theorem oP (f:List (List UInt8)):(!(jZ f).contains 10)=true:=by
 have h:(10:UInt8)∉jZ f:=fun hm=>by
  unfold jZ zL at hm;split at hm
  · cases hm
  ·
   split at hm
   · cases hm
   · exact absurd (V6 f 10 hm) (by decide)
 simp[h]
theorem Dw (t:TtD):VD (JO t)=true:=by
 unfold VD JO;rw[List.all_eq_true];intro l hl;simp only[List.mem_append,List.mem_map,List.mem_flatMap,List.mem_cons]at hl;rcases hl with⟨x,-,rfl⟩|⟨x,-,rfl⟩|⟨x,-,rfl⟩|⟨x,-,rfl⟩|⟨x,-,rfl|⟨c,-,rfl⟩⟩|⟨x,-,rfl⟩|⟨x,-,rfl⟩|⟨x,-,rfl⟩|⟨x,-,rfl⟩|h|⟨x,-,rfl⟩
 all_goals first
  |exact oP _
  |skip
 split at h
 · cases h
 ·
  rw[List.mem_singleton]at h;rw[h];exact oP _
end Go.Proofs.YtakedkcjplfgeaaGreatDoor.Tt
namespace Go.Proofs.YtakedkcjplfgeaaGreatDoor
open Go.RowKit
open Frq Thr Tt
theorem kW {w:World} {b:Nat} {v0 v1 v2 v3 v4 v5 v6 v7 v8 v9 v10 v11 v12:Value} {e:TypeId} (h:w.heap[b]? =some (.cells #[v0,v1,v2,v3,v4,v5,v6,v7,v8,v9,v10,v11,v12] e (0,0))):
  w.cell? ⟨b,0,none⟩=some v0/\w.cell? ⟨b,1,none⟩=some v1/\w.cell? ⟨b,2,none⟩=some v2/\w.cell? ⟨b,3,none⟩=some v3/\w.cell? ⟨b,4,none⟩=some v4/\w.cell? ⟨b,5,none⟩=some v5/\w.cell? ⟨b,6,none⟩=some v6/\w.cell? ⟨b,7,none⟩=some v7/\w.cell? ⟨b,8,none⟩=some v8/\w.cell? ⟨b,9,none⟩=some v9/\w.cell? ⟨b,10,none⟩=some v10/\w.cell? ⟨b,11,none⟩=some v11/\w.cell? ⟨b,12,none⟩=some v12:=
 ⟨qC h 0 _ rfl,qC h 1 _ rfl,qC h 2 _ rfl,qC h 3 _ rfl,qC h 4 _ rfl,qC h 5 _ rfl,qC h 6 _ rfl,qC h 7 _ rfl,qC h 8 _ rfl,qC h 9 _ rfl,qC h 10 _ rfl,qC h 11 _ rfl,qC h 12 _ rfl⟩
end Go.Proofs.YtakedkcjplfgeaaGreatDoor
