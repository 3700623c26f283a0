/- Contracts of the feed, proved. Conditions: those of each contract. -/
import Derived.Test.YtakedkcjplfgeaaGreatDoorMPkParB
import Derived.LaidOnce
set_option maxRecDepth 1000000
set_option maxHeartbeats 32000000
namespace Go.Proofs.YtakedkcjplfgeaaGreatDoor
open Go.RowKit
open Frq Thr Tt Num Clk Dat Fld
theorem Gm {w:World} (h:laidMetH Tryz.prog [("unicode/utf8.acceptRanges",Rows.laid_unicode_utf8_acceptRanges),("transit/route.names",Rows.laid_transit_route_names),("unicode/utf8.first",Rows.laid_unicode_utf8_first)] w) (i:Nat) (x:List UInt8) (hx:qh[i]? =some x):w.cell? ⟨0,i,none⟩=some (qP x):=by
 rw[MakeChecks.laidMetH_plain _ _ _ (by kernel_rfl)]at h;obtain⟨ps,⟨_,_,_,_,_,_,-,-,-,-,⟨g,t,cs,fuel,p,q,hg,ht,hv,htr,-,-⟩,-⟩,-⟩:=h;obtain rfl:g=0:=Option.some.inj (hg.symm.trans (by kernel_rfl));obtain rfl:t=190:=Option.some.inj (ht.symm.trans (by kernel_rfl));obtain⟨xs,m,-,hxx,hl,hn,hi⟩:=DataW.trod_array Tryz.underlying190 htr;have hc1:Tryz.prog.cellsOf 9=1:=by kernel_rfl
 have hd:xs.map (·.1)=[.lit (.string [98,117,115]), .lit (.string [116,114,97,109]), .lit (.string [109,101,116,114,111]), .lit (.string [114,97,105,108]), .lit (.string [102,101,114,114,121]), .lit (.string [99,111,97,99,104]), .lit (.string [99,97,98,108,101]), .lit (.string [102,117,110,105,99,117,108,97,114])]:=by
  have:=congrArg Prod.fst hxx;simp only[Rows.laid_transit_route_names,DataW.agg.injEq]at this;exact this.symm
 have hcell: ∀ (i:Nat) (u:Value),cs[i]? =some u->w.cell? ⟨0,i,none⟩=some u:=fun i u hu=>by
  simp only[World.var?,hg,Option.bind_some]at hv;split at hv
  ·
   rename_i c t' fr hb;simp only[Option.some.injEq]at hv;subst hv;rw[cell_of_row w _ i c t' fr hb];exact hu
  · cases hv
 have hxl:xs.length=8:=by have:=congrArg List.length hd;simpa using this
 have hk:i<8:=(List.getElem?_eq_some_iff.1 hx).1;have h1:=hi i hk;rw[hc1,Nat.mul_one]at h1;obtain⟨y,hy⟩: ∃ y,xs[i]? =some y:=⟨_,List.getElem?_eq_getElem (by omega)⟩;rw[hy]at h1;obtain⟨s,hs,hs2,-⟩:=DataW.trod_string Tryz.underlying9 h1;have hk2:cs[i]? =some (.string s):=by
  have:=congrArg (·[0]?) hs;simp only[List.getElem?_take,List.getElem?_drop,List.getElem?_cons_zero]at this;simpa using this
 have hd2:=congrArg (·[i]?) hd;simp only[List.getElem?_map,hy,Option.map_some]at hd2;rw[hcell i _ hk2];rw[hs2]at hd2;have key2:s.data.toList=x->(some (Value.string s):Option Value)=some (qP x):=fun e=>by rw[<-e]
 refine key2 ?_;obtain rfl|rfl|rfl|rfl|rfl|rfl|rfl|rfl:i=0∨i=1∨i=2∨i=3∨i=4∨i=5∨i=6∨i=7:=by omega
 all_goals
  injection (Option.some.inj hd2)with e1
  injection e1 with e2
  rw[e2];exact Option.some.inj hx
theorem OG {w:World} {m:Int} (h:laidMetH Tryz.prog [("unicode/utf8.acceptRanges",Rows.laid_unicode_utf8_acceptRanges),("transit/route.names",Rows.laid_transit_route_names),("unicode/utf8.first",Rows.laid_unicode_utf8_first)] w) (hm:w.cell? ⟨1,0,none⟩=some (.int .i64 m)):ah m w:=⟨hm,fun i x hx=>Gm h i x hx⟩
end Go.Proofs.YtakedkcjplfgeaaGreatDoor
