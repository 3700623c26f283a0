/- Contracts, proved. Conditions: theirs. -/
import Derived.Test.YtakedkcjplfgeaaGreatDoorMPkWrA
import Derived.LaidOnce
import Derived.Test.YtakedkcjplfgeaaGreatDoorMPkLo
set_option maxRecDepth 1000000
set_option maxHeartbeats 32000000
open Go.Proofs.Tryz
namespace Go.Proofs.YtakedkcjplfgeaaGreatDoor
open Go.RowKit
open Frq Thr Tt Num Clk Dat Fld
structure Rh (pb po cb co tb to' lb lo qb qo lk:Nat) (W:World):Prop where
 c1:W.cell? (cb,co+1)=some (true:Z)
 c5:W.cell? (cb,co+5)=some (true:Z)
 c6:W.cell? (cb,co+6)=some (false:Z)
 c8:W.cell? (cb,co+8)=some (.int .i64 9132)
 c9:W.cell? (cb,co+9)=some (.int .i64 9496)
 t4:W.cell? (tb,to'+4)=some ((lb,lo,2,lk):Z)
 l0:W.cell? (lb,lo)=some (.int .i64 0)
 l1:W.cell? (lb,lo+1)=some (.int .i64 28800)
 l2:W.cell? (lb,lo+2)=some (.int .i64 28800)
 l3:W.cell? (lb,lo+3)=some (true:Z)
 l4:W.cell? (lb,lo+4)=some (false:Z)
 l5:W.cell? (lb,lo+5)=some (.int .i64 1)
 l6:W.cell? (lb,lo+5+1)=some (.int .i64 30600)
 l7:W.cell? (lb,lo+5+2)=some (.int .i64 30660)
 l8:W.cell? (lb,lo+5+3)=some (false:Z)
 l9:W.cell? (lb,lo+5+4)=some (true:Z)
 p0:W.cell? (pb,po)=some (.int .i64 0)
 p1:W.cell? (pb,po+1)=some (.int .i64 1)
 p2:W.cell? (pb,po+2)=some (.int .i64 600)
 p3:W.cell? (pb,po+3)=some (false:Z)
 q1:W.cell? (qb,qo+1)=some (.int .i64 250)
 q5:W.cell? (qb,qo+5)=some (.int .i64 3)
theorem I4 {B:Nat} {w:World} {V:TtV} {ts:List TripD} (rd:yA B w V ts PU): ∃ (a0 a1 a3 a5 a6 a7:Option Addr) (k0 k1 k2 k3 k4 k5 k6 k7 k8 k9 pb po cb co tb to' lb lo qb qo lk:Nat),
  V=⟨.slice a0 2 k0,.slice a1 1 k1,(cb,co,1,k2),.slice a3 0 k3,(tb,to',1,k4),.slice a5 0 k5,.slice a6 0 k6,.slice a7 0 k7,(pb,po,1,k8),.slice (some (qb,qo)) 1 k9⟩
  /\(pb<B/\cb<B/\tb<B/\lb<B/\qb<B)/\Rh pb po cb co tb to' lb lo qb qo lk w:=by
 have hts:ts.length=1:=by have:=congrArg List.length rd.same;rw[U4]at this;exact this.symm
 obtain⟨x,rfl⟩: ∃ x,ts=[x]:=by
  match ts,hts with
  |[x],_=>exact⟨x,rfl⟩
 have hx:xOf x=⟨[84],0,0,true,[⟨0,28800,28800,true,false⟩,⟨1,30600,30660,false,true⟩]⟩:=by
  have:=rd.same;exact(List.cons.inj this).1.symm
 have hcalls:x.calls=[⟨0,28800,28800,true,false⟩,⟨1,30600,30660,false,true⟩]:=congrArg TripX.calls hx;have hcr:=(rd.trips.ok x σ).calls;rw[hcalls]at hcr;obtain⟨v0,v1,v2,v3,v4,v5,v6,v7,v8,v9⟩:=V;obtain⟨a0,k0,(rfl:v0=_),-,-⟩:=rd.stops.val;obtain⟨a1,k1,(rfl:v1=_),-,-⟩:=rd.routes.val;obtain⟨a2,k2,(rfl:v2=_),-,-⟩:=rd.cals.val;obtain⟨a3,k3,(rfl:v3=_),-,-⟩:=rd.excs.val;obtain⟨a4,k4,(rfl:v4=_),-,-⟩:=rd.trips.sl.val;obtain⟨a5,k5,(rfl:v5=_),-,-⟩:=rd.freqs.val;obtain⟨a6,k6,(rfl:v6=_),-,-⟩:=rd.thrus.val;obtain⟨a7,k7,(rfl:v7=_),-,-⟩:=rd.guars.val;obtain⟨a8,k8,(rfl:v8=_),-,-⟩:=rd.paths.val;obtain⟨a9,k9,(rfl:v9=_),-,-⟩:=rd.prods.val;obtain⟨al,lk,hlv,-,-⟩:=hcr.val;rw[hlv]at hcr;obtain⟨cb,co,rfl,hcb,hc⟩:=rd.cals.openB δ;obtain⟨tb,to',rfl,htb,ht⟩:=rd.trips.sl.openB σ;obtain⟨pb,po,rfl,hpb,hp⟩:=rd.paths.openB δ;obtain⟨qb,qo,rfl,hqb,hq⟩:=rd.prods.openB δ;obtain⟨lb,lo,rfl,hlb,hl⟩:=hcr.openB σ;have z: ∀ (a s j:Nat),a+0*s+j=a+j:=λa s j=>by omega
 have C:=λj u (h:(kD ⟨[67],⟨true,true,true,true,true,false,false⟩,9132,9496⟩)[j]? =some u)=>hc 0 _ rfl j u h
 have P:=λj u (h:(zt ⟨0,1,600,false⟩)[j]? =some u)=>hp 0 _ rfl j u h
 have Q:=λj u (h:(zu ⟨[115,105,110,103,108,101],250,1,16,0,3⟩)[j]? =some u)=>hq 0 _ rfl j u h
 have L0:=λj u (h:(callCells ⟨0,28800,28800,true,false⟩)[j]? =some u)=>hl 0 _ rfl j u h
 have L1:=λj u (h:(callCells ⟨1,30600,30660,false,true⟩)[j]? =some u)=>hl 1 _ rfl j u h
 have T:=ht 0 x rfl 4 _ rfl;simp only[z]at C P Q L0 T;have z1: ∀ j,lo+1*5+j=lo+5+j:=λj=>by omega
 simp only[z1]at L1;refine⟨a0,a1,a3,a5,a6,a7,k0,k1,k2,k3,k4,k5,k6,k7,k8,k9,pb,po,cb,co,tb,to',lb,lo,qb,qo,lk,rfl,⟨hpb,hcb,htb,hlb,hqb⟩, ?_⟩;exact⟨C 1 _ rfl,C 5 _ rfl,C 6 _ rfl,C 8 _ rfl,C 9 _ rfl,by rw[T,hlv];rfl,L0 0 _ rfl,L0 1 _ rfl,L0 2 _ rfl,L0 3 _ rfl,L0 4 _ rfl,L1 0 _ rfl,L1 1 _ rfl,L1 2 _ rfl,L1 3 _ rfl,L1 4 _ rfl,P 0 _ rfl,P 1 _ rfl,P 2 _ rfl,P 3 _ rfl,Q 1 _ rfl,Q 5 _ rfl⟩
theorem Rh.bl {pb po cb co tb to' lb lo qb qo lk:Nat} {W W':World} (h:Rh pb po cb co tb to' lb lo qb qo lk W) (hb:Bl W W'):Rh pb po cb co tb to' lb lo qb qo lk W':=by
 have F: ∀ {b o:Nat} {v:Value},W.cell? (b,o)=some v->W'.cell? (b,o)=some v:=λh=>((qG hb).1 _ _ (World.block_lt_of_cell? W _ h)).trans h
 exact⟨F h.c1,F h.c5,F h.c6,F h.c8,F h.c9,F h.t4,F h.l0,F h.l1,F h.l2,F h.l3,F h.l4,F h.l5,F h.l6,F h.l7,F h.l8,F h.l9,F h.p0,F h.p1,F h.p2,F h.p3,F h.q1,F h.q5⟩
theorem dH (w:World):Calls prog 18 #[] w λq w'=>q=.returned (qP XT)/\w'=w:=by
 go_enter func18,ntmps18
 go_wp2;go_ret;exact⟨rfl,rfl⟩
theorem aX (w:World) (o1 o2:Obj):((w.alloc o1).alloc o2).drew.heap[w.heap.size]? =some o1/\((w.alloc o1).alloc o2).drew.heap[w.heap.size+1]? =some o2/\Bl w ((w.alloc o1).alloc o2).drew:=by
 refine⟨?_, ?_,qH (qE (qE (qB _) _) _)⟩
 · exact qX (heap_alloc_new w o1) (qH (qE (qB _) _))
 have:=heap_alloc_new (w.alloc o1) o2;rw[show(w.alloc o1).heap.size=w.heap.size+1 by simp]at this;exact this
end Go.Proofs.YtakedkcjplfgeaaGreatDoor
set_option maxRecDepth 1000000
set_option maxHeartbeats 32000000
namespace Go.Proofs.YtakedkcjplfgeaaGreatDoor
open Go.RowKit
open Frq Thr Tt Num Clk Dat Fld
theorem Gm {w:World} (h:laidMetH prog [("unicode/utf8.acceptRanges",Rows.laid_unicode_utf8_acceptRanges),("transit/route.names",Rows.laid_transit_route_names),("unicode/utf8.first",Rows.laid_unicode_utf8_first)] w) (i:Nat) (x:Ψ) (hx:modeWords[i]? =some x):w.cell? (0,i)=some (qP x):=by
 rw[MakeChecks.laidMetH_plain _ _ _ κ]at h;obtain⟨ps,⟨_,_,_,_,_,_,-,-,-,-,⟨g,t,cs,fuel,p,q,hg,ht,hv,htr,-,-⟩,-⟩,-⟩:=h;obtain rfl:g=0:=qAB (hg.symm.trans κ);obtain rfl:t=190:=qAB (ht.symm.trans κ);obtain⟨xs,m,-,hxx,hl,hn,hi⟩:=DataW.trod_array underlying190 htr;have hc1:prog.cellsOf 9=1:=κ
 have hd:xs.map (·.1)=[.lit (.string [98,117,115]),.lit (.string [116,114,97,109]),.lit (.string [109,101,116,114,111]),.lit (.string [114,97,105,108]),.lit (.string [102,101,114,114,121]),.lit (.string [99,111,97,99,104]),.lit (.string [99,97,98,108,101]),.lit (.string [102,117,110,105,99,117,108,97,114])]:=by
  have:=congrArg Prod.fst hxx;simp only[Rows.laid_transit_route_names,DataW.agg.injEq]at this;exact this.symm
 have hcell: ∀ (i:Nat) (u:Value),cs[i]? =some u->w.cell? (0,i)=some u:=λi u hu=>by
  simp only[World.var?,hg,Option.bind_some]at hv;split at hv
  ·
   rename_i c t' fr hb;simp only[qAA]at hv;subst hv;rw[cell_of_row w _ i c t' fr hb];exact hu
  cases hv
 have hxl:xs.length=8:=by have:=congrArg List.length hd;simpa using this
 have hk:i<8:=(Uw.1 hx).1;have h1:=hi i hk;rw[hc1,Nat.mul_one]at h1;obtain⟨y,hy⟩: ∃ y,xs[i]? =some y:=⟨_,U2 ω⟩;rw[hy]at h1;obtain⟨s,hs,hs2,-⟩:=DataW.trod_string underlying9 h1;have hk2:cs[i]? =some (.string s):=by
  have:=congrArg (·[0]?) hs;simp only[List.getElem?_take,List.getElem?_drop,List.getElem?_cons_zero]at this;simpa using this
 have hd2:=congrArg (·[i]?) hd;simp only[List.getElem?_map,hy,Option.map_some]at hd2;rw[hcell i _ hk2];rw[hs2]at hd2;have key2:s.data.toList=x->(some (Value.string s):Option Value)=some (qP x):=λe=>by rw[<-e]
 refine key2 ?_;obtain rfl|rfl|rfl|rfl|rfl|rfl|rfl|rfl:i=0∨i=1∨i=2∨i=3∨i=4∨i=5∨i=6∨i=7:=ω
 all_goals
  injection (qAB hd2)with e1
  injection e1 with e2
  rw[e2];exact qAB hx
theorem OG {w:World} {m:Int} (h:laidMetH prog [("unicode/utf8.acceptRanges",Rows.laid_unicode_utf8_acceptRanges),("transit/route.names",Rows.laid_transit_route_names),("unicode/utf8.first",Rows.laid_unicode_utf8_first)] w) (hm:w.cell? (1,0)=some (m:Z)):ah m w:=⟨hm,λi x hx=>Gm h i x hx⟩
