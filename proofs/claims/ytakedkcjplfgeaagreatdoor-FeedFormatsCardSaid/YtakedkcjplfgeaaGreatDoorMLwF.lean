/- Contracts, proved. Conditions: each contract's own. -/
import Derived.Test.YtakedkcjplfgeaaGreatDoorMExF
import Derived.Test.YtakedkcjplfgeaaGreatDoorMRfD
set_option maxRecDepth 1000000
set_option maxHeartbeats 32000000
namespace Go.Proofs.YtakedkcjplfgeaaGreatDoor
open Go.RowKit
open Frq Thr Tt
def Ut (q:Ending):Prop:= ∃ b:Bool,q= .returned (.bool b)
theorem Uo (V:TtV) (ts:List TripD) (t:TtD) (B:Nat) (w:World) (rd:yA B w V ts t) (hB:B<=w.heap.size):
  Calls Tryz.prog 13 #[JP V t] w fun q w'=>Ut q/\Bl w w':=by
 have RA:=qA rd;obtain⟨v0,v1,v2,v3,v4,v5,v6,v7,v8,v9⟩:=V;obtain⟨a0,k0,(rfl:v0=_),-,-⟩:=rd.stops.val;obtain⟨a1,k1,(rfl:v1=_),-,-⟩:=rd.routes.val;obtain⟨a2,k2,(rfl:v2=_),-,-⟩:=rd.cals.val;obtain⟨a3,k3,(rfl:v3=_),-,-⟩:=rd.excs.val;obtain⟨a4,k4,(rfl:v4=_),l4,m4⟩:=rd.trips.sl.val;obtain⟨a5,k5,(rfl:v5=_),-,-⟩:=rd.freqs.val;obtain⟨a6,k6,(rfl:v6=_),-,-⟩:=rd.thrus.val;obtain⟨a7,k7,(rfl:v7=_),-,-⟩:=rd.guars.val;obtain⟨a8,k8,(rfl:v8=_),-,-⟩:=rd.paths.val;obtain⟨a9,k9,(rfl:v9=_),-,-⟩:=rd.prods.val;have hts:ts.length<=9223372036854775807:=Ux l4 m4;clear rd l4 m4;unfold JP;simp only[U4]at RA ⊢;obtain⟨w2,hw2⟩: ∃ w2,w.alloc (.cells #[.slice a0 t.stops.length k0, .slice a1 t.routes.length k1, .slice a2 t.cals.length k2, .slice a3 t.excs.length k3, .slice a4 ts.length k4, .slice a5 t.freqs.length k5, .slice a6 t.thrus.length k6, .slice a7 t.guars.length k7, .slice a8 t.paths.length k8, .slice a9 t.fares.prods.length k9, .int .i64 t.fares.disc, .int .i64 t.fares.within, .int .i64 t.fares.cap] 36)=w2:=⟨_,rfl⟩;have HA:=qA (show w2.heap[w.heap.size]? =some (.cells #[.slice a0 t.stops.length k0, .slice a1 t.routes.length k1, .slice a2 t.cals.length k2, .slice a3 t.excs.length k3, .slice a4 ts.length k4, .slice a5 t.freqs.length k5, .slice a6 t.thrus.length k6, .slice a7 t.guars.length k7, .slice a8 t.paths.length k8, .slice a9 t.fares.prods.length k9, .int .i64 t.fares.disc, .int .i64 t.fares.within, .int .i64 t.fares.cap] 36 (0,0)) by rw[<-hw2];exact heap_alloc_new w _);have B2:=qA (show Bl w w2 by rw[<-hw2];exact qE (qB _) _);obtain⟨p0,p1,p2,p3,p4,p5,p6,p7,p8,p9,p10,p11,p12⟩:=kW HA.out;clear p10 p11 p12;by_cases g0:(70:Int)<(t.stops.length:Int)
 ·
  go_enter Tryz.func13,Tryz.ntmps13
  go_wp2;go_ret;exact⟨⟨_,rfl⟩,B2.out⟩
 by_cases g1:(70:Int)<(t.routes.length:Int)
 ·
  go_enter Tryz.func13,Tryz.ntmps13
  go_wp2;go_ret;exact⟨⟨_,rfl⟩,B2.out⟩
 by_cases g2:(70:Int)<(t.cals.length:Int)
 ·
  go_enter Tryz.func13,Tryz.ntmps13
  go_wp2;go_ret;exact⟨⟨_,rfl⟩,B2.out⟩
 by_cases g3:(70:Int)<(t.excs.length:Int)
 ·
  go_enter Tryz.func13,Tryz.ntmps13
  go_wp2;go_ret;exact⟨⟨_,rfl⟩,B2.out⟩
 by_cases g4:(40:Int)<(ts.length:Int)
 ·
  go_enter Tryz.func13,Tryz.ntmps13
  go_wp2;go_ret;exact⟨⟨_,rfl⟩,B2.out⟩
 by_cases g5:(70:Int)<(t.freqs.length:Int)
 ·
  go_enter Tryz.func13,Tryz.ntmps13
  go_wp2;go_ret;exact⟨⟨_,rfl⟩,B2.out⟩
 by_cases g6:(140:Int)<(t.thrus.length:Int)
 ·
  go_enter Tryz.func13,Tryz.ntmps13
  go_wp2;go_ret;exact⟨⟨_,rfl⟩,B2.out⟩
 by_cases g7:(140:Int)<(t.guars.length:Int)
 ·
  go_enter Tryz.func13,Tryz.ntmps13
  go_wp2;go_ret;exact⟨⟨_,rfl⟩,B2.out⟩
 by_cases g8:(70:Int)<(t.paths.length:Int)
 ·
  go_enter Tryz.func13,Tryz.ntmps13
  go_wp2;go_ret;exact⟨⟨_,rfl⟩,B2.out⟩
 by_cases g9:(20:Int)<(t.fares.prods.length:Int)
 ·
  go_enter Tryz.func13,Tryz.ntmps13
  go_wp2;go_ret;exact⟨⟨_,rfl⟩,B2.out⟩
 go_enter Tryz.func13,Tryz.ntmps13
 go_wp2_with fail;clear hw2 p0 p1 p2 p3 p4 p5 p6 p7 p8 p9 g0 g1 g2 g3 g4 g5 g6 g7 g8 g9;go_loopw [3] (fun i wr=> ∃ k:Nat,(k<=ts.length/\i= .int .i64 k)/\Hid (Bl w2 wr)) (fun i _=>ts.length-(intOf i).toNat)
 case atStart=>exact⟨0,⟨qAD _,rfl⟩,qB _⟩
 case round=>
  obtain⟨k,⟨hk,rfl⟩,HBL⟩:=hrel;obtain⟨-,-,-,-,p4,-,-,-,-,-,-,-,-⟩:=kW (qX HA.out HBL.out);by_cases hlx:k<ts.length
  ·
   obtain⟨x,hx⟩: ∃ x,ts[k]? =some x:=⟨_,U2 hlx⟩;have hb2:=qF B2.out HBL.out;obtain⟨ax,cx,hvx,-,-⟩:=(RA.out.trips.ok x (Uz hx)).calls.val;obtain⟨bc,oc,rfl,lbc,xc⟩:=(RA.out.trips.sl.out hb2 hB).getB hx;have d4:wr.cell? ⟨bc,oc+k*5+4,none⟩=some (.slice ax x.calls.length cx):=by rw[<-hvx];exact xc 4 _ rfl
   have hkI:(k:Int)<(ts.length:Int):=by omega
   have HB2:=qA hb2;clear xc hx hvx hb2;by_cases g4:(40:Int)<(x.calls.length:Int)
   ·
    go_wp2;go_ret;exact⟨⟨_,rfl⟩,HB2.out⟩
   ·
    go_wp2;go_roundw;case rel=>exact⟨k+1,⟨by omega,by go_num⟩,HBL⟩
    case measure=>simp[intOf];omega
  ·
   have HB2:=qA (qF B2.out HBL.out);go_wp2;go_ret;exact⟨⟨_,rfl⟩,HB2.out⟩
section
open Go.ChangeShapes Go.WideShapes Go.Deep Go.Joins
variable {H:Type} {enc:TypeId×Value->H} {P:Program} {w:World} {base:Nat} {spare:Nat->Bool} {held:Bool}
theorem Tm {α:Type} {R:Nat->α->Prop}: ∀ (n:Nat),(∀ i,i<n-> ∃ x,R i x)-> ∃ xs:List α,xs.length=n/\ ∀ i x,xs[i]? =some x->R i x
 |0,_=>⟨[],rfl,fun i x h=>by simp at h⟩
 |n+1,h=>by
  obtain⟨xs,hl,hx⟩:=Tm n fun i hi=>h i (by omega)
  obtain⟨y,hy⟩:=h n (by omega);refine⟨xs++[y],by simp[hl],fun i x hi=>?_⟩;by_cases hin:i<n
  ·
   rw[List.getElem?_append_left (by omega)]at hi;exact hx i x hi
  ·
   have hii:i<(xs++[y]).length:=(Uw.1 hi).1;have:i=n:=by simp at hii;omega
   subst this;rw[List.getElem?_append_right (by omega),hl,Nat.sub_self]at hi;simp at hi
   subst hi;exact hy
theorem ay {t:TypeId} {fs:Array Field} {fuel:Nat} {cs:List Value} {x:DataW H×List MemPlace} (ht:P.underlying t=some (.struct fs)) (h:DataW.trod enc P w base spare held fuel t cs=some x):
  ∃ n,∀ (j:Nat) (f:Field),fs[j]? =some f-> ∃ y:DataW H×List MemPlace,DataW.trod enc P w base spare held n f.type ((cs.drop f.offset).take (P.cellsOf f.type))=some y:=by
 obtain⟨ys,k,-,-,-,hyl,hf⟩:=DataW.trod_struct ht h;refine⟨k,fun j f hj=>?_⟩;have hjl:j<fs.size:=(Array.getElem?_eq_some_iff.1 hj).1;exact⟨_,(hf j f hj).trans (U2 (by omega))⟩
theorem Sj {α:Type} {cells:α->List Value} {sz:Nat} (hs: ∀ x,(cells x).length=sz) (h0:0<sz) (Q:α->Prop) {t e:TypeId} {fuel:Nat} {v:Value} {x:DataW H×List MemPlace}
  (ht:P.underlying t=some (.slice e)) (hC:P.cellsOf e=sz)
  (helem: ∀ (n:Nat) (vs:List Value) (x:DataW H×List MemPlace),vs.length=sz->DataW.trod enc P w base spare held n e vs=some x-> ∃ y:α,Q y/\vs=cells y)
  (h:DataW.trod enc P w base spare held fuel t [v]=some x): ∃ xs:List α,jA cells sz w.heap.size w v xs/\ ∀ y∈xs,Q y:=by
 rcases open_slice ht h with⟨hcs,-⟩|⟨a,len,cap,m,n,D,Pl,hcs,-,hl,hm,hmm,-,hi⟩
 ·
  rw[List.cons.injEq]at hcs;rw[hcs.1];exact⟨[],zJ,by simp⟩
 ·
  rw[List.cons.injEq]at hcs;rw[hcs.1];have hlm:len<=m:=by rw[hmm];split<;>omega
  obtain⟨xs,hxl,hx⟩:=Tm (R:=fun i (y:α)=>Q y/\ ∀ j u,(cells y)[j]? =some u->w.cell? (a.add (i*sz+j))=some u) len fun i hil=>by
   obtain⟨vs,hc,hrd⟩:=hi i (by omega);rw[hC]at hc;obtain⟨-,hvl,hat⟩:=World.cells?_some hc;obtain⟨y,hQ,rfl⟩:=helem _ vs _ hvl hrd;refine⟨y,hQ,fun j u hu=>?_⟩;have hjl:j<(cells y).length:=(Uw.1 hu).1;have h1:=hat j (by rw[<-hs y];exact hjl);rw[hu,Go.Deep.add_add]at h1;exact h1
  refine⟨xs,⟨some a,cap,by rw[hxl],by omega,hm,fun hpos=>?_⟩,fun y hy=>?_⟩
  ·
   obtain⟨y0,hy0⟩: ∃ y0,xs[0]? =some y0:=⟨_,U2 hpos⟩;obtain⟨u0,hu0⟩: ∃ u0,(cells y0)[0]? =some u0:=⟨_,U2 (by rw[hs];exact h0)⟩;have hc0:=(hx 0 y0 hy0).2 0 u0 hu0;rw[show a.add (0*sz+0)=a by simp[Addr.add]]at hc0;obtain⟨b,o,spot⟩:=a;have hsp:spot=none:=by
    unfold World.cell? at hc0;split at hc0
    ·
     cases spot with
     |none=>rfl
     |some s=>simp at hc0
    · cases hc0
   subst hsp;refine⟨b,o,rfl,World.block_lt_of_cell? w _ hc0,fun i y hy j u hu=>?_⟩;have:=(hx i y hy).2 j u hu;unfold Addr.add at this;split at this
   · rename_i k;rw[show o+i*sz+j=o by omega];exact this
   · rw[Nat.add_assoc];exact this
  ·
   obtain⟨i,hi⟩:=List.getElem?_of_mem hy;exact(hx i y hi).1
theorem Uj {x:Int} (h:(Lit.int .i64 x).wf=true):zB x:=by
 have hmin:IntKind.i64.min= -9223372036854775808:=rfl;have hmax:IntKind.i64.max=9223372036854775807:=rfl;simp only[Lit.wf,Bool.and_eq_true,decide_eq_true_eq]at h;unfold zB;omega
end
section
open Go.ChangeShapes Go.WideShapes Go.Deep Go.Joins
variable {H:Type} {enc:TypeId×Value->H} {w:World} {base:Nat} {spare:Nat->Bool} {held:Bool}
theorem Un:Tryz.prog.cellsOf 9=1:=by kernel_rfl
theorem Um:Tryz.prog.cellsOf 3=1:=by kernel_rfl
theorem TY:Tryz.prog.cellsOf 4=1:=by kernel_rfl
theorem Ul {vs:List Value} {j:Nat} {v:Value} (h:vs[j]? =some v):(vs.drop j).take 1=[v]:=by
 obtain⟨hj,rfl⟩:=Uw.1 h;rw[List.drop_eq_getElem_cons hj];rfl
theorem Sr {n:Nat} {t:TypeId} {vs:List Value} {j:Nat} (h: ∃ y:DataW H×List MemPlace,DataW.trod enc Tryz.prog w base spare held n t ((vs.drop j).take (Tryz.prog.cellsOf t))=some y) (hc:Tryz.prog.cellsOf t=1) {v:Value} (hv:vs[j]? =some v): ∃ y:DataW H×List MemPlace,DataW.trod enc Tryz.prog w base spare held n t [v]=some y:=by
 obtain⟨y,h⟩:=h;rw[hc,Ul hv]at h;exact⟨y,h⟩
theorem mr {n:Nat} {vs:List Value} {j:Nat} (h: ∃ y:DataW H×List MemPlace,DataW.trod enc Tryz.prog w base spare held n 3 ((vs.drop j).take (Tryz.prog.cellsOf 3))=some y) {v:Value} (hv:vs[j]? =some v): ∃ a,v= .int .i64 a/\zB a:=by
 obtain⟨y,h⟩:=Sr h Um hv;obtain⟨a,e,-,wf⟩:=DataW.trod_int Tryz.underlying3 h;exact⟨a,(List.cons.inj e).1,Uj wf⟩
theorem TS {n:Nat} {vs:List Value} {j:Nat} (h: ∃ y:DataW H×List MemPlace,DataW.trod enc Tryz.prog w base spare held n 9 ((vs.drop j).take (Tryz.prog.cellsOf 9))=some y) {v:Value} (hv:vs[j]? =some v): ∃ a:ByteArray,v= .string a/\a.data.toList.length<=9223372036854775807:=by
 obtain⟨y,h⟩:=Sr h Un hv;obtain⟨a,e,-,wf⟩:=DataW.trod_string Tryz.underlying9 h;exact⟨a,(List.cons.inj e).1,by unfold maxLen at wf;simpa using wf⟩
theorem Si {n:Nat} {vs:List Value} {j:Nat} (h: ∃ y:DataW H×List MemPlace,DataW.trod enc Tryz.prog w base spare held n 4 ((vs.drop j).take (Tryz.prog.cellsOf 4))=some y) {v:Value} (hv:vs[j]? =some v): ∃ a:Bool,v= .bool a:=by
 obtain⟨y,h⟩:=Sr h TY hv;obtain⟨a,e,-⟩:=DataW.trod_bool Tryz.underlying4 h;exact⟨a,(List.cons.inj e).1⟩
theorem UW {n:Nat} {vs:List Value} {x:DataW H×List MemPlace} (hl:vs.length=4) (h:DataW.trod enc Tryz.prog w base spare held n 120 vs=some x): ∃ y,y.id.length<=9223372036854775807/\vs=jY y:=by
 obtain⟨k,hg⟩:=ay Tryz.underlying120 h;match vs,hl with
 |[c0,c1,c2,c3],_=>
  obtain⟨a0,rfl,w0⟩:=TS (hg 0 _ rfl) rfl;obtain⟨a1,rfl,w1⟩:=mr (hg 1 _ rfl) rfl;obtain⟨a2,rfl⟩:=Si (hg 2 _ rfl) rfl;obtain⟨a3,rfl,w3⟩:=mr (hg 3 _ rfl) rfl;exact⟨⟨a0.data.toList,a1,a2,a3⟩,w0,rfl⟩
theorem UH {n:Nat} {vs:List Value} {x:DataW H×List MemPlace} (hl:vs.length=3) (h:DataW.trod enc Tryz.prog w base spare held n 122 vs=some x): ∃ y,y.id.length<=9223372036854775807/\vs=jP y:=by
 obtain⟨k,hg⟩:=ay Tryz.underlying122 h;match vs,hl with
 |[c0,c1,c2],_=>
  obtain⟨a0,rfl,w0⟩:=TS (hg 0 _ rfl) rfl;obtain⟨a1,rfl,w1⟩:=mr (hg 1 _ rfl) rfl;obtain⟨a2,rfl⟩:=Si (hg 2 _ rfl) rfl;exact⟨⟨a0.data.toList,a1,a2⟩,w0,rfl⟩
theorem Ug {n:Nat} {vs:List Value} {x:DataW H×List MemPlace} (hl:vs.length=3) (h:DataW.trod enc Tryz.prog w base spare held n 124 vs=some x): ∃ y,(zB y.cal/\zB y.day)/\vs=kE y:=by
 obtain⟨k,hg⟩:=ay Tryz.underlying124 h;match vs,hl with
 |[c0,c1,c2],_=>
  obtain⟨a0,rfl,w0⟩:=mr (hg 0 _ rfl) rfl;obtain⟨a1,rfl,w1⟩:=mr (hg 1 _ rfl) rfl;obtain⟨a2,rfl⟩:=Si (hg 2 _ rfl) rfl;exact⟨⟨a0,a1,a2⟩,⟨w0,w1⟩,rfl⟩
theorem UR {n:Nat} {vs:List Value} {x:DataW H×List MemPlace} (hl:vs.length=5) (h:DataW.trod enc Tryz.prog w base spare held n 58 vs=some x): ∃ y,Ik y/\vs=callCells y:=by
 obtain⟨k,hg⟩:=ay Tryz.underlying58 h;match vs,hl with
 |[c0,c1,c2,c3,c4],_=>
  obtain⟨a0,rfl,w0⟩:=mr (hg 0 _ rfl) rfl;obtain⟨a1,rfl,w1⟩:=mr (hg 1 _ rfl) rfl;obtain⟨a2,rfl,w2⟩:=mr (hg 2 _ rfl) rfl;obtain⟨a3,rfl⟩:=Si (hg 3 _ rfl) rfl;obtain⟨a4,rfl⟩:=Si (hg 4 _ rfl) rfl;exact⟨⟨a0,a1,a2,a3,a4⟩,⟨w1,w2⟩,rfl⟩
theorem UT {n:Nat} {vs:List Value} {x:DataW H×List MemPlace} (hl:vs.length=4) (h:DataW.trod enc Tryz.prog w base spare held n 126 vs=some x): ∃ y,True/\vs=qj y:=by
 obtain⟨k,hg⟩:=ay Tryz.underlying126 h;match vs,hl with
 |[c0,c1,c2,c3],_=>
  obtain⟨a0,rfl,w0⟩:=mr (hg 0 _ rfl) rfl;obtain⟨a1,rfl,w1⟩:=mr (hg 1 _ rfl) rfl;obtain⟨a2,rfl,w2⟩:=mr (hg 2 _ rfl) rfl;obtain⟨a3,rfl,w3⟩:=mr (hg 3 _ rfl) rfl;exact⟨⟨a0,a1,a2,a3⟩,trivial,rfl⟩
theorem Ui {n:Nat} {vs:List Value} {x:DataW H×List MemPlace} (hl:vs.length=2) (h:DataW.trod enc Tryz.prog w base spare held n 128 vs=some x): ∃ y,(zB y.frm/\zB y.to)/\vs=kV y:=by
 obtain⟨k,hg⟩:=ay Tryz.underlying128 h;match vs,hl with
 |[c0,c1],_=>
  obtain⟨a0,rfl,w0⟩:=mr (hg 0 _ rfl) rfl;obtain⟨a1,rfl,w1⟩:=mr (hg 1 _ rfl) rfl;exact⟨⟨a0,a1⟩,⟨w0,w1⟩,rfl⟩
theorem Uh {n:Nat} {vs:List Value} {x:DataW H×List MemPlace} (hl:vs.length=3) (h:DataW.trod enc Tryz.prog w base spare held n 130 vs=some x): ∃ y,(zB y.frm/\zB y.to/\zB y.stop)/\vs=kU y:=by
 obtain⟨k,hg⟩:=ay Tryz.underlying130 h;match vs,hl with
 |[c0,c1,c2],_=>
  obtain⟨a0,rfl,w0⟩:=mr (hg 0 _ rfl) rfl;obtain⟨a1,rfl,w1⟩:=mr (hg 1 _ rfl) rfl;obtain⟨a2,rfl,w2⟩:=mr (hg 2 _ rfl) rfl;exact⟨⟨a0,a1,a2⟩,⟨w0,w1,w2⟩,rfl⟩
theorem UU {n:Nat} {vs:List Value} {x:DataW H×List MemPlace} (hl:vs.length=4) (h:DataW.trod enc Tryz.prog w base spare held n 63 vs=some x): ∃ y,(zB y.frm/\zB y.to)/\vs=zt y:=by
 obtain⟨k,hg⟩:=ay Tryz.underlying63 h;match vs,hl with
 |[c0,c1,c2,c3],_=>
  obtain⟨a0,rfl,w0⟩:=mr (hg 0 _ rfl) rfl;obtain⟨a1,rfl,w1⟩:=mr (hg 1 _ rfl) rfl;obtain⟨a2,rfl,w2⟩:=mr (hg 2 _ rfl) rfl;obtain⟨a3,rfl⟩:=Si (hg 3 _ rfl) rfl;exact⟨⟨a0,a1,a2,a3⟩,⟨w0,w1⟩,rfl⟩
theorem UV {n:Nat} {vs:List Value} {x:DataW H×List MemPlace} (hl:vs.length=6) (h:DataW.trod enc Tryz.prog w base spare held n 65 vs=some x): ∃ y,y.id.length<=9223372036854775807/\vs=zu y:=by
 obtain⟨k,hg⟩:=ay Tryz.underlying65 h;match vs,hl with
 |[c0,c1,c2,c3,c4,c5],_=>
  obtain⟨a0,rfl,w0⟩:=TS (hg 0 _ rfl) rfl;obtain⟨a1,rfl,w1⟩:=mr (hg 1 _ rfl) rfl;obtain⟨a2,rfl,w2⟩:=mr (hg 2 _ rfl) rfl;obtain⟨a3,rfl,w3⟩:=mr (hg 3 _ rfl) rfl;obtain⟨a4,rfl,w4⟩:=mr (hg 4 _ rfl) rfl;obtain⟨a5,rfl,w5⟩:=mr (hg 5 _ rfl) rfl;exact⟨⟨a0.data.toList,a1,a2,a3,a4,a5⟩,w0,rfl⟩
theorem Uf {n:Nat} {vs:List Value} {x:DataW H×List MemPlace} (hl:vs.length=10) (h:DataW.trod enc Tryz.prog w base spare held n 61 vs=some x): ∃ y,y.id.length<=9223372036854775807/\vs=kD y:=by
 obtain⟨k,hg⟩:=ay Tryz.underlying61 h;match vs,hl with
 |[c0,c1,c2,c3,c4,c5,c6,c7,c8,c9],_=>
  obtain⟨a0,rfl,w0⟩:=TS (hg 0 _ rfl) rfl;obtain⟨y1,h1⟩: ∃ y:DataW H×List MemPlace,DataW.trod enc Tryz.prog w base spare held k 59 ((List.drop 1 [.string a0,c1,c2,c3,c4,c5,c6,c7,c8,c9]).take (Tryz.prog.cellsOf 59))=some y:=hg 1 _ rfl;rw[show Tryz.prog.cellsOf 59=7 by kernel_rfl]at h1;obtain⟨ys,m,-,-,-,hyl,hw⟩:=DataW.trod_array Tryz.underlying59 h1;have hk: ∀ d,d<7-> ∃ y:DataW H×List MemPlace,DataW.trod enc Tryz.prog w base spare held m 4 ((List.drop d [c1,c2,c3,c4,c5,c6,c7]).take (Tryz.prog.cellsOf 4))=some y:=fun d hd=>⟨_,by
   have:=(hw d (by omega)).trans (U2 (by omega));rw[TY,Nat.mul_one]at this;rw[TY];exact this⟩
  obtain⟨b0,e0⟩:=Si (hk 0 (by omega)) rfl;obtain⟨b1,e1⟩:=Si (hk 1 (by omega)) rfl;obtain⟨b2,e2⟩:=Si (hk 2 (by omega)) rfl;obtain⟨b3,e3⟩:=Si (hk 3 (by omega)) rfl;obtain⟨b4,e4⟩:=Si (hk 4 (by omega)) rfl;obtain⟨b5,e5⟩:=Si (hk 5 (by omega)) rfl;obtain⟨b6,e6⟩:=Si (hk 6 (by omega)) rfl;subst e0 e1 e2 e3 e4 e5 e6;obtain⟨a2,rfl,w2⟩:=mr (hg 2 _ rfl) rfl;obtain⟨a3,rfl,w3⟩:=mr (hg 3 _ rfl) rfl;exact⟨⟨a0.data.toList,⟨b0,b1,b2,b3,b4,b5,b6⟩,a2,a3⟩,w0,rfl⟩
theorem Tf {fuel:Nat} {v:Value} {x:DataW H×List MemPlace} (h:DataW.trod enc Tryz.prog w base spare held fuel 54 [v]=some x): ∃ cs,CallsIn w.heap.size w v cs/\ ∀ c∈cs,Ik c:=
 Sj Zw (by omega) Ik Tryz.underlying54 (by kernel_rfl) (fun _ _ _ hl h=>UR hl h) h
theorem UX {n:Nat} {vs:List Value} {x:DataW H×List MemPlace} (hl:vs.length=5) (h:DataW.trod enc Tryz.prog w base spare held n 56 vs=some x): ∃ y,(fP w.heap.size w y/\y.id.data.toList.length<=9223372036854775807)/\vs=tripCells y:=by
 obtain⟨k,hg⟩:=ay Tryz.underlying56 h;match vs,hl with
 |[c0,c1,c2,c3,c4],_=>
  obtain⟨a0,rfl,w0⟩:=TS (hg 0 _ rfl) rfl;obtain⟨a1,rfl,w1⟩:=mr (hg 1 _ rfl) rfl;obtain⟨a2,rfl,w2⟩:=mr (hg 2 _ rfl) rfl;obtain⟨a3,rfl⟩:=Si (hg 3 _ rfl) rfl;obtain⟨_,h4⟩:=Sr (hg 4 _ rfl) (by kernel_rfl) rfl;obtain⟨cs,hc,ho⟩:=Tf h4;exact⟨⟨a0,a1,a2,a3,c4,cs⟩,⟨⟨hc,ho⟩,w0⟩,rfl⟩
theorem UZ {r:Reach} {b0:Nat} {v:Value} {d:DataW H} {p:List MemPlace} (hv:Value.okWide Tryz.prog w r b0 36 v) (h:DataW.Trod enc Tryz.prog w base spare held 36 v d p):
  ∃ (V:TtV) (ts:List TripD) (t:TtD),v=JP V t/\yA w.heap.size w V ts t/\ZZ t/\zB t.fares.disc/\zB t.fares.within/\zB t.fares.cap:=by
 obtain⟨vs,rfl,hsz⟩:=okWide_struct Tryz.underlying36 hv;obtain⟨l⟩:=vs;obtain⟨fuel,hf⟩:=h;have hl:l.length=13:=by
  obtain⟨_,_,-,-,h1,-⟩:=DataW.trod_struct Tryz.underlying36 hf;exact h1.trans (by kernel_rfl)
 obtain⟨k,hg⟩:=ay Tryz.underlying36 hf;match l,hl with
 |[c0,c1,c2,c3,c4,c5,c6,c7,c8,c9,c10,c11,c12],_=>
  obtain⟨_,h0⟩:=Sr (hg 0 _ rfl) (by kernel_rfl) rfl;obtain⟨l0,s0,q0⟩:=Sj bP (by omega) _ Tryz.underlying23 (by kernel_rfl) (fun _ _ _ hl h=>UW hl h) h0;obtain⟨_,h1⟩:=Sr (hg 1 _ rfl) (by kernel_rfl) rfl;obtain⟨l1,s1,q1⟩:=Sj aG (by omega) _ Tryz.underlying24 (by kernel_rfl) (fun _ _ _ hl h=>UH hl h) h1;obtain⟨_,h2⟩:=Sr (hg 2 _ rfl) (by kernel_rfl) rfl;obtain⟨l2,s2,q2⟩:=Sj fV (by omega) _ Tryz.underlying25 (by kernel_rfl) (fun _ _ _ hl h=>Uf hl h) h2;obtain⟨_,h3⟩:=Sr (hg 3 _ rfl) (by kernel_rfl) rfl;obtain⟨l3,s3,q3⟩:=Sj gK (by omega) _ Tryz.underlying26 (by kernel_rfl) (fun _ _ _ hl h=>Ug hl h) h3;obtain⟨_,h4⟩:=Sr (hg 4 _ rfl) (by kernel_rfl) rfl;obtain⟨l4,s4,q4⟩:=Sj QZ (by omega) _ Tryz.underlying27 (by kernel_rfl) (fun _ _ _ hl h=>UX hl h) h4;obtain⟨_,h5⟩:=Sr (hg 5 _ rfl) (by kernel_rfl) rfl;obtain⟨l5,s5,q5⟩:=Sj bC (by omega) _ Tryz.underlying28 (by kernel_rfl) (fun _ _ _ hl h=>UT hl h) h5;obtain⟨_,h6⟩:=Sr (hg 6 _ rfl) (by kernel_rfl) rfl;obtain⟨l6,s6,q6⟩:=Sj ig (by omega) _ Tryz.underlying29 (by kernel_rfl) (fun _ _ _ hl h=>Ui hl h) h6;obtain⟨_,h7⟩:=Sr (hg 7 _ rfl) (by kernel_rfl) rfl;obtain⟨l7,s7,q7⟩:=Sj gY (by omega) _ Tryz.underlying30 (by kernel_rfl) (fun _ _ _ hl h=>Uh hl h) h7;obtain⟨_,h8⟩:=Sr (hg 8 _ rfl) (by kernel_rfl) rfl;obtain⟨l8,s8,q8⟩:=Sj bJ (by omega) _ Tryz.underlying31 (by kernel_rfl) (fun _ _ _ hl h=>UU hl h) h8;obtain⟨y9,h9⟩:=hg 9 _ rfl;replace h9:DataW.trod enc Tryz.prog w base spare held k 34 ((List.drop 9 [c0,c1,c2,c3,c4,c5,c6,c7,c8,c9,c10,c11,c12]).take (Tryz.prog.cellsOf 34))=some y9:=h9
  rw[show Tryz.prog.cellsOf 34=4 by kernel_rfl]at h9;obtain⟨k2,hf2⟩:=ay Tryz.underlying34 h9;have hf2: ∀ (j:Nat) (f:Field),_-> ∃ y:DataW H×List MemPlace,DataW.trod enc Tryz.prog w base spare held k2 f.type (([c9,c10,c11,c12].drop f.offset).take (Tryz.prog.cellsOf f.type))=some y:=hf2;obtain⟨_,g9⟩:=Sr (hf2 0 _ rfl) (by kernel_rfl) rfl;obtain⟨l9,s9,q9⟩:=Sj bM (by omega) _ Tryz.underlying32 (by kernel_rfl) (fun _ _ _ hl h=>UV hl h) g9;obtain⟨a10,rfl,w10⟩:=mr (hf2 1 _ rfl) rfl;obtain⟨a11,rfl,w11⟩:=mr (hf2 2 _ rfl) rfl;obtain⟨a12,rfl,w12⟩:=mr (hf2 3 _ rfl) rfl;refine⟨⟨c0,c1,c2,c3,c4,c5,c6,c7,c8,c9⟩,l4,⟨l0,l1,l2,l3,l4.map xOf,l5.map fun f=>⟨f.trip,f.frm,f.to,f.every⟩,l6.map fun x=>⟨x.frm,x.to⟩,l7,l8,⟨l9,a10,a11,a12⟩⟩,rfl,⟨s0,s1,s2,s3,⟨s4,fun t ht=>(q4 t ht).1⟩,rfl, ?_, ?_,s7,s8,s9⟩,⟨q0,q1,q2, ?_,q9,q3, ?_,q7,q8⟩,w10,w11,w12⟩
  ·
   rw[List.map_map,show(zS ∘ fun f:FreqD=>(⟨f.trip,f.frm,f.to,f.every⟩:Yl))=id from rfl,List.map_id];exact s5
  ·
   rw[List.map_map,show(ja ∘ fun x:ThrD=>(⟨x.frm,x.to⟩:Yo))=id from rfl,List.map_id];exact s6
  ·
   intro x hx;obtain⟨y,hy,rfl⟩:=List.mem_map.1 hx;exact(q4 y hy).2
  ·
   intro x hx;obtain⟨y,hy,rfl⟩:=List.mem_map.1 hx;exact q6 y hy
end
open Num Clk Dat Fld
theorem TK (V:TtV) (ts:List TripD) (t:TtD) (m:Int) (w:World) (rd:yA w.heap.size w V ts t) (ok:ZZ t) (env:ah m w):
  Calls Tryz.prog 4 #[JP V t] w fun q w'=>q= .returned (.bool true)/\Bl w w':=by
 have RA:=qA rd;have OK:=qA ok;have HE:=qA env;obtain⟨v0,v1,v2,v3,v4,v5,v6,v7,v8,v9⟩:=V;obtain⟨a0,k0,(rfl:v0=_),-,-⟩:=rd.stops.val;obtain⟨a1,k1,(rfl:v1=_),-,-⟩:=rd.routes.val;obtain⟨a2,k2,(rfl:v2=_),-,-⟩:=rd.cals.val;obtain⟨a3,k3,(rfl:v3=_),-,-⟩:=rd.excs.val;obtain⟨a4,k4,(rfl:v4=_),-,-⟩:=rd.trips.sl.val;obtain⟨a5,k5,(rfl:v5=_),-,-⟩:=rd.freqs.val;obtain⟨a6,k6,(rfl:v6=_),-,-⟩:=rd.thrus.val;obtain⟨a7,k7,(rfl:v7=_),-,-⟩:=rd.guars.val;obtain⟨a8,k8,(rfl:v8=_),-,-⟩:=rd.paths.val;obtain⟨a9,k9,(rfl:v9=_),-,-⟩:=rd.prods.val;clear rd ok env;unfold JP;simp only[U4]at RA ⊢;obtain⟨w2,hww2⟩: ∃ w',w.alloc (.cells #[.slice a0 t.stops.length k0, .slice a1 t.routes.length k1, .slice a2 t.cals.length k2, .slice a3 t.excs.length k3, .slice a4 ts.length k4, .slice a5 t.freqs.length k5, .slice a6 t.thrus.length k6, .slice a7 t.guars.length k7, .slice a8 t.paths.length k8, .slice a9 t.fares.prods.length k9, .int .i64 t.fares.disc, .int .i64 t.fares.within, .int .i64 t.fares.cap] 36)=w':=⟨_,rfl⟩;have b2:Bl w w2:=by rw[<-hww2];exact qE (qB _) _
 have HA:=qA (show w2.heap[w.heap.size]? =some (.cells #[.slice a0 t.stops.length k0, .slice a1 t.routes.length k1, .slice a2 t.cals.length k2, .slice a3 t.excs.length k3, .slice a4 ts.length k4, .slice a5 t.freqs.length k5, .slice a6 t.thrus.length k6, .slice a7 t.guars.length k7, .slice a8 t.paths.length k8, .slice a9 t.fares.prods.length k9, .int .i64 t.fares.disc, .int .i64 t.fares.within, .int .i64 t.fares.cap] 36 (0,0)) by rw[<-hww2];exact heap_alloc_new w _);have B2:=qA b2;have R2:=qA ((RA.out.bl b2 (U3 _)).up b2.size);have HW:=qA hww2;have hfew:=Uo ⟨.slice a0 t.stops.length k0, .slice a1 t.routes.length k1, .slice a2 t.cals.length k2, .slice a3 t.excs.length k3, .slice a4 ts.length k4, .slice a5 t.freqs.length k5, .slice a6 t.thrus.length k6, .slice a7 t.guars.length k7, .slice a8 t.paths.length k8, .slice a9 t.fares.prods.length k9⟩ ts t w2.heap.size w2 R2.out (U3 _);unfold JP at hfew;simp only at hfew;clear hww2 b2 RA;obtain⟨p0,p1,p2,p3,p4,p5,p6,p7,p8,p9,p10,p11,p12⟩:=kW HA.out;go_enter Tryz.func4,Tryz.ntmps4
 go_wp2_with fail;rw[HW.out];go_wp2_with (go_at_call 13;refine hfew.mono ?_)
 first|rintro y3 w3 ⟨bf,rfl⟩ b3|rintro y3 w3 ⟨⟨bf,rfl⟩,b3⟩
 have HA3:=qA (qX HA.out b3);have B3:=qA (qF B2.out b3);have R3:=qA ((R2.out.bl b3 (U3 _)).up b3.size);clear hfew b3 p0 p1 p2 p3 p4 p5 p6 p7 p8 p9 p10 p11 p12 HA HW B2 R2;cases bf
 ·
  skip
  have hx6:=TF m w3 (HE.out.bl B3.out);go_wp2_with (go_at_call 9;refine hx6.mono ?_)
  first|rintro y6 z6 rfl c6|rintro y6 z6 ⟨rfl,c6⟩
  go_wp2;go_ret;exact⟨rfl,qF B3.out c6⟩
 obtain⟨⟨s,e⟩,hf⟩: ∃ p,xI t=p:=⟨_,rfl⟩;have HF:=qA hf;have hfmt:=Vg ⟨.slice a0 t.stops.length k0, .slice a1 t.routes.length k1, .slice a2 t.cals.length k2, .slice a3 t.excs.length k3, .slice a4 ts.length k4, .slice a5 t.freqs.length k5, .slice a6 t.thrus.length k6, .slice a7 t.guars.length k7, .slice a8 t.paths.length k8, .slice a9 t.fares.prods.length k9⟩ ts t s e HF OK w3.heap.size w3 R3.out (U3 _) (HE.out.bl B3.out).nm;unfold JP at hfmt;simp only at hfmt;obtain⟨p0,p1,p2,p3,p4,p5,p6,p7,p8,p9,p10,p11,p12⟩:=kW HA3.out;clear hf;go_wp2_with (go_at_call 14;refine hfmt.mono ?_)
 first|rintro y4 w4 rfl b4|rintro y4 w4 ⟨rfl,b4⟩
 have HA4:=qA (qX HA3.out b4);have B4:=qA (qF B3.out b4);have hrf:=UE ⟨.slice a0 t.stops.length k0, .slice a1 t.routes.length k1, .slice a2 t.cals.length k2, .slice a3 t.excs.length k3, .slice a4 ts.length k4, .slice a5 t.freqs.length k5, .slice a6 t.thrus.length k6, .slice a7 t.guars.length k7, .slice a8 t.paths.length k8, .slice a9 t.fares.prods.length k9⟩ ts t s e HF OK w4.heap.size w4 ((R3.out.bl b4 (U3 _)).up b4.size) (U3 _);unfold JP at hrf;simp only at hrf;clear hfmt b4 p0 p1 p2 p3 p4 p5 p6 p7 p8 p9 p10 p11 p12 HA3 B3 R3;obtain⟨p0,p1,p2,p3,p4,p5,p6,p7,p8,p9,p10,p11,p12⟩:=kW HA4.out;go_wp2_with (go_at_call 15;refine hrf.mono ?_)
 first|rintro y5 w5 rfl b5|rintro y5 w5 ⟨rfl,b5⟩
 have B5:=qA (qF B4.out b5);clear hrf b5 p0 p1 p2 p3 p4 p5 p6 p7 p8 p9 p10 p11 p12 HA4 B4;have hx9:=TF m w5 (HE.out.bl B5.out);go_wp2_with (go_at_call 9;refine hx9.mono ?_)
 first|rintro y9 z9 rfl c9|rintro y9 z9 ⟨rfl,c9⟩
 go_wp2;go_ret;exact⟨rfl,qF B5.out c9⟩
end Go.Proofs.YtakedkcjplfgeaaGreatDoor
