/-
  PkWrA: what the law of feed needs of FedWrA, FedWrB, FedWrC, FedWrF. Conditions: those of each lemma.
-/
import Derived.Test.YtakedkcjplfgeaaGreatDoorPkRdB
import Derived.Test.YtakedkcjplfgeaaGreatDoorPkCkC
import Derived.Test.YtakedkcjplfgeaaGreatDoorPkNuC
import Derived.Test.YtakedkcjplfgeaaGreatDoorPkFldB
import Derived.Test.YtakedkcjplfgeaaGreatDoorPkChkA
import Derived.Test.YtakedkcjplfgeaaGreatDoorPkPlain
import Derived.Test.YtakedkcjplfgeaaGreatDoorPkFedA
import Derived.Deep.RegionHeld3
set_option maxRecDepth 1000000
set_option maxHeartbeats 32000000
namespace Go.Proofs.YtakedkcjplfgeaaGreatDoor
open Go.RowKit
open Frq Thr Tt Num Clk Dat Fld
theorem wday_c (n:Int) (t:List UInt8) (e:Int) (H:Hid (dfmt n=(t,e))) (w:World):Calls Tryz.prog 73 #[.int .i64 n] w fun q w'=>q= .returned (str t)∧Bl w w':=by
 have hp:=Da.dFormat_c n t e H w;go_enter Tryz.func73,Tryz.ntmps73
 go_wp2_with (go_at_call 149;refine hp.mono ?_;rintro y1 w1 ⟨rfl,b1⟩)
 go_ret;exact⟨rfl,b1⟩
theorem wtime_c (n:Int) (t:List UInt8) (e:Int) (H:Hid (fmt n=(t,e))) (w:World):Calls Tryz.prog 74 #[.int .i64 n] w fun q w'=>q= .returned (str t)∧Bl w w':=by
 have hp:=Ck.fmt_c n t e H w;go_enter Tryz.func74,Tryz.ntmps74
 go_wp2_with (go_at_call 150;refine hp.mono ?_;rintro y1 w1 ⟨rfl,b1⟩)
 go_ret;exact⟨rfl,b1⟩
theorem wdur_c (n:Int) (t:List UInt8) (e:Int) (H:Hid (Ck.fmtD n=(t,e))) (w:World):Calls Tryz.prog 76 #[.int .i64 n] w fun q w'=>q= .returned (str t)∧Bl w w':=by
 have hp:=Ck.fmtD_c n t e H w;go_enter Tryz.func76,Tryz.ntmps76
 go_wp2_with (go_at_call 151;refine hp.mono ?_;rintro y1 w1 ⟨rfl,b1⟩)
 go_ret;exact⟨rfl,b1⟩
theorem wprice_c (n:Int) (t:List UInt8) (e:Int) (H:Hid (fmtPrice n=(t,e))) (w:World):Calls Tryz.prog 77 #[.int .i64 n] w fun q w'=>q= .returned (str t)∧Bl w w':=by
 have hp:=Nu.formatPrice_c n t e H w;go_enter Tryz.func77,Tryz.ntmps77
 go_wp2_with (go_at_call 152;refine hp.mono ?_;rintro y1 w1 ⟨rfl,b1⟩)
 go_ret;exact⟨rfl,b1⟩
theorem wflag_c (v:Bool) (w:World):Calls Tryz.prog 70 #[.bool v] w fun q w'=>q= .returned (str (yesT v))∧w'=w:=by
 cases v
 all_goals
  go_enter Tryz.func70,Tryz.ntmps70
  go_wp2;go_ret;exact⟨rfl,rfl⟩
end Go.Proofs.YtakedkcjplfgeaaGreatDoor
namespace Go.Proofs.YtakedkcjplfgeaaGreatDoor
open Go.RowKit
open Frq Thr Tt Num Clk Dat Fld
def WAt (B gw:Nat) (ls:List (List UInt8)) (w:World):Prop:=B≤gw∧ ∃ v,w.heap[gw]? =some (.cells #[v] 90 (0,0))∧OwnS B v ls w
theorem ownS_far {B gw:Nat} {v:Value} {ls:List (List UInt8)} {w:World} {C:Array Value} (h:OwnS B v ls w) (hg:w.heap[gw]? =some (.cells C 90 (0,0))):v.ownBlock≠some gw:=fun e=>by
 rcases h.2 with⟨rfl,_⟩|⟨k,cap,cur,rfl,_,hk,_⟩
 · cases e
 ·
  simp only[Value.ownBlock,Option.some.injEq]at e;rw[e,hg,Option.some.injEq,Obj.cells.injEq]at hk;exact absurd hk.2.1 (by decide)
theorem WAt.bl {B gw:Nat} {ls:List (List UInt8)} {w w':World} (h:WAt B gw ls w) (hb:Bl w w'):WAt B gw ls w':=by
 obtain⟨h0,v,h1,h2⟩:=h;exact⟨h0,v,blk_bl h1 hb,ownS_bl h2 hb⟩
theorem fput_c (B gw:Nat) (ls fs:List (List UInt8)) (x:List UInt8) (e:Int) (H:Hid (joinR fs=(x,e))) (HL:Hid (∀ y∈fs,y.length≤131072)) (vf:Value) (B':Nat) (w:World) (hv:StrsIn B' w vf fs) (hB':B'≤w.heap.size) (hB:B≤w.heap.size) (h:WAt B gw ls w) (hls:ls.length≤1000000):
  Calls Tryz.prog 68 #[.pointer (some ⟨gw,0,none⟩),vf] w fun q w'=>q= .returned (.tuple #[])∧WAt B gw (ls++[x]) w'∧Below B w w'∧ ∀ (b:Nat) (C:Array Value) (T:TypeId),w.heap[b]? =some (.cells C T (0,0))→T≠9→T≠90→w'.heap[b]? =w.heap[b]? :=by
 obtain⟨i0,hi,hz0,hz1,hz2⟩:=info_parts info_str;obtain⟨h0,v,h1,h2⟩:=h;have hj:=join_c vf fs x e H HL B' w hv hB';obtain⟨av,cv,rfl⟩:=ownS_form h2;have hgl:=lt_of_block h1;have H1:=Lib.hid h1;have H2:=Lib.hid h2;clear h1 h2 hv;go_enter Tryz.func68,Tryz.ntmps68
 go_wp2_with (go_at_call 148;refine hj.mono ?_)
 rintro y1 w1 ⟨rfl,b1⟩;have K1:=Lib.hid (blk_bl H1.out b1);have O1:=Lib.hid (ownS_bl H2.out b1);have c0:w1.cell? ⟨gw,0,none⟩=some (.slice av ls.length cv):=blk_cell K1.out 0 _ rfl;have hs1:=b1.size;have B1:=Lib.hid b1;have hgl1:gw<w1.heap.size:=by omega
 clear b1 hj;go_wp2_with (at_builtin;refine wpList_append_own _ rfl _ _ 66 rfl B 9 i0 (.string ByteArray.empty) 1 16 Tryz.underlying66 hi hz0 hz1 hz2 rfl (by decide) _ _ _ rfl (ownS_alloc O1.out _) ⟨w1.heap.size,0,none⟩ 1 1 [str x] rfl rfl ?c1 ?c2 ?c3 ?c4 ?c5 ?_)
 case c1=>exact cells_of_lit _ (fun j u h=>by simpa using h)
 case c2=>simp[Value.oneCell']
 case c3=>unfold maxLen;omega
 case c4=>omega
 case c5=>simp;omega
 intro v3 w3 hown3 hgrow3 _;have far:=ownS_far O1.out K1.out;have K2:(w1.alloc (.cells #[str x] 9)).heap[gw]? =_:=blk_bl K1.out (bl_alloc (bl_refl _) _);have K3:=Lib.hid ((hgrow3.block gw (by simp;omega) (fun e=>far e.symm)).trans K2);have O3:=Lib.hid (ownS_app (m:=[x]) hown3);have KT:Hid (∀ (b:Nat) (C:Array Value) (T:TypeId),w.heap[b]? =some (.cells C T (0,0))→T≠9→T≠90→w3.heap[b]? =w.heap[b]? ∧b≠gw):=fun b C T hb h1 h2=>by
  have e1:=blk_bl hb B1.out;have e2:=blk_bl e1 (bl_alloc (bl_refl w1) (.cells #[str x] 9));refine⟨(hgrow3.block b (lt_of_block e2) (fun e=>?_)).trans (e2.trans hb.symm),fun e=>?_⟩
  ·
   rcases O1.out.2 with⟨hv,_⟩|⟨k,cap,cur,hv,_,hk,_⟩
   · rw[hv]at e;cases e
   ·
    rw[hv]at e;simp only[Value.ownBlock,Option.some.injEq]at e;rw[←e,e1,Option.some.injEq,Obj.cells.injEq]at hk;exact h1 hk.2.1
  ·
   rw[e,K1.out,Option.some.injEq,Obj.cells.injEq]at e1;exact h2 e1.2.1.symm
 have B3:Hid (Below B w w3):=(((B1.out.mono hB).alloc (by omega) _).grown hgrow3 (by simp;omega) (fun k hk=>(World.ownsRow.lt O1.out k hk).1));have c3:w3.cell? ⟨gw,0,none⟩=some (.slice av ls.length cv):=blk_cell K3.out 0 _ rfl;have f3:=Lib.frozen_of_heap K3.out 0;clear hown3 hgrow3 K2;obtain⟨a3,k3,rfl⟩:=ownS_form O3.out;have hl3:(ls++[x]).length=ls.length+1:=by rw[List.length_append];rfl
 rw[hl3]at O3 ⊢;clear hl3;go_wp2;go_end0;refine⟨rfl,⟨h0,_,blk_set K3.out 0 _, ?_⟩,B3.out.setCell (p:=⟨gw,0,none⟩) h0 _,fun b C T hb h1 h2=>(Below.heap_setCell w3 ⟨gw,0,none⟩ _ b (KT.out b C T hb h1 h2).2).trans (KT.out b C T hb h1 h2).1⟩;have h9:=ownS_far O3.out K3.out;refine World.ownsRow.kept O3.out (gr_set gw w3 0 _) ?_;generalize (Value.slice a3 (ls.length+1) k3).ownBlock=ob at h9 ⊢
 cases ob with
 |none=>exact .inl rfl
 |some k=>exact .inr (fun e=>h9 e)
end Go.Proofs.YtakedkcjplfgeaaGreatDoor
namespace Go.Proofs.YtakedkcjplfgeaaGreatDoor
open Go.RowKit
open Frq Thr Tt Num Clk Dat Fld
theorem wperm_c (c:CallD) (w:World):Calls Tryz.prog 75 #[.agg #[.int .i64 c.stop, .int .i64 c.arrive, .int .i64 c.depart, .bool c.board, .bool c.alight]] w fun q w'=>q= .returned (str (permT c))∧Bl w w':=by
 obtain⟨s,a,d,b,al⟩:=c;cases b<;>cases al
 all_goals
  go_enter Tryz.func75,Tryz.ntmps75
  go_wp2;go_ret;exact⟨rfl,by first|exact bl_refl _|exact bl_alloc (bl_refl _) _⟩
theorem wmode_c (m:Int) (w:World) (nm:NamesAt w):Calls Tryz.prog 71 #[.int .i64 m] w fun q w'=>q= .returned (.tuple #[str (modeT m), .bool (!outside m 0 7)])∧w'=w:=by
 have g0:w.cell? ⟨0,0,none⟩=some (str [98,117,115]):=nm 0 _ rfl;have g1:w.cell? ⟨0,1,none⟩=some (str [116,114,97,109]):=nm 1 _ rfl;have g2:w.cell? ⟨0,2,none⟩=some (str [109,101,116,114,111]):=nm 2 _ rfl;have g3:w.cell? ⟨0,3,none⟩=some (str [114,97,105,108]):=nm 3 _ rfl;have g4:w.cell? ⟨0,4,none⟩=some (str [102,101,114,114,121]):=nm 4 _ rfl;have g5:w.cell? ⟨0,5,none⟩=some (str [99,111,97,99,104]):=nm 5 _ rfl;have g6:w.cell? ⟨0,6,none⟩=some (str [99,97,98,108,101]):=nm 6 _ rfl;have g7:w.cell? ⟨0,7,none⟩=some (str [102,117,110,105,99,117,108,97,114]):=nm 7 _ rfl;clear nm;by_cases hm:0≤m∧m≤7
 ·
  obtain rfl|rfl|rfl|rfl|rfl|rfl|rfl|rfl:m=0∨m=1∨m=2∨m=3∨m=4∨m=5∨m=6∨m=7:=by omega
  all_goals
   clear hm;go_enter Tryz.func71,Tryz.ntmps71
   go_wp2_with (go_at_call 120;refine(known_c _ _).mono ?_;rintro y1 w1 ⟨rfl,rfl⟩)
   go_wp2;go_ret2;exact⟨rfl,rfl⟩
 ·
  have ho:outside m 0 7=true:=by unfold outside;simp;omega
  have ht:modeT m=[]:=by unfold modeT;rw[if_neg hm]
  rw[ht,ho];have hk:=known_c m w;rw[ho]at hk;clear hm ho ht;go_enter Tryz.func71,Tryz.ntmps71
  go_wp2_with (go_at_call 120;refine hk.mono ?_;rintro y1 w1 ⟨rfl,rfl⟩)
  go_ret2;exact⟨rfl,rfl⟩
end Go.Proofs.YtakedkcjplfgeaaGreatDoor
namespace Go.Proofs.YtakedkcjplfgeaaGreatDoor
open Go.RowKit
open Frq Thr Tt Num Clk Dat Fld
structure Kp (B:Nat) (w w':World):Prop where
 bel:Below B w w'
 blk: ∀ (b:Nat) (C:Array Value) (T:TypeId),w.heap[b]? =some (.cells C T (0,0))→T≠9→T≠90→w'.heap[b]? =w.heap[b]?
theorem Kp.of_bl {B:Nat} {w w':World} (h:Bl w w') (hB:B≤w.heap.size):Kp B w w':=⟨h.mono hB,fun b _ _ hb _ _=>h.block b (lt_of_block hb)⟩
theorem Kp.trans {B:Nat} {a b c:World} (h:Kp B a b) (k:Kp B b c):Kp B a c:=
 ⟨h.bel.trans k.bel,fun q C T hq h1 h2=>(k.blk q C T ((h.blk q C T hq h1 h2).trans hq) h1 h2).trans (h.blk q C T hq h1 h2)⟩
theorem Kp.cellT {B:Nat} {w w':World} (h:Kp B w w') {b o:Nat} {C:Array Value} {T:TypeId} {v:Value} (hb:w.heap[b]? =some (.cells C T (0,0))) (h1:T≠9) (h2:T≠90) (hc:w.cell? ⟨b,o,none⟩=some v):w'.cell? ⟨b,o,none⟩=some v:=
 (World.cell?_of_block (a:=⟨b,o,none⟩) (h.blk b C T hb h1 h2)).trans hc
theorem Kp.cellB {B:Nat} {w w':World} (h:Kp B w w') {b o:Nat} {v:Value} (hb:b<B) (hc:w.cell? ⟨b,o,none⟩=some v):w'.cell? ⟨b,o,none⟩=some v:=
 (World.cell?_of_block (a:=⟨b,o,none⟩) (h.bel.block b hb)).trans hc
theorem TtRd.far {B:Nat} {w w':World} {V:TtV} {ts:List TripD} {t:TtD} (h:TtRd B w V ts t) (hb:Below B w w'):TtRd B w' V ts t:=
 ⟨h.stops.below hb,h.routes.below hb,h.cals.below hb,h.excs.below hb,⟨h.trips.sl.below hb,fun x hx=>⟨(h.trips.ok x hx).calls.below hb,(h.trips.ok x hx).ok⟩⟩,h.same,h.freqs.below hb,h.thrus.below hb,h.guars.below hb,h.paths.below hb,h.prods.below hb⟩
structure WS (B gw tb:Nat) (V:TtV) (ts:List TripD) (t:TtD) (w0:World) (ls:List (List UInt8)) (w:World):Prop where
 rd:TtRd B w V ts t
 tt:TtAt tb V t.fares w
 wr:WAt B gw ls w
 nm:NamesAt w
 bel:Below B w0 w
 size:B≤w.heap.size
theorem NamesAt.far {B:Nat} {w w':World} (h:NamesAt w) (hl:0<B) (hb:Below B w w'):NamesAt w':=fun i x hx=>(World.cell?_of_block (a:=⟨0,i,none⟩) (hb.block _ hl)).trans (h i x hx)
theorem WS.bl {B gw tb:Nat} {V:TtV} {ts:List TripD} {t:TtD} {w0:World} {ls:List (List UInt8)} {w w':World} (h:WS B gw tb V ts t w0 ls w) (hl:0<B) (hb:Bl w w'):WS B gw tb V ts t w0 ls w':=
 ⟨h.rd.bl hb h.size,blk_bl h.tt hb,h.wr.bl hb,h.nm.far hl (hb.mono h.size),h.bel.trans (hb.mono h.size),Nat.le_trans h.size hb.size⟩
theorem WS.put {B gw tb:Nat} {V:TtV} {ts:List TripD} {t:TtD} {w0:World} {ls ls':List (List UInt8)} {w w':World} (h:WS B gw tb V ts t w0 ls w) (hl:0<B) (hw:WAt B gw ls' w') (hk:Kp B w w'):WS B gw tb V ts t w0 ls' w':=
 ⟨h.rd.far hk.bel,(hk.blk tb _ _ h.tt (by decide) (by decide)).trans h.tt,hw,h.nm.far hl hk.bel,h.bel.trans hk.bel,Nat.le_trans h.size hk.bel.size⟩
theorem NamesAt.bl {w w':World} (h:NamesAt w) (hb:Bl w w'):NamesAt w':=fun i x hx=>((bl_cell hb).1 _ _ (World.block_lt_of_cell? w _ (h i x hx))).trans (h i x hx)
theorem durT_fmt (n:Int):(Ck.fmtD n).1=durT n:=by
 unfold Ck.fmtD durT;split
 · rfl
 · rfl
theorem idAt_at {α:Type} {l:List α} {f:α→List UInt8} {q:Nat} {y:α} (h:l[q]? =some y):idAt (l.map f) (q:Int)=f y:=by
 unfold idAt;rw[Int.toNat_natCast,List.getD_eq_getElem?_getD,List.getElem?_map,h];rfl
theorem idAt_trip {t:TtD} {ts:List TripD} (hs:t.trips=ts.map xOf) {q:Nat} {e:TripD} (h:ts[q]? =some e):idAt (t.trips.map (·.id)) (q:Int)=e.id.data.toList:=by
 rw[hs,List.map_map];exact idAt_at (f:=fun x:TripD=>x.id.data.toList) h
theorem SlIn.openB {α:Type} {cells:α→List Value} {sz B:Nat} {w:World} {xs:List α} {a:Option Addr} {n cap:Nat} (h:SlIn cells sz B w (.slice a n cap) xs) (h0:0<xs.length):
  ∃ (b o:Nat),a=some ⟨b,o,none⟩∧b<B∧ ∀ (k:Nat) (x:α),xs[k]? =some x→ ∀ (j:Nat) (u:Value),(cells x)[j]? =some u→w.cell? ⟨b,o+k*sz+j,none⟩=some u:=by
 obtain⟨a',cap',hv,h1,h2,h3⟩:=h;simp only[Value.slice.injEq]at hv;obtain⟨rfl,-,rfl⟩:=hv;exact h3 h0
theorem at_int {α:Type} {l:List α} {i:Int} (h:0≤i∧i<l.length): ∃ (q:Nat) (y:α),i=(q:Int)∧l[q]? =some y:=
 ⟨i.toNat,l[i.toNat]'(by omega),by omega,List.getElem?_eq_getElem (by omega)⟩
theorem rows_len {α:Type} (A:List (List UInt8)) (l:List α) (f:α→List UInt8) (k:Nat):(A++(l.take k).map f).length≤A.length+l.length:=by
 rw[List.length_append,List.length_map,List.length_take];omega
theorem rows_next {α:Type} {A:List (List UInt8)} {l:List α} {f:α→List UInt8} {k:Nat} {x:α} (h:l[k]? =some x):(A++(l.take k).map f)++[f x]=A++(l.take (k+1)).map f:=by
 rw[take_snoc_at h,List.map_append,List.append_assoc];rfl
theorem WS.row {α:Type} {B gw tb:Nat} {V:TtV} {ts:List TripD} {t:TtD} {w0:World} {w:World} {A:List (List UInt8)} {l:List α} {f:α→List UInt8} {k:Nat} {x:α} {r:List UInt8} (h:WS B gw tb V ts t w0 ((A++(l.take k).map f)++[r]) w) (hx:l[k]? =some x) (hr:f x=r):WS B gw tb V ts t w0 (A++(l.take (k+1)).map f) w:=by
 rw[←rows_next hx,hr];exact h
theorem WS.all {α:Type} {B gw tb:Nat} {V:TtV} {ts:List TripD} {t:TtD} {w0:World} {w:World} {A:List (List UInt8)} {l:List α} {f:α→List UInt8} {k:Nat} (h:WS B gw tb V ts t w0 (A++(l.take k).map f) w) (hk:l.length≤k):WS B gw tb V ts t w0 (A++l.map f) w:=by
 rw[List.take_of_length_le hk]at h;exact h
theorem WS.reshape {B gw tb:Nat} {V:TtV} {ts:List TripD} {t:TtD} {w0:World} {w:World} {A A':List (List UInt8)} (h:WS B gw tb V ts t w0 A w) (e:A=A'):WS B gw tb V ts t w0 A' w:=by
 rw[←e];exact h
abbrev ttW (t:TtD) (ts:List TripD) (a0:Option Addr) (k0:Nat) (a1:Option Addr) (k1:Nat) (a2:Option Addr) (k2:Nat) (a3:Option Addr) (k3:Nat) (a4:Option Addr) (k4:Nat) (a5:Option Addr) (k5:Nat) (a6:Option Addr) (k6:Nat) (a7:Option Addr) (k7:Nat) (a8:Option Addr) (k8:Nat) (a9:Option Addr) (k9:Nat):TtV:=
 ⟨.slice a0 t.stops.length k0, .slice a1 t.routes.length k1, .slice a2 t.cals.length k2, .slice a3 t.excs.length k3, .slice a4 ts.length k4, .slice a5 t.freqs.length k5, .slice a6 t.thrus.length k6, .slice a7 t.guars.length k7, .slice a8 t.paths.length k8, .slice a9 t.fares.prods.length k9⟩
def rowStop (x:StopD):List UInt8:=rowT [kw 0,x.id,itoa x.zone,yesT x.free,itoa x.change]
def rowRoute (x:RouteD):List UInt8:=rowT [kw 1,x.id,modeT x.mode,yesT x.bikes]
def rowCal (x:CalD):List UInt8:=rowT [kw 2,x.id,weekT x.week,(dfmt x.frm).1,(dfmt x.to).1]
def rowExc (t:TtD) (x:ExcD):List UInt8:=rowT [kw 3,idAt (t.cals.map (·.id)) x.cal,(dfmt x.day).1,if x.added then wAdded else wRemoved]
def rowTrip (t:TtD) (x:TripX):List UInt8:=rowT [kw 4,x.id,idAt (t.routes.map (·.id)) x.route,idAt (t.cals.map (·.id)) x.cal,yesT x.free]
def rowsTrip (t:TtD) (x:TripX):List (List UInt8):=rowTrip t x::x.calls.map (callRow t)
def rowFreq (t:TtD) (x:FreqX):List UInt8:=rowT [kw 5,idAt (t.trips.map (·.id)) x.trip,(fmt x.frm).1,(fmt x.to).1,durT x.every]
def rowThru (t:TtD) (x:ThruX):List UInt8:=rowT [kw 6,idAt (t.trips.map (·.id)) x.frm,idAt (t.trips.map (·.id)) x.to]
def rowGua (t:TtD) (x:GuaD):List UInt8:=rowT [kw 7,idAt (t.trips.map (·.id)) x.frm,idAt (t.trips.map (·.id)) x.to,idAt (t.stops.map (·.id)) x.stop]
def rowPath (t:TtD) (x:PathD):List UInt8:=rowT [kw 8,idAt (t.stops.map (·.id)) x.frm,idAt (t.stops.map (·.id)) x.to,durT x.secs,yesT x.free]
def rowFare (t:TtD):List UInt8:=rowT [kw 11,(fmtPrice t.fares.disc).1,durT t.fares.within,(fmtPrice t.fares.cap).1]
def rowProd (x:ProdD):List UInt8:=rowT [kw 9,x.id,(fmtPrice x.price).1,itoa x.rides,itoa x.zones,durT x.secs,modesT x.modes]
def tabR (t:TtD):List (List UInt8):=[]++t.stops.map rowStop++t.routes.map rowRoute++t.cals.map rowCal++t.excs.map (rowExc t)++t.trips.flatMap (rowsTrip t)
def fareR (t:TtD):List (List UInt8):=if t.fares.disc=0∧t.fares.within=0∧t.fares.cap=0 then[]else[rowFare t]
def restR (t:TtD) (A:List (List UInt8)):List (List UInt8):=A++t.freqs.map (rowFreq t)++t.thrus.map (rowThru t)++t.guars.map (rowGua t)++t.paths.map (rowPath t)++fareR t++t.fares.prods.map rowProd
theorem rows_all (t:TtD):restR t (tabR t)=rowsF t:=by
 unfold restR tabR rowsF fareR;simp only[List.append_assoc,List.nil_append];rfl
structure Lim (t:TtD):Prop where
 stops:t.stops.length≤64
 routes:t.routes.length≤64
 cals:t.cals.length≤64
 excs:t.excs.length≤256
 trips:t.trips.length≤256
 freqs:t.freqs.length≤64
 thrus:t.thrus.length≤128
 guars:t.guars.length≤128
 paths:t.paths.length≤512
 prods:t.fares.prods.length≤16
 calls: ∀ x∈t.trips,x.calls.length≤32
theorem lim_of {t:TtD} (h:(ttChk t).2.2=0):Lim t:=by
 have hp: ∀ k,k<10→(partChk t k).2=0:=fun k hk=>ttFrom_zero t 10 0 h k (Nat.zero_le _) (by omega)
 have h9:(fareChk t.fares).2=0:=hp 9 (by decide);have h4:(checkS 256 (tripErr t.stops.length t.routes.length t.cals.length) t.trips).2=0:=hp 4 (by decide);refine⟨(check_ok (hp 0 (by decide))).1,(check_ok (hp 1 (by decide))).1,(check_ok (hp 2 (by decide))).1,(check_ok (hp 3 (by decide))).1,(check_ok h4).1, ?_, ?_,(check_ok (hp 7 (by decide))).1,(check_ok (hp 8 (by decide))).1, ?_,fun x hx=>?_⟩
 ·
  have:=(check_ok (show(checkS 64 (freqErr (t.trips.map (·.calls))) (t.freqs.map freqOf)).2=0 from hp 5 (by decide))).1;rw[List.length_map]at this;exact this
 ·
  have:=(check_ok (show(checkS 128 (thrErr (t.trips.map trpX) (t.freqs.map freqOf)) (t.thrus.map thruOf)).2=0 from hp 6 (by decide))).1;rw[List.length_map]at this;exact this
 ·
  unfold fareChk at h9;split at h9
  · exact absurd h9 (by decide)
  · exact(check_ok h9).1
 ·
  obtain⟨k,hk⟩:=List.getElem?_of_mem hx;have e:=(check_ok h4).2 hk;unfold tripErr at e;obtain⟨-,e⟩:=ite_zero (by decide) e;obtain⟨-,e⟩:=ite_zero (by decide) e;obtain⟨-,e⟩:=ite_zero (by decide) e;unfold callsErr at e;obtain⟨hn,-⟩:=ite_zero (by decide) e;omega
theorem trips_len {t:TtD}: ∀ (xs:List TripX),(∀ x∈xs,x.calls.length≤32)→(xs.flatMap (rowsTrip t)).length≤33*xs.length
 |[],_=>by simp
 |x::r,h=>by
  have h1:=h x (by simp);have h2:=trips_len (t:=t) r (fun y hy=>h y (List.mem_cons_of_mem _ hy));rw[List.flatMap_cons,List.length_append];have h3:(rowsTrip t x).length=x.calls.length+1:=by simp[rowsTrip]
  rw[h3,List.length_cons];omega
end Go.Proofs.YtakedkcjplfgeaaGreatDoor
