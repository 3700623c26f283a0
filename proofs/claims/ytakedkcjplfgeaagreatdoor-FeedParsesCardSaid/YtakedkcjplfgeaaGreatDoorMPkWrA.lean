/- Contracts, proved. Conditions: theirs. -/
import Derived.Test.YtakedkcjplfgeaaGreatDoorMPkRdB
import Derived.Test.YtakedkcjplfgeaaGreatDoorMPkChkA
set_option maxRecDepth 1000000
set_option maxHeartbeats 32000000
open Go.Proofs.Tryz
namespace Go.Proofs.YtakedkcjplfgeaaGreatDoor
open Go.RowKit
open Frq Thr Tt Num Clk Dat Fld
theorem lD (n:Int) (t:Ψ) (e:Int) (H:Hid (jb n=(t,e))) (w:World):Calls prog 73 #[n] w λq w'=>q=.returned (qP t)/\Bl w w':=by
 have hp:=Da.CP n t e H w;go_enter func73,ntmps73
 go_wp2_with (go_at_call 149;refine hp.mono ?_;rintro y1 w1 ⟨rfl,b1⟩)
 go_ret;exact⟨rfl,b1⟩
theorem Wx (n:Int) (t:Ψ) (e:Int) (H:Hid (xU n=(t,e))) (w:World):Calls prog 74 #[n] w λq w'=>q=.returned (qP t)/\Bl w w':=by
 have hp:=Ck.Px n t e H w;go_enter func74,ntmps74
 go_wp2_with (go_at_call 150;refine hp.mono ?_;rintro y1 w1 ⟨rfl,b1⟩)
 go_ret;exact⟨rfl,b1⟩
theorem lF (n:Int) (t:Ψ) (e:Int) (H:Hid (Ck.gW n=(t,e))) (w:World):Calls prog 76 #[n] w λq w'=>q=.returned (qP t)/\Bl w w':=by
 have hp:=Ck.OQ n t e H w;go_enter func76,ntmps76
 go_wp2_with (go_at_call 151;refine hp.mono ?_;rintro y1 w1 ⟨rfl,b1⟩)
 go_ret;exact⟨rfl,b1⟩
theorem ag (n:Int) (t:Ψ) (e:Int) (H:Hid (qW n=(t,e))) (w:World):Calls prog 77 #[n] w λq w'=>q=.returned (qP t)/\Bl w w':=by
 have hp:=Nu.az n t e H w;go_enter func77,ntmps77
 go_wp2_with (go_at_call 152;refine hp.mono ?_;rintro y1 w1 ⟨rfl,b1⟩)
 go_ret;exact⟨rfl,b1⟩
theorem Wv (v:Bool) (w:World):Calls prog 70 #[v] w λq w'=>q=.returned (qP (kG v))/\w'=w:=by
 cases v
 all_goals
  go_enter func70,ntmps70
  go_wp2;go_ret;exact⟨rfl,rfl⟩
def Ea (B gw:Nat) (ls:List Ψ) (w:World):Prop:=B<=gw/\ ∃ v,w.heap[gw]? =some (.cells #[v] 90 (0,0))/\VV B v ls w
theorem nZ {B gw:Nat} {v:Value} {ls:List Ψ} {w:World} {C:Array Value} (h:VV B v ls w) (hg:w.heap[gw]? =some (.cells C 90 (0,0))):v.ownBlock≠some gw:=λe=>by
 rcases h.2 with⟨rfl,_⟩|⟨k,cap,cur,rfl,_,hk,_⟩
 · cases e
 simp only[Value.ownBlock,qAA]at e;rw[e,hg,qAA,Obj.cells.injEq]at hk;exact absurd hk.2.1 δ
theorem Ea.bl {B gw:Nat} {ls:List Ψ} {w w':World} (h:Ea B gw ls w) (hb:Bl w w'):Ea B gw ls w':=by
 obtain⟨h0,v,h1,h2⟩:=h;exact⟨h0,v,qX h1 hb,Wp h2 hb⟩
theorem QO (B gw:Nat) (ls fs:List Ψ) (x:Ψ) (e:Int) (H:Hid (zL fs=(x,e))) (HL:Hid (∀ y∈fs,y.length<=131072)) (vf:Value) (B':Nat) (w:World) (hv:VW B' w vf fs) (hB':B'<=w.heap.size) (hB:B<=w.heap.size) (h:Ea B gw ls w) (hls:ls.length<=1000000):
  Calls prog 68 #[(gw,0),vf] w λq w'=>q=.returned (.tuple #[])/\Ea B gw (ls++[x]) w'/\Below B w w'/\ ∀ (b:Nat) (C:Array Value) (T:TypeId),w.heap[b]? =some (.cells C T (0,0))->T≠9->T≠90->w'.heap[b]? =w.heap[b]? :=by
 obtain⟨i0,hi,hz0,hz1,hz2⟩:=info_parts nD;obtain⟨h0,v,h1,h2⟩:=h;have hj:=gZ vf fs x e H HL B' w hv hB';obtain⟨av,cv,rfl⟩:=YH h2;have hgl:=lt_of_block h1;have H1:=qA h1;have H2:=qA h2;clear h1 h2 hv;go_enter func68,ntmps68
 go_wp2_with (go_at_call 148;refine hj.mono ?_)
 rintro y1 w1 ⟨rfl,b1⟩;have K1:=qA (qX H1.o b1);have O1:=qA (Wp H2.o b1);have c0:w1.cell? (gw,0)=some (.slice av ls.length cv):=qC K1.o 0 _ rfl;have hs1:=b1.size;have B1:=qA b1;have hgl1:gw<w1.heap.size:=ω
 clear b1 hj;go_wp2_with (at_builtin;refine wpList_append_own _ rfl _ _ 66 rfl B 9 i0 (ByteArray.empty:Z) 1 16 underlying66 hi hz0 hz1 hz2 rfl δ _ _ _ rfl (YZ O1.o _) (w1.heap.size,0) 1 1 [qP x] rfl rfl ?c1 ?c2 ?c3 ?c4 ?c5 ?_)
 case c1=>exact zl _ (λj u h=>η)
 case c2=>simp[Value.oneCell']
 case c3=>unfold maxLen;omega
 case c4=>omega
 case c5=>simp;omega
 intro v3 w3 hown3 hgrow3 _;have far:=nZ O1.o K1.o;have K2:(w1.alloc (.cells #[qP x] 9)).heap[gw]? =_:=qX K1.o (qE (qB _) _);have K3:=qA ((hgrow3.block gw τ (λe=>far e.symm)).trans K2);have O3:=qA (Xx (m:=[x]) hown3);have KT:Hid (∀ (b:Nat) (C:Array Value) (T:TypeId),w.heap[b]? =some (.cells C T (0,0))->T≠9->T≠90->w3.heap[b]? =w.heap[b]? /\b≠gw):=λb C T hb h1 h2=>by
  have e1:=qX hb B1.o;have e2:=qX e1 (qE (qB w1) (.cells #[qP x] 9));refine⟨(hgrow3.block b (lt_of_block e2) (λe=>?_)).trans (e2.trans hb.symm),λe=>?_⟩
  ·
   rcases O1.o.2 with⟨hv,_⟩|⟨k,cap,cur,hv,_,hk,_⟩
   · rw[hv]at e;cases e
   rw[hv]at e;simp only[Value.ownBlock,qAA]at e;rw[<-e,e1,qAA,Obj.cells.injEq]at hk;exact h1 hk.2.1
  rw[e,K1.o,qAA,Obj.cells.injEq]at e1;exact h2 e1.2.1.symm
 have B3:Hid (Below B w w3):=(((B1.o.mono hB).alloc ω _).grown hgrow3 τ (λk hk=>(qAG O1.o k hk).1));have c3:w3.cell? (gw,0)=some (.slice av ls.length cv):=qC K3.o 0 _ rfl;have f3:=U8 K3.o 0;clear hown3 hgrow3 K2;obtain⟨a3,k3,rfl⟩:=YH O3.o;have hl3:(ls++[x]).length=ls.length+1:=by rw[U1];rfl
 rw[hl3]at O3 ⊢;clear hl3;go_wp2;go_end0;refine⟨rfl,⟨h0,_,qQ K3.o 0 _, ?_⟩,B3.o.setCell (p:=((gw,0):A)) h0 _,λb C T hb h1 h2=>(Below.heap_setCell w3 (gw,0) _ b (KT.o b C T hb h1 h2).2).trans (KT.o b C T hb h1 h2).1⟩;have h9:=nZ O3.o K3.o;refine World.ownsRow.kept O3.o (zH gw w3 0 _) ?_;generalize (Value.slice a3 (ls.length+1) k3).ownBlock=ob at h9 ⊢
 cases ob with
 |none=>exact .inl rfl
 |some k=>exact .inr (λe=>h9 e)
theorem NU (c:CallD) (w:World):Calls prog 75 #[.agg #[c.stop,c.arrive,c.depart,c.board,c.alight]] w λq w'=>q=.returned (qP (Qh c))/\Bl w w':=by
 obtain⟨s,a,d,b,al⟩:=c;cases b<;>cases al
 all_goals
  go_enter func75,ntmps75
  go_wp2;go_ret;exact⟨rfl,by first|exact qB _|exact qE (qB _) _⟩
theorem NT (m:Int) (w:World) (nm:yS w):Calls prog 71 #[m] w λq w'=>q=.returned (.tuple #[qP (Qe m),.bool (!qK m 0 7)])/\w'=w:=by
 have g0:w.cell? (0,0)=some (qP [98,117,115]):=nm 0 _ rfl;have g1:w.cell? (0,1)=some (qP [116,114,97,109]):=nm 1 _ rfl;have g2:w.cell? (0,2)=some (qP [109,101,116,114,111]):=nm 2 _ rfl;have g3:w.cell? (0,3)=some (qP [114,97,105,108]):=nm 3 _ rfl;have g4:w.cell? (0,4)=some (qP [102,101,114,114,121]):=nm 4 _ rfl;have g5:w.cell? (0,5)=some (qP [99,111,97,99,104]):=nm 5 _ rfl;have g6:w.cell? (0,6)=some (qP [99,97,98,108,101]):=nm 6 _ rfl;have g7:w.cell? (0,7)=some (qP [102,117,110,105,99,117,108,97,114]):=nm 7 _ rfl;clear nm;by_cases hm:0<=m/\m<=7
 ·
  obtain rfl|rfl|rfl|rfl|rfl|rfl|rfl|rfl:m=0∨m=1∨m=2∨m=3∨m=4∨m=5∨m=6∨m=7:=ω
  all_goals
   clear hm;go_enter func71,ntmps71
   go_wp2_with (go_at_call 120;refine(gm _ _).mono ?_;rintro y1 w1 ⟨rfl,rfl⟩)
   go_wp2;go_ret2;exact⟨rfl,rfl⟩
 have ho:qK m 0 7=true:=by unfold qK;simp;omega
 have ht:Qe m=[]:=by unfold Qe;rw[U5 hm]
 rw[ht,ho];have hk:=gm m w;rw[ho]at hk;clear hm ho ht;go_enter func71,ntmps71
 go_wp2_with (go_at_call 120;refine hk.mono ?_;rintro y1 w1 ⟨rfl,rfl⟩)
 go_ret2;exact⟨rfl,rfl⟩
structure Kp (B:Nat) (w w':World):Prop where
 bel:Below B w w'
 blk: ∀ (b:Nat) (C:Array Value) (T:TypeId),w.heap[b]? =some (.cells C T (0,0))->T≠9->T≠90->w'.heap[b]? =w.heap[b]?
theorem Kp.of_bl {B:Nat} {w w':World} (h:Bl w w') (hB:B<=w.heap.size):Kp B w w':=⟨h.mono hB,λb _ _ hb _ _=>h.block b (lt_of_block hb)⟩
theorem Kp.trans {B:Nat} {a b c:World} (h:Kp B a b) (k:Kp B b c):Kp B a c:=
 ⟨h.bel.trans k.bel,λq C T hq h1 h2=>(k.blk q C T ((h.blk q C T hq h1 h2).trans hq) h1 h2).trans (h.blk q C T hq h1 h2)⟩
theorem Kp.cellT {B:Nat} {w w':World} (h:Kp B w w') {b o:Nat} {C:Array Value} {T:TypeId} {v:Value} (hb:w.heap[b]? =some (.cells C T (0,0))) (h1:T≠9) (h2:T≠90) (hc:w.cell? (b,o)=some v):w'.cell? (b,o)=some v:=
 (World.cell?_of_block (a:=((b,o):A)) (h.blk b C T hb h1 h2)).trans hc
theorem Kp.cellB {B:Nat} {w w':World} (h:Kp B w w') {b o:Nat} {v:Value} (hb:b<B) (hc:w.cell? (b,o)=some v):w'.cell? (b,o)=some v:=
 (World.cell?_of_block (a:=((b,o):A)) (h.bel.block b hb)).trans hc
theorem yA.far {B:Nat} {w w':World} {V:TtV} {ts:List TripD} {t:TtD} (h:yA B w V ts t) (hb:Below B w w'):yA B w' V ts t:=
 ⟨h.stops.below hb,h.routes.below hb,h.cals.below hb,h.excs.below hb,⟨h.trips.sl.below hb,λx hx=>⟨(h.trips.ok x hx).calls.below hb,(h.trips.ok x hx).ok⟩⟩,h.same,h.freqs.below hb,h.thrus.below hb,h.guars.below hb,h.paths.below hb,h.prods.below hb⟩
structure WS (B gw tb:Nat) (V:TtV) (ts:List TripD) (t:TtD) (w0:World) (ls:List Ψ) (w:World):Prop where
 rd:yA B w V ts t
 tt:JV tb V t.fares w
 wr:Ea B gw ls w
 nm:yS w
 bel:Below B w0 w
 size:B<=w.heap.size
theorem yS.far {B:Nat} {w w':World} (h:yS w) (hl:0<B) (hb:Below B w w'):yS w':=λi x hx=>(World.cell?_of_block (a:=((0,i):A)) (hb.block _ hl)).trans (h i x hx)
theorem WS.bl {B gw tb:Nat} {V:TtV} {ts:List TripD} {t:TtD} {w0:World} {ls:List Ψ} {w w':World} (h:WS B gw tb V ts t w0 ls w) (hl:0<B) (hb:Bl w w'):WS B gw tb V ts t w0 ls w':=
 ⟨h.rd.bl hb h.size,qX h.tt hb,h.wr.bl hb,h.nm.far hl (hb.mono h.size),h.bel.trans (hb.mono h.size),Ux h.size hb.size⟩
theorem WS.put {B gw tb:Nat} {V:TtV} {ts:List TripD} {t:TtD} {w0:World} {ls ls':List Ψ} {w w':World} (h:WS B gw tb V ts t w0 ls w) (hl:0<B) (hw:Ea B gw ls' w') (hk:Kp B w w'):WS B gw tb V ts t w0 ls' w':=
 ⟨h.rd.far hk.bel,(hk.blk tb _ _ h.tt δ δ).trans h.tt,hw,h.nm.far hl hk.bel,h.bel.trans hk.bel,Ux h.size hk.bel.size⟩
theorem yS.bl {w w':World} (h:yS w) (hb:Bl w w'):yS w':=λi x hx=>((qG hb).1 _ _ (World.block_lt_of_cell? w _ (h i x hx))).trans (h i x hx)
theorem Yx (n:Int):(Ck.gW n).1=jc n:=by
 unfold Ck.gW jc;split
 · rfl
 rfl
theorem Qv {α:Type} {l:List α} {f:α->Ψ} {q:Nat} {y:α} (h:l[q]? =some y):jF (l.map f) (q:Int)=f y:=by
 unfold jF;rw[Int.toNat_natCast,List.getD_eq_getElem?_getD,List.getElem?_map,h];rfl
theorem jA.openB {α:Type} {cells:α->List Value} {sz B:Nat} {w:World} {xs:List α} {a:Option Addr} {n cap:Nat} (h:jA cells sz B w (.slice a n cap) xs) (h0:0<xs.length):
  ∃ (b o:Nat),a=some ((b,o):A)/\b<B/\ ∀ (k:Nat) (x:α),xs[k]? =some x-> ∀ (j:Nat) (u:Value),(cells x)[j]? =some u->w.cell? (b,o+k*sz+j)=some u:=by
 obtain⟨a',cap',hv,h1,h2,h3⟩:=h;simp only[Value.slice.injEq]at hv;obtain⟨rfl,-,rfl⟩:=hv;exact h3 h0
theorem Qm {α:Type} {l:List α} {i:Int} (h:0<=i/\i<l.length): ∃ (q:Nat) (y:α),i=(q:Int)/\l[q]? =some y:=
 ⟨i.toNat,l[i.toNat]'ω,ω,U2 ω⟩
theorem xC {α:Type} (A:List Ψ) (l:List α) (f:α->Ψ) (k:Nat):(A++(l.take k).map f).length<=A.length+l.length:=by
 rw[U1,U4,List.length_take];omega
theorem Dv {α:Type} {A:List Ψ} {l:List α} {f:α->Ψ} {k:Nat} {x:α} (h:l[k]? =some x):(A++(l.take k).map f)++[f x]=A++(l.take (k+1)).map f:=by
 rw[ql h,List.map_append,List.append_assoc];rfl
theorem WS.row {α:Type} {B gw tb:Nat} {V:TtV} {ts:List TripD} {t:TtD} {w0:World} {w:World} {A:List Ψ} {l:List α} {f:α->Ψ} {k:Nat} {x:α} {r:Ψ} (h:WS B gw tb V ts t w0 ((A++(l.take k).map f)++[r]) w) (hx:l[k]? =some x) (hr:f x=r):WS B gw tb V ts t w0 (A++(l.take (k+1)).map f) w:=by
 rw[<-Dv hx,hr];exact h
theorem WS.all {α:Type} {B gw tb:Nat} {V:TtV} {ts:List TripD} {t:TtD} {w0:World} {w:World} {A:List Ψ} {l:List α} {f:α->Ψ} {k:Nat} (h:WS B gw tb V ts t w0 (A++(l.take k).map f) w) (hk:l.length<=k):WS B gw tb V ts t w0 (A++l.map f) w:=by
 rw[U9 hk]at h;exact h
theorem WS.reshape {B gw tb:Nat} {V:TtV} {ts:List TripD} {t:TtD} {w0:World} {w:World} {A A':List Ψ} (h:WS B gw tb V ts t w0 A w) (e:A=A'):WS B gw tb V ts t w0 A' w:=by
 rw[<-e];exact h
abbrev JQ (t:TtD) (ts:List TripD) (a0:Option Addr) (k0:Nat) (a1:Option Addr) (k1:Nat) (a2:Option Addr) (k2:Nat) (a3:Option Addr) (k3:Nat) (a4:Option Addr) (k4:Nat) (a5:Option Addr) (k5:Nat) (a6:Option Addr) (k6:Nat) (a7:Option Addr) (k7:Nat) (a8:Option Addr) (k8:Nat) (a9:Option Addr) (k9:Nat):TtV:=
 ⟨.slice a0 t.stops.length k0,.slice a1 t.routes.length k1,.slice a2 t.cals.length k2,.slice a3 t.excs.length k3,.slice a4 ts.length k4,.slice a5 t.freqs.length k5,.slice a6 t.thrus.length k6,.slice a7 t.guars.length k7,.slice a8 t.paths.length k8,.slice a9 t.fares.prods.length k9⟩
def xK (x:ZH):Ψ:=jZ [kw 0,x.id,jO x.zone,kG x.free,jO x.change]
def ve (x:xy):Ψ:=jZ [kw 1,x.id,Qe x.mode,kG x.bikes]
def Qp (x:Yj):Ψ:=jZ [kw 2,x.id,Qk x.week,(jb x.frm).1,(jb x.to).1]
def wX (t:TtD) (x:Yk):Ψ:=jZ [kw 3,jF (t.cals.map (·.id)) x.cal,(jb x.day).1,if x.added then yN else jM]
def iH (t:TtD) (x:TripX):Ψ:=jZ [kw 4,x.id,jF (t.routes.map (·.id)) x.route,jF (t.cals.map (·.id)) x.cal,kG x.free]
def yG (t:TtD) (x:TripX):List Ψ:=iH t x::x.calls.map (Qs t)
def Q5 (t:TtD) (x:Yl):Ψ:=jZ [kw 5,jF (t.trips.map (·.id)) x.trip,(xU x.frm).1,(xU x.to).1,jc x.every]
def Q8 (t:TtD) (x:Yo):Ψ:=jZ [kw 6,jF (t.trips.map (·.id)) x.frm,jF (t.trips.map (·.id)) x.to]
def Je (t:TtD) (x:wL):Ψ:=jZ [kw 7,jF (t.trips.map (·.id)) x.frm,jF (t.trips.map (·.id)) x.to,jF (t.stops.map (·.id)) x.stop]
def Q7 (t:TtD) (x:Qq):Ψ:=jZ [kw 8,jF (t.stops.map (·.id)) x.frm,jF (t.stops.map (·.id)) x.to,jc x.secs,kG x.free]
def iG (t:TtD):Ψ:=jZ [kw 11,(qW t.fares.disc).1,jc t.fares.within,(qW t.fares.cap).1]
def Jf (x:JA):Ψ:=jZ [kw 9,x.id,(qW x.price).1,jO x.rides,jO x.zones,jc x.secs,vU x.modes]
def RX (t:TtD):List Ψ:=[]++t.stops.map xK++t.routes.map ve++t.cals.map Qp++t.excs.map (wX t)++t.trips.flatMap (yG t)
def dK (t:TtD):List Ψ:=if t.fares.disc=0/\t.fares.within=0/\t.fares.cap=0 then[]else[iG t]
def eQ (t:TtD) (A:List Ψ):List Ψ:=A++t.freqs.map (Q5 t)++t.thrus.map (Q8 t)++t.guars.map (Je t)++t.paths.map (Q7 t)++dK t++t.fares.prods.map Jf
theorem IA (t:TtD):eQ t (RX t)=JO t:=by
 unfold eQ RX JO dK;simp only[List.append_assoc,List.nil_append];rfl
structure Rj (t:TtD):Prop where
 stops:t.stops.length<=64
 routes:t.routes.length<=64
 cals:t.cals.length<=64
 excs:t.excs.length<=256
 trips:t.trips.length<=256
 freqs:t.freqs.length<=64
 thrus:t.thrus.length<=128
 guars:t.guars.length<=128
 paths:t.paths.length<=512
 prods:t.fares.prods.length<=16
 calls: ∀ x∈t.trips,x.calls.length<=32
theorem Om {t:TtD} (h:(Qj t).2.2=0):Rj t:=by
 have hp: ∀ k,k<10->(zV t k).2=0:=λk hk=>Ko t 10 0 h k (qAD _) ω
 have h9:(vF t.fares).2=0:=hp 9 δ;have h4:(qZ 256 (zG t.stops.length t.routes.length t.cals.length) t.trips).2=0:=hp 4 δ;refine⟨(yV (hp 0 δ)).1,(yV (hp 1 δ)).1,(yV (hp 2 δ)).1,(yV (hp 3 δ)).1,(yV h4).1, ?_, ?_,(yV (hp 7 δ)).1,(yV (hp 8 δ)).1, ?_,λx hx=>?_⟩
 ·
  have:=(yV (show(qZ 64 (Zk (t.trips.map (·.calls))) (t.freqs.map zS)).2=0 from hp 5 δ)).1;rw[U4]at this;exact this
 ·
  have:=(yV (show(qZ 128 (zU (t.trips.map IV) (t.freqs.map zS)) (t.thrus.map ja)).2=0 from hp 6 δ)).1;rw[U4]at this;exact this
 ·
  unfold vF at h9;split at h9
  · exact absurd h9 δ
  exact(yV h9).1
 obtain⟨k,hk⟩:=List.getElem?_of_mem hx;have e:=(yV h4).2 hk;unfold zG at e;obtain⟨-,e⟩:=qp δ e;obtain⟨-,e⟩:=qp δ e;obtain⟨-,e⟩:=qp δ e;unfold yU at e;obtain⟨hn,-⟩:=qp δ e;omega
theorem Vt {t:TtD}: ∀ (xs:List TripX),(∀ x∈xs,x.calls.length<=32)->(xs.flatMap (yG t)).length<=33*xs.length
 |[],_=>by simp
 |x::r,h=>by
  have h1:=h x σ;have h2:=Vt (t:=t) r (λy hy=>h y (List.mem_cons_of_mem _ hy));rw[List.flatMap_cons,U1];have h3:(yG t x).length=x.calls.length+1:=by simp[yG]
  rw[h3,U7];omega
