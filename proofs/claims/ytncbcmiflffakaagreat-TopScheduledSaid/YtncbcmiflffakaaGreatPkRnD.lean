/-
  What the laws of top need of TopRnD. Conditions: those of each lemma.
-/
import Derived.Test.YtncbcmiflffakaaGreatPkRnA
import Derived.Test.YtncbcmiflffakaaGreatPkFqI
import Derived.Test.YtncbcmiflffakaaGreatPkCkC
set_option maxRecDepth 1000000
set_option maxHeartbeats 32000000
namespace Go.Proofs.YtncbcmiflffakaaGreat
open Go.RowKit
open Frq Thr Tt Num Clk Dat Fld Da
def upTo (cont:List RunD→Bool):List RunD→List RunD→List RunD
 |pre,[]=>pre
 |pre,x::r=>if cont (pre++[x])then upTo cont (pre++[x]) r else pre++[x]
theorem upTo_end (cont:List RunD→Bool) (l:List RunD) {k:Nat} (h:l.length≤k):upTo cont (l.take k) (l.drop k)=l:=by
 rw[List.drop_of_length_le h,List.take_of_length_le h];rfl
theorem upTo_go {cont:List RunD→Bool} {l:List RunD} {k:Nat} {x:RunD} (hx:l[k]? =some x) (h:cont (l.take k++[x])=true):upTo cont (l.take k) (l.drop k)=upTo cont (l.take (k+1)) (l.drop (k+1)):=by
 obtain⟨hk,rfl⟩:=List.getElem?_eq_some_iff.1 hx;rw[List.drop_eq_getElem_cons hk];show(if _ then _ else _)=_
 rw[if_pos h,take_snoc' hx]
theorem upTo_stop {cont:List RunD→Bool} {l:List RunD} {k:Nat} {x:RunD} (hx:l[k]? =some x) (h:cont (l.take k++[x])=false):upTo cont (l.take k) (l.drop k)=l.take k++[x]:=by
 obtain⟨hk,rfl⟩:=List.getElem?_eq_some_iff.1 hx;rw[List.drop_eq_getElem_cons hk];show(if _ then _ else _)=_
 rw[h];rfl
structure Adds (fn:Nat) (caps:Array Value) (g:Nat) (cont:List RunD→Bool) (I:List RunV→Option Nat→World→Prop):Prop where
 enters: ∀ (args:Array Value) (w:World),(callFunc fn args).run Tryz.prog w= .ok (.enter fn args) w
 keep: ∀ xs o w w',I xs o w→Bl w w'→I xs o w'
 turn: ∀ xs o w w' b C,I xs o w→Gr b w w'→w.heap[b]? =some (.cells C 66 (0,0))→o≠some b→g<b→I xs o w'
 lt: ∀ xs o w,I xs o w→g<w.heap.size∧ ∀ r,o=some r→r<w.heap.size
 add: ∀ (xs:List RunV) (o:Option Nat) (x:RunV) (w:World),I xs o w→w.ownsRow (g+1) 68 5 x.v x.r.calls.length (x.r.calls.flatMap callCells)→cont (xs.map (·.r))=true→
  Calls Tryz.prog fn (#[runVal x]++caps) w fun e w'=>e= .returned (.bool (cont ((xs++[x]).map (·.r))))∧ ∃ o',I (xs++[x]) o' w'∧Added g o o' w w'∧Below g w w'
theorem expandP_no {t:TtD} {k:Nat} {day:Int} {x:TripX} (hx:t.trips[k]? =some x) (ha:activeT t x.cal day=false):expandP t k day=[]:=by
 unfold expandP;simp[hx,ha]
theorem expandP_one {t:TtD} {k:Nat} {day:Int} {x:TripX} (hx:t.trips[k]? =some x) (ha:activeT t x.cal day=true) (hr:Fq.repB (t.freqs.map freqOf) k=false):expandP t k day=[runOf x k day 0 x.calls]:=by
 have hr':repS (t.freqs.map freqOf) k=false:=hr;unfold expandP;simp[hx,ha,hr']
theorem expandP_many {t:TtD} {k:Nat} {day:Int} {x:TripX} (hx:t.trips[k]? =some x) (ha:activeT t x.cal day=true) (hr:Fq.repB (t.freqs.map freqOf) k=true):expandP t k day=(Fq.fold (Fq.allS (t.freqs.map freqOf) k)).mapIdx fun i s=>runOf x k day i (callsS x.calls s).1:=by
 have hr':repS (t.freqs.map freqOf) k=true:=hr;unfold expandP;simp[hx,ha,hr']
theorem upTo_one (cont:List RunD→Bool) (r:RunD):upTo cont [] [r]=[r]:=by
 show(if _ then _ else _)=_
 split<;>rfl
theorem calls_set {B R:Nat} {w:World} {v:Value} {cs:List CallD} {k day rt:Int} {s:ByteArray} {f c:Bool} {u2 u7:Value} {T:TypeId} (h:CallsIn B w v cs)
  (hR:w.heap[R]? =some (.cells #[.int .i64 k, .int .i64 day,u2, .string s, .int .i64 rt, .bool f, .bool c,u7] T (0,0))) (i:Nat) (u:Value):CallsIn B (w.setCell ⟨R,i,none⟩ u) v cs:=by
 obtain⟨a,cap,rfl,h1,h2,h3⟩:=h;refine⟨a,cap,rfl,h1,h2,fun h0=>?_⟩;obtain⟨b,o,rfl,hb,hc⟩:=h3 h0;have hne:b≠R:=by
  rintro rfl;obtain⟨x,hx⟩: ∃ x,cs[0]? =some x:=⟨_,List.getElem?_eq_getElem h0⟩;have e0:=hc 0 x hx 0 _ rfl;have e1:=hc 0 x hx 1 _ rfl;have e3:=hc 0 x hx 3 _ rfl;have e4:=hc 0 x hx 4 _ rfl;rw[cell_of_row w b _ _ T (0,0) hR]at e0 e1 e3 e4;simp only[Nat.zero_mul,Nat.add_zero]at e0 e1 e3 e4;rcases o with _|_|_|_|_|o
  · simp at e3
  · simp at e3
  · simp at e1
  · simp at e0
  · simp at e1
  · simp at e3
 refine⟨b,o,rfl,hb,fun i' x hx j u' hu=>?_⟩;have:=hc i' x hx j u' hu;unfold World.cell? at this ⊢;rw[Below.heap_setCell w ⟨R,i,none⟩ u b hne];exact this
structure ExpAt (I:List RunV→Option Nat→World→Prop) (cont:List RunD→Bool) (g R:Nat) (o0:Option Nat) (x:TripX) (k:Nat) (day:Int) (E:List RunD) (w6:World) (j:Nat) (ys:List RunV) (o:Option Nat) (wr:World):Prop where
 i:I ys o wr
 map:ys.map (·.r)=E.take j
 go:upTo cont (E.take j) (E.drop j)=upTo cont [] E
 yes:cont (E.take j)=true
 row:o=o0∨ ∃ r,o=some r∧w6.heap.size≤r
 old: ∀ b,b<w6.heap.size→b≠g→o0≠some b→b≠R→wr.heap[b]? =w6.heap[b]?
 run: ∃ u2 u7,wr.heap[R]? =some (.cells #[.int .i64 k, .int .i64 day,u2, .string ⟨x.id.toArray⟩, .int .i64 x.route, .bool x.free, .bool false,u7] 66 (0,0))
 below:Below g w6 wr
theorem str_id (b:ByteArray):Value.string b=str b.data.toList:=by
 cases b
 simp
theorem own_low {w:World} {base base':Nat} {e:TypeId} {sz n:Nat} {v:Value} {xs:List Value} (h:w.ownsRow base e sz v n xs) (hb:base'≤base):w.ownsRow base' e sz v n xs:=by
 obtain⟨h1,h2⟩:=h;refine⟨h1,h2.imp id ?_⟩;rintro⟨g,cap,cur,a,b,c⟩;exact⟨g,cap,cur,a,Nat.le_trans hb b,c⟩
theorem expand_c (fn:Nat) (caps:Array Value) (Bc:Nat) (cont:List RunD→Bool) (I:List RunV→Option Nat→World→Prop) (o0:Option Nat) (HA:Hid (Adds fn caps Bc cont I)) (h0:cont []=true)
  (V:TtV) (ts:List TripD) (t:TtD) (hs:Hid (SoundT t)) (k:Nat) (day:Int) (hk:k<t.trips.length) (hd:Hid (dvalid day=true)) (B:Nat) (w:World) (rd:TtRd B w V ts t) (hB:B≤Bc) (hI:I [] o0 w):
  Calls Tryz.prog 113 #[ttV V t, .int .i64 k, .int .i64 day, .func (.func fn) #[] caps] w fun e w'=>e= .returned (.tuple #[])∧ ∃ ys o',I ys o' w'∧ys.map (·.r)=upTo cont [] (expandP t k day)∧Below Bc w w':=by
 obtain⟨hBw,ho0⟩:=HA.out.lt _ _ _ hI;have HO0:=Lib.hid ho0;clear ho0;have RD:=Lib.hid rd;have HI:=Lib.hid hI;obtain⟨x,hx⟩: ∃ x,t.trips[k]? =some x:=⟨_,List.getElem?_eq_getElem hk⟩;obtain⟨tr,htr⟩: ∃ tr,ts[k]? =some tr:=⟨_,List.getElem?_eq_getElem (by have:=congrArg List.length rd.same;rw[List.length_map]at this;omega)⟩;have hxt:x=xOf tr:=by
  rw[rd.same,List.getElem?_map,htr]at hx;exact(Option.some.inj hx).symm
 obtain⟨c,hc,hcn⟩:=hs.out.cal hx;have htok:=hs.out.trip hx;obtain⟨l0,l1,l2,l3,l4,-⟩:=hs.out.lens;obtain⟨v0,v1,v2,v3,v4,v5,v6,v7,v8,v9⟩:=V;obtain⟨a2,k2,(rfl:v2=_),-,-⟩:=rd.cals.val;obtain⟨a3,k3,(rfl:v3=_),-,-⟩:=rd.excs.val;obtain⟨a4,k4,(rfl:v4=_),-,-⟩:=rd.trips.sl.val;obtain⟨a5,k5,hv5,-,-⟩:=rd.freqs.val;rw[List.length_map]at hv5;obtain rfl:v5=_:=hv5;obtain⟨bt,ot,tr',hbt,-,htr',hct⟩:=rd.trips.sl.get (k:=k) (by have:=(List.getElem?_eq_some_iff.1 htr).1;exact this) (bl_refl w) (by omega);obtain rfl:tr'=tr:=Option.some.inj (htr'.symm.trans htr);subst hbt;have hbtl:bt<w.heap.size:=by
  obtain⟨b,o,cap,y,hv,-,-,hb,-,-⟩:=rd.trips.sl.at (k:=k) ((List.getElem?_eq_some_iff.1 htr).1);simp only[Value.slice.injEq,Option.some.injEq,Addr.mk.injEq,and_true,true_and]at hv;omega
 have htl:ts.length=t.trips.length:=by rw[rd.same,List.length_map]
 have ht0:w.cell? ⟨bt,ot+k*5,none⟩=some (str x.id):=by rw[hxt];exact(hct 0 _ rfl).trans (congrArg some (str_id _))
 have ht1:w.cell? ⟨bt,ot+k*5+1,none⟩=some (.int .i64 x.route):=by rw[hxt];exact hct 1 _ rfl
 have ht2:w.cell? ⟨bt,ot+k*5+2,none⟩=some (.int .i64 tr'.cal):=hct 2 _ rfl;have ht3:w.cell? ⟨bt,ot+k*5+3,none⟩=some (.bool x.free):=by rw[hxt];exact hct 3 _ rfl
 have ht4:w.cell? ⟨bt,ot+k*5+4,none⟩=some tr'.v:=hct 4 _ rfl;have htc:=(rd.trips.ok tr' (List.mem_of_getElem? htr)).calls;have hto:=(rd.trips.ok tr' (List.mem_of_getElem? htr)).ok;have hcx:tr'.calls=x.calls:=by rw[hxt];rfl
 rw[hcx]at htc hto;obtain⟨a6,k6,hv6,-,-⟩:=htc.val;rw[hv6]at ht4 htc;have HTC:=Lib.hid (And.intro htc hto);have hcal:((tr'.cal.toNat:Nat):Int)=tr'.cal:=by rw[hxt]at hcn;exact hcn
 have hcc:t.cals[tr'.cal.toNat]? =some c:=by rw[hxt]at hc;exact hc
 have hact:activeT t x.cal day=activeC c t.excs tr'.cal day:=by
  unfold activeT;rw[hxt];show(match t.cals[tr'.cal.toNat]? with|some c=>activeC c t.excs tr'.cal day|none=>false)=_
  rw[hcc]
 have HActv:=Lib.hid (fun(w1:World) (h:Bl w w1)=>active_c _ _ t.cals t.excs tr'.cal.toNat c hcc day hd (by omega) (by omega) B w1 (rd.cals.below (h.mono (by omega))) (rd.excs.below (h.mono (by omega))) (by have:=h.size;omega));rw[hcal]at HActv;obtain⟨act,hac⟩: ∃ b,activeC c t.excs tr'.cal day=b:=⟨_,rfl⟩;rw[hac]at HActv hact;have HX:=Lib.hid (And.intro hx (And.intro hxt (And.intro hact htok)));have hkI:(k:Int)<(ts.length:Int):=by omega
 have hkN:k<ts.length:=by omega
 have hk0:(0:Int)≤k:=by omega
 have htlI:(ts.length:Int)≤256:=by omega
 clear htc hto hcx hv6 hk htl hx hxt hact htok htr' hct hcc hac hcal hc hcn rd hI htr;unfold ttV;go_enter Tryz.func113,Tryz.ntmps113
 go_wp2_with fail;have hT:=heap_alloc_new w (.cells (ttCells ⟨v0,v1, .slice a2 t.cals.length k2, .slice a3 t.excs.length k3, .slice (some ⟨bt,ot,none⟩) ts.length k4, .slice a5 t.freqs.length k5,v6,v7,v8,v9⟩ t.fares) 35);have b1:Bl w (w.alloc (.cells (ttCells ⟨v0,v1, .slice a2 t.cals.length k2, .slice a3 t.excs.length k3, .slice (some ⟨bt,ot,none⟩) ts.length k4, .slice a5 t.freqs.length k5,v6,v7,v8,v9⟩ t.fares) 35)):=bl_alloc (bl_refl _) _;have z1:(w.alloc (.cells (ttCells ⟨v0,v1, .slice a2 t.cals.length k2, .slice a3 t.excs.length k3, .slice (some ⟨bt,ot,none⟩) ts.length k4, .slice a5 t.freqs.length k5,v6,v7,v8,v9⟩ t.fares) 35)).heap.size=w.heap.size+1:=by simp
 change Code.wp _ _ _ _ (w.alloc (.cells (ttCells ⟨v0,v1, .slice a2 t.cals.length k2, .slice a3 t.excs.length k3, .slice (some ⟨bt,ot,none⟩) ts.length k4, .slice a5 t.freqs.length k5,v6,v7,v8,v9⟩ t.fares) 35));generalize w.alloc (.cells (ttCells ⟨v0,v1, .slice a2 t.cals.length k2, .slice a3 t.excs.length k3, .slice (some ⟨bt,ot,none⟩) ts.length k4, .slice a5 t.freqs.length k5,v6,v7,v8,v9⟩ t.fares) 35)=w1 at hT b1 z1 ⊢
 have hold: ∀ w',Bl w1 w'→(w'.cell? ⟨w.heap.size,2,none⟩=some (.slice a2 t.cals.length k2)∧w'.cell? ⟨w.heap.size,3,none⟩=some (.slice a3 t.excs.length k3)∧w'.cell? ⟨w.heap.size,4,none⟩=some (.slice (some ⟨bt,ot,none⟩) ts.length k4)∧w'.cell? ⟨bt,ot+k*5+2,none⟩=some (.int .i64 tr'.cal)):=fun w' hb=>by
  have hh:=blk_bl hT hb;exact⟨blk_cell hh 2 _ rfl,blk_cell hh 3 _ rfl,blk_cell hh 4 _ rfl,((bl_cell (bl_next b1 hb)).1 _ _ hbtl).trans ht2⟩
 have HT:=Lib.hid (And.intro hT (And.intro b1 z1));have hbd:=bl_next b1 (bl_drew (bl_refl w1));clear hT b1 z1;first
 |go_region_held3 (fun w'=>w'.cell? ⟨w.heap.size,2,none⟩=some (.slice a2 t.cals.length k2)∧w'.cell? ⟨w.heap.size,3,none⟩=some (.slice a3 t.excs.length k3)∧w'.cell? ⟨w.heap.size,4,none⟩=some (.slice (some ⟨bt,ot,none⟩) ts.length k4)∧w'.cell? ⟨bt,ot+k*5+2,none⟩=some (.int .i64 tr'.cal))
   (first|exact hold _ (bl_drew (bl_refl _))|exact hold _ (bl_next (bl_drew (bl_refl _)) b3))
   ((go_at_call 131;refine(HActv.out _ hbd).mono ?_;rintro e w3 ⟨rfl,b3⟩))
 |fail
 have B3:=bl_next (bl_drew (bl_refl w1)) b3;have hT3:=blk_bl HT.out.1 B3;have BW3:=bl_next HT.out.2.1 B3;obtain⟨p0,p1,p2,p3,p4⟩:(w3.cell? ⟨bt,ot+k*5,none⟩=some (str x.id))∧(w3.cell? ⟨bt,ot+k*5+1,none⟩=some (.int .i64 x.route))∧(w3.cell? ⟨bt,ot+k*5+2,none⟩=some (.int .i64 tr'.cal))∧(w3.cell? ⟨bt,ot+k*5+3,none⟩=some (.bool x.free))∧(w3.cell? ⟨bt,ot+k*5+4,none⟩=some (.slice a6 x.calls.length k6)):=
  ⟨((bl_cell BW3).1 _ _ hbtl).trans ht0,((bl_cell BW3).1 _ _ hbtl).trans ht1,((bl_cell BW3).1 _ _ hbtl).trans ht2,((bl_cell BW3).1 _ _ hbtl).trans ht3,((bl_cell BW3).1 _ _ hbtl).trans ht4⟩
 have q4:w3.cell? ⟨w.heap.size,4,none⟩=some (.slice (some ⟨bt,ot,none⟩) ts.length k4):=blk_cell hT3 4 _ rfl;have q5:w3.cell? ⟨w.heap.size,5,none⟩=some (.slice a5 t.freqs.length k5):=blk_cell hT3 5 _ rfl;have hz3:w.heap.size<w3.heap.size:=by have:=B3.size;have:=HT.out.2.2;omega
 have hbt3:bt<w3.heap.size:=by omega
 have HB3:=Lib.hid (And.intro B3 (And.intro hT3 BW3));have hd1:0≤day∧day≤36524:=by
  have:=hd.out;unfold dvalid at this;simpa using this
 obtain⟨hd1,hd2⟩:=hd1;clear B3 hT3 BW3 b3 hbd hold ht0 ht1 ht2 ht3 ht4;cases act with
 |false=>
  have he:=expandP_no HX.out.1 HX.out.2.2.1;have HE:=Lib.hid he;clear he;go_wp2_with fail;refine bodyPost_ret (results_none rfl _ _ _) rfl ?_;exact⟨rfl,[],_,HA.out.keep _ _ _ _ HI.out HB3.out.2.2,(by rw[HE.out];rfl),(HB3.out.2.2.mono (by omega))⟩
 |true=>
  obtain⟨rp,hrp⟩: ∃ r,Fq.repB (t.freqs.map freqOf) k=r:=⟨_,rfl⟩;have HRp:=Lib.hid hrp;have HRep:=Lib.hid (fun(w1:World) (h:Bl w w1)=>Fq.rep_b _ (t.freqs.map freqOf) k rp (Lib.hid hrp) B w1 (RD.out.freqs.below (h.mono (by omega))) (by have:=h.size;omega));clear hrp;have hBx:Bl w3 ((w3.alloc (.cells #[.string ⟨x.id.toArray⟩, .int .i64 x.route, .int .i64 tr'.cal, .bool x.free, .slice a6 x.calls.length k6] 63)).alloc (.cells #[.int .i64 k, .int .i64 day, .int .i64 0, .string ⟨x.id.toArray⟩, .int .i64 x.route, .bool x.free, .bool false, .slice none 0 0] 66)):=bl_alloc (bl_alloc (bl_refl _) _) _;have hbx:((w3.alloc (.cells #[.string ⟨x.id.toArray⟩, .int .i64 x.route, .int .i64 tr'.cal, .bool x.free, .slice a6 x.calls.length k6] 63)).alloc (.cells #[.int .i64 k, .int .i64 day, .int .i64 0, .string ⟨x.id.toArray⟩, .int .i64 x.route, .bool x.free, .bool false, .slice none 0 0] 66)).heap[w3.heap.size]? =some (.cells #[.string ⟨x.id.toArray⟩, .int .i64 x.route, .int .i64 tr'.cal, .bool x.free, .slice a6 x.calls.length k6] 63):=blk_bl (heap_alloc_new w3 _) (bl_alloc (bl_refl _) _);have hbr:((w3.alloc (.cells #[.string ⟨x.id.toArray⟩, .int .i64 x.route, .int .i64 tr'.cal, .bool x.free, .slice a6 x.calls.length k6] 63)).alloc (.cells #[.int .i64 k, .int .i64 day, .int .i64 0, .string ⟨x.id.toArray⟩, .int .i64 x.route, .bool x.free, .bool false, .slice none 0 0] 66)).heap[w3.heap.size+1]? =some (.cells #[.int .i64 k, .int .i64 day, .int .i64 0, .string ⟨x.id.toArray⟩, .int .i64 x.route, .bool x.free, .bool false, .slice none 0 0] 66):=by
   have:=heap_alloc_new (w3.alloc (.cells #[.string ⟨x.id.toArray⟩, .int .i64 x.route, .int .i64 tr'.cal, .bool x.free, .slice a6 x.calls.length k6] 63)) (.cells #[.int .i64 k, .int .i64 day, .int .i64 0, .string ⟨x.id.toArray⟩, .int .i64 x.route, .bool x.free, .bool false, .slice none 0 0] 66);simpa using this
  have HBX:=Lib.hid (And.intro hBx (And.intro hbx hbr));clear hBx hbx hbr;go_wp2_with fail;refine(HRep.out _ (bl_next HB3.out.2.2 HBX.out.1)).mono ?_;rintro e w5 ⟨rfl,b5⟩;have BX5:=bl_next HBX.out.1 b5;have hx5:=blk_bl HBX.out.2.1 b5;have hr5:=blk_bl HBX.out.2.2 b5;have HX5:=Lib.hid (And.intro BX5 (And.intro hx5 hr5));have hz5:w3.heap.size+2≤w5.heap.size:=by have:=b5.size;simp at this;omega
  have bw5:=bl_next HB3.out.2.2 BX5;clear b5 HRep HBX p0 p1 p2 p3 p4 q4 q5;have x0:w5.cell? ⟨w3.heap.size,0,none⟩=some (str x.id):=blk_cell hx5 0 _ rfl;have x1:w5.cell? ⟨w3.heap.size,1,none⟩=some (.int .i64 x.route):=blk_cell hx5 1 _ rfl;have x2:w5.cell? ⟨w3.heap.size,2,none⟩=some (.int .i64 tr'.cal):=blk_cell hx5 2 _ rfl;have x3:w5.cell? ⟨w3.heap.size,3,none⟩=some (.bool x.free):=blk_cell hx5 3 _ rfl;have x4:w5.cell? ⟨w3.heap.size,4,none⟩=some (.slice a6 x.calls.length k6):=blk_cell hx5 4 _ rfl;have y5:w5.cell? ⟨w.heap.size,5,none⟩=some (.slice a5 t.freqs.length k5):=by
   rw[(bl_cell BX5).1 _ _ hz3];exact blk_cell HB3.out.2.1 5 _ rfl
  clear BX5 hx5 hr5;cases rp with
  |false=>
   have HS:=Lib.hid (shift_c (.slice a6 x.calls.length k6) x.calls (day*86400) (by omega) (by omega) (Lib.hid fun c hc=>by have:=HX.out.2.2.2.calls c hc;unfold okS;omega) (by have:=HX.out.2.2.2.len;omega) B w5 (HTC.out.1.below (bw5.mono (by omega))) (by have:=bw5.size;omega));have HBW5:=Lib.hid bw5;clear bw5;go_wp2_with fail;refine HS.out.mono ?_;rintro e w6 ⟨v6',rfl,o6,b6⟩;obtain⟨a8,k8,rfl⟩:=slice_of_own o6;have hr6:=blk_bl HX5.out.2.2 b6;have HR6:=Lib.hid hr6;have O6:=Lib.hid o6;have B6:=Lib.hid b6;have hz6:=b6.size;have fz6:w6.frozen? ⟨w3.heap.size+1,7,none⟩=false:=Lib.frozen_of_heap hr6 7;have r0:w6.cell? ⟨w3.heap.size+1,0,none⟩=some (.int .i64 k):=blk_cell hr6 0 _ rfl;have r1:w6.cell? ⟨w3.heap.size+1,1,none⟩=some (.int .i64 day):=blk_cell hr6 1 _ rfl;have r2:w6.cell? ⟨w3.heap.size+1,2,none⟩=some (.int .i64 0):=blk_cell hr6 2 _ rfl;have r3:w6.cell? ⟨w3.heap.size+1,3,none⟩=some (str x.id):=blk_cell hr6 3 _ rfl;have r4:w6.cell? ⟨w3.heap.size+1,4,none⟩=some (.int .i64 x.route):=blk_cell hr6 4 _ rfl;have r5:w6.cell? ⟨w3.heap.size+1,5,none⟩=some (.bool x.free):=blk_cell hr6 5 _ rfl;have r6:w6.cell? ⟨w3.heap.size+1,6,none⟩=some (.bool false):=blk_cell hr6 6 _ rfl;have r7:w6.cell? ⟨w3.heap.size+1,7,none⟩=some (.slice none 0 0):=blk_cell hr6 7 _ rfl;clear hr6 o6 b6 HS;have hent:=HA.out.enters;go_wp2_with fail;have hW:Bl w (w6.setCell ⟨w3.heap.size+1,7,none⟩ (.slice a8 x.calls.length k8)):=bl_set (bl_next HBW5.out B6.out) (by show w.heap.size≤w3.heap.size+1;omega) _;have hO:(w6.setCell ⟨w3.heap.size+1,7,none⟩ (.slice a8 x.calls.length k8)).ownsRow (Bc+1) 68 5 (.slice a8 x.calls.length k8) (runOf x k day 0 x.calls).calls.length ((runOf x k day 0 x.calls).calls.flatMap callCells):=by
    show World.ownsRow _ _ _ _ _ (x.calls.map (shiftR (day*86400))).length _
    rw[List.length_map];refine own_low (own_kept O6.out (gr_set _ w6 7 _) (fun b hb e=>?_)) (by omega);have h1:=(World.ownsRow.lt O6.out b hb).1;simp only[Option.some.injEq]at e;omega
   refine(HA.out.add [] o0 ⟨runOf x k day 0 x.calls, .slice a8 x.calls.length k8⟩ _ (HA.out.keep _ _ _ _ HI.out hW) hO h0).mono ?_;rintro e w7 ⟨rfl,o7,i7,ad7,b7⟩;have H7:=Lib.hid (And.intro i7 ((hW.mono (by omega)).trans b7));clear i7 ad7 b7 hW hO hent;have he:upTo cont [] (expandP t k day)=[runOf x k day 0 x.calls]:=by rw[expandP_one HX.out.1 HX.out.2.2.1 HRp.out,upTo_one]
   have HE:=Lib.hid he;clear he;go_wp2_with fail;(try simp only[Exit.inBlock,Exit.then])
   refine bodyPost_ret (results_none rfl _ _ _) rfl ?_;exact⟨rfl,_,_,H7.out.1,(by rw[HE.out];rfl),H7.out.2⟩
  |true=>
   obtain⟨L,hL⟩: ∃ L,Fq.fold (Fq.allS (t.freqs.map freqOf) k)=L:=⟨_,rfl⟩;have hE:expandP t k day=L.mapIdx fun i s=>runOf x k day i (callsS x.calls s).1:=by rw[expandP_many HX.out.1 HX.out.2.2.1 HRp.out,hL]
   have hLl:L.length≤172800*64:=by
    rw[←hL,Fq.fold_length];have:=Fq.allS_len (t.freqs.map freqOf) k;rw[List.length_map]at this;omega
   have hLs: ∀ s∈L,0≤s∧s≤172799:=fun s hs=>start_mem (hL ▸ hs)
   have HIn:=Lib.hid (Fq.inst_c (.slice a5 t.freqs.length k5) (t.freqs.map freqOf) k (by rw[List.length_map];omega) B w5 (RD.out.freqs.below (bw5.mono (by omega))) (by have:=bw5.size;omega));rw[hL]at HIn;have HL:=Lib.hid (And.intro hE hLs);have HBW5:=Lib.hid bw5;clear bw5 hE hLs hL;go_wp2_with fail;refine HIn.out.mono ?_;rintro e w6 ⟨v6',rfl,o6,b6⟩;obtain⟨a8,k8,rfl⟩:=slice_of_own o6;have hr6:=blk_bl HX5.out.2.2 b6;have hx6:=blk_bl HX5.out.2.1 b6;have HX6:=Lib.hid (And.intro hx6 (And.intro hr6 (And.intro o6 (bl_next HBW5.out b6))));have hz6:=b6.size;have hlLI:(L.length:Int)≤172800*64:=by omega
   obtain⟨E,hE⟩: ∃ E,expandP t k day=E:=⟨_,rfl⟩;have HE:=Lib.hid hE;have hEl:E.length=L.length:=by rw[←hE,HL.out.1,List.length_mapIdx]
   have HEl:=Lib.hid hEl;clear hE hEl hx6 hr6 o6 b6 HIn;go_wp2_with fail;go_loopw [60] (fun i wr=> ∃ (j:Nat) (ys:List RunV) (o:Option Nat),(j≤L.length∧i= .int .i64 j)∧Hid (ExpAt I cont Bc (w3.heap.size+1) o0 x k day E w6 j ys o wr)) (fun i _=>L.length-(intOf i).toNat)
   case atStart=>exact⟨0,[],o0,⟨Nat.zero_le _,rfl⟩,Lib.hid ⟨HA.out.keep _ _ _ _ HI.out HX6.out.2.2.2,rfl,rfl,h0, .inl rfl,fun _ _ _ _ _=>rfl,⟨_,_,HX6.out.2.1⟩,Below.refl _ _⟩⟩
   case round=>
    obtain⟨j,ys,o,⟨hj,rfl⟩,HR⟩:=hrel;by_cases hlt:j<L.length
    ·
     have hltI:(j:Int)<(L.length:Int):=by omega
     obtain⟨s,hs⟩: ∃ s,L[j]? =some s:=⟨_,List.getElem?_eq_getElem hlt⟩;have hsb:=HL.out.2 s (List.mem_of_getElem? hs);have hEj:E[j]? =some (runOf x k day j (callsS x.calls s).1):=by rw[←HE.out,HL.out.1,List.getElem?_mapIdx,hs];rfl
     obtain ⟨rj, hrj⟩ : ∃ r, runOf x k day j (callsS x.calls s).1 = r := ⟨_, rfl⟩; have HEj := Lib.hid (And.intro hEj hrj); have hz := HR.out.below.size; -- what stands still
     have hbo: ∀ b,w.heap.size≤b→b<w6.heap.size→b≠w3.heap.size+1→wr.heap[b]? =w6.heap[b]? :=fun b hb1 hb2 hb3=>HR.out.old b hb2 (by omega) (fun e=>by have:=HO0.out b e;omega) hb3
     have hx6:=(hbo w3.heap.size (by omega) (by omega) (by omega)).trans HX6.out.1;have o6:wr.ownsRow w5.heap.size 3 1 (.slice a8 L.length k8) L.length (L.flatMap intCells):=by
      have h:=HX6.out.2.2.1;refine⟨h.1,h.2.imp id ?_⟩;rintro⟨g,cap,cur,q1,q2,q3,q4⟩;exact⟨g,cap,cur,q1,q2,(hbo g (by omega) (lt_of_block q3) (by omega)).trans q3,q4⟩
     obtain⟨b8',o8',y8,rfl,-,hy8,hc8⟩:=(slIn_own intCells_len o6).get (k:=j) hlt (bl_refl wr) (Nat.le_refl _);obtain rfl:y8=s:=Option.some.inj (hy8.symm.trans hs);have cs:wr.cell? ⟨b8',o8'+j,none⟩=some (.int .i64 y8):=by have:=hc8 0 _ rfl;simpa using this
     have x0:wr.cell? ⟨w3.heap.size,0,none⟩=some (str x.id):=blk_cell hx6 0 _ rfl;have x1:wr.cell? ⟨w3.heap.size,1,none⟩=some (.int .i64 x.route):=blk_cell hx6 1 _ rfl;have x2:wr.cell? ⟨w3.heap.size,2,none⟩=some (.int .i64 tr'.cal):=blk_cell hx6 2 _ rfl;have x3:wr.cell? ⟨w3.heap.size,3,none⟩=some (.bool x.free):=blk_cell hx6 3 _ rfl;have x4:wr.cell? ⟨w3.heap.size,4,none⟩=some (.slice a6 x.calls.length k6):=blk_cell hx6 4 _ rfl;obtain⟨u2,u7,hrun⟩:=HR.out.run;have HRun:=Lib.hid hrun;have hwr:Below Bc w wr:=(HX6.out.2.2.2.mono (by omega)).trans HR.out.below;have HCs:=Lib.hid (Fq.calls_c ⟨x.id.toArray⟩ x.route tr'.cal x.free (.slice a6 x.calls.length k6) x.calls y8 (by unfold isInt;omega) B wr (HTC.out.1.below (hwr.mono hB)) (by have:=HX6.out.2.2.2.size;omega) HTC.out.2 (by have:=HX.out.2.2.2.len;omega));clear hEj hrj hbo hx6 o6 hy8 hc8 hs hsb hrun hwr;go_wp2_with fail;refine HCs.out.mono ?_;rintro e w8 ⟨⟨v9,rfl,c9⟩,b8⟩;obtain⟨a9,k9,rfl,-,-⟩:=c9.val;have hr8:=blk_bl HRun.out b8;have fz8:w8.frozen? ⟨w3.heap.size+1,2,none⟩=false:=Lib.frozen_of_heap hr8 2;have q8:w8.cell? ⟨w3.heap.size+1,2,none⟩=some u2:=blk_cell hr8 2 _ rfl;have H8:=Lib.hid (And.intro c9 (And.intro b8 hr8));have hz8:=b8.size;have HS:=Lib.hid (shift_c (.slice a9 (callsS x.calls y8).1.length k9) (callsS x.calls y8).1 (day*86400) (by omega) (by omega) (Lib.hid fun c hc=>by have:=callsS_bd c hc;unfold okS;omega) (by have:=callsS_len x.calls y8;have:=HX.out.2.2.2.len;omega) _ (w8.setCell ⟨w3.heap.size+1,2,none⟩ (.int .i64 j)) (calls_set c9 hr8 2 _) (by simp));clear c9 b8 hr8 HCs;go_wp2_with fail;refine HS.out.mono ?_;rintro e w9 ⟨v10,rfl,o10,b10⟩;obtain⟨a10,k10,rfl⟩:=slice_of_own o10;rw[World.size_setCell]at o10;have hrs:=blk_set H8.out.2.2 2 (.int .i64 j);simp only[List.setIfInBounds_toArray,List.set_cons_succ,List.set_cons_zero]at hrs;have hr9:=blk_bl hrs b10;have fz9:w9.frozen? ⟨w3.heap.size+1,7,none⟩=false:=Lib.frozen_of_heap hr9 7;have r0:w9.cell? ⟨w3.heap.size+1,0,none⟩=some (.int .i64 k):=blk_cell hr9 0 _ rfl;have r1:w9.cell? ⟨w3.heap.size+1,1,none⟩=some (.int .i64 day):=blk_cell hr9 1 _ rfl;have r2:w9.cell? ⟨w3.heap.size+1,2,none⟩=some (.int .i64 j):=blk_cell hr9 2 _ rfl;have r3:w9.cell? ⟨w3.heap.size+1,3,none⟩=some (str x.id):=blk_cell hr9 3 _ rfl;have r4:w9.cell? ⟨w3.heap.size+1,4,none⟩=some (.int .i64 x.route):=blk_cell hr9 4 _ rfl;have r5:w9.cell? ⟨w3.heap.size+1,5,none⟩=some (.bool x.free):=blk_cell hr9 5 _ rfl;have r6:w9.cell? ⟨w3.heap.size+1,6,none⟩=some (.bool false):=blk_cell hr9 6 _ rfl;have r7:w9.cell? ⟨w3.heap.size+1,7,none⟩=some u7:=blk_cell hr9 7 _ rfl;have hz9:=b10.size;rw[World.size_setCell]at hz9;have hoR:o≠some (w3.heap.size+1):=fun e=>by
      rcases HR.out.row with q|⟨r,q,hr⟩
      ·
       have:=HO0.out _ (q ▸ e);omega
      ·
       rw[q]at e;simp only[Option.some.injEq]at e;omega
     have gI:I ys o (w9.setCell ⟨w3.heap.size+1,7,none⟩ (.slice a10 (callsS x.calls y8).1.length k10)):=
      HA.out.turn _ _ _ _ _ _ (HA.out.keep _ _ _ _ (HA.out.turn _ _ _ _ _ _ (HA.out.keep _ _ _ _ HR.out.i H8.out.2.1) (gr_set _ w8 2 _) H8.out.2.2 hoR (by omega)) b10) (gr_set _ w9 7 _) hr9 hoR (by omega)
     have hO:(w9.setCell ⟨w3.heap.size+1,7,none⟩ (.slice a10 (callsS x.calls y8).1.length k10)).ownsRow (Bc+1) 68 5 (.slice a10 (callsS x.calls y8).1.length k10) (runOf x k day j (callsS x.calls y8).1).calls.length ((runOf x k day j (callsS x.calls y8).1).calls.flatMap callCells):=by
      show World.ownsRow _ _ _ _ _ ((callsS x.calls y8).1.map (shiftR (day*86400))).length _
      rw[List.length_map];refine own_low (own_kept o10 (gr_set _ w9 7 _) (fun b hb e=>?_)) (by omega);have h1:=(World.ownsRow.lt o10 b hb).1;simp only[Option.some.injEq]at e;omega
     obtain⟨bb,hbb⟩: ∃ b,cont (E.take j++[runOf x k day j (callsS x.calls y8).1])=b:=⟨_,rfl⟩;have hadd:=HA.out.add ys o ⟨runOf x k day j (callsS x.calls y8).1, .slice a10 (callsS x.calls y8).1.length k10⟩ _ gI hO (by rw[HR.out.map];exact HR.out.yes);rw[List.map_append,HR.out.map]at hadd;simp only[List.map_cons,List.map_nil]at hadd;rw[hbb]at hadd;have HAdd:=Lib.hid hadd;have hr10:=blk_set hr9 7 (.slice a10 (callsS x.calls y8).1.length k10);simp only[List.setIfInBounds_toArray,List.set_cons_succ,List.set_cons_zero]at hr10;have hb10:Below Bc wr (w9.setCell ⟨w3.heap.size+1,7,none⟩ (.slice a10 (callsS x.calls y8).1.length k10)):=by
      have h1:Below Bc wr w8:=H8.out.2.1.mono (by omega);have h2:Below Bc wr (w8.setCell ⟨w3.heap.size+1,2,none⟩ (.int .i64 j)):=h1.setCell (by show Bc≤w3.heap.size+1;omega) _;have h3:Below Bc wr w9:=h2.trans (b10.mono (by rw[World.size_setCell];omega));exact h3.setCell (by show Bc≤w3.heap.size+1;omega) _
     have hs10: ∀ b,b<w6.heap.size→b≠w3.heap.size+1→(w9.setCell ⟨w3.heap.size+1,7,none⟩ (.slice a10 (callsS x.calls y8).1.length k10)).heap[b]? =wr.heap[b]? :=fun b hb1 hb2=>by
      rw[Below.heap_setCell _ _ _ _ hb2,b10.block b (by rw[World.size_setCell];omega),Below.heap_setCell _ _ _ _ hb2];exact H8.out.2.1.block b (by omega)
     have HB10:=Lib.hid (And.intro hr10 (And.intro hb10 (And.intro hs10 hbb)));clear hrs hr9 o10 b10 hoR gI hO hbb hadd hr10 hb10 hs10 HS;have hent:=HA.out.enters;go_wp2_with fail;refine HAdd.out.mono ?_;rintro e w11 ⟨rfl,o',i11,ad11,b11⟩;have H11:=Lib.hid (And.intro i11 (And.intro ad11 b11));clear i11 ad11 b11 hent HAdd;cases bb with
     |true=>
      go_wp2_with fail;have hz10:w6.heap.size≤(w9.setCell ⟨w3.heap.size+1,7,none⟩ (.slice a10 (callsS x.calls y8).1.length k10)).heap.size:=by rw[World.size_setCell];omega
      have hno: ∀ b,b<w6.heap.size→o0≠some b→o≠some b:=fun b hb h0 e=>by
       rcases HR.out.row with q|⟨r,q,hr⟩
       · exact h0 (q ▸ e)
       ·
        rw[q]at e;simp only[Option.some.injEq]at e;omega
      exact⟨⟨j+1,_,_,⟨by omega,by go_num⟩,Lib.hid
       {
        i:=H11.out.1
        map:=by rw[List.map_append,HR.out.map,take_snoc' HEj.out.1];rfl
        go:=(upTo_go HEj.out.1 HB10.out.2.2.2).symm.trans HR.out.go
        yes:=by rw[take_snoc' HEj.out.1];exact HB10.out.2.2.2
        row:=by
         rcases H11.out.2.1.row with q|⟨r,q,hr⟩
         · rw[q];exact HR.out.row
         · exact .inr ⟨r,q,Nat.le_trans hz10 hr⟩
        old:=fun b hb h1 h2 h3=>(H11.out.2.1.same b (Nat.lt_of_lt_of_le hb hz10) h1 (hno b hb h2)).trans ((HB10.out.2.2.1 b hb h3).trans (HR.out.old b hb h1 h2 h3))
        run:=⟨_,_,(H11.out.2.1.same _ (by rw[World.size_setCell];omega) (by omega) (hno _ (by omega) (fun e=>by have:=HO0.out _ e;omega))).trans HB10.out.1⟩
        below:=(HR.out.below.trans HB10.out.2.1).trans H11.out.2.2 }⟩,by simp only[intOf];omega⟩
     |false=>
      have he:(ys++[(⟨runOf x k day j (callsS x.calls y8).1, .slice a10 (callsS x.calls y8).1.length k10⟩:RunV)]).map (·.r)=upTo cont [] E:=by
       rw[←HR.out.go,upTo_stop HEj.out.1 HB10.out.2.2.2,List.map_append,HR.out.map];rfl
      have HF:=Lib.hid he;clear he;go_wp2_with fail;(try simp only[Exit.inBlock,Exit.then])
      refine bodyPost_ret (results_none rfl _ _ _) rfl ?_;exact⟨rfl,_,_,H11.out.1,(by rw[HE.out];exact HF.out),((HX6.out.2.2.2.mono (by omega)).trans (HR.out.below.trans HB10.out.2.1)).trans H11.out.2.2⟩
    ·
     obtain rfl:j=L.length:=by omega
     have he:ys.map (·.r)=upTo cont [] E:=by rw[←HR.out.go,HR.out.map,upTo_end _ _ (by rw[HEl.out];exact Nat.le_refl _),List.take_of_length_le (by rw[HEl.out];exact Nat.le_refl _)]
     have HF:=Lib.hid he;clear he;go_wp2_with fail;go_end0;exact⟨rfl,ys,o,HR.out.i,(by rw[HF.out,HE.out]),(HX6.out.2.2.2.mono (by omega)).trans HR.out.below⟩
end Go.Proofs.YtncbcmiflffakaaGreat
