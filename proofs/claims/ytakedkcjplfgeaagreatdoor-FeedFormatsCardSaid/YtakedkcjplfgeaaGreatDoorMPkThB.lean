/- Contracts, proved. Conditions: each contract's own. -/
import Derived.Test.YtakedkcjplfgeaaGreatDoorMPkThA
set_option maxRecDepth 1000000
set_option maxHeartbeats 32000000
namespace Go.Proofs.YtakedkcjplfgeaaGreatDoor.Th
open Go.RowKit
open Frq Thr
theorem mJ (i:Int) (a:Option Addr) (n cap b:Nat) (r:Bool) (H:Hid (Yi i n=r)) (w:World) (hc:w.cell? ⟨b,0,none⟩=some (.slice a n cap)):
  Calls Tryz.prog 196 #[.int .i64 i, .pointer (some ⟨b,0,none⟩)] w fun e w'=>e= .returned (.bool r)/\w=w':=by
 by_cases h0:0<=i
 ·
  by_cases h1:i<n
  ·
   obtain rfl:r=true:=by rw[<-H.out];unfold Yi;simp[h0,h1]
   clear H;go_enter Tryz.func196,Tryz.ntmps196
   go_wp2;go_ret;exact⟨rfl,rfl⟩
  ·
   obtain rfl:r=false:=by rw[<-H.out];unfold Yi;simp[h1]
   clear H;have h1':decide (i<(n:Int))=false:=by rw[decide_eq_false_iff_not];exact h1
   clear h1;go_enter Tryz.func196,Tryz.ntmps196
   go_wp2;go_ret;exact⟨rfl,rfl⟩
 ·
  obtain rfl:r=false:=by rw[<-H.out];unfold Yi;simp[h0]
  clear H;have h0':i<0:=by omega
  clear h0;go_enter Tryz.func196,Tryz.ntmps196
  go_wp2;go_ret;exact⟨rfl,rfl⟩
def df (p:Bool):Int:=if p then 0 else 9
def Hr (p q:Bool):Int:=if p&&q then 17 else 0
theorem kR {a b c d:Int} (h:a=c) (h':b=d):Ending.returned (.tuple #[.int .i64 a, .int .i64 b])= .returned (.tuple #[.int .i64 c, .int .i64 d]):=by rw[h,h']
theorem Z5 (frm tt:Int) (a:Option Addr) (n cap:Nat) (vf:Value) (fs:List FreqD) (p q:Bool) (H1:Hid (yZ n frm tt=p)) (H2:Hid ((vM fs frm||vM fs tt)=q)) (B:Nat) (w:World) (hf:xG B w vf fs) (hB:B<=w.heap.size):
  Calls Tryz.prog 126 #[.int .i64 frm, .int .i64 tt, .slice a n cap,vf] w fun e w'=>e= .returned (.tuple #[.int .i64 (df p), .int .i64 (Hr p q)])/\Bl w w':=by
 have HF:=qA hf;obtain⟨w1,hw1⟩: ∃ w1,w.alloc (.cells #[.slice a n cap] 27)=w1:=⟨_,rfl⟩;have c0:w1.cell? ⟨w.heap.size,0,none⟩=some (.slice a n cap):=by rw[<-hw1,Uy (hn:=rfl)];rfl
 have b1:Bl w w1:=by rw[<-hw1];exact qE (qB _) _
 have z1:=b1.size;have B1:=qA b1;obtain⟨e1,he1⟩: ∃ e1,Yi frm n=e1:=⟨_,rfl⟩;obtain⟨e2,he2⟩: ∃ e2,Yi tt n=e2:=⟨_,rfl⟩;have HP:Hid (p=(e1&&(e2&& !(frm==tt)))):=by rw[<-he1,<-he2];exact H1.out.symm
 have E1:=qA he1;have E2:=qA he2;have C0:=qA c0;clear hf b1 he1 he2 H1 c0;go_enter Tryz.func126,Tryz.ntmps126
 go_wp2_with fail;clear hw1;refine(mJ frm a n cap _ e1 E1 w1 C0.out).mono ?_;rintro e w2 ⟨rfl,rfl⟩;cases e1 with
 |false=>
  have HN:=qA (show p=false by rw[HP.out];rfl);go_wp2;go_ret2;exact⟨kR (by rw[HN.out];rfl) (by rw[HN.out];rfl),B1.out⟩
 |true=>
  go_wp2_with fail;refine(mJ tt a n cap _ e2 E2 w1 C0.out).mono ?_;rintro e w2 ⟨rfl,rfl⟩;cases e2 with
  |false=>
   have HN:=qA (show p=false by rw[HP.out];rfl);go_wp2;go_ret2;exact⟨kR (by rw[HN.out];rfl) (by rw[HN.out];rfl),B1.out⟩
  |true=>
   by_cases he:frm=tt
   ·
    have HN:=qA (show p=false by rw[HP.out,he];simp);have qe:(frm==tt)=true:=by rw[beq_iff_eq];exact he
    clear he;go_wp2;go_ret2;exact⟨kR (by rw[HN.out];rfl) (by rw[HN.out];rfl),B1.out⟩
   ·
    have qe:(frm==tt)=false:=by rw[U0];exact he
    have HN:=qA (show p=true by rw[HP.out,qe];rfl);clear he;obtain⟨r1,hr1⟩: ∃ r1,vM fs frm=r1:=⟨_,rfl⟩;obtain⟨r2,hr2⟩: ∃ r2,vM fs tt=r2:=⟨_,rfl⟩;have HQ:Hid (q=(r1||r2)):=by rw[<-hr1,<-hr2];exact H2.out.symm
    have R1:=qA hr1;have R2:=qA hr2;clear hr1 hr2 H2 HP;go_wp2_with fail;refine(Ht vf fs frm r1 R1 B w1 (HF.out.out B1.out hB) (by omega)).mono ?_;rintro e w3 ⟨rfl,b3⟩;have B3:Hid (Bl w w3):=qF B1.out b3;have z3:=b3.size;clear b3;cases r1 with
    |true=>
     have HR:=qA (show q=true by rw[HQ.out];rfl);go_wp2;go_ret2;exact⟨kR (by rw[HN.out];rfl) (by rw[HN.out,HR.out];rfl),B3.out⟩
    |false=>
     go_wp2_with fail;refine(Ht vf fs tt r2 R2 B w3 (HF.out.out B3.out hB) (by omega)).mono ?_;rintro e w4 ⟨rfl,b4⟩;have B4:Hid (Bl w w4):=qF B3.out b4;have HR:=qA (show q=r2 by rw[HQ.out];rfl);clear b4;cases r2 with
     |true=>
      go_wp2;go_ret2;exact⟨kR (by rw[HN.out];rfl) (by rw[HN.out,HR.out];rfl),B4.out⟩
     |false=>
      go_wp2;go_ret2;exact⟨kR (by rw[HN.out];rfl) (by rw[HN.out,HR.out];rfl),B4.out⟩
theorem Xb {a b:TrpD} (h:a.cal≠b.cal):jk a b=15:=by unfold jk;rw[U6 h]
theorem dM {a b:TrpD} (h:a.cal=b.cal) (h1:a.calls=[]):jk a b=13:=by unfold jk;rw[U5 (by omega),h1];rfl
theorem dN {a b:TrpD} (h:a.cal=b.cal) (h1:b.calls=[]):jk a b=13:=by unfold jk;rw[U5 (by omega),h1];cases a.calls.getLast?<;>rfl
theorem dO {a b:TrpD} {x y:CallD} {n:Nat} (h:a.cal=b.cal) (hn:a.calls.length=n+1) (h1:a.calls[n]? =some x) (h2:b.calls[0]? =some y):jk a b=if x.stop≠y.stop then 13 else if y.depart<x.arrive then 10 else 0:=by
 unfold jk;have e1:a.calls.getLast?=some x:=by rw[List.getLast?_eq_getElem?,hn];exact h1
 have e2:b.calls.head?=some y:=by rw[List.head?_eq_getElem?];exact h2
 rw[U5 (by omega),e1,e2]
theorem Cc (t u:TripD) (r:Int) (H:Hid (jk (trpOf t) (trpOf u)=r)) (B:Nat) (w:World) (ht:CallsIn B w t.v t.calls) (hu:CallsIn B w u.v u.calls) (hB:B<=w.heap.size):
  Calls Tryz.prog 127 #[.agg #[.string t.id, .int .i64 t.rt, .int .i64 t.cal, .bool t.step,t.v], .agg #[.string u.id, .int .i64 u.rt, .int .i64 u.cal, .bool u.step,u.v]] w fun e w'=>e= .returned (.int .i64 r)/\Bl w w':=by
 obtain⟨ti,tr,tc,ts,tv,tl⟩:=t;obtain⟨ui,ur,uc,us,uv,ul⟩:=u;simp only[trpOf]at H ht hu ⊢;have HT:=qA ht;have HU:=qA hu;obtain⟨at',ct,rfl,lt1,lt2⟩:=ht.val;obtain⟨au,cu,rfl,lu1,lu2⟩:=hu.val;clear ht hu;obtain⟨w1,hw1⟩: ∃ w1,(w.alloc (.cells #[.string ti, .int .i64 tr, .int .i64 tc, .bool ts, .slice at' tl.length ct] 56)).alloc (.cells #[.string ui, .int .i64 ur, .int .i64 uc, .bool us, .slice au ul.length cu] 56)=w1:=⟨_,rfl⟩;have b1:Bl w w1:=by rw[<-hw1];exact qE (qE (qB _) _) _
 have s1:w1.heap.size=w.heap.size+2:=by rw[<-hw1];simp
 have k0: ∀ (j:Nat) (x:Value),(#[.string ti, .int .i64 tr, .int .i64 tc, .bool ts, .slice at' tl.length ct]:Array Value)[j]? =some x->w1.cell? ⟨w.heap.size,j,none⟩=some x:=by
  intro j x hx;rw[<-hw1,(qG (qE (qB _) _)).1 _ _ (by simp),Uy (hn:=rfl)];exact hx
 have k1: ∀ (j:Nat) (x:Value),(#[.string ui, .int .i64 ur, .int .i64 uc, .bool us, .slice au ul.length cu]:Array Value)[j]? =some x->w1.cell? ⟨w.heap.size+1,j,none⟩=some x:=by
  intro j x hx;rw[<-hw1,Uy (hn:=by simp)];exact hx
 have c02:=k0 2 _ rfl;have c04:=k0 4 _ rfl;have c12:=k1 2 _ rfl;have c14:=k1 4 _ rfl;have B1:=qA b1;clear k0 k1 b1;by_cases hcal:tc=uc
 ·
  have qc:(tc != uc)=false:=by rw[hcal];simp
  by_cases hte:tl=[]
  ·
   have HR:=qA (dM (a:=⟨tc,tl⟩) (b:=⟨uc,ul⟩) hcal hte);have q1:((tl.length:Int)==0)=true:=by rw[hte];rfl
   clear hcal hte;go_enter Tryz.func127,Tryz.ntmps127
   go_wp2;go_ret;exact⟨qR (by rw[<-H.out];exact HR.out.symm),B1.out⟩
  ·
   by_cases hue:ul=[]
   ·
    have HR:=qA (dN (a:=⟨tc,tl⟩) (b:=⟨uc,ul⟩) hcal hue);have q2:((ul.length:Int)==0)=true:=by rw[hue];rfl
    have hpt:0<tl.length:=List.length_pos_iff.2 hte;have q1:((tl.length:Int)==0)=false:=by rw[U0];omega
    clear hcal hte hue;go_enter Tryz.func127,Tryz.ntmps127
    go_wp2;go_ret;exact⟨qR (by rw[<-H.out];exact HR.out.symm),B1.out⟩
   ·
    have hpt:0<tl.length:=List.length_pos_iff.2 hte;have hpu:0<ul.length:=List.length_pos_iff.2 hue;obtain⟨n,hn⟩: ∃ n,tl.length=n+1:=⟨tl.length-1,by omega⟩;obtain⟨bt,ot,x,rfl,hbt,hx,hct⟩:=HT.out.get (k:=n) (by omega) B1.out hB;obtain⟨bu,ou,y,rfl,hbu,hy,hcu⟩:=HU.out.get (k:=0) hpu B1.out hB;have HR:=qA (dO (a:=⟨tc,tl⟩) (b:=⟨uc,ul⟩) hcal hn hx hy);have d0:w1.cell? ⟨bt,ot+n*5,none⟩=some (.int .i64 x.stop):=hct 0 _ rfl;have d1:=hct 1 _ rfl;have d2:=hct 2 _ rfl;have d3:=hct 3 _ rfl;have d4:=hct 4 _ rfl;have hcu': ∀ j z,(callCells y)[j]? =some z->w1.cell? ⟨bu,ou+j,none⟩=some z:=fun j z hz=>by have:=hcu j z hz;rwa [Nat.zero_mul,Nat.add_zero]at this
    have e0:w1.cell? ⟨bu,ou,none⟩=some (.int .i64 y.stop):=hcu' 0 _ rfl;have e1:=hcu' 1 _ rfl;have e2:=hcu' 2 _ rfl;have e3:=hcu' 3 _ rfl;have e4:=hcu' 4 _ rfl;have q1:((tl.length:Int)==0)=false:=by rw[U0];omega
    have q2:((ul.length:Int)==0)=false:=by rw[U0];omega
    have i1:IntKind.i64.wrap ((tl.length:Int)-1)=(n:Int):=by rw[IntWalk.i64_in _ (by omega)];omega
    have i2:(n:Int)<(tl.length:Int):=by omega
    clear hcal hte hue hn hx hy hct hcu hcu';go_enter Tryz.func127,Tryz.ntmps127
    go_wp2_with fail;have hw0:w.heap.size+1<w1.heap.size:=by omega
    have hold: ∀ w':World,Bl w1 w'->w'.cell? ⟨w.heap.size,4,none⟩=some (.slice (some ⟨bt,ot,none⟩) tl.length ct)/\w'.cell? ⟨w.heap.size+1,4,none⟩=some (.slice (some ⟨bu,ou,none⟩) ul.length cu)/\w'.cell? ⟨bt,ot+n*5,none⟩=some (.int .i64 x.stop)/\w'.cell? ⟨bt,ot+n*5+1,none⟩=some (.int .i64 x.arrive)/\w'.cell? ⟨bt,ot+n*5+2,none⟩=some (.int .i64 x.depart)/\w'.cell? ⟨bt,ot+n*5+3,none⟩=some (.bool x.board)/\w'.cell? ⟨bt,ot+n*5+4,none⟩=some (.bool x.alight)/\w'.cell? ⟨bu,ou,none⟩=some (.int .i64 y.stop)/\w'.cell? ⟨bu,ou+1,none⟩=some (.int .i64 y.arrive)/\w'.cell? ⟨bu,ou+2,none⟩=some (.int .i64 y.depart)/\w'.cell? ⟨bu,ou+3,none⟩=some (.bool y.board)/\w'.cell? ⟨bu,ou+4,none⟩=some (.bool y.alight):=fun w' hb=>⟨((qG hb).1 _ _ (by omega)).trans c04,((qG hb).1 _ _ hw0).trans c14,((qG hb).1 _ _ hbt).trans d0,((qG hb).1 _ _ hbt).trans d1,((qG hb).1 _ _ hbt).trans d2,((qG hb).1 _ _ hbt).trans d3,((qG hb).1 _ _ hbt).trans d4,((qG hb).1 _ _ hbu).trans e0,((qG hb).1 _ _ hbu).trans e1,((qG hb).1 _ _ hbu).trans e2,((qG hb).1 _ _ hbu).trans e3,((qG hb).1 _ _ hbu).trans e4⟩
    clear hw1;go_region_held3 (fun w'=>w'.cell? ⟨w.heap.size,4,none⟩=some (.slice (some ⟨bt,ot,none⟩) tl.length ct)/\w'.cell? ⟨w.heap.size+1,4,none⟩=some (.slice (some ⟨bu,ou,none⟩) ul.length cu)/\w'.cell? ⟨bt,ot+n*5,none⟩=some (.int .i64 x.stop)/\w'.cell? ⟨bt,ot+n*5+1,none⟩=some (.int .i64 x.arrive)/\w'.cell? ⟨bt,ot+n*5+2,none⟩=some (.int .i64 x.depart)/\w'.cell? ⟨bt,ot+n*5+3,none⟩=some (.bool x.board)/\w'.cell? ⟨bt,ot+n*5+4,none⟩=some (.bool x.alight)/\w'.cell? ⟨bu,ou,none⟩=some (.int .i64 y.stop)/\w'.cell? ⟨bu,ou+1,none⟩=some (.int .i64 y.arrive)/\w'.cell? ⟨bu,ou+2,none⟩=some (.int .i64 y.depart)/\w'.cell? ⟨bu,ou+3,none⟩=some (.bool y.board)/\w'.cell? ⟨bu,ou+4,none⟩=some (.bool y.alight)) ((refine hold _ ?_;repeat(first|exact qB _|refine qH ?_|refine qE ?_ _|refine zF ?_ (by simp) _))) (fail)
    all_goals
     clear hold c02 c04 c12 c14 d0 d1 d2 d3 d4 e0 e1 e2 e3 e4;by_cases hs:x.stop=y.stop
     ·
      have q3:(x.stop != y.stop)=false:=by rw[hs];simp
      by_cases ht:y.depart<x.arrive
      ·
       have q4:decide (y.depart<x.arrive)=true:=decide_eq_true ht;have HR':=qA (HR.out.trans (by rw[U5 (by simpa using hs),U6 ht]));clear hs ht;go_wp2;go_ret;exact⟨qR (by rw[<-H.out];exact HR'.out.symm),by repeat(first|exact B1.out|refine qH ?_|refine qE ?_ _|refine zF ?_ (by simp) _)⟩
      ·
       have q4:decide (y.depart<x.arrive)=false:=decide_eq_false ht;have HR':=qA (HR.out.trans (by rw[U5 (by simpa using hs),U5 ht]));clear hs ht;go_wp2;go_ret;exact⟨qR (by rw[<-H.out];exact HR'.out.symm),by repeat(first|exact B1.out|refine qH ?_|refine qE ?_ _|refine zF ?_ (by simp) _)⟩
     ·
      have q3:(x.stop != y.stop)=true:=by simpa using hs
      have HR':=qA (HR.out.trans (by rw[U6 hs]));clear hs;go_wp2;go_ret;exact⟨qR (by rw[<-H.out];exact HR'.out.symm),by repeat(first|exact B1.out|refine qH ?_|refine qE ?_ _|refine zF ?_ (by simp) _)⟩
 ·
  have qc:(tc != uc)=true:=by simpa using hcal
  have HR:=qA (Xb (a:=⟨tc,tl⟩) (b:=⟨uc,ul⟩) hcal);clear hcal;go_enter Tryz.func127,Tryz.ntmps127
  go_wp2;go_ret;exact⟨qR (by rw[<-H.out];exact HR.out.symm),B1.out⟩
def Ry (x:ThrD):Prop:=zB x.frm/\zB x.to
theorem qY {a b:Int} {r r':Int×Int} (h:r'=(a,b)) (h':r'=r):Ending.returned (.tuple #[.int .i64 a, .int .i64 b])= .returned (.tuple #[.int .i64 r.1, .int .i64 r.2]):=by rw[<-h',h]
theorem N8 {α:Type} (p q:α->Bool) (l:List α):(l.any fun y=>p y||q y)=(l.any p||l.any q):=by
 induction l with
 |nil=>rfl
 |cons y l ih=>
  rw[List.any_cons,List.any_cons,List.any_cons,ih];cases p y<;>cases q y<;>simp
theorem lQ {α:Type} (p:α->Bool) {l:List α} {k:Nat} {x:α} (h:l[k]? =some x):(l.take (k+1)).any p=((l.take k).any p||p x):=by
 rw[ql h,List.any_append];simp
def fM (l:List ThrD) (S:Lit->Bool):Prop:= ∀ x:Int,S (.int .i64 x)=l.any fun y=>y.frm==x
def AX (l:List ThrD) (S:Lit->Bool):Prop:= ∀ x:Int,S (.int .i64 x)=l.any fun y=>y.to==x
theorem aI (S:Lit->Bool) (a x:Int):wY S (.int .i64 a) (.int .i64 x)=(S (.int .i64 x)||(a==x)):=by
 by_cases h:x=a
 · rw[h,xq _ (by trivial)];simp
 · rw[xu (by simpa using h),show(a==x)=false by rw[U0];exact fun e=>h e.symm,Bool.or_false]
theorem fM.next {l:List ThrD} {S:Lit->Bool} {k:Nat} {x:ThrD} (h:fM (l.take k) S) (hx:l[k]? =some x):fM (l.take (k+1)) (wY S (.int .i64 x.frm)):=fun y=>by
 rw[aI,h y,lQ _ hx]
theorem AX.next {l:List ThrD} {S:Lit->Bool} {k:Nat} {x:ThrD} (h:AX (l.take k) S) (hx:l[k]? =some x):AX (l.take (k+1)) (wY S (.int .i64 x.to)):=fun y=>by
 rw[aI,h y,lQ _ hx]
section
variable {ts:List TrpD} {fs:List FreqD} {pre:List ThrD} {x:ThrD}
theorem Bj (h:yZ ts.length x.frm x.to=false):zU ts fs pre x=9:=by unfold zU;rw[U6 h]
theorem AB (h:yZ ts.length x.frm x.to=true) (h1:(vM fs x.frm||vM fs x.to)=true):zU ts fs pre x=17:=by unfold zU;rw[U5 (by rw[h];simp),U6 h1]
theorem Np (h:yZ ts.length x.frm x.to=true) (h1:(vM fs x.frm||vM fs x.to)=false) (h2:jk (Zc ts x.frm) (Zc ts x.to)≠0):zU ts fs pre x=jk (Zc ts x.frm) (Zc ts x.to):=by unfold zU;rw[U5 (by rw[h];simp),U5 (by rw[h1];simp),U6 h2]
theorem Bi (h:yZ ts.length x.frm x.to=true) (h1:(vM fs x.frm||vM fs x.to)=false) (h2:jk (Zc ts x.frm) (Zc ts x.to)=0) (h3:(pre.any fun y=>y.frm==x.frm||y.to==x.to)=true):zU ts fs pre x=6:=by
 unfold zU;rw[U5 (by rw[h];simp),U5 (by rw[h1];simp),U5 (by rw[h2];simp),U6 h3]
theorem IR (h:yZ ts.length x.frm x.to=true) (h1:(vM fs x.frm||vM fs x.to)=false) (h2:jk (Zc ts x.frm) (Zc ts x.to)=0) (h3:(pre.any fun y=>y.frm==x.frm||y.to==x.to)=false) (h4:(QC pre x.to).contains x.frm=true):zU ts fs pre x=19:=by
 unfold zU;rw[U5 (by rw[h];simp),U5 (by rw[h1];simp),U5 (by rw[h2];simp),U5 (by rw[h3];simp),U6 h4]
theorem Nl (h:yZ ts.length x.frm x.to=true) (h1:(vM fs x.frm||vM fs x.to)=false) (h2:jk (Zc ts x.frm) (Zc ts x.to)=0) (h3:(pre.any fun y=>y.frm==x.frm||y.to==x.to)=false) (h4:(QC pre x.to).contains x.frm=false):zU ts fs pre x=0:=by
 unfold zU;rw[U5 (by rw[h];simp),U5 (by rw[h1];simp),U5 (by rw[h2];simp),U5 (by rw[h3];simp),U5 (by rw[h4];simp)]
end
theorem zM {α:Type} {most:Nat} {err:List α->α->Int} {l:List α} (h:most<l.length):qZ most err l=(0,5):=by unfold qZ;rw[U6 h]
theorem zf {α:Type} {most:Nat} {err:List α->α->Int} {l:List α} (h:l.length<=most):qZ most err l=wU err (l.take 0) (l.drop 0):=by unfold qZ;rw[U5 (by omega)];rfl
theorem gB (vl vt vf:Value) (l:List ThrD) (ts:List TripD) (fs:List FreqD) (r:Int×Int) (H:Hid (qZ 128 (zU (ts.map trpOf) fs) l=r)) (hok: ∀ x∈l,Ry x) (B:Nat) (w:World) (hl:Vu B w vl l) (ht:vP B w vt ts) (hf:xG B w vf fs) (hB:B<=w.heap.size):
  Calls Tryz.prog 55 #[vl,vt,vf] w fun e w'=>e= .returned (.tuple #[.int .i64 r.1, .int .i64 r.2])/\Bl w w':=by
 obtain⟨al,capl,rfl,ll1,ll2⟩:=hl.val;obtain⟨at',capt,rfl,lt1,lt2⟩:=ht.sl.val;obtain⟨af,capf,rfl,lf1,lf2⟩:=hf.val;have HL:=qA hl;have HT:=qA ht;have HF:=qA hf;have HOK:=qA hok;clear hl ht hf hok;by_cases hmany:128<l.length
 ·
  have HR:=qA (zM (err:=zU (ts.map trpOf) fs) hmany);go_enter Tryz.func55,Tryz.ntmps55
  go_wp2;go_ret2;exact⟨qY HR.out H.out,qB _⟩
 ·
  have hfew:l.length<=128:=by omega
  have HR:Hid (wU (zU (ts.map trpOf) fs) (l.take 0) (l.drop 0)=r):=(zf hfew).symm.trans H.out;have hmm:= @run_makeMap Tryz.prog;obtain⟨w1,hw1⟩: ∃ w1,(w.alloc (.map #[] 0)).alloc (.map #[] 0)=w1:=⟨_,rfl⟩;have hs1:Ju w1 w.heap.size 0 (fun _=>false):=by rw[<-hw1];exact(je w Tryz.prog 3 4).kept (Below.heap_alloc _ _ _ (by simp))
  have hs2:Ju w1 (w.heap.size+1) 0 (fun _=>false):=by
   rw[<-hw1];have:=je (w.alloc (.map #[] 0)) Tryz.prog 3 4;rw[show(w.alloc (.map #[] 0)).heap.size=w.heap.size+1 by simp]at this;exact this
  have b1:Bl w w1:=by rw[<-hw1];exact qE (qE (qB _) _) _
  have HS1:=qA hs1;have HS2:=qA hs2;have B1:=qA b1;clear hmany hs1 hs2 b1;go_enter Tryz.func55,Tryz.ntmps55
  go_wp2_with fail;clear hw1 hmm;go_loopw [22] (fun i wr=> ∃ (k:Nat) (S1 S2:Lit->Bool),(k<=l.length/\i= .int .i64 k)/\Hid (fM (l.take k) S1/\AX (l.take k) S2/\Ju wr w.heap.size k S1/\Ju wr (w.heap.size+1) k S2)/\Hid (wU (zU (ts.map trpOf) fs) (l.take k) (l.drop k)=r)/\Bl w wr) (fun i _=>l.length-(intOf i).toNat)
  case atStart=>exact⟨0,_,_,⟨qAD _,rfl⟩,⟨fun _=>rfl,fun _=>rfl,HS1.out,HS2.out⟩,HR,B1.out⟩
  case round=>
   obtain⟨k,S1,S2,⟨hk,rfl⟩,HSS,HC,hbl⟩:=hrel;have z1:=hbl.size;by_cases hlt:k<l.length
   ·
    obtain⟨bl',ol,x,rfl,hbs,hx,hc⟩:=HL.out.get hlt hbl hB;have d0:wr.cell? ⟨bl',ol+k*2,none⟩=some (.int .i64 x.frm):=hc 0 _ rfl;have d1:=hc 1 _ rfl;have hkI:(k:Int)<(l.length:Int):=by omega
    have HX:=qA hx;have HXI:=qA (HOK.out x (Uz hx));clear hx hc;obtain⟨w2,hw2⟩: ∃ w2,wr.alloc (.cells #[.int .i64 x.frm, .int .i64 x.to] 128)=w2:=⟨_,rfl⟩;have b2:Bl wr w2:=by rw[<-hw2];exact qE (qB _) _
    have t0:w2.cell? ⟨wr.heap.size,0,none⟩=some (.int .i64 x.frm):=by rw[<-hw2,Uy (hn:=rfl)];rfl
    have t1:w2.cell? ⟨wr.heap.size,1,none⟩=some (.int .i64 x.to):=by rw[<-hw2,Uy (hn:=rfl)];rfl
    have s2:w2.heap.size=wr.heap.size+1:=by rw[<-hw2];simp
    have B2:Hid (Bl w w2):=qF hbl b2;have BR2:=qA b2;obtain⟨p,hp⟩: ∃ p,yZ ts.length x.frm x.to=p:=⟨_,rfl⟩;obtain⟨q,hq⟩: ∃ q,(vM fs x.frm||vM fs x.to)=q:=⟨_,rfl⟩;have HP:=qA hp;have HQ:=qA hq;have T0:=qA t0;have T1:=qA t1;clear hp hq b2;go_wp2_with fail;clear hw2;refine(Z5 x.frm x.to at' ts.length capt _ fs p q HP HQ B w2 (HF.out.out B2.out hB) (by omega)).mono ?_;rintro e w3 ⟨rfl,b3⟩;have B3:Hid (Bl w w3):=qF B2.out b3;have BR3:Hid (Bl wr w3):=qF BR2.out b3;have z3:=b3.size;have t0':w3.cell? ⟨wr.heap.size,0,none⟩=some (.int .i64 x.frm):=((qG b3).1 _ _ (by omega)).trans T0.out;have t1':w3.cell? ⟨wr.heap.size,1,none⟩=some (.int .i64 x.to):=((qG b3).1 _ _ (by omega)).trans T1.out;clear t0 t1 b3;cases p with
    |false=>
     have HE:=qA (qU (err:=zU (ts.map trpOf) fs) HX.out (Bj (by rw[U4];exact HP.out)) (by decide));rw[show df false=9 from rfl];go_wp2;go_ret2;exact⟨qY HE.out HC.out,B3.out⟩
    |true=>
     have HPM:Hid (yZ (ts.map trpOf).length x.frm x.to=true):=by show _=_;rw[U4];exact HP.out
     cases q with
     |true=>
      have HE:=qA (qU (err:=zU (ts.map trpOf) fs) HX.out (AB (pre:=l.take k) HPM.out HQ.out) (by decide));rw[show df true=0 from rfl,show Hr true true=17 from rfl];go_wp2;go_ret2;exact⟨qY HE.out HC.out,B3.out⟩
     |false=>
      rw[show df true=0 from rfl,show Hr true false=0 from rfl];obtain⟨⟨f1,f2⟩,⟨f3,f4⟩⟩:=JK HP.out;obtain⟨i1,hi1⟩: ∃ i1:Nat,x.frm=i1:=⟨x.frm.toNat,by omega⟩;obtain⟨i2,hi2⟩: ∃ i2:Nat,x.to=i2:=⟨x.to.toNat,by omega⟩;have n1:i1<ts.length:=by omega
      have n2:i2<ts.length:=by omega
      obtain⟨bt,ot,t,rfl,hbt,ht,htc⟩:=HT.out.sl.get n1 B3.out hB;obtain⟨bt',ot',u,hat,hbu,hu,huc⟩:=HT.out.sl.get n2 B3.out hB;simp only[qAA,Addr.mk.injEq]at hat;obtain⟨rfl,rfl,-⟩:=hat;have HFT:=qA (show Zc (ts.map trpOf) x.frm=trpOf t from J3 (by rw[hi1];exact ht));have HFU:=qA (show Zc (ts.map trpOf) x.to=trpOf u from J3 (by rw[hi2];exact hu));have HTR:=qA ((HT.out.ok t (Uz ht)).bl B3.out hB);have HUR:=qA ((HT.out.ok u (Uz hu)).bl B3.out hB);have hi1I:(i1:Int)<(ts.length:Int):=by omega
      have hi2I:(i2:Int)<(ts.length:Int):=by omega
      rw[hi1]at t0';rw[hi2]at t1';have HI1:=qA hi1;have HI2:=qA hi2;obtain⟨vt,hvt⟩: ∃ vt,t.v=vt:=⟨_,rfl⟩;obtain⟨vu,hvu⟩: ∃ vu,u.v=vu:=⟨_,rfl⟩;have a0:w3.cell? ⟨bt,ot+i1*5,none⟩=some (.string t.id):=htc 0 _ rfl;have a1:=htc 1 _ rfl;have a2:=htc 2 _ rfl;have a3:=htc 3 _ rfl;have a4:=htc 4 _ rfl;have u0:w3.cell? ⟨bt,ot+i2*5,none⟩=some (.string u.id):=huc 0 _ rfl;have u1:=huc 1 _ rfl;have u2:=huc 2 _ rfl;have u3:=huc 3 _ rfl;have u4:=huc 4 _ rfl;have htw:wr.heap.size<w3.heap.size:=by omega
      clear ht hu htc huc f1 f2 f3 f4 hi1 hi2 hvt hvu;have hold: ∀ w':World,Bl w3 w'->w'.cell? ⟨wr.heap.size,0,none⟩=some (.int .i64 i1)/\w'.cell? ⟨wr.heap.size,1,none⟩=some (.int .i64 i2)/\w'.cell? ⟨bt,ot+i1*5,none⟩=some (.string t.id)/\w'.cell? ⟨bt,ot+i1*5+1,none⟩=some (.int .i64 t.rt)/\w'.cell? ⟨bt,ot+i1*5+2,none⟩=some (.int .i64 t.cal)/\w'.cell? ⟨bt,ot+i1*5+3,none⟩=some (.bool t.step)/\w'.cell? ⟨bt,ot+i1*5+4,none⟩=some t.v/\w'.cell? ⟨bt,ot+i2*5,none⟩=some (.string u.id)/\w'.cell? ⟨bt,ot+i2*5+1,none⟩=some (.int .i64 u.rt)/\w'.cell? ⟨bt,ot+i2*5+2,none⟩=some (.int .i64 u.cal)/\w'.cell? ⟨bt,ot+i2*5+3,none⟩=some (.bool u.step)/\w'.cell? ⟨bt,ot+i2*5+4,none⟩=some u.v:=fun w' hb=>⟨((qG hb).1 _ _ htw).trans t0',((qG hb).1 _ _ htw).trans t1',((qG hb).1 _ _ hbt).trans a0,((qG hb).1 _ _ hbt).trans a1,((qG hb).1 _ _ hbt).trans a2,((qG hb).1 _ _ hbt).trans a3,((qG hb).1 _ _ hbt).trans a4,((qG hb).1 _ _ hbt).trans u0,((qG hb).1 _ _ hbt).trans u1,((qG hb).1 _ _ hbt).trans u2,((qG hb).1 _ _ hbt).trans u3,((qG hb).1 _ _ hbt).trans u4⟩
      obtain⟨rf,hrf⟩: ∃ rf,jk (trpOf t) (trpOf u)=rf:=⟨_,rfl⟩;have HRF:=qA hrf;clear hrf;go_wp2_with fail;go_region_held3 (fun w'=>w'.cell? ⟨wr.heap.size,0,none⟩=some (.int .i64 i1)/\w'.cell? ⟨wr.heap.size,1,none⟩=some (.int .i64 i2)/\w'.cell? ⟨bt,ot+i1*5,none⟩=some (.string t.id)/\w'.cell? ⟨bt,ot+i1*5+1,none⟩=some (.int .i64 t.rt)/\w'.cell? ⟨bt,ot+i1*5+2,none⟩=some (.int .i64 t.cal)/\w'.cell? ⟨bt,ot+i1*5+3,none⟩=some (.bool t.step)/\w'.cell? ⟨bt,ot+i1*5+4,none⟩=some t.v/\w'.cell? ⟨bt,ot+i2*5,none⟩=some (.string u.id)/\w'.cell? ⟨bt,ot+i2*5+1,none⟩=some (.int .i64 u.rt)/\w'.cell? ⟨bt,ot+i2*5+2,none⟩=some (.int .i64 u.cal)/\w'.cell? ⟨bt,ot+i2*5+3,none⟩=some (.bool u.step)/\w'.cell? ⟨bt,ot+i2*5+4,none⟩=some u.v) (first|exact hold _ (qH (qB _))|exact hold _ (qF (qH (qB _)) b4)) (first|(go_at_call 127;refine(Cc t u rf HRF B _ (HTR.out.calls.out (qH (qB _)) (by omega)) (HUR.out.calls.out (qH (qB _)) (by omega)) (by simp;omega)).mono ?_;rintro e w4 ⟨rfl,b4⟩))
      all_goals
       have HB4:Hid (Bl w w4):=qF B3.out (qF (qH (qB _)) b4);have HR4:Hid (Bl wr w4):=qF BR3.out (qF (qH (qB _)) b4);obtain⟨t0'',t1'',-⟩:=hold _ (qF (qH (qB _)) b4);have z34:w3.heap.size<=w4.heap.size:=(qF (qH (qB _)) b4).size;clear hold t0' t1' a0 a1 a2 a3 a4 u0 u1 u2 u3 u4 b4;have HFL:Hid (jk (Zc (ts.map trpOf) x.frm) (Zc (ts.map trpOf) x.to)=rf):=by show _=_;rw[HFT.out,HFU.out];exact HRF.out
       have z4:=HR4.out.size;by_cases hrf:rf=0
       ·
        subst hrf;obtain⟨e1,he1⟩: ∃ e1,S1 (.int .i64 i1)=e1:=⟨_,rfl⟩;obtain⟨e2,he2⟩: ∃ e2,S2 (.int .i64 i2)=e2:=⟨_,rfl⟩;have hk1:zB (i1:Int):=by rw[<-HI1.out];exact HXI.out.1
        have hk2:zB (i2:Int):=by rw[<-HI2.out];exact HXI.out.2
        have hlook1:=((HSS.out.2.2.1.bl HR4.out).look Qw Tryz.underlying174 Tryz.underlying4 (yR w4) (Qx hk1));have hlook2:=((HSS.out.2.2.2.bl HR4.out).look Qw Tryz.underlying174 Tryz.underlying4 (yR w4) (Qx hk2));rw[he1]at hlook1;rw[he2]at hlook2;have HD:Hid (((l.take k).any fun y=>y.frm==x.frm||y.to==x.to)=(e1||e2)):=by
         show _=_
         rw[N8,<-he1,<-he2,<-HI1.out,<-HI2.out,HSS.out.1,HSS.out.2.1]
        have HK1:=qA hk1;have HK2:=qA hk2;clear he1 he2 hk1 hk2;cases e1 with
        |true=>
         have HE:=qA (qU (err:=zU (ts.map trpOf) fs) HX.out (Bi HPM.out HQ.out HFL.out HD.out) (by decide));go_wp2;go_ret2;exact⟨qY HE.out HC.out,HB4.out⟩
        |false=>
         cases e2 with
         |true=>
          have HE:=qA (qU (err:=zU (ts.map trpOf) fs) HX.out (Bi HPM.out HQ.out HFL.out HD.out) (by decide));go_wp2;go_ret2;exact⟨qY HE.out HC.out,HB4.out⟩
         |false=>
          obtain⟨e3,he3⟩: ∃ e3,(QC (l.take k) i2).contains (i1:Int)=e3:=⟨_,rfl⟩;have HE3:=qA he3;have htw4:wr.heap.size<w4.heap.size:=by omega
          have hold: ∀ w':World,Bl w4 w'->w'.cell? ⟨wr.heap.size,0,none⟩=some (.int .i64 i1)/\w'.cell? ⟨wr.heap.size,1,none⟩=some (.int .i64 i2):=fun w' hb=>⟨((qG hb).1 _ _ htw4).trans t0'',((qG hb).1 _ _ htw4).trans t1''⟩
          have hkc:(k:Int)<=(capl:Int):=by omega
          clear he3;go_wp2_with fail;clear hlook1 hlook2;go_region_held3 (fun w'=>w'.cell? ⟨wr.heap.size,0,none⟩=some (.int .i64 i1)/\w'.cell? ⟨wr.heap.size,1,none⟩=some (.int .i64 i2)) (first|exact hold _ (qH (qB _))|exact hold _ (qF (qH (qB _)) b5)) (first|(go_at_call 128;refine(Ld _ (l.take k) i2 i1 e3 HE3 HK2.out (fun y hy=>(HOK.out y (List.mem_of_mem_take hy)).2) (by rw[List.length_take];omega) B _ ((HL.out.take (k:=k) (by omega)).out (qF HB4.out (qH (qB _))) hB) (by simp;omega)).mono ?_;rintro e w5 ⟨rfl,b5⟩))
          all_goals
           have HB5:Hid (Bl w w5):=qF HB4.out (qF (qH (qB _)) b5);have HR5:Hid (Bl wr w5):=qF HR4.out (qF (qH (qB _)) b5);obtain⟨y0,y1⟩:=hold _ (qF (qH (qB _)) b5);have z5:=HR5.out.size;have z45:w4.heap.size<=w5.heap.size:=(qF (qH (qB _)) b5).size;clear hold t0'' t1'' b5;cases e3 with
           |true=>
            have HE:=qA (qU (err:=zU (ts.map trpOf) fs) HX.out (IR HPM.out HQ.out HFL.out HD.out (by rw[HI1.out,HI2.out];exact HE3.out)) (by decide));go_wp2;go_ret2;exact⟨qY HE.out HC.out,HB5.out⟩
           |false=>
            have HG:=qA (jS (err:=zU (ts.map trpOf) fs) HX.out (Nl HPM.out HQ.out HFL.out HD.out (by rw[HI1.out,HI2.out];exact HE3.out)));have hs1:=HSS.out.2.2.1.bl (qH HR5.out);have hs2:=HSS.out.2.2.2.bl (qH HR5.out);obtain⟨wa,ha1,ha2,ha3⟩:=hs1.put Qw Tryz.underlying174 Tryz.underlying4 (by unfold maxLen;omega) (Qx HK1.out);obtain⟨wb,hb1,hb2,hb3⟩:=hs2.put Qw Tryz.underlying174 Tryz.underlying4 (by unfold maxLen;omega) (Qx HK2.out);have hs2a:=hs2.grown ha3 (by simp);have hs1b:=hs1.grown hb3 (by simp);obtain⟨wab,hab1,hab2,hab3⟩:=hs2a.put Qw Tryz.underlying174 Tryz.underlying4 (by unfold maxLen;omega) (Qx HK2.out);obtain⟨wba,hba1,hba2,hba3⟩:=hs1b.put Qw Tryz.underlying174 Tryz.underlying4 (by unfold maxLen;omega) (Qx HK1.out);have htw5:wr.heap.size<w5.heap.size:=by omega
            have zmap:=HSS.out.2.2.2.lt;have ga: ∀ j v,w5.cell? ⟨wr.heap.size,j,none⟩=some v->wa.cell? ⟨wr.heap.size,j,none⟩=some v:=fun j v h=>ha3.cell (by exact h) (by simp;omega)
            have gb: ∀ j v,w5.cell? ⟨wr.heap.size,j,none⟩=some v->wb.cell? ⟨wr.heap.size,j,none⟩=some v:=fun j v h=>hb3.cell (by exact h) (by simp;omega)
            have ya0:=ga _ _ y0;have ya1:=ga _ _ y1;have yb0:=gb _ _ y0;have yb1:=gb _ _ y1;have HAB:=qA (And.intro (hab2) (ha2.grown hab3 (by simp)));have HBA:=qA (And.intro (hba2) (hb2.grown hba3 (by simp)));have HBAB:Hid (Bl w wab):=((qH HB5.out).grown ha3 (by simp;omega) (fun k hk=>by cases hk;omega)).grown hab3 (by have:=ha3.size;simp at this;omega) (fun k hk=>by cases hk;omega);have HBBA:Hid (Bl w wba):=((qH HB5.out).grown hb3 (by simp;omega) (fun k hk=>by cases hk;omega)).grown hba3 (by have:=hb3.size;simp at this;omega) (fun k hk=>by cases hk;omega);clear hs1 hs2 ha2 ha3 hb2 hb3 hs2a hs1b hab2 hab3 hba2 hba3 ga gb;go_wp2_with fail;go_region
            all_goals
             go_wp2;go_roundw;case rel=>
              have hF:=HSS.out.1.next HX.out;have hT:=HSS.out.2.1.next HX.out;rw[HI1.out]at hF;rw[HI2.out]at hT;first
              |exact⟨k+1,_,_,⟨by omega,by go_num⟩,⟨hF,hT,HAB.out.2,HAB.out.1⟩,HG.out.symm.trans HC.out,HBAB.out⟩
              |exact⟨k+1,_,_,⟨by omega,by go_num⟩,⟨hF,hT,HBA.out.1,HBA.out.2⟩,HG.out.symm.trans HC.out,HBBA.out⟩
             case measure=>simp[intOf];omega
       ·
        have q:(rf != 0)=true:=by simpa using hrf
        have HE:=qA (qU (err:=zU (ts.map trpOf) fs) HX.out ((Np HPM.out HQ.out (by rw[HFL.out];exact hrf)).trans HFL.out) hrf);clear hrf;go_wp2;go_ret2;exact⟨qY HE.out HC.out,HB4.out⟩
   ·
    have HE:=qA (jy (err:=zU (ts.map trpOf) fs) (show l.length<=k by omega));go_wp2;go_ret2;exact⟨qY HE.out HC.out,hbl⟩
end Go.Proofs.YtakedkcjplfgeaaGreatDoor.Th
namespace Go.Proofs.YtakedkcjplfgeaaGreatDoor.Th
open Go.RowKit
open Go.Maps (Keyed)
open Frq Thr
theorem Wl:laidOutB Tryz.prog=true:=by kernel_rfl
theorem Wj:Keyed Tryz.prog 130:=Keyed.of_law (deep_law_laid Wl (m:=5) (by omega) (by decide+kernel) (by kernel_rfl) (by kernel_rfl))
def gv (x:wL):Value:= .agg #[.int .i64 x.frm, .int .i64 x.to, .int .i64 x.stop]
def MH (x:wL):Prop:=zB x.frm/\zB x.to/\zB x.stop
theorem F9:Tryz.prog.keyType 130=true:=by kernel_rfl
theorem dP:Tryz.prog.cellsOf 130=3:=by kernel_rfl
theorem YB:Tryz.prog.cellsOf 3=1:=by kernel_rfl
theorem YN: ∃ n,Tryz.prog.types.size=n+1:=by
 have h:0<Tryz.prog.types.size:=by decide+kernel
 exact⟨Tryz.prog.types.size-1,by omega⟩
theorem Py {x:wL} (h:MH x): ∃ kl,keyOf Tryz.prog 130 (gv x)=some kl:=by
 obtain⟨n,hn⟩:=YN;have w1:=Z8 h.1;have w2:=Z8 h.2.1;have w3:=Z8 h.2.2;unfold keyOf gv;rw[Tryz.underlying130];simp only[F9,Value.formed,Tryz.underlying130,dP,hn];simp[Program.keyLits,Tryz.underlying130,Tryz.underlying3,dP,YB,w1,w2,w3,Value.cells]
def Ed (gk:wL->Lit):Prop:= ∀ x,MH x->keyOf Tryz.prog 130 (gv x)=some (gk x)
theorem GN: ∃ gk,Ed gk:=by
 have h: ∀ x:wL,∃ kl,MH x->keyOf Tryz.prog 130 (gv x)=some kl:=fun x=>by
  by_cases hx:MH x
  ·
   obtain⟨kl,hk⟩:=Py hx;exact⟨kl,fun _=>hk⟩
  · exact⟨.bool false,fun h=>absurd h hx⟩
 exact⟨fun x=>Classical.choose (h x),fun x hx=>Classical.choose_spec (h x) hx⟩
theorem OT {gk:wL->Lit} (K:Ed gk) {x y:wL} (hx:MH x) (hy:MH y) (h:gk x=gk y):x=y:=by
 have:=Wj.inj (K x hx) (h ▸ K y hy);cases x
 cases y
 simpa[gv]using this
def fO (gk:wL->Lit) (l:List wL) (S:Lit->Bool):Prop:= ∀ x:wL,MH x->S (gk x)=l.contains x
theorem fO.next {gk:wL->Lit} (K:Ed gk) {l:List wL} {S:Lit->Bool} {k:Nat} {x:wL} (h:fO gk (l.take k) S) (hx:l[k]? =some x) (hk:MH x):fO gk (l.take (k+1)) (wY S (gk x)):=fun y hy=>by
 rw[ql hx];by_cases e:y=x
 · rw[e,xq _ (Wj.key (K x hk))];simp
 ·
  rw[xu (fun e'=>e (OT K hy hk e')),h y hy];simp[e]
abbrev NY (w:World) (b n:Nat) (S:Lit->Bool):Prop:=jE w Tryz.prog 130 4 b n S
section
variable {ts:List TrpD} {fs:List FreqD} {stops:Int} {pre:List wL} {x:wL}
theorem BI (h:yZ ts.length x.frm x.to=false):zk ts fs stops pre x=9:=by unfold zk;rw[U6 h]
theorem F8 (h:yZ ts.length x.frm x.to=true) (h0:Yi x.stop stops=false):zk ts fs stops pre x=9:=by unfold zk;rw[U5 (by rw[h];simp),U6 h0]
theorem tC (h:yZ ts.length x.frm x.to=true) (h0:Yi x.stop stops=true) (h1:(vM fs x.frm||vM fs x.to)=true):zk ts fs stops pre x=17:=by
 unfold zk;rw[U5 (by rw[h];simp),U5 (by rw[h0];simp),U6 h1]
theorem F7 (h:yZ ts.length x.frm x.to=true) (h0:Yi x.stop stops=true) (h1:(vM fs x.frm||vM fs x.to)=false) (h2:(vI (Zc ts x.frm).calls (Zc ts x.to).calls x.stop).2.2=false):zk ts fs stops pre x=19:=by
 unfold zk;rw[U5 (by rw[h];simp),U5 (by rw[h0];simp),U5 (by rw[h1];simp),U6 h2]
theorem Nc (h:yZ ts.length x.frm x.to=true) (h0:Yi x.stop stops=true) (h1:(vM fs x.frm||vM fs x.to)=false) (h2:(vI (Zc ts x.frm).calls (Zc ts x.to).calls x.stop).2.2=true) (h3:pre.contains x=true):zk ts fs stops pre x=6:=by
 unfold zk;rw[U5 (by rw[h];simp),U5 (by rw[h0];simp),U5 (by rw[h1];simp),U5 (by rw[h2];simp),U6 h3]
theorem Nb (h:yZ ts.length x.frm x.to=true) (h0:Yi x.stop stops=true) (h1:(vM fs x.frm||vM fs x.to)=false) (h2:(vI (Zc ts x.frm).calls (Zc ts x.to).calls x.stop).2.2=true) (h3:pre.contains x=false):zk ts fs stops pre x=0:=by
 unfold zk;rw[U5 (by rw[h];simp),U5 (by rw[h0];simp),U5 (by rw[h1];simp),U5 (by rw[h2];simp),U5 (by rw[h3];simp)]
end
theorem F6 (vl vt vf:Value) (l:List wL) (ts:List TripD) (fs:List FreqD) (stops:Int) (r:Int×Int) (H:Hid (qZ 128 (zk (ts.map trpOf) fs stops) l=r)) (hok: ∀ x∈l,MH x) (B:Nat) (w:World) (hl:Ec B w vl l) (ht:vP B w vt ts) (hf:xG B w vf fs) (hB:B<=w.heap.size):
  Calls Tryz.prog 57 #[vl,vt,vf, .int .i64 stops] w fun e w'=>e= .returned (.tuple #[.int .i64 r.1, .int .i64 r.2])/\Bl w w':=by
 obtain⟨gk,KG⟩:=GN;obtain⟨al,capl,rfl,ll1,ll2⟩:=hl.val;obtain⟨at',capt,rfl,lt1,lt2⟩:=ht.sl.val;obtain⟨af,capf,rfl,lf1,lf2⟩:=hf.val;have HL:=qA hl;have HT:=qA ht;have HF:=qA hf;have HOK:=qA hok;clear hl ht hf hok;by_cases hmany:128<l.length
 ·
  have HR:=qA (zM (err:=zk (ts.map trpOf) fs stops) hmany);go_enter Tryz.func57,Tryz.ntmps57
  go_wp2;go_ret2;exact⟨qY HR.out H.out,qB _⟩
 ·
  have hfew:l.length<=128:=by omega
  have HR:Hid (wU (zk (ts.map trpOf) fs stops) (l.take 0) (l.drop 0)=r):=(zf hfew).symm.trans H.out;have hmm:= @run_makeMap Tryz.prog;have HS1:Hid (NY (w.alloc (.map #[] 0)) w.heap.size 0 (fun _=>false)):=je w Tryz.prog 130 4;have B1:Hid (Bl w (w.alloc (.map #[] 0))):=qE (qB _) _;clear hmany;go_enter Tryz.func57,Tryz.ntmps57
  go_wp2_with fail;clear hmm;go_loopw [24] (fun i wr=> ∃ (k:Nat) (S:Lit->Bool),(k<=l.length/\i= .int .i64 k)/\Hid (fO gk (l.take k) S/\NY wr w.heap.size k S)/\Hid (wU (zk (ts.map trpOf) fs stops) (l.take k) (l.drop k)=r)/\Bl w wr) (fun i _=>l.length-(intOf i).toNat)
  case atStart=>exact⟨0,_,⟨qAD _,rfl⟩,⟨fun _ _=>rfl,HS1.out⟩,HR,B1.out⟩
  case round=>
   obtain⟨k,S,⟨hk,rfl⟩,HSS,HC,hbl⟩:=hrel;have z1:=hbl.size;by_cases hlt:k<l.length
   ·
    obtain⟨bl',ol,x,rfl,hbs,hx,hc⟩:=HL.out.get hlt hbl hB;have d0:wr.cell? ⟨bl',ol+k*3,none⟩=some (.int .i64 x.frm):=hc 0 _ rfl;have d1:=hc 1 _ rfl;have d2:=hc 2 _ rfl;have hkI:(k:Int)<(l.length:Int):=by omega
    have HX:=qA hx;have HXI:=qA (HOK.out x (Uz hx));clear hx hc;obtain⟨w2,hw2⟩: ∃ w2,wr.alloc (.cells #[.int .i64 x.frm, .int .i64 x.to, .int .i64 x.stop] 130)=w2:=⟨_,rfl⟩;have b2:Bl wr w2:=by rw[<-hw2];exact qE (qB _) _
    have t0:w2.cell? ⟨wr.heap.size,0,none⟩=some (.int .i64 x.frm):=by rw[<-hw2,Uy (hn:=rfl)];rfl
    have t1:w2.cell? ⟨wr.heap.size,1,none⟩=some (.int .i64 x.to):=by rw[<-hw2,Uy (hn:=rfl)];rfl
    have t2:w2.cell? ⟨wr.heap.size,2,none⟩=some (.int .i64 x.stop):=by rw[<-hw2,Uy (hn:=rfl)];rfl
    have s2:w2.heap.size=wr.heap.size+1:=by rw[<-hw2];simp
    have B2:Hid (Bl w w2):=qF hbl b2;have BR2:=qA b2;obtain⟨p,hp⟩: ∃ p,yZ ts.length x.frm x.to=p:=⟨_,rfl⟩;obtain⟨q,hq⟩: ∃ q,(vM fs x.frm||vM fs x.to)=q:=⟨_,rfl⟩;have HP:=qA hp;have HQ:=qA hq;have T0:=qA t0;have T1:=qA t1;have T2:=qA t2;clear hp hq b2;go_wp2_with fail;clear hw2;refine(Z5 x.frm x.to at' ts.length capt _ fs p q HP HQ B w2 (HF.out.out B2.out hB) (by omega)).mono ?_;rintro e w3 ⟨rfl,b3⟩;have B3:Hid (Bl w w3):=qF B2.out b3;have BR3:Hid (Bl wr w3):=qF BR2.out b3;have z3:=b3.size;have t0':w3.cell? ⟨wr.heap.size,0,none⟩=some (.int .i64 x.frm):=((qG b3).1 _ _ (by omega)).trans T0.out;have t1':w3.cell? ⟨wr.heap.size,1,none⟩=some (.int .i64 x.to):=((qG b3).1 _ _ (by omega)).trans T1.out;have t2':w3.cell? ⟨wr.heap.size,2,none⟩=some (.int .i64 x.stop):=((qG b3).1 _ _ (by omega)).trans T2.out;clear t0 t1 t2 b3;cases p with
    |false=>
     have HE:=qA (qU (err:=zk (ts.map trpOf) fs stops) HX.out (BI (by rw[U4];exact HP.out)) (by decide));rw[show df false=9 from rfl];go_wp2;go_ret2;exact⟨qY HE.out HC.out,B3.out⟩
    |true=>
     have HPM:Hid (yZ (ts.map trpOf).length x.frm x.to=true):=by show _=_;rw[U4];exact HP.out
     rw[show df true=0 from rfl];by_cases hin:Yi x.stop stops=true
     ·
      have HIN:=qA hin;have hst:0<=x.stop/\x.stop<stops:=by unfold Yi at hin;simpa using hin
      obtain⟨hst1,hst2⟩:=hst;have qs1:decide (x.stop<0)=false:=decide_eq_false (by omega);have qs2:decide (stops<=x.stop)=false:=decide_eq_false (by omega);clear hin;cases q with
      |true=>
       have HE:=qA (qU (err:=zk (ts.map trpOf) fs stops) HX.out (tC (pre:=l.take k) HPM.out HIN.out HQ.out) (by decide));rw[show Hr true true=17 from rfl];go_wp2;go_ret2;exact⟨qY HE.out HC.out,B3.out⟩
      |false=>
       rw[show Hr true false=0 from rfl];obtain⟨⟨f1,f2⟩,⟨f3,f4⟩⟩:=JK HP.out;obtain⟨i1,hi1⟩: ∃ i1:Nat,x.frm=i1:=⟨x.frm.toNat,by omega⟩;obtain⟨i2,hi2⟩: ∃ i2:Nat,x.to=i2:=⟨x.to.toNat,by omega⟩;have n1:i1<ts.length:=by omega
       have n2:i2<ts.length:=by omega
       obtain⟨bt,ot,t,rfl,hbt,ht,htc⟩:=HT.out.sl.get n1 B3.out hB;obtain⟨bt',ot',u,hat,hbu,hu,huc⟩:=HT.out.sl.get n2 B3.out hB;simp only[qAA,Addr.mk.injEq]at hat;obtain⟨rfl,rfl,-⟩:=hat;have HFT:=qA (show Zc (ts.map trpOf) x.frm=trpOf t from J3 (by rw[hi1];exact ht));have HFU:=qA (show Zc (ts.map trpOf) x.to=trpOf u from J3 (by rw[hi2];exact hu));have HTR:=qA ((HT.out.ok t (Uz ht)).bl B3.out hB);have HUR:=qA ((HT.out.ok u (Uz hu)).bl B3.out hB);have hi1I:(i1:Int)<(ts.length:Int):=by omega
       have hi2I:(i2:Int)<(ts.length:Int):=by omega
       rw[hi1]at t0';rw[hi2]at t1';have HI1:=qA hi1;have HI2:=qA hi2;have a4:w3.cell? ⟨bt,ot+i1*5+4,none⟩=some t.v:=htc 4 _ rfl;have u4:w3.cell? ⟨bt,ot+i2*5+4,none⟩=some u.v:=huc 4 _ rfl;have htw:wr.heap.size<w3.heap.size:=by omega
       clear ht hu htc huc f1 f2 f3 f4 hi1 hi2;have hold: ∀ w':World,Bl w3 w'->w'.cell? ⟨wr.heap.size,0,none⟩=some (.int .i64 i1)/\w'.cell? ⟨wr.heap.size,1,none⟩=some (.int .i64 i2)/\w'.cell? ⟨wr.heap.size,2,none⟩=some (.int .i64 x.stop)/\w'.cell? ⟨bt,ot+i1*5+4,none⟩=some t.v/\w'.cell? ⟨bt,ot+i2*5+4,none⟩=some u.v:=fun w' hb=>⟨((qG hb).1 _ _ htw).trans t0',((qG hb).1 _ _ htw).trans t1',((qG hb).1 _ _ htw).trans t2',((qG hb).1 _ _ hbt).trans a4,((qG hb).1 _ _ hbt).trans u4⟩
       obtain⟨m,hm⟩: ∃ m,vI t.calls u.calls x.stop=m:=⟨_,rfl⟩;obtain⟨m1,m2,m3⟩:=m;have HM:=qA hm;clear hm;go_wp2_with fail;go_region_held3 (fun w'=>w'.cell? ⟨wr.heap.size,0,none⟩=some (.int .i64 i1)/\w'.cell? ⟨wr.heap.size,1,none⟩=some (.int .i64 i2)/\w'.cell? ⟨wr.heap.size,2,none⟩=some (.int .i64 x.stop)/\w'.cell? ⟨bt,ot+i1*5+4,none⟩=some t.v/\w'.cell? ⟨bt,ot+i2*5+4,none⟩=some u.v) (first|exact hold _ (qH (qB _))|exact hold _ (qF (qH (qB _)) b4)) (first|(go_at_call 129;refine(Lp t.v u.v t.calls u.calls x.stop m1 m2 m3 HM B _ (HTR.out.calls.out (qH (qB _)) (by omega)) (HUR.out.calls.out (qH (qB _)) (by omega)) (by simp;omega)).mono ?_;rintro e w4 ⟨rfl,b4⟩))
       all_goals
        have HB4:Hid (Bl w w4):=qF B3.out (qF (qH (qB _)) b4);have HR4:Hid (Bl wr w4):=qF BR3.out (qF (qH (qB _)) b4);obtain⟨t0'',t1'',t2'',-⟩:=hold _ (qF (qH (qB _)) b4);clear hold t0' t1' t2' a4 u4 b4;have HMM:Hid ((vI (Zc (ts.map trpOf) x.frm).calls (Zc (ts.map trpOf) x.to).calls x.stop).2.2=m3):=by
         show _=_
         rw[HFT.out,HFU.out];show(vI t.calls u.calls x.stop).2.2=m3
         rw[HM.out]
        have z4:=HR4.out.size;cases m3 with
        |false=>
         have HE:=qA (qU (err:=zk (ts.map trpOf) fs stops) HX.out (F7 (pre:=l.take k) HPM.out HIN.out HQ.out HMM.out) (by decide));go_wp2;go_ret2;exact⟨qY HE.out HC.out,HB4.out⟩
        |true=>
         have hset4:=HSS.out.2.bl HR4.out;have hkey:=KG x HXI.out;have hlook:=hset4.look Wj Tryz.underlying179 Tryz.underlying4 (yR w4) hkey;obtain⟨w5,hput,hset5,hgr5⟩:=hset4.put Wj Tryz.underlying179 Tryz.underlying4 (by unfold maxLen;omega) hkey;obtain⟨c,hcc⟩: ∃ c,S (gk x)=c:=⟨_,rfl⟩;have HCC:Hid ((l.take k).contains x=c):=(HSS.out.1 x HXI.out).symm.trans hcc;rw[hcc]at hlook;unfold gv at hlook hput;rw[HI1.out,HI2.out]at hlook hput;have HB5:Hid (Bl w w5):=HB4.out.grown hgr5 (by have:=HB4.out.size;omega) (fun k hk=>by cases hk;exact U3 _);have HS5:=qA hset5;clear hset4 hkey hset5 hgr5 hcc;cases c with
         |true=>
          have HE:=qA (qU (err:=zk (ts.map trpOf) fs stops) HX.out (Nc HPM.out HIN.out HQ.out HMM.out HCC.out) (by decide));go_wp2;go_ret2;exact⟨qY HE.out HC.out,HB4.out⟩
         |false=>
          have HG:=qA (jS (err:=zk (ts.map trpOf) fs stops) HX.out (Nb HPM.out HIN.out HQ.out HMM.out HCC.out));go_wp2;go_roundw;case rel=>exact⟨k+1,_,⟨by omega,by go_num⟩,⟨HSS.out.1.next KG HX.out HXI.out,HS5.out⟩,HG.out.symm.trans HC.out,HB5.out⟩
          case measure=>simp[intOf];omega
     ·
      have hin':Yi x.stop stops=false:=by simpa using hin
      have HE:=qA (qU (err:=zk (ts.map trpOf) fs stops) HX.out (F8 (pre:=l.take k) HPM.out hin') (by decide));by_cases hneg:x.stop<0
      ·
       clear hin hin';have qs1:decide (x.stop<0)=true:=decide_eq_true hneg;go_wp2;go_ret2;exact⟨qY HE.out HC.out,B3.out⟩
      ·
       have hge:stops<=x.stop:=by
        unfold Yi at hin';simp at hin'
        omega
       have qs1:decide (x.stop<0)=false:=decide_eq_false hneg;have qs2:decide (stops<=x.stop)=true:=decide_eq_true hge;clear hin hin' hneg;go_wp2;go_ret2;exact⟨qY HE.out HC.out,B3.out⟩
   ·
    have HE:=qA (jy (err:=zk (ts.map trpOf) fs stops) (show l.length<=k by omega));go_wp2;go_ret2;exact⟨qY HE.out HC.out,hbl⟩
end Go.Proofs.YtakedkcjplfgeaaGreatDoor.Th
