/- Contracts, proved. Conditions: theirs. -/
import Derived.Test.YtakedkcjplfgeaaGreatDoorMPkThA
set_option maxRecDepth 1000000
set_option maxHeartbeats 32000000
open Go.Proofs.Tryz
namespace Go.Proofs.YtakedkcjplfgeaaGreatDoor.Th
open Go.RowKit
open Frq Thr
theorem mJ (i:Int) (a:Option Addr) (n cap b:Nat) (r:Bool) (H:Hid (Yi i n=r)) (w:World) (hc:w.cell? (b,0)=some (.slice a n cap)):
  Calls prog 196 #[i,(b,0)] w λe w'=>e=.returned (r:Z)/\w=w':=by
 by_cases h0:0<=i
 ·
  by_cases h1:i<n
  ·
   obtain rfl:r=true:=by rw[<-H.o];unfold Yi;simp[h0,h1]
   clear H;go_enter func196,ntmps196
   go_wp2;go_ret;exact⟨rfl,rfl⟩
  obtain rfl:r=false:=by rw[<-H.o];unfold Yi;simp[h1]
  clear H;have h1':decide (i<(n:Int))=false:=by rw[decide_eq_false_iff_not];exact h1
  clear h1;go_enter func196,ntmps196
  go_wp2;go_ret;exact⟨rfl,rfl⟩
 obtain rfl:r=false:=by rw[<-H.o];unfold Yi;simp[h0]
 clear H;have h0':i<0:=ω
 clear h0;go_enter func196,ntmps196
 go_wp2;go_ret;exact⟨rfl,rfl⟩
def df (p:Bool):Int:=if p then 0 else 9
def Hr (p q:Bool):Int:=if p&&q then 17 else 0
theorem kR {a b c d:Int} (h:a=c) (h':b=d):Ending.returned (.tuple #[a,b])=.returned (.tuple #[c,d]):=by rw[h,h']
theorem Z5 (frm tt:Int) (a:Option Addr) (n cap:Nat) (vf:Value) (fs:List FreqD) (p q:Bool) (H1:Hid (yZ n frm tt=p)) (H2:Hid ((vM fs frm||vM fs tt)=q)) (B:Nat) (w:World) (hf:xG B w vf fs) (hB:B<=w.heap.size):
  Calls prog 126 #[frm,tt,.slice a n cap,vf] w λe w'=>e=.returned (.tuple #[(df p),(Hr p q)])/\Bl w w':=by
 have HF:=qA hf;obtain⟨w1,hw1⟩:=ε (w.alloc (.cells #[.slice a n cap] 27));have c0:w1.cell? (w.heap.size,0)=some (.slice a n cap):=by rw[<-hw1,Uy (hn:=rfl)];rfl
 have b1:Bl w w1:=by rw[<-hw1];exact qE (qB _) _
 have z1:=b1.size;have B1:=qA b1;obtain⟨e1,he1⟩:=ε (Yi frm n);obtain⟨e2,he2⟩:=ε (Yi tt n);have HP:Hid (p=(e1&&(e2&& !(frm==tt)))):=by rw[<-he1,<-he2];exact H1.o.symm
 have E1:=qA he1;have E2:=qA he2;have C0:=qA c0;clear hf b1 he1 he2 H1 c0;go_enter func126,ntmps126
 go_wp2_with fail;clear hw1;refine(mJ frm a n cap _ e1 E1 w1 C0.o).mono ?_;rintro e w2 ⟨rfl,rfl⟩;cases e1 with
 |false=>
  have HN:=qA (show p=false by rw[HP.o];rfl);go_wp2;go_ret2;exact⟨kR (by rw[HN.o];rfl) (by rw[HN.o];rfl),B1.o⟩
 |true=>
  go_wp2_with fail;refine(mJ tt a n cap _ e2 E2 w1 C0.o).mono ?_;rintro e w2 ⟨rfl,rfl⟩;cases e2 with
  |false=>
   have HN:=qA (show p=false by rw[HP.o];rfl);go_wp2;go_ret2;exact⟨kR (by rw[HN.o];rfl) (by rw[HN.o];rfl),B1.o⟩
  |true=>
   by_cases he:frm=tt
   ·
    have HN:=qA (show p=false by rw[HP.o,he];simp);have qe:(frm==tt)=true:=by rw[beq_iff_eq];exact he
    clear he;go_wp2;go_ret2;exact⟨kR (by rw[HN.o];rfl) (by rw[HN.o];rfl),B1.o⟩
   have qe:(frm==tt)=false:=by rw[U0];exact he
   have HN:=qA (show p=true by rw[HP.o,qe];rfl);clear he;obtain⟨r1,hr1⟩:=ε (vM fs frm);obtain⟨r2,hr2⟩:=ε (vM fs tt);have HQ:Hid (q=(r1||r2)):=by rw[<-hr1,<-hr2];exact H2.o.symm
   have R1:=qA hr1;have R2:=qA hr2;clear hr1 hr2 H2 HP;go_wp2_with fail;refine(Ht vf fs frm r1 R1 B w1 (HF.o.o B1.o hB) ω).mono ?_;rintro e w3 ⟨rfl,b3⟩;have B3:Hid (Bl w w3):=qF B1.o b3;have z3:=b3.size;clear b3;cases r1 with
   |true=>
    have HR:=qA (show q=true by rw[HQ.o];rfl);go_wp2;go_ret2;exact⟨kR (by rw[HN.o];rfl) (by rw[HN.o,HR.o];rfl),B3.o⟩
   |false=>
    go_wp2_with fail;refine(Ht vf fs tt r2 R2 B w3 (HF.o.o B3.o hB) ω).mono ?_;rintro e w4 ⟨rfl,b4⟩;have B4:Hid (Bl w w4):=qF B3.o b4;have HR:=qA (show q=r2 by rw[HQ.o];rfl);clear b4;cases r2 with
    |true=>
     go_wp2;go_ret2;exact⟨kR (by rw[HN.o];rfl) (by rw[HN.o,HR.o];rfl),B4.o⟩
    |false=>
     go_wp2;go_ret2;exact⟨kR (by rw[HN.o];rfl) (by rw[HN.o,HR.o];rfl),B4.o⟩
theorem Xb {a b:TrpD} (h:a.cal≠b.cal):jk a b=15:=by unfold jk;rw[U6 h]
theorem dM {a b:TrpD} (h:a.cal=b.cal) (h1:a.calls=[]):jk a b=13:=by unfold jk;rw[U5 ω,h1];rfl
theorem dN {a b:TrpD} (h:a.cal=b.cal) (h1:b.calls=[]):jk a b=13:=by unfold jk;rw[U5 ω,h1];cases a.calls.getLast?<;>rfl
theorem dO {a b:TrpD} {x y:CallD} {n:Nat} (h:a.cal=b.cal) (hn:a.calls.length=n+1) (h1:a.calls[n]? =some x) (h2:b.calls[0]? =some y):jk a b=if x.stop≠y.stop then 13 else if y.depart<x.arrive then 10 else 0:=by
 unfold jk;have e1:a.calls.getLast?=some x:=by rw[List.getLast?_eq_getElem?,hn];exact h1
 have e2:b.calls.head?=some y:=by rw[List.head?_eq_getElem?];exact h2
 rw[U5 ω,e1,e2]
theorem Cc (t u:TripD) (r:Int) (H:Hid (jk (trpOf t) (trpOf u)=r)) (B:Nat) (w:World) (ht:CallsIn B w t.v t.calls) (hu:CallsIn B w u.v u.calls) (hB:B<=w.heap.size):
  Calls prog 127 #[.agg #[t.id,t.rt,t.cal,t.step,t.v],.agg #[u.id,u.rt,u.cal,u.step,u.v]] w λe w'=>e=.returned (r:Z)/\Bl w w':=by
 obtain⟨ti,tr,tc,ts,tv,tl⟩:=t;obtain⟨ui,ur,uc,us,uv,ul⟩:=u;simp only[trpOf]at H ht hu ⊢;have HT:=qA ht;have HU:=qA hu;obtain⟨at',ct,rfl,lt1,lt2⟩:=ht.val;obtain⟨au,cu,rfl,lu1,lu2⟩:=hu.val;clear ht hu;obtain⟨w1,hw1⟩:=ε ((w.alloc (.cells #[ti,tr,tc,ts,.slice at' tl.length ct] 56)).alloc (.cells #[ui,ur,uc,us,.slice au ul.length cu] 56));have b1:Bl w w1:=by rw[<-hw1];exact qE (qE (qB _) _) _
 have s1:w1.heap.size=w.heap.size+2:=by rw[<-hw1];simp
 have k0: ∀ (j:Nat) (x:Value),(#[ti,tr,tc,ts,.slice at' tl.length ct]:Array Value)[j]? =some x->w1.cell? ⟨w.heap.size,j,none⟩=some x:=by
  intro j x hx;rw[<-hw1,(qG (qE (qB _) _)).1 _ _ σ,Uy (hn:=rfl)];exact hx
 have k1: ∀ (j:Nat) (x:Value),(#[ui,ur,uc,us,.slice au ul.length cu]:Array Value)[j]? =some x->w1.cell? ⟨w.heap.size+1,j,none⟩=some x:=by
  intro j x hx;rw[<-hw1,Uy (hn:=by simp)];exact hx
 have c02:=k0 2 _ rfl;have c04:=k0 4 _ rfl;have c12:=k1 2 _ rfl;have c14:=k1 4 _ rfl;have B1:=qA b1;clear k0 k1 b1;by_cases hcal:tc=uc
 ·
  have qc:(tc != uc)=false:=by rw[hcal];simp
  by_cases hte:tl=[]
  ·
   have HR:=qA (dM (a:=⟨tc,tl⟩) (b:=⟨uc,ul⟩) hcal hte);have q1:((tl.length:Int)==0)=true:=by rw[hte];rfl
   clear hcal hte;go_enter func127,ntmps127
   go_wp2;go_ret;exact⟨qR (by rw[<-H.o];exact HR.o.symm),B1.o⟩
  by_cases hue:ul=[]
  ·
   have HR:=qA (dN (a:=⟨tc,tl⟩) (b:=⟨uc,ul⟩) hcal hue);have q2:((ul.length:Int)==0)=true:=by rw[hue];rfl
   have hpt:0<tl.length:=List.length_pos_iff.2 hte;have q1:((tl.length:Int)==0)=false:=π
   clear hcal hte hue;go_enter func127,ntmps127
   go_wp2;go_ret;exact⟨qR (by rw[<-H.o];exact HR.o.symm),B1.o⟩
  have hpt:0<tl.length:=List.length_pos_iff.2 hte;have hpu:0<ul.length:=List.length_pos_iff.2 hue;obtain⟨n,hn⟩: ∃ n,tl.length=n+1:=⟨tl.length-1,ω⟩;obtain⟨bt,ot,x,rfl,hbt,hx,hct⟩:=HT.o.get (k:=n) ω B1.o hB;obtain⟨bu,ou,y,rfl,hbu,hy,hcu⟩:=HU.o.get (k:=0) hpu B1.o hB;have HR:=qA (dO (a:=⟨tc,tl⟩) (b:=⟨uc,ul⟩) hcal hn hx hy);have d0:w1.cell? ⟨bt,ot+n*5,none⟩=some (x.stop:Z):=hct 0 _ rfl;have d1:=hct 1 _ rfl;have d2:=hct 2 _ rfl;have d3:=hct 3 _ rfl;have d4:=hct 4 _ rfl;have hcu': ∀ j z,(callCells y)[j]? =some z->w1.cell? ⟨bu,ou+j,none⟩=some z:=λj z hz=>by have:=hcu j z hz;rwa [Nat.zero_mul,Nat.add_zero]at this
  have e0:w1.cell? (bu,ou)=some (y.stop:Z):=hcu' 0 _ rfl;have e1:=hcu' 1 _ rfl;have e2:=hcu' 2 _ rfl;have e3:=hcu' 3 _ rfl;have e4:=hcu' 4 _ rfl;have q1:((tl.length:Int)==0)=false:=π
  have q2:((ul.length:Int)==0)=false:=π
  have i1:IntKind.i64.wrap ((tl.length:Int)-1)=(n:Int):=by rw[IntWalk.i64_in _ ω];omega
  have i2:(n:Int)<(tl.length:Int):=ω
  clear hcal hte hue hn hx hy hct hcu hcu';go_enter func127,ntmps127
  go_wp2_with fail;have hw0:w.heap.size+1<w1.heap.size:=ω
  have hold: ∀ w':World,Bl w1 w'->w'.cell? (w.heap.size,4)=some ((bt,ot,tl.length,ct):Z)/\w'.cell? (w.heap.size+1,4)=some ((bu,ou,ul.length,cu):Z)/\w'.cell? ⟨bt,ot+n*5,none⟩=some (x.stop:Z)/\w'.cell? ⟨bt,ot+n*5+1,none⟩=some (x.arrive:Z)/\w'.cell? ⟨bt,ot+n*5+2,none⟩=some (x.depart:Z)/\w'.cell? ⟨bt,ot+n*5+3,none⟩=some (x.board:Z)/\w'.cell? ⟨bt,ot+n*5+4,none⟩=some (x.alight:Z)/\w'.cell? (bu,ou)=some (y.stop:Z)/\w'.cell? (bu,ou+1)=some (y.arrive:Z)/\w'.cell? (bu,ou+2)=some (y.depart:Z)/\w'.cell? (bu,ou+3)=some (y.board:Z)/\w'.cell? (bu,ou+4)=some (y.alight:Z):=λw' hb=>⟨((qG hb).1 _ _ ω).trans c04,((qG hb).1 _ _ hw0).trans c14,((qG hb).1 _ _ hbt).trans d0,((qG hb).1 _ _ hbt).trans d1,((qG hb).1 _ _ hbt).trans d2,((qG hb).1 _ _ hbt).trans d3,((qG hb).1 _ _ hbt).trans d4,((qG hb).1 _ _ hbu).trans e0,((qG hb).1 _ _ hbu).trans e1,((qG hb).1 _ _ hbu).trans e2,((qG hb).1 _ _ hbu).trans e3,((qG hb).1 _ _ hbu).trans e4⟩
  clear hw1;go_region_held3 (λw'=>w'.cell? (w.heap.size,4)=some ((bt,ot,tl.length,ct):Z)/\w'.cell? (w.heap.size+1,4)=some ((bu,ou,ul.length,cu):Z)/\w'.cell? ⟨bt,ot+n*5,none⟩=some (x.stop:Z)/\w'.cell? ⟨bt,ot+n*5+1,none⟩=some (x.arrive:Z)/\w'.cell? ⟨bt,ot+n*5+2,none⟩=some (x.depart:Z)/\w'.cell? ⟨bt,ot+n*5+3,none⟩=some (x.board:Z)/\w'.cell? ⟨bt,ot+n*5+4,none⟩=some (x.alight:Z)/\w'.cell? (bu,ou)=some (y.stop:Z)/\w'.cell? (bu,ou+1)=some (y.arrive:Z)/\w'.cell? (bu,ou+2)=some (y.depart:Z)/\w'.cell? (bu,ou+3)=some (y.board:Z)/\w'.cell? (bu,ou+4)=some (y.alight:Z)) ((refine hold _ ?_;repeat(first|exact qB _|refine qH ?_|refine qE ?_ _|refine zF ?_ σ _))) (fail)
  all_goals
   clear hold c02 c04 c12 c14 d0 d1 d2 d3 d4 e0 e1 e2 e3 e4;by_cases hs:x.stop=y.stop
   ·
    have q3:(x.stop != y.stop)=false:=by rw[hs];simp
    by_cases ht:y.depart<x.arrive
    ·
     have q4:decide (y.depart<x.arrive)=true:=decide_eq_true ht;have HR':=qA (HR.o.trans (by rw[U5 (by simpa using hs),U6 ht]));clear hs ht;go_wp2;go_ret;exact⟨qR (by rw[<-H.o];exact HR'.o.symm),by repeat(first|exact B1.o|refine qH ?_|refine qE ?_ _|refine zF ?_ σ _)⟩
    have q4:decide (y.depart<x.arrive)=false:=decide_eq_false ht;have HR':=qA (HR.o.trans (by rw[U5 (by simpa using hs),U5 ht]));clear hs ht;go_wp2;go_ret;exact⟨qR (by rw[<-H.o];exact HR'.o.symm),by repeat(first|exact B1.o|refine qH ?_|refine qE ?_ _|refine zF ?_ σ _)⟩
   have q3:(x.stop != y.stop)=true:=by simpa using hs
   have HR':=qA (HR.o.trans (by rw[U6 hs]));clear hs;go_wp2;go_ret;exact⟨qR (by rw[<-H.o];exact HR'.o.symm),by repeat(first|exact B1.o|refine qH ?_|refine qE ?_ _|refine zF ?_ σ _)⟩
 have qc:(tc != uc)=true:=by simpa using hcal
 have HR:=qA (Xb (a:=⟨tc,tl⟩) (b:=⟨uc,ul⟩) hcal);clear hcal;go_enter func127,ntmps127
 go_wp2;go_ret;exact⟨qR (by rw[<-H.o];exact HR.o.symm),B1.o⟩
def Ry (x:ThrD):Prop:=zB x.frm/\zB x.to
theorem qY {a b:Int} {r r':Int×Int} (h:r'=(a,b)) (h':r'=r):Ending.returned (.tuple #[a,b])=.returned (.tuple #[r.1,r.2]):=by rw[<-h',h]
theorem N8 {α:Type} (p q:α->Bool) (l:List α):(l.any λy=>p y||q y)=(l.any p||l.any q):=by
 induction l with
 |nil=>rfl
 |cons y l ih=>
  rw[List.any_cons,List.any_cons,List.any_cons,ih];cases p y<;>cases q y<;>simp
theorem lQ {α:Type} (p:α->Bool) {l:List α} {k:Nat} {x:α} (h:l[k]? =some x):(l.take (k+1)).any p=((l.take k).any p||p x):=by
 rw[ql h,List.any_append];simp
def fM (l:List ThrD) (S:Lit->Bool):Prop:= ∀ x:Int,S (.int .i64 x)=l.any λy=>y.frm==x
def AX (l:List ThrD) (S:Lit->Bool):Prop:= ∀ x:Int,S (.int .i64 x)=l.any λy=>y.to==x
theorem aI (S:Lit->Bool) (a x:Int):wY S (.int .i64 a) (.int .i64 x)=(S (.int .i64 x)||(a==x)):=by
 by_cases h:x=a
 · rw[h,xq _ (by trivial)];simp
 rw[xu η,show(a==x)=false by rw[U0];exact λe=>h e.symm,Bool.or_false]
theorem fM.next {l:List ThrD} {S:Lit->Bool} {k:Nat} {x:ThrD} (h:fM (l.take k) S) (hx:l[k]? =some x):fM (l.take (k+1)) (wY S (.int .i64 x.frm)):=λy=>by
 rw[aI,h y,lQ _ hx]
theorem AX.next {l:List ThrD} {S:Lit->Bool} {k:Nat} {x:ThrD} (h:AX (l.take k) S) (hx:l[k]? =some x):AX (l.take (k+1)) (wY S (.int .i64 x.to)):=λy=>by
 rw[aI,h y,lQ _ hx]
section
variable {ts:List TrpD} {fs:List FreqD} {pre:List ThrD} {x:ThrD}
theorem Bj (h:yZ ts.length x.frm x.to=false):zU ts fs pre x=9:=by unfold zU;rw[U6 h]
theorem AB (h:yZ ts.length x.frm x.to=true) (h1:(vM fs x.frm||vM fs x.to)=true):zU ts fs pre x=17:=by unfold zU;rw[U5 (by rw[h];simp),U6 h1]
theorem Np (h:yZ ts.length x.frm x.to=true) (h1:(vM fs x.frm||vM fs x.to)=false) (h2:jk (Zc ts x.frm) (Zc ts x.to)≠0):zU ts fs pre x=jk (Zc ts x.frm) (Zc ts x.to):=by unfold zU;rw[U5 (by rw[h];simp),U5 (by rw[h1];simp),U6 h2]
theorem Bi (h:yZ ts.length x.frm x.to=true) (h1:(vM fs x.frm||vM fs x.to)=false) (h2:jk (Zc ts x.frm) (Zc ts x.to)=0) (h3:(pre.any λy=>y.frm==x.frm||y.to==x.to)=true):zU ts fs pre x=6:=by
 unfold zU;rw[U5 (by rw[h];simp),U5 (by rw[h1];simp),U5 (by rw[h2];simp),U6 h3]
theorem IR (h:yZ ts.length x.frm x.to=true) (h1:(vM fs x.frm||vM fs x.to)=false) (h2:jk (Zc ts x.frm) (Zc ts x.to)=0) (h3:(pre.any λy=>y.frm==x.frm||y.to==x.to)=false) (h4:(QC pre x.to).contains x.frm=true):zU ts fs pre x=19:=by
 unfold zU;rw[U5 (by rw[h];simp),U5 (by rw[h1];simp),U5 (by rw[h2];simp),U5 (by rw[h3];simp),U6 h4]
theorem Nl (h:yZ ts.length x.frm x.to=true) (h1:(vM fs x.frm||vM fs x.to)=false) (h2:jk (Zc ts x.frm) (Zc ts x.to)=0) (h3:(pre.any λy=>y.frm==x.frm||y.to==x.to)=false) (h4:(QC pre x.to).contains x.frm=false):zU ts fs pre x=0:=by
 unfold zU;rw[U5 (by rw[h];simp),U5 (by rw[h1];simp),U5 (by rw[h2];simp),U5 (by rw[h3];simp),U5 (by rw[h4];simp)]
end
theorem zM {α:Type} {most:Nat} {err:List α->α->Int} {l:List α} (h:most<l.length):qZ most err l=(0,5):=by unfold qZ;rw[U6 h]
theorem zf {α:Type} {most:Nat} {err:List α->α->Int} {l:List α} (h:l.length<=most):qZ most err l=wU err (l.take 0) (l.drop 0):=by unfold qZ;rw[U5 ω];rfl
theorem gB (vl vt vf:Value) (l:List ThrD) (ts:List TripD) (fs:List FreqD) (r:Int×Int) (H:Hid (qZ 128 (zU (ts.map trpOf) fs) l=r)) (hok: ∀ x∈l,Ry x) (B:Nat) (w:World) (hl:Vu B w vl l) (ht:vP B w vt ts) (hf:xG B w vf fs) (hB:B<=w.heap.size):
  Calls prog 55 #[vl,vt,vf] w λe w'=>e= .returned (.tuple #[.int .i64 r.1, .int .i64 r.2])/\Bl w w':=by
 obtain⟨al,capl,rfl,ll1,ll2⟩:=hl.val;obtain⟨at',capt,rfl,lt1,lt2⟩:=ht.sl.val;obtain⟨af,capf,rfl,lf1,lf2⟩:=hf.val;have HL:=qA hl;have HT:=qA ht;have HF:=qA hf;have HOK:=qA hok;clear hl ht hf hok;by_cases hmany:128<l.length
 ·
  have HR:=qA (zM (err:=zU (ts.map trpOf) fs) hmany);go_enter func55,ntmps55
  go_wp2;go_ret2;exact⟨qY HR.o H.o,qB _⟩
 have hfew:l.length<=128:=ω
 have HR:Hid (wU (zU (ts.map trpOf) fs) (l.take 0) (l.drop 0)=r):=(zf hfew).symm.trans H.o;have hmm:= @run_makeMap prog;obtain⟨w1,hw1⟩:=ε ((w.alloc (.map #[] 0)).alloc (.map #[] 0));have hs1:Ju w1 w.heap.size 0 (λ_=>false):=by rw[<-hw1];exact(je w prog 3 4).kept (Below.heap_alloc _ _ _ σ)
 have hs2:Ju w1 (w.heap.size+1) 0 (λ_=>false):=by
  rw[<-hw1];have:=je (w.alloc (.map #[] 0)) prog 3 4;rw[show(w.alloc (.map #[] 0)).heap.size=w.heap.size+1 by simp]at this;exact this
 have b1:Bl w w1:=by rw[<-hw1];exact qE (qE (qB _) _) _
 have HS1:=qA hs1;have HS2:=qA hs2;have B1:=qA b1;clear hmany hs1 hs2 b1;go_enter func55,ntmps55
 go_wp2_with fail;clear hw1 hmm;go_loopw [22] (λi wr=> ∃ (k:Nat) (S1 S2:Lit->Bool),(k<=l.length/\i= .int .i64 k)/\Hid (fM (l.take k) S1/\AX (l.take k) S2/\Ju wr w.heap.size k S1/\Ju wr (w.heap.size+1) k S2)/\Hid (wU (zU (ts.map trpOf) fs) (l.take k) (l.drop k)=r)/\Bl w wr) (λi _=>l.length-(intOf i).toNat)
 case atStart=>exact⟨0,_,_,⟨qAD _,rfl⟩,⟨λ_=>rfl,λ_=>rfl,HS1.o,HS2.o⟩,HR,B1.o⟩
 obtain⟨k,S1,S2,⟨hk,rfl⟩,HSS,HC,hbl⟩:=hrel;have z1:=hbl.size;by_cases hlt:k<l.length
 ·
  obtain⟨bl',ol,x,rfl,hbs,hx,hc⟩:=HL.o.get hlt hbl hB;have d0:wr.cell? ⟨bl',ol+k*2,none⟩=some (.int .i64 x.frm):=hc 0 _ rfl;have d1:=hc 1 _ rfl;have hkI:(k:Int)<(l.length:Int):=ω
  have HX:=qA hx;have HXI:=qA (HOK.o x (Uz hx));clear hx hc;obtain⟨w2,hw2⟩:=ε (wr.alloc (.cells #[.int .i64 x.frm, .int .i64 x.to] 128));have b2:Bl wr w2:=by rw[<-hw2];exact qE (qB _) _
  have t0:w2.cell? ⟨wr.heap.size,0,none⟩=some (.int .i64 x.frm):=by rw[<-hw2,Uy (hn:=rfl)];rfl
  have t1:w2.cell? ⟨wr.heap.size,1,none⟩=some (.int .i64 x.to):=by rw[<-hw2,Uy (hn:=rfl)];rfl
  have s2:w2.heap.size=wr.heap.size+1:=by rw[<-hw2];simp
  have B2:Hid (Bl w w2):=qF hbl b2;have BR2:=qA b2;obtain⟨p,hp⟩:=ε (yZ ts.length x.frm x.to);obtain⟨q,hq⟩:=ε ((vM fs x.frm||vM fs x.to));have HP:=qA hp;have HQ:=qA hq;have T0:=qA t0;have T1:=qA t1;clear hp hq b2;go_wp2_with fail;clear hw2;refine(Z5 x.frm x.to at' ts.length capt _ fs p q HP HQ B w2 (HF.o.o B2.o hB) ω).mono ?_;rintro e w3 ⟨rfl,b3⟩;have B3:Hid (Bl w w3):=qF B2.o b3;have BR3:Hid (Bl wr w3):=qF BR2.o b3;have z3:=b3.size;have t0':w3.cell? ⟨wr.heap.size,0,none⟩=some (.int .i64 x.frm):=((qG b3).1 _ _ ω).trans T0.o;have t1':w3.cell? ⟨wr.heap.size,1,none⟩=some (.int .i64 x.to):=((qG b3).1 _ _ ω).trans T1.o;clear t0 t1 b3;cases p with
  |false=>
   have HE:=qA (qU (err:=zU (ts.map trpOf) fs) HX.o (Bj (by rw[U4];exact HP.o)) δ);rw[show df false=9 from rfl];go_wp2;go_ret2;exact⟨qY HE.o HC.o,B3.o⟩
  |true=>
   have HPM:Hid (yZ (ts.map trpOf).length x.frm x.to=true):=by show _=_;rw[U4];exact HP.o
   cases q with
   |true=>
    have HE:=qA (qU (err:=zU (ts.map trpOf) fs) HX.o (AB (pre:=l.take k) HPM.o HQ.o) δ);rw[show df true=0 from rfl,show Hr true true=17 from rfl];go_wp2;go_ret2;exact⟨qY HE.o HC.o,B3.o⟩
   |false=>
    rw[show df true=0 from rfl,show Hr true false=0 from rfl];obtain⟨⟨f1,f2⟩,⟨f3,f4⟩⟩:=JK HP.o;obtain⟨i1,hi1⟩: ∃ i1:Nat,x.frm=i1:=⟨x.frm.toNat,ω⟩;obtain⟨i2,hi2⟩: ∃ i2:Nat,x.to=i2:=⟨x.to.toNat,ω⟩;have n1:i1<ts.length:=ω
    have n2:i2<ts.length:=ω
    obtain⟨bt,ot,t,rfl,hbt,ht,htc⟩:=HT.o.sl.get n1 B3.o hB;obtain⟨bt',ot',u,hat,hbu,hu,huc⟩:=HT.o.sl.get n2 B3.o hB;simp only[qAA,Addr.mk.injEq]at hat;obtain⟨rfl,rfl,-⟩:=hat;have HFT:=qA (show Zc (ts.map trpOf) x.frm=trpOf t from J3 (by rw[hi1];exact ht));have HFU:=qA (show Zc (ts.map trpOf) x.to=trpOf u from J3 (by rw[hi2];exact hu));have HTR:=qA ((HT.o.ok t (Uz ht)).bl B3.o hB);have HUR:=qA ((HT.o.ok u (Uz hu)).bl B3.o hB);have hi1I:(i1:Int)<(ts.length:Int):=ω
    have hi2I:(i2:Int)<(ts.length:Int):=ω
    rw[hi1]at t0';rw[hi2]at t1';have HI1:=qA hi1;have HI2:=qA hi2;obtain⟨vt,hvt⟩:=ε t.v;obtain⟨vu,hvu⟩:=ε u.v;have a0:w3.cell? ⟨bt,ot+i1*5,none⟩=some (.string t.id):=htc 0 _ rfl;have a1:=htc 1 _ rfl;have a2:=htc 2 _ rfl;have a3:=htc 3 _ rfl;have a4:=htc 4 _ rfl;have u0:w3.cell? ⟨bt,ot+i2*5,none⟩=some (.string u.id):=huc 0 _ rfl;have u1:=huc 1 _ rfl;have u2:=huc 2 _ rfl;have u3:=huc 3 _ rfl;have u4:=huc 4 _ rfl;have htw:wr.heap.size<w3.heap.size:=ω
    clear ht hu htc huc f1 f2 f3 f4 hi1 hi2 hvt hvu;have hold: ∀ w':World,Bl w3 w'->w'.cell? ⟨wr.heap.size,0,none⟩=some (.int .i64 i1)/\w'.cell? ⟨wr.heap.size,1,none⟩=some (.int .i64 i2)/\w'.cell? ⟨bt,ot+i1*5,none⟩=some (.string t.id)/\w'.cell? ⟨bt,ot+i1*5+1,none⟩=some (.int .i64 t.rt)/\w'.cell? ⟨bt,ot+i1*5+2,none⟩=some (.int .i64 t.cal)/\w'.cell? ⟨bt,ot+i1*5+3,none⟩=some (.bool t.step)/\w'.cell? ⟨bt,ot+i1*5+4,none⟩=some t.v/\w'.cell? ⟨bt,ot+i2*5,none⟩=some (.string u.id)/\w'.cell? ⟨bt,ot+i2*5+1,none⟩=some (.int .i64 u.rt)/\w'.cell? ⟨bt,ot+i2*5+2,none⟩=some (.int .i64 u.cal)/\w'.cell? ⟨bt,ot+i2*5+3,none⟩=some (.bool u.step)/\w'.cell? ⟨bt,ot+i2*5+4,none⟩=some u.v:=λw' hb=>⟨((qG hb).1 _ _ htw).trans t0',((qG hb).1 _ _ htw).trans t1',((qG hb).1 _ _ hbt).trans a0,((qG hb).1 _ _ hbt).trans a1,((qG hb).1 _ _ hbt).trans a2,((qG hb).1 _ _ hbt).trans a3,((qG hb).1 _ _ hbt).trans a4,((qG hb).1 _ _ hbt).trans u0,((qG hb).1 _ _ hbt).trans u1,((qG hb).1 _ _ hbt).trans u2,((qG hb).1 _ _ hbt).trans u3,((qG hb).1 _ _ hbt).trans u4⟩
    obtain⟨rf,hrf⟩:=ε (jk (trpOf t) (trpOf u));have HRF:=qA hrf;clear hrf;go_wp2_with fail;go_region_held3 (λw'=>w'.cell? ⟨wr.heap.size,0,none⟩=some (.int .i64 i1)/\w'.cell? ⟨wr.heap.size,1,none⟩=some (.int .i64 i2)/\w'.cell? ⟨bt,ot+i1*5,none⟩=some (.string t.id)/\w'.cell? ⟨bt,ot+i1*5+1,none⟩=some (.int .i64 t.rt)/\w'.cell? ⟨bt,ot+i1*5+2,none⟩=some (.int .i64 t.cal)/\w'.cell? ⟨bt,ot+i1*5+3,none⟩=some (.bool t.step)/\w'.cell? ⟨bt,ot+i1*5+4,none⟩=some t.v/\w'.cell? ⟨bt,ot+i2*5,none⟩=some (.string u.id)/\w'.cell? ⟨bt,ot+i2*5+1,none⟩=some (.int .i64 u.rt)/\w'.cell? ⟨bt,ot+i2*5+2,none⟩=some (.int .i64 u.cal)/\w'.cell? ⟨bt,ot+i2*5+3,none⟩=some (.bool u.step)/\w'.cell? ⟨bt,ot+i2*5+4,none⟩=some u.v) (first|exact hold _ (qH (qB _))|exact hold _ (qF (qH (qB _)) b4)) (first|(go_at_call 127;refine(Cc t u rf HRF B _ (HTR.o.calls.o (qH (qB _)) ω) (HUR.o.calls.o (qH (qB _)) ω) τ).mono ?_;rintro e w4 ⟨rfl,b4⟩))
    all_goals
     have HB4:Hid (Bl w w4):=qF B3.o (qF (qH (qB _)) b4);have HR4:Hid (Bl wr w4):=qF BR3.o (qF (qH (qB _)) b4);obtain⟨t0'',t1'',-⟩:=hold _ (qF (qH (qB _)) b4);have z34:w3.heap.size<=w4.heap.size:=(qF (qH (qB _)) b4).size;clear hold t0' t1' a0 a1 a2 a3 a4 u0 u1 u2 u3 u4 b4;have HFL:Hid (jk (Zc (ts.map trpOf) x.frm) (Zc (ts.map trpOf) x.to)=rf):=by show _=_;rw[HFT.o,HFU.o];exact HRF.o
     have z4:=HR4.o.size;by_cases hrf:rf=0
     ·
      subst hrf;obtain⟨e1,he1⟩:=ε (S1 (.int .i64 i1));obtain⟨e2,he2⟩:=ε (S2 (.int .i64 i2));have hk1:zB (i1:Int):=by rw[<-HI1.o];exact HXI.o.1
      have hk2:zB (i2:Int):=by rw[<-HI2.o];exact HXI.o.2
      have hlook1:=((HSS.o.2.2.1.bl HR4.o).look Qw underlying174 underlying4 (yR w4) (Qx hk1));have hlook2:=((HSS.o.2.2.2.bl HR4.o).look Qw underlying174 underlying4 (yR w4) (Qx hk2));rw[he1]at hlook1;rw[he2]at hlook2;have HD:Hid (((l.take k).any λy=>y.frm==x.frm||y.to==x.to)=(e1||e2)):=by
       show _=_
       rw[N8,<-he1,<-he2,<-HI1.o,<-HI2.o,HSS.o.1,HSS.o.2.1]
      have HK1:=qA hk1;have HK2:=qA hk2;clear he1 he2 hk1 hk2;cases e1 with
      |true=>
       have HE:=qA (qU (err:=zU (ts.map trpOf) fs) HX.o (Bi HPM.o HQ.o HFL.o HD.o) δ);go_wp2;go_ret2;exact⟨qY HE.o HC.o,HB4.o⟩
      |false=>
       cases e2 with
       |true=>
        have HE:=qA (qU (err:=zU (ts.map trpOf) fs) HX.o (Bi HPM.o HQ.o HFL.o HD.o) δ);go_wp2;go_ret2;exact⟨qY HE.o HC.o,HB4.o⟩
       |false=>
        obtain⟨e3,he3⟩:=ε ((QC (l.take k) i2).contains (i1:Int));have HE3:=qA he3;have htw4:wr.heap.size<w4.heap.size:=ω
        have hold: ∀ w':World,Bl w4 w'->w'.cell? ⟨wr.heap.size,0,none⟩=some (.int .i64 i1)/\w'.cell? ⟨wr.heap.size,1,none⟩=some (.int .i64 i2):=λw' hb=>⟨((qG hb).1 _ _ htw4).trans t0'',((qG hb).1 _ _ htw4).trans t1''⟩
        have hkc:(k:Int)<=(capl:Int):=ω
        clear he3;go_wp2_with fail;clear hlook1 hlook2;go_region_held3 (λw'=>w'.cell? ⟨wr.heap.size,0,none⟩=some (.int .i64 i1)/\w'.cell? ⟨wr.heap.size,1,none⟩=some (.int .i64 i2)) (first|exact hold _ (qH (qB _))|exact hold _ (qF (qH (qB _)) b5)) (first|(go_at_call 128;refine(Ld _ (l.take k) i2 i1 e3 HE3 HK2.o (λy hy=>(HOK.o y (List.mem_of_mem_take hy)).2) (by rw[List.length_take];omega) B _ ((HL.o.take (k:=k) ω).o (qF HB4.o (qH (qB _))) hB) τ).mono ?_;rintro e w5 ⟨rfl,b5⟩))
        all_goals
         have HB5:Hid (Bl w w5):=qF HB4.o (qF (qH (qB _)) b5);have HR5:Hid (Bl wr w5):=qF HR4.o (qF (qH (qB _)) b5);obtain⟨y0,y1⟩:=hold _ (qF (qH (qB _)) b5);have z5:=HR5.o.size;have z45:w4.heap.size<=w5.heap.size:=(qF (qH (qB _)) b5).size;clear hold t0'' t1'' b5;cases e3 with
         |true=>
          have HE:=qA (qU (err:=zU (ts.map trpOf) fs) HX.o (IR HPM.o HQ.o HFL.o HD.o (by rw[HI1.o,HI2.o];exact HE3.o)) δ);go_wp2;go_ret2;exact⟨qY HE.o HC.o,HB5.o⟩
         |false=>
          have HG:=qA (jS (err:=zU (ts.map trpOf) fs) HX.o (Nl HPM.o HQ.o HFL.o HD.o (by rw[HI1.o,HI2.o];exact HE3.o)));have hs1:=HSS.o.2.2.1.bl (qH HR5.o);have hs2:=HSS.o.2.2.2.bl (qH HR5.o);obtain⟨wa,ha1,ha2,ha3⟩:=hs1.put Qw underlying174 underlying4 ζ (Qx HK1.o);obtain⟨wb,hb1,hb2,hb3⟩:=hs2.put Qw underlying174 underlying4 ζ (Qx HK2.o);have hs2a:=hs2.grown ha3 σ;have hs1b:=hs1.grown hb3 σ;obtain⟨wab,hab1,hab2,hab3⟩:=hs2a.put Qw underlying174 underlying4 ζ (Qx HK2.o);obtain⟨wba,hba1,hba2,hba3⟩:=hs1b.put Qw underlying174 underlying4 ζ (Qx HK1.o);have htw5:wr.heap.size<w5.heap.size:=ω
          have zmap:=HSS.o.2.2.2.lt;have ga: ∀ j v,w5.cell? ⟨wr.heap.size,j,none⟩=some v->wa.cell? ⟨wr.heap.size,j,none⟩=some v:=λj v h=>ha3.cell (by exact h) τ
          have gb: ∀ j v,w5.cell? ⟨wr.heap.size,j,none⟩=some v->wb.cell? ⟨wr.heap.size,j,none⟩=some v:=λj v h=>hb3.cell (by exact h) τ
          have ya0:=ga _ _ y0;have ya1:=ga _ _ y1;have yb0:=gb _ _ y0;have yb1:=gb _ _ y1;have HAB:=qA (And.intro (hab2) (ha2.grown hab3 σ));have HBA:=qA (And.intro (hba2) (hb2.grown hba3 σ));have HBAB:Hid (Bl w wab):=((qH HB5.o).grown ha3 τ (λk hk=>by cases hk;omega)).grown hab3 (by have:=ha3.size;simp at this;omega) (λk hk=>by cases hk;omega);have HBBA:Hid (Bl w wba):=((qH HB5.o).grown hb3 τ (λk hk=>by cases hk;omega)).grown hba3 (by have:=hb3.size;simp at this;omega) (λk hk=>by cases hk;omega);clear hs1 hs2 ha2 ha3 hb2 hb3 hs2a hs1b hab2 hab3 hba2 hba3 ga gb;go_wp2_with fail;go_region
          all_goals
           go_wp2;go_roundw;case rel=>
            have hF:=HSS.o.1.next HX.o;have hT:=HSS.o.2.1.next HX.o;rw[HI1.o]at hF;rw[HI2.o]at hT;first
            |exact⟨k+1,_,_,⟨ω,by go_num⟩,⟨hF,hT,HAB.o.2,HAB.o.1⟩,HG.o.symm.trans HC.o,HBAB.o⟩
            |exact⟨k+1,_,_,⟨ω,by go_num⟩,⟨hF,hT,HBA.o.1,HBA.o.2⟩,HG.o.symm.trans HC.o,HBBA.o⟩
           simp[intOf];omega
     have q:(rf != 0)=true:=by simpa using hrf
     have HE:=qA (qU (err:=zU (ts.map trpOf) fs) HX.o ((Np HPM.o HQ.o (by rw[HFL.o];exact hrf)).trans HFL.o) hrf);clear hrf;go_wp2;go_ret2;exact⟨qY HE.o HC.o,HB4.o⟩
 have HE:=qA (jy (err:=zU (ts.map trpOf) fs) (show l.length<=k by omega));go_wp2;go_ret2;exact⟨qY HE.o HC.o,hbl⟩
end Go.Proofs.YtakedkcjplfgeaaGreatDoor.Th
namespace Go.Proofs.YtakedkcjplfgeaaGreatDoor.Th
open Go.RowKit
open Go.Maps (Keyed)
open Frq Thr
theorem Wl:laidOutB prog=true:=κ
theorem Wj:Keyed prog 130:=Keyed.of_law (deep_law_laid Wl (m:=5) ω ξ κ κ)
def gv (x:wL):Value:=.agg #[x.frm,x.to,x.stop]
def MH (x:wL):Prop:=zB x.frm/\zB x.to/\zB x.stop
theorem F9:prog.keyType 130=true:=κ
theorem dP:prog.cellsOf 130=3:=κ
theorem YB:prog.cellsOf 3=1:=κ
theorem YN: ∃ n,prog.types.size=n+1:=by
 have h:0<prog.types.size:=ξ
 exact⟨prog.types.size-1,ω⟩
theorem Py {x:wL} (h:MH x): ∃ kl,keyOf prog 130 (gv x)=some kl:=by
 obtain⟨n,hn⟩:=YN;have w1:=Z8 h.1;have w2:=Z8 h.2.1;have w3:=Z8 h.2.2;unfold keyOf gv;rw[underlying130];simp only[F9,Value.formed,underlying130,dP,hn];simp[Program.keyLits,underlying130,underlying3,dP,YB,w1,w2,w3,Value.cells]
def Ed (gk:wL->Lit):Prop:= ∀ x,MH x->keyOf prog 130 (gv x)=some (gk x)
theorem GN: ∃ gk,Ed gk:=by
 have h: ∀ x:wL,∃ kl,MH x->keyOf prog 130 (gv x)=some kl:=λx=>by
  by_cases hx:MH x
  ·
   obtain⟨kl,hk⟩:=Py hx;exact⟨kl,λ_=>hk⟩
  exact⟨.bool false,λh=>absurd h hx⟩
 exact⟨λx=>Classical.choose (h x),λx hx=>Classical.choose_spec (h x) hx⟩
theorem OT {gk:wL->Lit} (K:Ed gk) {x y:wL} (hx:MH x) (hy:MH y) (h:gk x=gk y):x=y:=by
 have:=Wj.inj (K x hx) (h ▸ K y hy);cases x
 cases y
 simpa[gv]using this
def fO (gk:wL->Lit) (l:List wL) (S:Lit->Bool):Prop:= ∀ x:wL,MH x->S (gk x)=l.contains x
theorem fO.next {gk:wL->Lit} (K:Ed gk) {l:List wL} {S:Lit->Bool} {k:Nat} {x:wL} (h:fO gk (l.take k) S) (hx:l[k]? =some x) (hk:MH x):fO gk (l.take (k+1)) (wY S (gk x)):=λy hy=>by
 rw[ql hx];by_cases e:y=x
 · rw[e,xq _ (Wj.key (K x hk))];simp
 rw[xu (λe'=>e (OT K hy hk e')),h y hy];simp[e]
abbrev NY (w:World) (b n:Nat) (S:Lit->Bool):Prop:=jE w prog 130 4 b n S
section
variable {ts:List TrpD} {fs:List FreqD} {stops:Int} {pre:List wL} {x:wL}
theorem BI (h:yZ ts.length x.frm x.to=false):zk ts fs stops pre x=9:=by unfold zk;rw[U6 h]
theorem F8 (h:yZ ts.length x.frm x.to=true) (h0:Yi x.stop stops=false):zk ts fs stops pre x=9:=by unfold zk;rw[U5 (by rw[h];simp),U6 h0]
theorem tC (h:yZ ts.length x.frm x.to=true) (h0:Yi x.stop stops=true) (h1:(vM fs x.frm||vM fs x.to)=true):zk ts fs stops pre x=17:=by
 unfold zk;rw[U5 (by rw[h];simp),U5 (by rw[h0];simp),U6 h1]
theorem F7 (h:yZ ts.length x.frm x.to=true) (h0:Yi x.stop stops=true) (h1:(vM fs x.frm||vM fs x.to)=false) (h2:(vI (Zc ts x.frm).calls (Zc ts x.to).calls x.stop).2.2=false):zk ts fs stops pre x=19:=by
 unfold zk;rw[U5 (by rw[h];simp),U5 (by rw[h0];simp),U5 (by rw[h1];simp),U6 h2]
theorem Nc (h:yZ ts.length x.frm x.to=true) (h0:Yi x.stop stops=true) (h1:(vM fs x.frm||vM fs x.to)=false) (h2:(vI (Zc ts x.frm).calls (Zc ts x.to).calls x.stop).2.2=true) (h3:pre.contains x=true):zk ts fs stops pre x=6:=by
 unfold zk;rw[U5 (by rw[h];simp),U5 (by rw[h0];simp),U5 (by rw[h1];simp),U5 (by rw[h2];simp),U6 h3]
theorem Nb (h:yZ ts.length x.frm x.to=true) (h0:Yi x.stop stops=true) (h1:(vM fs x.frm||vM fs x.to)=false) (h2:(vI (Zc ts x.frm).calls (Zc ts x.to).calls x.stop).2.2=true) (h3:pre.contains x=false):zk ts fs stops pre x=0:=by
 unfold zk;rw[U5 (by rw[h];simp),U5 (by rw[h0];simp),U5 (by rw[h1];simp),U5 (by rw[h2];simp),U5 (by rw[h3];simp)]
end
theorem F6 (vl vt vf:Value) (l:List wL) (ts:List TripD) (fs:List FreqD) (stops:Int) (r:Int×Int) (H:Hid (qZ 128 (zk (ts.map trpOf) fs stops) l=r)) (hok: ∀ x∈l,MH x) (B:Nat) (w:World) (hl:Ec B w vl l) (ht:vP B w vt ts) (hf:xG B w vf fs) (hB:B<=w.heap.size):
  Calls prog 57 #[vl,vt,vf,stops] w λe w'=>e=.returned (.tuple #[r.1,r.2])/\Bl w w':=by
 obtain⟨gk,KG⟩:=GN;obtain⟨al,capl,rfl,ll1,ll2⟩:=hl.val;obtain⟨at',capt,rfl,lt1,lt2⟩:=ht.sl.val;obtain⟨af,capf,rfl,lf1,lf2⟩:=hf.val;have HL:=qA hl;have HT:=qA ht;have HF:=qA hf;have HOK:=qA hok;clear hl ht hf hok;by_cases hmany:128<l.length
 ·
  have HR:=qA (zM (err:=zk (ts.map trpOf) fs stops) hmany);go_enter func57,ntmps57
  go_wp2;go_ret2;exact⟨qY HR.o H.o,qB _⟩
 have hfew:l.length<=128:=ω
 have HR:Hid (wU (zk (ts.map trpOf) fs stops) (l.take 0) (l.drop 0)=r):=(zf hfew).symm.trans H.o;have hmm:= @run_makeMap prog;have HS1:Hid (NY (w.alloc (.map #[] 0)) w.heap.size 0 (λ_=>false)):=je w prog 130 4;have B1:Hid (Bl w (w.alloc (.map #[] 0))):=qE (qB _) _;clear hmany;go_enter func57,ntmps57
 go_wp2_with fail;clear hmm;go_loopw [24] (λi wr=> ∃ (k:Nat) (S:Lit->Bool),(k<=l.length/\i=k)/\Hid (fO gk (l.take k) S/\NY wr w.heap.size k S)/\Hid (wU (zk (ts.map trpOf) fs stops) (l.take k) (l.drop k)=r)/\Bl w wr) (λi _=>l.length-(intOf i).toNat)
 case atStart=>exact⟨0,_,⟨qAD _,rfl⟩,⟨λ_ _=>rfl,HS1.o⟩,HR,B1.o⟩
 obtain⟨k,S,⟨hk,rfl⟩,HSS,HC,hbl⟩:=hrel;have z1:=hbl.size;by_cases hlt:k<l.length
 ·
  obtain⟨bl',ol,x,rfl,hbs,hx,hc⟩:=HL.o.get hlt hbl hB;have d0:wr.cell? (bl',ol+k*3)=some (x.frm:Z):=hc 0 _ rfl;have d1:=hc 1 _ rfl;have d2:=hc 2 _ rfl;have hkI:(k:Int)<(l.length:Int):=ω
  have HX:=qA hx;have HXI:=qA (HOK.o x (Uz hx));clear hx hc;obtain⟨w2,hw2⟩:=ε (wr.alloc (.cells #[x.frm,x.to,x.stop] 130));have b2:Bl wr w2:=by rw[<-hw2];exact qE (qB _) _
  have t0:w2.cell? (wr.heap.size,0)=some (x.frm:Z):=by rw[<-hw2,Uy (hn:=rfl)];rfl
  have t1:w2.cell? (wr.heap.size,1)=some (x.to:Z):=by rw[<-hw2,Uy (hn:=rfl)];rfl
  have t2:w2.cell? (wr.heap.size,2)=some (x.stop:Z):=by rw[<-hw2,Uy (hn:=rfl)];rfl
  have s2:w2.heap.size=wr.heap.size+1:=by rw[<-hw2];simp
  have B2:Hid (Bl w w2):=qF hbl b2;have BR2:=qA b2;obtain⟨p,hp⟩:=ε (yZ ts.length x.frm x.to);obtain⟨q,hq⟩:=ε ((vM fs x.frm||vM fs x.to));have HP:=qA hp;have HQ:=qA hq;have T0:=qA t0;have T1:=qA t1;have T2:=qA t2;clear hp hq b2;go_wp2_with fail;clear hw2;refine(Z5 x.frm x.to at' ts.length capt _ fs p q HP HQ B w2 (HF.o.o B2.o hB) ω).mono ?_;rintro e w3 ⟨rfl,b3⟩;have B3:Hid (Bl w w3):=qF B2.o b3;have BR3:Hid (Bl wr w3):=qF BR2.o b3;have z3:=b3.size;have t0':w3.cell? (wr.heap.size,0)=some (x.frm:Z):=((qG b3).1 _ _ ω).trans T0.o;have t1':w3.cell? (wr.heap.size,1)=some (x.to:Z):=((qG b3).1 _ _ ω).trans T1.o;have t2':w3.cell? (wr.heap.size,2)=some (x.stop:Z):=((qG b3).1 _ _ ω).trans T2.o;clear t0 t1 t2 b3;cases p with
  |false=>
   have HE:=qA (qU (err:=zk (ts.map trpOf) fs stops) HX.o (BI (by rw[U4];exact HP.o)) δ);rw[show df false=9 from rfl];go_wp2;go_ret2;exact⟨qY HE.o HC.o,B3.o⟩
  |true=>
   have HPM:Hid (yZ (ts.map trpOf).length x.frm x.to=true):=by show _=_;rw[U4];exact HP.o
   rw[show df true=0 from rfl];by_cases hin:Yi x.stop stops=true
   ·
    have HIN:=qA hin;have hst:0<=x.stop/\x.stop<stops:=by unfold Yi at hin;simpa using hin
    obtain⟨hst1,hst2⟩:=hst;have qs1:decide (x.stop<0)=false:=decide_eq_false ω;have qs2:decide (stops<=x.stop)=false:=decide_eq_false ω;clear hin;cases q with
    |true=>
     have HE:=qA (qU (err:=zk (ts.map trpOf) fs stops) HX.o (tC (pre:=l.take k) HPM.o HIN.o HQ.o) δ);rw[show Hr true true=17 from rfl];go_wp2;go_ret2;exact⟨qY HE.o HC.o,B3.o⟩
    |false=>
     rw[show Hr true false=0 from rfl];obtain⟨⟨f1,f2⟩,⟨f3,f4⟩⟩:=JK HP.o;obtain⟨i1,hi1⟩: ∃ i1:Nat,x.frm=i1:=⟨x.frm.toNat,ω⟩;obtain⟨i2,hi2⟩: ∃ i2:Nat,x.to=i2:=⟨x.to.toNat,ω⟩;have n1:i1<ts.length:=ω
     have n2:i2<ts.length:=ω
     obtain⟨bt,ot,t,rfl,hbt,ht,htc⟩:=HT.o.sl.get n1 B3.o hB;obtain⟨bt',ot',u,hat,hbu,hu,huc⟩:=HT.o.sl.get n2 B3.o hB;simp only[qAA,Addr.mk.injEq]at hat;obtain⟨rfl,rfl,-⟩:=hat;have HFT:=qA (show Zc (ts.map trpOf) x.frm=trpOf t from J3 (by rw[hi1];exact ht));have HFU:=qA (show Zc (ts.map trpOf) x.to=trpOf u from J3 (by rw[hi2];exact hu));have HTR:=qA ((HT.o.ok t (Uz ht)).bl B3.o hB);have HUR:=qA ((HT.o.ok u (Uz hu)).bl B3.o hB);have hi1I:(i1:Int)<(ts.length:Int):=ω
     have hi2I:(i2:Int)<(ts.length:Int):=ω
     rw[hi1]at t0';rw[hi2]at t1';have HI1:=qA hi1;have HI2:=qA hi2;have a4:w3.cell? (bt,ot+i1*5+4)=some t.v:=htc 4 _ rfl;have u4:w3.cell? (bt,ot+i2*5+4)=some u.v:=huc 4 _ rfl;have htw:wr.heap.size<w3.heap.size:=ω
     clear ht hu htc huc f1 f2 f3 f4 hi1 hi2;have hold: ∀ w':World,Bl w3 w'->w'.cell? (wr.heap.size,0)=some (i1:Z)/\w'.cell? (wr.heap.size,1)=some (i2:Z)/\w'.cell? (wr.heap.size,2)=some (x.stop:Z)/\w'.cell? (bt,ot+i1*5+4)=some t.v/\w'.cell? (bt,ot+i2*5+4)=some u.v:=λw' hb=>⟨((qG hb).1 _ _ htw).trans t0',((qG hb).1 _ _ htw).trans t1',((qG hb).1 _ _ htw).trans t2',((qG hb).1 _ _ hbt).trans a4,((qG hb).1 _ _ hbt).trans u4⟩
     obtain⟨m,hm⟩:=ε (vI t.calls u.calls x.stop);obtain⟨m1,m2,m3⟩:=m;have HM:=qA hm;clear hm;go_wp2_with fail;go_region_held3 (λw'=>w'.cell? (wr.heap.size,0)=some (i1:Z)/\w'.cell? (wr.heap.size,1)=some (i2:Z)/\w'.cell? (wr.heap.size,2)=some (x.stop:Z)/\w'.cell? (bt,ot+i1*5+4)=some t.v/\w'.cell? (bt,ot+i2*5+4)=some u.v) (first|exact hold _ (qH (qB _))|exact hold _ (qF (qH (qB _)) b4)) (first|(go_at_call 129;refine(Lp t.v u.v t.calls u.calls x.stop m1 m2 m3 HM B _ (HTR.o.calls.o (qH (qB _)) ω) (HUR.o.calls.o (qH (qB _)) ω) τ).mono ?_;rintro e w4 ⟨rfl,b4⟩))
     all_goals
      have HB4:Hid (Bl w w4):=qF B3.o (qF (qH (qB _)) b4);have HR4:Hid (Bl wr w4):=qF BR3.o (qF (qH (qB _)) b4);obtain⟨t0'',t1'',t2'',-⟩:=hold _ (qF (qH (qB _)) b4);clear hold t0' t1' t2' a4 u4 b4;have HMM:Hid ((vI (Zc (ts.map trpOf) x.frm).calls (Zc (ts.map trpOf) x.to).calls x.stop).2.2=m3):=by
       show _=_
       rw[HFT.o,HFU.o];show(vI t.calls u.calls x.stop).2.2=m3
       rw[HM.o]
      have z4:=HR4.o.size;cases m3 with
      |false=>
       have HE:=qA (qU (err:=zk (ts.map trpOf) fs stops) HX.o (F7 (pre:=l.take k) HPM.o HIN.o HQ.o HMM.o) δ);go_wp2;go_ret2;exact⟨qY HE.o HC.o,HB4.o⟩
      |true=>
       have hset4:=HSS.o.2.bl HR4.o;have hkey:=KG x HXI.o;have hlook:=hset4.look Wj underlying179 underlying4 (yR w4) hkey;obtain⟨w5,hput,hset5,hgr5⟩:=hset4.put Wj underlying179 underlying4 ζ hkey;obtain⟨c,hcc⟩:=ε (S (gk x));have HCC:Hid ((l.take k).contains x=c):=(HSS.o.1 x HXI.o).symm.trans hcc;rw[hcc]at hlook;unfold gv at hlook hput;rw[HI1.o,HI2.o]at hlook hput;have HB5:Hid (Bl w w5):=HB4.o.grown hgr5 (by have:=HB4.o.size;omega) (λk hk=>by cases hk;exact U3 _);have HS5:=qA hset5;clear hset4 hkey hset5 hgr5 hcc;cases c with
       |true=>
        have HE:=qA (qU (err:=zk (ts.map trpOf) fs stops) HX.o (Nc HPM.o HIN.o HQ.o HMM.o HCC.o) δ);go_wp2;go_ret2;exact⟨qY HE.o HC.o,HB4.o⟩
       |false=>
        have HG:=qA (jS (err:=zk (ts.map trpOf) fs stops) HX.o (Nb HPM.o HIN.o HQ.o HMM.o HCC.o));go_wp2;go_roundw;case rel=>exact⟨k+1,_,⟨ω,by go_num⟩,⟨HSS.o.1.next KG HX.o HXI.o,HS5.o⟩,HG.o.symm.trans HC.o,HB5.o⟩
        simp[intOf];omega
   have hin':Yi x.stop stops=false:=by simpa using hin
   have HE:=qA (qU (err:=zk (ts.map trpOf) fs stops) HX.o (F8 (pre:=l.take k) HPM.o hin') δ);by_cases hneg:x.stop<0
   ·
    clear hin hin';have qs1:decide (x.stop<0)=true:=decide_eq_true hneg;go_wp2;go_ret2;exact⟨qY HE.o HC.o,B3.o⟩
   have hge:stops<=x.stop:=by
    unfold Yi at hin';simp at hin'
    omega
   have qs1:decide (x.stop<0)=false:=decide_eq_false hneg;have qs2:decide (stops<=x.stop)=true:=decide_eq_true hge;clear hin hin' hneg;go_wp2;go_ret2;exact⟨qY HE.o HC.o,B3.o⟩
 have HE:=qA (jy (err:=zk (ts.map trpOf) fs stops) (show l.length<=k by omega));go_wp2;go_ret2;exact⟨qY HE.o HC.o,hbl⟩
