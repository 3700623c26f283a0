/- Contracts, proved. Conditions: theirs. -/
import Derived.Test.YtakedkcjplfgeaaGreatDoorMRkA
import Derived.Test.YtakedkcjplfgeaaGreatDoorMEqA
import Derived.Test.YtakedkcjplfgeaaGreatDoorMRkY
set_option maxRecDepth 1000000
set_option maxHeartbeats 32000000
open Go.Proofs.Tryz
namespace Go.Proofs.YtakedkcjplfgeaaGreatDoor
open Go.RowKit
open Frq Thr Tt
theorem D5 (vl:Value) (l:List Qq) (stops:Int) (r:Int×Int) (H:Hid (wU (zO stops) (l.take 0) (l.drop 0)=r)) (B:Nat) (w:World) (hl:jA zt 4 B w vl l) (hB:B<=w.heap.size):
  Calls prog 175 #[vl,stops] w λe w'=>e=.returned (.tuple #[r.1,r.2])/\Bl w w':=by
 obtain⟨al,capl,rfl,ll1,ll2⟩:=hl.val;have HL:=qA hl;clear hl;go_enter func175,ntmps175
 go_wp2_with fail;go_loopw [6] (λi wr=> ∃ k:Nat,(k<=l.length/\i=k)/\Hid (wU (zO stops) (l.take k) (l.drop k)=r)/\Hid (Bl w wr)) (λi _=>l.length-(intOf i).toNat)
 case atStart=>exact⟨0,⟨qAD _,rfl⟩,H,qB _⟩
 obtain⟨k,⟨hk,rfl⟩,HC,HBL⟩:=hrel;by_cases hlt:k<l.length
 rotate_left
 ·
  have HE:=qA (jy (err:=(zO stops)) (show l.length<=k by omega));go_wp2;go_ret2;exact⟨qY HE.o HC.o,HBL.o⟩
 obtain⟨bl',ol,x,rfl,hbs,hx,hc⟩:=HL.o.get hlt HBL.o hB;have d0:wr.cell? (bl',ol+k*4)=some (x.frm:Z):=hc 0 _ rfl;have d1:wr.cell? (bl',ol+k*4+1)=some (x.to:Z):=hc 1 _ rfl;have d2:wr.cell? (bl',ol+k*4+2)=some (x.secs:Z):=hc 2 _ rfl;have d3:wr.cell? (bl',ol+k*4+3)=some (x.free:Z):=hc 3 _ rfl;have hkI:(k:Int)<(l.length:Int):=ω
 have HX:=qA hx;clear hx hc;rename World=>wo
 obtain⟨w2,hw2⟩:=ε (wo.alloc (.cells #[x.frm,x.to,x.secs,x.free] 63));have b2:Bl wo w2:=by rw[<-hw2];exact qE (qB _) _
 have t0:w2.cell? (wo.heap.size,0)=some (x.frm:Z):=by rw[<-hw2,Uy (hn:=rfl)];rfl
 have t1:w2.cell? (wo.heap.size,1)=some (x.to:Z):=by rw[<-hw2,Uy (hn:=rfl)];rfl
 have t2:w2.cell? (wo.heap.size,2)=some (x.secs:Z):=by rw[<-hw2,Uy (hn:=rfl)];rfl
 have t3:w2.cell? (wo.heap.size,3)=some (x.free:Z):=by rw[<-hw2,Uy (hn:=rfl)];rfl
 have s2:wo.heap.size<w2.heap.size:=by rw[<-hw2];simp
 have B2:=qA (qF HBL.o b2);clear b2;by_cases h9:(x.frm<0∨stops<=x.frm)∨(x.to<0∨stops<=x.to)∨x.frm=x.to
 ·
  have HE:=qA (qU (err:=(zO stops)) (e:=9) HX.o (by unfold zO;rw[U6 (by unfold qK;simp;omega)]) δ);by_cases hft:x.frm=x.to
  ·
   have hft':(x.frm==x.to)=true:=by simp[hft]
   clear h9 hft;go_wp2_with fail;all_goals first
    |(go_ret2;exact⟨qY HE.o HC.o,B2.o⟩)
    |(exfalso;omega)
  have hft':(x.frm==x.to)=false:=by simp[hft]
  go_wp2_with fail;all_goals first
   |(exfalso;omega)
   |(go_ret2;exact⟨qY HE.o HC.o,B2.o⟩)
 have n1:0<=x.frm:=ω
 have n2:x.frm<stops:=ω
 have n3:0<=x.to:=ω
 have n4:x.to<stops:=ω
 have hft':(x.frm==x.to)=false:=τ
 have H9:=qA (show ¬ (qK x.frm 0 (stops-1)||(qK x.to 0 (stops-1)||x.frm==x.to))=true by unfold qK;simp;omega);clear h9;by_cases h2:x.secs<1∨14400<x.secs
 ·
  have HE:=qA (qU (err:=(zO stops)) (e:=2) HX.o (by unfold zO;rw[U5 H9.o,U6 (by unfold qK;simp;omega)]) δ);go_wp2_with fail;all_goals first
   |(exfalso;omega)
   |(go_ret2;exact⟨qY HE.o HC.o,B2.o⟩)
 have H2:=qA (show ¬ qK x.secs 1 14400=true by unfold qK;simp;omega);have m1:1<=x.secs:=ω
 have m2:x.secs<=14400:=ω
 clear h2;have HE6:Hid ((l.take k).any (λy=>y.frm==x.frm&&(y.to==x.to&&y.free==x.free))=true->wU (zO stops) (l.take k) (l.drop k)=((k:Int),6)):=λh=>qU (err:=(zO stops)) (e:=6) HX.o (by unfold zO;rw[U5 H9.o,U5 H2.o,U6 h]) δ
 go_wp2_with fail;clear hw2 d0 d1 d2 d3 hft';go_loopw [8] (λi wr=> ∃ j:Nat,(j<=k/\i=j)/\Hid ((l.take j).any (λy=>y.frm==x.frm&&(y.to==x.to&&y.free==x.free))=false)/\Hid (Bl w wr)/\Hid (Bl w2 wr)) (λi _=>k-(intOf i).toNat)
 case atStart=>exact⟨0,⟨qAD _,rfl⟩,rfl,B2,qB _⟩
 obtain⟨j,⟨hj,rfl⟩,HN,HBR,HW⟩:=hrel;by_cases hjk:j<k
 ·
  obtain⟨y,hy⟩: ∃ y,l[j]? =some y:=⟨_,U2 ω⟩;have x0:wr.cell? (wo.heap.size,0)=some (x.frm:Z):=((qG HW.o).1 _ _ s2).trans t0;have x1:wr.cell? (wo.heap.size,1)=some (x.to:Z):=((qG HW.o).1 _ _ s2).trans t1;have x3:wr.cell? (wo.heap.size,3)=some (x.free:Z):=((qG HW.o).1 _ _ s2).trans t3;have y0:wr.cell? (bl',ol+j*4)=some (.int .i64 y.frm):=HL.o.cellsAt hy HBR.o hB 0 _ rfl;have y1:wr.cell? (bl',ol+j*4+1)=some (.int .i64 y.to):=HL.o.cellsAt hy HBR.o hB 1 _ rfl;have y3:wr.cell? (bl',ol+j*4+3)=some (.bool y.free):=HL.o.cellsAt hy HBR.o hB 3 _ rfl;have hjI:(j:Int)<(l.length:Int):=ω
  have hjk':(j:Int)<(k:Int):=ω
  have HY:=qA hy;clear hy;cases q0:y.frm==x.frm with
  |true=>
   cases q1:y.to==x.to with
   |true=>
    cases q2:y.free==x.free with
    |true=>
     have HE:=qA (HE6.o (XF (p:=(λy=>y.frm==x.frm&&(y.to==x.to&&y.free==x.free))) HY.o hjk (by simp only[q0,q1,q2];rfl)));go_wp2_with fail;go_quiet (fail)
     go_wp2;go_ret2;exact⟨qY HE.o HC.o,qM HBR.o _⟩
    |false=>
     have HN':=qA (Jz (p:=(λy=>y.frm==x.frm&&(y.to==x.to&&y.free==x.free))) HY.o HN.o (by simp only[q0,q1,q2];rfl));go_wp2_with fail;go_quiet (fail)
     go_wp2;go_roundw;case rel=>exact⟨j+1,⟨ω,by go_num⟩,HN',qM HBR.o _,qM HW.o _⟩
     simp[intOf];omega
   |false=>
    have HN':=qA (Jz (p:=(λy=>y.frm==x.frm&&(y.to==x.to&&y.free==x.free))) HY.o HN.o (by simp only[q0,q1];rfl));go_wp2_with fail;go_quiet (fail)
    go_wp2;go_roundw;case rel=>exact⟨j+1,⟨ω,by go_num⟩,HN',qM HBR.o _,qM HW.o _⟩
    simp[intOf];omega
  |false=>
   have HN':=qA (Jz (p:=(λy=>y.frm==x.frm&&(y.to==x.to&&y.free==x.free))) HY.o HN.o (by simp only[q0];rfl));go_wp2_with fail;go_quiet (fail)
   go_wp2;go_roundw;case rel=>exact⟨j+1,⟨ω,by go_num⟩,HN',qM HBR.o _,qM HW.o _⟩
   simp[intOf];omega
 obtain rfl:j=k:=ω
 have HG:=qA (jS (err:=(zO stops)) HX.o (by unfold zO;rw[U5 H9.o,U5 H2.o,U5 (by rw[HN.o];decide)]));go_wp2;exact⟨⟨j+1,⟨ω,by go_num⟩,HG.o.symm.trans HC.o,HBR.o⟩,by simp[intOf];omega⟩
theorem IB (vl:Value) (l:List Qq) (stops:Int) (r:Int×Int) (H:Hid (qZ 512 (zO stops) l=r)) (B:Nat) (w:World) (hl:jA zt 4 B w vl l) (hB:B<=w.heap.size):
  Calls prog 101 #[vl,stops] w λe w'=>e=.returned (.tuple #[r.1,r.2])/\Bl w w':=by
 obtain⟨al,capl,rfl,ll1,ll2⟩:=hl.val;by_cases hmany:512<l.length
 ·
  have HR:=qA (zM (err:=(zO stops)) hmany);go_enter func101,ntmps101
  go_wp2;go_ret2;exact⟨qY HR.o H.o,qB _⟩
 have hfew:l.length<=512:=ω
 have hc:=D5 _ l stops r ((zf hfew).symm.trans H.o) B w hl hB;clear hmany;go_enter func101,ntmps101
 go_wp2_with (go_at_call 175;refine hc.mono ?_;rintro e w1 ⟨rfl,b1⟩;have HB1:=qA b1;clear b1)
 go_ret2;exact⟨rfl,HB1.o⟩
theorem kM (n lo hi:Int) (b:Bool) (H:Hid (qK n lo hi= !b)) (w:World):Calls prog 176 #[n,lo,hi] w λe w'=>e=.returned (b:Z)/\w=w':=by
 have HB:=qA (show b= !qK n lo hi by rw[H.o];simp);by_cases h0:n<lo
 ·
  have HF:=qA (show(false:Bool)=b by rw[HB.o];unfold qK;simp;omega);clear H HB;go_enter func176,ntmps176
  go_wp2;go_ret;exact⟨qO HF.o,rfl⟩
 by_cases h1:hi<n
 ·
  have HF:=qA (show(false:Bool)=b by rw[HB.o];unfold qK;simp;omega);clear H HB;go_enter func176,ntmps176
  go_wp2;all_goals first
   |(exfalso;omega)
   |(go_ret;first|exact⟨qO HF.o,rfl⟩|exact⟨qO (by rw[<-HF.o];simp;omega),rfl⟩)
 have HF:=qA (show(true:Bool)=b by rw[HB.o];unfold qK;simp;omega);clear H HB;go_enter func176,ntmps176
 go_wp2;all_goals first
  |(exfalso;omega)
  |(go_ret;first|exact⟨qO HF.o,rfl⟩|exact⟨qO (by rw[<-HF.o];simp;omega),rfl⟩)
theorem IC (x:JA) (b:Bool) (H:Hid ((qK x.price 0 1000000||(qK x.rides 1 8||(qK x.zones 1 16||(qK x.secs 0 86400||qK x.modes 1 255))))= !b)) (w:World):Calls prog 177 #[.agg #[qP x.id,x.price,x.rides,x.zones,x.secs,x.modes]] w λe w'=>e=.returned (b:Z)/\Bl w w':=by
 obtain⟨w2,hw2⟩:=ε (w.alloc (.cells #[qP x.id,x.price,x.rides,x.zones,x.secs,x.modes] 65));have B2:Hid (Bl w w2):=by show Bl _ _;rw[<-hw2];exact qE (qB _) _
 have t1:w2.cell? (w.heap.size,1)=some (x.price:Z):=by rw[<-hw2,Uy (hn:=rfl)];rfl
 have t2:w2.cell? (w.heap.size,2)=some (x.rides:Z):=by rw[<-hw2,Uy (hn:=rfl)];rfl
 have t3:w2.cell? (w.heap.size,3)=some (x.zones:Z):=by rw[<-hw2,Uy (hn:=rfl)];rfl
 have t4:w2.cell? (w.heap.size,4)=some (x.secs:Z):=by rw[<-hw2,Uy (hn:=rfl)];rfl
 have t5:w2.cell? (w.heap.size,5)=some (x.modes:Z):=by rw[<-hw2,Uy (hn:=rfl)];rfl
 obtain⟨o0,ho0⟩: ∃ o,qK x.price 0 1000000= !o:=⟨!qK x.price 0 1000000,σ⟩;have hc0:=kM x.price 0 1000000 o0 ho0 w2;obtain⟨o1,ho1⟩: ∃ o,qK x.rides 1 8= !o:=⟨!qK x.rides 1 8,σ⟩;have hc1:=kM x.rides 1 8 o1 ho1 w2;obtain⟨o2,ho2⟩: ∃ o,qK x.zones 1 16= !o:=⟨!qK x.zones 1 16,σ⟩;have hc2:=kM x.zones 1 16 o2 ho2 w2;obtain⟨o3,ho3⟩: ∃ o,qK x.secs 0 86400= !o:=⟨!qK x.secs 0 86400,σ⟩;have hc3:=kM x.secs 0 86400 o3 ho3 w2;obtain⟨o4,ho4⟩: ∃ o,qK x.modes 1 255= !o:=⟨!qK x.modes 1 255,σ⟩;have hc4:=kM x.modes 1 255 o4 ho4 w2;have HB:=qA (show(o0&&(o1&&(o2&&(o3&&o4))))=b by have:=H.o;rw[ho0,ho1,ho2,ho3,ho4]at this;revert this;cases o0<;>cases o1<;>cases o2<;>cases o3<;>cases o4<;>cases b<;>decide);clear ho0 ho1 ho2 ho3 ho4 H;go_enter func177,ntmps177
 go_wp2_with fail;clear hw2;cases o0 with
 |false=>
  go_wp2_with (first|(go_at_call 176;(with_reducible refine hc0.mono ?_);rintro e w3 ⟨rfl,rfl⟩))
  go_ret;exact⟨qO HB.o,B2.o⟩
 |true=>
 cases o1 with
 |false=>
  go_wp2_with (first|(go_at_call 176;(with_reducible refine hc0.mono ?_);rintro e w3 ⟨rfl,rfl⟩)|(go_at_call 176;(with_reducible refine hc1.mono ?_);rintro e w3 ⟨rfl,rfl⟩))
  go_ret;exact⟨qO HB.o,B2.o⟩
 |true=>
 cases o2 with
 |false=>
  go_wp2_with (first|(go_at_call 176;(with_reducible refine hc0.mono ?_);rintro e w3 ⟨rfl,rfl⟩)|(go_at_call 176;(with_reducible refine hc1.mono ?_);rintro e w3 ⟨rfl,rfl⟩)|(go_at_call 176;(with_reducible refine hc2.mono ?_);rintro e w3 ⟨rfl,rfl⟩))
  go_ret;exact⟨qO HB.o,B2.o⟩
 |true=>
 cases o3 with
 |false=>
  go_wp2_with (first|(go_at_call 176;(with_reducible refine hc0.mono ?_);rintro e w3 ⟨rfl,rfl⟩)|(go_at_call 176;(with_reducible refine hc1.mono ?_);rintro e w3 ⟨rfl,rfl⟩)|(go_at_call 176;(with_reducible refine hc2.mono ?_);rintro e w3 ⟨rfl,rfl⟩)|(go_at_call 176;(with_reducible refine hc3.mono ?_);rintro e w3 ⟨rfl,rfl⟩))
  go_ret;exact⟨qO HB.o,B2.o⟩
 |true=>
 cases o4 with
 |false=>
  go_wp2_with (first|(go_at_call 176;(with_reducible refine hc0.mono ?_);rintro e w3 ⟨rfl,rfl⟩)|(go_at_call 176;(with_reducible refine hc1.mono ?_);rintro e w3 ⟨rfl,rfl⟩)|(go_at_call 176;(with_reducible refine hc2.mono ?_);rintro e w3 ⟨rfl,rfl⟩)|(go_at_call 176;(with_reducible refine hc3.mono ?_);rintro e w3 ⟨rfl,rfl⟩)|(go_at_call 176;(with_reducible refine hc4.mono ?_);rintro e w3 ⟨rfl,rfl⟩))
  go_ret;exact⟨qO HB.o,B2.o⟩
 |true=>
 go_wp2_with (first|(go_at_call 176;(with_reducible refine hc0.mono ?_);rintro e w3 ⟨rfl,rfl⟩)|(go_at_call 176;(with_reducible refine hc1.mono ?_);rintro e w3 ⟨rfl,rfl⟩)|(go_at_call 176;(with_reducible refine hc2.mono ?_);rintro e w3 ⟨rfl,rfl⟩)|(go_at_call 176;(with_reducible refine hc3.mono ?_);rintro e w3 ⟨rfl,rfl⟩)|(go_at_call 176;(with_reducible refine hc4.mono ?_);rintro e w3 ⟨rfl,rfl⟩))
 go_ret;exact⟨qO HB.o,B2.o⟩
theorem Hu (vl:Value) (f:Jp) (r:Int×Int) (H:Hid (vF f=r)) (hs:Hid (∀ x∈f.prods,x.id.length<=9223372036854775807)) (B:Nat) (w:World) (hl:jA zu 6 B w vl f.prods) (hB:B<=w.heap.size):
  Calls prog 102 #[FZ vl f] w λe w'=>e=.returned (.tuple #[r.1,r.2])/\Bl w w':=by
 obtain⟨al,capl,rfl,ll1,ll2⟩:=hl.val;obtain⟨l,disc,wit,cap⟩:=f;have hl:jA zu 6 B w (.slice al l.length capl) l:=hl;have hs:Hid (∀ x∈l,x.id.length<=9223372036854775807):=hs;have ll1:l.length<=capl:=ll1;have HL:=qA hl;clear hl;obtain⟨o1,h1⟩:=ε (qK disc 0 1000000);obtain⟨o2,h2⟩:=ε (qK wit 0 86400);obtain⟨o3,h3⟩:=ε (qK cap 0 1000000);have H1:Hid (qK disc 0 1000000= !!o1):=by show _=_;rw[h1];simp
 have H2:Hid (qK wit 0 86400= !!o2):=by show _=_;rw[h2];simp
 have H3:Hid (qK cap 0 1000000= !!o3):=by show _=_;rw[h3];simp
 have HO:Hid ((qK disc 0 1000000||(qK wit 0 86400||qK cap 0 1000000))=(o1||(o2||o3))):=by show _=_;rw[h1,h2,h3]
 obtain⟨w0,hw0⟩:=ε (w.alloc (.cells #[.slice al l.length capl,disc,wit,cap] 34));have b0:Bl w w0:=by rw[<-hw0];exact qE (qB _) _
 have f0:w0.cell? (w.heap.size,0)=some (.slice al l.length capl):=by rw[<-hw0,Uy (hn:=rfl)];rfl
 have f1:w0.cell? (w.heap.size,1)=some (disc:Z):=by rw[<-hw0,Uy (hn:=rfl)];rfl
 have f2:w0.cell? (w.heap.size,2)=some (wit:Z):=by rw[<-hw0,Uy (hn:=rfl)];rfl
 have f3:w0.cell? (w.heap.size,3)=some (cap:Z):=by rw[<-hw0,Uy (hn:=rfl)];rfl
 have HB0:=qA b0;clear h1 h2 h3 b0;show Calls prog _ #[.agg #[.slice al l.length capl,disc,wit,cap]] w _
 by_cases hbad:(o1||(o2||o3))=true
 ·
  have HR:=qA (show((-1:Int),(2:Int))=r by rw[<-H.o];unfold vF;rw[U6 (HO.o.trans hbad)]);clear HO;go_enter func102,ntmps102
  cases o1<;>cases o2<;>cases o3
  all_goals first
   |(exact absurd hbad δ)
   |
    go_wp2_with (first|(go_at_call 176;(with_reducible refine(kM _ _ _ _ H1 _).mono ?_);rintro e w3 ⟨rfl,rfl⟩)|(go_at_call 176;(with_reducible refine(kM _ _ _ _ H2 _).mono ?_);rintro e w3 ⟨rfl,rfl⟩)|(go_at_call 176;(with_reducible refine(kM _ _ _ _ H3 _).mono ?_);rintro e w3 ⟨rfl,rfl⟩))
    go_ret2;exact⟨qY rfl HR.o,HB0.o⟩
 have H123:o1=false/\o2=false/\o3=false:=by cases o1<;>cases o2<;>cases o3<;>simp_all
 obtain⟨rfl,rfl,rfl⟩:=H123;have HC0:Hid (qZ 16 zQ l=r):=by show _=_;rw[<-H.o];unfold vF;rw[U5 (by rw[HO.o];decide)]
 clear hbad HO;by_cases hmany:16<l.length
 ·
  have HR:=qA (zM (err:=zQ) hmany);go_enter func102,ntmps102
  go_wp2_with (first|(go_at_call 176;(with_reducible refine(kM _ _ _ true H1 _).mono ?_);rintro e w3 ⟨rfl,rfl⟩)|(go_at_call 176;(with_reducible refine(kM _ _ _ true H2 _).mono ?_);rintro e w3 ⟨rfl,rfl⟩)|(go_at_call 176;(with_reducible refine(kM _ _ _ true H3 _).mono ?_);rintro e w3 ⟨rfl,rfl⟩))
  go_ret2;exact⟨qY HR.o HC0.o,HB0.o⟩
 have hfew:l.length<=16:=ω
 have HR:Hid (wU zQ (l.take 0) (l.drop 0)=r):=(zf hfew).symm.trans HC0.o;clear hmany;go_enter func102,ntmps102
 go_wp2_with (first|(go_at_call 176;(with_reducible refine(kM _ _ _ true H1 _).mono ?_);rintro e w3 ⟨rfl,rfl⟩)|(go_at_call 176;(with_reducible refine(kM _ _ _ true H2 _).mono ?_);rintro e w3 ⟨rfl,rfl⟩)|(go_at_call 176;(with_reducible refine(kM _ _ _ true H3 _).mono ?_);rintro e w3 ⟨rfl,rfl⟩))
 clear hw0 f0 f1 f2 f3;go_loopw [5] (λi wr=> ∃ k:Nat,(k<=l.length/\i=k)/\Hid (wU zQ (l.take k) (l.drop k)=r)/\Hid (Bl w wr)) (λi _=>l.length-(intOf i).toNat)
 case atStart=>exact⟨0,⟨qAD _,rfl⟩,HR,HB0.o⟩
 obtain⟨k,⟨hk,rfl⟩,HC,HBL⟩:=hrel;by_cases hlt:k<l.length
 rotate_left
 ·
  have HE:=qA (jy (err:=zQ) (show l.length<=k by omega));go_wp2;go_ret2;exact⟨qY HE.o HC.o,HBL.o⟩
 obtain⟨bl',ol,x,rfl,hbs,hx,hc⟩:=HL.o.get hlt HBL.o hB;have d0:wr.cell? (bl',ol+k*6)=some (qP x.id):=hc 0 _ rfl;have hkI:(k:Int)<(l.length:Int):=ω
 have HX:=qA hx;have hsz:=hs.o x (Uz hx);obtain⟨p,hp⟩:=ε (jU x.id);have HP:=qA hp;have hid:=Ms.Bf ⟨x.id.toArray⟩ (by show x.id.toArray.size<=_;rw[List.size_toArray];unfold maxLen;omega) p HP wr;clear hp hx hc;cases p with
 |false=>
  have HE:=qA (qU (err:=zQ) HX.o (show zQ (l.take k) x=12 by unfold zQ;rw[U6 HP.o]) δ);go_wp2_with (go_at_call 165;refine hid.mono ?_;rintro e w3 ⟨rfl,rfl⟩)
  go_ret2;exact⟨qY HE.o HC.o,HBL.o⟩
 |true=>
 have HP1:=qA (show ¬ jU x.id=false by rw[HP.o];decide);go_wp2_with (go_at_call 165;refine hid.mono ?_;rintro e w3 ⟨rfl,rfl⟩)
 rename World=>wo
 clear hid d0;go_loopw [6] (λi wr=> ∃ j:Nat,(j<=k/\i=j)/\Hid ((l.take j).any (λy=>y.id==x.id)=false)/\Hid (Bl w wr)) (λi _=>k-(intOf i).toNat)
 case atStart=>exact⟨0,⟨qAD _,rfl⟩,rfl,HBL⟩
 obtain⟨j,⟨hj,rfl⟩,HN,HBR⟩:=hrel;by_cases hjk:j<k
 ·
  obtain⟨y,hy⟩: ∃ y,l[j]? =some y:=⟨_,U2 ω⟩;have x0:wr.cell? (bl',ol+k*6)=some (qP x.id):=HL.o.cellsAt HX.o HBR.o hB 0 _ rfl;have y0:wr.cell? (bl',ol+j*6)=some (qP y.id):=HL.o.cellsAt hy HBR.o hB 0 _ rfl;have hjI:(j:Int)<(l.length:Int):=ω
  have hjk':(j:Int)<(k:Int):=ω
  have HY:=qA hy;clear hy;cases hq:y.id==x.id with
  |true=>
   have HE:=qA (qU (err:=zQ) HX.o (show zQ (l.take k) x=6 by unfold zQ;rw[U5 HP1.o,U6 (XF HY.o hjk hq)]) δ);go_wp2_with fail;go_quiet (fail)
   go_wp2;go_ret2;exact⟨qY HE.o HC.o,qM HBR.o _⟩
  |false=>
   have HN':=qA (Jz HY.o HN.o hq);go_wp2_with fail;go_quiet (fail)
   go_wp2;go_roundw;case rel=>exact⟨j+1,⟨ω,by go_num⟩,HN',qM HBR.o _⟩
   simp[intOf];omega
 obtain rfl:j=k:=ω
 have HQ1:=qA (show ¬ ((l.take j).any λy=>y.id==x.id)=true by rw[HN.o];decide);have d0:wr.cell? (bl',ol+j*6)=some (qP x.id):=HL.o.cellsAt HX.o HBR.o hB 0 _ rfl;have d1:wr.cell? (bl',ol+j*6+1)=some (x.price:Z):=HL.o.cellsAt HX.o HBR.o hB 1 _ rfl;have d2:wr.cell? (bl',ol+j*6+2)=some (x.rides:Z):=HL.o.cellsAt HX.o HBR.o hB 2 _ rfl;have d3:wr.cell? (bl',ol+j*6+3)=some (x.zones:Z):=HL.o.cellsAt HX.o HBR.o hB 3 _ rfl;have d4:wr.cell? (bl',ol+j*6+4)=some (x.secs:Z):=HL.o.cellsAt HX.o HBR.o hB 4 _ rfl;have d5:wr.cell? (bl',ol+j*6+5)=some (x.modes:Z):=HL.o.cellsAt HX.o HBR.o hB 5 _ rfl;obtain⟨o,ho⟩: ∃ o,(qK x.price 0 1000000||(qK x.rides 1 8||(qK x.zones 1 16||(qK x.secs 0 86400||qK x.modes 1 255))))= !o:=⟨!(qK x.price 0 1000000||(qK x.rides 1 8||(qK x.zones 1 16||(qK x.secs 0 86400||qK x.modes 1 255)))),σ⟩;have HO:=qA ho;have hm:=IC x o HO wr;clear ho;cases o with
 |false=>
  have HE:=qA (qU (err:=zQ) HX.o (show zQ (l.take j) x=2 by unfold zQ;rw[U5 HP1.o,U5 HQ1.o,U6 (show _=true from HO.o)]) δ);go_wp2_with (go_at_call 177;refine hm.mono ?_;rintro e w4 ⟨rfl,b4⟩)
  go_ret2;exact⟨qY HE.o HC.o,qF HBR.o b4⟩
 |true=>
  have HG:=qA (jS (err:=zQ) HX.o (show zQ (l.take j) x=0 by unfold zQ;rw[U5 HP1.o,U5 HQ1.o,U5 (by rw[HO.o];decide)]));go_wp2_with (go_at_call 177;refine hm.mono ?_;rintro e w4 ⟨rfl,b4⟩)
  exact⟨⟨j+1,⟨ω,by go_num⟩,HG.o.symm.trans HC.o,qF HBR.o b4⟩,by simp[intOf];omega⟩
theorem Me (V:TtV) (ts:List TripD) (t:TtD) (p:Nat) (hp:p<10) (r:Int×Int) (H:Hid (zV t p=r)) (ok:ZZ t) (SH:Hid (4<p-> ∀ x∈ts,x.calls.length<=32)) (B:Nat) (w:World) (rd:yA B w V ts t) (hB:B<=w.heap.size):
  Calls prog 36 #[JP V t,p] w λe w'=>e=.returned (.tuple #[r.1,r.2])/\Bl w w':=by
 have RA:=qA rd;have OK:=qA ok;obtain⟨v0,v1,v2,v3,v4,v5,v6,v7,v8,v9⟩:=V;obtain⟨a0,k0,(rfl:v0=_),-,-⟩:=rd.stops.val;obtain⟨a1,k1,(rfl:v1=_),-,-⟩:=rd.routes.val;obtain⟨a2,k2,(rfl:v2=_),-,-⟩:=rd.cals.val;obtain⟨a3,k3,(rfl:v3=_),-,-⟩:=rd.excs.val;obtain⟨a4,k4,(rfl:v4=_),-,-⟩:=rd.trips.sl.val;obtain⟨a5,k5,(rfl:v5=_),-,-⟩:=rd.freqs.val;obtain⟨a6,k6,(rfl:v6=_),-,-⟩:=rd.thrus.val;obtain⟨a7,k7,(rfl:v7=_),-,-⟩:=rd.guars.val;obtain⟨a8,k8,(rfl:v8=_),-,-⟩:=rd.paths.val;obtain⟨a9,k9,(rfl:v9=_),-,-⟩:=rd.prods.val;clear rd ok;unfold JP;simp only[U4]at RA ⊢;obtain⟨w2,hw2⟩:=ε (w.alloc (.cells #[.slice a0 t.stops.length k0,.slice a1 t.routes.length k1,.slice a2 t.cals.length k2,.slice a3 t.excs.length k3,.slice a4 ts.length k4,.slice a5 t.freqs.length k5,.slice a6 t.thrus.length k6,.slice a7 t.guars.length k7,.slice a8 t.paths.length k8,.slice a9 t.fares.prods.length k9,t.fares.disc,t.fares.within,t.fares.cap] 36));have HA:=qA (show w2.heap[w.heap.size]? =some (.cells #[.slice a0 t.stops.length k0,.slice a1 t.routes.length k1,.slice a2 t.cals.length k2,.slice a3 t.excs.length k3,.slice a4 ts.length k4,.slice a5 t.freqs.length k5,.slice a6 t.thrus.length k6,.slice a7 t.guars.length k7,.slice a8 t.paths.length k8,.slice a9 t.fares.prods.length k9,t.fares.disc,t.fares.within,t.fares.cap] 36 (0,0)) by rw[<-hw2];exact heap_alloc_new w _);have B2:=qA (show Bl w w2 by rw[<-hw2];exact qE (qB _) _);have R2:=qA (RA.o.bl B2.o hB);have hB2:B<=w2.heap.size:=Ux hB B2.o.size;obtain⟨p0,p1,p2,p3,p4,p5,p6,p7,p8,p9,p10,p11,p12⟩:=kW HA.o;obtain rfl|rfl|rfl|rfl|rfl|rfl|rfl|rfl|rfl|rfl:p=0∨p=1∨p=2∨p=3∨p=4∨p=5∨p=6∨p=7∨p=8∨p=9:=ω
 ·
  have hc:=IE _ t.stops r H OK.o.stops B w2 R2.o.stops hB2;go_enter func36,ntmps36
  go_wp2_with (go_at_call 93;refine hc.mono ?_;rintro e w3 ⟨rfl,b3⟩;have HB3:=qA (qF B2.o b3);clear b3)
  go_ret2;exact⟨rfl,HB3.o⟩
 ·
  have hc:=Dx _ t.routes r H OK.o.routes B w2 R2.o.routes hB2;go_enter func36,ntmps36
  go_wp2_with (go_at_call 94;refine hc.mono ?_;rintro e w3 ⟨rfl,b3⟩;have HB3:=qA (qF B2.o b3);clear b3)
  go_ret2;exact⟨rfl,HB3.o⟩
 ·
  have hc:=MV _ t.cals r H OK.o.cals B w2 R2.o.cals hB2;go_enter func36,ntmps36
  go_wp2_with (go_at_call 95;refine hc.mono ?_;rintro e w3 ⟨rfl,b3⟩;have HB3:=qA (qF B2.o b3);clear b3)
  go_ret2;exact⟨rfl,HB3.o⟩
 ·
  have hc:=MX _ t.excs t.cals.length r H B w2 R2.o.excs hB2;go_enter func36,ntmps36
  go_wp2_with (go_at_call 96;refine hc.mono ?_;rintro e w3 ⟨rfl,b3⟩;have HB3:=qA (qF B2.o b3);clear b3)
  go_ret2;exact⟨rfl,HB3.o⟩
 ·
  have hc:=II _ ts t.stops.length t.routes.length t.cals.length t.trips R2.o.same r H OK.o.trips B w2 R2.o.trips hB2;go_enter func36,ntmps36
  go_wp2_with (go_at_call 97;refine hc.mono ?_;rintro e w3 ⟨rfl,b3⟩;have HB3:=qA (qF B2.o b3);clear b3)
  go_ret2;exact⟨rfl,HB3.o⟩
 ·
  have HF:Hid (Fq.qZ (t.freqs.map zS) ts=r):=by show _=_;rw[V5,<-R2.o.same];exact H.o
  have hsh:=SH.o δ;have hT:Fq.WV B w2 _ ts:=⟨R2.o.trips.sl,λx hx=>⟨(R2.o.trips.ok x hx).calls,(R2.o.trips.ok x hx).ok,by have:=hsh x hx;omega⟩⟩;clear hsh;have hc:=Fq.aB _ (t.freqs.map zS) _ ts r HF B w2 R2.o.freqs hT hB2;go_enter func36,ntmps36
  go_wp2_with (go_at_call 98;refine hc.mono ?_;rintro e w3 ⟨rfl,b3⟩;have HB3:=qA (qF B2.o b3);clear b3)
  go_ret2;exact⟨rfl,HB3.o⟩
 ·
  have HF:Hid (qZ 128 (zU (ts.map trpOf) (t.freqs.map zS)) (t.thrus.map ja)=r):=by show _=_;rw[<-Jj,<-R2.o.same];exact H.o
  have hc:=Th.aB _ _ _ (t.thrus.map ja) ts (t.freqs.map zS) r HF B w2 R2.o.thrus R2.o.trips R2.o.freqs hB2;go_enter func36,ntmps36
  go_wp2_with (go_at_call 99;refine hc.mono ?_;rintro e w3 ⟨rfl,b3⟩;have HB3:=qA (qF B2.o b3);clear b3)
  go_ret2;exact⟨rfl,HB3.o⟩
 ·
  have HF:Hid (qZ 128 (zk (ts.map trpOf) (t.freqs.map zS) t.stops.length) t.guars=r):=by show _=_;rw[<-Jj,<-R2.o.same];exact H.o
  have hc:=Th.Dt _ _ _ t.guars ts (t.freqs.map zS) t.stops.length r HF B w2 R2.o.guars R2.o.trips R2.o.freqs hB2;go_enter func36,ntmps36
  go_wp2_with (go_at_call 100;refine hc.mono ?_;rintro e w3 ⟨rfl,b3⟩;have HB3:=qA (qF B2.o b3);clear b3)
  go_ret2;exact⟨rfl,HB3.o⟩
 ·
  have hc:=IB _ t.paths t.stops.length r H B w2 R2.o.paths hB2;go_enter func36,ntmps36
  go_wp2_with (go_at_call 101;refine hc.mono ?_;rintro e w3 ⟨rfl,b3⟩;have HB3:=qA (qF B2.o b3);clear b3)
  go_ret2;exact⟨rfl,HB3.o⟩
 have hc:=Hu _ t.fares r H OK.o.prods B w2 R2.o.prods hB2;unfold FZ at hc;go_enter func36,ntmps36
 go_wp2_with (go_at_call 102;refine hc.mono ?_;rintro e w3 ⟨rfl,b3⟩;have HB3:=qA (qF B2.o b3);clear b3)
 go_ret2;exact⟨rfl,HB3.o⟩
theorem IK {ts:List TripD} {t:TtD} (hs:t.trips=ts.map xOf) (h:(zV t 4).2=0): ∀ x∈ts,x.calls.length<=32:=
 WR (stops:=t.stops.length) (routes:=t.routes.length) (cals:=t.cals.length) (by rw[<-hs];exact h)
theorem AL {t:TtD} {n p:Nat} {r:Int×Int} (h:zV t p=r) (h0:r.2≠0):wZ t (n+1) p=((p:Int),r.1,r.2):=by
 unfold wZ;rw[U5 (by rw[h];exact h0),h]
theorem pz {t:TtD} {n p:Nat} {r:Int×Int} (h:zV t p=r) (h0:r.2=0):wZ t (n+1) p=wZ t n (p+1):=by
 rw[wZ,U6 (by rw[h];exact h0)]
theorem RG (V:TtV) (ts:List TripD) (t:TtD) (a b c:Int) (H:Hid (Qj t=(a,b,c))) (ok:ZZ t) (B:Nat) (w:World) (rd:yA B w V ts t) (hB:B<=w.heap.size):
  Calls prog 16 #[JP V t] w λe w'=>e=.returned (.tuple #[a,b,c])/\Bl w w':=by
 have RA:=qA rd;have OK:=qA ok;obtain⟨v0,v1,v2,v3,v4,v5,v6,v7,v8,v9⟩:=V;obtain⟨a0,k0,(rfl:v0=_),-,-⟩:=rd.stops.val;obtain⟨a1,k1,(rfl:v1=_),-,-⟩:=rd.routes.val;obtain⟨a2,k2,(rfl:v2=_),-,-⟩:=rd.cals.val;obtain⟨a3,k3,(rfl:v3=_),-,-⟩:=rd.excs.val;obtain⟨a4,k4,(rfl:v4=_),-,-⟩:=rd.trips.sl.val;obtain⟨a5,k5,(rfl:v5=_),-,-⟩:=rd.freqs.val;obtain⟨a6,k6,(rfl:v6=_),-,-⟩:=rd.thrus.val;obtain⟨a7,k7,(rfl:v7=_),-,-⟩:=rd.guars.val;obtain⟨a8,k8,(rfl:v8=_),-,-⟩:=rd.paths.val;obtain⟨a9,k9,(rfl:v9=_),-,-⟩:=rd.prods.val;clear rd ok;have hpc: ∀ (p:Nat) (hp:p<10) (r:Int×Int) (H:Hid (zV t p=r)) (SH:Hid (4<p-> ∀ x∈ts,x.calls.length<=32)) (w':World) (hb:Bl w w'),Calls prog 36 #[.agg #[.slice a0 t.stops.length k0,.slice a1 t.routes.length k1,.slice a2 t.cals.length k2,.slice a3 t.excs.length k3,.slice a4 ts.length k4,.slice a5 t.freqs.length k5,.slice a6 t.thrus.length k6,.slice a7 t.guars.length k7,.slice a8 t.paths.length k8,.slice a9 t.fares.prods.length k9,t.fares.disc,t.fares.within,t.fares.cap],p] w' λe w2=>e=.returned (.tuple #[r.1,r.2])/\Bl w' w2:=λp hp r H SH w' hb=>by
  have h:=Me ⟨.slice a0 t.stops.length k0,.slice a1 t.routes.length k1,.slice a2 t.cals.length k2,.slice a3 t.excs.length k3,.slice a4 ts.length k4,.slice a5 t.freqs.length k5,.slice a6 t.thrus.length k6,.slice a7 t.guars.length k7,.slice a8 t.paths.length k8,.slice a9 t.fares.prods.length k9⟩ ts t p hp r H OK.o SH B w' (by have:=RA.o.bl hb hB;simpa only[U4]using this) (Ux hB hb.size);unfold JP at h;exact h
 unfold JP;simp only[U4]at RA ⊢;obtain⟨w2,hw2⟩:=ε (w.alloc (.cells #[.slice a0 t.stops.length k0,.slice a1 t.routes.length k1,.slice a2 t.cals.length k2,.slice a3 t.excs.length k3,.slice a4 ts.length k4,.slice a5 t.freqs.length k5,.slice a6 t.thrus.length k6,.slice a7 t.guars.length k7,.slice a8 t.paths.length k8,.slice a9 t.fares.prods.length k9,t.fares.disc,t.fares.within,t.fares.cap] 36));have HA:=qA (show w2.heap[w.heap.size]? =some (.cells #[.slice a0 t.stops.length k0,.slice a1 t.routes.length k1,.slice a2 t.cals.length k2,.slice a3 t.excs.length k3,.slice a4 ts.length k4,.slice a5 t.freqs.length k5,.slice a6 t.thrus.length k6,.slice a7 t.guars.length k7,.slice a8 t.paths.length k8,.slice a9 t.fares.prods.length k9,t.fares.disc,t.fares.within,t.fares.cap] 36 (0,0)) by rw[<-hw2];exact heap_alloc_new w _);have B2:=qA (show Bl w w2 by rw[<-hw2];exact qE (qB _) _);go_enter func16,ntmps16
 go_wp2_with fail;clear hw2;go_loopw [5] (λi wr=> ∃ k:Nat,(k<=10/\i=k)/\Hid (wZ t (10-k) k=(a,b,c))/\Hid (4<k-> ∀ x∈ts,x.calls.length<=32)/\Hid (Bl w2 wr)) (λi _=>10-(intOf i).toNat)
 case atStart=>exact⟨0,⟨ω,rfl⟩,H,λh=>absurd h δ,qB _⟩
 obtain⟨k,⟨hk,rfl⟩,HC,SH,HBL⟩:=hrel;by_cases hlt:k<10
 rotate_left
 ·
  obtain rfl:k=10:=ω
  have HE:Hid ((0,0,0)=(a,b,c)):=HC.o;have h3:=HE.o;simp only[qAF]at h3;obtain⟨rfl,rfl,rfl⟩:=h3;go_wp2;go_ret3
  exact⟨rfl,qF B2.o HBL.o⟩
 obtain⟨p0,p1,p2,p3,p4,p5,p6,p7,p8,p9,p10,p11,p12⟩:=kW (qX HA.o HBL.o);obtain⟨r,hr⟩:=ε (zV t k);have HR:=qA hr;obtain⟨r1,r2⟩:=r;have hkI:(k:Int)<10:=ω
 have h1:=hpc k hlt (r1,r2) HR SH wr (qF B2.o HBL.o);clear hr;obtain⟨n,hn⟩: ∃ n,10-k=n+1:=⟨9-k,ω⟩;have HN:=qA hn;clear hn;go_wp2_with (go_at_call 36;refine h1.mono ?_;rintro e' w3 ⟨rfl,b3⟩;have B3:=qA (qF HBL.o b3);clear b3;by_cases h0:r2=0;have q:(r2 != 0)=false:=(by rw[h0];rfl);rotate_left;have q:(r2 != 0)=true:=(by rw[bne_iff_ne];exact h0))
 ·
  have HE:=HC.o;rw[HN.o,AL HR.o h0]at HE;simp only[qAF]at HE;obtain⟨rfl,rfl,rfl⟩:=HE;go_ret3
  exact⟨rfl,qF B2.o B3.o⟩
 refine⟨⟨k+1,⟨ω,by go_num⟩, ?_,λh=>?_,B3.o⟩,by simp[intOf];omega⟩
 ·
  have HE:=HC.o;rw[HN.o,pz HR.o h0]at HE;rw[show 10-(k+1)=n by have:=HN.o;omega];exact HE
 by_cases h4:4<k
 · exact SH.o h4
 obtain rfl:k=4:=ω
 exact IK RA.o.same (by rw[HR.o];exact h0)
