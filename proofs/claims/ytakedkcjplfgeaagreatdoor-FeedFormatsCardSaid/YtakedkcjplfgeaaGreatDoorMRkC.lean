/- Contracts, proved. Conditions: each contract's own. -/
import Derived.Test.YtakedkcjplfgeaaGreatDoorMRkA
import Derived.Test.YtakedkcjplfgeaaGreatDoorMRkY
set_option maxRecDepth 1000000
set_option maxHeartbeats 32000000
namespace Go.Proofs.YtakedkcjplfgeaaGreatDoor
open Go.RowKit
open Frq Thr Tt
theorem D5 (vl:Value) (l:List Qq) (stops:Int) (r:Int×Int) (H:Hid (wU (zO stops) (l.take 0) (l.drop 0)=r)) (B:Nat) (w:World) (hl:jA zt 4 B w vl l) (hB:B<=w.heap.size):
  Calls Tryz.prog 175 #[vl, .int .i64 stops] w fun e w'=>e= .returned (.tuple #[.int .i64 r.1, .int .i64 r.2])/\Bl w w':=by
 obtain⟨al,capl,rfl,ll1,ll2⟩:=hl.val;have HL:=qA hl;clear hl;go_enter Tryz.func175,Tryz.ntmps175
 go_wp2_with fail;go_loopw [6] (fun i wr=> ∃ k:Nat,(k<=l.length/\i= .int .i64 k)/\Hid (wU (zO stops) (l.take k) (l.drop k)=r)/\Hid (Bl w wr)) (fun i _=>l.length-(intOf i).toNat)
 case atStart=>exact⟨0,⟨qAD _,rfl⟩,H,qB _⟩
 case round=>
  obtain⟨k,⟨hk,rfl⟩,HC,HBL⟩:=hrel;by_cases hlt:k<l.length
  rotate_left
  ·
   have HE:=qA (jy (err:=(zO stops)) (show l.length<=k by omega));go_wp2;go_ret2;exact⟨qY HE.out HC.out,HBL.out⟩
  obtain⟨bl',ol,x,rfl,hbs,hx,hc⟩:=HL.out.get hlt HBL.out hB;have d0:wr.cell? ⟨bl',ol+k*4,none⟩=some (.int .i64 x.frm):=hc 0 _ rfl;have d1:wr.cell? ⟨bl',ol+k*4+1,none⟩=some (.int .i64 x.to):=hc 1 _ rfl;have d2:wr.cell? ⟨bl',ol+k*4+2,none⟩=some (.int .i64 x.secs):=hc 2 _ rfl;have d3:wr.cell? ⟨bl',ol+k*4+3,none⟩=some (.bool x.free):=hc 3 _ rfl;have hkI:(k:Int)<(l.length:Int):=by omega
  have HX:=qA hx;clear hx hc;rename World=>wo
  obtain⟨w2,hw2⟩: ∃ w2,wo.alloc (.cells #[.int .i64 x.frm, .int .i64 x.to, .int .i64 x.secs, .bool x.free] 63)=w2:=⟨_,rfl⟩;have b2:Bl wo w2:=by rw[<-hw2];exact qE (qB _) _
  have t0:w2.cell? ⟨wo.heap.size,0,none⟩=some (.int .i64 x.frm):=by rw[<-hw2,Uy (hn:=rfl)];rfl
  have t1:w2.cell? ⟨wo.heap.size,1,none⟩=some (.int .i64 x.to):=by rw[<-hw2,Uy (hn:=rfl)];rfl
  have t2:w2.cell? ⟨wo.heap.size,2,none⟩=some (.int .i64 x.secs):=by rw[<-hw2,Uy (hn:=rfl)];rfl
  have t3:w2.cell? ⟨wo.heap.size,3,none⟩=some (.bool x.free):=by rw[<-hw2,Uy (hn:=rfl)];rfl
  have s2:wo.heap.size<w2.heap.size:=by rw[<-hw2];simp
  have B2:=qA (qF HBL.out b2);clear b2;by_cases h9:(x.frm<0∨stops<=x.frm)∨(x.to<0∨stops<=x.to)∨x.frm=x.to
  ·
   have HE:=qA (qU (err:=(zO stops)) (e:=9) HX.out (by unfold zO;rw[U6 (by unfold qK;simp;omega)]) (by decide));by_cases hft:x.frm=x.to
   ·
    have hft':(x.frm==x.to)=true:=by simp[hft]
    clear h9 hft;go_wp2_with fail;all_goals first
     |(go_ret2;exact⟨qY HE.out HC.out,B2.out⟩)
     |(exfalso;omega)
   ·
    have hft':(x.frm==x.to)=false:=by simp[hft]
    go_wp2_with fail;all_goals first
     |(exfalso;omega)
     |(go_ret2;exact⟨qY HE.out HC.out,B2.out⟩)
  have n1:0<=x.frm:=by omega
  have n2:x.frm<stops:=by omega
  have n3:0<=x.to:=by omega
  have n4:x.to<stops:=by omega
  have hft':(x.frm==x.to)=false:=by simp;omega
  have H9:=qA (show ¬ (qK x.frm 0 (stops-1)||(qK x.to 0 (stops-1)||x.frm==x.to))=true by unfold qK;simp;omega);clear h9;by_cases h2:x.secs<1∨14400<x.secs
  ·
   have HE:=qA (qU (err:=(zO stops)) (e:=2) HX.out (by unfold zO;rw[U5 H9.out,U6 (by unfold qK;simp;omega)]) (by decide));go_wp2_with fail;all_goals first
    |(exfalso;omega)
    |(go_ret2;exact⟨qY HE.out HC.out,B2.out⟩)
  have H2:=qA (show ¬ qK x.secs 1 14400=true by unfold qK;simp;omega);have m1:1<=x.secs:=by omega
  have m2:x.secs<=14400:=by omega
  clear h2;have HE6:Hid ((l.take k).any (fun y=>y.frm==x.frm&&(y.to==x.to&&y.free==x.free))=true->wU (zO stops) (l.take k) (l.drop k)=((k:Int),6)):=fun h=>qU (err:=(zO stops)) (e:=6) HX.out (by unfold zO;rw[U5 H9.out,U5 H2.out,U6 h]) (by decide)
  go_wp2_with fail;clear hw2 d0 d1 d2 d3 hft';go_loopw [8] (fun i wr=> ∃ j:Nat,(j<=k/\i= .int .i64 j)/\Hid ((l.take j).any (fun y=>y.frm==x.frm&&(y.to==x.to&&y.free==x.free))=false)/\Hid (Bl w wr)/\Hid (Bl w2 wr)) (fun i _=>k-(intOf i).toNat)
  case atStart=>exact⟨0,⟨qAD _,rfl⟩,rfl,B2,qB _⟩
  case round=>
   obtain⟨j,⟨hj,rfl⟩,HN,HBR,HW⟩:=hrel;by_cases hjk:j<k
   ·
    obtain⟨y,hy⟩: ∃ y,l[j]? =some y:=⟨_,U2 (by omega)⟩;have x0:wr.cell? ⟨wo.heap.size,0,none⟩=some (.int .i64 x.frm):=((qG HW.out).1 _ _ s2).trans t0;have x1:wr.cell? ⟨wo.heap.size,1,none⟩=some (.int .i64 x.to):=((qG HW.out).1 _ _ s2).trans t1;have x3:wr.cell? ⟨wo.heap.size,3,none⟩=some (.bool x.free):=((qG HW.out).1 _ _ s2).trans t3;have y0:wr.cell? ⟨bl',ol+j*4,none⟩=some (.int .i64 y.frm):=HL.out.cellsAt hy HBR.out hB 0 _ rfl;have y1:wr.cell? ⟨bl',ol+j*4+1,none⟩=some (.int .i64 y.to):=HL.out.cellsAt hy HBR.out hB 1 _ rfl;have y3:wr.cell? ⟨bl',ol+j*4+3,none⟩=some (.bool y.free):=HL.out.cellsAt hy HBR.out hB 3 _ rfl;have hjI:(j:Int)<(l.length:Int):=by omega
    have hjk':(j:Int)<(k:Int):=by omega
    have HY:=qA hy;clear hy;cases q0:y.frm==x.frm with
    |true=>
     cases q1:y.to==x.to with
     |true=>
      cases q2:y.free==x.free with
      |true=>
       have HE:=qA (HE6.out (XF (p:=(fun y=>y.frm==x.frm&&(y.to==x.to&&y.free==x.free))) HY.out hjk (by simp only[q0,q1,q2];rfl)));go_wp2_with fail;go_quiet (fail)
       go_wp2;go_ret2;exact⟨qY HE.out HC.out,qM HBR.out _⟩
      |false=>
       have HN':=qA (Jz (p:=(fun y=>y.frm==x.frm&&(y.to==x.to&&y.free==x.free))) HY.out HN.out (by simp only[q0,q1,q2];rfl));go_wp2_with fail;go_quiet (fail)
       go_wp2;go_roundw;case rel=>exact⟨j+1,⟨by omega,by go_num⟩,HN',qM HBR.out _,qM HW.out _⟩
       case measure=>simp[intOf];omega
     |false=>
      have HN':=qA (Jz (p:=(fun y=>y.frm==x.frm&&(y.to==x.to&&y.free==x.free))) HY.out HN.out (by simp only[q0,q1];rfl));go_wp2_with fail;go_quiet (fail)
      go_wp2;go_roundw;case rel=>exact⟨j+1,⟨by omega,by go_num⟩,HN',qM HBR.out _,qM HW.out _⟩
      case measure=>simp[intOf];omega
    |false=>
     have HN':=qA (Jz (p:=(fun y=>y.frm==x.frm&&(y.to==x.to&&y.free==x.free))) HY.out HN.out (by simp only[q0];rfl));go_wp2_with fail;go_quiet (fail)
     go_wp2;go_roundw;case rel=>exact⟨j+1,⟨by omega,by go_num⟩,HN',qM HBR.out _,qM HW.out _⟩
     case measure=>simp[intOf];omega
   ·
    obtain rfl:j=k:=by omega
    have HG:=qA (jS (err:=(zO stops)) HX.out (by unfold zO;rw[U5 H9.out,U5 H2.out,U5 (by rw[HN.out];decide)]));go_wp2;exact⟨⟨j+1,⟨by omega,by go_num⟩,HG.out.symm.trans HC.out,HBR.out⟩,by simp[intOf];omega⟩
theorem IB (vl:Value) (l:List Qq) (stops:Int) (r:Int×Int) (H:Hid (qZ 512 (zO stops) l=r)) (B:Nat) (w:World) (hl:jA zt 4 B w vl l) (hB:B<=w.heap.size):
  Calls Tryz.prog 101 #[vl, .int .i64 stops] w fun e w'=>e= .returned (.tuple #[.int .i64 r.1, .int .i64 r.2])/\Bl w w':=by
 obtain⟨al,capl,rfl,ll1,ll2⟩:=hl.val;by_cases hmany:512<l.length
 ·
  have HR:=qA (zM (err:=(zO stops)) hmany);go_enter Tryz.func101,Tryz.ntmps101
  go_wp2;go_ret2;exact⟨qY HR.out H.out,qB _⟩
 ·
  have hfew:l.length<=512:=by omega
  have hc:=D5 _ l stops r ((zf hfew).symm.trans H.out) B w hl hB;clear hmany;go_enter Tryz.func101,Tryz.ntmps101
  go_wp2_with (go_at_call 175;refine hc.mono ?_;rintro e w1 ⟨rfl,b1⟩;have HB1:=qA b1;clear b1)
  go_ret2;exact⟨rfl,HB1.out⟩
theorem kM (n lo hi:Int) (b:Bool) (H:Hid (qK n lo hi= !b)) (w:World):Calls Tryz.prog 176 #[.int .i64 n, .int .i64 lo, .int .i64 hi] w fun e w'=>e= .returned (.bool b)/\w=w':=by
 have HB:=qA (show b= !qK n lo hi by rw[H.out];simp);by_cases h0:n<lo
 ·
  have HF:=qA (show(false:Bool)=b by rw[HB.out];unfold qK;simp;omega);clear H HB;go_enter Tryz.func176,Tryz.ntmps176
  go_wp2;go_ret;exact⟨qO HF.out,rfl⟩
 by_cases h1:hi<n
 ·
  have HF:=qA (show(false:Bool)=b by rw[HB.out];unfold qK;simp;omega);clear H HB;go_enter Tryz.func176,Tryz.ntmps176
  go_wp2;all_goals first
   |(exfalso;omega)
   |(go_ret;first|exact⟨qO HF.out,rfl⟩|exact⟨qO (by rw[<-HF.out];simp;omega),rfl⟩)
 ·
  have HF:=qA (show(true:Bool)=b by rw[HB.out];unfold qK;simp;omega);clear H HB;go_enter Tryz.func176,Tryz.ntmps176
  go_wp2;all_goals first
   |(exfalso;omega)
   |(go_ret;first|exact⟨qO HF.out,rfl⟩|exact⟨qO (by rw[<-HF.out];simp;omega),rfl⟩)
theorem IC (x:JA) (b:Bool) (H:Hid ((qK x.price 0 1000000||(qK x.rides 1 8||(qK x.zones 1 16||(qK x.secs 0 86400||qK x.modes 1 255))))= !b)) (w:World):Calls Tryz.prog 177 #[.agg #[qP x.id, .int .i64 x.price, .int .i64 x.rides, .int .i64 x.zones, .int .i64 x.secs, .int .i64 x.modes]] w fun e w'=>e= .returned (.bool b)/\Bl w w':=by
 obtain⟨w2,hw2⟩: ∃ w2,w.alloc (.cells #[qP x.id, .int .i64 x.price, .int .i64 x.rides, .int .i64 x.zones, .int .i64 x.secs, .int .i64 x.modes] 65)=w2:=⟨_,rfl⟩;have B2:Hid (Bl w w2):=by show Bl _ _;rw[<-hw2];exact qE (qB _) _
 have t1:w2.cell? ⟨w.heap.size,1,none⟩=some (.int .i64 x.price):=by rw[<-hw2,Uy (hn:=rfl)];rfl
 have t2:w2.cell? ⟨w.heap.size,2,none⟩=some (.int .i64 x.rides):=by rw[<-hw2,Uy (hn:=rfl)];rfl
 have t3:w2.cell? ⟨w.heap.size,3,none⟩=some (.int .i64 x.zones):=by rw[<-hw2,Uy (hn:=rfl)];rfl
 have t4:w2.cell? ⟨w.heap.size,4,none⟩=some (.int .i64 x.secs):=by rw[<-hw2,Uy (hn:=rfl)];rfl
 have t5:w2.cell? ⟨w.heap.size,5,none⟩=some (.int .i64 x.modes):=by rw[<-hw2,Uy (hn:=rfl)];rfl
 obtain⟨o0,ho0⟩: ∃ o,qK x.price 0 1000000= !o:=⟨!qK x.price 0 1000000,by simp⟩;have hc0:=kM x.price 0 1000000 o0 ho0 w2;obtain⟨o1,ho1⟩: ∃ o,qK x.rides 1 8= !o:=⟨!qK x.rides 1 8,by simp⟩;have hc1:=kM x.rides 1 8 o1 ho1 w2;obtain⟨o2,ho2⟩: ∃ o,qK x.zones 1 16= !o:=⟨!qK x.zones 1 16,by simp⟩;have hc2:=kM x.zones 1 16 o2 ho2 w2;obtain⟨o3,ho3⟩: ∃ o,qK x.secs 0 86400= !o:=⟨!qK x.secs 0 86400,by simp⟩;have hc3:=kM x.secs 0 86400 o3 ho3 w2;obtain⟨o4,ho4⟩: ∃ o,qK x.modes 1 255= !o:=⟨!qK x.modes 1 255,by simp⟩;have hc4:=kM x.modes 1 255 o4 ho4 w2;have HB:=qA (show(o0&&(o1&&(o2&&(o3&&o4))))=b by have:=H.out;rw[ho0,ho1,ho2,ho3,ho4]at this;revert this;cases o0<;>cases o1<;>cases o2<;>cases o3<;>cases o4<;>cases b<;>decide);clear ho0 ho1 ho2 ho3 ho4 H;go_enter Tryz.func177,Tryz.ntmps177
 go_wp2_with fail;clear hw2;cases o0 with
 |false=>
  go_wp2_with (first|(go_at_call 176;(with_reducible refine hc0.mono ?_);rintro e w3 ⟨rfl,rfl⟩))
  go_ret;exact⟨qO HB.out,B2.out⟩
 |true=>
 cases o1 with
 |false=>
  go_wp2_with (first|(go_at_call 176;(with_reducible refine hc0.mono ?_);rintro e w3 ⟨rfl,rfl⟩)|(go_at_call 176;(with_reducible refine hc1.mono ?_);rintro e w3 ⟨rfl,rfl⟩))
  go_ret;exact⟨qO HB.out,B2.out⟩
 |true=>
 cases o2 with
 |false=>
  go_wp2_with (first|(go_at_call 176;(with_reducible refine hc0.mono ?_);rintro e w3 ⟨rfl,rfl⟩)|(go_at_call 176;(with_reducible refine hc1.mono ?_);rintro e w3 ⟨rfl,rfl⟩)|(go_at_call 176;(with_reducible refine hc2.mono ?_);rintro e w3 ⟨rfl,rfl⟩))
  go_ret;exact⟨qO HB.out,B2.out⟩
 |true=>
 cases o3 with
 |false=>
  go_wp2_with (first|(go_at_call 176;(with_reducible refine hc0.mono ?_);rintro e w3 ⟨rfl,rfl⟩)|(go_at_call 176;(with_reducible refine hc1.mono ?_);rintro e w3 ⟨rfl,rfl⟩)|(go_at_call 176;(with_reducible refine hc2.mono ?_);rintro e w3 ⟨rfl,rfl⟩)|(go_at_call 176;(with_reducible refine hc3.mono ?_);rintro e w3 ⟨rfl,rfl⟩))
  go_ret;exact⟨qO HB.out,B2.out⟩
 |true=>
 cases o4 with
 |false=>
  go_wp2_with (first|(go_at_call 176;(with_reducible refine hc0.mono ?_);rintro e w3 ⟨rfl,rfl⟩)|(go_at_call 176;(with_reducible refine hc1.mono ?_);rintro e w3 ⟨rfl,rfl⟩)|(go_at_call 176;(with_reducible refine hc2.mono ?_);rintro e w3 ⟨rfl,rfl⟩)|(go_at_call 176;(with_reducible refine hc3.mono ?_);rintro e w3 ⟨rfl,rfl⟩)|(go_at_call 176;(with_reducible refine hc4.mono ?_);rintro e w3 ⟨rfl,rfl⟩))
  go_ret;exact⟨qO HB.out,B2.out⟩
 |true=>
 go_wp2_with (first|(go_at_call 176;(with_reducible refine hc0.mono ?_);rintro e w3 ⟨rfl,rfl⟩)|(go_at_call 176;(with_reducible refine hc1.mono ?_);rintro e w3 ⟨rfl,rfl⟩)|(go_at_call 176;(with_reducible refine hc2.mono ?_);rintro e w3 ⟨rfl,rfl⟩)|(go_at_call 176;(with_reducible refine hc3.mono ?_);rintro e w3 ⟨rfl,rfl⟩)|(go_at_call 176;(with_reducible refine hc4.mono ?_);rintro e w3 ⟨rfl,rfl⟩))
 go_ret;exact⟨qO HB.out,B2.out⟩
theorem Hu (vl:Value) (f:Jp) (r:Int×Int) (H:Hid (vF f=r)) (hs:Hid (∀ x∈f.prods,x.id.length<=9223372036854775807)) (B:Nat) (w:World) (hl:jA zu 6 B w vl f.prods) (hB:B<=w.heap.size):
  Calls Tryz.prog 102 #[FZ vl f] w fun e w'=>e= .returned (.tuple #[.int .i64 r.1, .int .i64 r.2])/\Bl w w':=by
 obtain⟨al,capl,rfl,ll1,ll2⟩:=hl.val;obtain⟨l,disc,wit,cap⟩:=f;have hl:jA zu 6 B w (.slice al l.length capl) l:=hl;have hs:Hid (∀ x∈l,x.id.length<=9223372036854775807):=hs;have ll1:l.length<=capl:=ll1;have HL:=qA hl;clear hl;obtain⟨o1,h1⟩: ∃ o,qK disc 0 1000000=o:=⟨_,rfl⟩;obtain⟨o2,h2⟩: ∃ o,qK wit 0 86400=o:=⟨_,rfl⟩;obtain⟨o3,h3⟩: ∃ o,qK cap 0 1000000=o:=⟨_,rfl⟩;have H1:Hid (qK disc 0 1000000= !!o1):=by show _=_;rw[h1];simp
 have H2:Hid (qK wit 0 86400= !!o2):=by show _=_;rw[h2];simp
 have H3:Hid (qK cap 0 1000000= !!o3):=by show _=_;rw[h3];simp
 have HO:Hid ((qK disc 0 1000000||(qK wit 0 86400||qK cap 0 1000000))=(o1||(o2||o3))):=by show _=_;rw[h1,h2,h3]
 obtain⟨w0,hw0⟩: ∃ w0,w.alloc (.cells #[.slice al l.length capl, .int .i64 disc, .int .i64 wit, .int .i64 cap] 34)=w0:=⟨_,rfl⟩;have b0:Bl w w0:=by rw[<-hw0];exact qE (qB _) _
 have f0:w0.cell? ⟨w.heap.size,0,none⟩=some (.slice al l.length capl):=by rw[<-hw0,Uy (hn:=rfl)];rfl
 have f1:w0.cell? ⟨w.heap.size,1,none⟩=some (.int .i64 disc):=by rw[<-hw0,Uy (hn:=rfl)];rfl
 have f2:w0.cell? ⟨w.heap.size,2,none⟩=some (.int .i64 wit):=by rw[<-hw0,Uy (hn:=rfl)];rfl
 have f3:w0.cell? ⟨w.heap.size,3,none⟩=some (.int .i64 cap):=by rw[<-hw0,Uy (hn:=rfl)];rfl
 have HB0:=qA b0;clear h1 h2 h3 b0;show Calls Tryz.prog _ #[.agg #[.slice al l.length capl, .int .i64 disc, .int .i64 wit, .int .i64 cap]] w _
 by_cases hbad:(o1||(o2||o3))=true
 ·
  have HR:=qA (show((-1:Int),(2:Int))=r by rw[<-H.out];unfold vF;rw[U6 (HO.out.trans hbad)]);clear HO;go_enter Tryz.func102,Tryz.ntmps102
  cases o1<;>cases o2<;>cases o3
  all_goals first
   |(exact absurd hbad (by decide))
   |
    go_wp2_with (first|(go_at_call 176;(with_reducible refine(kM _ _ _ _ H1 _).mono ?_);rintro e w3 ⟨rfl,rfl⟩)|(go_at_call 176;(with_reducible refine(kM _ _ _ _ H2 _).mono ?_);rintro e w3 ⟨rfl,rfl⟩)|(go_at_call 176;(with_reducible refine(kM _ _ _ _ H3 _).mono ?_);rintro e w3 ⟨rfl,rfl⟩))
    go_ret2;exact⟨qY rfl HR.out,HB0.out⟩
 have H123:o1=false/\o2=false/\o3=false:=by cases o1<;>cases o2<;>cases o3<;>simp_all
 obtain⟨rfl,rfl,rfl⟩:=H123;have HC0:Hid (qZ 16 zQ l=r):=by show _=_;rw[<-H.out];unfold vF;rw[U5 (by rw[HO.out];decide)]
 clear hbad HO;by_cases hmany:16<l.length
 ·
  have HR:=qA (zM (err:=zQ) hmany);go_enter Tryz.func102,Tryz.ntmps102
  go_wp2_with (first|(go_at_call 176;(with_reducible refine(kM _ _ _ true H1 _).mono ?_);rintro e w3 ⟨rfl,rfl⟩)|(go_at_call 176;(with_reducible refine(kM _ _ _ true H2 _).mono ?_);rintro e w3 ⟨rfl,rfl⟩)|(go_at_call 176;(with_reducible refine(kM _ _ _ true H3 _).mono ?_);rintro e w3 ⟨rfl,rfl⟩))
  go_ret2;exact⟨qY HR.out HC0.out,HB0.out⟩
 have hfew:l.length<=16:=by omega
 have HR:Hid (wU zQ (l.take 0) (l.drop 0)=r):=(zf hfew).symm.trans HC0.out;clear hmany;go_enter Tryz.func102,Tryz.ntmps102
 go_wp2_with (first|(go_at_call 176;(with_reducible refine(kM _ _ _ true H1 _).mono ?_);rintro e w3 ⟨rfl,rfl⟩)|(go_at_call 176;(with_reducible refine(kM _ _ _ true H2 _).mono ?_);rintro e w3 ⟨rfl,rfl⟩)|(go_at_call 176;(with_reducible refine(kM _ _ _ true H3 _).mono ?_);rintro e w3 ⟨rfl,rfl⟩))
 clear hw0 f0 f1 f2 f3;go_loopw [5] (fun i wr=> ∃ k:Nat,(k<=l.length/\i= .int .i64 k)/\Hid (wU zQ (l.take k) (l.drop k)=r)/\Hid (Bl w wr)) (fun i _=>l.length-(intOf i).toNat)
 case atStart=>exact⟨0,⟨qAD _,rfl⟩,HR,HB0.out⟩
 case round=>
  obtain⟨k,⟨hk,rfl⟩,HC,HBL⟩:=hrel;by_cases hlt:k<l.length
  rotate_left
  ·
   have HE:=qA (jy (err:=zQ) (show l.length<=k by omega));go_wp2;go_ret2;exact⟨qY HE.out HC.out,HBL.out⟩
  obtain⟨bl',ol,x,rfl,hbs,hx,hc⟩:=HL.out.get hlt HBL.out hB;have d0:wr.cell? ⟨bl',ol+k*6,none⟩=some (qP x.id):=hc 0 _ rfl;have hkI:(k:Int)<(l.length:Int):=by omega
  have HX:=qA hx;have hsz:=hs.out x (Uz hx);obtain⟨p,hp⟩: ∃ p,jU x.id=p:=⟨_,rfl⟩;have HP:=qA hp;have hid:=Ms.Bf ⟨x.id.toArray⟩ (by show x.id.toArray.size<=_;rw[List.size_toArray];unfold maxLen;omega) p HP wr;clear hp hx hc;cases p with
  |false=>
   have HE:=qA (qU (err:=zQ) HX.out (show zQ (l.take k) x=12 by unfold zQ;rw[U6 HP.out]) (by decide));go_wp2_with (go_at_call 165;refine hid.mono ?_;rintro e w3 ⟨rfl,rfl⟩)
   go_ret2;exact⟨qY HE.out HC.out,HBL.out⟩
  |true=>
  have HP1:=qA (show ¬ jU x.id=false by rw[HP.out];decide);go_wp2_with (go_at_call 165;refine hid.mono ?_;rintro e w3 ⟨rfl,rfl⟩)
  rename World=>wo
  clear hid d0;go_loopw [6] (fun i wr=> ∃ j:Nat,(j<=k/\i= .int .i64 j)/\Hid ((l.take j).any (fun y=>y.id==x.id)=false)/\Hid (Bl w wr)) (fun i _=>k-(intOf i).toNat)
  case atStart=>exact⟨0,⟨qAD _,rfl⟩,rfl,HBL⟩
  case round=>
   obtain⟨j,⟨hj,rfl⟩,HN,HBR⟩:=hrel;by_cases hjk:j<k
   ·
    obtain⟨y,hy⟩: ∃ y,l[j]? =some y:=⟨_,U2 (by omega)⟩;have x0:wr.cell? ⟨bl',ol+k*6,none⟩=some (qP x.id):=HL.out.cellsAt HX.out HBR.out hB 0 _ rfl;have y0:wr.cell? ⟨bl',ol+j*6,none⟩=some (qP y.id):=HL.out.cellsAt hy HBR.out hB 0 _ rfl;have hjI:(j:Int)<(l.length:Int):=by omega
    have hjk':(j:Int)<(k:Int):=by omega
    have HY:=qA hy;clear hy;cases hq:y.id==x.id with
    |true=>
     have HE:=qA (qU (err:=zQ) HX.out (show zQ (l.take k) x=6 by unfold zQ;rw[U5 HP1.out,U6 (XF HY.out hjk hq)]) (by decide));go_wp2_with fail;go_quiet (fail)
     go_wp2;go_ret2;exact⟨qY HE.out HC.out,qM HBR.out _⟩
    |false=>
     have HN':=qA (Jz HY.out HN.out hq);go_wp2_with fail;go_quiet (fail)
     go_wp2;go_roundw;case rel=>exact⟨j+1,⟨by omega,by go_num⟩,HN',qM HBR.out _⟩
     case measure=>simp[intOf];omega
   ·
    obtain rfl:j=k:=by omega
    have HQ1:=qA (show ¬ ((l.take j).any fun y=>y.id==x.id)=true by rw[HN.out];decide);have d0:wr.cell? ⟨bl',ol+j*6,none⟩=some (qP x.id):=HL.out.cellsAt HX.out HBR.out hB 0 _ rfl;have d1:wr.cell? ⟨bl',ol+j*6+1,none⟩=some (.int .i64 x.price):=HL.out.cellsAt HX.out HBR.out hB 1 _ rfl;have d2:wr.cell? ⟨bl',ol+j*6+2,none⟩=some (.int .i64 x.rides):=HL.out.cellsAt HX.out HBR.out hB 2 _ rfl;have d3:wr.cell? ⟨bl',ol+j*6+3,none⟩=some (.int .i64 x.zones):=HL.out.cellsAt HX.out HBR.out hB 3 _ rfl;have d4:wr.cell? ⟨bl',ol+j*6+4,none⟩=some (.int .i64 x.secs):=HL.out.cellsAt HX.out HBR.out hB 4 _ rfl;have d5:wr.cell? ⟨bl',ol+j*6+5,none⟩=some (.int .i64 x.modes):=HL.out.cellsAt HX.out HBR.out hB 5 _ rfl;obtain⟨o,ho⟩: ∃ o,(qK x.price 0 1000000||(qK x.rides 1 8||(qK x.zones 1 16||(qK x.secs 0 86400||qK x.modes 1 255))))= !o:=⟨!(qK x.price 0 1000000||(qK x.rides 1 8||(qK x.zones 1 16||(qK x.secs 0 86400||qK x.modes 1 255)))),by simp⟩;have HO:=qA ho;have hm:=IC x o HO wr;clear ho;cases o with
    |false=>
     have HE:=qA (qU (err:=zQ) HX.out (show zQ (l.take j) x=2 by unfold zQ;rw[U5 HP1.out,U5 HQ1.out,U6 (show _=true from HO.out)]) (by decide));go_wp2_with (go_at_call 177;refine hm.mono ?_;rintro e w4 ⟨rfl,b4⟩)
     go_ret2;exact⟨qY HE.out HC.out,qF HBR.out b4⟩
    |true=>
     have HG:=qA (jS (err:=zQ) HX.out (show zQ (l.take j) x=0 by unfold zQ;rw[U5 HP1.out,U5 HQ1.out,U5 (by rw[HO.out];decide)]));go_wp2_with (go_at_call 177;refine hm.mono ?_;rintro e w4 ⟨rfl,b4⟩)
     exact⟨⟨j+1,⟨by omega,by go_num⟩,HG.out.symm.trans HC.out,qF HBR.out b4⟩,by simp[intOf];omega⟩
theorem Me (V:TtV) (ts:List TripD) (t:TtD) (p:Nat) (hp:p<10) (r:Int×Int) (H:Hid (zV t p=r)) (ok:ZZ t) (SH:Hid (4<p-> ∀ x∈ts,x.calls.length<=32)) (B:Nat) (w:World) (rd:yA B w V ts t) (hB:B<=w.heap.size):
  Calls Tryz.prog 36 #[JP V t, .int .i64 p] w fun e w'=>e= .returned (.tuple #[.int .i64 r.1, .int .i64 r.2])/\Bl w w':=by
 have RA:=qA rd;have OK:=qA ok;obtain⟨v0,v1,v2,v3,v4,v5,v6,v7,v8,v9⟩:=V;obtain⟨a0,k0,(rfl:v0=_),-,-⟩:=rd.stops.val;obtain⟨a1,k1,(rfl:v1=_),-,-⟩:=rd.routes.val;obtain⟨a2,k2,(rfl:v2=_),-,-⟩:=rd.cals.val;obtain⟨a3,k3,(rfl:v3=_),-,-⟩:=rd.excs.val;obtain⟨a4,k4,(rfl:v4=_),-,-⟩:=rd.trips.sl.val;obtain⟨a5,k5,(rfl:v5=_),-,-⟩:=rd.freqs.val;obtain⟨a6,k6,(rfl:v6=_),-,-⟩:=rd.thrus.val;obtain⟨a7,k7,(rfl:v7=_),-,-⟩:=rd.guars.val;obtain⟨a8,k8,(rfl:v8=_),-,-⟩:=rd.paths.val;obtain⟨a9,k9,(rfl:v9=_),-,-⟩:=rd.prods.val;clear rd ok;unfold JP;simp only[U4]at RA ⊢;obtain⟨w2,hw2⟩: ∃ w2,w.alloc (.cells #[.slice a0 t.stops.length k0, .slice a1 t.routes.length k1, .slice a2 t.cals.length k2, .slice a3 t.excs.length k3, .slice a4 ts.length k4, .slice a5 t.freqs.length k5, .slice a6 t.thrus.length k6, .slice a7 t.guars.length k7, .slice a8 t.paths.length k8, .slice a9 t.fares.prods.length k9, .int .i64 t.fares.disc, .int .i64 t.fares.within, .int .i64 t.fares.cap] 36)=w2:=⟨_,rfl⟩;have HA:=qA (show w2.heap[w.heap.size]? =some (.cells #[.slice a0 t.stops.length k0, .slice a1 t.routes.length k1, .slice a2 t.cals.length k2, .slice a3 t.excs.length k3, .slice a4 ts.length k4, .slice a5 t.freqs.length k5, .slice a6 t.thrus.length k6, .slice a7 t.guars.length k7, .slice a8 t.paths.length k8, .slice a9 t.fares.prods.length k9, .int .i64 t.fares.disc, .int .i64 t.fares.within, .int .i64 t.fares.cap] 36 (0,0)) by rw[<-hw2];exact heap_alloc_new w _);have B2:=qA (show Bl w w2 by rw[<-hw2];exact qE (qB _) _);have R2:=qA (RA.out.bl B2.out hB);have hB2:B<=w2.heap.size:=Ux hB B2.out.size;obtain⟨p0,p1,p2,p3,p4,p5,p6,p7,p8,p9,p10,p11,p12⟩:=kW HA.out;obtain rfl|rfl|rfl|rfl|rfl|rfl|rfl|rfl|rfl|rfl:p=0∨p=1∨p=2∨p=3∨p=4∨p=5∨p=6∨p=7∨p=8∨p=9:=by omega
 ·
  have hc:=IE _ t.stops r H OK.out.stops B w2 R2.out.stops hB2;go_enter Tryz.func36,Tryz.ntmps36
  go_wp2_with (go_at_call 93;refine hc.mono ?_;rintro e w3 ⟨rfl,b3⟩;have HB3:=qA (qF B2.out b3);clear b3)
  go_ret2;exact⟨rfl,HB3.out⟩
 ·
  have hc:=Dx _ t.routes r H OK.out.routes B w2 R2.out.routes hB2;go_enter Tryz.func36,Tryz.ntmps36
  go_wp2_with (go_at_call 94;refine hc.mono ?_;rintro e w3 ⟨rfl,b3⟩;have HB3:=qA (qF B2.out b3);clear b3)
  go_ret2;exact⟨rfl,HB3.out⟩
 ·
  have hc:=MV _ t.cals r H OK.out.cals B w2 R2.out.cals hB2;go_enter Tryz.func36,Tryz.ntmps36
  go_wp2_with (go_at_call 95;refine hc.mono ?_;rintro e w3 ⟨rfl,b3⟩;have HB3:=qA (qF B2.out b3);clear b3)
  go_ret2;exact⟨rfl,HB3.out⟩
 ·
  have hc:=MX _ t.excs t.cals.length r H B w2 R2.out.excs hB2;go_enter Tryz.func36,Tryz.ntmps36
  go_wp2_with (go_at_call 96;refine hc.mono ?_;rintro e w3 ⟨rfl,b3⟩;have HB3:=qA (qF B2.out b3);clear b3)
  go_ret2;exact⟨rfl,HB3.out⟩
 ·
  have hc:=II _ ts t.stops.length t.routes.length t.cals.length t.trips R2.out.same r H OK.out.trips B w2 R2.out.trips hB2;go_enter Tryz.func36,Tryz.ntmps36
  go_wp2_with (go_at_call 97;refine hc.mono ?_;rintro e w3 ⟨rfl,b3⟩;have HB3:=qA (qF B2.out b3);clear b3)
  go_ret2;exact⟨rfl,HB3.out⟩
 ·
  have HF:Hid (Fq.qZ (t.freqs.map zS) ts=r):=by show _=_;rw[V5,<-R2.out.same];exact H.out
  have hsh:=SH.out (by decide);have hT:Fq.WV B w2 _ ts:=⟨R2.out.trips.sl,fun x hx=>⟨(R2.out.trips.ok x hx).calls,(R2.out.trips.ok x hx).ok,by have:=hsh x hx;omega⟩⟩;clear hsh;have hc:=Fq.aB _ (t.freqs.map zS) _ ts r HF B w2 R2.out.freqs hT hB2;go_enter Tryz.func36,Tryz.ntmps36
  go_wp2_with (go_at_call 98;refine hc.mono ?_;rintro e w3 ⟨rfl,b3⟩;have HB3:=qA (qF B2.out b3);clear b3)
  go_ret2;exact⟨rfl,HB3.out⟩
 ·
  have HF:Hid (qZ 128 (zU (ts.map trpOf) (t.freqs.map zS)) (t.thrus.map ja)=r):=by show _=_;rw[<-Jj,<-R2.out.same];exact H.out
  have hc:=Th.aB _ _ _ (t.thrus.map ja) ts (t.freqs.map zS) r HF B w2 R2.out.thrus R2.out.trips R2.out.freqs hB2;go_enter Tryz.func36,Tryz.ntmps36
  go_wp2_with (go_at_call 99;refine hc.mono ?_;rintro e w3 ⟨rfl,b3⟩;have HB3:=qA (qF B2.out b3);clear b3)
  go_ret2;exact⟨rfl,HB3.out⟩
 ·
  have HF:Hid (qZ 128 (zk (ts.map trpOf) (t.freqs.map zS) t.stops.length) t.guars=r):=by show _=_;rw[<-Jj,<-R2.out.same];exact H.out
  have hc:=Th.Dt _ _ _ t.guars ts (t.freqs.map zS) t.stops.length r HF B w2 R2.out.guars R2.out.trips R2.out.freqs hB2;go_enter Tryz.func36,Tryz.ntmps36
  go_wp2_with (go_at_call 100;refine hc.mono ?_;rintro e w3 ⟨rfl,b3⟩;have HB3:=qA (qF B2.out b3);clear b3)
  go_ret2;exact⟨rfl,HB3.out⟩
 ·
  have hc:=IB _ t.paths t.stops.length r H B w2 R2.out.paths hB2;go_enter Tryz.func36,Tryz.ntmps36
  go_wp2_with (go_at_call 101;refine hc.mono ?_;rintro e w3 ⟨rfl,b3⟩;have HB3:=qA (qF B2.out b3);clear b3)
  go_ret2;exact⟨rfl,HB3.out⟩
 ·
  have hc:=Hu _ t.fares r H OK.out.prods B w2 R2.out.prods hB2;unfold FZ at hc;go_enter Tryz.func36,Tryz.ntmps36
  go_wp2_with (go_at_call 102;refine hc.mono ?_;rintro e w3 ⟨rfl,b3⟩;have HB3:=qA (qF B2.out b3);clear b3)
  go_ret2;exact⟨rfl,HB3.out⟩
theorem IK {ts:List TripD} {t:TtD} (hs:t.trips=ts.map xOf) (h:(zV t 4).2=0): ∀ x∈ts,x.calls.length<=32:=
 WR (stops:=t.stops.length) (routes:=t.routes.length) (cals:=t.cals.length) (by rw[<-hs];exact h)
theorem AL {t:TtD} {n p:Nat} {r:Int×Int} (h:zV t p=r) (h0:r.2≠0):wZ t (n+1) p=((p:Int),r.1,r.2):=by
 unfold wZ;rw[U5 (by rw[h];exact h0),h]
theorem pz {t:TtD} {n p:Nat} {r:Int×Int} (h:zV t p=r) (h0:r.2=0):wZ t (n+1) p=wZ t n (p+1):=by
 rw[wZ,U6 (by rw[h];exact h0)]
theorem RG (V:TtV) (ts:List TripD) (t:TtD) (a b c:Int) (H:Hid (Qj t=(a,b,c))) (ok:ZZ t) (B:Nat) (w:World) (rd:yA B w V ts t) (hB:B<=w.heap.size):
  Calls Tryz.prog 16 #[JP V t] w fun e w'=>e= .returned (.tuple #[.int .i64 a, .int .i64 b, .int .i64 c])/\Bl w w':=by
 have RA:=qA rd;have OK:=qA ok;obtain⟨v0,v1,v2,v3,v4,v5,v6,v7,v8,v9⟩:=V;obtain⟨a0,k0,(rfl:v0=_),-,-⟩:=rd.stops.val;obtain⟨a1,k1,(rfl:v1=_),-,-⟩:=rd.routes.val;obtain⟨a2,k2,(rfl:v2=_),-,-⟩:=rd.cals.val;obtain⟨a3,k3,(rfl:v3=_),-,-⟩:=rd.excs.val;obtain⟨a4,k4,(rfl:v4=_),-,-⟩:=rd.trips.sl.val;obtain⟨a5,k5,(rfl:v5=_),-,-⟩:=rd.freqs.val;obtain⟨a6,k6,(rfl:v6=_),-,-⟩:=rd.thrus.val;obtain⟨a7,k7,(rfl:v7=_),-,-⟩:=rd.guars.val;obtain⟨a8,k8,(rfl:v8=_),-,-⟩:=rd.paths.val;obtain⟨a9,k9,(rfl:v9=_),-,-⟩:=rd.prods.val;clear rd ok;have hpc: ∀ (p:Nat) (hp:p<10) (r:Int×Int) (H:Hid (zV t p=r)) (SH:Hid (4<p-> ∀ x∈ts,x.calls.length<=32)) (w':World) (hb:Bl w w'),Calls Tryz.prog 36 #[.agg #[.slice a0 t.stops.length k0, .slice a1 t.routes.length k1, .slice a2 t.cals.length k2, .slice a3 t.excs.length k3, .slice a4 ts.length k4, .slice a5 t.freqs.length k5, .slice a6 t.thrus.length k6, .slice a7 t.guars.length k7, .slice a8 t.paths.length k8, .slice a9 t.fares.prods.length k9, .int .i64 t.fares.disc, .int .i64 t.fares.within, .int .i64 t.fares.cap], .int .i64 p] w' fun e w2=>e= .returned (.tuple #[.int .i64 r.1, .int .i64 r.2])/\Bl w' w2:=fun p hp r H SH w' hb=>by
  have h:=Me ⟨.slice a0 t.stops.length k0, .slice a1 t.routes.length k1, .slice a2 t.cals.length k2, .slice a3 t.excs.length k3, .slice a4 ts.length k4, .slice a5 t.freqs.length k5, .slice a6 t.thrus.length k6, .slice a7 t.guars.length k7, .slice a8 t.paths.length k8, .slice a9 t.fares.prods.length k9⟩ ts t p hp r H OK.out SH B w' (by have:=RA.out.bl hb hB;simpa only[U4]using this) (Ux hB hb.size);unfold JP at h;exact h
 unfold JP;simp only[U4]at RA ⊢;obtain⟨w2,hw2⟩: ∃ w2,w.alloc (.cells #[.slice a0 t.stops.length k0, .slice a1 t.routes.length k1, .slice a2 t.cals.length k2, .slice a3 t.excs.length k3, .slice a4 ts.length k4, .slice a5 t.freqs.length k5, .slice a6 t.thrus.length k6, .slice a7 t.guars.length k7, .slice a8 t.paths.length k8, .slice a9 t.fares.prods.length k9, .int .i64 t.fares.disc, .int .i64 t.fares.within, .int .i64 t.fares.cap] 36)=w2:=⟨_,rfl⟩;have HA:=qA (show w2.heap[w.heap.size]? =some (.cells #[.slice a0 t.stops.length k0, .slice a1 t.routes.length k1, .slice a2 t.cals.length k2, .slice a3 t.excs.length k3, .slice a4 ts.length k4, .slice a5 t.freqs.length k5, .slice a6 t.thrus.length k6, .slice a7 t.guars.length k7, .slice a8 t.paths.length k8, .slice a9 t.fares.prods.length k9, .int .i64 t.fares.disc, .int .i64 t.fares.within, .int .i64 t.fares.cap] 36 (0,0)) by rw[<-hw2];exact heap_alloc_new w _);have B2:=qA (show Bl w w2 by rw[<-hw2];exact qE (qB _) _);go_enter Tryz.func16,Tryz.ntmps16
 go_wp2_with fail;clear hw2;go_loopw [5] (fun i wr=> ∃ k:Nat,(k<=10/\i= .int .i64 k)/\Hid (wZ t (10-k) k=(a,b,c))/\Hid (4<k-> ∀ x∈ts,x.calls.length<=32)/\Hid (Bl w2 wr)) (fun i _=>10-(intOf i).toNat)
 case atStart=>exact⟨0,⟨by omega,rfl⟩,H,fun h=>absurd h (by decide),qB _⟩
 case round=>
  obtain⟨k,⟨hk,rfl⟩,HC,SH,HBL⟩:=hrel;by_cases hlt:k<10
  rotate_left
  ·
   obtain rfl:k=10:=by omega
   have HE:Hid ((0,0,0)=(a,b,c)):=HC.out;have h3:=HE.out;simp only[qAF]at h3;obtain⟨rfl,rfl,rfl⟩:=h3;go_wp2;go_ret3
   exact⟨rfl,qF B2.out HBL.out⟩
  obtain⟨p0,p1,p2,p3,p4,p5,p6,p7,p8,p9,p10,p11,p12⟩:=kW (qX HA.out HBL.out);obtain⟨r,hr⟩: ∃ r,zV t k=r:=⟨_,rfl⟩;have HR:=qA hr;obtain⟨r1,r2⟩:=r;have hkI:(k:Int)<10:=by omega
  have h1:=hpc k hlt (r1,r2) HR SH wr (qF B2.out HBL.out);clear hr;obtain⟨n,hn⟩: ∃ n,10-k=n+1:=⟨9-k,by omega⟩;have HN:=qA hn;clear hn;go_wp2_with (go_at_call 36;refine h1.mono ?_;rintro e' w3 ⟨rfl,b3⟩;have B3:=qA (qF HBL.out b3);clear b3;by_cases h0:r2=0;have q:(r2 != 0)=false:=(by rw[h0];rfl);rotate_left;have q:(r2 != 0)=true:=(by rw[bne_iff_ne];exact h0))
  ·
   have HE:=HC.out;rw[HN.out,AL HR.out h0]at HE;simp only[qAF]at HE;obtain⟨rfl,rfl,rfl⟩:=HE;go_ret3
   exact⟨rfl,qF B2.out B3.out⟩
  ·
   refine⟨⟨k+1,⟨by omega,by go_num⟩, ?_,fun h=>?_,B3.out⟩,by simp[intOf];omega⟩
   ·
    have HE:=HC.out;rw[HN.out,pz HR.out h0]at HE;rw[show 10-(k+1)=n by have:=HN.out;omega];exact HE
   ·
    by_cases h4:4<k
    · exact SH.out h4
    ·
     obtain rfl:k=4:=by omega
     exact IK RA.out.same (by rw[HR.out];exact h0)
end Go.Proofs.YtakedkcjplfgeaaGreatDoor
