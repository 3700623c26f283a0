/- Contracts, proved. Conditions: theirs. -/
import Derived.Test.YtakedkcjplfgeaaGreatDoorMPkThB
import Derived.Test.YtakedkcjplfgeaaGreatDoorMXA
set_option maxRecDepth 1000000
set_option maxHeartbeats 32000000
open Go.Proofs.Tryz
namespace Go.Proofs.YtakedkcjplfgeaaGreatDoor.Th
open Go.RowKit
open Frq Thr
theorem GK (n lim:Int) (r:Bool) (H:Hid (Yi n lim=r)) (w:World):Calls prog 230 #[n,lim] w λe w'=>e=.returned (r:Z)/\w=w':=by
 by_cases h0:0<=n
 ·
  by_cases h1:n<lim
  ·
   obtain rfl:r=true:=by rw[<-H.o];unfold Yi;simp[h0,h1]
   clear H;go_enter func230,ntmps230
   go_wp2;go_ret;exact⟨rfl,rfl⟩
  obtain rfl:r=false:=by rw[<-H.o];unfold Yi;simp[h1]
  clear H;have h1':decide (n<lim)=false:=by rw[decide_eq_false_iff_not];exact h1
  clear h1;go_enter func230,ntmps230
  go_wp2;go_ret;exact⟨rfl,rfl⟩
 obtain rfl:r=false:=by rw[<-H.o];unfold Yi;simp[h0]
 clear H;have h0':n<0:=ω
 clear h0;go_enter func230,ntmps230
 go_wp2;go_ret;exact⟨rfl,rfl⟩
theorem Nh (v:Value) (xs:List Int) (n:Int) (r:Bool) (H:Hid (xs.contains n=r)) (B:Nat) (w:World) (ha:Wy B w v xs) (hB:B<=w.heap.size):
  Calls prog 232 #[v,n] w λe w'=>e=.returned (r:Z)/\w=w':=by
 obtain⟨a,cap,rfl,hl1,hl2⟩:=ha.val;have HA:=qA ha;clear ha;go_enter func232,ntmps232
 go_wp2;go_loop [5] (λi=> ∃ k:Nat,k<=xs.length/\i=k/\Hid ((xs.take k).contains n=false)) (λi=>xs.length-(intOf i).toNat)
 case atStart=>exact⟨0,qAD _,rfl,rfl⟩
 obtain⟨k,hk,rfl,HN⟩:=hrel;by_cases hlt:k<xs.length
 ·
  obtain⟨b,o,x,rfl,hbs,hx,hc⟩:=HA.o.get hlt (qB _) hB;have c0:w.cell? (b,o+k)=some (x:Z):=by have:=hc 0 _ rfl;simpa using this
  have hkI:(k:Int)<(xs.length:Int):=ω
  have HX:=qA hx;clear hx hc;by_cases he:x=n
  ·
   have HR:=qA (show r=true by rw[<-H.o];exact Vz (he ▸ HX.o));have q:(x==n)=true:=by rw[beq_iff_eq];exact he
   clear he;go_wp2;go_ret;exact⟨qO HR.o.symm,rfl⟩
  have q:(x==n)=false:=by rw[U0];exact he
  have HN':=qA ((YS HX.o HN.o).trans q);clear he;go_wp2;go_round;case rel=>exact⟨k+1,ω,by go_num,HN'⟩
  simp[intOf];omega
 have HR:=qA (show r=false by
  have:=HN.o;rw[U9 ω]at this;rw[<-H.o];exact this)
 go_wp2;go_ret;exact⟨qO HR.o.symm,rfl⟩
theorem iJ (v:Value) (fs:List FreqD) (t:Int) (r:Bool) (H:Hid (vM fs t=r)) (B:Nat) (w:World) (ha:xG B w v fs) (hB:B<=w.heap.size):
  Calls prog 231 #[v,t] w λe w'=>e=.returned (r:Z)/\w=w':=by
 obtain⟨a,cap,rfl,hl1,hl2⟩:=ha.val;have HA:=qA ha;clear ha;go_enter func231,ntmps231
 go_wp2;go_loop [5] (λi=> ∃ k:Nat,k<=fs.length/\i=k/\Hid ((fs.take k).any (λf=>f.trip==t)=false)) (λi=>fs.length-(intOf i).toNat)
 case atStart=>exact⟨0,qAD _,rfl,rfl⟩
 obtain⟨k,hk,rfl,HN⟩:=hrel;by_cases hlt:k<fs.length
 ·
  obtain⟨b,o,x,rfl,hbs,hx,hc⟩:=HA.o.get hlt (qB _) hB;have d10:w.cell? (b,o+k*4)=some (x.trip:Z):=hc 0 _ rfl;have HX:=qA hx;clear hx hc;by_cases he:x.trip=t
  ·
   have HR:=qA (show r=true by rw[<-H.o];exact Zb HX.o (by simp[he]));have q:(x.trip==t)=true:=by rw[beq_iff_eq];exact he
   clear he;go_wp2;go_ret;exact⟨qO HR.o.symm,rfl⟩
  have q:(x.trip==t)=false:=by rw[U0];exact he
  have HN':=qA ((Yq (p:=λf:FreqD=>f.trip==t) HX.o HN.o).trans q);clear he;go_wp2;go_round;case rel=>exact⟨k+1,ω,by go_num,HN'⟩
  simp[intOf];omega
 have HR:=qA (show r=false by
  have:=HN.o;rw[U9 ω]at this;rw[<-H.o];exact this)
 go_wp2;go_ret;exact⟨qO HR.o.symm,rfl⟩
theorem Md (v:Value) (l:List ThrD) (t:Int) (B:Nat) (w:World) (ha:Vu B w v l) (hB:B<=w.heap.size):
  Calls prog 269 #[v,t] w λe w'=>e=.returned (.tuple #[(eG l t),.bool (dw l t)])/\w=w':=by
 obtain⟨a,cap,rfl,hl1,hl2⟩:=ha.val;have HA:=qA ha;clear ha;go_enter func269,ntmps269
 go_wp2;go_loop [6] (λi=> ∃ k:Nat,k<=l.length/\i=k/\Hid (xh (l.take k) t=none)) (λi=>l.length-(intOf i).toNat)
 case atStart=>exact⟨0,qAD _,rfl,rfl⟩
 obtain⟨k,hk,rfl,HN⟩:=hrel;by_cases hlt:k<l.length
 ·
  obtain⟨b,o,x,rfl,hbs,hx,hc⟩:=HA.o.get hlt (qB _) hB;have d10:w.cell? (b,o+k*2)=some (x.frm:Z):=hc 0 _ rfl;have d11:=hc 1 _ rfl;have HX:=qA hx;clear hx hc;by_cases he:x.frm=t
  ·
   have q:(x.frm==t)=true:=by rw[beq_iff_eq];exact he
   have HR:=qA (YE (Wh HX.o HN.o q));clear he;go_wp2;go_ret2;exact⟨Yc HR.o.1.symm HR.o.2.symm,rfl⟩
  have q:(x.frm==t)=false:=by rw[U0];exact he
  have HN':=qA (dL HX.o HN.o q);clear he;go_wp2;go_round;case rel=>exact⟨k+1,ω,by go_num,HN'⟩
  simp[intOf];omega
 have HR:=qA (YD (l:=l) (t:=t) (by
  have:=HN.o;rw[U9 ω]at this;exact this))
 go_wp2;go_ret2;exact⟨Yc HR.o.1.symm HR.o.2.symm,rfl⟩
end Go.Proofs.YtakedkcjplfgeaaGreatDoor.Th
namespace Go.Proofs.YtakedkcjplfgeaaGreatDoor.Th
open Go.RowKit
open Go.Maps (Keyed)
open Frq Thr
theorem Ho (v:Value) (l:List ThrD) (trip:Int) (hlen:l.length<=1000) (B:Nat) (w:World) (ha:Vu B w v l) (hB:B<=w.heap.size):
  Calls prog 233 #[v,trip] w λe w'=> ∃ v',e=.returned v'/\Wy w'.heap.size w' v' (QC l trip)/\Bl w w':=by
 obtain⟨i0,hi,hz0,hz1,hz2⟩:=info_parts yD;obtain⟨a,cap,rfl,hl1,hl2⟩:=ha.val;have HA:=qA ha;have hown0:(w.alloc (.cells #[trip] 3)).ownsRow w.heap.size 3 1 ((w.heap.size,0,1,1):Z) 1 [trip]:=
  World.ownsRow_lit w #[trip] 1 (U3 _) ζ rfl
 have HOWN:=qA hown0;have HB1:Hid (Bl w (w.alloc (.cells #[trip] 3))):=qE (qB _) _;clear ha hown0;go_enter func233,ntmps233
 go_wp2_with fail;go_loopw [5,12] (λvo i wr=> ∃ (out:List Int) (k:Nat),(i=k/\k<=l.length/\out.length=k+1)/\wr.ownsRow w.heap.size 3 1 vo out.length (out.flatMap qi)/\Hid (xN l trip out/\Zx l (l.length-k) out=QC l trip)/\Bl w wr) (λ_ i _=>l.length-(intOf i).toNat)
 case atStart=>exact⟨[trip],0,⟨rfl,qAD _,rfl⟩,HOWN.o,⟨YY l trip,rfl⟩,HB1.o⟩
 obtain⟨out,k,⟨rfl,hk,hl⟩,hown,HM,hbl⟩:=hrel;have HOWN':=qA hown;have HL:=qA hl;have z1:=hbl.size;obtain⟨g,capo,rfl,hc1,hc2,hg1,hg2,-,hcell⟩:=ng hown hl;clear hown hl;by_cases hlt:k<l.length
 ·
  go_wp2_with fail;refine(Md _ l (Jr out) B wr (HA.o.o hbl hB) ω).mono ?_;rintro e w3 ⟨rfl,rfl⟩;obtain⟨o,ho⟩:=ε (xh l (Jr out));cases o with
  |none=>
   have HR:=qA (YD ho);have HC:=qA (aT ho);rw[HR.o.1,HR.o.2];clear ho;go_wp2;go_ret;refine⟨_,rfl, ?_,hbl⟩;have:=HM.o.2;rw[Qb HC.o]at this;rw[<-this];exact zq (cells:=qi) kY HOWN'.o
  |some x=>
   have HR:=qA (YE ho);have HO:=qA ho;rw[HR.o.1,HR.o.2];clear ho;obtain⟨c,hcon⟩:=ε (out.contains x.to);have HCON:=qA hcon;clear hcon;go_wp2_with fail;refine(Nh _ out x.to c HCON _ _ (zq (cells:=qi) kY HOWN'.o) (U3 _)).mono ?_;rintro e w4 ⟨rfl,rfl⟩;cases c with
   |true=>
    have HC:=qA (aU HO.o HCON.o);go_wp2;go_ret;refine⟨_,rfl, ?_,hbl⟩;have:=HM.o.2;rw[Qb HC.o]at this;rw[<-this];exact zq (cells:=qi) kY HOWN'.o
   |false=>
    have HC:=qA (pU HO.o HCON.o);go_wp2_with (at_builtin;refine wpList_append_own _ rfl _ _ 73 rfl w.heap.size 3 i0 (.int .i64 0) 1 8 underlying73 hi hz0 hz1 hz2 rfl δ _ _ _ rfl (HOWN'.o.alloc _) (wr.heap.size,0) 1 1 [x.to] rfl rfl ?c1 ?c2 ?c3 ?c4 ?c5 ?_)
    case c1=>exact Kt _ _ σ (λj u h=>η)
    case c2=>simp[Value.oneCell']
    case c3=>have:=HL.o;unfold maxLen;omega
    case c4=>have:=HL.o;omega
    case c5=>simp;omega
    intro v' w5 hown' hgrow _;have hb5:Bl w w5:=(qE hbl _).grown hgrow τ (λk hk=>(qAG HOWN'.o k hk).1);have HOWN5:=qA hown';clear hown' hgrow;go_wp2;go_roundw;case rel=>
     have hl:=HL.o;refine⟨out++[x.to],k+1,⟨by go_num,ω,by rw[U1,List.length_singleton];omega⟩, ?_,⟨HM.o.1.step HC.o, ?_⟩,hb5⟩
     ·
      have:=HOWN5.o;rw[U1,List.length_singleton,Ky];exact this
     have:=HM.o.2;rw[show l.length-k=l.length-(k+1)+1 by omega,VZ HC.o]at this;exact this
    simp[intOf];omega
 go_wp2;go_ret;refine⟨_,rfl, ?_,hbl⟩;have:=HM.o.2;rw[show l.length-k=0 by omega]at this;rw[<-this];exact zq (cells:=qi) kY HOWN'.o
end Go.Proofs.YtakedkcjplfgeaaGreatDoor.Th
namespace Go.Proofs.YtakedkcjplfgeaaGreatDoor.Th
open Go.RowKit
open Frq Thr
theorem QL.next' {p:Nat->CallD->Bool} {l:List CallD} {k:Nat} (h:QL p l k) (hp: ∀ x,p k x=false):QL p l (k+1):=λi y hi hy=>by
 by_cases e:i<k
 · exact h i y e hy
 obtain rfl:i=k:=ω
 exact hp y
theorem Hy (va vb:Value) (a b:List CallD) (stop:Int) (i0 k0:Int) (r0:Bool) (H:Hid (vI a b stop=(i0,k0,r0))) (B:Nat) (w:World) (ha:CallsIn B w va a) (hb:CallsIn B w vb b) (hB:B<=w.heap.size):
  Calls prog 234 #[va,vb,stop] w λe w'=>e=.returned (.tuple #[i0,k0,r0])/\Bl w w':=by
 obtain⟨aa,capa,rfl,la1,la2⟩:=ha.val;obtain⟨ab,capb,rfl,lb1,lb2⟩:=hb.val;have HA:=qA ha;have HB:=qA hb;clear ha hb;go_enter func234,ntmps234
 go_wp2_with fail;go_loopw [9] (λi wr=> ∃ k:Nat,(1<=k/\k<=a.length+1)/\i=k/\Hid (QL (xH stop) a k)/\w=wr) (λi _=>a.length+1-(intOf i).toNat)
 case atStart=>exact⟨1,ω,rfl,(VE (xH stop) a).next' (by intro x;exact XB ω),rfl⟩
 obtain⟨i,⟨hi1,hi2⟩,rfl,HN,rfl⟩:=hrel;by_cases hlt:i<a.length
 ·
  obtain⟨ba,oa,x,rfl,hba,hx,hca⟩:=HA.o.get hlt (qB _) hB;have d0:w.cell? (ba,oa+i*5)=some (x.stop:Z):=hca 0 _ rfl;have d1:=hca 1 _ rfl;have d4:=hca 4 _ rfl;have iI:(i:Int)<(a.length:Int):=ω
  have HX:=qA hx;clear hx hca;by_cases h1:x.stop=stop
  ·
   have q1:(x.stop != stop)=false:=by rw[h1];simp
   cases h2:x.alight with
   |false=>
    rw[h2]at d4;have HN':=qA (HN.o.next HX.o (XD h2));clear h1 h2;go_wp2;go_roundw;case rel=>exact⟨i+1,ω,by go_num,HN',trivial⟩
    simp[intOf];omega
   |true=>
    rw[h2]at d4;have HOA:=qA (show QA a stop=some i from Ja HN.o HX.o (XE ω h1 h2));clear h1 h2;go_wp2_with fail;go_loopw [10] (λj wr=> ∃ k:Nat,(k<=b.length-1)/\j=k/\Hid (QL (ZI b.length stop) b k)/\w=wr) (λj _=>b.length-(intOf j).toNat)
    case atStart=>exact⟨0,qAD _,rfl,VE _ _,rfl⟩
    obtain⟨k,hk,rfl,HM,rfl⟩:=hrel;by_cases hkl:k+1<b.length
    ·
     obtain⟨bb,ob,y,rfl,hbb,hy,hcb⟩:=HB.o.get (k:=k) ω (qB _) hB;have e0:w.cell? (bb,ob+k*5)=some (y.stop:Z):=hcb 0 _ rfl;have e2:=hcb 2 _ rfl;have e3:=hcb 3 _ rfl;have kI:(k:Int)<(b.length:Int):=ω
     have kI1:(k:Int)+1<(b.length:Int):=ω
     have HY:=qA hy;clear hy hcb;by_cases h3:y.stop=stop
     ·
      have q3:(y.stop==stop)=true:=by rw[h3];simp
      cases h4:y.board with
      |false=>
       rw[h4]at e3;have HM':=qA (HM.o.next HY.o (bZ h4));clear h3 h4;go_wp2;go_roundw;case rel=>exact⟨k+1,ω,by go_num,HM',trivial⟩
       simp[intOf];omega
      |true=>
       rw[h4]at e3;have HOB:=qA (show JW b stop=some k from Ja HM.o HY.o (bi hkl h3 h4));clear h3 h4;by_cases h5:y.depart<x.arrive
       ·
        have HR:=qA (dZ HOA.o HOB.o HX.o HY.o h5);have q5:decide (y.depart<x.arrive)=true:=decide_eq_true h5;clear h5;go_wp2_with fail;go_quiet (fail)
        go_wp2;go_ret3
        exact⟨Zq HR.o H.o,qM (qB _) _⟩
       have HR:=qA (Xp HOA.o HOB.o HX.o HY.o ω);have q5:decide (y.depart<x.arrive)=false:=decide_eq_false h5;clear h5;go_wp2_with fail;go_quiet (fail)
       go_wp2;go_ret3
       exact⟨Zq HR.o H.o,qM (qB _) _⟩
     have q3:(y.stop==stop)=false:=by rw[U0];exact h3
     have HM':=qA (HM.o.next HY.o (bY h3));clear h3;go_wp2;go_roundw;case rel=>exact⟨k+1,ω,by go_num,HM',trivial⟩
     simp[intOf];omega
    have HR:=qA (nP (a:=a) (b:=b) (stop:=stop) (XX λj y hy=>by
     by_cases hj:j<k
     · exact HM.o j y hj hy
     exact bW ω))
    go_wp2;go_ret3
    exact⟨Zq HR.o H.o,qB _⟩
  have q1:(x.stop != stop)=true:=by simpa using h1
  have HN':=qA (HN.o.next HX.o (XC h1));clear h1;go_wp2;go_roundw;case rel=>exact⟨i+1,ω,by go_num,HN',trivial⟩
  simp[intOf];omega
 have HR:=qA (nO (b:=b) (show QA a stop=none from HN.o.all ω));go_wp2;go_ret3
 exact⟨Zq HR.o H.o,qB _⟩
def PS (w:World) (b:Nat) (t:TripD) (v:Value):Prop:=w.cell? (b,0)=some (.string t.id)/\w.cell? (b,1)=some (t.rt:Z)/\w.cell? (b,2)=some (t.cal:Z)/\w.cell? (b,3)=some (t.step:Z)/\w.cell? (b,4)=some v
def Ee (w:World) (t u:TripD) (vt vu s s':Value) (wx:World):Prop:= ∃ b1 b2:Nat,s=((b1,0):Z)/\s'=((b2,0):Z)/\(b1<wx.heap.size/\b2<wx.heap.size)/\PS wx b1 t vt/\PS wx b2 u vu/\Bl w wx
theorem Bh (w:World) (t:TripD) (v:Value) (T:TypeId):PS (w.alloc (.cells #[t.id,t.rt,t.cal,t.step,v] T)) w.heap.size t v:=by
 refine⟨?_, ?_, ?_, ?_, ?_⟩<;>(rw[Uy (hn:=rfl)];rfl)
theorem PS.bl {w w':World} {b:Nat} {t:TripD} {v:Value} (h:PS w b t v) (hlt:b<w.heap.size) (hb:Bl w w'):PS w' b t v:=by
 obtain⟨h0,h1,h2,h3,h4⟩:=h;exact⟨((qG hb).1 _ _ hlt).trans h0,((qG hb).1 _ _ hlt).trans h1,((qG hb).1 _ _ hlt).trans h2,((qG hb).1 _ _ hlt).trans h3,((qG hb).1 _ _ hlt).trans h4⟩
theorem IZ (w:World) (t u:TripD) (vt vu:Value) (T:TypeId):Ee w t u vt vu ((w.heap.size,0):Z) ((w.heap.size+1,0):Z) (((w.alloc (.cells #[t.id,t.rt,t.cal,t.step,vt] T)).alloc (.cells #[u.id,u.rt,u.cal,u.step,vu] T)).drew):=by
 refine⟨_,_,rfl,rfl,⟨τ,σ⟩, ?_, ?_,qH (qE (qE (qB _) _) _)⟩
 · exact(Bh w t vt T).bl σ (qH (qE (qB _) _))
 have:=Bh (w.alloc (.cells #[t.id,t.rt,t.cal,t.step,vt] T)) u vu T;rw[show(w.alloc (.cells #[t.id,t.rt,t.cal,t.step,vt] T)).heap.size=w.heap.size+1 by simp]at this;exact this.bl σ (qH (qB _))
theorem Ee.swap {w:World} {t u:TripD} {vt vu s s':Value} {wx:World} (h:Ee w t u vt vu s s' wx):Ee w u t vu vt s' s wx:=by
 obtain⟨b1,b2,h1,h2,⟨h3,h4⟩,h5,h6,h7⟩:=h;exact⟨b2,b1,h2,h1,⟨h4,h3⟩,h6,h5,h7⟩
theorem P9 (vl vt vf:Value) (l:List ThrD) (ts:List TripD) (fs:List FreqD) (k:Nat) (x:ThrD) (hx:l[k]? =some x) (r:Int) (H:Hid (zU (ts.map trpOf) fs (l.take k) x=r)) (hfew:l.length<=128) (B:Nat) (w:World) (hl:Vu B w vl l) (ht:vP B w vt ts) (hf:xG B w vf fs) (hB:B<=w.heap.size):
  Calls prog 173 #[vl,k,vt,vf] w λe w'=>e=.returned (r:Z)/\Bl w w':=by
 obtain⟨al,capl,rfl,ll1,ll2⟩:=hl.val;obtain⟨at',capt,rfl,lt1,lt2⟩:=ht.sl.val;obtain⟨af,capf,rfl,lf1,lf2⟩:=hf.val;have HL:=qA hl;have HT:=qA ht;have HF:=qA hf;have hlt:k<l.length:=(Uw.1 hx).1;obtain⟨bl',ol,x',rfl,hbs,hx',hc⟩:=hl.get hlt (qB w) hB;obtain rfl:x=x':=by rw[hx]at hx';exact qAB hx'
 have d0:w.cell? (bl',ol+k*2)=some (x.frm:Z):=hc 0 _ rfl;have d1:=hc 1 _ rfl;have hkI:(k:Int)<(l.length:Int):=ω
 have HX:=qA hx;clear hx hx' hc hl ht hf;obtain⟨w1,hw1⟩:=ε (w.alloc (.cells #[x.frm,x.to] 128));have b1:Bl w w1:=by rw[<-hw1];exact qE (qB _) _
 have t0:w1.cell? (w.heap.size,0)=some (x.frm:Z):=by rw[<-hw1,Uy (hn:=rfl)];rfl
 have t1:w1.cell? (w.heap.size,1)=some (x.to:Z):=by rw[<-hw1,Uy (hn:=rfl)];rfl
 have s1:w1.heap.size=w.heap.size+1:=by rw[<-hw1];simp
 have B1:=qA b1;have S1:=qA s1;obtain⟨e1,he1⟩:=ε (Yi x.frm ts.length);obtain⟨e2,he2⟩:=ε (Yi x.to ts.length);obtain⟨p,hp⟩:=ε (yZ (ts.map trpOf).length x.frm x.to);have HPE:Hid (p=(e1&&(e2&& !(x.frm==x.to)))):=by
  show _=_
  rw[<-hp,U4];unfold yZ;rw[he1,he2]
 have HP:=qA hp;have E1:=qA he1;have E2:=qA he2;clear b1 s1 hp he1 he2;go_enter func173,ntmps173
 go_wp2_with fail;clear hw1;refine(GK x.frm ts.length e1 E1 w1).mono ?_;rintro e w2 ⟨rfl,rfl⟩;cases e1 with
 |false=>
  have HN:=qA (show p=false by rw[HPE.o];rfl);have HE:=qA (Bj (ts:=ts.map trpOf) (fs:=fs) (pre:=l.take k) (HP.o.trans HN.o));go_wp2;go_ret;exact⟨qR (HE.o.symm.trans H.o),B1.o⟩
 |true=>
 go_wp2_with fail;refine(GK x.to ts.length e2 E2 w1).mono ?_;rintro e w2 ⟨rfl,rfl⟩;cases e2 with
 |false=>
  have HN:=qA (show p=false by rw[HPE.o];rfl);have HE:=qA (Bj (ts:=ts.map trpOf) (fs:=fs) (pre:=l.take k) (HP.o.trans HN.o));go_wp2;go_ret;exact⟨qR (HE.o.symm.trans H.o),B1.o⟩
 |true=>
 by_cases hft:x.frm=x.to
 ·
  have qe:(x.frm==x.to)=true:=by rw[beq_iff_eq];exact hft
  have HN:=qA (show p=false by rw[HPE.o,qe];rfl);have HE:=qA (Bj (ts:=ts.map trpOf) (fs:=fs) (pre:=l.take k) (HP.o.trans HN.o));clear hft;go_wp2;go_ret;exact⟨qR (HE.o.symm.trans H.o),B1.o⟩
 have qe:(x.frm==x.to)=false:=by rw[U0];exact hft
 have HPT:Hid (yZ (ts.map trpOf).length x.frm x.to=true):=HP.o.trans (by rw[HPE.o,qe];rfl);clear hft HPE HP;obtain⟨r1,hr1⟩:=ε (vM fs x.frm);obtain⟨r2,hr2⟩:=ε (vM fs x.to);have R1:=qA hr1;have R2:=qA hr2;clear hr1 hr2;have z1:w.heap.size<=w1.heap.size:=by have:=S1.o;omega
 go_wp2_with fail;refine(iJ _ fs x.frm r1 R1 B w1 (HF.o.o B1.o hB) ω).mono ?_;rintro e w2 ⟨rfl,rfl⟩;cases r1 with
 |true=>
  have HE:=qA (AB (ts:=ts.map trpOf) (fs:=fs) (pre:=l.take k) HPT.o (by rw[R1.o];rfl));go_wp2;go_ret;exact⟨qR (HE.o.symm.trans H.o),B1.o⟩
 |false=>
 go_wp2_with fail;refine(iJ _ fs x.to r2 R2 B w1 (HF.o.o B1.o hB) ω).mono ?_;rintro e w2 ⟨rfl,rfl⟩;have HQ:Hid ((vM fs x.frm||vM fs x.to)=r2):=by show _=_;rw[R1.o,R2.o];rfl
 cases r2 with
 |true=>
  have HE:=qA (AB (ts:=ts.map trpOf) (fs:=fs) (pre:=l.take k) HPT.o HQ.o);go_wp2;go_ret;exact⟨qR (HE.o.symm.trans H.o),B1.o⟩
 |false=>
 obtain⟨⟨f1,f2⟩,⟨f3,f4⟩⟩:=JK HPT.o;rw[U4]at f2 f4;obtain⟨i1,hi1⟩: ∃ i1:Nat,x.frm=i1:=⟨x.frm.toNat,ω⟩;obtain⟨i2,hi2⟩: ∃ i2:Nat,x.to=i2:=⟨x.to.toNat,ω⟩;have n1:i1<ts.length:=ω
 have n2:i2<ts.length:=ω
 obtain⟨bt,ot,t,rfl,hbt,ht,htc⟩:=HT.o.sl.get n1 B1.o hB;obtain⟨bt',ot',u,hat,hbu,hu,huc⟩:=HT.o.sl.get n2 B1.o hB;simp only[qAA,Addr.mk.injEq]at hat;obtain⟨rfl,rfl,-⟩:=hat;have HFT:=qA (show Zc (ts.map trpOf) x.frm=trpOf t from J3 (by rw[hi1];exact ht));have HFU:=qA (show Zc (ts.map trpOf) x.to=trpOf u from J3 (by rw[hi2];exact hu));have HTR:=qA ((HT.o.ok t (Uz ht)).bl B1.o hB);have HUR:=qA ((HT.o.ok u (Uz hu)).bl B1.o hB);have hi1I:(i1:Int)<(ts.length:Int):=ω
 have hi2I:(i2:Int)<(ts.length:Int):=ω
 rw[hi1]at t0;rw[hi2]at t1;have HI1:=qA hi1;have HI2:=qA hi2;have a0:w1.cell? (bt,ot+i1*5)=some (.string t.id):=htc 0 _ rfl;have a1:=htc 1 _ rfl;have a2:=htc 2 _ rfl;have a3:=htc 3 _ rfl;obtain⟨av,capv,hvt,lv1,lv2⟩:=HTR.o.calls.val;obtain⟨au,capu,hvu,lu1,lu2⟩:=HUR.o.calls.val;have HVT:=qA hvt;have HVU:=qA hvu;have a4:w1.cell? (bt,ot+i1*5+4)=some (.slice av t.calls.length capv):=by rw[<-hvt];exact htc 4 _ rfl
 have u0:w1.cell? (bt,ot+i2*5)=some (.string u.id):=huc 0 _ rfl;have u1:=huc 1 _ rfl;have u2:=huc 2 _ rfl;have u3:=huc 3 _ rfl;have u4:w1.cell? (bt,ot+i2*5+4)=some (.slice au u.calls.length capu):=by rw[<-hvu];exact huc 4 _ rfl
 have htw:w.heap.size<w1.heap.size:=by have:=S1.o;omega
 clear ht hu htc huc f1 f2 f3 f4 hi1 hi2 qe hvt hvu;have hold: ∀ w':World,Bl w1 w'->w'.cell? (w.heap.size,0)=some (i1:Z)/\w'.cell? (w.heap.size,1)=some (i2:Z)/\w'.cell? (bt,ot+i1*5)=some (.string t.id)/\w'.cell? (bt,ot+i1*5+1)=some (t.rt:Z)/\w'.cell? (bt,ot+i1*5+2)=some (t.cal:Z)/\w'.cell? (bt,ot+i1*5+3)=some (t.step:Z)/\w'.cell? (bt,ot+i1*5+4)=some (.slice av t.calls.length capv)/\w'.cell? (bt,ot+i2*5)=some (.string u.id)/\w'.cell? (bt,ot+i2*5+1)=some (u.rt:Z)/\w'.cell? (bt,ot+i2*5+2)=some (u.cal:Z)/\w'.cell? (bt,ot+i2*5+3)=some (u.step:Z)/\w'.cell? (bt,ot+i2*5+4)=some (.slice au u.calls.length capu):=λw' hb=>⟨((qG hb).1 _ _ htw).trans t0,((qG hb).1 _ _ htw).trans t1,((qG hb).1 _ _ hbt).trans a0,((qG hb).1 _ _ hbt).trans a1,((qG hb).1 _ _ hbt).trans a2,((qG hb).1 _ _ hbt).trans a3,((qG hb).1 _ _ hbt).trans a4,((qG hb).1 _ _ hbt).trans u0,((qG hb).1 _ _ hbt).trans u1,((qG hb).1 _ _ hbt).trans u2,((qG hb).1 _ _ hbt).trans u3,((qG hb).1 _ _ hbt).trans u4⟩
 go_upto_region 6 with fail
 go_cut [10,11] (λs s' wx=>Ee w1 t u (.slice av t.calls.length capv) (.slice au u.calls.length capu) s s' wx)
 case first=>
  go_region_held3 (λw'=>w'.cell? (w.heap.size,0)=some (i1:Z)/\w'.cell? (w.heap.size,1)=some (i2:Z)/\w'.cell? (bt,ot+i1*5)=some (.string t.id)/\w'.cell? (bt,ot+i1*5+1)=some (t.rt:Z)/\w'.cell? (bt,ot+i1*5+2)=some (t.cal:Z)/\w'.cell? (bt,ot+i1*5+3)=some (t.step:Z)/\w'.cell? (bt,ot+i1*5+4)=some (.slice av t.calls.length capv)/\w'.cell? (bt,ot+i2*5)=some (.string u.id)/\w'.cell? (bt,ot+i2*5+1)=some (u.rt:Z)/\w'.cell? (bt,ot+i2*5+2)=some (u.cal:Z)/\w'.cell? (bt,ot+i2*5+3)=some (u.step:Z)/\w'.cell? (bt,ot+i2*5+4)=some (.slice au u.calls.length capu)) ((refine hold _ ?_;repeat(first|exact qB _|refine qH ?_|refine qE ?_ _|refine zF ?_ σ _))) (fail)
  all_goals
   go_wp2_with fail;go_meet
   first
   |exact IZ w1 t u _ _ _
   |exact(IZ w1 u t _ _ _).swap
 obtain⟨b1,b2,rfl,rfl,⟨hb1,hb2⟩,HC1,HC2,bx⟩:=hcut;have BX:=qA bx;have HC1:=qA HC1;have HC2:=qA HC2;obtain⟨g0,g1,-⟩:=hold _ bx;have HOLD:=qA hold;have HBX:Hid (Bl w wc):=qF B1.o bx;obtain⟨c10,c11,c12,c13,c14⟩:=HC1.o;obtain⟨c20,c21,c22,c23,c24⟩:=HC2.o;have zx:=bx.size;clear hold a0 a1 a2 a3 a4 u0 u1 u2 u3 u4 t0 t1 bx c10 c11 c13 c20 c21 c23;have HFE: ∀ e:Int,jk (trpOf t) (trpOf u)=e->e≠0->Hid (zU (ts.map trpOf) fs (l.take k) x=e):=λe he hne=>by
  have h1:jk (Zc (ts.map trpOf) x.frm) (Zc (ts.map trpOf) x.to)=e:=by rw[HFT.o,HFU.o];exact he
  exact(Np HPT.o HQ.o (by rw[h1];exact hne)).trans h1
 by_cases hcal:t.cal=u.cal
 ·
  have qc:(t.cal != u.cal)=false:=by rw[hcal];simp
  by_cases hte:t.calls=[]
  ·
   have HFO:=qA (dM (a:=trpOf t) (b:=trpOf u) hcal hte);have HE:=HFE 13 HFO.o δ;have qe:IntKind.i64.wrap ((t.calls.length:Int)-1)= -1:=by rw[hte];rfl
   clear hcal hte;go_wp2_with fail;go_quiet (fail)
   go_wp2;go_ret;exact⟨qR (HE.o.symm.trans H.o),qM HBX.o _⟩
  have hpt:0<t.calls.length:=List.length_pos_iff.2 hte;obtain⟨n,hn⟩: ∃ n,t.calls.length=n+1:=⟨t.calls.length-1,ω⟩;have qe:IntKind.i64.wrap ((t.calls.length:Int)-1)=(n:Int):=by rw[IntWalk.i64_in _ ω];omega
  have qn:decide ((n:Int)<0)=false:=decide_eq_false ω;by_cases hue:u.calls=[]
  ·
   have HFO:=qA (dN (a:=trpOf t) (b:=trpOf u) hcal hue);have HE:=HFE 13 HFO.o δ;have q2:((u.calls.length:Int)==0)=true:=by rw[hue];rfl
   clear hcal hte hue hn;go_wp2_with fail;go_quiet (fail)
   go_wp2;go_ret;exact⟨qR (HE.o.symm.trans H.o),qM HBX.o _⟩
  have hpu:0<u.calls.length:=List.length_pos_iff.2 hue;have HTC:=HTR.o.calls;have HUC:=HUR.o.calls;rw[HVT.o]at HTC;rw[HVU.o]at HUC;obtain⟨ba,oa,xa,hav,hba,hxa,hca⟩:=HTC.get (k:=n) ω BX.o ω;obtain⟨bb,ob,yb,hau,hbb,hyb,hcb⟩:=HUC.get (k:=0) hpu BX.o ω;subst hav hau;have HFO:=qA (dO (a:=trpOf t) (b:=trpOf u) hcal hn hxa hyb);have m0:wc.cell? ⟨ba,oa+n*5,none⟩=some (xa.stop:Z):=hca 0 _ rfl;have m1:=hca 1 _ rfl;have hcb': ∀ j z,(callCells yb)[j]? =some z->wc.cell? ⟨bb,ob+j,none⟩=some z:=λj z hz=>by have:=hcb j z hz;rwa [Nat.zero_mul,Nat.add_zero]at this
  have o0:wc.cell? (bb,ob)=some (yb.stop:Z):=hcb' 0 _ rfl;have o2:=hcb' 2 _ rfl;have q2:((u.calls.length:Int)==0)=false:=π
  have inI:(n:Int)<(t.calls.length:Int):=ω
  clear hcal hte hue hn hxa hyb hca hcb hcb' HTC HUC;by_cases hs:xa.stop=yb.stop
  ·
   have q3:(xa.stop != yb.stop)=false:=by rw[hs];simp
   rw[U5 (by simpa using hs)]at HFO;go_wp2_with fail;go_quiet (fail)
   generalize hwz:wc.drewN _=wz
   have bz:Bl wc wz:=by rw[<-hwz];exact qM (qB _) _
   have kc:=λa o (h:a<wc.heap.size)=>(qG bz).1 a o h
   have c14':=(kc _ _ hb1).trans c14;have c24':=(kc _ _ hb2).trans c24;have m1':=(kc _ _ hba).trans m1;have o2':=(kc _ _ hbb).trans o2;have HBZ:Hid (Bl w wz):=qF HBX.o bz;have H1Z:Hid (Bl w1 wz):=qF BX.o bz;have zz:=bz.size;clear hwz kc c12 c22 c14 c24 m0 m1 o0 o2 bz g0 g1 qe qn;by_cases hd:yb.depart<xa.arrive
   ·
    have q4:decide (yb.depart<xa.arrive)=true:=decide_eq_true hd;have HE:=HFE 10 (HFO.o.trans (U6 hd)) δ;clear hs hd;go_wp2_with fail;go_quiet (fail)
    go_wp2;go_ret;exact⟨qR (HE.o.symm.trans H.o),qM HBZ.o _⟩
   have q4:decide (yb.depart<xa.arrive)=false:=decide_eq_false hd;have HFZ:Hid (jk (Zc (ts.map trpOf) x.frm) (Zc (ts.map trpOf) x.to)=0):=by
    show _=_
    rw[HFT.o,HFU.o];exact HFO.o.trans (U5 hd)
   clear hs hd HFE;go_wp2_with fail;go_quiet (fail)
   generalize hwv:wz.drewN _=wv
   have bv:Bl wz wv:=by rw[<-hwv];exact qM (qB _) _
   have HBV:Hid (Bl w wv):=qF HBZ.o bv;have H1V:Hid (Bl w1 wv):=qF H1Z.o bv;have zv:=bv.size;clear hwv c14' c24' m1' o2' bv q4 q3;go_wp2_with fail;go_loopw [13] (λi wr=> ∃ j:Nat,j<=k/\i=.int .i64 j/\Hid (((l.take j).any λy=>y.frm==x.frm||y.to==x.to)=false)/\Bl wv wr) (λi _=>k-(intOf i).toNat)
   case atStart=>exact⟨0,qAD _,rfl,rfl,qB _⟩
   obtain⟨j,hj,rfl,HN,hbl⟩:=hrel;have HBR:Hid (Bl w wr):=qF HBV.o hbl;have H1R:Hid (Bl w1 wr):=qF H1V.o hbl;have zr:=hbl.size;obtain⟨g0,g1,-⟩:=HOLD.o wr H1R.o;by_cases hjk:j<k
   ·
    obtain⟨bl2,ol2,y,hal,hbs2,hy,hcy⟩:=HL.o.get (k:=j) ω HBR.o hB;simp only[qAA,Addr.mk.injEq]at hal;obtain⟨rfl,rfl,-⟩:=hal;have p0:wr.cell? ⟨bl',ol+j*2,none⟩=some (y.frm:Z):=hcy 0 _ rfl;have p1:=hcy 1 _ rfl;have jI:(j:Int)<(l.length:Int):=ω
    have jK:(j:Int)<(k:Int):=ω
    have HY:=qA hy;have HTK:Hid ((l.take k)[j]? =some y):=by show _=_;rw[List.getElem?_take_of_lt hjk];exact hy
    clear hy hcy;by_cases h1:y.frm=i1
    ·
     have qf:(y.frm==(i1:Int))=true:=by rw[beq_iff_eq];exact h1
     have HD:Hid (((l.take k).any λy=>y.frm==x.frm||y.to==x.to)=true):=Zb HTK.o (by rw[HI1.o,qf];rfl);have HE:=qA (Bi HPT.o HQ.o HFZ.o HD.o);clear h1;go_wp2_with fail;go_quiet (fail)
     go_wp2;go_ret;exact⟨qR (HE.o.symm.trans H.o),qM HBR.o _⟩
    have qf:(y.frm==(i1:Int))=false:=by rw[U0];exact h1
    clear h1;by_cases h2:y.to=i2
    ·
     have qt:(y.to==(i2:Int))=true:=by rw[beq_iff_eq];exact h2
     have HD:Hid (((l.take k).any λy=>y.frm==x.frm||y.to==x.to)=true):=Zb HTK.o (by rw[HI2.o,qt,Bool.or_true]);have HE:=qA (Bi HPT.o HQ.o HFZ.o HD.o);clear h2;go_wp2_with fail;go_quiet (fail)
     go_wp2;go_ret;exact⟨qR (HE.o.symm.trans H.o),qM HBR.o _⟩
    have qt:(y.to==(i2:Int))=false:=by rw[U0];exact h2
    have HN':Hid (((l.take (j+1)).any λy=>y.frm==x.frm||y.to==x.to)=false):=by
     show(List.take (j+1) l).any (λz=>z.frm==x.frm||z.to==x.to)=false
     rw[Yq (p:=λz:ThrD=>z.frm==x.frm||z.to==x.to) HY.o HN.o,HI1.o,HI2.o,qf,qt];rfl
    clear h2;go_wp2_with fail;go_quiet (fail)
    go_wp2;go_roundw;case rel=>exact⟨j+1,ω,by go_num,HN',qM hbl _⟩
    simp[intOf];omega
   obtain rfl:j=k:=ω
   obtain⟨e3,he3⟩:=ε ((QC (l.take j) i2).contains (i1:Int));have HE3:=qA he3;have hwr:w.heap.size<wr.heap.size:=ω
   have hold: ∀ w':World,Bl wr w'->w'.cell? (w.heap.size,0)=some (i1:Z)/\w'.cell? (w.heap.size,1)=some (i2:Z):=λw' hb=>⟨((qG hb).1 _ _ hwr).trans g0,((qG hb).1 _ _ hwr).trans g1⟩
   have hkc:(j:Int)<=(capl:Int):=ω
   clear he3;go_wp2_with fail;go_region_held3 (λw'=>w'.cell? (w.heap.size,0)=some (i1:Z)/\w'.cell? (w.heap.size,1)=some (i2:Z)) (first|exact hold _ (qH (qB _))|exact hold _ (qF (qH (qB _)) b5)) (first|(go_at_call 233;refine(Ho _ (l.take j) i2 (by rw[List.length_take];omega) B _ ((HL.o.take (k:=j) ω).o (qF HBR.o (qH (qB _))) hB) τ).mono ?_;rintro e w5 ⟨v5,rfl,i5,b5⟩)|(go_at_call 232;refine(Nh _ _ i1 e3 HE3 _ _ i5 (U3 _)).mono ?_;rintro e w6 ⟨rfl,rfl⟩))
   all_goals
    have HB5:Hid (Bl w w5):=qF HBR.o (qF (qH (qB _)) b5);clear hold b5;cases e3 with
    |true=>
     have HE:=qA (IR HPT.o HQ.o HFZ.o HN.o (by rw[HI1.o,HI2.o];exact HE3.o));go_wp2;go_ret;exact⟨qR (HE.o.symm.trans H.o),HB5.o⟩
    |false=>
     have HE:=qA (Nl HPT.o HQ.o HFZ.o HN.o (by rw[HI1.o,HI2.o];exact HE3.o));go_wp2;go_ret;exact⟨qR (HE.o.symm.trans H.o),HB5.o⟩
  have q3:(xa.stop != yb.stop)=true:=by simpa using hs
  rw[U6 hs]at HFO;have HE:=HFE 13 HFO.o δ;clear hs;go_wp2_with fail;go_quiet (fail)
  go_wp2;go_ret;exact⟨qR (HE.o.symm.trans H.o),qM HBX.o _⟩
 have qc:(t.cal != u.cal)=true:=by simpa using hcal
 have HFO:=qA (Xb (a:=trpOf t) (b:=trpOf u) hcal);have HE:=HFE 15 HFO.o δ;clear hcal;go_wp2;go_ret;exact⟨qR (HE.o.symm.trans H.o),HBX.o⟩
theorem aB (vl vt vf:Value) (l:List ThrD) (ts:List TripD) (fs:List FreqD) (r:Int×Int) (H:Hid (qZ 128 (zU (ts.map trpOf) fs) l=r)) (B:Nat) (w:World) (hl:Vu B w vl l) (ht:vP B w vt ts) (hf:xG B w vf fs) (hB:B<=w.heap.size):
  Calls prog 99 #[vl,vt,vf] w λe w'=>e=.returned (.tuple #[r.1,r.2])/\Bl w w':=by
 obtain⟨al,capl,rfl,ll1,ll2⟩:=hl.val;have HL:=qA hl;have HT:=qA ht;have HF:=qA hf;clear hl ht hf;by_cases hmany:128<l.length
 ·
  have HR:=qA (zM (err:=zU (ts.map trpOf) fs) hmany);go_enter func99,ntmps99
  go_wp2;go_ret2;exact⟨qY HR.o H.o,qB _⟩
 have hfew:l.length<=128:=ω
 have HR:Hid (wU (zU (ts.map trpOf) fs) (l.take 0) (l.drop 0)=r):=(zf hfew).symm.trans H.o;clear hmany;go_enter func99,ntmps99
 go_wp2_with fail;go_loopw [8] (λi wr=> ∃ k:Nat,(k<=l.length/\i=k)/\Hid (wU (zU (ts.map trpOf) fs) (l.take k) (l.drop k)=r)/\Bl w wr) (λi _=>l.length-(intOf i).toNat)
 case atStart=>exact⟨0,⟨qAD _,rfl⟩,HR,qB _⟩
 obtain⟨k,⟨hk,rfl⟩,HC,hbl⟩:=hrel;have z1:=hbl.size;by_cases hlt:k<l.length
 ·
  obtain⟨x,hx⟩: ∃ x,l[k]? =some x:=⟨_,U2 hlt⟩;obtain⟨e,he⟩:=ε (zU (ts.map trpOf) fs (l.take k) x);have HX:=qA hx;have HE:=qA he;clear hx he;go_wp2_with fail;refine(P9 _ vt vf l ts fs k x HX.o e HE hfew B wr (HL.o.o hbl hB) (HT.o.bl hbl hB) (HF.o.o hbl hB) ω).mono ?_;rintro e' w3 ⟨rfl,b3⟩;have B3:Hid (Bl w w3):=qF hbl b3;clear b3;by_cases h0:e=0
  ·
   have q:(e != 0)=false:=by rw[h0];rfl
   have HG:=qA (jS (err:=zU (ts.map trpOf) fs) HX.o (HE.o.trans h0));clear h0;go_wp2;go_roundw;case rel=>exact⟨k+1,⟨ω,by go_num⟩,HG.o.symm.trans HC.o,B3.o⟩
   simp[intOf];omega
  have q:(e != 0)=true:=by simpa using h0
  have HG:=qA (qU (err:=zU (ts.map trpOf) fs) HX.o HE.o h0);clear h0;go_wp2;go_ret2;exact⟨qY HG.o HC.o,B3.o⟩
 have HE:=qA (jy (err:=zU (ts.map trpOf) fs) (show l.length<=k by omega));go_wp2;go_ret2;exact⟨qY HE.o HC.o,hbl⟩
theorem mZ (vl vt vf:Value) (l:List wL) (ts:List TripD) (fs:List FreqD) (stops:Int) (k:Nat) (x:wL) (hx:l[k]? =some x) (r:Int) (H:Hid (zk (ts.map trpOf) fs stops (l.take k) x=r)) (hfew:l.length<=128) (B:Nat) (w:World) (hl:Ec B w vl l) (ht:vP B w vt ts) (hf:xG B w vf fs) (hB:B<=w.heap.size):
  Calls prog 174 #[vl,k,vt,vf,stops] w λe w'=>e=.returned (r:Z)/\Bl w w':=by
 obtain⟨al,capl,rfl,ll1,ll2⟩:=hl.val;obtain⟨at',capt,rfl,lt1,lt2⟩:=ht.sl.val;obtain⟨af,capf,rfl,lf1,lf2⟩:=hf.val;have HL:=qA hl;have HT:=qA ht;have HF:=qA hf;have hlt:k<l.length:=(Uw.1 hx).1;obtain⟨bl',ol,x',rfl,hbs,hx',hc⟩:=hl.get hlt (qB w) hB;obtain rfl:x=x':=by rw[hx]at hx';exact qAB hx'
 have d0:w.cell? (bl',ol+k*3)=some (x.frm:Z):=hc 0 _ rfl;have d1:=hc 1 _ rfl;have d2:=hc 2 _ rfl;have hkI:(k:Int)<(l.length:Int):=ω
 have HX:=qA hx;clear hx hx' hc hl ht hf;obtain⟨w1,hw1⟩:=ε (w.alloc (.cells #[x.frm,x.to,x.stop] 130));have b1:Bl w w1:=by rw[<-hw1];exact qE (qB _) _
 have t0:w1.cell? (w.heap.size,0)=some (x.frm:Z):=by rw[<-hw1,Uy (hn:=rfl)];rfl
 have t1:w1.cell? (w.heap.size,1)=some (x.to:Z):=by rw[<-hw1,Uy (hn:=rfl)];rfl
 have t2:w1.cell? (w.heap.size,2)=some (x.stop:Z):=by rw[<-hw1,Uy (hn:=rfl)];rfl
 have s1:w1.heap.size=w.heap.size+1:=by rw[<-hw1];simp
 have B1:=qA b1;have S1:=qA s1;obtain⟨e1,he1⟩:=ε (Yi x.frm ts.length);obtain⟨e2,he2⟩:=ε (Yi x.to ts.length);obtain⟨e3,he3⟩:=ε (Yi x.stop stops);obtain⟨p,hp⟩:=ε (yZ (ts.map trpOf).length x.frm x.to);have HPE:Hid (p=(e1&&(e2&& !(x.frm==x.to)))):=by
  show _=_
  rw[<-hp,U4];unfold yZ;rw[he1,he2]
 have HP:=qA hp;have E1:=qA he1;have E2:=qA he2;have E3:=qA he3;clear b1 s1 hp he1 he2 he3;go_enter func174,ntmps174
 go_wp2_with fail;clear hw1;refine(GK x.frm ts.length e1 E1 w1).mono ?_;rintro e w2 ⟨rfl,rfl⟩;cases e1 with
 |false=>
  have HN:=qA (show p=false by rw[HPE.o];rfl);have HE:=qA (BI (ts:=ts.map trpOf) (fs:=fs) (stops:=stops) (pre:=l.take k) (HP.o.trans HN.o));go_wp2;go_ret;exact⟨qR (HE.o.symm.trans H.o),B1.o⟩
 |true=>
 go_wp2_with fail;refine(GK x.to ts.length e2 E2 w1).mono ?_;rintro e w2 ⟨rfl,rfl⟩;cases e2 with
 |false=>
  have HN:=qA (show p=false by rw[HPE.o];rfl);have HE:=qA (BI (ts:=ts.map trpOf) (fs:=fs) (stops:=stops) (pre:=l.take k) (HP.o.trans HN.o));go_wp2;go_ret;exact⟨qR (HE.o.symm.trans H.o),B1.o⟩
 |true=>
 by_cases hft:x.frm=x.to
 ·
  have qe:(x.frm==x.to)=true:=by rw[beq_iff_eq];exact hft
  have HN:=qA (show p=false by rw[HPE.o,qe];rfl);have HE:=qA (BI (ts:=ts.map trpOf) (fs:=fs) (stops:=stops) (pre:=l.take k) (HP.o.trans HN.o));clear hft;go_wp2;go_ret;exact⟨qR (HE.o.symm.trans H.o),B1.o⟩
 have qe:(x.frm==x.to)=false:=by rw[U0];exact hft
 have HPT:Hid (yZ (ts.map trpOf).length x.frm x.to=true):=HP.o.trans (by rw[HPE.o,qe];rfl);clear hft HPE HP;go_wp2_with fail;refine(GK x.stop stops e3 E3 w1).mono ?_;rintro e w2 ⟨rfl,rfl⟩;cases e3 with
 |false=>
  have HE:=qA (F8 (ts:=ts.map trpOf) (fs:=fs) (stops:=stops) (pre:=l.take k) HPT.o E3.o);go_wp2;go_ret;exact⟨qR (HE.o.symm.trans H.o),B1.o⟩
 |true=>
 obtain⟨r1,hr1⟩:=ε (vM fs x.frm);obtain⟨r2,hr2⟩:=ε (vM fs x.to);have R1:=qA hr1;have R2:=qA hr2;clear hr1 hr2;have z1:w.heap.size<=w1.heap.size:=by have:=S1.o;omega
 go_wp2_with fail;refine(iJ _ fs x.frm r1 R1 B w1 (HF.o.o B1.o hB) ω).mono ?_;rintro e w2 ⟨rfl,rfl⟩;cases r1 with
 |true=>
  have HE:=qA (tC (ts:=ts.map trpOf) (fs:=fs) (stops:=stops) (pre:=l.take k) HPT.o E3.o (by rw[R1.o];rfl));go_wp2;go_ret;exact⟨qR (HE.o.symm.trans H.o),B1.o⟩
 |false=>
 go_wp2_with fail;refine(iJ _ fs x.to r2 R2 B w1 (HF.o.o B1.o hB) ω).mono ?_;rintro e w2 ⟨rfl,rfl⟩;have HQ:Hid ((vM fs x.frm||vM fs x.to)=r2):=by show _=_;rw[R1.o,R2.o];rfl
 cases r2 with
 |true=>
  have HE:=qA (tC (ts:=ts.map trpOf) (fs:=fs) (stops:=stops) (pre:=l.take k) HPT.o E3.o HQ.o);go_wp2;go_ret;exact⟨qR (HE.o.symm.trans H.o),B1.o⟩
 |false=>
 obtain⟨⟨f1,f2⟩,⟨f3,f4⟩⟩:=JK HPT.o;rw[U4]at f2 f4;obtain⟨i1,hi1⟩: ∃ i1:Nat,x.frm=i1:=⟨x.frm.toNat,ω⟩;obtain⟨i2,hi2⟩: ∃ i2:Nat,x.to=i2:=⟨x.to.toNat,ω⟩;have n1:i1<ts.length:=ω
 have n2:i2<ts.length:=ω
 obtain⟨bt,ot,t,rfl,hbt,ht,htc⟩:=HT.o.sl.get n1 B1.o hB;obtain⟨bt',ot',u,hat,hbu,hu,huc⟩:=HT.o.sl.get n2 B1.o hB;simp only[qAA,Addr.mk.injEq]at hat;obtain⟨rfl,rfl,-⟩:=hat;have HFT:=qA (show Zc (ts.map trpOf) x.frm=trpOf t from J3 (by rw[hi1];exact ht));have HFU:=qA (show Zc (ts.map trpOf) x.to=trpOf u from J3 (by rw[hi2];exact hu));have HTR:=qA ((HT.o.ok t (Uz ht)).bl B1.o hB);have HUR:=qA ((HT.o.ok u (Uz hu)).bl B1.o hB);have hi1I:(i1:Int)<(ts.length:Int):=ω
 have hi2I:(i2:Int)<(ts.length:Int):=ω
 rw[hi1]at t0;rw[hi2]at t1;have HI1:=qA hi1;have HI2:=qA hi2;have a4:w1.cell? (bt,ot+i1*5+4)=some t.v:=htc 4 _ rfl;have u4:w1.cell? (bt,ot+i2*5+4)=some u.v:=huc 4 _ rfl;have htw:w.heap.size<w1.heap.size:=by have:=S1.o;omega
 clear ht hu htc huc f1 f2 f3 f4 hi1 hi2 qe;have hold: ∀ w':World,Bl w1 w'->w'.cell? (w.heap.size,0)=some (i1:Z)/\w'.cell? (w.heap.size,1)=some (i2:Z)/\w'.cell? (w.heap.size,2)=some (x.stop:Z)/\w'.cell? (bt,ot+i1*5+4)=some t.v/\w'.cell? (bt,ot+i2*5+4)=some u.v:=λw' hb=>⟨((qG hb).1 _ _ htw).trans t0,((qG hb).1 _ _ htw).trans t1,((qG hb).1 _ _ htw).trans t2,((qG hb).1 _ _ hbt).trans a4,((qG hb).1 _ _ hbt).trans u4⟩
 obtain⟨m,hm⟩:=ε (vI t.calls u.calls x.stop);obtain⟨m1,m2,m3⟩:=m;have HM:=qA hm;have HOLD:=qA hold;clear hm;go_wp2_with fail;go_region_held3 (λw'=>w'.cell? (w.heap.size,0)=some (i1:Z)/\w'.cell? (w.heap.size,1)=some (i2:Z)/\w'.cell? (w.heap.size,2)=some (x.stop:Z)/\w'.cell? (bt,ot+i1*5+4)=some t.v/\w'.cell? (bt,ot+i2*5+4)=some u.v) (first|exact hold _ (qH (qB _))|exact hold _ (qF (qH (qB _)) b4)) (first|(go_at_call 234;refine(Hy t.v u.v t.calls u.calls x.stop m1 m2 m3 HM B _ (HTR.o.calls.o (qH (qB _)) ω) (HUR.o.calls.o (qH (qB _)) ω) τ).mono ?_;rintro e w4 ⟨rfl,b4⟩))
 all_goals
  have HB4:Hid (Bl w w4):=qF B1.o (qF (qH (qB _)) b4);have HR4:Hid (Bl w1 w4):=qF (qH (qB _)) b4;clear hold t0 t1 t2 a4 u4 b4 d0 d1 d2;have HMM:Hid ((vI (Zc (ts.map trpOf) x.frm).calls (Zc (ts.map trpOf) x.to).calls x.stop).2.2=m3):=by
   show _=_
   rw[HFT.o,HFU.o];show(vI t.calls u.calls x.stop).2.2=m3
   rw[HM.o]
  have z4:=HR4.o.size;cases m3 with
  |false=>
   have HE:=qA (F7 (pre:=l.take k) HPT.o E3.o HQ.o HMM.o);go_wp2;go_ret;exact⟨qR (HE.o.symm.trans H.o),HB4.o⟩
  |true=>
   go_wp2_with fail;go_loopw [15] (λi wr=> ∃ j:Nat,j<=k/\i=j/\Hid ((l.take j).contains x=false)/\Bl w4 wr) (λi _=>k-(intOf i).toNat)
   case atStart=>exact⟨0,qAD _,rfl,rfl,qB _⟩
   obtain⟨j,hj,rfl,HN,hbl⟩:=hrel;have HBR:Hid (Bl w wr):=qF HB4.o hbl;have H1R:Hid (Bl w1 wr):=qF HR4.o hbl;have zr:=hbl.size;obtain⟨g0,g1,g2,-⟩:=HOLD.o wr H1R.o;by_cases hjk:j<k
   ·
    obtain⟨bl2,ol2,y,hal,hbs2,hy,hcy⟩:=HL.o.get (k:=j) ω HBR.o hB;simp only[qAA,Addr.mk.injEq]at hal;obtain⟨rfl,rfl,-⟩:=hal;have p0:wr.cell? (bl',ol+j*3)=some (y.frm:Z):=hcy 0 _ rfl;have p1:=hcy 1 _ rfl;have p2:=hcy 2 _ rfl;have jI:(j:Int)<(l.length:Int):=ω
    have jK:(j:Int)<(k:Int):=ω
    have HY:=qA hy;have HTK:Hid ((l.take k)[j]? =some y):=by show _=_;rw[List.getElem?_take_of_lt hjk];exact hy
    clear hy hcy;by_cases hyx:y=x
    ·
     have h1:y.frm=i1:=by rw[hyx];exact HI1.o
     have h2:y.to=i2:=by rw[hyx];exact HI2.o
     have h3:y.stop=x.stop:=by rw[hyx]
     rw[h1]at p0;rw[h2]at p1;rw[h3]at p2;have HD:Hid ((l.take k).contains x=true):=List.contains_iff_mem.2 (hyx ▸ Uz HTK.o);have HE:=qA (Nc HPT.o E3.o HQ.o HMM.o HD.o);clear hyx h1 h2 h3;go_wp2_with fail;go_quiet (fail)
     go_wp2;go_ret;exact⟨qR (HE.o.symm.trans H.o),qM HBR.o _⟩
    have HN':Hid ((l.take (j+1)).contains x=false):=by
     show _=_
     rw[ql HY.o];have:=HN.o;simp only[List.contains_eq_any_beq,List.any_append,List.any_cons,List.any_nil,Bool.or_false]at this ⊢;rw[this,Bool.false_or,U0];exact λe=>hyx e.symm
    have hne: ¬ (y.frm=i1/\y.to=i2/\y.stop=x.stop):=fun⟨h1,h2,h3⟩=>hyx (by
     have q1:=HI1.o;have q2:=HI2.o;cases x
     cases y
     simp only at q1 q2 h1 h2 h3;rw[q1,q2,h1,h2,h3])
    clear hyx;by_cases h1:y.frm=i1
    ·
     have qf:(y.frm==(i1:Int))=true:=by rw[beq_iff_eq];exact h1
     by_cases h2:y.to=i2
     ·
      have qt:(y.to==(i2:Int))=true:=by rw[beq_iff_eq];exact h2
      have qs:(y.stop==x.stop)=false:=by rw[U0];exact λh3=>hne ⟨h1,h2,h3⟩
      clear hne h1 h2;go_wp2_with fail;go_quiet (fail)
      go_wp2;go_roundw;case rel=>exact⟨j+1,ω,by go_num,HN',qM hbl _⟩
      simp[intOf];omega
     have qt:(y.to==(i2:Int))=false:=by rw[U0];exact h2
     clear hne h1 h2;go_wp2_with fail;go_quiet (fail)
     go_wp2;go_roundw;case rel=>exact⟨j+1,ω,by go_num,HN',qM hbl _⟩
     simp[intOf];omega
    have qf:(y.frm==(i1:Int))=false:=by rw[U0];exact h1
    clear hne h1;go_wp2_with fail;go_quiet (fail)
    go_wp2;go_roundw;case rel=>exact⟨j+1,ω,by go_num,HN',qM hbl _⟩
    simp[intOf];omega
   obtain rfl:j=k:=ω
   have HE:=qA (Nb HPT.o E3.o HQ.o HMM.o HN.o);go_wp2;go_ret;exact⟨qR (HE.o.symm.trans H.o),HBR.o⟩
theorem Dt (vl vt vf:Value) (l:List wL) (ts:List TripD) (fs:List FreqD) (stops:Int) (r:Int×Int) (H:Hid (qZ 128 (zk (ts.map trpOf) fs stops) l=r)) (B:Nat) (w:World) (hl:Ec B w vl l) (ht:vP B w vt ts) (hf:xG B w vf fs) (hB:B<=w.heap.size):
  Calls prog 100 #[vl,vt,vf,stops] w λe w'=>e=.returned (.tuple #[r.1,r.2])/\Bl w w':=by
 obtain⟨al,capl,rfl,ll1,ll2⟩:=hl.val;have HL:=qA hl;have HT:=qA ht;have HF:=qA hf;clear hl ht hf;by_cases hmany:128<l.length
 ·
  have HR:=qA (zM (err:=zk (ts.map trpOf) fs stops) hmany);go_enter func100,ntmps100
  go_wp2;go_ret2;exact⟨qY HR.o H.o,qB _⟩
 have hfew:l.length<=128:=ω
 have HR:Hid (wU (zk (ts.map trpOf) fs stops) (l.take 0) (l.drop 0)=r):=(zf hfew).symm.trans H.o;clear hmany;go_enter func100,ntmps100
 go_wp2_with fail;go_loopw [10] (λi wr=> ∃ k:Nat,(k<=l.length/\i=k)/\Hid (wU (zk (ts.map trpOf) fs stops) (l.take k) (l.drop k)=r)/\Bl w wr) (λi _=>l.length-(intOf i).toNat)
 case atStart=>exact⟨0,⟨qAD _,rfl⟩,HR,qB _⟩
 obtain⟨k,⟨hk,rfl⟩,HC,hbl⟩:=hrel;have z1:=hbl.size;by_cases hlt:k<l.length
 ·
  obtain⟨x,hx⟩: ∃ x,l[k]? =some x:=⟨_,U2 hlt⟩;obtain⟨e,he⟩:=ε (zk (ts.map trpOf) fs stops (l.take k) x);have HX:=qA hx;have HE:=qA he;clear hx he;go_wp2_with fail;refine(mZ _ vt vf l ts fs stops k x HX.o e HE hfew B wr (HL.o.o hbl hB) (HT.o.bl hbl hB) (HF.o.o hbl hB) ω).mono ?_;rintro e' w3 ⟨rfl,b3⟩;have B3:Hid (Bl w w3):=qF hbl b3;clear b3;by_cases h0:e=0
  ·
   have q:(e != 0)=false:=by rw[h0];rfl
   have HG:=qA (jS (err:=zk (ts.map trpOf) fs stops) HX.o (HE.o.trans h0));clear h0;go_wp2;go_roundw;case rel=>exact⟨k+1,⟨ω,by go_num⟩,HG.o.symm.trans HC.o,B3.o⟩
   simp[intOf];omega
  have q:(e != 0)=true:=by simpa using h0
  have HG:=qA (qU (err:=zk (ts.map trpOf) fs stops) HX.o HE.o h0);clear h0;go_wp2;go_ret2;exact⟨qY HG.o HC.o,B3.o⟩
 have HE:=qA (jy (err:=zk (ts.map trpOf) fs stops) (show l.length<=k by omega));go_wp2;go_ret2;exact⟨qY HE.o HC.o,hbl⟩
