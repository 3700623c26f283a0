/- Contracts, proved. Conditions: each contract's own. -/
import Derived.Test.YtakedkcjplfgeaaGreatDoorMXA
set_option maxRecDepth 1000000
set_option maxHeartbeats 32000000
namespace Go.Proofs.YtakedkcjplfgeaaGreatDoor.Th
open Go.RowKit
open Frq Thr
theorem GK (n lim:Int) (r:Bool) (H:Hid (Yi n lim=r)) (w:World):Calls Tryz.prog 230 #[.int .i64 n, .int .i64 lim] w fun e w'=>e= .returned (.bool r)/\w=w':=by
 by_cases h0:0<=n
 ·
  by_cases h1:n<lim
  ·
   obtain rfl:r=true:=by rw[<-H.out];unfold Yi;simp[h0,h1]
   clear H;go_enter Tryz.func230,Tryz.ntmps230
   go_wp2;go_ret;exact⟨rfl,rfl⟩
  ·
   obtain rfl:r=false:=by rw[<-H.out];unfold Yi;simp[h1]
   clear H;have h1':decide (n<lim)=false:=by rw[decide_eq_false_iff_not];exact h1
   clear h1;go_enter Tryz.func230,Tryz.ntmps230
   go_wp2;go_ret;exact⟨rfl,rfl⟩
 ·
  obtain rfl:r=false:=by rw[<-H.out];unfold Yi;simp[h0]
  clear H;have h0':n<0:=by omega
  clear h0;go_enter Tryz.func230,Tryz.ntmps230
  go_wp2;go_ret;exact⟨rfl,rfl⟩
theorem Nh (v:Value) (xs:List Int) (n:Int) (r:Bool) (H:Hid (xs.contains n=r)) (B:Nat) (w:World) (ha:Wy B w v xs) (hB:B<=w.heap.size):
  Calls Tryz.prog 232 #[v, .int .i64 n] w fun e w'=>e= .returned (.bool r)/\w=w':=by
 obtain⟨a,cap,rfl,hl1,hl2⟩:=ha.val;have HA:=qA ha;clear ha;go_enter Tryz.func232,Tryz.ntmps232
 go_wp2;go_loop [5] (fun i=> ∃ k:Nat,k<=xs.length/\i= .int .i64 k/\Hid ((xs.take k).contains n=false)) (fun i=>xs.length-(intOf i).toNat)
 case atStart=>exact⟨0,qAD _,rfl,rfl⟩
 case round=>
  obtain⟨k,hk,rfl,HN⟩:=hrel;by_cases hlt:k<xs.length
  ·
   obtain⟨b,o,x,rfl,hbs,hx,hc⟩:=HA.out.get hlt (qB _) hB;have c0:w.cell? ⟨b,o+k,none⟩=some (.int .i64 x):=by have:=hc 0 _ rfl;simpa using this
   have hkI:(k:Int)<(xs.length:Int):=by omega
   have HX:=qA hx;clear hx hc;by_cases he:x=n
   ·
    have HR:=qA (show r=true by rw[<-H.out];exact Vz (he ▸ HX.out));have q:(x==n)=true:=by rw[beq_iff_eq];exact he
    clear he;go_wp2;go_ret;exact⟨qO HR.out.symm,rfl⟩
   ·
    have q:(x==n)=false:=by rw[U0];exact he
    have HN':=qA ((YS HX.out HN.out).trans q);clear he;go_wp2;go_round;case rel=>exact⟨k+1,by omega,by go_num,HN'⟩
    case measure=>simp[intOf];omega
  ·
   have HR:=qA (show r=false by
    have:=HN.out;rw[U9 (by omega)]at this;rw[<-H.out];exact this)
   go_wp2;go_ret;exact⟨qO HR.out.symm,rfl⟩
theorem iJ (v:Value) (fs:List FreqD) (t:Int) (r:Bool) (H:Hid (vM fs t=r)) (B:Nat) (w:World) (ha:xG B w v fs) (hB:B<=w.heap.size):
  Calls Tryz.prog 231 #[v, .int .i64 t] w fun e w'=>e= .returned (.bool r)/\w=w':=by
 obtain⟨a,cap,rfl,hl1,hl2⟩:=ha.val;have HA:=qA ha;clear ha;go_enter Tryz.func231,Tryz.ntmps231
 go_wp2;go_loop [5] (fun i=> ∃ k:Nat,k<=fs.length/\i= .int .i64 k/\Hid ((fs.take k).any (fun f=>f.trip==t)=false)) (fun i=>fs.length-(intOf i).toNat)
 case atStart=>exact⟨0,qAD _,rfl,rfl⟩
 case round=>
  obtain⟨k,hk,rfl,HN⟩:=hrel;by_cases hlt:k<fs.length
  ·
   obtain⟨b,o,x,rfl,hbs,hx,hc⟩:=HA.out.get hlt (qB _) hB;have d10:w.cell? ⟨b,o+k*4,none⟩=some (.int .i64 x.trip):=hc 0 _ rfl;have HX:=qA hx;clear hx hc;by_cases he:x.trip=t
   ·
    have HR:=qA (show r=true by rw[<-H.out];exact Zb HX.out (by simp[he]));have q:(x.trip==t)=true:=by rw[beq_iff_eq];exact he
    clear he;go_wp2;go_ret;exact⟨qO HR.out.symm,rfl⟩
   ·
    have q:(x.trip==t)=false:=by rw[U0];exact he
    have HN':=qA ((Yq (p:=fun f:FreqD=>f.trip==t) HX.out HN.out).trans q);clear he;go_wp2;go_round;case rel=>exact⟨k+1,by omega,by go_num,HN'⟩
    case measure=>simp[intOf];omega
  ·
   have HR:=qA (show r=false by
    have:=HN.out;rw[U9 (by omega)]at this;rw[<-H.out];exact this)
   go_wp2;go_ret;exact⟨qO HR.out.symm,rfl⟩
theorem Md (v:Value) (l:List ThrD) (t:Int) (B:Nat) (w:World) (ha:Vu B w v l) (hB:B<=w.heap.size):
  Calls Tryz.prog 269 #[v, .int .i64 t] w fun e w'=>e= .returned (.tuple #[.int .i64 (eG l t), .bool (dw l t)])/\w=w':=by
 obtain⟨a,cap,rfl,hl1,hl2⟩:=ha.val;have HA:=qA ha;clear ha;go_enter Tryz.func269,Tryz.ntmps269
 go_wp2;go_loop [6] (fun i=> ∃ k:Nat,k<=l.length/\i= .int .i64 k/\Hid (xh (l.take k) t=none)) (fun i=>l.length-(intOf i).toNat)
 case atStart=>exact⟨0,qAD _,rfl,rfl⟩
 case round=>
  obtain⟨k,hk,rfl,HN⟩:=hrel;by_cases hlt:k<l.length
  ·
   obtain⟨b,o,x,rfl,hbs,hx,hc⟩:=HA.out.get hlt (qB _) hB;have d10:w.cell? ⟨b,o+k*2,none⟩=some (.int .i64 x.frm):=hc 0 _ rfl;have d11:=hc 1 _ rfl;have HX:=qA hx;clear hx hc;by_cases he:x.frm=t
   ·
    have q:(x.frm==t)=true:=by rw[beq_iff_eq];exact he
    have HR:=qA (YE (Wh HX.out HN.out q));clear he;go_wp2;go_ret2;exact⟨Yc HR.out.1.symm HR.out.2.symm,rfl⟩
   ·
    have q:(x.frm==t)=false:=by rw[U0];exact he
    have HN':=qA (dL HX.out HN.out q);clear he;go_wp2;go_round;case rel=>exact⟨k+1,by omega,by go_num,HN'⟩
    case measure=>simp[intOf];omega
  ·
   have HR:=qA (YD (l:=l) (t:=t) (by
    have:=HN.out;rw[U9 (by omega)]at this;exact this))
   go_wp2;go_ret2;exact⟨Yc HR.out.1.symm HR.out.2.symm,rfl⟩
end Go.Proofs.YtakedkcjplfgeaaGreatDoor.Th
namespace Go.Proofs.YtakedkcjplfgeaaGreatDoor.Th
open Go.RowKit
open Go.Maps (Keyed)
open Frq Thr
theorem Ho (v:Value) (l:List ThrD) (trip:Int) (hlen:l.length<=1000) (B:Nat) (w:World) (ha:Vu B w v l) (hB:B<=w.heap.size):
  Calls Tryz.prog 233 #[v, .int .i64 trip] w fun e w'=> ∃ v',e= .returned v'/\Wy w'.heap.size w' v' (QC l trip)/\Bl w w':=by
 obtain⟨i0,hi,hz0,hz1,hz2⟩:=info_parts yD;obtain⟨a,cap,rfl,hl1,hl2⟩:=ha.val;have HA:=qA ha;have hown0:(w.alloc (.cells #[.int .i64 trip] 3)).ownsRow w.heap.size 3 1 (.slice (some ⟨w.heap.size,0,none⟩) 1 1) 1 [.int .i64 trip]:=
  World.ownsRow_lit w #[.int .i64 trip] 1 (U3 _) (by unfold maxLen;omega) rfl
 have HOWN:=qA hown0;have HB1:Hid (Bl w (w.alloc (.cells #[.int .i64 trip] 3))):=qE (qB _) _;clear ha hown0;go_enter Tryz.func233,Tryz.ntmps233
 go_wp2_with fail;go_loopw [5,12] (fun vo i wr=> ∃ (out:List Int) (k:Nat),(i= .int .i64 k/\k<=l.length/\out.length=k+1)/\wr.ownsRow w.heap.size 3 1 vo out.length (out.flatMap qi)/\Hid (xN l trip out/\Zx l (l.length-k) out=QC l trip)/\Bl w wr) (fun _ i _=>l.length-(intOf i).toNat)
 case atStart=>exact⟨[trip],0,⟨rfl,qAD _,rfl⟩,HOWN.out,⟨YY l trip,rfl⟩,HB1.out⟩
 case round=>
  obtain⟨out,k,⟨rfl,hk,hl⟩,hown,HM,hbl⟩:=hrel;have HOWN':=qA hown;have HL:=qA hl;have z1:=hbl.size;obtain⟨g,capo,rfl,hc1,hc2,hg1,hg2,-,hcell⟩:=ng hown hl;clear hown hl;by_cases hlt:k<l.length
  ·
   go_wp2_with fail;refine(Md _ l (Jr out) B wr (HA.out.out hbl hB) (by omega)).mono ?_;rintro e w3 ⟨rfl,rfl⟩;obtain⟨o,ho⟩: ∃ o,xh l (Jr out)=o:=⟨_,rfl⟩;cases o with
   |none=>
    have HR:=qA (YD ho);have HC:=qA (aT ho);rw[HR.out.1,HR.out.2];clear ho;go_wp2;go_ret;refine⟨_,rfl, ?_,hbl⟩;have:=HM.out.2;rw[Qb HC.out]at this;rw[<-this];exact zq (cells:=qi) kY HOWN'.out
   |some x=>
    have HR:=qA (YE ho);have HO:=qA ho;rw[HR.out.1,HR.out.2];clear ho;obtain⟨c,hcon⟩: ∃ c,out.contains x.to=c:=⟨_,rfl⟩;have HCON:=qA hcon;clear hcon;go_wp2_with fail;refine(Nh _ out x.to c HCON _ _ (zq (cells:=qi) kY HOWN'.out) (U3 _)).mono ?_;rintro e w4 ⟨rfl,rfl⟩;cases c with
    |true=>
     have HC:=qA (aU HO.out HCON.out);go_wp2;go_ret;refine⟨_,rfl, ?_,hbl⟩;have:=HM.out.2;rw[Qb HC.out]at this;rw[<-this];exact zq (cells:=qi) kY HOWN'.out
    |false=>
     have HC:=qA (pU HO.out HCON.out);go_wp2_with (at_builtin;refine wpList_append_own _ rfl _ _ 73 rfl w.heap.size 3 i0 (.int .i64 0) 1 8 Tryz.underlying73 hi hz0 hz1 hz2 rfl (by decide) _ _ _ rfl (HOWN'.out.alloc _) ⟨wr.heap.size,0,none⟩ 1 1 [.int .i64 x.to] rfl rfl ?c1 ?c2 ?c3 ?c4 ?c5 ?_)
     case c1=>exact Kt _ _ (by simp) (fun j u h=>by simpa using h)
     case c2=>simp[Value.oneCell']
     case c3=>have:=HL.out;unfold maxLen;omega
     case c4=>have:=HL.out;omega
     case c5=>simp;omega
     intro v' w5 hown' hgrow _;have hb5:Bl w w5:=(qE hbl _).grown hgrow (by simp;omega) (fun k hk=>(qAG HOWN'.out k hk).1);have HOWN5:=qA hown';clear hown' hgrow;go_wp2;go_roundw;case rel=>
      have hl:=HL.out;refine⟨out++[x.to],k+1,⟨by go_num,by omega,by rw[U1,List.length_singleton];omega⟩, ?_,⟨HM.out.1.step HC.out, ?_⟩,hb5⟩
      ·
       have:=HOWN5.out;rw[U1,List.length_singleton,Ky];exact this
      ·
       have:=HM.out.2;rw[show l.length-k=l.length-(k+1)+1 by omega,VZ HC.out]at this;exact this
     case measure=>simp[intOf];omega
  ·
   go_wp2;go_ret;refine⟨_,rfl, ?_,hbl⟩;have:=HM.out.2;rw[show l.length-k=0 by omega]at this;rw[<-this];exact zq (cells:=qi) kY HOWN'.out
end Go.Proofs.YtakedkcjplfgeaaGreatDoor.Th
namespace Go.Proofs.YtakedkcjplfgeaaGreatDoor.Th
open Go.RowKit
open Frq Thr
theorem QL.next' {p:Nat->CallD->Bool} {l:List CallD} {k:Nat} (h:QL p l k) (hp: ∀ x,p k x=false):QL p l (k+1):=fun i y hi hy=>by
 by_cases e:i<k
 · exact h i y e hy
 ·
  obtain rfl:i=k:=by omega
  exact hp y
theorem Hy (va vb:Value) (a b:List CallD) (stop:Int) (i0 k0:Int) (r0:Bool) (H:Hid (vI a b stop=(i0,k0,r0))) (B:Nat) (w:World) (ha:CallsIn B w va a) (hb:CallsIn B w vb b) (hB:B<=w.heap.size):
  Calls Tryz.prog 234 #[va,vb, .int .i64 stop] w fun e w'=>e= .returned (.tuple #[.int .i64 i0, .int .i64 k0, .bool r0])/\Bl w w':=by
 obtain⟨aa,capa,rfl,la1,la2⟩:=ha.val;obtain⟨ab,capb,rfl,lb1,lb2⟩:=hb.val;have HA:=qA ha;have HB:=qA hb;clear ha hb;go_enter Tryz.func234,Tryz.ntmps234
 go_wp2_with fail;go_loopw [9] (fun i wr=> ∃ k:Nat,(1<=k/\k<=a.length+1)/\i= .int .i64 k/\Hid (QL (xH stop) a k)/\w=wr) (fun i _=>a.length+1-(intOf i).toNat)
 case atStart=>exact⟨1,by omega,rfl,(VE (xH stop) a).next' (by intro x;exact XB (by omega)),rfl⟩
 case round=>
  obtain⟨i,⟨hi1,hi2⟩,rfl,HN,rfl⟩:=hrel;by_cases hlt:i<a.length
  ·
   obtain⟨ba,oa,x,rfl,hba,hx,hca⟩:=HA.out.get hlt (qB _) hB;have d0:w.cell? ⟨ba,oa+i*5,none⟩=some (.int .i64 x.stop):=hca 0 _ rfl;have d1:=hca 1 _ rfl;have d4:=hca 4 _ rfl;have iI:(i:Int)<(a.length:Int):=by omega
   have HX:=qA hx;clear hx hca;by_cases h1:x.stop=stop
   ·
    have q1:(x.stop != stop)=false:=by rw[h1];simp
    cases h2:x.alight with
    |false=>
     rw[h2]at d4;have HN':=qA (HN.out.next HX.out (XD h2));clear h1 h2;go_wp2;go_roundw;case rel=>exact⟨i+1,by omega,by go_num,HN',trivial⟩
     case measure=>simp[intOf];omega
    |true=>
     rw[h2]at d4;have HOA:=qA (show QA a stop=some i from Ja HN.out HX.out (XE (by omega) h1 h2));clear h1 h2;go_wp2_with fail;go_loopw [10] (fun j wr=> ∃ k:Nat,(k<=b.length-1)/\j= .int .i64 k/\Hid (QL (ZI b.length stop) b k)/\w=wr) (fun j _=>b.length-(intOf j).toNat)
     case atStart=>exact⟨0,qAD _,rfl,VE _ _,rfl⟩
     case round=>
      obtain⟨k,hk,rfl,HM,rfl⟩:=hrel;by_cases hkl:k+1<b.length
      ·
       obtain⟨bb,ob,y,rfl,hbb,hy,hcb⟩:=HB.out.get (k:=k) (by omega) (qB _) hB;have e0:w.cell? ⟨bb,ob+k*5,none⟩=some (.int .i64 y.stop):=hcb 0 _ rfl;have e2:=hcb 2 _ rfl;have e3:=hcb 3 _ rfl;have kI:(k:Int)<(b.length:Int):=by omega
       have kI1:(k:Int)+1<(b.length:Int):=by omega
       have HY:=qA hy;clear hy hcb;by_cases h3:y.stop=stop
       ·
        have q3:(y.stop==stop)=true:=by rw[h3];simp
        cases h4:y.board with
        |false=>
         rw[h4]at e3;have HM':=qA (HM.out.next HY.out (bZ h4));clear h3 h4;go_wp2;go_roundw;case rel=>exact⟨k+1,by omega,by go_num,HM',trivial⟩
         case measure=>simp[intOf];omega
        |true=>
         rw[h4]at e3;have HOB:=qA (show JW b stop=some k from Ja HM.out HY.out (bi hkl h3 h4));clear h3 h4;by_cases h5:y.depart<x.arrive
         ·
          have HR:=qA (dZ HOA.out HOB.out HX.out HY.out h5);have q5:decide (y.depart<x.arrive)=true:=decide_eq_true h5;clear h5;go_wp2_with fail;go_quiet (fail)
          go_wp2;go_ret3
          exact⟨Zq HR.out H.out,qM (qB _) _⟩
         ·
          have HR:=qA (Xp HOA.out HOB.out HX.out HY.out (by omega));have q5:decide (y.depart<x.arrive)=false:=decide_eq_false h5;clear h5;go_wp2_with fail;go_quiet (fail)
          go_wp2;go_ret3
          exact⟨Zq HR.out H.out,qM (qB _) _⟩
       ·
        have q3:(y.stop==stop)=false:=by rw[U0];exact h3
        have HM':=qA (HM.out.next HY.out (bY h3));clear h3;go_wp2;go_roundw;case rel=>exact⟨k+1,by omega,by go_num,HM',trivial⟩
        case measure=>simp[intOf];omega
      ·
       have HR:=qA (nP (a:=a) (b:=b) (stop:=stop) (XX fun j y hy=>by
        by_cases hj:j<k
        · exact HM.out j y hj hy
        · exact bW (by omega)))
       go_wp2;go_ret3
       exact⟨Zq HR.out H.out,qB _⟩
   ·
    have q1:(x.stop != stop)=true:=by simpa using h1
    have HN':=qA (HN.out.next HX.out (XC h1));clear h1;go_wp2;go_roundw;case rel=>exact⟨i+1,by omega,by go_num,HN',trivial⟩
    case measure=>simp[intOf];omega
  ·
   have HR:=qA (nO (b:=b) (show QA a stop=none from HN.out.all (by omega)));go_wp2;go_ret3
   exact⟨Zq HR.out H.out,qB _⟩
def PS (w:World) (b:Nat) (t:TripD) (v:Value):Prop:=w.cell? ⟨b,0,none⟩=some (.string t.id)/\w.cell? ⟨b,1,none⟩=some (.int .i64 t.rt)/\w.cell? ⟨b,2,none⟩=some (.int .i64 t.cal)/\w.cell? ⟨b,3,none⟩=some (.bool t.step)/\w.cell? ⟨b,4,none⟩=some v
def Ee (w:World) (t u:TripD) (vt vu s s':Value) (wx:World):Prop:= ∃ b1 b2:Nat,s= .pointer (some ⟨b1,0,none⟩)/\s'= .pointer (some ⟨b2,0,none⟩)/\(b1<wx.heap.size/\b2<wx.heap.size)/\PS wx b1 t vt/\PS wx b2 u vu/\Bl w wx
theorem Bh (w:World) (t:TripD) (v:Value) (T:TypeId):PS (w.alloc (.cells #[.string t.id, .int .i64 t.rt, .int .i64 t.cal, .bool t.step,v] T)) w.heap.size t v:=by
 refine⟨?_, ?_, ?_, ?_, ?_⟩<;>(rw[Uy (hn:=rfl)];rfl)
theorem PS.bl {w w':World} {b:Nat} {t:TripD} {v:Value} (h:PS w b t v) (hlt:b<w.heap.size) (hb:Bl w w'):PS w' b t v:=by
 obtain⟨h0,h1,h2,h3,h4⟩:=h;exact⟨((qG hb).1 _ _ hlt).trans h0,((qG hb).1 _ _ hlt).trans h1,((qG hb).1 _ _ hlt).trans h2,((qG hb).1 _ _ hlt).trans h3,((qG hb).1 _ _ hlt).trans h4⟩
theorem IZ (w:World) (t u:TripD) (vt vu:Value) (T:TypeId):Ee w t u vt vu (.pointer (some ⟨w.heap.size,0,none⟩)) (.pointer (some ⟨w.heap.size+1,0,none⟩)) (((w.alloc (.cells #[.string t.id, .int .i64 t.rt, .int .i64 t.cal, .bool t.step,vt] T)).alloc (.cells #[.string u.id, .int .i64 u.rt, .int .i64 u.cal, .bool u.step,vu] T)).drew):=by
 refine⟨_,_,rfl,rfl,⟨by simp;omega,by simp⟩, ?_, ?_,qH (qE (qE (qB _) _) _)⟩
 · exact(Bh w t vt T).bl (by simp) (qH (qE (qB _) _))
 ·
  have:=Bh (w.alloc (.cells #[.string t.id, .int .i64 t.rt, .int .i64 t.cal, .bool t.step,vt] T)) u vu T;rw[show(w.alloc (.cells #[.string t.id, .int .i64 t.rt, .int .i64 t.cal, .bool t.step,vt] T)).heap.size=w.heap.size+1 by simp]at this;exact this.bl (by simp) (qH (qB _))
theorem Ee.swap {w:World} {t u:TripD} {vt vu s s':Value} {wx:World} (h:Ee w t u vt vu s s' wx):Ee w u t vu vt s' s wx:=by
 obtain⟨b1,b2,h1,h2,⟨h3,h4⟩,h5,h6,h7⟩:=h;exact⟨b2,b1,h2,h1,⟨h4,h3⟩,h6,h5,h7⟩
theorem P9 (vl vt vf:Value) (l:List ThrD) (ts:List TripD) (fs:List FreqD) (k:Nat) (x:ThrD) (hx:l[k]? =some x) (r:Int) (H:Hid (zU (ts.map trpOf) fs (l.take k) x=r)) (hfew:l.length<=128) (B:Nat) (w:World) (hl:Vu B w vl l) (ht:vP B w vt ts) (hf:xG B w vf fs) (hB:B<=w.heap.size):
  Calls Tryz.prog 173 #[vl, .int .i64 k,vt,vf] w fun e w'=>e= .returned (.int .i64 r)/\Bl w w':=by
 obtain⟨al,capl,rfl,ll1,ll2⟩:=hl.val;obtain⟨at',capt,rfl,lt1,lt2⟩:=ht.sl.val;obtain⟨af,capf,rfl,lf1,lf2⟩:=hf.val;have HL:=qA hl;have HT:=qA ht;have HF:=qA hf;have hlt:k<l.length:=(Uw.1 hx).1;obtain⟨bl',ol,x',rfl,hbs,hx',hc⟩:=hl.get hlt (qB w) hB;obtain rfl:x=x':=by rw[hx]at hx';exact qAB hx'
 have d0:w.cell? ⟨bl',ol+k*2,none⟩=some (.int .i64 x.frm):=hc 0 _ rfl;have d1:=hc 1 _ rfl;have hkI:(k:Int)<(l.length:Int):=by omega
 have HX:=qA hx;clear hx hx' hc hl ht hf;obtain⟨w1,hw1⟩: ∃ w1,w.alloc (.cells #[.int .i64 x.frm, .int .i64 x.to] 128)=w1:=⟨_,rfl⟩;have b1:Bl w w1:=by rw[<-hw1];exact qE (qB _) _
 have t0:w1.cell? ⟨w.heap.size,0,none⟩=some (.int .i64 x.frm):=by rw[<-hw1,Uy (hn:=rfl)];rfl
 have t1:w1.cell? ⟨w.heap.size,1,none⟩=some (.int .i64 x.to):=by rw[<-hw1,Uy (hn:=rfl)];rfl
 have s1:w1.heap.size=w.heap.size+1:=by rw[<-hw1];simp
 have B1:=qA b1;have S1:=qA s1;obtain⟨e1,he1⟩: ∃ e1,Yi x.frm ts.length=e1:=⟨_,rfl⟩;obtain⟨e2,he2⟩: ∃ e2,Yi x.to ts.length=e2:=⟨_,rfl⟩;obtain⟨p,hp⟩: ∃ p,yZ (ts.map trpOf).length x.frm x.to=p:=⟨_,rfl⟩;have HPE:Hid (p=(e1&&(e2&& !(x.frm==x.to)))):=by
  show _=_
  rw[<-hp,U4];unfold yZ;rw[he1,he2]
 have HP:=qA hp;have E1:=qA he1;have E2:=qA he2;clear b1 s1 hp he1 he2;go_enter Tryz.func173,Tryz.ntmps173
 go_wp2_with fail;clear hw1;refine(GK x.frm ts.length e1 E1 w1).mono ?_;rintro e w2 ⟨rfl,rfl⟩;cases e1 with
 |false=>
  have HN:=qA (show p=false by rw[HPE.out];rfl);have HE:=qA (Bj (ts:=ts.map trpOf) (fs:=fs) (pre:=l.take k) (HP.out.trans HN.out));go_wp2;go_ret;exact⟨qR (HE.out.symm.trans H.out),B1.out⟩
 |true=>
 go_wp2_with fail;refine(GK x.to ts.length e2 E2 w1).mono ?_;rintro e w2 ⟨rfl,rfl⟩;cases e2 with
 |false=>
  have HN:=qA (show p=false by rw[HPE.out];rfl);have HE:=qA (Bj (ts:=ts.map trpOf) (fs:=fs) (pre:=l.take k) (HP.out.trans HN.out));go_wp2;go_ret;exact⟨qR (HE.out.symm.trans H.out),B1.out⟩
 |true=>
 by_cases hft:x.frm=x.to
 ·
  have qe:(x.frm==x.to)=true:=by rw[beq_iff_eq];exact hft
  have HN:=qA (show p=false by rw[HPE.out,qe];rfl);have HE:=qA (Bj (ts:=ts.map trpOf) (fs:=fs) (pre:=l.take k) (HP.out.trans HN.out));clear hft;go_wp2;go_ret;exact⟨qR (HE.out.symm.trans H.out),B1.out⟩
 have qe:(x.frm==x.to)=false:=by rw[U0];exact hft
 have HPT:Hid (yZ (ts.map trpOf).length x.frm x.to=true):=HP.out.trans (by rw[HPE.out,qe];rfl);clear hft HPE HP;obtain⟨r1,hr1⟩: ∃ r1,vM fs x.frm=r1:=⟨_,rfl⟩;obtain⟨r2,hr2⟩: ∃ r2,vM fs x.to=r2:=⟨_,rfl⟩;have R1:=qA hr1;have R2:=qA hr2;clear hr1 hr2;have z1:w.heap.size<=w1.heap.size:=by have:=S1.out;omega
 go_wp2_with fail;refine(iJ _ fs x.frm r1 R1 B w1 (HF.out.out B1.out hB) (by omega)).mono ?_;rintro e w2 ⟨rfl,rfl⟩;cases r1 with
 |true=>
  have HE:=qA (AB (ts:=ts.map trpOf) (fs:=fs) (pre:=l.take k) HPT.out (by rw[R1.out];rfl));go_wp2;go_ret;exact⟨qR (HE.out.symm.trans H.out),B1.out⟩
 |false=>
 go_wp2_with fail;refine(iJ _ fs x.to r2 R2 B w1 (HF.out.out B1.out hB) (by omega)).mono ?_;rintro e w2 ⟨rfl,rfl⟩;have HQ:Hid ((vM fs x.frm||vM fs x.to)=r2):=by show _=_;rw[R1.out,R2.out];rfl
 cases r2 with
 |true=>
  have HE:=qA (AB (ts:=ts.map trpOf) (fs:=fs) (pre:=l.take k) HPT.out HQ.out);go_wp2;go_ret;exact⟨qR (HE.out.symm.trans H.out),B1.out⟩
 |false=>
 obtain⟨⟨f1,f2⟩,⟨f3,f4⟩⟩:=JK HPT.out;rw[U4]at f2 f4;obtain⟨i1,hi1⟩: ∃ i1:Nat,x.frm=i1:=⟨x.frm.toNat,by omega⟩;obtain⟨i2,hi2⟩: ∃ i2:Nat,x.to=i2:=⟨x.to.toNat,by omega⟩;have n1:i1<ts.length:=by omega
 have n2:i2<ts.length:=by omega
 obtain⟨bt,ot,t,rfl,hbt,ht,htc⟩:=HT.out.sl.get n1 B1.out hB;obtain⟨bt',ot',u,hat,hbu,hu,huc⟩:=HT.out.sl.get n2 B1.out hB;simp only[qAA,Addr.mk.injEq]at hat;obtain⟨rfl,rfl,-⟩:=hat;have HFT:=qA (show Zc (ts.map trpOf) x.frm=trpOf t from J3 (by rw[hi1];exact ht));have HFU:=qA (show Zc (ts.map trpOf) x.to=trpOf u from J3 (by rw[hi2];exact hu));have HTR:=qA ((HT.out.ok t (Uz ht)).bl B1.out hB);have HUR:=qA ((HT.out.ok u (Uz hu)).bl B1.out hB);have hi1I:(i1:Int)<(ts.length:Int):=by omega
 have hi2I:(i2:Int)<(ts.length:Int):=by omega
 rw[hi1]at t0;rw[hi2]at t1;have HI1:=qA hi1;have HI2:=qA hi2;have a0:w1.cell? ⟨bt,ot+i1*5,none⟩=some (.string t.id):=htc 0 _ rfl;have a1:=htc 1 _ rfl;have a2:=htc 2 _ rfl;have a3:=htc 3 _ rfl;obtain⟨av,capv,hvt,lv1,lv2⟩:=HTR.out.calls.val;obtain⟨au,capu,hvu,lu1,lu2⟩:=HUR.out.calls.val;have HVT:=qA hvt;have HVU:=qA hvu;have a4:w1.cell? ⟨bt,ot+i1*5+4,none⟩=some (.slice av t.calls.length capv):=by rw[<-hvt];exact htc 4 _ rfl
 have u0:w1.cell? ⟨bt,ot+i2*5,none⟩=some (.string u.id):=huc 0 _ rfl;have u1:=huc 1 _ rfl;have u2:=huc 2 _ rfl;have u3:=huc 3 _ rfl;have u4:w1.cell? ⟨bt,ot+i2*5+4,none⟩=some (.slice au u.calls.length capu):=by rw[<-hvu];exact huc 4 _ rfl
 have htw:w.heap.size<w1.heap.size:=by have:=S1.out;omega
 clear ht hu htc huc f1 f2 f3 f4 hi1 hi2 qe hvt hvu;have hold: ∀ w':World,Bl w1 w'->w'.cell? ⟨w.heap.size,0,none⟩=some (.int .i64 i1)/\w'.cell? ⟨w.heap.size,1,none⟩=some (.int .i64 i2)/\w'.cell? ⟨bt,ot+i1*5,none⟩=some (.string t.id)/\w'.cell? ⟨bt,ot+i1*5+1,none⟩=some (.int .i64 t.rt)/\w'.cell? ⟨bt,ot+i1*5+2,none⟩=some (.int .i64 t.cal)/\w'.cell? ⟨bt,ot+i1*5+3,none⟩=some (.bool t.step)/\w'.cell? ⟨bt,ot+i1*5+4,none⟩=some (.slice av t.calls.length capv)/\w'.cell? ⟨bt,ot+i2*5,none⟩=some (.string u.id)/\w'.cell? ⟨bt,ot+i2*5+1,none⟩=some (.int .i64 u.rt)/\w'.cell? ⟨bt,ot+i2*5+2,none⟩=some (.int .i64 u.cal)/\w'.cell? ⟨bt,ot+i2*5+3,none⟩=some (.bool u.step)/\w'.cell? ⟨bt,ot+i2*5+4,none⟩=some (.slice au u.calls.length capu):=fun w' hb=>⟨((qG hb).1 _ _ htw).trans t0,((qG hb).1 _ _ htw).trans t1,((qG hb).1 _ _ hbt).trans a0,((qG hb).1 _ _ hbt).trans a1,((qG hb).1 _ _ hbt).trans a2,((qG hb).1 _ _ hbt).trans a3,((qG hb).1 _ _ hbt).trans a4,((qG hb).1 _ _ hbt).trans u0,((qG hb).1 _ _ hbt).trans u1,((qG hb).1 _ _ hbt).trans u2,((qG hb).1 _ _ hbt).trans u3,((qG hb).1 _ _ hbt).trans u4⟩
 go_upto_region 6 with fail
 go_cut [10,11] (fun s s' wx=>Ee w1 t u (.slice av t.calls.length capv) (.slice au u.calls.length capu) s s' wx)
 case first=>
  go_region_held3 (fun w'=>w'.cell? ⟨w.heap.size,0,none⟩=some (.int .i64 i1)/\w'.cell? ⟨w.heap.size,1,none⟩=some (.int .i64 i2)/\w'.cell? ⟨bt,ot+i1*5,none⟩=some (.string t.id)/\w'.cell? ⟨bt,ot+i1*5+1,none⟩=some (.int .i64 t.rt)/\w'.cell? ⟨bt,ot+i1*5+2,none⟩=some (.int .i64 t.cal)/\w'.cell? ⟨bt,ot+i1*5+3,none⟩=some (.bool t.step)/\w'.cell? ⟨bt,ot+i1*5+4,none⟩=some (.slice av t.calls.length capv)/\w'.cell? ⟨bt,ot+i2*5,none⟩=some (.string u.id)/\w'.cell? ⟨bt,ot+i2*5+1,none⟩=some (.int .i64 u.rt)/\w'.cell? ⟨bt,ot+i2*5+2,none⟩=some (.int .i64 u.cal)/\w'.cell? ⟨bt,ot+i2*5+3,none⟩=some (.bool u.step)/\w'.cell? ⟨bt,ot+i2*5+4,none⟩=some (.slice au u.calls.length capu)) ((refine hold _ ?_;repeat(first|exact qB _|refine qH ?_|refine qE ?_ _|refine zF ?_ (by simp) _))) (fail)
  all_goals
   go_wp2_with fail;go_meet
   first
   |exact IZ w1 t u _ _ _
   |exact(IZ w1 u t _ _ _).swap
 case rest=>
  obtain⟨b1,b2,rfl,rfl,⟨hb1,hb2⟩,HC1,HC2,bx⟩:=hcut;have BX:=qA bx;have HC1:=qA HC1;have HC2:=qA HC2;obtain⟨g0,g1,-⟩:=hold _ bx;have HOLD:=qA hold;have HBX:Hid (Bl w wc):=qF B1.out bx;obtain⟨c10,c11,c12,c13,c14⟩:=HC1.out;obtain⟨c20,c21,c22,c23,c24⟩:=HC2.out;have zx:=bx.size;clear hold a0 a1 a2 a3 a4 u0 u1 u2 u3 u4 t0 t1 bx c10 c11 c13 c20 c21 c23;have HFE: ∀ e:Int,jk (trpOf t) (trpOf u)=e->e≠0->Hid (zU (ts.map trpOf) fs (l.take k) x=e):=fun e he hne=>by
   have h1:jk (Zc (ts.map trpOf) x.frm) (Zc (ts.map trpOf) x.to)=e:=by rw[HFT.out,HFU.out];exact he
   exact(Np HPT.out HQ.out (by rw[h1];exact hne)).trans h1
  by_cases hcal:t.cal=u.cal
  ·
   have qc:(t.cal != u.cal)=false:=by rw[hcal];simp
   by_cases hte:t.calls=[]
   ·
    have HFO:=qA (dM (a:=trpOf t) (b:=trpOf u) hcal hte);have HE:=HFE 13 HFO.out (by decide);have qe:IntKind.i64.wrap ((t.calls.length:Int)-1)= -1:=by rw[hte];rfl
    clear hcal hte;go_wp2_with fail;go_quiet (fail)
    go_wp2;go_ret;exact⟨qR (HE.out.symm.trans H.out),qM HBX.out _⟩
   ·
    have hpt:0<t.calls.length:=List.length_pos_iff.2 hte;obtain⟨n,hn⟩: ∃ n,t.calls.length=n+1:=⟨t.calls.length-1,by omega⟩;have qe:IntKind.i64.wrap ((t.calls.length:Int)-1)=(n:Int):=by rw[IntWalk.i64_in _ (by omega)];omega
    have qn:decide ((n:Int)<0)=false:=decide_eq_false (by omega);by_cases hue:u.calls=[]
    ·
     have HFO:=qA (dN (a:=trpOf t) (b:=trpOf u) hcal hue);have HE:=HFE 13 HFO.out (by decide);have q2:((u.calls.length:Int)==0)=true:=by rw[hue];rfl
     clear hcal hte hue hn;go_wp2_with fail;go_quiet (fail)
     go_wp2;go_ret;exact⟨qR (HE.out.symm.trans H.out),qM HBX.out _⟩
    ·
     have hpu:0<u.calls.length:=List.length_pos_iff.2 hue;have HTC:=HTR.out.calls;have HUC:=HUR.out.calls;rw[HVT.out]at HTC;rw[HVU.out]at HUC;obtain⟨ba,oa,xa,hav,hba,hxa,hca⟩:=HTC.get (k:=n) (by omega) BX.out (by omega);obtain⟨bb,ob,yb,hau,hbb,hyb,hcb⟩:=HUC.get (k:=0) hpu BX.out (by omega);subst hav hau;have HFO:=qA (dO (a:=trpOf t) (b:=trpOf u) hcal hn hxa hyb);have m0:wc.cell? ⟨ba,oa+n*5,none⟩=some (.int .i64 xa.stop):=hca 0 _ rfl;have m1:=hca 1 _ rfl;have hcb': ∀ j z,(callCells yb)[j]? =some z->wc.cell? ⟨bb,ob+j,none⟩=some z:=fun j z hz=>by have:=hcb j z hz;rwa [Nat.zero_mul,Nat.add_zero]at this
     have o0:wc.cell? ⟨bb,ob,none⟩=some (.int .i64 yb.stop):=hcb' 0 _ rfl;have o2:=hcb' 2 _ rfl;have q2:((u.calls.length:Int)==0)=false:=by rw[U0];omega
     have inI:(n:Int)<(t.calls.length:Int):=by omega
     clear hcal hte hue hn hxa hyb hca hcb hcb' HTC HUC;by_cases hs:xa.stop=yb.stop
     ·
      have q3:(xa.stop != yb.stop)=false:=by rw[hs];simp
      rw[U5 (by simpa using hs)]at HFO;go_wp2_with fail;go_quiet (fail)
      generalize hwz:wc.drewN _=wz
      have bz:Bl wc wz:=by rw[<-hwz];exact qM (qB _) _
      have kc:=fun a o (h:a<wc.heap.size)=>(qG bz).1 a o h
      have c14':=(kc _ _ hb1).trans c14;have c24':=(kc _ _ hb2).trans c24;have m1':=(kc _ _ hba).trans m1;have o2':=(kc _ _ hbb).trans o2;have HBZ:Hid (Bl w wz):=qF HBX.out bz;have H1Z:Hid (Bl w1 wz):=qF BX.out bz;have zz:=bz.size;clear hwz kc c12 c22 c14 c24 m0 m1 o0 o2 bz g0 g1 qe qn;by_cases hd:yb.depart<xa.arrive
      ·
       have q4:decide (yb.depart<xa.arrive)=true:=decide_eq_true hd;have HE:=HFE 10 (HFO.out.trans (U6 hd)) (by decide);clear hs hd;go_wp2_with fail;go_quiet (fail)
       go_wp2;go_ret;exact⟨qR (HE.out.symm.trans H.out),qM HBZ.out _⟩
      ·
       have q4:decide (yb.depart<xa.arrive)=false:=decide_eq_false hd;have HFZ:Hid (jk (Zc (ts.map trpOf) x.frm) (Zc (ts.map trpOf) x.to)=0):=by
        show _=_
        rw[HFT.out,HFU.out];exact HFO.out.trans (U5 hd)
       clear hs hd HFE;go_wp2_with fail;go_quiet (fail)
       generalize hwv:wz.drewN _=wv
       have bv:Bl wz wv:=by rw[<-hwv];exact qM (qB _) _
       have HBV:Hid (Bl w wv):=qF HBZ.out bv;have H1V:Hid (Bl w1 wv):=qF H1Z.out bv;have zv:=bv.size;clear hwv c14' c24' m1' o2' bv q4 q3;go_wp2_with fail;go_loopw [13] (fun i wr=> ∃ j:Nat,j<=k/\i= .int .i64 j/\Hid (((l.take j).any fun y=>y.frm==x.frm||y.to==x.to)=false)/\Bl wv wr) (fun i _=>k-(intOf i).toNat)
       case atStart=>exact⟨0,qAD _,rfl,rfl,qB _⟩
       case round=>
        obtain⟨j,hj,rfl,HN,hbl⟩:=hrel;have HBR:Hid (Bl w wr):=qF HBV.out hbl;have H1R:Hid (Bl w1 wr):=qF H1V.out hbl;have zr:=hbl.size;obtain⟨g0,g1,-⟩:=HOLD.out wr H1R.out;by_cases hjk:j<k
        ·
         obtain⟨bl2,ol2,y,hal,hbs2,hy,hcy⟩:=HL.out.get (k:=j) (by omega) HBR.out hB;simp only[qAA,Addr.mk.injEq]at hal;obtain⟨rfl,rfl,-⟩:=hal;have p0:wr.cell? ⟨bl',ol+j*2,none⟩=some (.int .i64 y.frm):=hcy 0 _ rfl;have p1:=hcy 1 _ rfl;have jI:(j:Int)<(l.length:Int):=by omega
         have jK:(j:Int)<(k:Int):=by omega
         have HY:=qA hy;have HTK:Hid ((l.take k)[j]? =some y):=by show _=_;rw[List.getElem?_take_of_lt hjk];exact hy
         clear hy hcy;by_cases h1:y.frm=i1
         ·
          have qf:(y.frm==(i1:Int))=true:=by rw[beq_iff_eq];exact h1
          have HD:Hid (((l.take k).any fun y=>y.frm==x.frm||y.to==x.to)=true):=Zb HTK.out (by rw[HI1.out,qf];rfl);have HE:=qA (Bi HPT.out HQ.out HFZ.out HD.out);clear h1;go_wp2_with fail;go_quiet (fail)
          go_wp2;go_ret;exact⟨qR (HE.out.symm.trans H.out),qM HBR.out _⟩
         ·
          have qf:(y.frm==(i1:Int))=false:=by rw[U0];exact h1
          clear h1;by_cases h2:y.to=i2
          ·
           have qt:(y.to==(i2:Int))=true:=by rw[beq_iff_eq];exact h2
           have HD:Hid (((l.take k).any fun y=>y.frm==x.frm||y.to==x.to)=true):=Zb HTK.out (by rw[HI2.out,qt,Bool.or_true]);have HE:=qA (Bi HPT.out HQ.out HFZ.out HD.out);clear h2;go_wp2_with fail;go_quiet (fail)
           go_wp2;go_ret;exact⟨qR (HE.out.symm.trans H.out),qM HBR.out _⟩
          ·
           have qt:(y.to==(i2:Int))=false:=by rw[U0];exact h2
           have HN':Hid (((l.take (j+1)).any fun y=>y.frm==x.frm||y.to==x.to)=false):=by
            show(List.take (j+1) l).any (fun z=>z.frm==x.frm||z.to==x.to)=false
            rw[Yq (p:=fun z:ThrD=>z.frm==x.frm||z.to==x.to) HY.out HN.out,HI1.out,HI2.out,qf,qt];rfl
           clear h2;go_wp2_with fail;go_quiet (fail)
           go_wp2;go_roundw;case rel=>exact⟨j+1,by omega,by go_num,HN',qM hbl _⟩
           case measure=>simp[intOf];omega
        ·
         obtain rfl:j=k:=by omega
         obtain⟨e3,he3⟩: ∃ e3,(QC (l.take j) i2).contains (i1:Int)=e3:=⟨_,rfl⟩;have HE3:=qA he3;have hwr:w.heap.size<wr.heap.size:=by omega
         have hold: ∀ w':World,Bl wr w'->w'.cell? ⟨w.heap.size,0,none⟩=some (.int .i64 i1)/\w'.cell? ⟨w.heap.size,1,none⟩=some (.int .i64 i2):=fun w' hb=>⟨((qG hb).1 _ _ hwr).trans g0,((qG hb).1 _ _ hwr).trans g1⟩
         have hkc:(j:Int)<=(capl:Int):=by omega
         clear he3;go_wp2_with fail;go_region_held3 (fun w'=>w'.cell? ⟨w.heap.size,0,none⟩=some (.int .i64 i1)/\w'.cell? ⟨w.heap.size,1,none⟩=some (.int .i64 i2)) (first|exact hold _ (qH (qB _))|exact hold _ (qF (qH (qB _)) b5)) (first|(go_at_call 233;refine(Ho _ (l.take j) i2 (by rw[List.length_take];omega) B _ ((HL.out.take (k:=j) (by omega)).out (qF HBR.out (qH (qB _))) hB) (by simp;omega)).mono ?_;rintro e w5 ⟨v5,rfl,i5,b5⟩)|(go_at_call 232;refine(Nh _ _ i1 e3 HE3 _ _ i5 (U3 _)).mono ?_;rintro e w6 ⟨rfl,rfl⟩))
         all_goals
          have HB5:Hid (Bl w w5):=qF HBR.out (qF (qH (qB _)) b5);clear hold b5;cases e3 with
          |true=>
           have HE:=qA (IR HPT.out HQ.out HFZ.out HN.out (by rw[HI1.out,HI2.out];exact HE3.out));go_wp2;go_ret;exact⟨qR (HE.out.symm.trans H.out),HB5.out⟩
          |false=>
           have HE:=qA (Nl HPT.out HQ.out HFZ.out HN.out (by rw[HI1.out,HI2.out];exact HE3.out));go_wp2;go_ret;exact⟨qR (HE.out.symm.trans H.out),HB5.out⟩
     ·
      have q3:(xa.stop != yb.stop)=true:=by simpa using hs
      rw[U6 hs]at HFO;have HE:=HFE 13 HFO.out (by decide);clear hs;go_wp2_with fail;go_quiet (fail)
      go_wp2;go_ret;exact⟨qR (HE.out.symm.trans H.out),qM HBX.out _⟩
  ·
   have qc:(t.cal != u.cal)=true:=by simpa using hcal
   have HFO:=qA (Xb (a:=trpOf t) (b:=trpOf u) hcal);have HE:=HFE 15 HFO.out (by decide);clear hcal;go_wp2;go_ret;exact⟨qR (HE.out.symm.trans H.out),HBX.out⟩
theorem aB (vl vt vf:Value) (l:List ThrD) (ts:List TripD) (fs:List FreqD) (r:Int×Int) (H:Hid (qZ 128 (zU (ts.map trpOf) fs) l=r)) (B:Nat) (w:World) (hl:Vu B w vl l) (ht:vP B w vt ts) (hf:xG B w vf fs) (hB:B<=w.heap.size):
  Calls Tryz.prog 99 #[vl,vt,vf] w fun e w'=>e= .returned (.tuple #[.int .i64 r.1, .int .i64 r.2])/\Bl w w':=by
 obtain⟨al,capl,rfl,ll1,ll2⟩:=hl.val;have HL:=qA hl;have HT:=qA ht;have HF:=qA hf;clear hl ht hf;by_cases hmany:128<l.length
 ·
  have HR:=qA (zM (err:=zU (ts.map trpOf) fs) hmany);go_enter Tryz.func99,Tryz.ntmps99
  go_wp2;go_ret2;exact⟨qY HR.out H.out,qB _⟩
 ·
  have hfew:l.length<=128:=by omega
  have HR:Hid (wU (zU (ts.map trpOf) fs) (l.take 0) (l.drop 0)=r):=(zf hfew).symm.trans H.out;clear hmany;go_enter Tryz.func99,Tryz.ntmps99
  go_wp2_with fail;go_loopw [8] (fun i wr=> ∃ k:Nat,(k<=l.length/\i= .int .i64 k)/\Hid (wU (zU (ts.map trpOf) fs) (l.take k) (l.drop k)=r)/\Bl w wr) (fun i _=>l.length-(intOf i).toNat)
  case atStart=>exact⟨0,⟨qAD _,rfl⟩,HR,qB _⟩
  case round=>
   obtain⟨k,⟨hk,rfl⟩,HC,hbl⟩:=hrel;have z1:=hbl.size;by_cases hlt:k<l.length
   ·
    obtain⟨x,hx⟩: ∃ x,l[k]? =some x:=⟨_,U2 hlt⟩;obtain⟨e,he⟩: ∃ e,zU (ts.map trpOf) fs (l.take k) x=e:=⟨_,rfl⟩;have HX:=qA hx;have HE:=qA he;clear hx he;go_wp2_with fail;refine(P9 _ vt vf l ts fs k x HX.out e HE hfew B wr (HL.out.out hbl hB) (HT.out.bl hbl hB) (HF.out.out hbl hB) (by omega)).mono ?_;rintro e' w3 ⟨rfl,b3⟩;have B3:Hid (Bl w w3):=qF hbl b3;clear b3;by_cases h0:e=0
    ·
     have q:(e != 0)=false:=by rw[h0];rfl
     have HG:=qA (jS (err:=zU (ts.map trpOf) fs) HX.out (HE.out.trans h0));clear h0;go_wp2;go_roundw;case rel=>exact⟨k+1,⟨by omega,by go_num⟩,HG.out.symm.trans HC.out,B3.out⟩
     case measure=>simp[intOf];omega
    ·
     have q:(e != 0)=true:=by simpa using h0
     have HG:=qA (qU (err:=zU (ts.map trpOf) fs) HX.out HE.out h0);clear h0;go_wp2;go_ret2;exact⟨qY HG.out HC.out,B3.out⟩
   ·
    have HE:=qA (jy (err:=zU (ts.map trpOf) fs) (show l.length<=k by omega));go_wp2;go_ret2;exact⟨qY HE.out HC.out,hbl⟩
theorem mZ (vl vt vf:Value) (l:List wL) (ts:List TripD) (fs:List FreqD) (stops:Int) (k:Nat) (x:wL) (hx:l[k]? =some x) (r:Int) (H:Hid (zk (ts.map trpOf) fs stops (l.take k) x=r)) (hfew:l.length<=128) (B:Nat) (w:World) (hl:Ec B w vl l) (ht:vP B w vt ts) (hf:xG B w vf fs) (hB:B<=w.heap.size):
  Calls Tryz.prog 174 #[vl, .int .i64 k,vt,vf, .int .i64 stops] w fun e w'=>e= .returned (.int .i64 r)/\Bl w w':=by
 obtain⟨al,capl,rfl,ll1,ll2⟩:=hl.val;obtain⟨at',capt,rfl,lt1,lt2⟩:=ht.sl.val;obtain⟨af,capf,rfl,lf1,lf2⟩:=hf.val;have HL:=qA hl;have HT:=qA ht;have HF:=qA hf;have hlt:k<l.length:=(Uw.1 hx).1;obtain⟨bl',ol,x',rfl,hbs,hx',hc⟩:=hl.get hlt (qB w) hB;obtain rfl:x=x':=by rw[hx]at hx';exact qAB hx'
 have d0:w.cell? ⟨bl',ol+k*3,none⟩=some (.int .i64 x.frm):=hc 0 _ rfl;have d1:=hc 1 _ rfl;have d2:=hc 2 _ rfl;have hkI:(k:Int)<(l.length:Int):=by omega
 have HX:=qA hx;clear hx hx' hc hl ht hf;obtain⟨w1,hw1⟩: ∃ w1,w.alloc (.cells #[.int .i64 x.frm, .int .i64 x.to, .int .i64 x.stop] 130)=w1:=⟨_,rfl⟩;have b1:Bl w w1:=by rw[<-hw1];exact qE (qB _) _
 have t0:w1.cell? ⟨w.heap.size,0,none⟩=some (.int .i64 x.frm):=by rw[<-hw1,Uy (hn:=rfl)];rfl
 have t1:w1.cell? ⟨w.heap.size,1,none⟩=some (.int .i64 x.to):=by rw[<-hw1,Uy (hn:=rfl)];rfl
 have t2:w1.cell? ⟨w.heap.size,2,none⟩=some (.int .i64 x.stop):=by rw[<-hw1,Uy (hn:=rfl)];rfl
 have s1:w1.heap.size=w.heap.size+1:=by rw[<-hw1];simp
 have B1:=qA b1;have S1:=qA s1;obtain⟨e1,he1⟩: ∃ e1,Yi x.frm ts.length=e1:=⟨_,rfl⟩;obtain⟨e2,he2⟩: ∃ e2,Yi x.to ts.length=e2:=⟨_,rfl⟩;obtain⟨e3,he3⟩: ∃ e3,Yi x.stop stops=e3:=⟨_,rfl⟩;obtain⟨p,hp⟩: ∃ p,yZ (ts.map trpOf).length x.frm x.to=p:=⟨_,rfl⟩;have HPE:Hid (p=(e1&&(e2&& !(x.frm==x.to)))):=by
  show _=_
  rw[<-hp,U4];unfold yZ;rw[he1,he2]
 have HP:=qA hp;have E1:=qA he1;have E2:=qA he2;have E3:=qA he3;clear b1 s1 hp he1 he2 he3;go_enter Tryz.func174,Tryz.ntmps174
 go_wp2_with fail;clear hw1;refine(GK x.frm ts.length e1 E1 w1).mono ?_;rintro e w2 ⟨rfl,rfl⟩;cases e1 with
 |false=>
  have HN:=qA (show p=false by rw[HPE.out];rfl);have HE:=qA (BI (ts:=ts.map trpOf) (fs:=fs) (stops:=stops) (pre:=l.take k) (HP.out.trans HN.out));go_wp2;go_ret;exact⟨qR (HE.out.symm.trans H.out),B1.out⟩
 |true=>
 go_wp2_with fail;refine(GK x.to ts.length e2 E2 w1).mono ?_;rintro e w2 ⟨rfl,rfl⟩;cases e2 with
 |false=>
  have HN:=qA (show p=false by rw[HPE.out];rfl);have HE:=qA (BI (ts:=ts.map trpOf) (fs:=fs) (stops:=stops) (pre:=l.take k) (HP.out.trans HN.out));go_wp2;go_ret;exact⟨qR (HE.out.symm.trans H.out),B1.out⟩
 |true=>
 by_cases hft:x.frm=x.to
 ·
  have qe:(x.frm==x.to)=true:=by rw[beq_iff_eq];exact hft
  have HN:=qA (show p=false by rw[HPE.out,qe];rfl);have HE:=qA (BI (ts:=ts.map trpOf) (fs:=fs) (stops:=stops) (pre:=l.take k) (HP.out.trans HN.out));clear hft;go_wp2;go_ret;exact⟨qR (HE.out.symm.trans H.out),B1.out⟩
 have qe:(x.frm==x.to)=false:=by rw[U0];exact hft
 have HPT:Hid (yZ (ts.map trpOf).length x.frm x.to=true):=HP.out.trans (by rw[HPE.out,qe];rfl);clear hft HPE HP;go_wp2_with fail;refine(GK x.stop stops e3 E3 w1).mono ?_;rintro e w2 ⟨rfl,rfl⟩;cases e3 with
 |false=>
  have HE:=qA (F8 (ts:=ts.map trpOf) (fs:=fs) (stops:=stops) (pre:=l.take k) HPT.out E3.out);go_wp2;go_ret;exact⟨qR (HE.out.symm.trans H.out),B1.out⟩
 |true=>
 obtain⟨r1,hr1⟩: ∃ r1,vM fs x.frm=r1:=⟨_,rfl⟩;obtain⟨r2,hr2⟩: ∃ r2,vM fs x.to=r2:=⟨_,rfl⟩;have R1:=qA hr1;have R2:=qA hr2;clear hr1 hr2;have z1:w.heap.size<=w1.heap.size:=by have:=S1.out;omega
 go_wp2_with fail;refine(iJ _ fs x.frm r1 R1 B w1 (HF.out.out B1.out hB) (by omega)).mono ?_;rintro e w2 ⟨rfl,rfl⟩;cases r1 with
 |true=>
  have HE:=qA (tC (ts:=ts.map trpOf) (fs:=fs) (stops:=stops) (pre:=l.take k) HPT.out E3.out (by rw[R1.out];rfl));go_wp2;go_ret;exact⟨qR (HE.out.symm.trans H.out),B1.out⟩
 |false=>
 go_wp2_with fail;refine(iJ _ fs x.to r2 R2 B w1 (HF.out.out B1.out hB) (by omega)).mono ?_;rintro e w2 ⟨rfl,rfl⟩;have HQ:Hid ((vM fs x.frm||vM fs x.to)=r2):=by show _=_;rw[R1.out,R2.out];rfl
 cases r2 with
 |true=>
  have HE:=qA (tC (ts:=ts.map trpOf) (fs:=fs) (stops:=stops) (pre:=l.take k) HPT.out E3.out HQ.out);go_wp2;go_ret;exact⟨qR (HE.out.symm.trans H.out),B1.out⟩
 |false=>
 obtain⟨⟨f1,f2⟩,⟨f3,f4⟩⟩:=JK HPT.out;rw[U4]at f2 f4;obtain⟨i1,hi1⟩: ∃ i1:Nat,x.frm=i1:=⟨x.frm.toNat,by omega⟩;obtain⟨i2,hi2⟩: ∃ i2:Nat,x.to=i2:=⟨x.to.toNat,by omega⟩;have n1:i1<ts.length:=by omega
 have n2:i2<ts.length:=by omega
 obtain⟨bt,ot,t,rfl,hbt,ht,htc⟩:=HT.out.sl.get n1 B1.out hB;obtain⟨bt',ot',u,hat,hbu,hu,huc⟩:=HT.out.sl.get n2 B1.out hB;simp only[qAA,Addr.mk.injEq]at hat;obtain⟨rfl,rfl,-⟩:=hat;have HFT:=qA (show Zc (ts.map trpOf) x.frm=trpOf t from J3 (by rw[hi1];exact ht));have HFU:=qA (show Zc (ts.map trpOf) x.to=trpOf u from J3 (by rw[hi2];exact hu));have HTR:=qA ((HT.out.ok t (Uz ht)).bl B1.out hB);have HUR:=qA ((HT.out.ok u (Uz hu)).bl B1.out hB);have hi1I:(i1:Int)<(ts.length:Int):=by omega
 have hi2I:(i2:Int)<(ts.length:Int):=by omega
 rw[hi1]at t0;rw[hi2]at t1;have HI1:=qA hi1;have HI2:=qA hi2;have a4:w1.cell? ⟨bt,ot+i1*5+4,none⟩=some t.v:=htc 4 _ rfl;have u4:w1.cell? ⟨bt,ot+i2*5+4,none⟩=some u.v:=huc 4 _ rfl;have htw:w.heap.size<w1.heap.size:=by have:=S1.out;omega
 clear ht hu htc huc f1 f2 f3 f4 hi1 hi2 qe;have hold: ∀ w':World,Bl w1 w'->w'.cell? ⟨w.heap.size,0,none⟩=some (.int .i64 i1)/\w'.cell? ⟨w.heap.size,1,none⟩=some (.int .i64 i2)/\w'.cell? ⟨w.heap.size,2,none⟩=some (.int .i64 x.stop)/\w'.cell? ⟨bt,ot+i1*5+4,none⟩=some t.v/\w'.cell? ⟨bt,ot+i2*5+4,none⟩=some u.v:=fun w' hb=>⟨((qG hb).1 _ _ htw).trans t0,((qG hb).1 _ _ htw).trans t1,((qG hb).1 _ _ htw).trans t2,((qG hb).1 _ _ hbt).trans a4,((qG hb).1 _ _ hbt).trans u4⟩
 obtain⟨m,hm⟩: ∃ m,vI t.calls u.calls x.stop=m:=⟨_,rfl⟩;obtain⟨m1,m2,m3⟩:=m;have HM:=qA hm;have HOLD:=qA hold;clear hm;go_wp2_with fail;go_region_held3 (fun w'=>w'.cell? ⟨w.heap.size,0,none⟩=some (.int .i64 i1)/\w'.cell? ⟨w.heap.size,1,none⟩=some (.int .i64 i2)/\w'.cell? ⟨w.heap.size,2,none⟩=some (.int .i64 x.stop)/\w'.cell? ⟨bt,ot+i1*5+4,none⟩=some t.v/\w'.cell? ⟨bt,ot+i2*5+4,none⟩=some u.v) (first|exact hold _ (qH (qB _))|exact hold _ (qF (qH (qB _)) b4)) (first|(go_at_call 234;refine(Hy t.v u.v t.calls u.calls x.stop m1 m2 m3 HM B _ (HTR.out.calls.out (qH (qB _)) (by omega)) (HUR.out.calls.out (qH (qB _)) (by omega)) (by simp;omega)).mono ?_;rintro e w4 ⟨rfl,b4⟩))
 all_goals
  have HB4:Hid (Bl w w4):=qF B1.out (qF (qH (qB _)) b4);have HR4:Hid (Bl w1 w4):=qF (qH (qB _)) b4;clear hold t0 t1 t2 a4 u4 b4 d0 d1 d2;have HMM:Hid ((vI (Zc (ts.map trpOf) x.frm).calls (Zc (ts.map trpOf) x.to).calls x.stop).2.2=m3):=by
   show _=_
   rw[HFT.out,HFU.out];show(vI t.calls u.calls x.stop).2.2=m3
   rw[HM.out]
  have z4:=HR4.out.size;cases m3 with
  |false=>
   have HE:=qA (F7 (pre:=l.take k) HPT.out E3.out HQ.out HMM.out);go_wp2;go_ret;exact⟨qR (HE.out.symm.trans H.out),HB4.out⟩
  |true=>
   go_wp2_with fail;go_loopw [15] (fun i wr=> ∃ j:Nat,j<=k/\i= .int .i64 j/\Hid ((l.take j).contains x=false)/\Bl w4 wr) (fun i _=>k-(intOf i).toNat)
   case atStart=>exact⟨0,qAD _,rfl,rfl,qB _⟩
   case round=>
    obtain⟨j,hj,rfl,HN,hbl⟩:=hrel;have HBR:Hid (Bl w wr):=qF HB4.out hbl;have H1R:Hid (Bl w1 wr):=qF HR4.out hbl;have zr:=hbl.size;obtain⟨g0,g1,g2,-⟩:=HOLD.out wr H1R.out;by_cases hjk:j<k
    ·
     obtain⟨bl2,ol2,y,hal,hbs2,hy,hcy⟩:=HL.out.get (k:=j) (by omega) HBR.out hB;simp only[qAA,Addr.mk.injEq]at hal;obtain⟨rfl,rfl,-⟩:=hal;have p0:wr.cell? ⟨bl',ol+j*3,none⟩=some (.int .i64 y.frm):=hcy 0 _ rfl;have p1:=hcy 1 _ rfl;have p2:=hcy 2 _ rfl;have jI:(j:Int)<(l.length:Int):=by omega
     have jK:(j:Int)<(k:Int):=by omega
     have HY:=qA hy;have HTK:Hid ((l.take k)[j]? =some y):=by show _=_;rw[List.getElem?_take_of_lt hjk];exact hy
     clear hy hcy;by_cases hyx:y=x
     ·
      have h1:y.frm=i1:=by rw[hyx];exact HI1.out
      have h2:y.to=i2:=by rw[hyx];exact HI2.out
      have h3:y.stop=x.stop:=by rw[hyx]
      rw[h1]at p0;rw[h2]at p1;rw[h3]at p2;have HD:Hid ((l.take k).contains x=true):=List.contains_iff_mem.2 (hyx ▸ Uz HTK.out);have HE:=qA (Nc HPT.out E3.out HQ.out HMM.out HD.out);clear hyx h1 h2 h3;go_wp2_with fail;go_quiet (fail)
      go_wp2;go_ret;exact⟨qR (HE.out.symm.trans H.out),qM HBR.out _⟩
     ·
      have HN':Hid ((l.take (j+1)).contains x=false):=by
       show _=_
       rw[ql HY.out];have:=HN.out;simp only[List.contains_eq_any_beq,List.any_append,List.any_cons,List.any_nil,Bool.or_false]at this ⊢;rw[this,Bool.false_or,U0];exact fun e=>hyx e.symm
      have hne: ¬ (y.frm=i1/\y.to=i2/\y.stop=x.stop):=fun⟨h1,h2,h3⟩=>hyx (by
       have q1:=HI1.out;have q2:=HI2.out;cases x
       cases y
       simp only at q1 q2 h1 h2 h3;rw[q1,q2,h1,h2,h3])
      clear hyx;by_cases h1:y.frm=i1
      ·
       have qf:(y.frm==(i1:Int))=true:=by rw[beq_iff_eq];exact h1
       by_cases h2:y.to=i2
       ·
        have qt:(y.to==(i2:Int))=true:=by rw[beq_iff_eq];exact h2
        have qs:(y.stop==x.stop)=false:=by rw[U0];exact fun h3=>hne ⟨h1,h2,h3⟩
        clear hne h1 h2;go_wp2_with fail;go_quiet (fail)
        go_wp2;go_roundw;case rel=>exact⟨j+1,by omega,by go_num,HN',qM hbl _⟩
        case measure=>simp[intOf];omega
       ·
        have qt:(y.to==(i2:Int))=false:=by rw[U0];exact h2
        clear hne h1 h2;go_wp2_with fail;go_quiet (fail)
        go_wp2;go_roundw;case rel=>exact⟨j+1,by omega,by go_num,HN',qM hbl _⟩
        case measure=>simp[intOf];omega
      ·
       have qf:(y.frm==(i1:Int))=false:=by rw[U0];exact h1
       clear hne h1;go_wp2_with fail;go_quiet (fail)
       go_wp2;go_roundw;case rel=>exact⟨j+1,by omega,by go_num,HN',qM hbl _⟩
       case measure=>simp[intOf];omega
    ·
     obtain rfl:j=k:=by omega
     have HE:=qA (Nb HPT.out E3.out HQ.out HMM.out HN.out);go_wp2;go_ret;exact⟨qR (HE.out.symm.trans H.out),HBR.out⟩
theorem Dt (vl vt vf:Value) (l:List wL) (ts:List TripD) (fs:List FreqD) (stops:Int) (r:Int×Int) (H:Hid (qZ 128 (zk (ts.map trpOf) fs stops) l=r)) (B:Nat) (w:World) (hl:Ec B w vl l) (ht:vP B w vt ts) (hf:xG B w vf fs) (hB:B<=w.heap.size):
  Calls Tryz.prog 100 #[vl,vt,vf, .int .i64 stops] w fun e w'=>e= .returned (.tuple #[.int .i64 r.1, .int .i64 r.2])/\Bl w w':=by
 obtain⟨al,capl,rfl,ll1,ll2⟩:=hl.val;have HL:=qA hl;have HT:=qA ht;have HF:=qA hf;clear hl ht hf;by_cases hmany:128<l.length
 ·
  have HR:=qA (zM (err:=zk (ts.map trpOf) fs stops) hmany);go_enter Tryz.func100,Tryz.ntmps100
  go_wp2;go_ret2;exact⟨qY HR.out H.out,qB _⟩
 ·
  have hfew:l.length<=128:=by omega
  have HR:Hid (wU (zk (ts.map trpOf) fs stops) (l.take 0) (l.drop 0)=r):=(zf hfew).symm.trans H.out;clear hmany;go_enter Tryz.func100,Tryz.ntmps100
  go_wp2_with fail;go_loopw [10] (fun i wr=> ∃ k:Nat,(k<=l.length/\i= .int .i64 k)/\Hid (wU (zk (ts.map trpOf) fs stops) (l.take k) (l.drop k)=r)/\Bl w wr) (fun i _=>l.length-(intOf i).toNat)
  case atStart=>exact⟨0,⟨qAD _,rfl⟩,HR,qB _⟩
  case round=>
   obtain⟨k,⟨hk,rfl⟩,HC,hbl⟩:=hrel;have z1:=hbl.size;by_cases hlt:k<l.length
   ·
    obtain⟨x,hx⟩: ∃ x,l[k]? =some x:=⟨_,U2 hlt⟩;obtain⟨e,he⟩: ∃ e,zk (ts.map trpOf) fs stops (l.take k) x=e:=⟨_,rfl⟩;have HX:=qA hx;have HE:=qA he;clear hx he;go_wp2_with fail;refine(mZ _ vt vf l ts fs stops k x HX.out e HE hfew B wr (HL.out.out hbl hB) (HT.out.bl hbl hB) (HF.out.out hbl hB) (by omega)).mono ?_;rintro e' w3 ⟨rfl,b3⟩;have B3:Hid (Bl w w3):=qF hbl b3;clear b3;by_cases h0:e=0
    ·
     have q:(e != 0)=false:=by rw[h0];rfl
     have HG:=qA (jS (err:=zk (ts.map trpOf) fs stops) HX.out (HE.out.trans h0));clear h0;go_wp2;go_roundw;case rel=>exact⟨k+1,⟨by omega,by go_num⟩,HG.out.symm.trans HC.out,B3.out⟩
     case measure=>simp[intOf];omega
    ·
     have q:(e != 0)=true:=by simpa using h0
     have HG:=qA (qU (err:=zk (ts.map trpOf) fs stops) HX.out HE.out h0);clear h0;go_wp2;go_ret2;exact⟨qY HG.out HC.out,B3.out⟩
   ·
    have HE:=qA (jy (err:=zk (ts.map trpOf) fs stops) (show l.length<=k by omega));go_wp2;go_ret2;exact⟨qY HE.out HC.out,hbl⟩
end Go.Proofs.YtakedkcjplfgeaaGreatDoor.Th
