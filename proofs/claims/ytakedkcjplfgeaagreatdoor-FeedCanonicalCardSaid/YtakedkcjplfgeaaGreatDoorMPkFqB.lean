/- Contracts of the feed, proved. Conditions: those of each contract. -/
import Derived.Test.YtakedkcjplfgeaaGreatDoorMPkFqA
set_option maxRecDepth 1000000
set_option maxHeartbeats 32000000
namespace Go.Proofs.YtakedkcjplfgeaaGreatDoor.Fq
open Go.RowKit
open Frq
theorem gB (v:Value) (fs:List FreqD) (vt:Value) (ts:List TripD) (r:Int×Int) (H:Hid (qZ fs ts=r)) (B:Nat) (w:World) (ha:xG B w v fs) (ht:WV B w vt ts) (hB:B<=w.heap.size):
  Calls Tryz.prog 53 #[v,vt] w fun e w'=>e= .returned (.tuple #[.int .i64 r.1, .int .i64 r.2])/\Bl w w':=by
 have HT:=qA ht;have hT: ∃ at' capt,vt= .slice at' ts.length capt/\capt<=9223372036854775807/\ts.length<=capt:=by
  obtain⟨a,c,h1,h2,h3,_⟩:=ht.sl;exact⟨a,c,h1,by unfold maxLen at h3;exact h3,h2⟩
 obtain⟨at',capt,rfl,tcap,tlen⟩:=hT;clear ht;by_cases h64:64<fs.length
 ·
  obtain⟨b1,o1,cap1,rfl,l1,m1,hb1,-⟩:=ha.open (by omega);have HR:=qA (show r=(0,5) by rw[<-H.out];unfold qZ;rw[if_pos h64]);have hi:(64:Int)<(fs.length:Int):=by omega
  clear ha;go_enter Tryz.func53,Tryz.ntmps53
  go_wp2;go_ret2;exact⟨kR (by rw[HR.out]) (by rw[HR.out]),qB _⟩
 by_cases h0:0<fs.length
 ·
  obtain⟨b1,o1,cap1,rfl,l1,m1,hb1,hc1⟩:=ha.open h0;have H1:=qA hc1;have hi:(fs.length:Int)<=64:=by omega
  have HR:=qA (show wU ts (fs.take 0) (fs.drop 0)=r by rw[<-H.out];unfold qZ;rw[if_neg h64];rfl);clear ha hc1 h64 H;go_enter Tryz.func53,Tryz.ntmps53
  go_wp2_with fail;go_loopw [17] (fun i wr=> ∃ k:Nat,k<=fs.length/\i= .int .i64 k/\Hid (wU ts (fs.take k) (fs.drop k)=r)/\Hid (∀ g∈fs.take k,kz g)/\Bl w wr) (fun i _=>fs.length-(intOf i).toNat)
  case atStart=>exact⟨0,Nat.zero_le _,rfl,HR,by simp[Hid],qB _⟩
  case round=>
   rename World=>wo
   obtain⟨k,hk,rfl,HA,HSO,hbl⟩:=hrel;have hzw:=hbl.size;by_cases hlt:k<fs.length
   ·
    obtain⟨x,hx⟩: ∃ x,fs[k]? =some x:=⟨_,List.getElem?_eq_getElem hlt⟩;have c1: ∀ j u,(qj x)[j]? =some u->wo.cell? ⟨b1,o1+k*4+j,none⟩=some u:=fun j u hu=>by rw[(qG hbl).1 _ _ (by omega)];exact H1.out k x hx j u hu
    have d10:wo.cell? ⟨b1,o1+k*4,none⟩=some (.int .i64 x.trip):=c1 0 _ rfl;have d11:=c1 1 _ rfl;have d12:=c1 2 _ rfl;have d13:=c1 3 _ rfl;have HX:=qA hx;clear hx c1;by_cases htr:x.trip<0∨(ts.length:Int)<=x.trip
    ·
     have HE:=qA (HA.out.symm.trans (qU HX.out (Ai htr) (by decide)));rcases Int.lt_or_le x.trip 0 with hn|hn
     ·
      clear htr;go_wp2;go_ret2;exact⟨kR (by rw[HE.out]) (by rw[HE.out]),qE hbl _⟩
     ·
      have hn2:(ts.length:Int)<=x.trip:=by omega
      clear htr;go_wp2;go_ret2;exact⟨kR (by rw[HE.out]) (by rw[HE.out]),qE hbl _⟩
    ·
     obtain⟨htr0,htr1⟩:0<=x.trip/\x.trip<ts.length:=by omega
     clear htr;obtain⟨bt,ot,capt',xt,hve,-,-,hbt,hxt,hct⟩:=HT.out.sl.at (k:=x.trip.toNat) (by omega);simp only[Value.slice.injEq]at hve;obtain⟨rfl,-,-⟩:=hve;have HTO:=qA (HT.out.ok xt (List.mem_of_getElem? hxt));have HFA:=qA (show J8 ts x=Y3 xt.calls x by unfold J8;rw[hxt]);have HCT:=qA hct;clear hct hxt;go_wp2_with fail;obtain⟨w1,hw1⟩: ∃ w1,wo.alloc (.cells #[.int .i64 x.trip, .int .i64 x.frm, .int .i64 x.to, .int .i64 x.every] 126)=w1:=⟨_,rfl⟩;rw[hw1];have s1:w1.heap.size=wo.heap.size+1:=by rw[<-hw1];simp
     have HB1:Hid (Bl w w1):=by rw[<-hw1];exact qE hbl _
     have kf: ∀ j u,(qj x)[j]? =some u->w1.cell? ⟨wo.heap.size,j,none⟩=some u:=by
      intro j u hu;rw[<-hw1,World.cell?_alloc_at (hn:=rfl)];simpa[qj]using hu
     have kt: ∀ j u,(tripCells xt)[j]? =some u->w1.cell? ⟨bt,ot+x.trip.toNat*5+j,none⟩=some u:=fun j u hu=>by
      rw[(qG HB1.out).1 _ _ (by omega)];exact HCT.out j u hu
     have f0:=kf 0 _ rfl;have f1:=kf 1 _ rfl;have f2:=kf 2 _ rfl;have f3:=kf 3 _ rfl;have t0:w1.cell? ⟨bt,ot+x.trip.toNat*5,none⟩=some (.string xt.id):=kt 0 _ rfl;have t1:=kt 1 _ rfl;have t2:=kt 2 _ rfl;have t3:=kt 3 _ rfl;have t4:=kt 4 _ rfl;have hbt1:bt<w1.heap.size:=by omega
     have hold: ∀ w':World,Bl w1 w'->w'.cell? ⟨wo.heap.size,0,none⟩=some (.int .i64 x.trip)/\w'.cell? ⟨wo.heap.size,1,none⟩=some (.int .i64 x.frm)/\w'.cell? ⟨wo.heap.size,2,none⟩=some (.int .i64 x.to)/\w'.cell? ⟨wo.heap.size,3,none⟩=some (.int .i64 x.every)/\w'.cell? ⟨bt,ot+x.trip.toNat*5,none⟩=some (.string xt.id)/\w'.cell? ⟨bt,ot+x.trip.toNat*5+1,none⟩=some (.int .i64 xt.rt)/\w'.cell? ⟨bt,ot+x.trip.toNat*5+2,none⟩=some (.int .i64 xt.cal)/\w'.cell? ⟨bt,ot+x.trip.toNat*5+3,none⟩=some (.bool xt.step)/\w'.cell? ⟨bt,ot+x.trip.toNat*5+4,none⟩=some (xt.v):=fun w' hb=>⟨((qG hb).1 _ _ (by omega)).trans f0,((qG hb).1 _ _ (by omega)).trans f1,((qG hb).1 _ _ (by omega)).trans f2,((qG hb).1 _ _ (by omega)).trans f3,((qG hb).1 _ _ (by omega)).trans t0,((qG hb).1 _ _ (by omega)).trans t1,((qG hb).1 _ _ (by omega)).trans t2,((qG hb).1 _ _ (by omega)).trans t3,((qG hb).1 _ _ (by omega)).trans t4⟩
     have KF:=qA kf;clear kf kt hw1;rcases Zr x with⟨hs,ks⟩|⟨_,ks⟩
     ·
      have HK:=qA ks;have HS:=qA hs;clear hs ks;rcases Bool.eq_false_or_eq_true (Y3 xt.calls x)with kf|kf
      ·
       have HF:=qA kf;have HGO:Hid ((QH x&&J8 ts x)=true):=by show _=_;rw[HK.out,HFA.out,HF.out];rfl
       clear kf;go_region_held3 (fun w'=>w'.cell? ⟨wo.heap.size,0,none⟩=some (.int .i64 x.trip)/\w'.cell? ⟨wo.heap.size,1,none⟩=some (.int .i64 x.frm)/\w'.cell? ⟨wo.heap.size,2,none⟩=some (.int .i64 x.to)/\w'.cell? ⟨wo.heap.size,3,none⟩=some (.int .i64 x.every)/\w'.cell? ⟨bt,ot+x.trip.toNat*5,none⟩=some (.string xt.id)/\w'.cell? ⟨bt,ot+x.trip.toNat*5+1,none⟩=some (.int .i64 xt.rt)/\w'.cell? ⟨bt,ot+x.trip.toNat*5+2,none⟩=some (.int .i64 xt.cal)/\w'.cell? ⟨bt,ot+x.trip.toNat*5+3,none⟩=some (.bool xt.step)/\w'.cell? ⟨bt,ot+x.trip.toNat*5+4,none⟩=some (xt.v)) (first|exact hold _ (qH (qB _))|exact hold _ (qF (qH (qB _)) b3)|exact hold _ (qF (qF (qH (qB _)) b3) b4)) (first|(go_at_call 123;refine(iO x true HK _).mono ?_;rintro e w3 ⟨rfl,b3⟩)|(go_at_call 124;refine(Fe xt.id xt.rt xt.cal xt.step xt.v xt.calls x HS.out true HF B _ ((Jv.bl HTO.out (qF HB1.out (qF (qH (qB _)) b3)) hB).calls) (by have:=b3.size;simp at this;omega) HTO.out.ok HTO.out.len).mono ?_;rintro e w4 ⟨rfl,b4⟩))
       all_goals
        have B4:Hid (Bl w1 w4):=qF (qF (qH (qB _)) b3) b4;obtain⟨g0,g1,g2,g3,-⟩:=hold _ B4.out;clear hold t0 t1 t2 t3 t4 f0 f1 f2 f3;go_wp2_with fail;refine(gG x HS _).mono ?_;rintro e w5 ⟨rfl,b5⟩;obtain⟨cc0,cc1⟩:=QE x HS.out;have B5:Hid (Bl w1 w5):=qF B4.out b5;have s5:wo.heap.size+1<=w5.heap.size:=by have:=B5.out.size;omega
        clear g0 g1 g2 g3 b3 b4 b5;go_wp2_with fail;have hb1w:b1<w1.heap.size:=by omega
        have HSO':=HSO;go_loopw [8,9,53] (fun n m i wr=> ∃ j:Nat,j<=k/\i= .int .i64 j/\n= .int .i64 (Ze x+yj x (fs.take j))/\m= .bool ((fs.take j).any (ku x))/\Bl w5 wr) (fun _ _ i _=>k-(intOf i).toNat)
        case atStart=>exact⟨0,Nat.zero_le _,rfl,by simp[yj],rfl,qB _⟩
        case round=>
         obtain⟨j,hj,rfl,rfl,rfl,hbq⟩:=hrel;have hzq:=hbq.size;have HBQ:Hid (Bl w1 wr):=qF B5.out hbq;have gx: ∀ jj u,(qj x)[jj]? =some u->wr.cell? ⟨wo.heap.size,jj,none⟩=some u:=fun jj u hu=>by rw[(qG HBQ.out).1 _ _ (by omega)];exact KF.out jj u hu
         have hsum:=pW x (fs.take j) (fun g hg=>HSO.out g (List.mem_of_mem_take (by rw[List.take_take,Nat.min_eq_left hj];exact hg)));rw[List.length_take,Nat.min_eq_left (by omega)]at hsum;by_cases hjk:j<k
         ·
          obtain⟨y,hy⟩: ∃ y,fs[j]? =some y:=⟨_,List.getElem?_eq_getElem (by omega)⟩;have cy: ∀ jj u,(qj y)[jj]? =some u->wr.cell? ⟨b1,o1+j*4+jj,none⟩=some u:=fun jj u hu=>by rw[(qG HBQ.out).1 _ _ hb1w,(qG HB1.out).1 _ _ (by omega)];exact H1.out j y hy jj u hu
          have e0:wr.cell? ⟨b1,o1+j*4,none⟩=some (.int .i64 y.trip):=cy 0 _ rfl;have e1:=cy 1 _ rfl;have e2:=cy 2 _ rfl;have e3:=cy 3 _ rfl;have g0:=gx 0 _ rfl;have g1:=gx 1 _ rfl;have g2:=gx 2 _ rfl;have g3:=gx 3 _ rfl;have HY:=qA hy;have HYS:Hid (kz y):=HSO.out y (List.mem_iff_getElem?.2 ⟨j,by rw[List.getElem?_take_of_lt hjk];exact hy⟩);have HSU:Hid (yj x (fs.take (j+1))=yj x (fs.take j)+KO x y):=by show _=_;rw[ql hy,Yg]
          have HAN:Hid ((fs.take (j+1)).any (ku x)=((fs.take j).any (ku x)||ku x y)):=by show _=_;rw[ql hy,List.any_append];simp
          generalize yj x (fs.take j)=n at*
          generalize (fs.take j).any (ku x)=m at*
          obtain⟨n0,n1⟩:=hsum;have hfar:Hid (wo.heap.size<wr.heap.size):=by show _<_;omega
          have a0:(wr.alloc (.cells #[.int .i64 y.trip, .int .i64 y.frm, .int .i64 y.to, .int .i64 y.every] 126)).cell? ⟨wo.heap.size,0,none⟩=some (.int .i64 x.trip):=by rw[(qG (qE (qB wr) _)).1 _ _ hfar.out];exact g0
          clear hy cy gx;by_cases he:y.trip=x.trip
          ·
           have q:(y.trip==x.trip)=true:=by rw[beq_iff_eq];exact he
           obtain⟨y0,y1⟩:=QE y HYS.out;have HSU2:=qA (show Ze x+yj x (fs.take (j+1))=Ze x+n+Ze y by rw[HSU.out,KO,q];simp;omega);have HAN2:=qA (show(fs.take (j+1)).any (ku x)=(m||(decide (y.frm<x.to)&&decide (x.frm<y.to))) by rw[HAN.out,ku,q];rfl);clear HSU HAN he;go_wp2_with fail;obtain⟨wy,hwy⟩: ∃ wy,wr.alloc (.cells #[.int .i64 y.trip, .int .i64 y.frm, .int .i64 y.to, .int .i64 y.every] 126)=wy:=⟨_,rfl⟩;rw[hwy];have BY:Hid (Bl wr wy):=by rw[<-hwy];exact qE (qB _) _
           have sy:wy.heap.size=wr.heap.size+1:=by rw[<-hwy];simp
           have ky: ∀ jj u,(qj y)[jj]? =some u->wy.cell? ⟨wr.heap.size,jj,none⟩=some u:=by
            intro jj u hu;rw[<-hwy,World.cell?_alloc_at (hn:=rfl)];simpa[qj]using hu
           clear hwy a0 e0 e1 e2 e3 g0;refine(gG y HYS _).mono ?_;rintro e w6 ⟨rfl,b6⟩;have p1:w6.cell? ⟨wo.heap.size,1,none⟩=some (.int .i64 x.frm):=by rw[(qG b6).1 _ _ (by omega),(qG BY.out).1 _ _ hfar.out];exact g1
           have p2:w6.cell? ⟨wo.heap.size,2,none⟩=some (.int .i64 x.to):=by rw[(qG b6).1 _ _ (by omega),(qG BY.out).1 _ _ hfar.out];exact g2
           have q1:w6.cell? ⟨wr.heap.size,1,none⟩=some (.int .i64 y.frm):=by rw[(qG b6).1 _ _ (by omega)];exact ky 1 _ rfl
           have q2:w6.cell? ⟨wr.heap.size,2,none⟩=some (.int .i64 y.to):=by rw[(qG b6).1 _ _ (by omega)];exact ky 2 _ rfl
           have B6:Hid (Bl w5 w6):=qF hbq (qF BY.out b6);clear ky g1 g2 g3 b6;cases m with
           |true=>
            rw[Bool.true_or]at HAN2;go_wp2;go_roundw;case rel=>exact⟨j+1,by omega,by go_num,by rw[HSU2.out],by rw[HAN2.out],B6.out⟩
            case measure=>simp[intOf];omega
           |false=>
            rw[Bool.false_or]at HAN2;by_cases c1:y.frm<x.to
            ·
             by_cases c2:x.frm<y.to
             ·
              have HAN3:=qA (show(fs.take (j+1)).any (ku x)=true by rw[HAN2.out,decide_eq_true c1,decide_eq_true c2];rfl);go_wp2;go_roundw;case rel=>exact⟨j+1,by omega,by go_num,by rw[HSU2.out],by rw[HAN3.out],B6.out⟩
              case measure=>simp[intOf];omega
             ·
              have c2':decide (x.frm<y.to)=false:=decide_eq_false c2;have HAN3:=qA (show(fs.take (j+1)).any (ku x)=false by rw[HAN2.out,decide_eq_false c2,Bool.and_false]);go_wp2;go_roundw;case rel=>exact⟨j+1,by omega,by go_num,by rw[HSU2.out],by rw[HAN3.out],B6.out⟩
              case measure=>simp[intOf];omega
            ·
             have c1':decide (y.frm<x.to)=false:=decide_eq_false c1;have HAN3:=qA (show(fs.take (j+1)).any (ku x)=false by rw[HAN2.out,decide_eq_false c1,Bool.false_and]);go_wp2;go_roundw;case rel=>exact⟨j+1,by omega,by go_num,by rw[HSU2.out],by rw[HAN3.out],B6.out⟩
             case measure=>simp[intOf];omega
          ·
           have q:(y.trip==x.trip)=false:=by rw[beq_eq_false_iff_ne];exact he
           have HSU2:=qA (show yj x (fs.take (j+1))=n by rw[HSU.out,KO,q];simp);have HAN2:=qA (show(fs.take (j+1)).any (ku x)=m by rw[HAN.out,ku,q];simp);clear HSU HAN he;go_wp2;go_roundw;case rel=>exact⟨j+1,by omega,by go_num,by rw[HSU2.out],by rw[HAN2.out],qE hbq _⟩
           case measure=>simp[intOf];omega
         ·
          obtain rfl:j=k:=by omega
          have HN:=qA (Aj (pre:=fs.take j) htr0 htr1 HGO.out);have HBW:Hid (Bl w wr):=qF HB1.out HBQ.out;generalize yj x (fs.take j)=n at*
          generalize (fs.take j).any (ku x)=m at*
          obtain⟨n0,n1⟩:=hsum;clear gx;by_cases h256:256<Ze x+n
          ·
           have HE:=qA (HA.out.symm.trans (qU HX.out (by rw[HN.out,if_pos h256]) (by decide)));go_wp2;go_ret2;exact⟨kR (by rw[HE.out]) (by rw[HE.out]),HBW.out⟩
          ·
           have h256':Ze x+n<=256:=by omega
           cases m with
           |true=>
            have HE:=qA (HA.out.symm.trans (qU HX.out (by rw[HN.out,if_neg h256,if_pos rfl]) (by decide)));clear h256;go_wp2;go_ret2;exact⟨kR (by rw[HE.out]) (by rw[HE.out]),HBW.out⟩
           |false=>
            have HE0:=qA (show Zi ts (fs.take j) x=0 by rw[HN.out,if_neg h256];rfl);have HE:=qA ((jS HX.out HE0.out).symm.trans HA.out);have HSN:Hid (∀ g∈fs.take (j+1),kz g):=by
             intro g hg;rw[ql HX.out,List.mem_append]at hg;rcases hg with hg|hg
             · exact HSO.out g hg
             · rw[List.mem_singleton]at hg;rw[hg];exact HS.out
            clear h256;go_wp2;go_roundw;case rel=>exact⟨j+1,by omega,by go_num,HE,HSN,HBW.out⟩
            case measure=>simp[intOf];omega
      ·
       have HF:=qA kf;have HE:=qA (HA.out.symm.trans (qU HX.out (Yz htr0 htr1 (by rw[HK.out,HFA.out,kf];rfl)) (by decide)));clear kf;go_region_held3 (fun w'=>w'.cell? ⟨wo.heap.size,0,none⟩=some (.int .i64 x.trip)/\w'.cell? ⟨wo.heap.size,1,none⟩=some (.int .i64 x.frm)/\w'.cell? ⟨wo.heap.size,2,none⟩=some (.int .i64 x.to)/\w'.cell? ⟨wo.heap.size,3,none⟩=some (.int .i64 x.every)/\w'.cell? ⟨bt,ot+x.trip.toNat*5,none⟩=some (.string xt.id)/\w'.cell? ⟨bt,ot+x.trip.toNat*5+1,none⟩=some (.int .i64 xt.rt)/\w'.cell? ⟨bt,ot+x.trip.toNat*5+2,none⟩=some (.int .i64 xt.cal)/\w'.cell? ⟨bt,ot+x.trip.toNat*5+3,none⟩=some (.bool xt.step)/\w'.cell? ⟨bt,ot+x.trip.toNat*5+4,none⟩=some (xt.v)) (first|exact hold _ (qH (qB _))|exact hold _ (qF (qH (qB _)) b3)|exact hold _ (qF (qF (qH (qB _)) b3) b4)) (first|(go_at_call 123;refine(iO x true HK _).mono ?_;rintro e w3 ⟨rfl,b3⟩)|(go_at_call 124;refine(Fe xt.id xt.rt xt.cal xt.step xt.v xt.calls x HS.out false HF B _ ((Jv.bl HTO.out (qF HB1.out (qF (qH (qB _)) b3)) hB).calls) (by have:=b3.size;simp at this;omega) HTO.out.ok HTO.out.len).mono ?_;rintro e w4 ⟨rfl,b4⟩))
       all_goals
        go_wp2;go_ret2;exact⟨kR (by rw[HE.out]) (by rw[HE.out]),qF HB1.out (qF (qF (qH (qB _)) b3) b4)⟩
     ·
      have HK:=qA ks;have HE:=qA (HA.out.symm.trans (qU HX.out (Yz htr0 htr1 (by rw[ks];rfl)) (by decide)));clear ks;first
      |
       go_region_with ((first
        |(go_at_call 123;refine(iO x false HK _).mono ?_;rintro e w3 ⟨rfl,b3⟩)))
      |fail
      all_goals
       go_wp2;go_ret2;exact⟨kR (by rw[HE.out]) (by rw[HE.out]),qF HB1.out (qF (qH (qB _)) b3)⟩
   ·
    have HE:=qA (HA.out.symm.trans (jy (by omega)));go_wp2;go_ret2;exact⟨kR (by rw[HE.out]) (by rw[HE.out]),hbl⟩
 ·
  obtain⟨a1,c1,rfl,m1,rfl⟩:=ha.empty (by omega);have HR:=qA (show r=(0,0) by rw[<-H.out];rfl);go_enter Tryz.func53,Tryz.ntmps53
  go_wp2_with fail;refine wp_loop_rounds 1 ?_;rw[rounds_succ];go_wp2;go_ret2;exact⟨kR (by rw[HR.out]) (by rw[HR.out]),qB _⟩
end Go.Proofs.YtakedkcjplfgeaaGreatDoor.Fq
