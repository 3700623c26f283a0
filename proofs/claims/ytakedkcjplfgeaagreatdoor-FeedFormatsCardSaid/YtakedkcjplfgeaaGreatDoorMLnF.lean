/- Contracts, proved. Conditions: each contract's own. -/
import Derived.Test.YtakedkcjplfgeaaGreatDoorMXA
set_option maxRecDepth 1000000
set_option maxHeartbeats 32000000
namespace Go.Proofs.YtakedkcjplfgeaaGreatDoor
open Go.RowKit
open Frq Thr Tt Num Clk Dat Fld
def Ur (k:Nat):Bool:=k==0||(k==1||(k==2||(k==4||(k==8||(k==9||k==10)))))
def Us (x:List UInt8):Bool:=match ZM (yK (yM x).1 0)with
 |some k=>Ur k
 |none=>true
theorem Sv (B g rb N:Nat) (m:Int) (vs:Nat->Value) (ts:List TripD) (mb own:Nat->Nat) (s:St) (ids:Nat->List (List UInt8)) (o:Bool) (f0:List UInt8) (fs:List (List UInt8)) (n:Int) (s':St) (E:Int) (k:Nat) (hk:ZM f0=some k) (hok:Ur k=true) (hlen:fs.length+1=wM k) (hcall:k=10->ts≠[])
  (HF:Hid (qy s k (f0::fs) n=(s',E))) (hl: ∀ x∈fs,x.length<=131072) (hN:ww N s) (hN2:N<=1000000) (hid: ∀ j,j<4->ids j=yX s.t j) (w:World) (h:kN B g rb m 0 vs ts mb own s ids o fs w):
  Calls Tryz.prog 41 #[.pointer (some ⟨g,0,none⟩),qP f0, .int .i64 n] w fun q w'=>q= .returned (.tuple #[])/\Ym B g rb m E mb own s' o w w':=by
 rcases Xk f0 with rfl|rfl|rfl|rfl|rfl|rfl|rfl|rfl|rfl|rfl|rfl|rfl|⟨n0,n1,n2,n3,n4,n5,n6,n7,n8,n9,n10,n11,hk0⟩
 ·
  obtain rfl:0=k:=qAB (show some 0=some k by rw[<-hk];decide);obtain⟨f1,f2,f3,f4,rfl⟩: ∃ f1 f2 f3 f4,fs=[f1,f2,f3,f4]:=by
   match fs,hlen with
   |[f1,f2,f3,f4],_=>exact⟨f1,f2,f3,f4,rfl⟩
  exact LP B g rb N m vs ts mb own s ids o f1 f2 f3 f4 n s' E HF (hl f1 (by simp)) (hl f2 (by simp)) (hl f4 (by simp)) hN hN2 hid w h
 ·
  obtain rfl:1=k:=qAB (show some 1=some k by rw[<-hk];decide);obtain⟨f1,f2,f3,rfl⟩: ∃ f1 f2 f3,fs=[f1,f2,f3]:=by
   match fs,hlen with
   |[f1,f2,f3],_=>exact⟨f1,f2,f3,rfl⟩
  exact LQ B g rb N m vs ts mb own s ids o f1 f2 f3 n s' E HF (hl f1 (by simp)) hN hN2 hid w h
 ·
  obtain rfl:2=k:=qAB (show some 2=some k by rw[<-hk];decide);obtain⟨f1,f2,f3,f4,rfl⟩: ∃ f1 f2 f3 f4,fs=[f1,f2,f3,f4]:=by
   match fs,hlen with
   |[f1,f2,f3,f4],_=>exact⟨f1,f2,f3,f4,rfl⟩
  exact LU B g rb N m vs ts mb own s ids o f1 f2 f3 f4 n s' E HF (hl f1 (by simp)) hN hN2 hid w h
 ·
  obtain rfl:3=k:=qAB (show some 3=some k by rw[<-hk];decide);exact absurd hok (by decide)
 ·
  obtain rfl:4=k:=qAB (show some 4=some k by rw[<-hk];decide);obtain⟨f1,f2,f3,f4,rfl⟩: ∃ f1 f2 f3 f4,fs=[f1,f2,f3,f4]:=by
   match fs,hlen with
   |[f1,f2,f3,f4],_=>exact⟨f1,f2,f3,f4,rfl⟩
  exact LW B g rb N m vs ts mb own s ids o f1 f2 f3 f4 n s' E HF (hl f1 (by simp)) (hl f2 (by simp)) (hl f3 (by simp)) hN hN2 hid w h
 ·
  obtain rfl:5=k:=qAB (show some 5=some k by rw[<-hk];decide);exact absurd hok (by decide)
 ·
  obtain rfl:6=k:=qAB (show some 6=some k by rw[<-hk];decide);exact absurd hok (by decide)
 ·
  obtain rfl:7=k:=qAB (show some 7=some k by rw[<-hk];decide);exact absurd hok (by decide)
 ·
  obtain rfl:8=k:=qAB (show some 8=some k by rw[<-hk];decide);obtain⟨f1,f2,f3,f4,rfl⟩: ∃ f1 f2 f3 f4,fs=[f1,f2,f3,f4]:=by
   match fs,hlen with
   |[f1,f2,f3,f4],_=>exact⟨f1,f2,f3,f4,rfl⟩
  exact QP g _ n (by decide) (by decide) (by decide) (by decide) (by decide) (by decide) _ w (LJ B g rb N m vs ts mb own s ids o f1 f2 f3 f4 n s' E HF (hl f1 (by simp)) (hl f2 (by simp)) (hl f3 (by simp)) hN hN2 hid w h)
 ·
  obtain rfl:9=k:=qAB (show some 9=some k by rw[<-hk];decide);obtain⟨f1,f2,f3,f4,f5,f6,rfl⟩: ∃ f1 f2 f3 f4 f5 f6,fs=[f1,f2,f3,f4,f5,f6]:=by
   match fs,hlen with
   |[f1,f2,f3,f4,f5,f6],_=>exact⟨f1,f2,f3,f4,f5,f6,rfl⟩
  exact QP g _ n (by decide) (by decide) (by decide) (by decide) (by decide) (by decide) _ w (LK B g rb N m vs ts mb own s ids o f1 f2 f3 f4 f5 f6 n s' E HF (hl f2 (by simp)) (hl f3 (by simp)) (hl f4 (by simp)) (hl f5 (by simp)) (hl f6 (by simp)) hN hN2 hid w h)
 ·
  obtain rfl:10=k:=qAB (show some 10=some k by rw[<-hk];decide);obtain⟨f1,f2,f3,f4,rfl⟩: ∃ f1 f2 f3 f4,fs=[f1,f2,f3,f4]:=by
   match fs,hlen with
   |[f1,f2,f3,f4],_=>exact⟨f1,f2,f3,f4,rfl⟩
  obtain⟨pre,x,rfl⟩: ∃ pre x,ts=pre++[x]:=⟨ts.dropLast,ts.getLast (hcall rfl),(List.dropLast_concat_getLast (hcall rfl)).symm⟩;exact Fh B g rb N m vs pre x mb own s ids o f1 f2 f3 f4 n s' E HF (hl f1 (by simp)) hN hN2 hid w h
 ·
  obtain rfl:11=k:=qAB (show some 11=some k by rw[<-hk];decide);exact absurd hok (by decide)
 ·
  rw[hk0]at hk;cases hk
theorem UI (B g N:Nat) (m:Int) (mb own:Nat->Nat) (s:St) (x:List UInt8) (hx:x.length<=131072) (hK:Hid (Us x=true)) (n:Int) (s':St) (E:Int) (H:Hid (vN s x n=(s',E))) (hN2:N<=999999) (w:World) (h:Eb B g N m mb own s w):
  Calls Tryz.prog 20 #[.pointer (some ⟨g,0,none⟩),qP x, .int .i64 n] w fun q w'=>q= .returned (.int .i64 E)/\ ∃ own',Eb B g (N+1) m mb own' s' w'/\Mv own w own' w':=by
 have HF:=qA h;cases x with
 |nil=>
  have hq:(s,(0:Int))=(s',E):=by rw[<-H.out];rfl
  obtain⟨e1,e2⟩:=qAE hq;subst e1 e2;clear H hq;go_enter Tryz.func20,Tryz.ntmps20
  go_wp2;go_ret;exact⟨rfl,own,HF.out.more (by omega),Mv.refl own w⟩
 |cons b r=>
  have y0: ∀ w:World,(Instr.index 9 (qP (b::r)) (.int .i64 0)).run Tryz.prog w= .ok (.int .u8 (b.toNat:Int)) w:=fun w=>Nu.KI ⟨(b::r).toArray⟩ 0 0 rfl (by show 0<(b::r).toArray.size;simp) w
  by_cases h35:b=35
  ·
   have hq:(s,(0:Int))=(s',E):=by rw[<-H.out];unfold vN;rw[U6 (.inr (by rw[h35];rfl))]
   obtain⟨e1,e2⟩:=qAE hq;subst e1 e2;obtain⟨u1,-⟩:=ZX (n:=35) (k:=35) (by omega) rfl h35;clear H hq;go_enter Tryz.func20,Tryz.ntmps20
   go_wp2;go_ret;exact⟨rfl,own,HF.out.more (by omega),Mv.refl own w⟩
  ·
   obtain⟨u1,-⟩:=xY (n:=35) (k:=35) rfl h35;have hno: ¬ ((b::r)=[]∨(b::r).head?=some 35):=by rintro(k|k);(cases k);(exact h35 (qAB k))
   have HNO:=qA hno;obtain⟨⟨l,e⟩,hs⟩: ∃ p,yM (b::r)=p:=⟨_,rfl⟩;have hsp:=fun w=>NE ⟨(b::r).toArray⟩ (VO (b::r) (by omega)) l e hs w
   have HSP:=qA hs;clear hs hno h35;by_cases he:e=0
   ·
    subst he;have hne:=D6 HSP.out (by simp);obtain⟨f0,fs,rfl⟩: ∃ f0 fs,l=f0::fs:=by cases l with
     |nil=>exact absurd rfl hne
     |cons f0 fs=>exact⟨f0,fs,rfl⟩
    have hlen:=ZU HSP.out;have hl0: ∀ y∈fs,y.length<=131072:=fun y hy=>Ux (hlen y (List.mem_cons_of_mem _ hy)) hx
    have HL0:=qA hl0;clear hne hlen hl0;cases hk:ZM f0 with
    |none=>
     have hq:(s,(41:Int))=(s',E):=(tq HNO.out HSP.out hk).symm.trans H.out;obtain⟨e1,e2⟩:=qAE hq;subst e1 e2;have hsz:=fun w=>BB f0 0 (by show eX f0=0;unfold eX;rw[hk]) w
     clear H HNO hq hk;go_enter Tryz.func20,Tryz.ntmps20
     go_wp2_with (go_at_call 39;refine(hsp _).mono ?_)
     intro y1 w1;first
      |(intro v1 hy1 o1 b1;subst hy1)
      |rintro⟨v1,rfl,o1,b1⟩
     obtain⟨pb,po,pc,rfl,k1,k2,k3,hc⟩:=(Qz o1).open (by simp);have x0:w1.cell? ⟨pb,po,none⟩=some (qP f0):=hc 0 _ rfl 0 _ rfl;have B1:=qA b1;have hpos:(0:Int)<((fs.length:Int)+1):=by omega
     simp only[U7]at k1 ⊢;clear hc b1 o1;go_wp2_with (go_at_call 40;refine(hsz _).mono ?_;rintro y2 w2 ⟨rfl,hw2⟩;obtain rfl:=hw2.symm)
     go_ret;exact⟨rfl,own,(HF.out.mv B1.out).more (by omega),yJ B1.out⟩
    |some k=>
     have HOK:=qA (show Ur k=true by
      have h9:(match ZM (yK (yM (b::r)).1 0)with
       |some k=>Ur k
       |none=>true)=true:=hK.out
      rw[HSP.out]at h9;have h8:ZM (yK ((f0::fs,(0:Int)):List (List UInt8)×Int).1 0)=some k:=hk;rw[h8]at h9;exact h9)
     have HL:=qA ((tu (s:=s) (n:=n) HNO.out HSP.out (k:=k) hk).symm.trans H.out);have hsz:=fun w=>BB f0 (wM k) (by show eX f0=wM k;unfold eX;rw[hk]) w
     have hk12:k<12:=(Uw.1 (yw hk)).1;have hc0:3<=wM k/\wM k<=7:=by
      rcases k with _|_|_|_|_|_|_|_|_|_|_|_|k
      all_goals first
       |exact⟨by decide,by decide⟩
       |omega
     have cz:((wM k:Int)==0)=false:=by rw[U0];omega
     obtain⟨cn,hcn⟩: ∃ cn,wM k=cn:=⟨_,rfl⟩;have HCN:=qA hcn;rw[hcn]at hsz cz hc0;clear H HNO hcn;by_cases hlen:fs.length+1=cn
     ·
      have ce:((cn:Int) != (fs.length:Int)+1)=false:=by rw[bne_eq_false_iff_eq];omega
      have HLEN:=qA hlen;have HL2:=qA (show(if k=10/\s.opened=false then(s,(8:Int))else if k=11/\0<s.rules then(s,6)else qy s k (f0::fs) n)=(s',E) by rw[<-HL.out,U5 (c:=(f0::fs).length≠wM k) (fun h=>h (by rw[HCN.out];exact hlen))]);clear HL hlen;obtain⟨u,e0,vs,ts,ids,fa,pts,hid⟩:=HF.out.mem;have c30:w.cell? ⟨g,30,none⟩=some (.bool s.opened):=qC fa 30 _ rfl;have c29:w.cell? ⟨g,29,none⟩=some (.int .i64 s.rules):=qC fa 29 _ rfl;have hgl:=lt_of_block fa;have FA:=qA fa;have PT:=qA pts;clear fa pts;by_cases hbad1:k=10/\s.opened=false
      ·
       obtain⟨rfl,hb2⟩:=hbad1;obtain rfl:[99,97,108,108]=f0:=qAB (show some [99,97,108,108]=some f0 from(yw hk));have hq:(s,(8:Int))=(s',E):=by rw[<-HL2.out];rw[U6 ⟨rfl,hb2⟩]
       obtain⟨e1,e2⟩:=qAE hq;subst e1 e2;rw[hb2]at c30;clear HL2 hq;go_enter Tryz.func20,Tryz.ntmps20
       go_wp2_with (go_at_call 39;refine(hsp _).mono ?_)
       intro y1 w1;first
        |(intro v1 hy1 o1 b1;subst hy1)
        |rintro⟨v1,rfl,o1,b1⟩
       obtain⟨pb,po,pc,rfl,k1,k2,k3,hc⟩:=(Qz o1).open (by simp);have x0:w1.cell? ⟨pb,po,none⟩=some (qP [99,97,108,108]):=hc 0 _ rfl 0 _ rfl;have hpos:(0:Int)<((fs.length:Int)+1):=by omega
       have d30:w1.cell? ⟨g,30,none⟩=some (.bool false):=((qG b1).1 _ _ hgl).trans c30;have d29:w1.cell? ⟨g,29,none⟩=some (.int .i64 s.rules):=((qG b1).1 _ _ hgl).trans c29;have B1:=qA b1;simp only[U7]at k1 ⊢;clear hc b1 o1;go_wp2_with (go_at_call 40;refine(hsz _).mono ?_;rintro y2 w2 ⟨rfl,hw2⟩;obtain rfl:=hw2.symm)
       go_ret;exact⟨rfl,own,(HF.out.mv B1.out).more (by omega),yJ B1.out⟩
      ·
       by_cases hbad2:k=11/\0<s.rules
       ·
        obtain⟨rfl,hb2⟩:=hbad2;obtain rfl:[102,97,114,101,115]=f0:=qAB (show some [102,97,114,101,115]=some f0 from(yw hk));have hq:(s,(6:Int))=(s',E):=by rw[<-HL2.out];rw[U5 (by rintro⟨h,-⟩;exact absurd h (by decide)),U6 ⟨rfl,hb2⟩]
        obtain⟨e1,e2⟩:=qAE hq;subst e1 e2;clear HL2 hq;go_enter Tryz.func20,Tryz.ntmps20
        go_wp2_with (go_at_call 39;refine(hsp _).mono ?_)
        intro y1 w1;first
         |(intro v1 hy1 o1 b1;subst hy1)
         |rintro⟨v1,rfl,o1,b1⟩
        obtain⟨pb,po,pc,rfl,k1,k2,k3,hc⟩:=(Qz o1).open (by simp);have x0:w1.cell? ⟨pb,po,none⟩=some (qP [102,97,114,101,115]):=hc 0 _ rfl 0 _ rfl;have hpos:(0:Int)<((fs.length:Int)+1):=by omega
        have d30:w1.cell? ⟨g,30,none⟩=some (.bool s.opened):=((qG b1).1 _ _ hgl).trans c30;have d29:w1.cell? ⟨g,29,none⟩=some (.int .i64 s.rules):=((qG b1).1 _ _ hgl).trans c29;have B1:=qA b1;simp only[U7]at k1 ⊢;clear hc b1 o1;go_wp2_with (go_at_call 40;refine(hsz _).mono ?_;rintro y2 w2 ⟨rfl,hw2⟩;obtain rfl:=hw2.symm)
        go_ret;exact⟨rfl,own,(HF.out.mv B1.out).more (by omega),yJ B1.out⟩
       ·
        have HL3:=qA (show qy s k (f0::fs) n=(s',E) by rw[<-HL2.out,U5 hbad1,U5 hbad2]);have HES:=qA (show(qy s k (f0::fs) n).1=s' by rw[HL3.out]);by_cases hkk:k=10
        ·
         subst hkk;obtain rfl:[99,97,108,108]=f0:=qAB (show some [99,97,108,108]=some f0 from(yw hk));have hop:s.opened=true:=by cases h:s.opened with|true=>rfl|false=>exact absurd ⟨rfl,h⟩ hbad1
         have htr:=qA (HF.out.opn hop);rw[hop]at c30;clear hbad1 hbad2;have hopk:s'.opened=true:=by rw[<-HES.out,Wn];rfl
         have HK:=qA hk;have HOPK:=qA hopk;clear hk hopk hk12;go_enter Tryz.func20,Tryz.ntmps20
         go_wp2_with (go_at_call 39;refine(hsp _).mono ?_)
         intro y1 w1;first
          |(intro v1 hy1 o1 b1;subst hy1)
          |rintro⟨v1,rfl,o1,b1⟩
         obtain⟨pb,po,pc,rfl,k1,k2,k3,hc⟩:=(Qz o1).open (by simp);have x0:w1.cell? ⟨pb,po,none⟩=some (qP [99,97,108,108]):=hc 0 _ rfl 0 _ rfl;have hpos:(0:Int)<((fs.length:Int)+1):=by omega
         have d30:w1.cell? ⟨g,30,none⟩=some (.bool true):=((qG b1).1 _ _ hgl).trans c30;have d29:w1.cell? ⟨g,29,none⟩=some (.int .i64 s.rules):=((qG b1).1 _ _ hgl).trans c29;have q0:w1.cell? ⟨g,0,none⟩=some u:=((qG b1).1 _ _ hgl).trans (qC FA.out 0 _ rfl);have q1:w1.cell? ⟨g,1,none⟩=some (.int .i64 e0):=((qG b1).1 _ _ hgl).trans (qC FA.out 1 _ rfl);have fr0:w1.frozen? ⟨g,0,none⟩=false:=((qG b1).2 _ _ hgl).trans (U8 FA.out 0);have fr1:w1.frozen? ⟨g,1,none⟩=false:=((qG b1).2 _ _ hgl).trans (U8 FA.out 1);have fr30:w1.frozen? ⟨g,30,none⟩=false:=((qG b1).2 _ _ hgl).trans (U8 FA.out 30);have hp:w.heap.size<=pb:=(qAG o1 pb rfl).1;have hpg:pb≠g:=by omega
         have HC:=qA (show ∀ (i:Nat) (y:List UInt8),fs[i]? =some y->w1.cell? ⟨pb,po+1+i,none⟩=some (qP y) from fun i y hy=>by
          have h:=hc (i+1) y (by rw[List.getElem?_cons_succ];exact hy) 0 _ rfl;rw[show po+1+i=po+(i+1)*1+0 by omega];exact h)
         have HREC: ∀ (u2:Value) (W:World),JU pb w1 u2 fs->W=((w1.setCell ⟨g,30,none⟩ (.bool true)).setCell ⟨g,0,none⟩ u2).setCell ⟨g,1,none⟩ (.int .i64 0)->Calls Tryz.prog 41 #[.pointer (some ⟨g,0,none⟩),qP [99,97,108,108], .int .i64 n] W fun q w'=>q= .returned (.tuple #[])/\Ym B g pb m E mb (wO own pb 98) s' true W w':=fun u2 W hf hW=>by
          have gs:Gr g w1 W:=by rw[hW];exact qJ (qJ (zH g w1 30 _) (zH g _ 0 _)) (zH g _ 1 _)
          have hb1:=b1.size;have fa2:Ih g u2 0 ⟨vs,s.t.fares,mb,s.rules,true⟩ W:=by rw[hW];exact qQ (qQ (qQ (qX FA.out b1) 30 (.bool true)) 0 u2) 1 (.int .i64 0)
          have lgg:wO own pb 98 g=99:=(kC own (by omega) 98).trans HF.out.lg;have le:=HF.out.env.lt;exact Sv B g pb N m vs ts mb (wO own pb 98) s ids true [99,97,108,108] fs n s' E 10 HK.out HOK.out (by rw[HCN.out];exact HLEN.out) (fun _=>by have e:=PT.out.same;intro h0;rw[h0]at e;exact htr.out e) HL3 HL0.out HF.out.small (by omega) hid W
           ⟨⟨⟨u2,fa2,hf.kept (qg gs k3 hpg)⟩,hpg,Nat.lt_of_lt_of_le k3 gs.size,(HF.out.env.bl b1).kept (qg gs (by omega) (fun e=>by have h1:=HF.out.l1;have h2:=HF.out.lg;rw[e]at h1;omega)) (qg gs (by omega) (fun e=>by have h1:=HF.out.l2;have h2:=HF.out.lg;rw[e]at h1;omega)),⟨fun e=>by have h1:=HF.out.l1;have h2:=HF.out.lg;rw[e]at h1;omega,fun e=>by have h1:=HF.out.l2;have h2:=HF.out.lg;rw[e]at h1;omega⟩⟩,
            ((PT.out.relabel hp 98).bl b1).kept gs (fun b hb=>by simp only[qAA]at hb;rw[<-hb,lgg];omega),lgg,Zm own pb 98,(kC own (by omega) 98).trans HF.out.l1,(kC own (by omega) 98).trans HF.out.l2⟩
         have B1:=qA b1;have HREC':=qA HREC;simp only[U7]at k1 ⊢;have k2x:pc<=9223372036854775807:=by first|exact k2|(unfold maxLen at k2;omega)|omega
         have k1':(1:Int)<=(fs.length:Int)+1:=by omega
         have k2':(fs.length:Int)+1<=(pc:Int):=by omega
         clear hc b1 o1 HREC;go_wp2_with (first
          |(go_at_call 40;refine(hsz _).mono ?_;rintro y2 w2 ⟨rfl,hw2⟩;obtain rfl:=hw2.symm)
          |(go_at_call 41;refine Calls.mono (HREC'.out _ _ ?_ rfl) ?_;(first|exact⟨_,_,rfl,by omega,by unfold maxLen;omega,fun h0=>by omega⟩|exact⟨_,_,rfl,by omega,by unfold maxLen;omega,fun h0=>⟨po+1,rfl,HC.out⟩⟩);rintro y3 w3 ⟨rfl,vs3,ts3,own3,ids3,R3,hid3,M3⟩;obtain⟨u3,fa3,-⟩:=R3.rat.at';have e3:w3.cell? ⟨g,1,none⟩=some (.int .i64 E):=qC fa3 1 _ rfl))
         all_goals
          go_ret;refine⟨rfl,own3,⟨?_, ?_, ?_,⟨u3,E,vs3,ts3,ids3,by rw[HOPK.out];exact fa3,R3.parts,hid3⟩,R3.rat.env,R3.lg,R3.l1,R3.l2⟩,(VB B1.out hp 98).trans ((QK (qJ (qJ (zH g w1 30 _) (zH g _ 0 _)) (zH g _ 1 _)) ((kC own (by omega) 98).trans HF.out.lg)).trans M3)⟩
          · rw[<-HES.out];exact YL HF.out.small _ _ _
          · rw[<-HES.out];exact VQ HF.out.ok HF.out.small (by omega) _ _ (fun y hy=>by rcases List.mem_cons.1 hy with rfl|hy;(exact Ux (ZU HSP.out _ (by simp)) hx);(exact HL0.out y hy)) _
          ·
           intro ho;rw[<-HES.out];exact fE s _ _ _ (.inr ⟨rfl,htr.out⟩)
        ·
         by_cases hkk:k=11
         ·
          subst hkk;obtain rfl:[102,97,114,101,115]=f0:=qAB (show some [102,97,114,101,115]=some f0 from(yw hk));have hru: ¬ 0<s.rules:=fun h=>hbad2 ⟨rfl,h⟩
          clear hbad1 hbad2;have hopk:s'.opened=false:=by rw[<-HES.out,Wn];rfl
          have HK:=qA hk;have HOPK:=qA hopk;clear hk hopk hk12;go_enter Tryz.func20,Tryz.ntmps20
          go_wp2_with (go_at_call 39;refine(hsp _).mono ?_)
          intro y1 w1;first
           |(intro v1 hy1 o1 b1;subst hy1)
           |rintro⟨v1,rfl,o1,b1⟩
          obtain⟨pb,po,pc,rfl,k1,k2,k3,hc⟩:=(Qz o1).open (by simp);have x0:w1.cell? ⟨pb,po,none⟩=some (qP [102,97,114,101,115]):=hc 0 _ rfl 0 _ rfl;have hpos:(0:Int)<((fs.length:Int)+1):=by omega
          have d30:w1.cell? ⟨g,30,none⟩=some (.bool s.opened):=((qG b1).1 _ _ hgl).trans c30;have d29:w1.cell? ⟨g,29,none⟩=some (.int .i64 s.rules):=((qG b1).1 _ _ hgl).trans c29;have q0:w1.cell? ⟨g,0,none⟩=some u:=((qG b1).1 _ _ hgl).trans (qC FA.out 0 _ rfl);have q1:w1.cell? ⟨g,1,none⟩=some (.int .i64 e0):=((qG b1).1 _ _ hgl).trans (qC FA.out 1 _ rfl);have fr0:w1.frozen? ⟨g,0,none⟩=false:=((qG b1).2 _ _ hgl).trans (U8 FA.out 0);have fr1:w1.frozen? ⟨g,1,none⟩=false:=((qG b1).2 _ _ hgl).trans (U8 FA.out 1);have fr30:w1.frozen? ⟨g,30,none⟩=false:=((qG b1).2 _ _ hgl).trans (U8 FA.out 30);have hp:w.heap.size<=pb:=(qAG o1 pb rfl).1;have hpg:pb≠g:=by omega
          have HC:=qA (show ∀ (i:Nat) (y:List UInt8),fs[i]? =some y->w1.cell? ⟨pb,po+1+i,none⟩=some (qP y) from fun i y hy=>by
           have h:=hc (i+1) y (by rw[List.getElem?_cons_succ];exact hy) 0 _ rfl;rw[show po+1+i=po+(i+1)*1+0 by omega];exact h)
          have HREC: ∀ (u2:Value) (W:World),JU pb w1 u2 fs->W=((w1.setCell ⟨g,30,none⟩ (.bool false)).setCell ⟨g,0,none⟩ u2).setCell ⟨g,1,none⟩ (.int .i64 0)->Calls Tryz.prog 41 #[.pointer (some ⟨g,0,none⟩),qP [102,97,114,101,115], .int .i64 n] W fun q w'=>q= .returned (.tuple #[])/\Ym B g pb m E mb (wO own pb 98) s' false W w':=fun u2 W hf hW=>by
           have gs:Gr g w1 W:=by rw[hW];exact qJ (qJ (zH g w1 30 _) (zH g _ 0 _)) (zH g _ 1 _)
           have hb1:=b1.size;have fa2:Ih g u2 0 ⟨vs,s.t.fares,mb,s.rules,false⟩ W:=by rw[hW];exact qQ (qQ (qQ (qX FA.out b1) 30 (.bool false)) 0 u2) 1 (.int .i64 0)
           have lgg:wO own pb 98 g=99:=(kC own (by omega) 98).trans HF.out.lg;have le:=HF.out.env.lt;exact Sv B g pb N m vs ts mb (wO own pb 98) s ids false [102,97,114,101,115] fs n s' E 11 HK.out HOK.out (by rw[HCN.out];exact HLEN.out) (fun h=>absurd h (by decide)) HL3 HL0.out HF.out.small (by omega) hid W
            ⟨⟨⟨u2,fa2,hf.kept (qg gs k3 hpg)⟩,hpg,Nat.lt_of_lt_of_le k3 gs.size,(HF.out.env.bl b1).kept (qg gs (by omega) (fun e=>by have h1:=HF.out.l1;have h2:=HF.out.lg;rw[e]at h1;omega)) (qg gs (by omega) (fun e=>by have h1:=HF.out.l2;have h2:=HF.out.lg;rw[e]at h1;omega)),⟨fun e=>by have h1:=HF.out.l1;have h2:=HF.out.lg;rw[e]at h1;omega,fun e=>by have h1:=HF.out.l2;have h2:=HF.out.lg;rw[e]at h1;omega⟩⟩,
             ((PT.out.relabel hp 98).bl b1).kept gs (fun b hb=>by simp only[qAA]at hb;rw[<-hb,lgg];omega),lgg,Zm own pb 98,(kC own (by omega) 98).trans HF.out.l1,(kC own (by omega) 98).trans HF.out.l2⟩
          have B1:=qA b1;have HREC':=qA HREC;simp only[U7]at k1 ⊢;have k2x:pc<=9223372036854775807:=by first|exact k2|(unfold maxLen at k2;omega)|omega
          have k1':(1:Int)<=(fs.length:Int)+1:=by omega
          have k2':(fs.length:Int)+1<=(pc:Int):=by omega
          clear hc b1 o1 HREC;go_wp2_with (first
           |(go_at_call 40;refine(hsz _).mono ?_;rintro y2 w2 ⟨rfl,hw2⟩;obtain rfl:=hw2.symm)
           |(go_at_call 41;refine Calls.mono (HREC'.out _ _ ?_ rfl) ?_;(first|exact⟨_,_,rfl,by omega,by unfold maxLen;omega,fun h0=>by omega⟩|exact⟨_,_,rfl,by omega,by unfold maxLen;omega,fun h0=>⟨po+1,rfl,HC.out⟩⟩);rintro y3 w3 ⟨rfl,vs3,ts3,own3,ids3,R3,hid3,M3⟩;obtain⟨u3,fa3,-⟩:=R3.rat.at';have e3:w3.cell? ⟨g,1,none⟩=some (.int .i64 E):=qC fa3 1 _ rfl))
          all_goals
           go_ret;refine⟨rfl,own3,⟨?_, ?_, ?_,⟨u3,E,vs3,ts3,ids3,by rw[HOPK.out];exact fa3,R3.parts,hid3⟩,R3.rat.env,R3.lg,R3.l1,R3.l2⟩,(VB B1.out hp 98).trans ((QK (qJ (qJ (zH g w1 30 _) (zH g _ 0 _)) (zH g _ 1 _)) ((kC own (by omega) 98).trans HF.out.lg)).trans M3)⟩
           · rw[<-HES.out];exact YL HF.out.small _ _ _
           · rw[<-HES.out];exact VQ HF.out.ok HF.out.small (by omega) _ _ (fun y hy=>by rcases List.mem_cons.1 hy with rfl|hy;(exact Ux (ZU HSP.out _ (by simp)) hx);(exact HL0.out y hy)) _
           ·
            intro ho;rw[<-HES.out];rw[HOPK.out]at ho;cases ho
         ·
          by_cases hkk:k=4
          ·
           subst hkk;obtain rfl:[116,114,105,112]=f0:=qAB (show some [116,114,105,112]=some f0 from(yw hk));clear hbad1 hbad2;have hopk:s'.opened=true:=by rw[<-HES.out,Wn];rfl
           have HK:=qA hk;have HOPK:=qA hopk;clear hk hopk hk12;go_enter Tryz.func20,Tryz.ntmps20
           go_wp2_with (go_at_call 39;refine(hsp _).mono ?_)
           intro y1 w1;first
            |(intro v1 hy1 o1 b1;subst hy1)
            |rintro⟨v1,rfl,o1,b1⟩
           obtain⟨pb,po,pc,rfl,k1,k2,k3,hc⟩:=(Qz o1).open (by simp);have x0:w1.cell? ⟨pb,po,none⟩=some (qP [116,114,105,112]):=hc 0 _ rfl 0 _ rfl;have hpos:(0:Int)<((fs.length:Int)+1):=by omega
           have d30:w1.cell? ⟨g,30,none⟩=some (.bool s.opened):=((qG b1).1 _ _ hgl).trans c30;have d29:w1.cell? ⟨g,29,none⟩=some (.int .i64 s.rules):=((qG b1).1 _ _ hgl).trans c29;have q0:w1.cell? ⟨g,0,none⟩=some u:=((qG b1).1 _ _ hgl).trans (qC FA.out 0 _ rfl);have q1:w1.cell? ⟨g,1,none⟩=some (.int .i64 e0):=((qG b1).1 _ _ hgl).trans (qC FA.out 1 _ rfl);have fr0:w1.frozen? ⟨g,0,none⟩=false:=((qG b1).2 _ _ hgl).trans (U8 FA.out 0);have fr1:w1.frozen? ⟨g,1,none⟩=false:=((qG b1).2 _ _ hgl).trans (U8 FA.out 1);have fr30:w1.frozen? ⟨g,30,none⟩=false:=((qG b1).2 _ _ hgl).trans (U8 FA.out 30);have hp:w.heap.size<=pb:=(qAG o1 pb rfl).1;have hpg:pb≠g:=by omega
           have HC:=qA (show ∀ (i:Nat) (y:List UInt8),fs[i]? =some y->w1.cell? ⟨pb,po+1+i,none⟩=some (qP y) from fun i y hy=>by
            have h:=hc (i+1) y (by rw[List.getElem?_cons_succ];exact hy) 0 _ rfl;rw[show po+1+i=po+(i+1)*1+0 by omega];exact h)
           have HREC: ∀ (u2:Value) (W:World),JU pb w1 u2 fs->W=((w1.setCell ⟨g,30,none⟩ (.bool true)).setCell ⟨g,0,none⟩ u2).setCell ⟨g,1,none⟩ (.int .i64 0)->Calls Tryz.prog 41 #[.pointer (some ⟨g,0,none⟩),qP [116,114,105,112], .int .i64 n] W fun q w'=>q= .returned (.tuple #[])/\Ym B g pb m E mb (wO own pb 98) s' true W w':=fun u2 W hf hW=>by
            have gs:Gr g w1 W:=by rw[hW];exact qJ (qJ (zH g w1 30 _) (zH g _ 0 _)) (zH g _ 1 _)
            have hb1:=b1.size;have fa2:Ih g u2 0 ⟨vs,s.t.fares,mb,s.rules,true⟩ W:=by rw[hW];exact qQ (qQ (qQ (qX FA.out b1) 30 (.bool true)) 0 u2) 1 (.int .i64 0)
            have lgg:wO own pb 98 g=99:=(kC own (by omega) 98).trans HF.out.lg;have le:=HF.out.env.lt;exact Sv B g pb N m vs ts mb (wO own pb 98) s ids true [116,114,105,112] fs n s' E 4 HK.out HOK.out (by rw[HCN.out];exact HLEN.out) (fun h=>absurd h (by decide)) HL3 HL0.out HF.out.small (by omega) hid W
             ⟨⟨⟨u2,fa2,hf.kept (qg gs k3 hpg)⟩,hpg,Nat.lt_of_lt_of_le k3 gs.size,(HF.out.env.bl b1).kept (qg gs (by omega) (fun e=>by have h1:=HF.out.l1;have h2:=HF.out.lg;rw[e]at h1;omega)) (qg gs (by omega) (fun e=>by have h1:=HF.out.l2;have h2:=HF.out.lg;rw[e]at h1;omega)),⟨fun e=>by have h1:=HF.out.l1;have h2:=HF.out.lg;rw[e]at h1;omega,fun e=>by have h1:=HF.out.l2;have h2:=HF.out.lg;rw[e]at h1;omega⟩⟩,
              ((PT.out.relabel hp 98).bl b1).kept gs (fun b hb=>by simp only[qAA]at hb;rw[<-hb,lgg];omega),lgg,Zm own pb 98,(kC own (by omega) 98).trans HF.out.l1,(kC own (by omega) 98).trans HF.out.l2⟩
           have B1:=qA b1;have HREC':=qA HREC;simp only[U7]at k1 ⊢;have k2x:pc<=9223372036854775807:=by first|exact k2|(unfold maxLen at k2;omega)|omega
           have k1':(1:Int)<=(fs.length:Int)+1:=by omega
           have k2':(fs.length:Int)+1<=(pc:Int):=by omega
           clear hc b1 o1 HREC;go_wp2_with (first
            |(go_at_call 40;refine(hsz _).mono ?_;rintro y2 w2 ⟨rfl,hw2⟩;obtain rfl:=hw2.symm)
            |(go_at_call 41;refine Calls.mono (HREC'.out _ _ ?_ rfl) ?_;(first|exact⟨_,_,rfl,by omega,by unfold maxLen;omega,fun h0=>by omega⟩|exact⟨_,_,rfl,by omega,by unfold maxLen;omega,fun h0=>⟨po+1,rfl,HC.out⟩⟩);rintro y3 w3 ⟨rfl,vs3,ts3,own3,ids3,R3,hid3,M3⟩;obtain⟨u3,fa3,-⟩:=R3.rat.at';have e3:w3.cell? ⟨g,1,none⟩=some (.int .i64 E):=qC fa3 1 _ rfl))
           all_goals
            go_ret;refine⟨rfl,own3,⟨?_, ?_, ?_,⟨u3,E,vs3,ts3,ids3,by rw[HOPK.out];exact fa3,R3.parts,hid3⟩,R3.rat.env,R3.lg,R3.l1,R3.l2⟩,(VB B1.out hp 98).trans ((QK (qJ (qJ (zH g w1 30 _) (zH g _ 0 _)) (zH g _ 1 _)) ((kC own (by omega) 98).trans HF.out.lg)).trans M3)⟩
            · rw[<-HES.out];exact YL HF.out.small _ _ _
            · rw[<-HES.out];exact VQ HF.out.ok HF.out.small (by omega) _ _ (fun y hy=>by rcases List.mem_cons.1 hy with rfl|hy;(exact Ux (ZU HSP.out _ (by simp)) hx);(exact HL0.out y hy)) _
            ·
             intro ho;rw[<-HES.out];exact fE s _ _ _ (.inl rfl)
          ·
           rename_i h10 h11;have h4:=hkk;have t10:(f0==[99,97,108,108])=false:=by rw[U0];intro e;subst e;exact h10 (qAB (show some 10=some k by rw[<-hk];decide)).symm
           have t11:(f0==[102,97,114,101,115])=false:=by rw[U0];intro e;subst e;exact h11 (qAB (show some 11=some k by rw[<-hk];decide)).symm
           have t4:(f0==[116,114,105,112])=false:=by rw[U0];intro e;subst e;exact h4 (qAB (show some 4=some k by rw[<-hk];decide)).symm
           clear hbad1 hbad2;have hopk:s'.opened=false:=by rw[<-HES.out,Wn];rw[show(k==4)=false by rw[U0];exact h4,show(k==10)=false by rw[U0];exact h10];rfl
           have HK:=qA hk;have HOPK:=qA hopk;clear hk hopk hk12;go_enter Tryz.func20,Tryz.ntmps20
           go_wp2_with (go_at_call 39;refine(hsp _).mono ?_)
           intro y1 w1;first
            |(intro v1 hy1 o1 b1;subst hy1)
            |rintro⟨v1,rfl,o1,b1⟩
           obtain⟨pb,po,pc,rfl,k1,k2,k3,hc⟩:=(Qz o1).open (by simp);have x0:w1.cell? ⟨pb,po,none⟩=some (qP f0):=hc 0 _ rfl 0 _ rfl;have hpos:(0:Int)<((fs.length:Int)+1):=by omega
           have d30:w1.cell? ⟨g,30,none⟩=some (.bool s.opened):=((qG b1).1 _ _ hgl).trans c30;have d29:w1.cell? ⟨g,29,none⟩=some (.int .i64 s.rules):=((qG b1).1 _ _ hgl).trans c29;have q0:w1.cell? ⟨g,0,none⟩=some u:=((qG b1).1 _ _ hgl).trans (qC FA.out 0 _ rfl);have q1:w1.cell? ⟨g,1,none⟩=some (.int .i64 e0):=((qG b1).1 _ _ hgl).trans (qC FA.out 1 _ rfl);have fr0:w1.frozen? ⟨g,0,none⟩=false:=((qG b1).2 _ _ hgl).trans (U8 FA.out 0);have fr1:w1.frozen? ⟨g,1,none⟩=false:=((qG b1).2 _ _ hgl).trans (U8 FA.out 1);have fr30:w1.frozen? ⟨g,30,none⟩=false:=((qG b1).2 _ _ hgl).trans (U8 FA.out 30);have hp:w.heap.size<=pb:=(qAG o1 pb rfl).1;have hpg:pb≠g:=by omega
           have HC:=qA (show ∀ (i:Nat) (y:List UInt8),fs[i]? =some y->w1.cell? ⟨pb,po+1+i,none⟩=some (qP y) from fun i y hy=>by
            have h:=hc (i+1) y (by rw[List.getElem?_cons_succ];exact hy) 0 _ rfl;rw[show po+1+i=po+(i+1)*1+0 by omega];exact h)
           have HREC: ∀ (u2:Value) (W:World),JU pb w1 u2 fs->W=((w1.setCell ⟨g,30,none⟩ (.bool false)).setCell ⟨g,0,none⟩ u2).setCell ⟨g,1,none⟩ (.int .i64 0)->Calls Tryz.prog 41 #[.pointer (some ⟨g,0,none⟩),qP f0, .int .i64 n] W fun q w'=>q= .returned (.tuple #[])/\Ym B g pb m E mb (wO own pb 98) s' false W w':=fun u2 W hf hW=>by
            have gs:Gr g w1 W:=by rw[hW];exact qJ (qJ (zH g w1 30 _) (zH g _ 0 _)) (zH g _ 1 _)
            have hb1:=b1.size;have fa2:Ih g u2 0 ⟨vs,s.t.fares,mb,s.rules,false⟩ W:=by rw[hW];exact qQ (qQ (qQ (qX FA.out b1) 30 (.bool false)) 0 u2) 1 (.int .i64 0)
            have lgg:wO own pb 98 g=99:=(kC own (by omega) 98).trans HF.out.lg;have le:=HF.out.env.lt;exact Sv B g pb N m vs ts mb (wO own pb 98) s ids false f0 fs n s' E k HK.out HOK.out (by rw[HCN.out];exact HLEN.out) (fun h=>absurd h h10) HL3 HL0.out HF.out.small (by omega) hid W
             ⟨⟨⟨u2,fa2,hf.kept (qg gs k3 hpg)⟩,hpg,Nat.lt_of_lt_of_le k3 gs.size,(HF.out.env.bl b1).kept (qg gs (by omega) (fun e=>by have h1:=HF.out.l1;have h2:=HF.out.lg;rw[e]at h1;omega)) (qg gs (by omega) (fun e=>by have h1:=HF.out.l2;have h2:=HF.out.lg;rw[e]at h1;omega)),⟨fun e=>by have h1:=HF.out.l1;have h2:=HF.out.lg;rw[e]at h1;omega,fun e=>by have h1:=HF.out.l2;have h2:=HF.out.lg;rw[e]at h1;omega⟩⟩,
              ((PT.out.relabel hp 98).bl b1).kept gs (fun b hb=>by simp only[qAA]at hb;rw[<-hb,lgg];omega),lgg,Zm own pb 98,(kC own (by omega) 98).trans HF.out.l1,(kC own (by omega) 98).trans HF.out.l2⟩
           have B1:=qA b1;have HREC':=qA HREC;simp only[U7]at k1 ⊢;have k2x:pc<=9223372036854775807:=by first|exact k2|(unfold maxLen at k2;omega)|omega
           have k1':(1:Int)<=(fs.length:Int)+1:=by omega
           have k2':(fs.length:Int)+1<=(pc:Int):=by omega
           clear hc b1 o1 HREC;go_wp2_with (first
            |(go_at_call 40;refine(hsz _).mono ?_;rintro y2 w2 ⟨rfl,hw2⟩;obtain rfl:=hw2.symm)
            |(go_at_call 41;refine Calls.mono (HREC'.out _ _ ?_ rfl) ?_;(first|exact⟨_,_,rfl,by omega,by unfold maxLen;omega,fun h0=>by omega⟩|exact⟨_,_,rfl,by omega,by unfold maxLen;omega,fun h0=>⟨po+1,rfl,HC.out⟩⟩);rintro y3 w3 ⟨rfl,vs3,ts3,own3,ids3,R3,hid3,M3⟩;obtain⟨u3,fa3,-⟩:=R3.rat.at';have e3:w3.cell? ⟨g,1,none⟩=some (.int .i64 E):=qC fa3 1 _ rfl))
           all_goals
            go_ret;refine⟨rfl,own3,⟨?_, ?_, ?_,⟨u3,E,vs3,ts3,ids3,by rw[HOPK.out];exact fa3,R3.parts,hid3⟩,R3.rat.env,R3.lg,R3.l1,R3.l2⟩,(VB B1.out hp 98).trans ((QK (qJ (qJ (zH g w1 30 _) (zH g _ 0 _)) (zH g _ 1 _)) ((kC own (by omega) 98).trans HF.out.lg)).trans M3)⟩
            · rw[<-HES.out];exact YL HF.out.small _ _ _
            · rw[<-HES.out];exact VQ HF.out.ok HF.out.small (by omega) _ _ (fun y hy=>by rcases List.mem_cons.1 hy with rfl|hy;(exact Ux (ZU HSP.out _ (by simp)) hx);(exact HL0.out y hy)) _
            ·
             intro ho;rw[<-HES.out];rw[HOPK.out]at ho;cases ho
     ·
      have ce:((cn:Int) != (fs.length:Int)+1)=true:=by rw[bne_iff_ne];omega
      have hq:(s,(1:Int))=(s',E):=by rw[<-HL.out,U6 (by rw[HCN.out];simpa using hlen)]
      obtain⟨e1,e2⟩:=qAE hq;subst e1 e2;clear HL hq hlen;go_enter Tryz.func20,Tryz.ntmps20
      go_wp2_with (go_at_call 39;refine(hsp _).mono ?_)
      intro y1 w1;first
       |(intro v1 hy1 o1 b1;subst hy1)
       |rintro⟨v1,rfl,o1,b1⟩
      obtain⟨pb,po,pc,rfl,k1,k2,k3,hc⟩:=(Qz o1).open (by simp);have x0:w1.cell? ⟨pb,po,none⟩=some (qP f0):=hc 0 _ rfl 0 _ rfl;have B1:=qA b1;have hpos:(0:Int)<((fs.length:Int)+1):=by omega
      simp only[U7]at k1 ⊢;clear hc b1 o1;go_wp2_with (go_at_call 40;refine(hsz _).mono ?_;rintro y2 w2 ⟨rfl,hw2⟩;obtain rfl:=hw2.symm)
      go_ret;exact⟨rfl,own,(HF.out.mv B1.out).more (by omega),yJ B1.out⟩
   ·
    have hq:=(DJ (s:=s) (n:=n) HNO.out HSP.out he).symm.trans H.out;obtain⟨e1,e2⟩:=qAE hq;subst e1 e2;have hee:(e != 0)=true:=by rw[bne_iff_ne];exact he
    clear H hq HNO;go_enter Tryz.func20,Tryz.ntmps20
    go_wp2_with (go_at_call 39;refine(hsp _).mono ?_)
    intro y1 w1;first
     |(intro v1 hy1 o1 b1;subst hy1)
     |rintro⟨v1,rfl,o1,b1⟩
    go_wp2;go_ret;exact⟨rfl,own,(HF.out.mv b1).more (by omega),yJ b1⟩
theorem Tv (txt:ByteArray) (hs:txt.size<=4294967280) (m:Int) (t:TtD) (n e:Int) (H:Hid (vC txt.data.toList=(t,n,e))) (w:World) (env:ah m w) (hK:Hid ((vT txt.data.toList).1.all Us=true)):
  Calls Tryz.prog 10 #[.string txt] w fun q w'=> ∃ V ts,q= .returned (.tuple #[JP V t, .int .i64 n, .int .i64 e])/\yA w'.heap.size w' V ts t/\(ZZ t/\lJ w.heap.size V ts)/\Bl w w':=by
 obtain⟨⟨ls,e0⟩,hl⟩: ∃ p,vT txt.data.toList=p:=⟨_,rfl⟩;have hlc:=fun W hW=>Lm txt hs m ls e0 (qA hl) W hW
 have HR0:=qA (heap_alloc_new w (.cells Kr 36));have hb0:Bl w (w.alloc (.cells Kr 36)):=qE (qB w) _;have HB0:=qA hb0;have ml0:(w.alloc (.cells Kr 36)).cell? ⟨1,0,none⟩=some (.int .i64 m):=(env.bl hb0).ml;have hlc0:=hlc _ ml0;have HE:=qA env;have HLS:=qA hl;have hz:(w.alloc (.cells Kr 36)).heap.size=w.heap.size+1:=by simp
 have HZ:=qA hz;clear hb0 hlc ml0 env hl hz;by_cases he0:e0=0
 ·
  subst he0;obtain⟨⟨sF,nF,eF⟩,hF⟩: ∃ p,yz Tt.start 1 ls=p:=⟨_,rfl⟩;have HF:=qA hF;have hsz:=uA HLS.out;have HSZ:=qA hsz;clear hF hsz;go_enter Tryz.func10,Tryz.ntmps10
  go_wp2_with (go_at_call 19;refine hlc0.mono ?_)
  rintro y1 w1 ⟨v1,rfl,o1,b1⟩;obtain⟨av,cv,rfl,q1,q2⟩:=o1.val;have O1:=qA o1;have R1:=qA (qX HR0.out b1);have B1:=qA (qF HB0.out b1);have E1:=qA (HE.out.bl B1.out);have hmm:= @run_makeMap Tryz.prog;have hs1:w.heap.size<w1.heap.size:=by have:=b1.size;have:=HZ.out;omega
  obtain⟨wg,hwg⟩: ∃ wg,((((w1.alloc (.map #[] 0)).alloc (.map #[] 0)).alloc (.map #[] 0)).alloc (.map #[] 0)).alloc (.cells (pC (.slice none 0 0) 0 (fun _=> .slice none 0 0) emptyT.fares (BP w1.heap.size (w1.heap.size+1) (w1.heap.size+2) (w1.heap.size+3)) 0 false) 76)=wg:=⟨_,rfl⟩;have bg:Bl w1 wg:=by rw[<-hwg];exact qE (qE (qE (qE (qE (qB _) _) _) _) _) _
  have FG:Hid (Eb w1.heap.size (w1.heap.size+4) 0 m (BP w1.heap.size (w1.heap.size+1) (w1.heap.size+2) (w1.heap.size+3)) (uM (w1.heap.size+4) (BP w1.heap.size (w1.heap.size+1) (w1.heap.size+2) (w1.heap.size+3))) Tt.start wg):=
   Cf w1.heap.size (w1.heap.size+4) m _ wg (by rw[<-hwg];have:=heap_alloc_new ((((w1.alloc (.map #[] 0)).alloc (.map #[] 0)).alloc (.map #[] 0)).alloc (.map #[] 0)) (.cells (pC (.slice none 0 0) 0 (fun _=> .slice none 0 0) emptyT.fares (BP w1.heap.size (w1.heap.size+1) (w1.heap.size+2) (w1.heap.size+3)) 0 false) 76);rw[show((((w1.alloc (.map #[] 0)).alloc (.map #[] 0)).alloc (.map #[] 0)).alloc (.map #[] 0)).heap.size=w1.heap.size+4 by simp]at this;exact this)
    (by rw[<-hwg];exact Ce rfl w1.heap.size (U3 _) _ _) (Oo _) (E1.out.bl bg) (by omega) E1.out.lt
  obtain⟨mb,hmb⟩: ∃ mb,BP w1.heap.size (w1.heap.size+1) (w1.heap.size+2) (w1.heap.size+3)=mb:=⟨_,rfl⟩;have HM:Hid (∀ j,j<4->w1.heap.size<=mb j):=fun j hj=>by
   rw[<-hmb];rcases j with _|_|_|_|j
   all_goals first
    |(show w1.heap.size<=w1.heap.size;omega)
    |(show w1.heap.size<=w1.heap.size+1;omega)
    |(show w1.heap.size<=w1.heap.size+2;omega)
    |(show w1.heap.size<=w1.heap.size+3;omega)
    |omega
  obtain⟨own,hown⟩: ∃ own,uM (w1.heap.size+4) mb=own:=⟨_,rfl⟩;have HLOW:Hid (∀ b,b<w1.heap.size->own b=97):=fun b hb=>by rw[<-hown];exact Xv (by omega) HM.out hb
  rw[hmb,hown]at FG;simp only[pC,BP,emptyT]at hwg;go_wp2_with fail;have BG:=qA bg;clear hwg hmb hown bg b1 o1 hlc0 hmm;go_loopw [30] (fun i wr=> ∃ (k:Nat) (s:St) (own':Nat->Nat),(k<=ls.length/\i= .int .i64 k)/\Hid (Eb w1.heap.size (w1.heap.size+4) k m mb own' s wr)/\Hid (AU s)/\Hid (yz s (1+(k:Int)) (ls.drop k)=(sF,nF,eF))/\Hid (Mv own wg own' wr)) (fun i _=>ls.length-(intOf i).toNat)
  case atStart=>exact⟨0,_,own,⟨qAD _,rfl⟩,FG,tZ _,HF,Mv.refl own wg⟩
  case round=>
   obtain⟨k,s,own',⟨hk,rfl⟩,HS,HK,HC,HMV⟩:=hrel;have hkN:k<=999999:=by have:=HSZ.out.1;omega
   have MG:=qA (show Bl w1 wr from nT BG.out HMV.out HLOW.out);have hwr:=MG.out.size;have Rr:=qA (qX R1.out MG.out);have Br:=qA (qF B1.out MG.out);by_cases hlt:k<ls.length
   ·
    obtain⟨x,hx⟩: ∃ x,ls[k]? =some x:=⟨_,U2 hlt⟩;obtain⟨pb,po,pc,e1,l1,l2,l3,hc⟩:=O1.out.open (by omega);rw[Value.slice.injEq]at e1;obtain⟨rfl,-,rfl⟩:=e1;have c1:wr.cell? ⟨pb,po+k,none⟩=some (qP x):=by
     have:=hc k x hx 0 _ rfl;rw[show po+k*1+0=po+k by omega]at this;exact((qG MG.out).1 _ _ l3).trans this
    have i1:(k:Int)<(ls.length:Int):=by omega
    have hxl:x.length<=131072:=by have:=HSZ.out.2 x (Uz hx);omega
    obtain⟨⟨s2,E⟩,hE⟩: ∃ p,vN s x ((k:Int)+1)=p:=⟨_,rfl⟩;have hline:=UI w1.heap.size (w1.heap.size+4) k m mb own' s x hxl (by show Us x=true;have h9:=hK.out;rw[HLS.out]at h9;exact List.all_eq_true.1 h9 x (Uz hx)) ((k:Int)+1) s2 E (qA hE) hkN wr HS.out;have hE':vN s x (1+(k:Int))=(s2,E):=by rw[Int.add_comm];exact hE
    have HEE:=qA hE';have HX:=qA hx;clear hE hE' hx hc;by_cases h0:E=0
    ·
     subst h0;have HN:=qA (nM (s:=s) (n:=1+(k:Int)) HX.out (by rw[HEE.out]));go_wp2_with (go_at_call 20;refine hline.mono ?_)
     rintro y2 w2 ⟨rfl,own2,F2,M2⟩;have HF2:=qA F2;have HM2:=qA (HMV.out.trans M2);clear F2 M2;go_wp2;go_roundw;case rel=>
      refine⟨k+1,s2,own2,⟨by omega,by go_num⟩,HF2, ?_, ?_,HM2⟩
      ·
       have:=tY HK.out x (n:=1+(k:Int)) (by omega);rw[HEE.out]at this;exact this
      ·
       show _=_
       rw[<-HC.out,HN.out,HEE.out,show 1+((k+1:Nat):Int)=1+(k:Int)+1 by omega]
     case measure=>simp[intOf];omega
    ·
     have HN:=qA (nN (s:=s) (n:=1+(k:Int)) HX.out (by rw[HEE.out];exact h0));have HQ:=qA (show(s,1+(k:Int),E)=(sF,nF,eF) by rw[<-HC.out,HN.out,HEE.out]);have f0:(E != 0)=true:=by rw[bne_iff_ne];exact h0
     have HP:=qA (show(emptyT,(k:Int)+1,E)=(t,n,e) by
      obtain⟨e1,e2⟩:=qAE HQ.out;obtain⟨e3,e4⟩:=qAE e2;rw[<-H.out,uQ HLS.out HF.out (by rw[<-e4];exact h0),<-e3,<-e4,Int.add_comm])
     obtain⟨d1,d2⟩:=qAE HP.out;obtain⟨d3,d4⟩:=qAE d2;clear HP HQ HN d2 H;subst d1 d3 d4;go_wp2_with (go_at_call 20;refine hline.mono ?_)
     rintro y2 w2 ⟨rfl,own2,F2,M2⟩;have M3:=qA (show Bl w1 w2 from nT BG.out (HMV.out.trans M2) HLOW.out);have R2:=qA (qX R1.out M3.out);have B2:=qA (qF B1.out M3.out);clear F2 M2;have rf:=U8 R2.out;have j0:=qC R2.out 0 _ rfl;have j1:=qC R2.out 1 _ rfl;have j2:=qC R2.out 2 _ rfl;have j3:=qC R2.out 3 _ rfl;have j4:=qC R2.out 4 _ rfl;have j5:=qC R2.out 5 _ rfl;have j6:=qC R2.out 6 _ rfl;have j7:=qC R2.out 7 _ rfl;have j8:=qC R2.out 8 _ rfl;have j9:=qC R2.out 9 _ rfl;have j10:=qC R2.out 10 _ rfl;have j11:=qC R2.out 11 _ rfl;have j12:=qC R2.out 12 _ rfl;go_wp2;refine bodyPost_ret (yF rfl _ _ w.heap.size 36 _ (0,0) _ _ _ rfl rfl rfl (VP R2.out) Tryz.underlying36 rfl (by kernel_rfl)) rfl ?_;exact⟨YV,[],rfl,Jm _ _,⟨Jl,Jk _⟩,Ej B2.out (U3 _)⟩
   ·
    have hdr:ls.drop k=[]:=List.drop_eq_nil_of_le (by omega);have HQ:=qA (show(s,(0:Int),(0:Int))=(sF,nF,eF) by rw[<-HC.out,hdr];rfl);obtain⟨d1,d2⟩:=qAE HQ.out;obtain⟨d3,d4⟩:=qAE d2;clear HQ HC hdr d2;subst d1 d3 d4;obtain⟨⟨p,i,ec⟩,hck⟩: ∃ q,Qj s.t=q:=⟨_,rfl⟩;obtain⟨u,e9,vs,ts,ids,fa,pts,-⟩:=HS.out.mem;have rd:=pts.rd;obtain⟨a0,c0,(f0:vs 0=_),-,-⟩:=rd.stops.val;obtain⟨a1,c1,(f1:vs 1=_),-,-⟩:=rd.routes.val;obtain⟨a2,c2,(f2:vs 2=_),-,-⟩:=rd.cals.val;obtain⟨a3,c3,(f3:vs 3=_),-,-⟩:=rd.excs.val;obtain⟨a4,c4,(f4:vs 4=_),-,-⟩:=rd.trips.sl.val;obtain⟨a5,c5,(f5:vs 5=_),-,-⟩:=rd.freqs.val;obtain⟨a6,c6,(f6:vs 6=_),-,-⟩:=rd.thrus.val;obtain⟨a7,c7,(f7:vs 7=_),-,-⟩:=rd.guars.val;obtain⟨a8,c8,(f8:vs 8=_),-,-⟩:=rd.paths.val;obtain⟨a9,c9,(f9:vs 9=_),-,-⟩:=rd.prods.val;simp only[U4]at f5 f6;have HRD:=qA (show yA wr.heap.size wr ⟨.slice a0 s.t.stops.length c0, .slice a1 s.t.routes.length c1, .slice a2 s.t.cals.length c2, .slice a3 s.t.excs.length c3, .slice a4 ts.length c4, .slice a5 s.t.freqs.length c5, .slice a6 s.t.thrus.length c6, .slice a7 s.t.guars.length c7, .slice a8 s.t.paths.length c8, .slice a9 s.t.fares.prods.length c9⟩ ts s.t by rw[<-f0,<-f1,<-f2,<-f3,<-f4,<-f5,<-f6,<-f7,<-f8,<-f9];exact rd);have x0:wr.cell? ⟨w1.heap.size+4,2,none⟩=some (.slice a0 s.t.stops.length c0):=by rw[<-f0];exact qC fa 2 _ rfl
    have x1:wr.cell? ⟨w1.heap.size+4,3,none⟩=some (.slice a1 s.t.routes.length c1):=by rw[<-f1];exact qC fa 3 _ rfl
    have x2:wr.cell? ⟨w1.heap.size+4,4,none⟩=some (.slice a2 s.t.cals.length c2):=by rw[<-f2];exact qC fa 4 _ rfl
    have x3:wr.cell? ⟨w1.heap.size+4,5,none⟩=some (.slice a3 s.t.excs.length c3):=by rw[<-f3];exact qC fa 5 _ rfl
    have x4:wr.cell? ⟨w1.heap.size+4,6,none⟩=some (.slice a4 ts.length c4):=by rw[<-f4];exact qC fa 6 _ rfl
    have x5:wr.cell? ⟨w1.heap.size+4,7,none⟩=some (.slice a5 s.t.freqs.length c5):=by rw[<-f5];exact qC fa 7 _ rfl
    have x6:wr.cell? ⟨w1.heap.size+4,8,none⟩=some (.slice a6 s.t.thrus.length c6):=by rw[<-f6];exact qC fa 8 _ rfl
    have x7:wr.cell? ⟨w1.heap.size+4,9,none⟩=some (.slice a7 s.t.guars.length c7):=by rw[<-f7];exact qC fa 9 _ rfl
    have x8:wr.cell? ⟨w1.heap.size+4,10,none⟩=some (.slice a8 s.t.paths.length c8):=by rw[<-f8];exact qC fa 10 _ rfl
    have x9:wr.cell? ⟨w1.heap.size+4,11,none⟩=some (.slice a9 s.t.fares.prods.length c9):=by rw[<-f9];exact qC fa 11 _ rfl
    have x10:wr.cell? ⟨w1.heap.size+4,12,none⟩=some (.int .i64 s.t.fares.disc):=qC fa 12 _ rfl;have x11:wr.cell? ⟨w1.heap.size+4,13,none⟩=some (.int .i64 s.t.fares.within):=qC fa 13 _ rfl;have x12:wr.cell? ⟨w1.heap.size+4,14,none⟩=some (.int .i64 s.t.fares.cap):=qC fa 14 _ rfl;have hgl:=lt_of_block fa;have hcheck:=pY ⟨.slice a0 s.t.stops.length c0, .slice a1 s.t.routes.length c1, .slice a2 s.t.cals.length c2, .slice a3 s.t.excs.length c3, .slice a4 ts.length c4, .slice a5 s.t.freqs.length c5, .slice a6 s.t.thrus.length c6, .slice a7 s.t.guars.length c7, .slice a8 s.t.paths.length c8, .slice a9 s.t.fares.prods.length c9⟩ ts s.t p i ec (qA hck) (qA HS.out.ok) wr.heap.size wr HRD.out (U3 _);have FA:=qA fa;have PT:=qA pts;have HCK:=qA hck;have HV:=qA (show vs 0= .slice a0 s.t.stops.length c0/\vs 1= .slice a1 s.t.routes.length c1/\vs 2= .slice a2 s.t.cals.length c2/\vs 3= .slice a3 s.t.excs.length c3/\vs 4= .slice a4 ts.length c4/\vs 5= .slice a5 s.t.freqs.length c5/\vs 6= .slice a6 s.t.thrus.length c6/\vs 7= .slice a7 s.t.guars.length c7/\vs 8= .slice a8 s.t.paths.length c8/\vs 9= .slice a9 s.t.fares.prods.length c9 from⟨f0,f1,f2,f3,f4,f5,f6,f7,f8,f9⟩);clear hck fa pts rd f0 f1 f2 f3 f4 f5 f6 f7 f8 f9;simp only[JP]at hcheck;have HPR:=qA ((uP HLS.out HF.out HCK.out).symm.trans H.out);clear H;by_cases hec:ec=0
    ·
     subst hec;have HQ:=qA (show(s.t,(0:Int),(0:Int))=(t,n,e) by rw[<-HPR.out,U6 rfl]);obtain⟨d1,d2⟩:=qAE HQ.out;obtain⟨d3,d4⟩:=qAE d2;clear HQ HPR d2;subst d1 d3 d4;go_wp2_with (go_at_call 21;refine hcheck.mono ?_)
     rintro y2 w2 ⟨rfl,b2⟩;have R2:=qA (qX Rr.out b2);have B2:=qA (qF Br.out b2);have P2:=qA (PT.out.bl b2);have y0:=((qG b2).1 _ _ hgl).trans x0;have y1:=((qG b2).1 _ _ hgl).trans x1;have y2:=((qG b2).1 _ _ hgl).trans x2;have y3:=((qG b2).1 _ _ hgl).trans x3;have y4:=((qG b2).1 _ _ hgl).trans x4;have y5:=((qG b2).1 _ _ hgl).trans x5;have y6:=((qG b2).1 _ _ hgl).trans x6;have y7:=((qG b2).1 _ _ hgl).trans x7;have y8:=((qG b2).1 _ _ hgl).trans x8;have y9:=((qG b2).1 _ _ hgl).trans x9;have y10:=((qG b2).1 _ _ hgl).trans x10;have y11:=((qG b2).1 _ _ hgl).trans x11;have y12:=((qG b2).1 _ _ hgl).trans x12;clear b2 x0 x1 x2 x3 x4 x5 x6 x7 x8 x9 x10 x11 x12;have rf:=U8 R2.out;have j0:=qC R2.out 0 _ rfl;have j1:=qC R2.out 1 _ rfl;have j2:=qC R2.out 2 _ rfl;have j3:=qC R2.out 3 _ rfl;have j4:=qC R2.out 4 _ rfl;have j5:=qC R2.out 5 _ rfl;have j6:=qC R2.out 6 _ rfl;have j7:=qC R2.out 7 _ rfl;have j8:=qC R2.out 8 _ rfl;have j9:=qC R2.out 9 _ rfl;have j10:=qC R2.out 10 _ rfl;have j11:=qC R2.out 11 _ rfl;have j12:=qC R2.out 12 _ rfl;go_wp2;refine bodyPost_ret (yF rfl _ _ w.heap.size 36 _ (0,0) _ _ _ rfl rfl rfl (VP R2.out) Tryz.underlying36 rfl (by kernel_rfl)) rfl ?_;refine⟨⟨.slice a0 s.t.stops.length c0, .slice a1 s.t.routes.length c1, .slice a2 s.t.cals.length c2, .slice a3 s.t.excs.length c3, .slice a4 ts.length c4, .slice a5 s.t.freqs.length c5, .slice a6 s.t.thrus.length c6, .slice a7 s.t.guars.length c7, .slice a8 s.t.paths.length c8, .slice a9 s.t.fares.prods.length c9⟩,ts,rfl, ?_,⟨HS.out.ok, ?_⟩,Ej B2.out (U3 _)⟩;have hl9:own' w.heap.size=97:=(HMV.out.lab _ (by have:=BG.out.size;omega)).trans (HLOW.out _ hs1);have key: ∀ W,Gr w.heap.size w2 W->yA W.heap.size W ⟨.slice a0 s.t.stops.length c0, .slice a1 s.t.routes.length c1, .slice a2 s.t.cals.length c2, .slice a3 s.t.excs.length c3, .slice a4 ts.length c4, .slice a5 s.t.freqs.length c5, .slice a6 s.t.thrus.length c6, .slice a7 s.t.guars.length c7, .slice a8 s.t.paths.length c8, .slice a9 s.t.fares.prods.length c9⟩ ts s.t:=fun W hg=>by
      have P3:=P2.out.kept hg (fun b hb=>by simp only[qAA]at hb;rw[<-hb,hl9];omega);have r3:=P3.rd;obtain⟨f0,f1,f2,f3,f4,f5,f6,f7,f8,f9⟩:=HV.out;rw[f0,f1,f2,f3,f4,f5,f6,f7,f8,f9]at r3;exact r3
     · exact key _ Rl
     have r3:=P2.out.lo;obtain⟨f0,f1,f2,f3,f4,f5,f6,f7,f8,f9⟩:=HV.out;rw[f0,f1,f2,f3,f4,f5,f6,f7,f8,f9]at r3;exact r3.le (Nat.le_of_lt hs1)
    ·
     have f1:(ec==0)=false:=by rw[U0];exact hec
     have HQ:=qA (show(if i<0 then(emptyT,s.rules,ec)else(emptyT,(s.lines.getD p.toNat []).getD i.toNat 0,ec))=(t,n,e) by rw[<-HPR.out,U5 hec]);clear HPR;by_cases hi:i<0
     ·
      have HQ2:=qA (show(emptyT,s.rules,ec)=(t,n,e) by rw[<-HQ.out,U6 hi]);obtain⟨d1,d2⟩:=qAE HQ2.out;obtain⟨d3,d4⟩:=qAE d2;clear HQ HQ2 d2;subst d1 d3 d4;go_wp2_with (go_at_call 21;refine hcheck.mono ?_)
      rintro y2 w2 ⟨rfl,b2⟩;have R2:=qA (qX Rr.out b2);have B2:=qA (qF Br.out b2);have y29:w2.cell? ⟨w1.heap.size+4,29,none⟩=some (.int .i64 s.rules):=((qG b2).1 _ _ hgl).trans (qC FA.out 29 _ rfl);clear b2 x0 x1 x2 x3 x4 x5 x6 x7 x8 x9 x10 x11 x12;have rf:=U8 R2.out;have j0:=qC R2.out 0 _ rfl;have j1:=qC R2.out 1 _ rfl;have j2:=qC R2.out 2 _ rfl;have j3:=qC R2.out 3 _ rfl;have j4:=qC R2.out 4 _ rfl;have j5:=qC R2.out 5 _ rfl;have j6:=qC R2.out 6 _ rfl;have j7:=qC R2.out 7 _ rfl;have j8:=qC R2.out 8 _ rfl;have j9:=qC R2.out 9 _ rfl;have j10:=qC R2.out 10 _ rfl;have j11:=qC R2.out 11 _ rfl;have j12:=qC R2.out 12 _ rfl;go_wp2_with fail;go_region
      have RF:(KW w2 w.heap.size (.slice none 0 0) (.slice none 0 0) (.slice none 0 0) (.slice none 0 0) (.slice none 0 0) (.slice none 0 0) (.slice none 0 0) (.slice none 0 0) (.slice none 0 0) (.slice none 0 0) (.int .i64 0) (.int .i64 0) (.int .i64 0)).heap[w.heap.size]? =some (.cells Kr 36 (0,0)):=VP R2.out;have BF:Bl w (KW w2 w.heap.size (.slice none 0 0) (.slice none 0 0) (.slice none 0 0) (.slice none 0 0) (.slice none 0 0) (.slice none 0 0) (.slice none 0 0) (.slice none 0 0) (.slice none 0 0) (.slice none 0 0) (.int .i64 0) (.int .i64 0) (.int .i64 0)):=Ej B2.out (U3 _);obtain⟨WF,hWF⟩: ∃ WF,WF=KW w2 w.heap.size (.slice none 0 0) (.slice none 0 0) (.slice none 0 0) (.slice none 0 0) (.slice none 0 0) (.slice none 0 0) (.slice none 0 0) (.slice none 0 0) (.slice none 0 0) (.slice none 0 0) (.int .i64 0) (.int .i64 0) (.int .i64 0):=⟨_,rfl⟩;rw[<-hWF]at RF BF;dsimp only[KW]at hWF
      rw[<-hWF];have HRF:=qA RF;have HBF:=qA BF;clear hWF RF BF rf j0 j1 j2 j3 j4 j5 j6 j7 j8 j9 j10 j11 j12 y29;go_wp2_with fail;refine bodyPost_ret (yF rfl _ WF.drew w.heap.size 36 Kr (0,0) _ _ _ rfl rfl rfl HRF.out Tryz.underlying36 rfl (by kernel_rfl)) rfl ?_;exact⟨YV,[],rfl,Jm _ _,⟨Jl,Jk _⟩,qH HBF.out⟩
     ·
      have HQ2:=qA (show(emptyT,(s.lines.getD p.toNat []).getD i.toNat 0,ec)=(t,n,e) by rw[<-HQ.out,U5 hi]);obtain⟨d1,d2⟩:=qAE HQ2.out;obtain⟨d3,d4⟩:=qAE d2;rcases OE HK.out HCK.out hec with hneg|⟨q,j,rfl,hq,rfl,hj⟩
      · exact absurd hneg hi
      have hli:=PT.out.lns hq;simp only[Int.toNat_natCast]at d3;obtain⟨pq,oq,cq,eq,k1,k2,k3,hcq⟩:=hli.open (by show 0<(qN s q).length;unfold qN;omega);have hjl:j<(qN s q).length:=hj;have hpq:pq≠w.heap.size:=fun e=>by
       have h1:=PT.out.lab (q+10) (by omega) pq (by rw[eq];rfl);have h2:own' w.heap.size=97:=(HMV.out.lab _ (by have:=BG.out.size;omega)).trans (HLOW.out _ hs1);rw[e,h2]at h1;omega
      have hcell:wr.cell? ⟨pq,oq+j,none⟩=some (.int .i64 n):=by
       have:=hcq j _ (U2 hjl) 0 _ rfl;rw[show oq+j*1+0=oq+j by omega]at this;rw[this,<-d3];have hn:(s.lines.getD q []).getD j 0=(qN s q)[j]'hjl:=by
        show(qN s q).getD j 0=_
        rw[List.getD_eq_getElem?_getD,U2 hjl];rfl
       rw[hn]
      obtain⟨nl,hnl⟩: ∃ nl,(qN s q).length=nl:=⟨_,rfl⟩;have hrow:wr.cell? ⟨w1.heap.size+4,19+q,none⟩=some (.slice (some ⟨pq,oq,none⟩) nl cq):=by
       rw[<-hnl,<-eq];have:=qC FA.out (KR (q+10)) _ (uN _ _ _ _ _ _ _ (by omega));rw[show KR (q+10)=19+q by unfold KR;rw[U5 (by omega)];omega]at this;exact this
      rw[hnl]at hjl;have jn:(j:Int)<(nl:Int):=by omega
      clear HQ HQ2 d2 d3 hli hcq hj eq hnl;subst d1 d4;go_wp2_with (go_at_call 21;refine hcheck.mono ?_)
      first
       |(intro y2 w2 hy2 b2;subst hy2)
       |rintro y2 w2 ⟨rfl,b2⟩
      have R2:=qA (qX Rr.out b2);have B2:=qA (qF Br.out b2);have yr:=((qG b2).1 _ _ hgl).trans hrow;have yc:=((qG b2).1 _ _ k3).trans hcell;clear b2 hrow hcell x0 x1 x2 x3 x4 x5 x6 x7 x8 x9 x10 x11 x12;have rf:=U8 R2.out;have j0:=qC R2.out 0 _ rfl;have j1:=qC R2.out 1 _ rfl;have j2:=qC R2.out 2 _ rfl;have j3:=qC R2.out 3 _ rfl;have j4:=qC R2.out 4 _ rfl;have j5:=qC R2.out 5 _ rfl;have j6:=qC R2.out 6 _ rfl;have j7:=qC R2.out 7 _ rfl;have j8:=qC R2.out 8 _ rfl;have j9:=qC R2.out 9 _ rfl;have j10:=qC R2.out 10 _ rfl;have j11:=qC R2.out 11 _ rfl;have j12:=qC R2.out 12 _ rfl;obtain rfl|rfl|rfl|rfl|rfl|rfl|rfl|rfl|rfl|rfl:q=0∨q=1∨q=2∨q=3∨q=4∨q=5∨q=6∨q=7∨q=8∨q=9:=by omega
      all_goals
       go_wp2_with fail;go_region
       have RF:(KW w2 w.heap.size (.slice none 0 0) (.slice none 0 0) (.slice none 0 0) (.slice none 0 0) (.slice none 0 0) (.slice none 0 0) (.slice none 0 0) (.slice none 0 0) (.slice none 0 0) (.slice none 0 0) (.int .i64 0) (.int .i64 0) (.int .i64 0)).heap[w.heap.size]? =some (.cells Kr 36 (0,0)):=VP R2.out;have BF:Bl w (KW w2 w.heap.size (.slice none 0 0) (.slice none 0 0) (.slice none 0 0) (.slice none 0 0) (.slice none 0 0) (.slice none 0 0) (.slice none 0 0) (.slice none 0 0) (.slice none 0 0) (.slice none 0 0) (.int .i64 0) (.int .i64 0) (.int .i64 0)):=Ej B2.out (U3 _);obtain⟨WF,hWF⟩: ∃ WF,WF=KW w2 w.heap.size (.slice none 0 0) (.slice none 0 0) (.slice none 0 0) (.slice none 0 0) (.slice none 0 0) (.slice none 0 0) (.slice none 0 0) (.slice none 0 0) (.slice none 0 0) (.slice none 0 0) (.int .i64 0) (.int .i64 0) (.int .i64 0):=⟨_,rfl⟩;rw[<-hWF]at RF BF;dsimp only[KW]at hWF
       rw[<-hWF];have HRF:=qA RF;have HBF:=qA BF;clear hWF RF BF rf j0 j1 j2 j3 j4 j5 j6 j7 j8 j9 j10 j11 j12 yr yc;go_wp2_with fail;refine bodyPost_ret (yF rfl _ WF.drew w.heap.size 36 Kr (0,0) _ _ _ rfl rfl rfl HRF.out Tryz.underlying36 rfl (by kernel_rfl)) rfl ?_;exact⟨YV,[],rfl,Jm _ _,⟨Jl,Jk _⟩,qH HBF.out⟩
 ·
  have HP:=qA (show(emptyT,(0:Int),e0)=(t,n,e) by rw[<-H.out,uS HLS.out he0]);obtain⟨d1,d2⟩:=qAE HP.out;obtain⟨d3,d4⟩:=qAE d2;have f0:(e0 != 0)=true:=by rw[bne_iff_ne];exact he0
  clear HP d2 H;subst d1 d3 d4;go_enter Tryz.func10,Tryz.ntmps10
  go_wp2_with (go_at_call 19;refine hlc0.mono ?_)
  rintro y1 w1 ⟨v1,rfl,o1,b1⟩;have R1:=qA (qX HR0.out b1);have B1:=qA (qF HB0.out b1);clear b1 o1 hlc0;have rf:=U8 R1.out;have j0:=qC R1.out 0 _ rfl;have j1:=qC R1.out 1 _ rfl;have j2:=qC R1.out 2 _ rfl;have j3:=qC R1.out 3 _ rfl;have j4:=qC R1.out 4 _ rfl;have j5:=qC R1.out 5 _ rfl;have j6:=qC R1.out 6 _ rfl;have j7:=qC R1.out 7 _ rfl;have j8:=qC R1.out 8 _ rfl;have j9:=qC R1.out 9 _ rfl;have j10:=qC R1.out 10 _ rfl;have j11:=qC R1.out 11 _ rfl;have j12:=qC R1.out 12 _ rfl;go_wp2_with fail;refine bodyPost_ret (yF rfl _ _ w.heap.size 36 _ (0,0) _ _ _ rfl rfl rfl (VP R1.out) Tryz.underlying36 rfl (by kernel_rfl)) rfl ?_;exact⟨YV,[],rfl,Jm _ _,⟨Jl,Jk _⟩,Ej B1.out (U3 _)⟩
theorem Su (txt:ByteArray) (hs:txt.size<=4294967280) (m:Int) (t:TtD) (n e:Int) (H:Hid (vC txt.data.toList=(t,n,e))) (w:World) (env:ah m w) (hK:Hid ((vT txt.data.toList).1.all Us=true)):
  Calls Tryz.prog 10 #[.string txt] w fun q w'=> ∃ V ts,q= .returned (.tuple #[JP V t, .int .i64 n, .int .i64 e])/\yA w'.heap.size w' V ts t/\ZZ t/\Bl w w':=
 (Tv txt hs m t n e H w env hK).mono fun _ _ ⟨V,ts,h1,h2,h3,h4⟩=>⟨V,ts,h1,h2,h3.1,h4⟩
end Go.Proofs.YtakedkcjplfgeaaGreatDoor
