/- Contracts, proved. Conditions: theirs. -/
import Derived.Test.YtakedkcjplfgeaaGreatDoorMPsG
import Derived.Test.YtakedkcjplfgeaaGreatDoorMRkC
set_option maxRecDepth 1000000
set_option maxHeartbeats 32000000
open Go.Proofs.Tryz
namespace Go.Proofs.YtakedkcjplfgeaaGreatDoor
open Go.RowKit
open Frq Thr Tt Num Clk Dat Fld
theorem qBn (B g:Nat) (vs:Nat->Value) (ts:List TripD) (own:Nat->Nat) (s:St) (o:Bool) (p i:Int) (hi:i<0) (w:World) (h:qAN B g 0 vs ts own s o w):
  Calls prog 26 #[.pointer (some ⟨g,0,none⟩), .int .i64 p, .int .i64 i] w λq w'=>q= .returned (.int .i64 s.rules)/\Bl w w':=by
 have c23:=qC h.rat 23 _ rfl;go_enter func26,ntmps26
 go_wp2;go_ret;exact⟨rfl,qB _⟩
theorem qBo (B g:Nat) (vs:Nat->Value) (ts:List TripD) (own:Nat->Nat) (s:St) (o:Bool) (q j:Nat) (hq:q<10) (hj:j<(qN s q).length) (r:Int) (hr:(qN s q)[j]? =some r) (w:World) (h:qAN B g 0 vs ts own s o w):
  Calls prog 26 #[.pointer (some ⟨g,0,none⟩), .int .i64 q, .int .i64 j] w λq w'=>q= .returned (.int .i64 r)/\Bl w w':=by
 obtain⟨pq,oq,cq,eq,k1,k2,k3,hcq⟩:=(h.parts.lns hq).open ω;have hcell:w.cell? ⟨pq,oq+j,none⟩=some (.int .i64 r):=by
  have:=hcq j _ hr 0 _ rfl;rw[show oq+j*1+0=oq+j by omega]at this;exact this
 have hrow:w.cell? ⟨g,13+q,none⟩=some (.slice (some ⟨pq,oq,none⟩) (qN s q).length cq):=by
  have:=h.row (k:=q+10) ω;rw[show qAw (q+10)=13+q by unfold qAw;rw[U5 ω];omega,eq]at this;exact this
 generalize (qN s q).length=nl at hrow hj
 have i0: ¬ ((j:Int)<0):=ω
 have i1:(j:Int)<(nl:Int):=ω
 have i2:(q:Int)<10:=ω
 clear hcq eq h hr;go_enter func26,ntmps26
 go_wp2;go_ret;exact⟨rfl,qB _⟩
structure qCJ (N:Nat) (s:St):Prop where
 small:ww N s
 ok:ZZ s.t
 opn:s.opened=true->s.t.trips≠[]
theorem qCZ {N:Nat} {s s2:St} {f:List Ψ} {n E:Int} (h:qCJ N s) (hN:N<=1000000) (hf: ∀ x∈f,x.length<=131072) (H:qBd s f n=(s2,E)):qCJ (N+1) s2:=by
 have h0:qCJ (N+1) s:=⟨h.small.mono ω,h.ok,h.opn⟩;unfold qBd at H;split at H
 · rw[<-(qAE H).1];exact h0
 rename_i k hk;split at H
 · rw[<-(qAE H).1];exact h0
 split at H
 · rw[<-(qAE H).1];exact h0
 rename_i h10;split at H
 · rw[<-(qAE H).1];exact h0
 have e:s2=(qy s k f n).1:=by rw[H]
 rw[e];refine⟨YL h.small k f n,VQ h.ok h.small hN k f hf n,λho=>fE s k f n ?_⟩;rw[Wn,Bool.or_eq_true,beq_iff_eq,beq_iff_eq]at ho;rcases ho with rfl|rfl
 · exact .inl rfl
 refine .inr ⟨rfl,h.opn ?_⟩;cases hs:s.opened with
 |true=>rfl
 |false=>exact absurd ⟨rfl,hs⟩ h10
theorem qCQ (txt:Φ) (hs:txt.size<=4294967280) (t:TtD) (n e:Int) (H:Hid (vC txt.data.toList=(t,n,e))) (w:World):
  Calls prog 11 #[.string txt] w λq w'=> ∃ V ts,q= .returned (.tuple #[JP V t, .int .i64 n, .int .i64 e])/\yA w'.heap.size w' V ts t/\Bl w w':=by
 obtain⟨⟨ls,e0⟩,hl⟩: ∃ p,vT txt.data.toList=p:=⟨_,rfl⟩;have hlc:=λW=>qCa txt hs ls e0 (qA hl) W
 have HR0:=qA (heap_alloc_new w (.cells Kr 36));have hb0:Bl w (w.alloc (.cells Kr 36)):=qE (qB w) _;have HB0:=qA hb0;have hlc0:=hlc (w.alloc (.cells Kr 36));have HLS:=qA hl;have hz:(w.alloc (.cells Kr 36)).heap.size=w.heap.size+1:=σ
 have HZ:=qA hz;clear hb0 hlc hl hz;by_cases he0:e0=0
 ·
  subst he0;obtain⟨⟨sF,nF,eF⟩,hF⟩: ∃ p,yz Tt.start 1 ls=p:=⟨_,rfl⟩;have HF:=qA hF;have hsz:=uA HLS.o;have HSZ:=qA hsz;clear hF hsz;go_enter func11,ntmps11
  go_wp2_with (go_at_call 22;refine hlc0.mono ?_)
  rintro y1 w1 ⟨v1,rfl,o1,b1⟩;have o2:=Qz o1;obtain⟨av,cv,rfl,q1,q2⟩:=o2.val;have O1:=qA o2;have R1:=qA (qX HR0.o b1);have B1:=qA (qF HB0.o b1);have hs1:w.heap.size<w1.heap.size:=by have:=b1.size;have:=HZ.o;omega
  obtain⟨own,hown⟩:=ε (wO (λ_=>97) w1.heap.size 99);obtain⟨wg,hwg⟩:=ε (w1.alloc (.cells (qZc (λ_=> .slice none 0 0) emptyT.fares 0 false 0) 83));have bg:Bl w1 wg:=by rw[<-hwg];exact qE (qB _) _
  have FG:Hid (qAN w1.heap.size w1.heap.size 0 (λ_=> .slice none 0 0) [] own Tt.start false wg):=by
   refine⟨by rw[<-hwg];exact heap_alloc_new w1 _,nz (qAD 4) _ _ _ _ (λj hj=>absurd hj (Nat.not_lt_zero j)) (λj hj=>absurd hj (Nat.not_lt_zero j)),by rw[<-hown];exact Zm _ _ _,U3 _⟩
  have HLOW:Hid (∀ b,b<w1.heap.size->own b=97):=λb hb=>by rw[<-hown];exact kC _ ω _
  simp only[qZc,emptyT]at hwg;go_wp2_with fail;have BG:=qA bg;clear hwg hown bg b1 o1 o2 hlc0;go_loopw [8] (λi wr=> ∃ (k:Nat) (s:St) (vs:Nat->Value) (ts:List TripD) (own':Nat->Nat),(k<=ls.length/\i= .int .i64 k)/\Hid (qAN w1.heap.size w1.heap.size 0 vs ts own' s s.opened wr)/\Hid (qCJ k s)/\Hid (AU s)/\Hid (yz s (1+(k:Int)) (ls.drop k)=(sF,nF,eF))/\Hid (Mv own wg own' wr)) (λi _=>ls.length-(intOf i).toNat)
  case atStart=>exact⟨0,_,_,_,own,⟨qAD _,rfl⟩,FG,⟨oW,aW,λh=>by cases h⟩,tZ _,HF,Mv.refl own wg⟩
  obtain⟨k,s,vs,ts,own',⟨hk,rfl⟩,HS,HI,HK,HC,HMV⟩:=hrel;have hkN:k<=999999:=by have:=HSZ.o.1;omega
  have MG:=qA (show Bl w1 wr from nT BG.o HMV.o HLOW.o);have hwr:=MG.o.size;have Rr:=qA (qX R1.o MG.o);have Br:=qA (qF B1.o MG.o);by_cases hlt:k<ls.length
  ·
   obtain⟨x,hx⟩: ∃ x,ls[k]? =some x:=⟨_,U2 hlt⟩;obtain⟨pb,po,pc,e1,l1,l2,l3,hc⟩:=O1.o.open ω;rw[Value.slice.injEq]at e1;obtain⟨rfl,-,rfl⟩:=e1;have c1:wr.cell? ⟨pb,po+k,none⟩=some (qP x):=by
    have:=hc k x hx 0 _ rfl;rw[show po+k*1+0=po+k by omega]at this;exact((qG MG.o).1 _ _ l3).trans this
   have i1:(k:Int)<(ls.length:Int):=ω
   have hxl:x.length<=131072:=by have:=HSZ.o.2 x (Uz hx);omega
   obtain⟨⟨s2,E⟩,hE⟩: ∃ p,vN s x (1+(k:Int))=p:=⟨_,rfl⟩;have HEE:=qA hE;have HX:=qA hx;have HNX:=qA (λh:(vN s x (1+(k:Int))).2=0=>nM (s:=s) (n:=1+(k:Int)) HX.o h);clear hE hx hc;by_cases hig:x=[]∨x.head?=some 35
   ·
    have hq:(s,(0:Int))=(s2,E):=by rw[<-HEE.o];unfold vN;rw[U6 hig]
    obtain⟨d1,d2⟩:=qAE hq;clear hq;subst d1 d2;have HN:=qA (show yz s (1+((k+1:Nat):Int)) (ls.drop (k+1))=(sF,nF,eF) by
     rw[<-HC.o,HNX.o (by rw[HEE.o]),HEE.o,show 1+((k+1:Nat):Int)=1+(k:Int)+1 by omega])
    have HI2:=qA (show qCJ (k+1) s from⟨HI.o.small.mono ω,HI.o.ok,HI.o.opn⟩);cases x with
    |nil=>
     go_wp2;go_roundw;case rel=>exact⟨k+1,s,vs,ts,own',⟨ω,by go_num⟩,HS,HI2,HK,HN,HMV⟩
     simp[intOf];omega
    |cons b r=>
     have y0: ∀ w:World,(Instr.index 9 (qP (b::r)) (.int .i64 0)).run prog w= .ok (.int .u8 (b.toNat:Int)) w:=λw=>Nu.KI ⟨(b::r).toArray⟩ 0 0 rfl (by show 0<(b::r).toArray.size;simp) w
     have h35:b=35:=by rcases hig with h|h;(cases h);(exact qAB h)
     obtain⟨u1,-⟩:=ZX (n:=35) (k:=35) ω rfl h35;go_wp2;go_roundw;case rel=>exact⟨k+1,s,vs,ts,own',⟨ω,by go_num⟩,HS,HI2,HK,HN,HMV⟩
     simp[intOf];omega
   obtain⟨b,r,rfl⟩: ∃ b r,x=b::r:=by cases x with
    |nil=>exact absurd (.inl rfl) hig
    |cons b r=>exact⟨b,r,rfl⟩
   have y0: ∀ w:World,(Instr.index 9 (qP (b::r)) (.int .i64 0)).run prog w= .ok (.int .u8 (b.toNat:Int)) w:=λw=>Nu.KI ⟨(b::r).toArray⟩ 0 0 rfl (by show 0<(b::r).toArray.size;simp) w
   have h35:b≠35:=λe=>hig (.inr (by rw[e];rfl))
   obtain⟨u1,-⟩:=xY (n:=35) (k:=35) rfl h35;obtain⟨⟨l,e⟩,hs⟩: ∃ p,yM (b::r)=p:=⟨_,rfl⟩;have hsp:=λw=>qCb ⟨(b::r).toArray⟩ (VO (b::r) ω) l e (qA hs) w
   have HSP:=qA hs;have HNO:=qA hig;have hkw:IntKind.i64.wrap ((k:Int)+1)=(k:Int)+1:=IntWalk.i64_in _ ω;clear hs hig h35;by_cases he:e=0
   ·
    subst he;have hne:=D6 HSP.o σ;obtain⟨f0,fs,rfl⟩: ∃ f0 fs,l=f0::fs:=by cases l with
     |nil=>exact absurd rfl hne
     |cons f0 fs=>exact⟨f0,fs,rfl⟩
    have hlen:=ZU HSP.o;have HL0:Hid (∀ y∈f0::fs,y.length<=131072):=λy hy=>Ux (hlen y hy) hxl
    have hrec:qBd s (f0::fs) ((k:Int)+1)=(s2,E):=by rw[Int.add_comm,<-qCG HNO.o HSP.o];exact HEE.o
    have HREC:=qA hrec;have HI2:=qA (qCZ HI.o ω HL0.o hrec);have HCL: ∀ (W:World) (fb fo fc:Nat) (hb:Bl wr W) (W2:World),QAt w1.heap.size vs s.t.fares s.rules s.opened 0 W2->Gr w1.heap.size W W2->wr.heap.size<=fb->fb<W.heap.size->(∀ (i:Nat) (y:Ψ),(f0::fs)[i]? =some y->W.cell? ⟨fb,fo+i,none⟩=some (qP y))->fs.length+1<=fc/\fc<=9223372036854775807->
      Calls prog 25 #[.pointer (some ⟨w1.heap.size,0,none⟩), .slice (some ⟨fb,fo,none⟩) (fs.length+1) fc, .int .i64 ((k:Int)+1)] W2 λq w'=>q= .returned (.tuple #[])/\ ∃ (vs':Nat->Value) (ts':List TripD) (own2:Nat->Nat),qAN w1.heap.size w1.heap.size E vs' ts' own2 s2 s2.opened w'/\Mv own wg own2 w':=λW fb fo fc hb W2 hq hg h1 h2 hcell hcp=>by
     have hgl:=HS.o.glt;have lgg:wO own' fb 98 w1.heap.size=99:=(kC own' ω 98).trans HS.o.lg;have hne2:fb≠w1.heap.size:=ω
     refine(qB6 w1.heap.size w1.heap.size fb fo fc k vs ts (wO own' fb 98) s f0 fs ((k:Int)+1) s2 E HREC HL0.o HI.o.small ω HI.o.opn W2 ⟨hq,((HS.o.parts.relabel h1 98).bl hb).kept hg (λb hb=>by simp only[qAA]at hb;rw[<-hb,lgg];omega),lgg,U3 _⟩ (Zm own' fb 98) (Nat.lt_of_lt_of_le h2 hg.size) (λi y hy=>(hg.cell_far ⟨fb,fo+i,none⟩ h2 (λe=>hne2 (qAB e))).trans (hcell i y hy)) hcp).mono ?_;rintro q w' ⟨rfl,vs',ts',own2,R,M⟩;exact⟨rfl,vs',ts',own2,R,HMV.o.trans ((VB hb h1 98).trans ((QK hg lgg).trans M))⟩
    have HCR:=qA HCL;clear HCL hrec hlen hne;by_cases h0:E=0
    ·
     subst h0;have HN:=qA (show yz s2 (1+((k+1:Nat):Int)) (ls.drop (k+1))=(sF,nF,eF) by
      rw[<-HC.o,HNX.o (by rw[HEE.o]),HEE.o,show 1+((k+1:Nat):Int)=1+(k:Int)+1 by omega])
     go_wp2_with (first
      |(go_at_call 23;refine(hsp _).mono ?_;rintro y2 w2 ⟨v2,rfl,o2,b2⟩;obtain⟨fb,fo,fc,rfl,k1,k2,k3,hc⟩:=(Qz o2).open σ;have hfb:wr.heap.size<=fb:=(qAG o2 fb rfl).1;have HC2:=qA (show ∀ (i:Nat) (y:Ψ),(f0::fs)[i]? =some y->w2.cell? ⟨fb,fo+i,none⟩=some (qP y) from λi y hy=>by have h:=hc i y hy 0 _ rfl;rw[show fo+i*1+0=fo+i by omega]at h;exact h);simp only[U7]at k1 ⊢;clear hc)
      |(go_at_call 24;refine(qAO w1.heap.size vs s.t.fares s.rules s.opened 0 0 0 (qA rfl) w2 (HS.o.rat.bl b2)).mono ?_;rintro y3 w3 ⟨rfl,r3,g3⟩;have c25:w3.cell? ⟨w1.heap.size,25,none⟩=some (.int .i64 0):=qC r3 25 _ rfl)
      |(go_at_call 25;refine(HCR.o w2 fb fo fc b2 w3 r3 g3 hfb k3 HC2.o ⟨k1,k2⟩).mono ?_;rintro y4 w4 ⟨rfl,vs4,ts4,own4,R4,M4⟩;have d25:w4.cell? ⟨w1.heap.size,25,none⟩=some (.int .i64 0):=qC R4.rat 25 _ rfl))
     go_roundw;case rel=>
      refine⟨k+1,s2,vs4,ts4,own4,⟨ω,by go_num⟩,R4,HI2, ?_,HN,M4⟩;have:=tY HK.o (b::r) (n:=1+(k:Int)) ω;rw[HEE.o]at this;exact this
     simp[intOf];omega
    have f0':(E != 0)=true:=by rw[bne_iff_ne];exact h0
    have HQ:=qA (show(s,1+(k:Int),E)=(sF,nF,eF) by rw[<-HC.o,nN (s:=s) (n:=1+(k:Int)) HX.o (by rw[HEE.o];exact h0),HEE.o]);have HP:=qA (show(emptyT,(k:Int)+1,E)=(t,n,e) by
     obtain⟨e1,e2⟩:=qAE HQ.o;obtain⟨e3,e4⟩:=qAE e2;rw[<-H.o,uQ HLS.o HF.o (by rw[<-e4];exact h0),<-e3,<-e4,Int.add_comm])
    obtain⟨d1,d2⟩:=qAE HP.o;obtain⟨d3,d4⟩:=qAE d2;clear HP HQ d2 H;subst d1 d3 d4;go_wp2_with (first
     |(go_at_call 23;refine(hsp _).mono ?_;rintro y2 w2 ⟨v2,rfl,o2,b2⟩;obtain⟨fb,fo,fc,rfl,k1,k2,k3,hc⟩:=(Qz o2).open σ;have hfb:wr.heap.size<=fb:=(qAG o2 fb rfl).1;have HC2:=qA (show ∀ (i:Nat) (y:Ψ),(f0::fs)[i]? =some y->w2.cell? ⟨fb,fo+i,none⟩=some (qP y) from λi y hy=>by have h:=hc i y hy 0 _ rfl;rw[show fo+i*1+0=fo+i by omega]at h;exact h);simp only[U7]at k1 ⊢;clear hc)
     |(go_at_call 24;refine(qAO w1.heap.size vs s.t.fares s.rules s.opened 0 0 0 (qA rfl) w2 (HS.o.rat.bl b2)).mono ?_;rintro y3 w3 ⟨rfl,r3,g3⟩;have c25:w3.cell? ⟨w1.heap.size,25,none⟩=some (.int .i64 0):=qC r3 25 _ rfl)
     |(go_at_call 25;refine(HCR.o w2 fb fo fc b2 w3 r3 g3 hfb k3 HC2.o ⟨k1,k2⟩).mono ?_;rintro y4 w4 ⟨rfl,vs4,ts4,own4,R4,M4⟩;have d25:w4.cell? ⟨w1.heap.size,25,none⟩=some (.int .i64 E):=qC R4.rat 25 _ rfl))
    have M5:=qA (show Bl w1 w4 from nT BG.o M4 HLOW.o);have R5:=qA (qX R1.o M5.o);have B5:=qA (qF B1.o M5.o);have rf:=U8 R5.o;have j0:=qC R5.o 0 _ rfl;have j1:=qC R5.o 1 _ rfl;have j2:=qC R5.o 2 _ rfl;have j3:=qC R5.o 3 _ rfl;have j4:=qC R5.o 4 _ rfl;have j5:=qC R5.o 5 _ rfl;have j6:=qC R5.o 6 _ rfl;have j7:=qC R5.o 7 _ rfl;have j8:=qC R5.o 8 _ rfl;have j9:=qC R5.o 9 _ rfl;have j10:=qC R5.o 10 _ rfl;have j11:=qC R5.o 11 _ rfl;have j12:=qC R5.o 12 _ rfl;go_wp2_with fail;go_region
    have RF:(KW w4 w.heap.size (.slice none 0 0) (.slice none 0 0) (.slice none 0 0) (.slice none 0 0) (.slice none 0 0) (.slice none 0 0) (.slice none 0 0) (.slice none 0 0) (.slice none 0 0) (.slice none 0 0) (.int .i64 0) (.int .i64 0) (.int .i64 0)).heap[w.heap.size]? =some (.cells Kr 36 (0,0)):=VP R5.o;have BF:Bl w (KW w4 w.heap.size (.slice none 0 0) (.slice none 0 0) (.slice none 0 0) (.slice none 0 0) (.slice none 0 0) (.slice none 0 0) (.slice none 0 0) (.slice none 0 0) (.slice none 0 0) (.slice none 0 0) (.int .i64 0) (.int .i64 0) (.int .i64 0)):=Ej B5.o (U3 _);obtain⟨WF,hWF⟩: ∃ WF,WF=KW w4 w.heap.size (.slice none 0 0) (.slice none 0 0) (.slice none 0 0) (.slice none 0 0) (.slice none 0 0) (.slice none 0 0) (.slice none 0 0) (.slice none 0 0) (.slice none 0 0) (.slice none 0 0) (.int .i64 0) (.int .i64 0) (.int .i64 0):=⟨_,rfl⟩;rw[<-hWF]at RF BF;dsimp only[KW]at hWF
    rw[<-hWF];have HRF:=qA RF;have HBF:=qA BF;clear hWF RF BF rf j0 j1 j2 j3 j4 j5 j6 j7 j8 j9 j10 j11 j12 ;go_wp2_with fail;refine bodyPost_ret (yF rfl _ WF.drew w.heap.size 36 Kr (0,0) _ _ _ rfl rfl rfl HRF.o underlying36 rfl κ) rfl ?_;exact⟨YV,[],rfl,Jm _ _,qH HBF.o⟩
   have hq:(s,e)=(s2,E):=(DJ HNO.o HSP.o he).symm.trans HEE.o;obtain⟨g1,g2⟩:=qAE hq;clear hq;subst g1 g2;have f0':(e != 0)=true:=by rw[bne_iff_ne];exact he
   have f1':(e==0)=false:=by rw[U0];exact he
   have HQ:=qA (show(s,1+(k:Int),e)=(sF,nF,eF) by rw[<-HC.o,nN (s:=s) (n:=1+(k:Int)) HX.o (by rw[HEE.o];exact he),HEE.o]);have HP:=qA (show(emptyT,(k:Int)+1,e)=(t,n,_) by
    obtain⟨e1,e2⟩:=qAE HQ.o;obtain⟨e3,e4⟩:=qAE e2;rw[<-H.o,uQ HLS.o HF.o (by rw[<-e4];exact he),<-e3,<-e4,Int.add_comm])
   obtain⟨d1,d2⟩:=qAE HP.o;obtain⟨d3,d4⟩:=qAE d2;clear HP HQ d2 H;subst d1 d3 d4;go_wp2_with (first
    |(go_at_call 23;refine(hsp _).mono ?_;rintro y2 w2 ⟨v2,rfl,o2,b2⟩)
    |(go_at_call 24;refine(qAO w1.heap.size vs s.t.fares s.rules s.opened 0 e e (qA rfl) w2 (HS.o.rat.bl b2)).mono ?_;rintro y3 w3 ⟨rfl,r3,g3⟩;have c25:w3.cell? ⟨w1.heap.size,25,none⟩=some (.int .i64 e):=qC r3 25 _ rfl))
   have M5:=qA (show Bl w1 w3 from nT BG.o (HMV.o.trans ((yJ b2).trans (QK g3 HS.o.lg))) HLOW.o);have R5:=qA (qX R1.o M5.o);have B5:=qA (qF B1.o M5.o);have rf:=U8 R5.o;have j0:=qC R5.o 0 _ rfl;have j1:=qC R5.o 1 _ rfl;have j2:=qC R5.o 2 _ rfl;have j3:=qC R5.o 3 _ rfl;have j4:=qC R5.o 4 _ rfl;have j5:=qC R5.o 5 _ rfl;have j6:=qC R5.o 6 _ rfl;have j7:=qC R5.o 7 _ rfl;have j8:=qC R5.o 8 _ rfl;have j9:=qC R5.o 9 _ rfl;have j10:=qC R5.o 10 _ rfl;have j11:=qC R5.o 11 _ rfl;have j12:=qC R5.o 12 _ rfl;go_wp2_with fail;go_region
   have RF:(KW w3 w.heap.size (.slice none 0 0) (.slice none 0 0) (.slice none 0 0) (.slice none 0 0) (.slice none 0 0) (.slice none 0 0) (.slice none 0 0) (.slice none 0 0) (.slice none 0 0) (.slice none 0 0) (.int .i64 0) (.int .i64 0) (.int .i64 0)).heap[w.heap.size]? =some (.cells Kr 36 (0,0)):=VP R5.o;have BF:Bl w (KW w3 w.heap.size (.slice none 0 0) (.slice none 0 0) (.slice none 0 0) (.slice none 0 0) (.slice none 0 0) (.slice none 0 0) (.slice none 0 0) (.slice none 0 0) (.slice none 0 0) (.slice none 0 0) (.int .i64 0) (.int .i64 0) (.int .i64 0)):=Ej B5.o (U3 _);obtain⟨WF,hWF⟩: ∃ WF,WF=KW w3 w.heap.size (.slice none 0 0) (.slice none 0 0) (.slice none 0 0) (.slice none 0 0) (.slice none 0 0) (.slice none 0 0) (.slice none 0 0) (.slice none 0 0) (.slice none 0 0) (.slice none 0 0) (.int .i64 0) (.int .i64 0) (.int .i64 0):=⟨_,rfl⟩;rw[<-hWF]at RF BF;dsimp only[KW]at hWF
   rw[<-hWF];have HRF:=qA RF;have HBF:=qA BF;clear hWF RF BF rf j0 j1 j2 j3 j4 j5 j6 j7 j8 j9 j10 j11 j12 ;go_wp2_with fail;refine bodyPost_ret (yF rfl _ WF.drew w.heap.size 36 Kr (0,0) _ _ _ rfl rfl rfl HRF.o underlying36 rfl κ) rfl ?_;exact⟨YV,[],rfl,Jm _ _,qH HBF.o⟩
  have hdr:ls.drop k=[]:=List.drop_eq_nil_of_le ω;have HQ:=qA (show(s,(0:Int),(0:Int))=(sF,nF,eF) by rw[<-HC.o,hdr];rfl);obtain⟨d1,d2⟩:=qAE HQ.o;obtain⟨d3,d4⟩:=qAE d2;clear HQ HC hdr d2;subst d1 d3 d4;obtain⟨⟨p,i,ec⟩,hck⟩: ∃ q,Qj s.t=q:=⟨_,rfl⟩;have rd:=HS.o.parts.rd;obtain⟨a0,c0,(f0:vs 0=_),-,-⟩:=rd.stops.val;obtain⟨a1,c1,(f1:vs 1=_),-,-⟩:=rd.routes.val;obtain⟨a2,c2,(f2:vs 2=_),-,-⟩:=rd.cals.val;obtain⟨a3,c3,(f3:vs 3=_),-,-⟩:=rd.excs.val;obtain⟨a4,c4,(f4:vs 4=_),-,-⟩:=rd.trips.sl.val;obtain⟨a5,c5,(f5:vs 5=_),-,-⟩:=rd.freqs.val;obtain⟨a6,c6,(f6:vs 6=_),-,-⟩:=rd.thrus.val;obtain⟨a7,c7,(f7:vs 7=_),-,-⟩:=rd.guars.val;obtain⟨a8,c8,(f8:vs 8=_),-,-⟩:=rd.paths.val;obtain⟨a9,c9,(f9:vs 9=_),-,-⟩:=rd.prods.val;simp only[U4]at f5 f6;have HRD:=qA (show yA wr.heap.size wr ⟨.slice a0 s.t.stops.length c0, .slice a1 s.t.routes.length c1, .slice a2 s.t.cals.length c2, .slice a3 s.t.excs.length c3, .slice a4 ts.length c4, .slice a5 s.t.freqs.length c5, .slice a6 s.t.thrus.length c6, .slice a7 s.t.guars.length c7, .slice a8 s.t.paths.length c8, .slice a9 s.t.fares.prods.length c9⟩ ts s.t by rw[<-f0,<-f1,<-f2,<-f3,<-f4,<-f5,<-f6,<-f7,<-f8,<-f9];exact rd);have x0:wr.cell? ⟨w1.heap.size,0,none⟩=some (.slice a0 s.t.stops.length c0):=by rw[<-f0];exact qC HS.o.rat 0 _ rfl
  have x1:wr.cell? ⟨w1.heap.size,1,none⟩=some (.slice a1 s.t.routes.length c1):=by rw[<-f1];exact qC HS.o.rat 1 _ rfl
  have x2:wr.cell? ⟨w1.heap.size,2,none⟩=some (.slice a2 s.t.cals.length c2):=by rw[<-f2];exact qC HS.o.rat 2 _ rfl
  have x3:wr.cell? ⟨w1.heap.size,3,none⟩=some (.slice a3 s.t.excs.length c3):=by rw[<-f3];exact qC HS.o.rat 3 _ rfl
  have x4:wr.cell? ⟨w1.heap.size,4,none⟩=some (.slice a4 ts.length c4):=by rw[<-f4];exact qC HS.o.rat 4 _ rfl
  have x5:wr.cell? ⟨w1.heap.size,5,none⟩=some (.slice a5 s.t.freqs.length c5):=by rw[<-f5];exact qC HS.o.rat 5 _ rfl
  have x6:wr.cell? ⟨w1.heap.size,6,none⟩=some (.slice a6 s.t.thrus.length c6):=by rw[<-f6];exact qC HS.o.rat 6 _ rfl
  have x7:wr.cell? ⟨w1.heap.size,7,none⟩=some (.slice a7 s.t.guars.length c7):=by rw[<-f7];exact qC HS.o.rat 7 _ rfl
  have x8:wr.cell? ⟨w1.heap.size,8,none⟩=some (.slice a8 s.t.paths.length c8):=by rw[<-f8];exact qC HS.o.rat 8 _ rfl
  have x9:wr.cell? ⟨w1.heap.size,9,none⟩=some (.slice a9 s.t.fares.prods.length c9):=by rw[<-f9];exact qC HS.o.rat 9 _ rfl
  have x10:wr.cell? ⟨w1.heap.size,10,none⟩=some (.int .i64 s.t.fares.disc):=qC HS.o.rat 10 _ rfl;have x11:wr.cell? ⟨w1.heap.size,11,none⟩=some (.int .i64 s.t.fares.within):=qC HS.o.rat 11 _ rfl;have x12:wr.cell? ⟨w1.heap.size,12,none⟩=some (.int .i64 s.t.fares.cap):=qC HS.o.rat 12 _ rfl;have hgl:=HS.o.glt;have hcheck:=RG ⟨.slice a0 s.t.stops.length c0, .slice a1 s.t.routes.length c1, .slice a2 s.t.cals.length c2, .slice a3 s.t.excs.length c3, .slice a4 ts.length c4, .slice a5 s.t.freqs.length c5, .slice a6 s.t.thrus.length c6, .slice a7 s.t.guars.length c7, .slice a8 s.t.paths.length c8, .slice a9 s.t.fares.prods.length c9⟩ ts s.t p i ec (qA hck) HI.o.ok wr.heap.size wr HRD.o (U3 _);have HCK:=qA hck;have HV:=qA (show vs 0= .slice a0 s.t.stops.length c0/\vs 1= .slice a1 s.t.routes.length c1/\vs 2= .slice a2 s.t.cals.length c2/\vs 3= .slice a3 s.t.excs.length c3/\vs 4= .slice a4 ts.length c4/\vs 5= .slice a5 s.t.freqs.length c5/\vs 6= .slice a6 s.t.thrus.length c6/\vs 7= .slice a7 s.t.guars.length c7/\vs 8= .slice a8 s.t.paths.length c8/\vs 9= .slice a9 s.t.fares.prods.length c9 from⟨f0,f1,f2,f3,f4,f5,f6,f7,f8,f9⟩);clear hck rd f0 f1 f2 f3 f4 f5 f6 f7 f8 f9;simp only[JP]at hcheck;have HPR:=qA ((uP HLS.o HF.o HCK.o).symm.trans H.o);clear H;by_cases hec:ec=0
  ·
   subst hec;have HQ:=qA (show(s.t,(0:Int),(0:Int))=(t,n,e) by rw[<-HPR.o,U6 rfl]);obtain⟨d1,d2⟩:=qAE HQ.o;obtain⟨d3,d4⟩:=qAE d2;clear HQ HPR d2;subst d1 d3 d4;go_wp2_with (go_at_call 16;refine hcheck.mono ?_)
   rintro y2 w2 ⟨rfl,b2⟩;have R2:=qA (qX Rr.o b2);have B2:=qA (qF Br.o b2);have P2:=qA (HS.o.parts.bl b2);have y0:=((qG b2).1 _ _ hgl).trans x0;have y1:=((qG b2).1 _ _ hgl).trans x1;have y2:=((qG b2).1 _ _ hgl).trans x2;have y3:=((qG b2).1 _ _ hgl).trans x3;have y4:=((qG b2).1 _ _ hgl).trans x4;have y5:=((qG b2).1 _ _ hgl).trans x5;have y6:=((qG b2).1 _ _ hgl).trans x6;have y7:=((qG b2).1 _ _ hgl).trans x7;have y8:=((qG b2).1 _ _ hgl).trans x8;have y9:=((qG b2).1 _ _ hgl).trans x9;have y10:=((qG b2).1 _ _ hgl).trans x10;have y11:=((qG b2).1 _ _ hgl).trans x11;have y12:=((qG b2).1 _ _ hgl).trans x12;clear b2 x0 x1 x2 x3 x4 x5 x6 x7 x8 x9 x10 x11 x12;have rf:=U8 R2.o;have j0:=qC R2.o 0 _ rfl;have j1:=qC R2.o 1 _ rfl;have j2:=qC R2.o 2 _ rfl;have j3:=qC R2.o 3 _ rfl;have j4:=qC R2.o 4 _ rfl;have j5:=qC R2.o 5 _ rfl;have j6:=qC R2.o 6 _ rfl;have j7:=qC R2.o 7 _ rfl;have j8:=qC R2.o 8 _ rfl;have j9:=qC R2.o 9 _ rfl;have j10:=qC R2.o 10 _ rfl;have j11:=qC R2.o 11 _ rfl;have j12:=qC R2.o 12 _ rfl;go_wp2;refine bodyPost_ret (yF rfl _ _ w.heap.size 36 _ (0,0) _ _ _ rfl rfl rfl (VP R2.o) underlying36 rfl κ) rfl ?_;refine⟨⟨.slice a0 s.t.stops.length c0, .slice a1 s.t.routes.length c1, .slice a2 s.t.cals.length c2, .slice a3 s.t.excs.length c3, .slice a4 ts.length c4, .slice a5 s.t.freqs.length c5, .slice a6 s.t.thrus.length c6, .slice a7 s.t.guars.length c7, .slice a8 s.t.paths.length c8, .slice a9 s.t.fares.prods.length c9⟩,ts,rfl, ?_,Ej B2.o (U3 _)⟩;have hl9:own' w.heap.size=97:=(HMV.o.lab _ (by have:=BG.o.size;omega)).trans (HLOW.o _ hs1);have key: ∀ W,Gr w.heap.size w2 W->yA W.heap.size W ⟨.slice a0 s.t.stops.length c0, .slice a1 s.t.routes.length c1, .slice a2 s.t.cals.length c2, .slice a3 s.t.excs.length c3, .slice a4 ts.length c4, .slice a5 s.t.freqs.length c5, .slice a6 s.t.thrus.length c6, .slice a7 s.t.guars.length c7, .slice a8 s.t.paths.length c8, .slice a9 s.t.fares.prods.length c9⟩ ts s.t:=λW hg=>by
    have P3:=P2.o.kept hg (λb hb=>by simp only[qAA]at hb;rw[<-hb,hl9];omega);have r3:=P3.rd;obtain⟨f0,f1,f2,f3,f4,f5,f6,f7,f8,f9⟩:=HV.o;rw[f0,f1,f2,f3,f4,f5,f6,f7,f8,f9]at r3;exact r3
   exact key _ Rl
  have f1:(ec != 0)=true:=by rw[bne_iff_ne];exact hec
  have HQ:=qA (show(if i<0 then(emptyT,s.rules,ec)else(emptyT,(s.lines.getD p.toNat []).getD i.toNat 0,ec))=(t,n,e) by rw[<-HPR.o,U5 hec]);clear HPR;have HWH: ∃ (r:Int),(emptyT,r,ec)=(t,n,e)/\ ∀ W,Bl wr W->Calls prog 26 #[.pointer (some ⟨w1.heap.size,0,none⟩), .int .i64 p, .int .i64 i] W λq w'=>q= .returned (.int .i64 r)/\Bl W w':=by
   by_cases hi:i<0
   · exact⟨_,by rw[<-HQ.o,U6 hi],λW hb=>qBn _ _ vs ts own' s s.opened p i hi W (HS.o.bl hb)⟩
   rcases OE HK.o HCK.o hec with hneg|⟨q,j,rfl,hq,rfl,hj⟩
   · exact absurd hneg hi
   refine⟨_,by rw[<-HQ.o,U5 hi],λW hb=>qBo _ _ vs ts own' s s.opened q j hq hj _ ?_ W (HS.o.bl hb)⟩;simp only[Int.toNat_natCast];show _=some ((qN s q).getD j 0)
   rw[List.getD_eq_getElem?_getD,U2 (show j<(qN s q).length from hj)];rfl
  obtain⟨r,hr,hwh⟩:=HWH;obtain⟨d1,d2⟩:=qAE hr;obtain⟨d3,d4⟩:=qAE d2;have HWH:=qA hwh;clear HQ d2 hr hwh;subst d1 d3 d4;go_wp2_with (first
   |(go_at_call 16;refine hcheck.mono ?_;rintro y2 w2 ⟨rfl,b2⟩)
   |(go_at_call 26;refine(HWH.o w2 b2).mono ?_;rintro y3 w3 ⟨rfl,b3⟩;have R2:=qA (qX (qX Rr.o b2) b3);have B2:=qA (qF (qF Br.o b2) b3);have rf:=U8 R2.o;have j0:=qC R2.o 0 _ rfl;have j1:=qC R2.o 1 _ rfl;have j2:=qC R2.o 2 _ rfl;have j3:=qC R2.o 3 _ rfl;have j4:=qC R2.o 4 _ rfl;have j5:=qC R2.o 5 _ rfl;have j6:=qC R2.o 6 _ rfl;have j7:=qC R2.o 7 _ rfl;have j8:=qC R2.o 8 _ rfl;have j9:=qC R2.o 9 _ rfl;have j10:=qC R2.o 10 _ rfl;have j11:=qC R2.o 11 _ rfl;have j12:=qC R2.o 12 _ rfl))
  refine bodyPost_ret (yF rfl _ _ w.heap.size 36 _ (0,0) _ _ _ rfl rfl rfl (VP R2.o) underlying36 rfl κ) rfl ?_;exact⟨YV,[],rfl,Jm _ _,Ej B2.o (U3 _)⟩
 have HP:=qA (show(emptyT,(0:Int),e0)=(t,n,e) by rw[<-H.o,uS HLS.o he0]);obtain⟨d1,d2⟩:=qAE HP.o;obtain⟨d3,d4⟩:=qAE d2;have f0:(e0 != 0)=true:=by rw[bne_iff_ne];exact he0
 clear HP d2 H;subst d1 d3 d4;go_enter func11,ntmps11
 go_wp2_with (go_at_call 22;refine hlc0.mono ?_)
 rintro y1 w1 ⟨v1,rfl,o1,b1⟩;have R1:=qA (qX HR0.o b1);have B1:=qA (qF HB0.o b1);clear b1 o1 hlc0;have rf:=U8 R1.o;have j0:=qC R1.o 0 _ rfl;have j1:=qC R1.o 1 _ rfl;have j2:=qC R1.o 2 _ rfl;have j3:=qC R1.o 3 _ rfl;have j4:=qC R1.o 4 _ rfl;have j5:=qC R1.o 5 _ rfl;have j6:=qC R1.o 6 _ rfl;have j7:=qC R1.o 7 _ rfl;have j8:=qC R1.o 8 _ rfl;have j9:=qC R1.o 9 _ rfl;have j10:=qC R1.o 10 _ rfl;have j11:=qC R1.o 11 _ rfl;have j12:=qC R1.o 12 _ rfl;go_wp2;refine bodyPost_ret (yF rfl _ _ w.heap.size 36 _ (0,0) _ _ _ rfl rfl rfl (VP R1.o) underlying36 rfl κ) rfl ?_;exact⟨YV,[],rfl,Jm _ _,Ej B1.o (U3 _)⟩
