/- Contracts, proved. Conditions: theirs. -/
import Derived.Test.YtakedkcjplfgeaaGreatDoorMPkLine
import Derived.Test.YtakedkcjplfgeaaGreatDoorMPkChkB
set_option maxRecDepth 1000000
set_option maxHeartbeats 32000000
open Go.Proofs.Tryz
namespace Go.Proofs.YtakedkcjplfgeaaGreatDoor
open Go.RowKit
open Frq Thr Tt
structure lJ (B:Nat) (V:TtV) (ts:List TripD):Prop where
 parts: ∀ v∈[V.stops,V.routes,V.cals,V.excs,V.trips,V.freqs,V.thrus,V.guars,V.paths,V.prods],∀ b,v.ownBlock=some b->B<=b
 calls: ∀ x∈ts,∀ b,x.v.ownBlock=some b->B<=b
theorem lJ.le {B C:Nat} {V:TtV} {ts:List TripD} (h:lJ B V ts) (hc:C<=B):lJ C V ts:=
 ⟨λv hv b hb=>Ux hc (h.parts v hv b hb),λx hx b hb=>Ux hc (h.calls x hx b hb)⟩
theorem ZQ {w:World} {B:Nat} {e:TypeId} {sz n:Nat} {v:Value} {xs:List Value} (h:w.ownsRow B e sz v n xs): ∀ b,v.ownBlock=some b->B<=b:=by
 intro b hb;rcases h.2 with⟨rfl,-⟩|⟨g,cap,cur,rfl,hg,-⟩
 · simp[Value.ownBlock]at hb
 simp[Value.ownBlock]at hb
 omega
theorem qAK.lo {M:Nat} {B:Nat} {w:World} {vs:Nat->Value} {ts:List TripD} {mb own:Nat->Nat} {s:St} {ids:Nat->List Ψ} (h:qAK M B w vs ts mb own s ids):lJ B ⟨vs 0,vs 1,vs 2,vs 3,vs 4,vs 5,vs 6,vs 7,vs 8,vs 9⟩ ts:=
 ⟨λv hv=>by
  simp only[List.mem_cons,List.not_mem_nil,or_false]at hv;rcases hv with rfl|rfl|rfl|rfl|rfl|rfl|rfl|rfl|rfl|rfl
  · exact ZQ (h.row 0 ω)
  · exact ZQ (h.row 1 ω)
  · exact ZQ (h.row 2 ω)
  · exact ZQ (h.row 3 ω)
  · exact ZQ (h.row 4 ω)
  · exact ZQ (h.row 5 ω)
  · exact ZQ (h.row 6 ω)
  · exact ZQ (h.row 7 ω)
  · exact ZQ (h.row 8 ω)
  · exact ZQ (h.row 9 ω),λx hx=>by
  obtain⟨i,hi⟩:=List.getElem?_of_mem hx;exact ZQ (h.calls i x hi)⟩
theorem IW (B:Nat) (V:TtV) (h: ∀ v∈[V.stops,V.routes,V.cals,V.excs,V.trips,V.freqs,V.thrus,V.guars,V.paths,V.prods],v=.slice none 0 0):lJ B V []:=
 ⟨λv hv b hb=>by rw[h v hv]at hb;simp[Value.ownBlock]at hb,λx hx=>by simp at hx⟩
theorem yA.up {B C:Nat} {w:World} {V:TtV} {ts:List TripD} {t:TtD} (h:yA B w V ts t) (hb:B<=C):yA C w V ts t:=
 ⟨h.stops.mono hb,h.routes.mono hb,h.cals.mono hb,h.excs.mono hb,⟨h.trips.sl.mono hb,λx hx=>⟨(h.trips.ok x hx).calls.mono hb,(h.trips.ok x hx).ok⟩⟩,h.same,h.freqs.mono hb,h.thrus.mono hb,h.guars.mono hb,h.paths.mono hb,h.prods.mono hb⟩
end Go.Proofs.YtakedkcjplfgeaaGreatDoor
set_option maxRecDepth 1000000
set_option maxHeartbeats 32000000
namespace Go.Proofs.YtakedkcjplfgeaaGreatDoor
open Go.RowKit
open Frq Thr Tt Num Clk Dat Fld
theorem Jk (B:Nat):lJ B YV []:=IW B _ (by simp[YV])
theorem mX (txt:Φ) (hs:txt.size<=4294967280) (m:Int) (t:TtD) (n e:Int) (H:Hid (vC txt.data.toList=(t,n,e))) (w:World) (env:ah m w):
  Calls prog 10 #[txt] w λq w'=> ∃ V ts,q=.returned (.tuple #[JP V t,n,e])/\yA w'.heap.size w' V ts t/\(ZZ t/\lJ w.heap.size V ts)/\Bl w w':=by
 obtain⟨⟨ls,e0⟩,hl⟩: ∃ p,vT txt.data.toList=p:=⟨_,rfl⟩;have hlc:=λW hW=>Lm txt hs m ls e0 (qA hl) W hW
 have HR0:=qA (heap_alloc_new w (.cells Kr 36));have hb0:Bl w (w.alloc (.cells Kr 36)):=qE (qB w) _;have HB0:=qA hb0;have ml0:(w.alloc (.cells Kr 36)).cell? (1,0)=some (m:Z):=(env.bl hb0).ml;have hlc0:=hlc _ ml0;have HE:=qA env;have HLS:=qA hl;have hz:(w.alloc (.cells Kr 36)).heap.size=w.heap.size+1:=σ
 have HZ:=qA hz;clear hb0 hlc ml0 env hl hz;by_cases he0:e0=0
 ·
  subst he0;obtain⟨⟨sF,nF,eF⟩,hF⟩: ∃ p,yz Tt.start 1 ls=p:=⟨_,rfl⟩;have HF:=qA hF;have hsz:=uA HLS.o;have HSZ:=qA hsz;clear hF hsz;go_enter func10,ntmps10
  go_wp2_with (go_at_call 19;refine hlc0.mono ?_)
  rintro y1 w1 ⟨v1,rfl,o1,b1⟩;obtain⟨av,cv,rfl,q1,q2⟩:=o1.val;have O1:=qA o1;have R1:=qA (qX HR0.o b1);have B1:=qA (qF HB0.o b1);have E1:=qA (HE.o.bl B1.o);have hmm:= @run_makeMap prog;have hs1:w.heap.size<w1.heap.size:=by have:=b1.size;have:=HZ.o;omega
  obtain⟨wg,hwg⟩:=ε (((((w1.alloc (.map #[] 0)).alloc (.map #[] 0)).alloc (.map #[] 0)).alloc (.map #[] 0)).alloc (.cells (pC (.slice none 0 0) 0 (λ_=> .slice none 0 0) emptyT.fares (mb4 w1.heap.size (w1.heap.size+1) (w1.heap.size+2) (w1.heap.size+3)) 0 false) 76));have bg:Bl w1 wg:=by rw[<-hwg];exact qE (qE (qE (qE (qE (qB _) _) _) _) _) _
  have FG:Hid (Eb w1.heap.size (w1.heap.size+4) 0 m (mb4 w1.heap.size (w1.heap.size+1) (w1.heap.size+2) (w1.heap.size+3)) (uM (w1.heap.size+4) (mb4 w1.heap.size (w1.heap.size+1) (w1.heap.size+2) (w1.heap.size+3))) Tt.start wg):=
   Cf w1.heap.size (w1.heap.size+4) m _ wg (by rw[<-hwg];have:=heap_alloc_new ((((w1.alloc (.map #[] 0)).alloc (.map #[] 0)).alloc (.map #[] 0)).alloc (.map #[] 0)) (.cells (pC (.slice none 0 0) 0 (λ_=> .slice none 0 0) emptyT.fares (mb4 w1.heap.size (w1.heap.size+1) (w1.heap.size+2) (w1.heap.size+3)) 0 false) 76);rw[show((((w1.alloc (.map #[] 0)).alloc (.map #[] 0)).alloc (.map #[] 0)).alloc (.map #[] 0)).heap.size=w1.heap.size+4 by simp]at this;exact this)
    (by rw[<-hwg];exact Ce rfl w1.heap.size (U3 _) _ _) (Oo _) (E1.o.bl bg) ω E1.o.lt
  obtain⟨mb,hmb⟩:=ε (mb4 w1.heap.size (w1.heap.size+1) (w1.heap.size+2) (w1.heap.size+3));have HM:Hid (∀ j,j<4->w1.heap.size<=mb j):=λj hj=>by
   rw[<-hmb];rcases j with _|_|_|_|j
   all_goals first
    |(show w1.heap.size<=w1.heap.size;omega)
    |(show w1.heap.size<=w1.heap.size+1;omega)
    |(show w1.heap.size<=w1.heap.size+2;omega)
    |(show w1.heap.size<=w1.heap.size+3;omega)
    |omega
  obtain⟨own,hown⟩:=ε (uM (w1.heap.size+4) mb);have HLOW:Hid (∀ b,b<w1.heap.size->own b=97):=λb hb=>by rw[<-hown];exact Xv ω HM.o hb
  rw[hmb,hown]at FG;simp only[pC,mb4,emptyT]at hwg;go_wp2_with fail;have BG:=qA bg;clear hwg hmb hown bg b1 o1 hlc0 hmm;go_loopw [30] (λi wr=> ∃ (k:Nat) (s:St) (own':Nat->Nat),(k<=ls.length/\i=k)/\Hid (Eb w1.heap.size (w1.heap.size+4) k m mb own' s wr)/\Hid (AU s)/\Hid (yz s (1+(k:Int)) (ls.drop k)=(sF,nF,eF))/\Hid (Mv own wg own' wr)) (λi _=>ls.length-(intOf i).toNat)
  case atStart=>exact⟨0,_,own,⟨qAD _,rfl⟩,FG,tZ _,HF,Mv.refl own wg⟩
  obtain⟨k,s,own',⟨hk,rfl⟩,HS,HK,HC,HMV⟩:=hrel;have hkN:k<=999999:=by have:=HSZ.o.1;omega
  have MG:=qA (show Bl w1 wr from nT BG.o HMV.o HLOW.o);have hwr:=MG.o.size;have Rr:=qA (qX R1.o MG.o);have Br:=qA (qF B1.o MG.o);by_cases hlt:k<ls.length
  ·
   obtain⟨x,hx⟩: ∃ x,ls[k]? =some x:=⟨_,U2 hlt⟩;obtain⟨pb,po,pc,e1,l1,l2,l3,hc⟩:=O1.o.open ω;rw[Value.slice.injEq]at e1;obtain⟨rfl,-,rfl⟩:=e1;have c1:wr.cell? (pb,po+k)=some (qP x):=by
    have:=hc k x hx 0 _ rfl;rw[show po+k*1+0=po+k by omega]at this;exact((qG MG.o).1 _ _ l3).trans this
   have i1:(k:Int)<(ls.length:Int):=ω
   have hxl:x.length<=131072:=by have:=HSZ.o.2 x (Uz hx);omega
   obtain⟨⟨s2,E⟩,hE⟩: ∃ p,vN s x ((k:Int)+1)=p:=⟨_,rfl⟩;have hline:=I9 w1.heap.size (w1.heap.size+4) k m mb own' s x hxl ((k:Int)+1) s2 E (qA hE) hkN wr HS.o;have hE':vN s x (1+(k:Int))=(s2,E):=by rw[Int.add_comm];exact hE
   have HEE:=qA hE';have HX:=qA hx;clear hE hE' hx hc;by_cases h0:E=0
   ·
    subst h0;have HN:=qA (nM (s:=s) (n:=1+(k:Int)) HX.o (by rw[HEE.o]));go_wp2_with (go_at_call 20;refine hline.mono ?_)
    rintro y2 w2 ⟨rfl,own2,F2,M2⟩;have HF2:=qA F2;have HM2:=qA (HMV.o.trans M2);clear F2 M2;go_wp2;go_roundw;case rel=>
     refine⟨k+1,s2,own2,⟨ω,by go_num⟩,HF2, ?_, ?_,HM2⟩
     ·
      have:=tY HK.o x (n:=1+(k:Int)) ω;rw[HEE.o]at this;exact this
     show _=_
     rw[<-HC.o,HN.o,HEE.o,show 1+((k+1:Nat):Int)=1+(k:Int)+1 by omega]
    simp[intOf];omega
   have HN:=qA (nN (s:=s) (n:=1+(k:Int)) HX.o (by rw[HEE.o];exact h0));have HQ:=qA (show(s,1+(k:Int),E)=(sF,nF,eF) by rw[<-HC.o,HN.o,HEE.o]);have f0:(E != 0)=true:=by rw[bne_iff_ne];exact h0
   have HP:=qA (show(emptyT,(k:Int)+1,E)=(t,n,e) by
    obtain⟨e1,e2⟩:=qAE HQ.o;obtain⟨e3,e4⟩:=qAE e2;rw[<-H.o,uQ HLS.o HF.o (by rw[<-e4];exact h0),<-e3,<-e4,Int.add_comm])
   obtain⟨d1,d2⟩:=qAE HP.o;obtain⟨d3,d4⟩:=qAE d2;clear HP HQ HN d2 H;subst d1 d3 d4;go_wp2_with (go_at_call 20;refine hline.mono ?_)
   rintro y2 w2 ⟨rfl,own2,F2,M2⟩;have M3:=qA (show Bl w1 w2 from nT BG.o (HMV.o.trans M2) HLOW.o);have R2:=qA (qX R1.o M3.o);have B2:=qA (qF B1.o M3.o);clear F2 M2;have rf:=U8 R2.o;have j0:=qC R2.o 0 _ rfl;have j1:=qC R2.o 1 _ rfl;have j2:=qC R2.o 2 _ rfl;have j3:=qC R2.o 3 _ rfl;have j4:=qC R2.o 4 _ rfl;have j5:=qC R2.o 5 _ rfl;have j6:=qC R2.o 6 _ rfl;have j7:=qC R2.o 7 _ rfl;have j8:=qC R2.o 8 _ rfl;have j9:=qC R2.o 9 _ rfl;have j10:=qC R2.o 10 _ rfl;have j11:=qC R2.o 11 _ rfl;have j12:=qC R2.o 12 _ rfl;go_wp2;refine bodyPost_ret (yF rfl _ _ w.heap.size 36 _ (0,0) _ _ _ rfl rfl rfl (VP R2.o) underlying36 rfl κ) rfl ?_;exact⟨YV,[],rfl,Jm _ _,⟨Jl,Jk _⟩,Ej B2.o (U3 _)⟩
  have hdr:ls.drop k=[]:=List.drop_eq_nil_of_le ω;have HQ:=qA (show(s,(0:Int),(0:Int))=(sF,nF,eF) by rw[<-HC.o,hdr];rfl);obtain⟨d1,d2⟩:=qAE HQ.o;obtain⟨d3,d4⟩:=qAE d2;clear HQ HC hdr d2;subst d1 d3 d4;obtain⟨⟨p,i,ec⟩,hck⟩: ∃ q,Qj s.t=q:=⟨_,rfl⟩;obtain⟨u,e9,vs,ts,ids,fa,pts,-⟩:=HS.o.mem;have rd:=pts.rd;obtain⟨a0,c0,(f0:vs 0=_),-,-⟩:=rd.stops.val;obtain⟨a1,c1,(f1:vs 1=_),-,-⟩:=rd.routes.val;obtain⟨a2,c2,(f2:vs 2=_),-,-⟩:=rd.cals.val;obtain⟨a3,c3,(f3:vs 3=_),-,-⟩:=rd.excs.val;obtain⟨a4,c4,(f4:vs 4=_),-,-⟩:=rd.trips.sl.val;obtain⟨a5,c5,(f5:vs 5=_),-,-⟩:=rd.freqs.val;obtain⟨a6,c6,(f6:vs 6=_),-,-⟩:=rd.thrus.val;obtain⟨a7,c7,(f7:vs 7=_),-,-⟩:=rd.guars.val;obtain⟨a8,c8,(f8:vs 8=_),-,-⟩:=rd.paths.val;obtain⟨a9,c9,(f9:vs 9=_),-,-⟩:=rd.prods.val;simp only[U4]at f5 f6;have HRD:=qA (show yA wr.heap.size wr ⟨.slice a0 s.t.stops.length c0,.slice a1 s.t.routes.length c1,.slice a2 s.t.cals.length c2,.slice a3 s.t.excs.length c3,.slice a4 ts.length c4,.slice a5 s.t.freqs.length c5,.slice a6 s.t.thrus.length c6,.slice a7 s.t.guars.length c7,.slice a8 s.t.paths.length c8,.slice a9 s.t.fares.prods.length c9⟩ ts s.t by rw[<-f0,<-f1,<-f2,<-f3,<-f4,<-f5,<-f6,<-f7,<-f8,<-f9];exact rd);have x0:wr.cell? (w1.heap.size+4,2)=some (.slice a0 s.t.stops.length c0):=by rw[<-f0];exact qC fa 2 _ rfl
  have x1:wr.cell? (w1.heap.size+4,3)=some (.slice a1 s.t.routes.length c1):=by rw[<-f1];exact qC fa 3 _ rfl
  have x2:wr.cell? (w1.heap.size+4,4)=some (.slice a2 s.t.cals.length c2):=by rw[<-f2];exact qC fa 4 _ rfl
  have x3:wr.cell? (w1.heap.size+4,5)=some (.slice a3 s.t.excs.length c3):=by rw[<-f3];exact qC fa 5 _ rfl
  have x4:wr.cell? (w1.heap.size+4,6)=some (.slice a4 ts.length c4):=by rw[<-f4];exact qC fa 6 _ rfl
  have x5:wr.cell? (w1.heap.size+4,7)=some (.slice a5 s.t.freqs.length c5):=by rw[<-f5];exact qC fa 7 _ rfl
  have x6:wr.cell? (w1.heap.size+4,8)=some (.slice a6 s.t.thrus.length c6):=by rw[<-f6];exact qC fa 8 _ rfl
  have x7:wr.cell? (w1.heap.size+4,9)=some (.slice a7 s.t.guars.length c7):=by rw[<-f7];exact qC fa 9 _ rfl
  have x8:wr.cell? (w1.heap.size+4,10)=some (.slice a8 s.t.paths.length c8):=by rw[<-f8];exact qC fa 10 _ rfl
  have x9:wr.cell? (w1.heap.size+4,11)=some (.slice a9 s.t.fares.prods.length c9):=by rw[<-f9];exact qC fa 11 _ rfl
  have x10:wr.cell? (w1.heap.size+4,12)=some (s.t.fares.disc:Z):=qC fa 12 _ rfl;have x11:wr.cell? (w1.heap.size+4,13)=some (s.t.fares.within:Z):=qC fa 13 _ rfl;have x12:wr.cell? (w1.heap.size+4,14)=some (s.t.fares.cap:Z):=qC fa 14 _ rfl;have hgl:=lt_of_block fa;have hcheck:=pY ⟨.slice a0 s.t.stops.length c0,.slice a1 s.t.routes.length c1,.slice a2 s.t.cals.length c2,.slice a3 s.t.excs.length c3,.slice a4 ts.length c4,.slice a5 s.t.freqs.length c5,.slice a6 s.t.thrus.length c6,.slice a7 s.t.guars.length c7,.slice a8 s.t.paths.length c8,.slice a9 s.t.fares.prods.length c9⟩ ts s.t p i ec (qA hck) (qA HS.o.ok) wr.heap.size wr HRD.o (U3 _);have FA:=qA fa;have PT:=qA pts;have HCK:=qA hck;have HV:=qA (show vs 0=.slice a0 s.t.stops.length c0/\vs 1=.slice a1 s.t.routes.length c1/\vs 2=.slice a2 s.t.cals.length c2/\vs 3=.slice a3 s.t.excs.length c3/\vs 4=.slice a4 ts.length c4/\vs 5=.slice a5 s.t.freqs.length c5/\vs 6=.slice a6 s.t.thrus.length c6/\vs 7=.slice a7 s.t.guars.length c7/\vs 8=.slice a8 s.t.paths.length c8/\vs 9=.slice a9 s.t.fares.prods.length c9 from⟨f0,f1,f2,f3,f4,f5,f6,f7,f8,f9⟩);clear hck fa pts rd f0 f1 f2 f3 f4 f5 f6 f7 f8 f9;simp only[JP]at hcheck;have HPR:=qA ((uP HLS.o HF.o HCK.o).symm.trans H.o);clear H;by_cases hec:ec=0
  ·
   subst hec;have HQ:=qA (show(s.t,(0:Int),(0:Int))=(t,n,e) by rw[<-HPR.o,U6 rfl]);obtain⟨d1,d2⟩:=qAE HQ.o;obtain⟨d3,d4⟩:=qAE d2;clear HQ HPR d2;subst d1 d3 d4;go_wp2_with (go_at_call 21;refine hcheck.mono ?_)
   rintro y2 w2 ⟨rfl,b2⟩;have R2:=qA (qX Rr.o b2);have B2:=qA (qF Br.o b2);have P2:=qA (PT.o.bl b2);have y0:=((qG b2).1 _ _ hgl).trans x0;have y1:=((qG b2).1 _ _ hgl).trans x1;have y2:=((qG b2).1 _ _ hgl).trans x2;have y3:=((qG b2).1 _ _ hgl).trans x3;have y4:=((qG b2).1 _ _ hgl).trans x4;have y5:=((qG b2).1 _ _ hgl).trans x5;have y6:=((qG b2).1 _ _ hgl).trans x6;have y7:=((qG b2).1 _ _ hgl).trans x7;have y8:=((qG b2).1 _ _ hgl).trans x8;have y9:=((qG b2).1 _ _ hgl).trans x9;have y10:=((qG b2).1 _ _ hgl).trans x10;have y11:=((qG b2).1 _ _ hgl).trans x11;have y12:=((qG b2).1 _ _ hgl).trans x12;clear b2 x0 x1 x2 x3 x4 x5 x6 x7 x8 x9 x10 x11 x12;have rf:=U8 R2.o;have j0:=qC R2.o 0 _ rfl;have j1:=qC R2.o 1 _ rfl;have j2:=qC R2.o 2 _ rfl;have j3:=qC R2.o 3 _ rfl;have j4:=qC R2.o 4 _ rfl;have j5:=qC R2.o 5 _ rfl;have j6:=qC R2.o 6 _ rfl;have j7:=qC R2.o 7 _ rfl;have j8:=qC R2.o 8 _ rfl;have j9:=qC R2.o 9 _ rfl;have j10:=qC R2.o 10 _ rfl;have j11:=qC R2.o 11 _ rfl;have j12:=qC R2.o 12 _ rfl;go_wp2;refine bodyPost_ret (yF rfl _ _ w.heap.size 36 _ (0,0) _ _ _ rfl rfl rfl (VP R2.o) underlying36 rfl κ) rfl ?_;refine⟨⟨.slice a0 s.t.stops.length c0,.slice a1 s.t.routes.length c1,.slice a2 s.t.cals.length c2,.slice a3 s.t.excs.length c3,.slice a4 ts.length c4,.slice a5 s.t.freqs.length c5,.slice a6 s.t.thrus.length c6,.slice a7 s.t.guars.length c7,.slice a8 s.t.paths.length c8,.slice a9 s.t.fares.prods.length c9⟩,ts,rfl, ?_,⟨HS.o.ok, ?_⟩,Ej B2.o (U3 _)⟩;have hl9:own' w.heap.size=97:=(HMV.o.lab _ (by have:=BG.o.size;omega)).trans (HLOW.o _ hs1);have key: ∀ W,Gr w.heap.size w2 W->yA W.heap.size W ⟨.slice a0 s.t.stops.length c0,.slice a1 s.t.routes.length c1,.slice a2 s.t.cals.length c2,.slice a3 s.t.excs.length c3,.slice a4 ts.length c4,.slice a5 s.t.freqs.length c5,.slice a6 s.t.thrus.length c6,.slice a7 s.t.guars.length c7,.slice a8 s.t.paths.length c8,.slice a9 s.t.fares.prods.length c9⟩ ts s.t:=λW hg=>by
    have P3:=P2.o.kept hg (λb hb=>by simp only[qAA]at hb;rw[<-hb,hl9];omega);have r3:=P3.rd;obtain⟨f0,f1,f2,f3,f4,f5,f6,f7,f8,f9⟩:=HV.o;rw[f0,f1,f2,f3,f4,f5,f6,f7,f8,f9]at r3;exact r3
   · exact key _ Rl
   have r3:=P2.o.lo;obtain⟨f0,f1,f2,f3,f4,f5,f6,f7,f8,f9⟩:=HV.o;rw[f0,f1,f2,f3,f4,f5,f6,f7,f8,f9]at r3;exact r3.le (Nat.le_of_lt hs1)
  have f1:(ec==0)=false:=by rw[U0];exact hec
  have HQ:=qA (show(if i<0 then(emptyT,s.rules,ec)else(emptyT,(s.lines.getD p.toNat []).getD i.toNat 0,ec))=(t,n,e) by rw[<-HPR.o,U5 hec]);clear HPR;by_cases hi:i<0
  ·
   have HQ2:=qA (show(emptyT,s.rules,ec)=(t,n,e) by rw[<-HQ.o,U6 hi]);obtain⟨d1,d2⟩:=qAE HQ2.o;obtain⟨d3,d4⟩:=qAE d2;clear HQ HQ2 d2;subst d1 d3 d4;go_wp2_with (go_at_call 21;refine hcheck.mono ?_)
   rintro y2 w2 ⟨rfl,b2⟩;have R2:=qA (qX Rr.o b2);have B2:=qA (qF Br.o b2);have y29:w2.cell? (w1.heap.size+4,29)=some (s.rules:Z):=((qG b2).1 _ _ hgl).trans (qC FA.o 29 _ rfl);clear b2 x0 x1 x2 x3 x4 x5 x6 x7 x8 x9 x10 x11 x12;have rf:=U8 R2.o;have j0:=qC R2.o 0 _ rfl;have j1:=qC R2.o 1 _ rfl;have j2:=qC R2.o 2 _ rfl;have j3:=qC R2.o 3 _ rfl;have j4:=qC R2.o 4 _ rfl;have j5:=qC R2.o 5 _ rfl;have j6:=qC R2.o 6 _ rfl;have j7:=qC R2.o 7 _ rfl;have j8:=qC R2.o 8 _ rfl;have j9:=qC R2.o 9 _ rfl;have j10:=qC R2.o 10 _ rfl;have j11:=qC R2.o 11 _ rfl;have j12:=qC R2.o 12 _ rfl;go_wp2_with fail;go_region
   have RF:(KW w2 w.heap.size (.slice none 0 0) (.slice none 0 0) (.slice none 0 0) (.slice none 0 0) (.slice none 0 0) (.slice none 0 0) (.slice none 0 0) (.slice none 0 0) (.slice none 0 0) (.slice none 0 0) (.int .i64 0) (.int .i64 0) (.int .i64 0)).heap[w.heap.size]? =some (.cells Kr 36 (0,0)):=VP R2.o;have BF:Bl w (KW w2 w.heap.size (.slice none 0 0) (.slice none 0 0) (.slice none 0 0) (.slice none 0 0) (.slice none 0 0) (.slice none 0 0) (.slice none 0 0) (.slice none 0 0) (.slice none 0 0) (.slice none 0 0) (.int .i64 0) (.int .i64 0) (.int .i64 0)):=Ej B2.o (U3 _);obtain⟨WF,hWF⟩: ∃ WF,WF=KW w2 w.heap.size (.slice none 0 0) (.slice none 0 0) (.slice none 0 0) (.slice none 0 0) (.slice none 0 0) (.slice none 0 0) (.slice none 0 0) (.slice none 0 0) (.slice none 0 0) (.slice none 0 0) (.int .i64 0) (.int .i64 0) (.int .i64 0):=⟨_,rfl⟩;rw[<-hWF]at RF BF;dsimp only[KW]at hWF
   rw[<-hWF];have HRF:=qA RF;have HBF:=qA BF;clear hWF RF BF rf j0 j1 j2 j3 j4 j5 j6 j7 j8 j9 j10 j11 j12 y29;go_wp2_with fail;refine bodyPost_ret (yF rfl _ WF.drew w.heap.size 36 Kr (0,0) _ _ _ rfl rfl rfl HRF.o underlying36 rfl κ) rfl ?_;exact⟨YV,[],rfl,Jm _ _,⟨Jl,Jk _⟩,qH HBF.o⟩
  have HQ2:=qA (show(emptyT,(s.lines.getD p.toNat []).getD i.toNat 0,ec)=(t,n,e) by rw[<-HQ.o,U5 hi]);obtain⟨d1,d2⟩:=qAE HQ2.o;obtain⟨d3,d4⟩:=qAE d2;rcases OE HK.o HCK.o hec with hneg|⟨q,j,rfl,hq,rfl,hj⟩
  · exact absurd hneg hi
  have hli:=PT.o.lns hq;simp only[Int.toNat_natCast]at d3;obtain⟨pq,oq,cq,eq,k1,k2,k3,hcq⟩:=hli.open (by show 0<(qN s q).length;unfold qN;omega);have hjl:j<(qN s q).length:=hj;have hpq:pq≠w.heap.size:=λe=>by
   have h1:=PT.o.lab (q+10) ω pq (by rw[eq];rfl);have h2:own' w.heap.size=97:=(HMV.o.lab _ (by have:=BG.o.size;omega)).trans (HLOW.o _ hs1);rw[e,h2]at h1;omega
  have hcell:wr.cell? ⟨pq,oq+j,none⟩=some (n:Z):=by
   have:=hcq j _ (U2 hjl) 0 _ rfl;rw[show oq+j*1+0=oq+j by omega]at this;rw[this,<-d3];have hn:(s.lines.getD q []).getD j 0=(qN s q)[j]'hjl:=by
    show(qN s q).getD j 0=_
    rw[List.getD_eq_getElem?_getD,U2 hjl];rfl
   rw[hn]
  obtain⟨nl,hnl⟩:=ε ((qN s q).length);have hrow:wr.cell? ⟨w1.heap.size+4,19+q,none⟩=some ((pq,oq,nl,cq):Z):=by
   rw[<-hnl,<-eq];have:=qC FA.o (KR (q+10)) _ (uN _ _ _ _ _ _ _ ω);rw[show KR (q+10)=19+q by unfold KR;rw[U5 ω];omega]at this;exact this
  rw[hnl]at hjl;have jn:(j:Int)<(nl:Int):=ω
  clear HQ HQ2 d2 d3 hli hcq hj eq hnl;subst d1 d4;go_wp2_with (go_at_call 21;refine hcheck.mono ?_)
  first
   |(intro y2 w2 hy2 b2;subst hy2)
   |rintro y2 w2 ⟨rfl,b2⟩
  have R2:=qA (qX Rr.o b2);have B2:=qA (qF Br.o b2);have yr:=((qG b2).1 _ _ hgl).trans hrow;have yc:=((qG b2).1 _ _ k3).trans hcell;clear b2 hrow hcell x0 x1 x2 x3 x4 x5 x6 x7 x8 x9 x10 x11 x12;have rf:=U8 R2.o;have j0:=qC R2.o 0 _ rfl;have j1:=qC R2.o 1 _ rfl;have j2:=qC R2.o 2 _ rfl;have j3:=qC R2.o 3 _ rfl;have j4:=qC R2.o 4 _ rfl;have j5:=qC R2.o 5 _ rfl;have j6:=qC R2.o 6 _ rfl;have j7:=qC R2.o 7 _ rfl;have j8:=qC R2.o 8 _ rfl;have j9:=qC R2.o 9 _ rfl;have j10:=qC R2.o 10 _ rfl;have j11:=qC R2.o 11 _ rfl;have j12:=qC R2.o 12 _ rfl;obtain rfl|rfl|rfl|rfl|rfl|rfl|rfl|rfl|rfl|rfl:q=0∨q=1∨q=2∨q=3∨q=4∨q=5∨q=6∨q=7∨q=8∨q=9:=ω
  all_goals
   go_wp2_with fail;go_region
   have RF:(KW w2 w.heap.size (.slice none 0 0) (.slice none 0 0) (.slice none 0 0) (.slice none 0 0) (.slice none 0 0) (.slice none 0 0) (.slice none 0 0) (.slice none 0 0) (.slice none 0 0) (.slice none 0 0) (.int .i64 0) (.int .i64 0) (.int .i64 0)).heap[w.heap.size]? =some (.cells Kr 36 (0,0)):=VP R2.o;have BF:Bl w (KW w2 w.heap.size (.slice none 0 0) (.slice none 0 0) (.slice none 0 0) (.slice none 0 0) (.slice none 0 0) (.slice none 0 0) (.slice none 0 0) (.slice none 0 0) (.slice none 0 0) (.slice none 0 0) (.int .i64 0) (.int .i64 0) (.int .i64 0)):=Ej B2.o (U3 _);obtain⟨WF,hWF⟩: ∃ WF,WF=KW w2 w.heap.size (.slice none 0 0) (.slice none 0 0) (.slice none 0 0) (.slice none 0 0) (.slice none 0 0) (.slice none 0 0) (.slice none 0 0) (.slice none 0 0) (.slice none 0 0) (.slice none 0 0) (.int .i64 0) (.int .i64 0) (.int .i64 0):=⟨_,rfl⟩;rw[<-hWF]at RF BF;dsimp only[KW]at hWF
   rw[<-hWF];have HRF:=qA RF;have HBF:=qA BF;clear hWF RF BF rf j0 j1 j2 j3 j4 j5 j6 j7 j8 j9 j10 j11 j12 yr yc;go_wp2_with fail;refine bodyPost_ret (yF rfl _ WF.drew w.heap.size 36 Kr (0,0) _ _ _ rfl rfl rfl HRF.o underlying36 rfl κ) rfl ?_;exact⟨YV,[],rfl,Jm _ _,⟨Jl,Jk _⟩,qH HBF.o⟩
 have HP:=qA (show(emptyT,(0:Int),e0)=(t,n,e) by rw[<-H.o,uS HLS.o he0]);obtain⟨d1,d2⟩:=qAE HP.o;obtain⟨d3,d4⟩:=qAE d2;have f0:(e0 != 0)=true:=by rw[bne_iff_ne];exact he0
 clear HP d2 H;subst d1 d3 d4;go_enter func10,ntmps10
 go_wp2_with (go_at_call 19;refine hlc0.mono ?_)
 rintro y1 w1 ⟨v1,rfl,o1,b1⟩;have R1:=qA (qX HR0.o b1);have B1:=qA (qF HB0.o b1);clear b1 o1 hlc0;have rf:=U8 R1.o;have j0:=qC R1.o 0 _ rfl;have j1:=qC R1.o 1 _ rfl;have j2:=qC R1.o 2 _ rfl;have j3:=qC R1.o 3 _ rfl;have j4:=qC R1.o 4 _ rfl;have j5:=qC R1.o 5 _ rfl;have j6:=qC R1.o 6 _ rfl;have j7:=qC R1.o 7 _ rfl;have j8:=qC R1.o 8 _ rfl;have j9:=qC R1.o 9 _ rfl;have j10:=qC R1.o 10 _ rfl;have j11:=qC R1.o 11 _ rfl;have j12:=qC R1.o 12 _ rfl;go_wp2_with fail;refine bodyPost_ret (yF rfl _ _ w.heap.size 36 _ (0,0) _ _ _ rfl rfl rfl (VP R1.o) underlying36 rfl κ) rfl ?_;exact⟨YV,[],rfl,Jm _ _,⟨Jl,Jk _⟩,Ej B1.o (U3 _)⟩
theorem KD (txt:Φ) (hs:txt.size<=4294967280) (m:Int) (t:TtD) (n e:Int) (H:Hid (vC txt.data.toList=(t,n,e))) (w:World) (env:ah m w):
  Calls prog 10 #[txt] w λq w'=> ∃ V ts,q=.returned (.tuple #[JP V t,n,e])/\yA w'.heap.size w' V ts t/\ZZ t/\Bl w w':=
 (mX txt hs m t n e H w env).mono λ_ _ ⟨V,ts,h1,h2,h3,h4⟩=>⟨V,ts,h1,h2,h3.1,h4⟩
