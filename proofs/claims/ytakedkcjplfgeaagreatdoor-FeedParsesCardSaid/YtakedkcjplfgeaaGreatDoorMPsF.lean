/- Contracts, proved. Conditions: theirs. -/
import Derived.Test.YtakedkcjplfgeaaGreatDoorMPsA
set_option maxRecDepth 1000000
set_option maxHeartbeats 32000000
open Go.Proofs.Tryz
namespace Go.Proofs.YtakedkcjplfgeaaGreatDoor
open Go.RowKit
open Frq Thr Tt Num Clk Dat Fld
theorem qAe {g b:Nat} {T:TypeId} {w0:World} {vs:Nat->Value} {f:Jp} {fl e:Int} {o:Bool} (hb:w0.heap.size<=b) (hne:b≠g): ∀ (L:List Value) (i:Nat) {w:World} {C:Array Value},QAt g vs f fl o e w->Gr g w0 w->w.heap[b]? =some (.cells C T (0,0))->
  QAt g vs f fl o e (Hm w b i L)/\Gr g w0 (Hm w b i L)/\(Hm w b i L).heap[b]? =some (.cells (O4 C i L) T (0,0))
 |[],_,_,_,h,k,q=>⟨h,k,q⟩
 |v::L,i,w,C,h,k,q=>qAe hb hne L (i+1) ((Below.heap_setCell w ⟨b,i,none⟩ v g (Ne.symm hne)).trans h) (zX k hb i v) (qQ q i v)
theorem qB5 (x:Ψ):Zp x=(((qAX [ae,AP,lC,Ia] x).1==1||(qAX [ae,AP,lC,Ia] x).1==3,decide (2<=(qAX [ae,AP,lC,Ia] x).1)),(qAX [ae,AP,lC,Ia] x).2):=by
 by_cases h1:x=ae
 · subst h1;decide
 by_cases h2:x=AP
 · subst h2;decide
 by_cases h3:x=lC
 · subst h3;decide
 by_cases h4:x=Ia
 · subst h4;decide
 have:qm x [ae,AP,lC,Ia]=none:=by
  unfold qm qm qm qm qm;rw[U5 (Ne.symm h1),U5 (Ne.symm h2),U5 (Ne.symm h3),U5 (Ne.symm h4)];rfl
 unfold qAX Zp;rw[this,U5 h4,U5 h2,U5 h3,U5 h1];decide
theorem qB8 (B g fb fo cp N:Nat) (vs:Nat->Value) (ts:List TripD) (own:Nat->Nat) (s:St) (f0 f1 f2 f3:Ψ) (n:Int) (s':St) (E:Int) (HF:Hid (qy s 11 [f0,f1,f2,f3] n=(s',E))) (hlen: ∀ x∈[f0,f1,f2,f3],x.length<=131072) (hN:ww N s) (hN2:N<=1000000) (w:World)
  (h:qAN B g 0 vs ts own ⟨s.t,s.lines,n,false⟩ false w) (lf:own fb=98) (hfb:fb<w.heap.size) (hfc: ∀ (i:Nat) (x:Ψ),[f0,f1,f2,f3][i]? =some x->w.cell? ⟨fb,fo+i,none⟩=some (qP x)):
  Calls prog 67 #[.pointer (some ⟨g,0,none⟩), .int .i64 11, .slice (some ⟨fb,fo,none⟩) 4 cp] w λq w'=>q= .returned (.tuple #[])/\qAT B g E own s' false w w':=by
 obtain⟨⟨n1,e1⟩,HP1⟩: ∃ p,Hid (jr f1=p):=⟨_,rfl⟩;obtain⟨⟨n2,e2⟩,HP2⟩: ∃ p,Hid (wE f2=p):=⟨_,rfl⟩;obtain⟨⟨n3,e3⟩,HP3⟩: ∃ p,Hid (jr f3=p):=⟨_,rfl⟩;have hF:qy s 11 [f0,f1,f2,f3] n=(⟨{ s.t with fares:=⟨s.t.fares.prods,(jr f1).1,(wE f2).1,(jr f3).1⟩ },s.lines,n,false⟩,zT [(jr f1).2,(wE f2).2,(jr f3).2]):=rfl;rw[HP1.o,HP2.o,HP3.o]at hF;have hq:=hF.symm.trans HF.o;simp only[qAF]at hq;obtain⟨hs1,hE1⟩:=hq;have HE:=qA (show(fe (fe (fe 0 e1) e2) e3)=E by rw[<-hE1];exact vY [e1,e2,e3]);have HS:=qA hs1;have c1:=hfc 1 _ rfl;have l1:=hlen f1 σ;have c2:=hfc 2 _ rfl;have l2:=hlen f2 σ;have c3:=hfc 3 _ rfl;have l3:=hlen f3 σ;clear hF hE1 hs1 HF hfc hlen;have hfg:fb≠g:=λe=>by have:=h.lg;rw[<-e]at this;omega
 have hcl: ∀ {w'},Gr g w w'->w'.cell? ⟨fb,fo+1,none⟩=some (qP f1)/\w'.cell? ⟨fb,fo+2,none⟩=some (qP f2)/\w'.cell? ⟨fb,fo+3,none⟩=some (qP f3):=λq=>⟨(q.cell_far ⟨fb,fo+1,none⟩ hfb (λe=>hfg (qAB e))).trans c1,(q.cell_far ⟨fb,fo+2,none⟩ hfb (λe=>hfg (qAB e))).trans c2,(q.cell_far ⟨fb,fo+3,none⟩ hfb (λe=>hfg (qAB e))).trans c3⟩
 have G0:Gr g w w.drew:=jH (qH (qB w));have r0:=h.rat.bl (qH (qB w));have H:=qA h;have hgl:=h.glt;clear h c1 c2 c3;go_enter func67,ntmps67
 go_wp2_with fail;refine qAP (λw'=>w'.cell? ⟨fb,fo+1,none⟩=some (qP f1)/\w'.cell? ⟨fb,fo+2,none⟩=some (qP f2)/\w'.cell? ⟨fb,fo+3,none⟩=some (qP f3)) 32 (hcl G0) (λ_=>?_);refine SG 0 ?_;refine SG 1 ?_;refine SG 2 ?_;refine SG 3 ?_;refine SG 4 ?_;refine SG 5 ?_;refine SG 6 ?_;refine SG 8 ?_;refine SG 9 ?_;refine SG 10 ?_;refine SG 11 ?_;refine SG 13 ?_;refine SG 14 ?_;refine SG 15 ?_;refine SG 16 ?_;refine qAI 7 (λKK hKK=>?_);go_simp;go_at_call 146
 refine(qBH g vs s.t.fares n false 0 e1 _ n1 f1 HP1 l1 (qA rfl) _ r0).mono ?_;rintro y1 w1 ⟨rfl,r1,g1⟩;have g1x:Gr g w w1:=qJ G0 g1;refine hKK.o _ _ (hcl g1x) (λ_=>?_);refine qAI 12 (λKK hKK=>?_);go_simp;go_at_call 144
 refine(qBV g vs s.t.fares n false (fe 0 e1) e2 _ n2 f2 HP2 l2 (qA rfl) _ r1).mono ?_;rintro y2 w2 ⟨rfl,r2,g2⟩;have g2x:Gr g w w2:=qJ g1x g2;refine hKK.o _ _ (hcl g2x) (λ_=>?_);refine qAI 17 (λKK hKK=>?_);go_simp;go_at_call 146
 refine(qBH g vs s.t.fares n false (fe (fe 0 e1) e2) e3 _ n3 f3 HP3 l3 (qA rfl) _ r2).mono ?_;rintro y3 w3 ⟨rfl,r3,g3⟩;have g3x:Gr g w w3:=qJ g2x g3;refine hKK.o _ _ (hcl g3x) (λ_=>?_);have q10:=qC r3 10 _ rfl;have qf10:=U8 r3 10;have q11:=qC r3 11 _ rfl;have qf11:=U8 r3 11;have q12:=qC r3 12 _ rfl;have qf12:=U8 r3 12;obtain⟨j1,k1⟩:=(H.o.gr r3 g3x).set (s':=O8 ⟨s.t,s.lines,n,false⟩ n1 s.t.fares.within s.t.fares.cap n false) (o':=false) (c:=10) (v:= .int .i64 n1) rfl rfl rfl (λk hk=>D9 ⟨s.t,s.lines,n,false⟩ n1 s.t.fares.within s.t.fares.cap n false ts k hk);obtain⟨j2,k2⟩:=j1.set (s':=O8 ⟨s.t,s.lines,n,false⟩ n1 n2 s.t.fares.cap n false) (o':=false) (c:=11) (v:= .int .i64 n2) rfl rfl rfl (λk hk=>(D9 ⟨s.t,s.lines,n,false⟩ n1 n2 s.t.fares.cap n false ts k hk).trans (D9 ⟨s.t,s.lines,n,false⟩ n1 s.t.fares.within s.t.fares.cap n false ts k hk).symm);obtain⟨j3,k3⟩:=j2.set (s':=O8 ⟨s.t,s.lines,n,false⟩ n1 n2 n3 n false) (o':=false) (c:=12) (v:= .int .i64 n3) rfl rfl rfl (λk hk=>(D9 ⟨s.t,s.lines,n,false⟩ n1 n2 n3 n false ts k hk).trans (D9 ⟨s.t,s.lines,n,false⟩ n1 n2 s.t.fares.cap n false ts k hk).symm);refine qAJ 18 ?_;refine qAJ 19 ?_;refine qAJ 20 ?_;refine qAJ 21 ?_;refine qAI 22 (λKK hKK=>?_);go_simp;refine hKK.o _ _ (hcl (qJ g3x k1)) (λ_=>?_);refine qAJ 23 ?_;refine qAJ 24 ?_;refine qAJ 25 ?_;refine qAJ 26 ?_;refine qAI 27 (λKK hKK=>?_);go_simp;refine hKK.o _ _ (hcl (qJ g3x (qJ k1 k2))) (λ_=>?_);refine qAJ 28 ?_;refine qAJ 29 ?_;refine qAJ 30 ?_;refine qAJ 31 ?_;refine qAQ (λKK hKK=>?_);go_simp;refine hKK.o _ _ ?_;go_wp2;go_end0;exact⟨rfl,vs,ts,own,by rw[<-HE.o,<-HS.o];exact j3,QK (qJ g3x (qJ k1 (qJ k2 k3))) H.o.lg⟩
theorem qB7 (B g fb fo cp N:Nat) (vs:Nat->Value) (pre:List TripD) (x:TripD) (own:Nat->Nat) (s:St) (f0 f1 f2 f3 f4:Ψ) (n:Int) (s':St) (E:Int) (HF:Hid (qy s 10 [f0,f1,f2,f3,f4] n=(s',E))) (hlen: ∀ x∈[f0,f1,f2,f3,f4],x.length<=131072) (hN:ww N s) (hN2:N<=1000000) (w:World)
  (h:qAN B g 0 vs (pre++[x]) own ⟨s.t,s.lines,s.rules,true⟩ true w) (lf:own fb=98) (hfb:fb<w.heap.size) (hfc: ∀ (i:Nat) (x:Ψ),[f0,f1,f2,f3,f4][i]? =some x->w.cell? ⟨fb,fo+i,none⟩=some (qP x)):
  Calls prog 67 #[.pointer (some ⟨g,0,none⟩), .int .i64 10, .slice (some ⟨fb,fo,none⟩) 5 cp] w λq w'=>q= .returned (.tuple #[])/\qAT B g E own s' true w w':=by
 obtain⟨⟨n1,e1⟩,HP1⟩: ∃ p,Hid (zW (s.t.stops.map (·.id)) f1=p):=⟨_,rfl⟩;obtain⟨⟨n2,e2⟩,HP2⟩: ∃ p,Hid (jw f2=p):=⟨_,rfl⟩;obtain⟨⟨n3,e3⟩,HP3⟩: ∃ p,Hid (jw f3=p):=⟨_,rfl⟩;obtain⟨⟨⟨p1,p2⟩,e4⟩,HP4⟩: ∃ p,Hid (Zp f4=p):=⟨_,rfl⟩;have hF:qy s 10 [f0,f1,f2,f3,f4] n=(⟨{ s.t with trips:=kH s.t.trips ⟨(zW (s.t.stops.map (·.id)) f1).1,(jw f2).1,(jw f3).1,(Zp f4).1.1,(Zp f4).1.2⟩ },s.lines,s.rules,true⟩,zT [(zW (s.t.stops.map (·.id)) f1).2,(jw f2).2,(jw f3).2,(Zp f4).2]):=rfl;rw[HP1.o,HP2.o,HP3.o,HP4.o]at hF;have hq:=hF.symm.trans HF.o;simp only[qAF]at hq;obtain⟨hs1,hE1⟩:=hq;have HE:=qA (show(fe (fe (fe (fe 0 e1) e2) e3) e4)=E by rw[<-hE1];exact vY [e1,e2,e3,e4]);have HS:=qA hs1;have c1:=hfc 1 _ rfl;have l1:=hlen f1 σ;have c2:=hfc 2 _ rfl;have l2:=hlen f2 σ;have c3:=hfc 3 _ rfl;have l3:=hlen f3 σ;have c4:=hfc 4 _ rfl;have l4:=hlen f4 σ;clear hF hE1 hs1 HF hfc hlen;have hfg:fb≠g:=λe=>by have:=h.lg;rw[<-e]at this;omega
 have hcl: ∀ {w'},Gr g w w'->w'.cell? ⟨fb,fo+1,none⟩=some (qP f1)/\w'.cell? ⟨fb,fo+2,none⟩=some (qP f2)/\w'.cell? ⟨fb,fo+3,none⟩=some (qP f3)/\w'.cell? ⟨fb,fo+4,none⟩=some (qP f4):=λq=>⟨(q.cell_far ⟨fb,fo+1,none⟩ hfb (λe=>hfg (qAB e))).trans c1,(q.cell_far ⟨fb,fo+2,none⟩ hfb (λe=>hfg (qAB e))).trans c2,(q.cell_far ⟨fb,fo+3,none⟩ hfb (λe=>hfg (qAB e))).trans c3,(q.cell_far ⟨fb,fo+4,none⟩ hfb (λe=>hfg (qAB e))).trans c4⟩
 have G0:Gr g w w.drew:=jH (qH (qB w));have r0:=h.rat.bl (qH (qB w));have H:=qA h;have hgl:=h.glt;obtain⟨i4,hi4⟩:=ε ((qAX [ae,AP,lC,Ia] f4).1);have h1:=qB5 f4;rw[HP4.o,hi4]at h1;have HI4:=qA (show qAX [ae,AP,lC,Ia] f4=(i4,e4) by rw[<-hi4,(qAE h1).2]);have h2:=qAE (qAE h1).1;have hp2:decide (2<=i4)=p2:=h2.2.symm;have hc:((i4==1)=true/\p1=true)∨((i4==1)=false/\(i4==3)=p1):=by
  have h3:=h2.1;cases hd:i4==1
  · rw[hd]at h3;exact .inr ⟨rfl,h3.symm⟩
  · rw[hd]at h3;exact .inl ⟨rfl,h3⟩
 clear hi4 h1 h2;have hokc:Ik ⟨n1,n2,n3,p1,p2⟩:=⟨by have:=fD f2;rw[HP2.o]at this;exact this,by have:=fD f3;rw[HP3.o]at this;exact this⟩;have HOK:=qA hokc;clear hokc;have hsame:s.t.trips=(pre++[x]).map xOf:=h.parts.same;have hxl:x.calls.length<=N:=by
  have:=hN.calls (xOf x) (by rw[hsame];simp);exact this
 have hx0:(pre++[x])[pre.length]? =some x:=σ
 obtain⟨a5,k5,hv5⟩: ∃ a c,x.v= .slice a x.calls.length c:=by
  rcases(h.parts.calls pre.length x hx0).2 with⟨h1,h0⟩|⟨gg,cap,cur,h1,_⟩
  · exact⟨_,_,by rw[h1,h0]⟩
  · exact⟨_,_,h1⟩
 obtain⟨gb,k4,hv4⟩: ∃ gb c,vs 4= .slice (some ⟨gb,0,none⟩) (pre.length+1) c:=by
  have hr:=h.parts.row 4 ω;unfold vO at hr;have hl:(pre++[x]).length=pre.length+1:=by rw[U1];rfl
  rcases hr.2 with⟨h1,h0⟩|⟨gg,cap,cur,h1,_⟩
  · exact absurd (h0.symm.trans hl) ω
  · exact⟨gg,cap,h1.trans (by show Value.slice _ (pre++[x]).length _=_;rw[hl])⟩
 have hpl:pre.length+1<=N:=by
  have:=hN.trips;rw[hsame]at this;simpa using this
 have hB:=h.base;have hgb:gb<w.heap.size:=(qAG (h.parts.row 4 ω) gb (by rw[hv4];rfl)).2;have hgbg:gb≠g:=λe=>by have h1:=h.parts.lab 4 ω gb (by rw[hv4];rfl);have h2:=h.lg;rw[e]at h1;omega
 clear h c1 c2 c3 c4;go_enter func67,ntmps67
 go_wp2_with fail;go_cut [6] from 236 (λsv wx=> ∃ b:Nat,sv= .pointer (some ⟨b,0,none⟩)/\w.heap.size<=b/\Hid (QAt g vs s.t.fares s.rules true (fe (fe (fe 0 e1) e2) e3) wx)/\Hid (Gr g w wx)/\Hid (wx.heap[b]? =some (.cells #[.int .i64 n1, .int .i64 n2, .int .i64 n3, .bool false, .bool false] 58 (0,0))))
 case first=>
  rename_i J0 K0 hJ0 hK0;refine qAP (λw'=>w'.cell? ⟨fb,fo+1,none⟩=some (qP f1)/\w'.cell? ⟨fb,fo+2,none⟩=some (qP f2)/\w'.cell? ⟨fb,fo+3,none⟩=some (qP f3)/\w'.cell? ⟨fb,fo+4,none⟩=some (qP f4)) 17 (hcl G0) (λhHeld=>?_);refine SG 0 ?_;refine SG 1 ?_;refine SG 2 ?_;refine SG 3 ?_;refine SG 5 ?_;refine SG 6 ?_;refine SG 7 ?_;refine SG 8 ?_;refine SG 10 ?_;refine SG 11 ?_;refine SG 12 ?_;refine SG 13 ?_;refine qBL 4 16 (λKK hKK=>?_) (λKK hKK=>?_)
  ·
   go_simp;go_at_call 145
   refine(qAx g vs s.t.fares s.rules true 0 e1 _ n1 f1 s.t.stops HP1 (qA rfl) _ _ r0 (H.o.gr r0 G0).parts.rd.stops (U3 _)).mono ?_;rintro y1 w1 ⟨rfl,r1,g1⟩;have g1x:Gr g w w1:=qJ G0 g1;refine hKK.o _ _ (hcl g1x) (λhHeld=>?_);refine qBL 9 16 (λKK hKK=>?_) (λKK hKK=>?_)
   ·
    go_simp;go_at_call 143
    refine(qAZ g vs s.t.fares s.rules true (fe 0 e1) e2 _ n2 f2 HP2 l2 (qA rfl) _ r1).mono ?_;rintro y2 w2 ⟨rfl,r2,g2⟩;have g2x:Gr g w w2:=qJ g1x g2;refine hKK.o _ _ (hcl g2x) (λhHeld=>?_);refine qBL 14 16 (λKK hKK=>?_) (λKK hKK=>?_)
    ·
     go_simp;go_at_call 143
     refine(qAZ g vs s.t.fares s.rules true (fe (fe 0 e1) e2) e3 _ n3 f3 HP3 l3 (qA rfl) _ r2).mono ?_;rintro y3 w3 ⟨rfl,r3,g3⟩;have g3x:Gr g w w3:=qJ g2x g3;refine hKK.o _ _ (hcl g3x) (λhHeld=>?_);refine SG 15 ?_;refine qAI 16 (λKK hKK=>?_);go_simp;have rA:=r3.bl (qE (qB w3) (.cells #[.int .i64 0, .int .i64 0, .int .i64 0, .bool false, .bool false] 58));have gA:=qJ g3x (jH (g:=g) (qE (qB w3) (.cells #[.int .i64 0, .int .i64 0, .int .i64 0, .bool false, .bool false] 58)));have BK:(w3.alloc (.cells #[.int .i64 0, .int .i64 0, .int .i64 0, .bool false, .bool false] 58)).heap[w3.heap.size]? =some (.cells #[.int .i64 0, .int .i64 0, .int .i64 0, .bool false, .bool false] 58 (0,0)):=heap_alloc_new w3 _;have hwb:w.heap.size<=w3.heap.size:=g3x.size;have bne:w3.heap.size≠g:=ω
     refine hKK.o _ _ (hcl gA) (λhHeld=>?_);generalize w3.alloc (.cells #[.int .i64 0, .int .i64 0, .int .i64 0, .bool false, .bool false] 58)=wA at rA gA BK hHeld ⊢
     generalize w3.heap.size=bk at BK bne hwb ⊢
     have q0:=qC BK 0 _ rfl;have fr0:=U8 BK 0;have q1:=qC BK 1 _ rfl;have fr1:=U8 BK 1;have q2:=qC BK 2 _ rfl;have fr2:=U8 BK 2;have q3:=qC BK 3 _ rfl;have fr3:=U8 BK 3;have q4:=qC BK 4 _ rfl;have fr4:=U8 BK 4;have Q:=qAe hwb bne [.int .i64 n1, .int .i64 n2, .int .i64 n3, .bool false, .bool false] 0 rA gA BK;have HQ:=qA Q;clear Q;refine qAQ (λKK hKK=>?_);go_simp;refine hKK.o _ _ ?_;refine hK0 _ _ (Met.intro (hJ0 _ _ ?_));repeat apply Exists.intro
     refine⟨?rel,rfl⟩;case rel=>exact⟨_,rfl,hwb,HQ.o.1,HQ.o.2.1,HQ.o.2.2⟩
    ·
     go_simp;have rA:=r2.bl (qE (qB w2) (.cells #[.int .i64 0, .int .i64 0, .int .i64 0, .bool false, .bool false] 58));have gA:=qJ g2x (jH (g:=g) (qE (qB w2) (.cells #[.int .i64 0, .int .i64 0, .int .i64 0, .bool false, .bool false] 58)));have BK:(w2.alloc (.cells #[.int .i64 0, .int .i64 0, .int .i64 0, .bool false, .bool false] 58)).heap[w2.heap.size]? =some (.cells #[.int .i64 0, .int .i64 0, .int .i64 0, .bool false, .bool false] 58 (0,0)):=heap_alloc_new w2 _;have hwb:w.heap.size<=w2.heap.size:=g2x.size;have bne:w2.heap.size≠g:=ω
     refine hKK.o _ _ (hcl gA) (λhHeld=>?_);generalize w2.alloc (.cells #[.int .i64 0, .int .i64 0, .int .i64 0, .bool false, .bool false] 58)=wA at rA gA BK hHeld ⊢
     generalize w2.heap.size=bk at BK bne hwb ⊢
     refine qAI 14 (λKK hKK=>?_);go_simp;go_at_call 143
     refine(qAZ g vs s.t.fares s.rules true (fe (fe 0 e1) e2) e3 _ n3 f3 HP3 l3 (qA rfl) _ rA).mono ?_;rintro y3 w3 ⟨rfl,r3,g3⟩;have g3x:Gr g w w3:=qJ gA g3;have BK:=(qg g3 (lt_of_block BK) bne).trans BK;refine hKK.o _ _ (hcl g3x) (λhHeld=>?_);refine SG 15 ?_;have q0:=qC BK 0 _ rfl;have fr0:=U8 BK 0;have q1:=qC BK 1 _ rfl;have fr1:=U8 BK 1;have q2:=qC BK 2 _ rfl;have fr2:=U8 BK 2;have q3:=qC BK 3 _ rfl;have fr3:=U8 BK 3;have q4:=qC BK 4 _ rfl;have fr4:=U8 BK 4;have Q:=qAe hwb bne [.int .i64 n1, .int .i64 n2, .int .i64 n3, .bool false, .bool false] 0 r3 g3x BK;have HQ:=qA Q;clear Q;refine qAQ (λKK hKK=>?_);go_simp;refine hKK.o _ _ ?_;refine hK0 _ _ (Met.intro (hJ0 _ _ ?_));repeat apply Exists.intro
     refine⟨?rel,rfl⟩;case rel=>exact⟨_,rfl,hwb,HQ.o.1,HQ.o.2.1,HQ.o.2.2⟩
   ·
    go_simp;have rA:=r1.bl (qE (qB w1) (.cells #[.int .i64 0, .int .i64 0, .int .i64 0, .bool false, .bool false] 58));have gA:=qJ g1x (jH (g:=g) (qE (qB w1) (.cells #[.int .i64 0, .int .i64 0, .int .i64 0, .bool false, .bool false] 58)));have BK:(w1.alloc (.cells #[.int .i64 0, .int .i64 0, .int .i64 0, .bool false, .bool false] 58)).heap[w1.heap.size]? =some (.cells #[.int .i64 0, .int .i64 0, .int .i64 0, .bool false, .bool false] 58 (0,0)):=heap_alloc_new w1 _;have hwb:w.heap.size<=w1.heap.size:=g1x.size;have bne:w1.heap.size≠g:=ω
    refine hKK.o _ _ (hcl gA) (λhHeld=>?_);generalize w1.alloc (.cells #[.int .i64 0, .int .i64 0, .int .i64 0, .bool false, .bool false] 58)=wA at rA gA BK hHeld ⊢
    generalize w1.heap.size=bk at BK bne hwb ⊢
    refine qAI 9 (λKK hKK=>?_);go_simp;go_at_call 143
    refine(qAZ g vs s.t.fares s.rules true (fe 0 e1) e2 _ n2 f2 HP2 l2 (qA rfl) _ rA).mono ?_;rintro y2 w2 ⟨rfl,r2,g2⟩;have g2x:Gr g w w2:=qJ gA g2;have BK:=(qg g2 (lt_of_block BK) bne).trans BK;refine hKK.o _ _ (hcl g2x) (λhHeld=>?_);refine qAI 14 (λKK hKK=>?_);go_simp;go_at_call 143
    refine(qAZ g vs s.t.fares s.rules true (fe (fe 0 e1) e2) e3 _ n3 f3 HP3 l3 (qA rfl) _ r2).mono ?_;rintro y3 w3 ⟨rfl,r3,g3⟩;have g3x:Gr g w w3:=qJ g2x g3;have BK:=(qg g3 (lt_of_block BK) bne).trans BK;refine hKK.o _ _ (hcl g3x) (λhHeld=>?_);refine SG 15 ?_;have q0:=qC BK 0 _ rfl;have fr0:=U8 BK 0;have q1:=qC BK 1 _ rfl;have fr1:=U8 BK 1;have q2:=qC BK 2 _ rfl;have fr2:=U8 BK 2;have q3:=qC BK 3 _ rfl;have fr3:=U8 BK 3;have q4:=qC BK 4 _ rfl;have fr4:=U8 BK 4;have Q:=qAe hwb bne [.int .i64 n1, .int .i64 n2, .int .i64 n3, .bool false, .bool false] 0 r3 g3x BK;have HQ:=qA Q;clear Q;refine qAQ (λKK hKK=>?_);go_simp;refine hKK.o _ _ ?_;refine hK0 _ _ (Met.intro (hJ0 _ _ ?_));repeat apply Exists.intro
    refine⟨?rel,rfl⟩;case rel=>exact⟨_,rfl,hwb,HQ.o.1,HQ.o.2.1,HQ.o.2.2⟩
  ·
   go_simp;have rA:=r0.bl (qE (qB w.drew) (.cells #[.int .i64 0, .int .i64 0, .int .i64 0, .bool false, .bool false] 58));have gA:=qJ G0 (jH (g:=g) (qE (qB w.drew) (.cells #[.int .i64 0, .int .i64 0, .int .i64 0, .bool false, .bool false] 58)));have BK:(w.drew.alloc (.cells #[.int .i64 0, .int .i64 0, .int .i64 0, .bool false, .bool false] 58)).heap[w.heap.size]? =some (.cells #[.int .i64 0, .int .i64 0, .int .i64 0, .bool false, .bool false] 58 (0,0)):=heap_alloc_new w.drew _;have hwb:w.heap.size<=w.heap.size:=U3 _;have bne:w.heap.size≠g:=ω
   refine hKK.o _ _ (hcl gA) (λhHeld=>?_);rw[World.alloc_drew]at rA gA BK;generalize (w.alloc (.cells #[.int .i64 0, .int .i64 0, .int .i64 0, .bool false, .bool false] 58)).drew=wA at rA gA BK hHeld ⊢
   generalize hbk:w.heap.size=bk at BK bne ⊢
   have hwb:w.heap.size<=bk:=Nat.le_of_eq hbk;clear hbk;refine qAI 4 (λKK hKK=>?_);go_simp;go_at_call 145
   refine(qAx g vs s.t.fares s.rules true 0 e1 _ n1 f1 s.t.stops HP1 (qA rfl) _ _ rA (H.o.gr rA gA).parts.rd.stops (U3 _)).mono ?_;rintro y1 w1 ⟨rfl,r1,g1⟩;have g1x:Gr g w w1:=qJ gA g1;have BK:=(qg g1 (lt_of_block BK) bne).trans BK;refine hKK.o _ _ (hcl g1x) (λhHeld=>?_);refine qAI 9 (λKK hKK=>?_);go_simp;go_at_call 143
   refine(qAZ g vs s.t.fares s.rules true (fe 0 e1) e2 _ n2 f2 HP2 l2 (qA rfl) _ r1).mono ?_;rintro y2 w2 ⟨rfl,r2,g2⟩;have g2x:Gr g w w2:=qJ g1x g2;have BK:=(qg g2 (lt_of_block BK) bne).trans BK;refine hKK.o _ _ (hcl g2x) (λhHeld=>?_);refine qAI 14 (λKK hKK=>?_);go_simp;go_at_call 143
   refine(qAZ g vs s.t.fares s.rules true (fe (fe 0 e1) e2) e3 _ n3 f3 HP3 l3 (qA rfl) _ r2).mono ?_;rintro y3 w3 ⟨rfl,r3,g3⟩;have g3x:Gr g w w3:=qJ g2x g3;have BK:=(qg g3 (lt_of_block BK) bne).trans BK;refine hKK.o _ _ (hcl g3x) (λhHeld=>?_);refine SG 15 ?_;have q0:=qC BK 0 _ rfl;have fr0:=U8 BK 0;have q1:=qC BK 1 _ rfl;have fr1:=U8 BK 1;have q2:=qC BK 2 _ rfl;have fr2:=U8 BK 2;have q3:=qC BK 3 _ rfl;have fr3:=U8 BK 3;have q4:=qC BK 4 _ rfl;have fr4:=U8 BK 4;have Q:=qAe hwb bne [.int .i64 n1, .int .i64 n2, .int .i64 n3, .bool false, .bool false] 0 r3 g3x BK;have HQ:=qA Q;clear Q;refine qAQ (λKK hKK=>?_);go_simp;refine hKK.o _ _ ?_;refine hK0 _ _ (Met.intro (hJ0 _ _ ?_));repeat apply Exists.intro
   refine⟨?rel,rfl⟩;case rel=>exact⟨_,rfl,hwb,HQ.o.1,HQ.o.2.1,HQ.o.2.2⟩
 case rest=>
  obtain⟨b,rfl,hwb,HR1,HG1,HB1⟩:=hcut;have hbg:b≠g:=ω
  have hb:=lt_of_block HB1.o;have hw1:=HG1.o.size;have x4:=(hcl HG1.o).2.2.2;go_wp2_with (go_at_call 137;refine(qAl g vs s.t.fares s.rules true (fe (fe (fe 0 e1) e2) e3) e4 _ i4 f4 [ae,AP,lC,Ia] _ HI4 (qA rfl) _ _ (HR1.o.bl (qE (qB wc) _)) ((qAj.new [ae,AP,lC,Ia] wc _ _ rfl).strs 4 rfl ω) (U3 _)).mono ?_)
  rintro y4 w4 ⟨rfl,r4,g4⟩;have hwb4:wc.heap.size<=w4.heap.size:=by have:=g4.size;simp at this;omega
  have ga:Gr g w w4:=qJ HG1.o (qJ (jH (qE (qB wc) _)) g4);have HB4:=qA ((qg g4 τ hbg).trans (qX HB1.o (qE (qB wc) _)));have q3:w4.cell? ⟨b,3,none⟩=some (.bool false):=qC HB4.o 3 _ rfl;have q4:w4.cell? ⟨b,4,none⟩=some (.bool false):=qC HB4.o 4 _ rfl;have fr3:=U8 HB4.o 3;have fr4:=U8 HB4.o 4;have Q:=qAe hwb hbg [.bool p1, .bool p2] 3 r4 ga HB4.o;have H5:=qA (H.o.gr Q.1 Q.2.1);have G5:=qA Q.2.1;have HB5:Hid (((w4.setCell ⟨b,3,none⟩ (.bool p1)).setCell ⟨b,4,none⟩ (.bool p2)).heap[b]? =some (.cells #[.int .i64 n1, .int .i64 n2, .int .i64 n3, .bool p1, .bool p2] 58 (0,0))):=Q.2.2;change Hid (qAN B g (fe (fe (fe (fe 0 e1) e2) e3) e4) vs (pre++[x]) own ⟨s.t,s.lines,s.rules,true⟩ true ((w4.setCell ⟨b,3,none⟩ (.bool p1)).setCell ⟨b,4,none⟩ (.bool p2)))at H5;change Hid (Gr g w ((w4.setCell ⟨b,3,none⟩ (.bool p1)).setCell ⟨b,4,none⟩ (.bool p2)))at G5;have z4:w4.cell? ⟨g,4,none⟩=some (.slice (some ⟨gb,0,none⟩) (pre.length+1) k4):=by rw[<-hv4];exact qC r4 4 _ rfl
  have wl:IntKind.i64.wrap (((pre.length+1:Nat):Int)-1)=(pre.length:Int):=by rw[IntWalk.i64_in _ ω];omega
  have wl0:IntKind.i64.wrap (pre.length:Int)=(pre.length:Int):=IntWalk.i64_in _ ω;have wl1:IntKind.i64.wrap ((pre.length:Int)+1-1)=(pre.length:Int):=by rw[IntWalk.i64_in _ ω];omega
  have i0:(0:Int)<=(pre.length:Int):=ω
  have i1:(pre.length:Int)<(pre.length:Int)+1:=ω
  have i2:(pre.length:Int)<((pre.length+1:Nat):Int):=ω
  obtain⟨i7,hi7,hz70,hz71,hz72⟩:=info_parts La;clear Q r4 g4 HB1 HR1 HG1 ga;rcases hc with⟨d1,hp1⟩|⟨d1,hp1⟩
  all_goals
   go_wp2_with fail;first
    |rw[show w4.setCell ⟨b,3,none⟩ (.bool true)=w4.setCell ⟨b,3,none⟩ (.bool p1) by rw[hp1]]
    |skip
   generalize ((w4.setCell ⟨b,3,none⟩ (.bool p1)).setCell ⟨b,4,none⟩ (.bool p2))=w5 at H5 G5 HB5 ⊢
   clear HB4 q3 q4 fr3 fr4 z4 d1 hp1;have H6:=qA (H5.o.bl (qH (qB w5)));have G6:=qA (qJ G5.o (jH (qH (qB w5))));have HB6:=qA (qX HB5.o (qH (qB w5)));have cx: ∀ {w6},qAN B g (fe (fe (fe (fe 0 e1) e2) e3) e4) vs (pre++[x]) own ⟨s.t,s.lines,s.rules,true⟩ true w6->w6.cell? ⟨gb,pre.length*5+4,none⟩=some (.slice a5 x.calls.length k5):=fun{w6} h6=>by
    have SL:jA tripCells 5 w6.heap.size w6 (.slice (some ⟨gb,0,none⟩) (pre.length+1) k4) (pre++[x]):=by rw[<-hv4];exact zq QZ (h6.parts.row 4 ω)
    obtain⟨bl',ol,y,hv',hbs,hy,hc⟩:=SL.get (k:=pre.length) σ (qB _) (U3 _);rw[hx0]at hy;obtain rfl:=qAB hy;simp only[qAA,Addr.mk.injEq]at hv';have h4:=hc 4 _ rfl;rw[<-hv'.1,<-hv'.2.1,Nat.zero_add,hv5]at h4;exact h4
   have fx: ∀ {w6},qAN B g (fe (fe (fe (fe 0 e1) e2) e3) e4) vs (pre++[x]) own ⟨s.t,s.lines,s.rules,true⟩ true w6->w6.frozen? ⟨gb,pre.length*5+4,none⟩=false:=λh6=>by
    rcases(h6.parts.row 4 ω).2 with⟨h1,h0⟩|⟨gg,cap,cur,h1,_,hk,_⟩
    ·
     rw[hv4]at h1;cases h1
    ·
     rw[hv4]at h1;simp only[Value.slice.injEq,qAA,Addr.mk.injEq]at h1;rw[h1.1.1];exact U8 hk _
   have hS: ∀ {w6},qAN B g (fe (fe (fe (fe 0 e1) e2) e3) e4) vs (pre++[x]) own ⟨s.t,s.lines,s.rules,true⟩ true w6->w6.heap[b]? =some (.cells #[.int .i64 n1, .int .i64 n2, .int .i64 n3, .bool p1, .bool p2] 58 (0,0))->(w6.cell? ⟨g,4,none⟩=some (.slice (some ⟨gb,0,none⟩) (pre.length+1) k4)/\w6.cell? ⟨gb,pre.length*5+4,none⟩=some (.slice a5 x.calls.length k5)/\w6.cell? ⟨b,0,none⟩=some (.int .i64 n1)/\w6.cell? ⟨b,1,none⟩=some (.int .i64 n2)/\w6.cell? ⟨b,2,none⟩=some (.int .i64 n3)/\w6.cell? ⟨b,3,none⟩=some (.bool p1)/\w6.cell? ⟨b,4,none⟩=some (.bool p2)):=fun{w6} h6 hb6=>⟨by rw[<-hv4];exact h6.row (k:=4) ω,cx h6,qC hb6 0 _ rfl,qC hb6 1 _ rfl,qC hb6 2 _ rfl,qC hb6 3 _ rfl,qC hb6 4 _ rfl⟩
   refine qAP (λw6=>(w6.cell? ⟨g,4,none⟩=some (.slice (some ⟨gb,0,none⟩) (pre.length+1) k4)/\w6.cell? ⟨gb,pre.length*5+4,none⟩=some (.slice a5 x.calls.length k5)/\w6.cell? ⟨b,0,none⟩=some (.int .i64 n1)/\w6.cell? ⟨b,1,none⟩=some (.int .i64 n2)/\w6.cell? ⟨b,2,none⟩=some (.int .i64 n3)/\w6.cell? ⟨b,3,none⟩=some (.bool p1)/\w6.cell? ⟨b,4,none⟩=some (.bool p2))) 20 (hS H6.o HB6.o) (λhHeld=>?_);generalize w5.drew=w6 at H6 G6 HB6 hHeld ⊢
   refine SG 0 ?_;refine SG 1 ?_;refine SG 2 ?_;refine SG 3 ?_;refine SG 4 ?_;refine SG 5 ?_;refine SG 6 ?_;refine SG 7 ?_;refine SG 8 ?_;refine SG 9 ?_;refine SG 10 ?_;refine SG 11 ?_;refine SG 12 ?_;refine SG 13 ?_;refine SG 14 ?_;refine SG 15 ?_;refine qAI 16 (λKK hKK=>?_);go_simp;have ba:=qE (qB w6) (.cells #[.int .i64 n1, .int .i64 n2, .int .i64 n3, .bool p1, .bool p2] 58);have HB7:=qX HB6.o ba;refine hKK.o _ _ (hS (H6.o.bl ba) HB7) (λhHeld=>?_);refine qAI 17 (λKK hKK=>?_);have OD:(w6.alloc (.cells #[.int .i64 n1, .int .i64 n2, .int .i64 n3, .bool p1, .bool p2] 58)).ownsRow B 58 5 (.slice a5 x.calls.length k5) x.calls.length (x.calls.flatMap callCells):=by have h:=(H6.o.bl ba).parts.calls pre.length x hx0;unfold lI at h;rw[hv5]at h;exact h
   have hB7:=H6.o.base;have lab5: ∀ k,x.v.ownBlock=some k->own k=100+pre.length:=H.o.parts.labc pre.length x hx0;have lab4:own gb=4:=H.o.parts.lab 4 ω gb (by rw[hv4];rfl);have far5: ∀ k,own k≠100+pre.length->some k≠(Value.slice a5 x.calls.length k5).ownBlock:=λk hk e=>by rw[<-hv5]at e;exact hk (lab5 k e.symm)
   have farb:some b≠(Value.slice a5 x.calls.length k5).ownBlock:=λe=>by
    rw[<-hv5]at e;have h1:=(qAG (H.o.parts.calls pre.length x hx0) b e.symm).2;omega
   have s6:=G6.o.size;have gl6:=H6.o.glt;have b6:=lt_of_block HB6.o;refine step_append_lies _ ρ _ _ _ ρ B 58 i7 _ 5 32 underlying54 hi7 hz70 hz71 hz72 rfl ω (.slice a5 x.calls.length k5) x.calls.length (x.calls.flatMap callCells) ρ OD ⟨w6.heap.size,0,none⟩ 1 1 (callCells ⟨n1,n2,n3,p1,p2⟩) ρ ρ (World.news_of_block (cs:= #[.int .i64 n1, .int .i64 n2, .int .i64 n3, .bool p1, .bool p2]) (heap_alloc_new w6 _)) (by simp[callCells,Value.oneCell']) ω ζ ω τ (w6.heap.size+1) σ ?_;intro gg7 cap7 w7 hown7 hgrow7 hat7 hlt7;have P1:=(H6.o.bl ba).call (c:=⟨n1,n2,n3,p1,p2⟩) (s':=s') (gg:=gg7) (cap:=cap7) (cap4:=k4) hv4 (by rw[hv5];exact hgrow7) (show lI B (.slice (some ⟨gg7,0,none⟩) (x.calls.length+1) cap7) _ _ by unfold lI;rw[U1,List.flatMap_append];exact hown7) rfl (by rw[hv5];simpa using hat7) HOK.o (by rw[<-HS.o]) (by rw[<-HS.o]) (by rw[<-HS.o]);have mf:=(hgrow7.frozen_far ⟨gb,pre.length*5+4,none⟩ τ (far5 gb ω)).trans (fx (H6.o.bl ba));have hS7:=hS (H6.o.bl ba) HB7;have H6lg:=H.o.lg;refine hKK.o _ _ (⟨(hgrow7.cell_far ⟨g,4,none⟩ τ (far5 g ω)).trans hS7.1,(hgrow7.cell_far ⟨gb,pre.length*5+4,none⟩ τ (far5 gb ω)).trans hS7.2.1,(hgrow7.cell_far ⟨b,0,none⟩ τ farb).trans hS7.2.2.1,(hgrow7.cell_far ⟨b,1,none⟩ τ farb).trans hS7.2.2.2.1,(hgrow7.cell_far ⟨b,2,none⟩ τ farb).trans hS7.2.2.2.2.1,(hgrow7.cell_far ⟨b,3,none⟩ τ farb).trans hS7.2.2.2.2.2.1,(hgrow7.cell_far ⟨b,4,none⟩ τ farb).trans hS7.2.2.2.2.2.2⟩) (λhHeld=>?_);refine qAJ 18 ?_;refine qAJ 19 ?_;refine qAQ (λKK hKK=>?_);go_simp;refine hKK.o _ _ ?_;go_wp2;go_end0;obtain⟨vs9,ts9,own9,P2,P3⟩:=P1;exact⟨rfl,vs9,ts9,own9,by rw[<-HE.o];exact P2,(QK G6.o H.o.lg).trans ((yJ ba).trans P3)⟩
