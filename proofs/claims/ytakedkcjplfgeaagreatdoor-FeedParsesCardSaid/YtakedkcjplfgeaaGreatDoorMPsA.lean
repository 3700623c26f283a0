/- Contracts, proved. Conditions: theirs. -/
import Derived.Test.YtakedkcjplfgeaaGreatDoorMPsZ
import Derived.Test.YtakedkcjplfgeaaGreatDoorMPsY
set_option maxRecDepth 1000000
set_option maxHeartbeats 32000000
open Go.Proofs.Tryz
namespace Go.Proofs.YtakedkcjplfgeaaGreatDoor
open Go.RowKit
open Frq Thr Tt Num Clk Dat Fld
def qZc (vs:Nat->Value) (f:Jp) (fl:Int) (o:Bool) (e:Int):Array Value:=
 #[vs 0,vs 1,vs 2,vs 3,vs 4,vs 5,vs 6,vs 7,vs 8,vs 9,f.disc,f.within,f.cap,vs 10,vs 11,vs 12,vs 13,vs 14,vs 15,vs 16,vs 17,vs 18,vs 19,fl,o,e]
def QAt (g:Nat) (vs:Nat->Value) (f:Jp) (fl:Int) (o:Bool) (e:Int) (w:World):Prop:=w.heap[g]? =some (.cells (qZc vs f fl o e) 83 (0,0))
theorem QAt.bl {g:Nat} {vs:Nat->Value} {f:Jp} {fl:Int} {o:Bool} {e:Int} {w w':World} (h:QAt g vs f fl o e w) (hb:Bl w w'):QAt g vs f fl o e w':=qX h hb
theorem qAO (g:Nat) (vs:Nat->Value) (f:Jp) (fl:Int) (o:Bool) (e e2 E:Int) (H:Hid (fe e e2=E)) (w:World) (h:QAt g vs f fl o e w):
  Calls prog 24 #[(g,0),e2] w λq w'=>q=.returned (.tuple #[])/\QAt g vs f fl o E w'/\Gr g w w':=by
 have c25:w.cell? (g,25)=some (e:Z):=qC h 25 _ rfl;have f25:=U8 h 25;have HP:=qA h;clear h;by_cases he:e=0
 ·
  have HE:=qA (show e2=E by rw[<-H.o];unfold fe;rw[U6 he]);subst he;clear H;go_enter func24,ntmps24
  go_wp2;go_end0;exact⟨rfl,by rw[<-HE.o];exact qQ HP.o 25 _,zH g w 25 _⟩
 have HE:=qA (show e=E by rw[<-H.o];unfold fe;rw[U5 he]);have f2:(e==0)=false:=by rw[U0];exact he
 clear H;go_enter func24,ntmps24
 go_wp2;go_end0;exact⟨rfl,by rw[<-HE.o];exact HP.o,BH g w⟩
def qAX (ws:List Ψ) (x:Ψ):Int×Int:=match qm x ws with
 |some i=>(i,0)
 |none=>(0,3)
theorem qAu {ids:List Ψ} {x y:Ψ} {k:Nat} (h: ∀ j,j<k->ids[j]? ≠some x) (hy:ids[k]? =some y) (hn:(y==x)=false): ∀ j,j<k+1->ids[j]? ≠some x:=λj hj=>by
 rcases Nat.lt_succ_iff_lt_or_eq.1 hj with h'|rfl
 · exact h j h'
 rw[hy];intro e;rw[qAB e]at hn;simp at hn
theorem qAl (g:Nat) (vs:Nat->Value) (f:Jp) (fl:Int) (o:Bool) (e e2 E n:Int) (x:Ψ) (ws:List Ψ) (v:Value) (HX:Hid (qAX ws x=(n,e2))) (H:Hid (fe e e2=E)) (B:Nat) (w:World) (h:QAt g vs f fl o e w) (hl:VW B w v ws) (hB:B<=w.heap.size):
  Calls prog 137 #[(g,0),qP x,v] w λq w'=>q=.returned (n:Z)/\QAt g vs f fl o E w'/\Gr g w w':=by
 obtain⟨al,capl,rfl,ll1,ll2⟩:=hl.val;have HL:=qA hl;have HR:=qA h;clear hl h;go_enter func137,ntmps137
 go_wp2_with fail;go_loopw [7] (λi wr=> ∃ k:Nat,(k<=ws.length/\i=k)/\Hid (∀ j,j<k->ws[j]? ≠some x)/\Hid (Bl w wr)) (λi _=>ws.length-(intOf i).toNat)
 case atStart=>exact⟨0,⟨qAD _,rfl⟩,λj hj=>absurd hj (Nat.not_lt_zero j),qB _⟩
 obtain⟨k,⟨hk,rfl⟩,HN,HBL⟩:=hrel;by_cases hlt:k<ws.length
 ·
  obtain⟨bl',ol,y,rfl,hbs,hy,hc⟩:=HL.o.get hlt HBL.o hB;have d0:wr.cell? (bl',ol+k)=some (qP y):=by have:=hc 0 _ rfl;rwa [Nat.mul_one]at this
  have hkI:(k:Int)<(ws.length:Int):=ω
  have HY:=qA hy;clear hy hc;cases hq:y==x with
  |true=>
   have HP:=qA (show((k:Int),(0:Int))=(n,e2) by rw[<-HX.o];unfold qAX;rw[yE HN.o (HY.o.trans (congrArg some (beq_iff_eq.1 hq)))]);obtain⟨d1,d2⟩:=qAE HP.o;have HE:=qA (show e=E by rw[<-H.o,<-d2,ji]);clear HP HX H d2;subst d1;go_wp2_with fail;go_ret;exact⟨rfl,by rw[<-HE.o];exact HR.o.bl HBL.o,jH HBL.o⟩
  |false=>
   have HN':=qA (qAu HN.o HY.o hq);go_wp2_with fail;go_roundw;case rel=>exact⟨k+1,⟨ω,by go_num⟩,HN',HBL⟩
   simp[intOf];omega
 have HP:=qA (show((0:Int),(3:Int))=(n,e2) by rw[<-HX.o];unfold qAX;rw[Jc (λj hj=>HN.o j ω)]);obtain⟨d1,d2⟩:=qAE HP.o;clear HP HX;subst d1 d2;go_wp2_with (go_at_call 24;refine(qAO g vs f fl o e 3 E H wr (HR.o.bl HBL.o)).mono ?_)
 rintro y2 w2 ⟨rfl,r2,g2⟩;go_wp2;go_ret;exact⟨rfl,r2,qJ (jH HBL.o) g2⟩
theorem qAx (g:Nat) (vs:Nat->Value) (f:Jp) (fl:Int) (o:Bool) (e e2 E n:Int) (x:Ψ) (l:List ZH) (HX:Hid (zW (l.map (·.id)) x=(n,e2))) (H:Hid (fe e e2=E)) (B:Nat) (w:World) (h:QAt g vs f fl o e w) (hl:jA jY 4 B w (vs 0) l) (hB:B<=w.heap.size):
  Calls prog 145 #[(g,0),qP x] w λq w'=>q=.returned (n:Z)/\QAt g vs f fl o E w'/\Gr g w w':=by
 obtain⟨al,capl,hv,ll1,ll2⟩:=hl.val;have c0:w.cell? (g,0)=some (.slice al l.length capl):=by rw[<-hv];exact qC h 0 _ rfl
 rw[hv]at hl;have HL:=qA hl;have HR:=qA h;have C0:=qA c0;have hgl:=lt_of_block h;clear hl h hv c0;go_enter func145,ntmps145
 go_wp2_with fail;go_loopw [5] (λi wr=> ∃ k:Nat,(k<=l.length/\i=k)/\Hid (∀ j,j<k->(l.map (·.id))[j]? ≠some x)/\Hid (Bl w wr)) (λi _=>l.length-(intOf i).toNat)
 case atStart=>exact⟨0,⟨qAD _,rfl⟩,λj hj=>absurd hj (Nat.not_lt_zero j),qB _⟩
 obtain⟨k,⟨hk,rfl⟩,HN,HBL⟩:=hrel;have c0:wr.cell? (g,0)=some (.slice al l.length capl):=((qG HBL.o).1 _ _ hgl).trans C0.o;by_cases hlt:k<l.length
 ·
  obtain⟨bl',ol,y,rfl,hbs,hy,hc⟩:=HL.o.get hlt HBL.o hB;obtain⟨yi,hyi⟩:=ε ((·.id) y);have d0:wr.cell? (bl',ol+k*4)=some (qP yi):=by rw[<-hyi];exact hc 0 _ rfl
  have hkI:(k:Int)<(l.length:Int):=ω
  have HY:=qA (show(l.map (·.id))[k]? =some yi by rw[List.getElem?_map,hy,<-hyi];rfl);clear hy hc hyi;cases hq:yi==x with
  |true=>
   have HP:=qA (show((k:Int),(0:Int))=(n,e2) by rw[<-HX.o];unfold zW;rw[yE HN.o (HY.o.trans (congrArg some (beq_iff_eq.1 hq)))]);obtain⟨d1,d2⟩:=qAE HP.o;have HE:=qA (show e=E by rw[<-H.o,<-d2,ji]);clear HP HX H d2;subst d1;go_wp2_with fail;go_ret;exact⟨rfl,by rw[<-HE.o];exact HR.o.bl HBL.o,jH HBL.o⟩
  |false=>
   have HN':=qA (qAu HN.o HY.o hq);go_wp2_with fail;go_roundw;case rel=>exact⟨k+1,⟨ω,by go_num⟩,HN',HBL⟩
   simp[intOf];omega
 have HP:=qA (show((0:Int),(9:Int))=(n,e2) by rw[<-HX.o];unfold zW;rw[Jc (λj hj=>HN.o j (by rw[U4]at hj;omega))]);obtain⟨d1,d2⟩:=qAE HP.o;clear HP HX;subst d1 d2;go_wp2_with (go_at_call 24;refine(qAO g vs f fl o e 9 E H wr (HR.o.bl HBL.o)).mono ?_)
 rintro y2 w2 ⟨rfl,r2,g2⟩;go_wp2;go_ret;exact⟨rfl,r2,qJ (jH HBL.o) g2⟩
theorem qCW (g:Nat) (vs:Nat->Value) (f:Jp) (fl:Int) (o:Bool) (e e2 E n:Int) (x:Ψ) (l:List xy) (HX:Hid (zW (l.map (·.id)) x=(n,e2))) (H:Hid (fe e e2=E)) (B:Nat) (w:World) (h:QAt g vs f fl o e w) (hl:jA jP 3 B w (vs 1) l) (hB:B<=w.heap.size):
  Calls prog 141 #[(g,0),qP x] w λq w'=>q=.returned (n:Z)/\QAt g vs f fl o E w'/\Gr g w w':=by
 obtain⟨al,capl,hv,ll1,ll2⟩:=hl.val;have c0:w.cell? (g,1)=some (.slice al l.length capl):=by rw[<-hv];exact qC h 1 _ rfl
 rw[hv]at hl;have HL:=qA hl;have HR:=qA h;have C0:=qA c0;have hgl:=lt_of_block h;clear hl h hv c0;go_enter func141,ntmps141
 go_wp2_with fail;go_loopw [5] (λi wr=> ∃ k:Nat,(k<=l.length/\i=k)/\Hid (∀ j,j<k->(l.map (·.id))[j]? ≠some x)/\Hid (Bl w wr)) (λi _=>l.length-(intOf i).toNat)
 case atStart=>exact⟨0,⟨qAD _,rfl⟩,λj hj=>absurd hj (Nat.not_lt_zero j),qB _⟩
 obtain⟨k,⟨hk,rfl⟩,HN,HBL⟩:=hrel;have c0:wr.cell? (g,1)=some (.slice al l.length capl):=((qG HBL.o).1 _ _ hgl).trans C0.o;by_cases hlt:k<l.length
 ·
  obtain⟨bl',ol,y,rfl,hbs,hy,hc⟩:=HL.o.get hlt HBL.o hB;obtain⟨yi,hyi⟩:=ε ((·.id) y);have d0:wr.cell? (bl',ol+k*3)=some (qP yi):=by rw[<-hyi];exact hc 0 _ rfl
  have hkI:(k:Int)<(l.length:Int):=ω
  have HY:=qA (show(l.map (·.id))[k]? =some yi by rw[List.getElem?_map,hy,<-hyi];rfl);clear hy hc hyi;cases hq:yi==x with
  |true=>
   have HP:=qA (show((k:Int),(0:Int))=(n,e2) by rw[<-HX.o];unfold zW;rw[yE HN.o (HY.o.trans (congrArg some (beq_iff_eq.1 hq)))]);obtain⟨d1,d2⟩:=qAE HP.o;have HE:=qA (show e=E by rw[<-H.o,<-d2,ji]);clear HP HX H d2;subst d1;go_wp2_with fail;go_ret;exact⟨rfl,by rw[<-HE.o];exact HR.o.bl HBL.o,jH HBL.o⟩
  |false=>
   have HN':=qA (qAu HN.o HY.o hq);go_wp2_with fail;go_roundw;case rel=>exact⟨k+1,⟨ω,by go_num⟩,HN',HBL⟩
   simp[intOf];omega
 have HP:=qA (show((0:Int),(9:Int))=(n,e2) by rw[<-HX.o];unfold zW;rw[Jc (λj hj=>HN.o j (by rw[U4]at hj;omega))]);obtain⟨d1,d2⟩:=qAE HP.o;clear HP HX;subst d1 d2;go_wp2_with (go_at_call 24;refine(qAO g vs f fl o e 9 E H wr (HR.o.bl HBL.o)).mono ?_)
 rintro y2 w2 ⟨rfl,r2,g2⟩;go_wp2;go_ret;exact⟨rfl,r2,qJ (jH HBL.o) g2⟩
theorem qBm (g:Nat) (vs:Nat->Value) (f:Jp) (fl:Int) (o:Bool) (e e2 E n:Int) (x:Ψ) (l:List Yj) (HX:Hid (zW (l.map (·.id)) x=(n,e2))) (H:Hid (fe e e2=E)) (B:Nat) (w:World) (h:QAt g vs f fl o e w) (hl:jA kD 10 B w (vs 2) l) (hB:B<=w.heap.size):
  Calls prog 140 #[(g,0),qP x] w λq w'=>q=.returned (n:Z)/\QAt g vs f fl o E w'/\Gr g w w':=by
 obtain⟨al,capl,hv,ll1,ll2⟩:=hl.val;have c0:w.cell? (g,2)=some (.slice al l.length capl):=by rw[<-hv];exact qC h 2 _ rfl
 rw[hv]at hl;have HL:=qA hl;have HR:=qA h;have C0:=qA c0;have hgl:=lt_of_block h;clear hl h hv c0;go_enter func140,ntmps140
 go_wp2_with fail;go_loopw [5] (λi wr=> ∃ k:Nat,(k<=l.length/\i=k)/\Hid (∀ j,j<k->(l.map (·.id))[j]? ≠some x)/\Hid (Bl w wr)) (λi _=>l.length-(intOf i).toNat)
 case atStart=>exact⟨0,⟨qAD _,rfl⟩,λj hj=>absurd hj (Nat.not_lt_zero j),qB _⟩
 obtain⟨k,⟨hk,rfl⟩,HN,HBL⟩:=hrel;have c0:wr.cell? (g,2)=some (.slice al l.length capl):=((qG HBL.o).1 _ _ hgl).trans C0.o;by_cases hlt:k<l.length
 ·
  obtain⟨bl',ol,y,rfl,hbs,hy,hc⟩:=HL.o.get hlt HBL.o hB;obtain⟨yi,hyi⟩:=ε ((·.id) y);have d0:wr.cell? (bl',ol+k*10)=some (qP yi):=by rw[<-hyi];exact hc 0 _ rfl
  have hkI:(k:Int)<(l.length:Int):=ω
  have HY:=qA (show(l.map (·.id))[k]? =some yi by rw[List.getElem?_map,hy,<-hyi];rfl);clear hy hc hyi;cases hq:yi==x with
  |true=>
   have HP:=qA (show((k:Int),(0:Int))=(n,e2) by rw[<-HX.o];unfold zW;rw[yE HN.o (HY.o.trans (congrArg some (beq_iff_eq.1 hq)))]);obtain⟨d1,d2⟩:=qAE HP.o;have HE:=qA (show e=E by rw[<-H.o,<-d2,ji]);clear HP HX H d2;subst d1;go_wp2_with fail;go_ret;exact⟨rfl,by rw[<-HE.o];exact HR.o.bl HBL.o,jH HBL.o⟩
  |false=>
   have HN':=qA (qAu HN.o HY.o hq);go_wp2_with fail;go_roundw;case rel=>exact⟨k+1,⟨ω,by go_num⟩,HN',HBL⟩
   simp[intOf];omega
 have HP:=qA (show((0:Int),(9:Int))=(n,e2) by rw[<-HX.o];unfold zW;rw[Jc (λj hj=>HN.o j (by rw[U4]at hj;omega))]);obtain⟨d1,d2⟩:=qAE HP.o;clear HP HX;subst d1 d2;go_wp2_with (go_at_call 24;refine(qAO g vs f fl o e 9 E H wr (HR.o.bl HBL.o)).mono ?_)
 rintro y2 w2 ⟨rfl,r2,g2⟩;go_wp2;go_ret;exact⟨rfl,r2,qJ (jH HBL.o) g2⟩
theorem qAy (g:Nat) (vs:Nat->Value) (f:Jp) (fl:Int) (o:Bool) (e e2 E n:Int) (x:Ψ) (l:List TripD) (HX:Hid (zW (l.map (λx=>x.id.data.toList)) x=(n,e2))) (H:Hid (fe e e2=E)) (B:Nat) (w:World) (h:QAt g vs f fl o e w) (hl:jA tripCells 5 B w (vs 4) l) (hB:B<=w.heap.size):
  Calls prog 142 #[(g,0),qP x] w λq w'=>q=.returned (n:Z)/\QAt g vs f fl o E w'/\Gr g w w':=by
 obtain⟨al,capl,hv,ll1,ll2⟩:=hl.val;have c0:w.cell? (g,4)=some (.slice al l.length capl):=by rw[<-hv];exact qC h 4 _ rfl
 rw[hv]at hl;have HL:=qA hl;have HR:=qA h;have C0:=qA c0;have hgl:=lt_of_block h;clear hl h hv c0;go_enter func142,ntmps142
 go_wp2_with fail;go_loopw [5] (λi wr=> ∃ k:Nat,(k<=l.length/\i=k)/\Hid (∀ j,j<k->(l.map (λx=>x.id.data.toList))[j]? ≠some x)/\Hid (Bl w wr)) (λi _=>l.length-(intOf i).toNat)
 case atStart=>exact⟨0,⟨qAD _,rfl⟩,λj hj=>absurd hj (Nat.not_lt_zero j),qB _⟩
 obtain⟨k,⟨hk,rfl⟩,HN,HBL⟩:=hrel;have c0:wr.cell? (g,4)=some (.slice al l.length capl):=((qG HBL.o).1 _ _ hgl).trans C0.o;by_cases hlt:k<l.length
 ·
  obtain⟨bl',ol,y,rfl,hbs,hy,hc⟩:=HL.o.get hlt HBL.o hB;obtain⟨yi,hyi⟩:=ε ((λx=>x.id.data.toList) y);have d0:wr.cell? (bl',ol+k*5)=some (qP yi):=by rw[<-hyi];exact hc 0 _ rfl
  have hkI:(k:Int)<(l.length:Int):=ω
  have HY:=qA (show(l.map (λx=>x.id.data.toList))[k]? =some yi by rw[List.getElem?_map,hy,<-hyi];rfl);clear hy hc hyi;cases hq:yi==x with
  |true=>
   have HP:=qA (show((k:Int),(0:Int))=(n,e2) by rw[<-HX.o];unfold zW;rw[yE HN.o (HY.o.trans (congrArg some (beq_iff_eq.1 hq)))]);obtain⟨d1,d2⟩:=qAE HP.o;have HE:=qA (show e=E by rw[<-H.o,<-d2,ji]);clear HP HX H d2;subst d1;go_wp2_with fail;go_ret;exact⟨rfl,by rw[<-HE.o];exact HR.o.bl HBL.o,jH HBL.o⟩
  |false=>
   have HN':=qA (qAu HN.o HY.o hq);go_wp2_with fail;go_roundw;case rel=>exact⟨k+1,⟨ω,by go_num⟩,HN',HBL⟩
   simp[intOf];omega
 have HP:=qA (show((0:Int),(9:Int))=(n,e2) by rw[<-HX.o];unfold zW;rw[Jc (λj hj=>HN.o j (by rw[U4]at hj;omega))]);obtain⟨d1,d2⟩:=qAE HP.o;clear HP HX;subst d1 d2;go_wp2_with (go_at_call 24;refine(qAO g vs f fl o e 9 E H wr (HR.o.bl HBL.o)).mono ?_)
 rintro y2 w2 ⟨rfl,r2,g2⟩;go_wp2;go_ret;exact⟨rfl,r2,qJ (jH HBL.o) g2⟩
theorem qAk (g:Nat) (vs:Nat->Value) (f:Jp) (fl:Int) (o:Bool) (e e2 E n:Int) (x:Ψ) (HX:Hid (kF x=(n,e2))) (hx:x.length<=131072) (H:Hid (fe e e2=E)) (w:World) (h:QAt g vs f fl o e w):
  Calls prog 135 #[(g,0),qP x] w λq w'=>q=.returned (n:Z)/\QAt g vs f fl o E w'/\Gr g w w':=by
 have HR:=qA h;have hp:=Nu.qAR ⟨x.toArray⟩ n e2 HX (VO x ζ) w;clear h;go_enter func135,ntmps135
 go_wp2_with (go_at_call 204;refine hp.mono ?_)
 rintro y1 w1 ⟨rfl,hww⟩;have b1:Bl w w1:=qCK hww;clear hww;have R1:=qA (HR.o.bl b1);have G1:=qA (jH (g:=g) b1);clear b1 hp;go_wp2_with (go_at_call 24;refine(qAO g vs f fl o e e2 E H w1 R1.o).mono ?_)
 rintro y2 w2 ⟨rfl,r2,g2⟩;go_wp2;go_ret;exact⟨rfl,r2,qJ G1.o g2⟩
theorem qBH (g:Nat) (vs:Nat->Value) (f:Jp) (fl:Int) (o:Bool) (e e2 E n:Int) (x:Ψ) (HX:Hid (jr x=(n,e2))) (hx:x.length<=131072) (H:Hid (fe e e2=E)) (w:World) (h:QAt g vs f fl o e w):
  Calls prog 146 #[(g,0),qP x] w λq w'=>q=.returned (n:Z)/\QAt g vs f fl o E w'/\Gr g w w':=by
 have HR:=qA h;have hp:=Nu.qA6 ⟨x.toArray⟩ n e2 (by have:=iF x;rw[HX.o]at this;exact this) (VO x ζ) w;clear h;go_enter func146,ntmps146
 go_wp2_with (go_at_call 208;refine hp.mono ?_)
 rintro y1 w1 ⟨rfl,b1⟩;have R1:=qA (HR.o.bl b1);have G1:=qA (jH (g:=g) b1);clear b1 hp;go_wp2_with (go_at_call 24;refine(qAO g vs f fl o e e2 E H w1 R1.o).mono ?_)
 rintro y2 w2 ⟨rfl,r2,g2⟩;go_wp2;go_ret;exact⟨rfl,r2,qJ G1.o g2⟩
theorem qAZ (g:Nat) (vs:Nat->Value) (f:Jp) (fl:Int) (o:Bool) (e e2 E n:Int) (x:Ψ) (HX:Hid (jw x=(n,e2))) (_hx:x.length<=131072) (H:Hid (fe e e2=E)) (w:World) (h:QAt g vs f fl o e w):
  Calls prog 143 #[(g,0),qP x] w λq w'=>q=.returned (n:Z)/\QAt g vs f fl o E w'/\Gr g w w':=by
 have HR:=qA h;have hp:=Ck.qAR ⟨x.toArray⟩ n e2 (by have:=Yh x;rw[HX.o]at this;exact this) w;clear h;go_enter func143,ntmps143
 go_wp2_with (go_at_call 206;refine hp.mono ?_)
 rintro y1 w1 ⟨rfl,b1⟩;have R1:=qA (HR.o.bl b1);have G1:=qA (jH (g:=g) b1);clear b1 hp;go_wp2_with (go_at_call 24;refine(qAO g vs f fl o e e2 E H w1 R1.o).mono ?_)
 rintro y2 w2 ⟨rfl,r2,g2⟩;go_wp2;go_ret;exact⟨rfl,r2,qJ G1.o g2⟩
theorem qBV (g:Nat) (vs:Nat->Value) (f:Jp) (fl:Int) (o:Bool) (e e2 E n:Int) (x:Ψ) (HX:Hid (wE x=(n,e2))) (hx:x.length<=131072) (H:Hid (fe e e2=E)) (w:World) (h:QAt g vs f fl o e w):
  Calls prog 144 #[(g,0),qP x] w λq w'=>q=.returned (n:Z)/\QAt g vs f fl o E w'/\Gr g w w':=by
 have HR:=qA h;have hp:=Ck.qC0 ⟨x.toArray⟩ n e2 (by show _=_;rw[<-HX.o];exact Ck.qCq _) (VO x hx) w;clear h;go_enter func144,ntmps144
 go_wp2_with (go_at_call 207;refine hp.mono ?_)
 rintro y1 w1 ⟨rfl,b1⟩;have R1:=qA (HR.o.bl b1);have G1:=qA (jH (g:=g) b1);clear b1 hp;go_wp2_with (go_at_call 24;refine(qAO g vs f fl o e e2 E H w1 R1.o).mono ?_)
 rintro y2 w2 ⟨rfl,r2,g2⟩;go_wp2;go_ret;exact⟨rfl,r2,qJ G1.o g2⟩
theorem qBG (g:Nat) (vs:Nat->Value) (f:Jp) (fl:Int) (o:Bool) (e e2 E n:Int) (x:Ψ) (HX:Hid (wB x=(n,e2))) (_hx:x.length<=131072) (H:Hid (fe e e2=E)) (w:World) (h:QAt g vs f fl o e w):
  Calls prog 139 #[(g,0),qP x] w λq w'=>q=.returned (n:Z)/\QAt g vs f fl o E w'/\Gr g w w':=by
 have HR:=qA h;have hp:=Da.qCY ⟨x.toArray⟩ n e2 (by have:=FD x;rw[HX.o]at this;exact this) w;clear h;go_enter func139,ntmps139
 go_wp2_with (go_at_call 205;refine hp.mono ?_)
 rintro y1 w1 ⟨rfl,b1⟩;have R1:=qA (HR.o.bl b1);have G1:=qA (jH (g:=g) b1);clear b1 hp;go_wp2_with (go_at_call 24;refine(qAO g vs f fl o e e2 E H w1 R1.o).mono ?_)
 rintro y2 w2 ⟨rfl,r2,g2⟩;go_wp2;go_ret;exact⟨rfl,r2,qJ G1.o g2⟩
def qAj (ws:List Ψ) (b:Nat) (w:World):Prop:=b<w.heap.size/\ ∀ (i:Nat) (x:Ψ),ws[i]? =some x->w.cell? (b,i)=some (qP x)
theorem qAj.new (ws:List Ψ) (w:World) (C:Array Value) (T:TypeId) (hC:C.toList=ws.map qP):qAj ws w.heap.size (w.alloc (.cells C T)):=⟨σ,λi x hx=>by
 rw[Uy (hn:=rfl),<-Array.getElem?_toList,hC,List.getElem?_map,hx];rfl⟩
theorem qAj.gr {ws:List Ψ} {b g:Nat} {w w':World} (h:qAj ws b w) (hg:Gr g w w') (hne:b≠g):qAj ws b w':=⟨Nat.lt_of_lt_of_le h.1 hg.size,λi x hx=>(hg.cell_far (b,i) h.1 (λe=>hne (qAB e))).trans (h.2 i x hx)⟩
theorem qAj.strs {ws:List Ψ} {b:Nat} {w:World} (h:qAj ws b w) (n:Nat) (hn:ws.length=n) (hm:n<=100):VW w.heap.size w ((b,0,n,n):Z) ws:=
 ⟨_,n,by rw[hn],ω,ζ,λ_=>⟨b,0,rfl,h.1,λi x hx j u hu=>by
  rcases j with _|j
  ·
   obtain rfl:qP x=u:=qAB hu;rw[show 0+i*1+0=i by omega];exact h.2 i x hx
  cases hu⟩⟩
theorem qAj.strs8 {b:Nat} {w:World} (h:qAj modeWords b w):VW w.heap.size w ((b,0,8,8):Z) modeWords:=h.strs 8 rfl ω
theorem qA4 (yes no x:Ψ) (hne:(yes==no)=false):Qu yes no x=((qAX [no,yes] x).1==1,(qAX [no,yes] x).2):=by
 have hn:yes≠no:=U0.1 hne;unfold Qu qAX;by_cases h1:x=no
 ·
  subst h1;have:qm x [x,yes]=some 0:=by unfold qm;rw[U6 rfl]
  rw[this,U6 (.inr rfl),U0.2 (Ne.symm hn)];rfl
 by_cases h2:x=yes
 ·
  subst h2;have:qm x [no,x]=some 1:=by unfold qm qm;rw[U5 (Ne.symm hn),U6 rfl];rfl
  rw[this,U6 (.inl rfl),beq_self_eq_true];rfl
 have:qm x [no,yes]=none:=by
  unfold qm qm qm;rw[U5 (λe=>h1 e.symm),U5 (λe=>h2 e.symm)];rfl
 rw[this,U5 (by rintro(e|e);exact h2 e;exact h1 e),U0.2 h2];rfl
theorem qA7 (g:Nat) (vs:Nat->Value) (f:Jp) (fl:Int) (o:Bool) (e e2 E:Int) (n:Bool) (x:Ψ) (HX:Hid (yI x=(n,e2))) (H:Hid (fe e e2=E)) (w:World) (h:QAt g vs f fl o e w):
  Calls prog 136 #[(g,0),qP x] w λq w'=>q=.returned (n:Z)/\QAt g vs f fl o E w'/\Gr g w w':=by
 obtain⟨i,hi⟩:=ε ((qAX [Rz,Rf] x).1);have h1:yI x=_:=qA4 Rf Rz x δ;rw[HX.o,hi]at h1;have HI:=qA (show qAX [Rz,Rf] x=(i,e2) by rw[<-hi,(qAE h1).2]);have HN:=qA (qAE h1).1;have HR:=qA h;clear h hi h1 HX;go_enter func136,ntmps136
 go_wp2_with (go_at_call 137;refine(qAl g vs f fl o e e2 E i x [Rz,Rf] _ HI H _ _ (HR.o.bl (qE (qB w) _)) ((qAj.new [Rz,Rf] w _ _ rfl).strs 2 rfl ω) (U3 _)).mono ?_)
 rintro y1 w1 ⟨rfl,r1,g1⟩;go_wp2;go_ret;exact⟨by rw[HN.o];rfl,r1,qJ (jH (qE (qB w) _)) g1⟩
theorem qCP (g:Nat) (vs:Nat->Value) (f:Jp) (fl:Int) (o:Bool) (e e2 E n:Int) (x:Ψ) (HX:Hid (QR x=(n,e2))) (_hx:x.length<=131072) (H:Hid (fe e e2=E)) (w:World) (h:QAt g vs f fl o e w):
  Calls prog 147 #[(g,0),qP x] w λq w'=>q=.returned (n:Z)/\QAt g vs f fl o E w'/\Gr g w w':=by
 have HR:=qA h;have hp:=qCH x n e2 HX w;clear h;go_enter func147,ntmps147
 go_wp2_with (go_at_call 209;refine hp.mono ?_)
 rintro y1 w1 ⟨rfl,b1⟩;have R1:=qA (HR.o.bl b1);have G1:=qA (jH (g:=g) b1);clear b1 hp;go_wp2_with (go_at_call 24;refine(qAO g vs f fl o e e2 E H w1 R1.o).mono ?_)
 rintro y2 w2 ⟨rfl,r2,g2⟩;go_wp2;go_ret;exact⟨rfl,r2,qJ G1.o g2⟩
theorem qCp (g:Nat) (vs:Nat->Value) (f:Jp) (fl:Int) (o:Bool) (e e2 E:Int) (n:Vw) (x:Ψ) (HX:Hid (JR x=(n,e2))) (H:Hid (fe e e2=E)) (w:World) (h:QAt g vs f fl o e w):
  Calls prog 138 #[.pointer (some ⟨g,0,none⟩),qP x] w λq w'=>q= .returned (.agg #[.bool n.d0, .bool n.d1, .bool n.d2, .bool n.d3, .bool n.d4, .bool n.d5, .bool n.d6])/\QAt g vs f fl o E w'/\Gr g w w':=by
 obtain⟨wz,hwz⟩:=ε ((w.alloc (.cells #[.bool false, .bool false, .bool false, .bool false, .bool false, .bool false, .bool false] 59)).alloc (.cells #[.bool false, .bool false, .bool false, .bool false, .bool false, .bool false, .bool false] 59));have bz:Bl w wz:=by rw[<-hwz];exact qE (qE (qB _) _) _
 have Z0:Hid (wz.heap[w.heap.size]? =some (.cells #[.bool false, .bool false, .bool false, .bool false, .bool false, .bool false, .bool false] 59 (0,0))):=by rw[<-hwz];exact qX (heap_alloc_new w _) (qE (qB _) _)
 have Z1:Hid (wz.heap[w.heap.size+1]? =some (.cells #[.bool false, .bool false, .bool false, .bool false, .bool false, .bool false, .bool false] 59 (0,0))):=by rw[<-hwz];have h:=heap_alloc_new (w.alloc (.cells #[.bool false, .bool false, .bool false, .bool false, .bool false, .bool false, .bool false] 59)) (.cells #[.bool false, .bool false, .bool false, .bool false, .bool false, .bool false, .bool false] 59);rw[show(w.alloc (.cells #[.bool false, .bool false, .bool false, .bool false, .bool false, .bool false, .bool false] 59)).heap.size=w.heap.size+1 by simp]at h;exact h
 have RZ:=qA (h.bl bz);have GZ:Hid (Gr g w wz):=jH bz;have sz:w.heap.size+2<=wz.heap.size:=by rw[<-hwz];simp
 have hgl:=lt_of_block h;clear h;by_cases h7:x.length=7
 ·
  have hxi:((x.length:Int) != 7)=false:=by rw[h7];rfl
  have hsz:(⟨x.toArray⟩:ByteArray).size=7:=by rw[<-h7];rfl
  go_enter func138,ntmps138
  go_wp2_with fail;go_loopw [6] (λi wr=> ∃ k:Nat,(k<=7/\i= .int .i64 k)/\Hid (QAt g vs f fl o (fe e (wkE x k)) wr)/\Hid (Gr g w wr)/\Hid (wr.heap[w.heap.size]? =some (.cells #[.bool false, .bool false, .bool false, .bool false, .bool false, .bool false, .bool false] 59 (0,0)))/\Hid (wr.heap[w.heap.size+1]? =some (.cells (wkV x k).toArray 59 (0,0)))) (λi _=>7-(intOf i).toNat)
  case atStart=>exact⟨0,⟨ω,rfl⟩,by have h1:fe e (wkE x 0)=e:=ji e;rw[h1];exact RZ,GZ,Z0,Z1⟩
  obtain⟨k,⟨hk,rfl⟩,HR,HG,D0,D1⟩:=hrel;by_cases hlt:k<7
  ·
   have hkI:(k:Int)<7:=ω
   have hks:k<(⟨x.toArray⟩:ByteArray).size:=ω
   obtain⟨b,hb⟩: ∃ b,x[k]? =some b:=⟨_,U2 ω⟩;have hbs:(⟨x.toArray⟩:ByteArray)[k]'hks=b:=by
    have:=(Uw.1 hb).2;rw[<-this];rfl
   have y0: ∀ w:World,(Instr.index 9 (qP x) (.int .i64 k)).run prog w= .ok (.int .u8 (b.toNat:Int)) w:=λw=>by rw[<-hbs];exact Nu.KI ⟨x.toArray⟩ k k rfl hks w
   obtain⟨v,hv⟩:=ε ((b==49));obtain⟨u,hu⟩:=ε ((b==48));have q49:((b.toNat:Int)==49)=v:=by rw[<-hv];exact(u8b b 49 ω).symm
   have q48:((b.toNat:Int)==48)=u:=by rw[<-hu];exact(u8b b 48 ω).symm
   have m49:((b.toNat:Int) != 49)= !v:=by rw[bne,q49]
   have m48:((b.toNat:Int) != 48)= !u:=by rw[bne,q48]
   have hV:=qBy hb hlt;have hE:=qBj hb e;rw[hv]at hV hE;rw[hu]at hE;have HV:=qA hV;have HE:=qA hE;clear hV hE hb hu hv hbs;cases hq:(u||v)with
   |true=>
    have hE2:=HE.o.trans (U6 hq);have HE2:=qA hE2;have c1:wr.cell? ⟨w.heap.size+1,k,none⟩=some (.bool false):=qC D1.o k _ (qBt h7 hlt);have f1:=U8 D1.o k;clear hE2 HE;cases u with
    |true=>
     go_wp2;go_roundw;case rel=>exact⟨k+1,⟨ω,by go_num⟩,by rw[HE2.o];exact(Below.heap_setCell wr ⟨w.heap.size+1,k,none⟩ _ g (by dsimp only;omega)).trans HR.o,zX HG.o ω k _,(Below.heap_setCell wr ⟨w.heap.size+1,k,none⟩ _ w.heap.size σ).trans D0.o,by rw[<-HV.o];exact qQ D1.o k _⟩
     simp[intOf];omega
    |false=>
     obtain rfl:v=true:=hq;go_wp2;go_roundw;case rel=>exact⟨k+1,⟨ω,by go_num⟩,by rw[HE2.o];exact(Below.heap_setCell wr ⟨w.heap.size+1,k,none⟩ _ g (by dsimp only;omega)).trans HR.o,zX HG.o ω k _,(Below.heap_setCell wr ⟨w.heap.size+1,k,none⟩ _ w.heap.size σ).trans D0.o,by rw[<-HV.o];exact qQ D1.o k _⟩
     simp[intOf];omega
   |false=>
    have hE2:=HE.o.trans (U5 (by rw[hq];decide));have HE2:=qA hE2;obtain⟨rfl,rfl⟩:=Bool.or_eq_false_iff.1 hq;clear hE2 HE;go_wp2_with (go_at_call 24;refine(qAO g vs f fl o (fe e (wkE x k)) 3 _ (qA rfl) wr HR.o).mono ?_;rintro y2 w2 ⟨rfl,r2,g2⟩;have D12:=qA ((qg g2 (lt_of_block D1.o) ω).trans D1.o);have c1:w2.cell? ⟨w.heap.size+1,k,none⟩=some (.bool false):=qC D12.o k _ (qBt h7 hlt);have f1:=U8 D12.o k)
    go_roundw;case rel=>exact⟨k+1,⟨ω,by go_num⟩,by rw[HE2.o];exact(Below.heap_setCell w2 ⟨w.heap.size+1,k,none⟩ _ g (by dsimp only;omega)).trans r2,zX (qJ HG.o g2) ω k _,(Below.heap_setCell w2 ⟨w.heap.size+1,k,none⟩ _ w.heap.size σ).trans ((qg g2 (lt_of_block D0.o) ω).trans D0.o),by rw[<-HV.o];exact qQ D12.o k _⟩
    simp[intOf];omega
  obtain rfl:k=7:=ω
  obtain⟨a,b,c,d,e',f',g',rfl⟩: ∃ a b c d e' f' g',x=[a,b,c,d,e',f',g']:=by
   match x,h7 with
   |[a,b,c,d,e',f',g'],_=>exact⟨a,b,c,d,e',f',g',rfl⟩
  obtain⟨z1,z2⟩:=qAE HX.o;have HE:=qA (show fe e (wkE [a,b,c,d,e',f',g'] 7)=E by rw[<-H.o,<-z2];rfl);subst z1;have D2:Hid (wr.heap[w.heap.size+1]? =some (.cells #[.bool (a==49), .bool (b==49), .bool (c==49), .bool (d==49), .bool (e'==49), .bool (f'==49), .bool (g'==49)] 59 (0,0))):=D1.o;have q0:=qC D2.o 0 _ rfl;have p0:=qC D0.o 0 _ rfl;have fr0:=U8 D0.o 0;have q1:=qC D2.o 1 _ rfl;have p1:=qC D0.o 1 _ rfl;have fr1:=U8 D0.o 1;have q2:=qC D2.o 2 _ rfl;have p2:=qC D0.o 2 _ rfl;have fr2:=U8 D0.o 2;have q3:=qC D2.o 3 _ rfl;have p3:=qC D0.o 3 _ rfl;have fr3:=U8 D0.o 3;have q4:=qC D2.o 4 _ rfl;have p4:=qC D0.o 4 _ rfl;have fr4:=U8 D0.o 4;have q5:=qC D2.o 5 _ rfl;have p5:=qC D0.o 5 _ rfl;have fr5:=U8 D0.o 5;have q6:=qC D2.o 6 _ rfl;have p6:=qC D0.o 6 _ rfl;have fr6:=U8 D0.o 6;clear D1;go_wp2;refine bodyPost_ret (results_cell_row rfl _ _ w.heap.size 59 #[.bool (a==49), .bool (b==49), .bool (c==49), .bool (d==49), .bool (e'==49), .bool (f'==49), .bool (g'==49)] (0,0) _ rfl (qQ (qQ (qQ (qQ (qQ (qQ (qQ D0.o 0 _) 1 _) 2 _) 3 _) 4 _) 5 _) 6 _) underlying59 rfl κ) rfl ?_;refine⟨rfl,by rw[<-HE.o];exact(Below.heap_setCell _ ⟨w.heap.size,6,none⟩ _ g (by dsimp only;omega)).trans ((Below.heap_setCell _ ⟨w.heap.size,5,none⟩ _ g (by dsimp only;omega)).trans ((Below.heap_setCell _ ⟨w.heap.size,4,none⟩ _ g (by dsimp only;omega)).trans ((Below.heap_setCell _ ⟨w.heap.size,3,none⟩ _ g (by dsimp only;omega)).trans ((Below.heap_setCell _ ⟨w.heap.size,2,none⟩ _ g (by dsimp only;omega)).trans ((Below.heap_setCell _ ⟨w.heap.size,1,none⟩ _ g (by dsimp only;omega)).trans ((Below.heap_setCell _ ⟨w.heap.size,0,none⟩ _ g (by dsimp only;omega)).trans (HR.o))))))),zX (zX (zX (zX (zX (zX (zX (HG.o) (U3 _) 0 _) (U3 _) 1 _) (U3 _) 2 _) (U3 _) 3 _) (U3 _) 4 _) (U3 _) 5 _) (U3 _) 6 _⟩
 have hxi:((x.length:Int) != 7)=true:=by rw[bne_iff_ne];omega
 have hw3:JR x=(⟨false,false,false,false,false,false,false⟩,3):=by
  unfold JR;split
  · exact absurd rfl h7
  rfl
 obtain⟨q1,q2⟩:=qAE (hw3.symm.trans HX.o);subst q1 q2;go_enter func138,ntmps138
 go_wp2_with (go_at_call 24;refine(qAO g vs f fl o e 3 E H wz RZ.o).mono ?_)
 rintro y2 w2 ⟨rfl,r2,g2⟩;have D0:=qA ((qg g2 ω ω).trans Z0.o);have D1:=qA ((qg g2 ω ω).trans Z1.o);have q0:=qC D1.o 0 _ rfl;have p0:=qC D0.o 0 _ rfl;have fr0:=U8 D0.o 0;have q1:=qC D1.o 1 _ rfl;have p1:=qC D0.o 1 _ rfl;have fr1:=U8 D0.o 1;have q2:=qC D1.o 2 _ rfl;have p2:=qC D0.o 2 _ rfl;have fr2:=U8 D0.o 2;have q3:=qC D1.o 3 _ rfl;have p3:=qC D0.o 3 _ rfl;have fr3:=U8 D0.o 3;have q4:=qC D1.o 4 _ rfl;have p4:=qC D0.o 4 _ rfl;have fr4:=U8 D0.o 4;have q5:=qC D1.o 5 _ rfl;have p5:=qC D0.o 5 _ rfl;have fr5:=U8 D0.o 5;have q6:=qC D1.o 6 _ rfl;have p6:=qC D0.o 6 _ rfl;have fr6:=U8 D0.o 6;go_wp2;refine bodyPost_ret (results_cell_row rfl _ _ w.heap.size 59 #[.bool false, .bool false, .bool false, .bool false, .bool false, .bool false, .bool false] (0,0) _ rfl (qQ (qQ (qQ (qQ (qQ (qQ (qQ D0.o 0 _) 1 _) 2 _) 3 _) 4 _) 5 _) 6 _) underlying59 rfl κ) rfl ?_;exact⟨rfl,(Below.heap_setCell _ ⟨w.heap.size,6,none⟩ _ g (by dsimp only;omega)).trans ((Below.heap_setCell _ ⟨w.heap.size,5,none⟩ _ g (by dsimp only;omega)).trans ((Below.heap_setCell _ ⟨w.heap.size,4,none⟩ _ g (by dsimp only;omega)).trans ((Below.heap_setCell _ ⟨w.heap.size,3,none⟩ _ g (by dsimp only;omega)).trans ((Below.heap_setCell _ ⟨w.heap.size,2,none⟩ _ g (by dsimp only;omega)).trans ((Below.heap_setCell _ ⟨w.heap.size,1,none⟩ _ g (by dsimp only;omega)).trans ((Below.heap_setCell _ ⟨w.heap.size,0,none⟩ _ g (by dsimp only;omega)).trans (r2))))))),zX (zX (zX (zX (zX (zX (zX (qJ GZ.o g2) (U3 _) 0 _) (U3 _) 1 _) (U3 _) 2 _) (U3 _) 3 _) (U3 _) 4 _) (U3 _) 5 _) (U3 _) 6 _⟩
structure qAN (B g:Nat) (e:Int) (vs:Nat->Value) (ts:List TripD) (own:Nat->Nat) (s:St) (o:Bool) (w:World):Prop where
 rat:QAt g vs s.t.fares s.rules o e w
 parts:qAK 0 B w vs ts (λ_=>0) own s (λ_=>[])
 lg:own g=99
 low:B<=g
def qAT (B g:Nat) (E:Int) (own:Nat->Nat) (s:St) (o:Bool) (w w':World):Prop:= ∃ (vs':Nat->Value) (ts':List TripD) (own':Nat->Nat),qAN B g E vs' ts' own' s o w'/\Mv own w own' w'
def qAw (k:Nat):Nat:=if k<10 then k else k+3
theorem qCN (vs:Nat->Value) (f:Jp) (fl:Int) (o:Bool) (e:Int) {k:Nat} (hk:k<20) (v:Value):(qZc vs f fl o e).setIfInBounds (qAw k) v=qZc (Nv vs k v) f fl o e:=by
 rcases k with _|_|_|_|_|_|_|_|_|_|_|_|_|_|_|_|_|_|_|_|k
 all_goals first
  |rfl
  |omega
theorem qCz (vs:Nat->Value) (f:Jp) (fl:Int) (o:Bool) (e:Int) {k:Nat} (hk:k<20):(qZc vs f fl o e)[qAw k]? =some (vs k):=by
 rcases k with _|_|_|_|_|_|_|_|_|_|_|_|_|_|_|_|_|_|_|_|k
 all_goals first
  |rfl
  |omega
section
variable {B g:Nat} {e:Int} {vs:Nat->Value} {ts:List TripD} {own:Nat->Nat} {s:St} {o:Bool} {w w':World}
theorem qAN.gr (h:qAN B g e vs ts own s o w) {e':Int} (hr:QAt g vs s.t.fares s.rules o e' w') (hg:Gr g w w'):qAN B g e' vs ts own s o w':=
 ⟨hr,h.parts.kept hg (λb hb=>by simp only[qAA]at hb;rw[<-hb,h.lg];omega),h.lg,h.low⟩
theorem qAN.bl (h:qAN B g e vs ts own s o w) (hb:Bl w w'):qAN B g e vs ts own s o w':=⟨h.rat.bl hb,h.parts.bl hb,h.lg,h.low⟩
theorem qAN.glt (h:qAN B g e vs ts own s o w):g<w.heap.size:=lt_of_block h.rat
theorem qAN.base (h:qAN B g e vs ts own s o w):B<=w.heap.size:=Ux h.low (Nat.le_of_lt h.glt)
theorem qAN.far (h:qAN B g e vs ts own s o w) {k:Nat} (hk:k<20) {b:Nat} (hb:own b=97∨own b=98∨own b=99):(vs k).ownBlock≠some b:=λe=>by
 have:=h.parts.lab k hk b e;omega
theorem qAN.form (h:qAN B g e vs ts own s o w) {k:Nat} (hk:k<20): ∃ a c,vs k=.slice a (jf s ts k).n c:=by
 rcases(h.parts.row k hk).2 with⟨h1,h0⟩|⟨gg,cap,cur,h1,_⟩
 · exact⟨_,_,by rw[h1,h0]⟩
 exact⟨_,_,h1⟩
theorem qAN.row (h:qAN B g e vs ts own s o w) {k:Nat} (hk:k<20):w.cell? (g,qAw k)=some (vs k):=qC h.rat (qAw k) _ (qCz vs _ _ o e hk)
theorem qAN.set (h:qAN B g e vs ts own s o w) {s':St} {o':Bool} {c:Nat} {v:Value} (hC:(qZc vs s.t.fares s.rules o e).setIfInBounds c v=qZc vs s'.t.fares s'.rules o' e) (h1:s'.t.trips=s.t.trips) (h2:s'.lines=s.lines) (h3: ∀ k,k<20->jf s' ts k=jf s ts k):
  qAN B g e vs ts own s' o' (w.setCell (g,c) v)/\Gr g w (w.setCell (g,c) v):=
 ⟨⟨by have:=qQ h.rat c v;rw[hC]at this;exact this,(h.parts.kept (zH g w c v) (λb hb=>by simp only[qAA]at hb;rw[<-hb,h.lg];omega)).st h1 h2 h3,h.lg,h.low⟩,zH g w c v⟩
theorem qAN.push (h:qAN B g e vs ts own s o w) {k gg cap:Nat} {s':St} {v':Value} (hk:k<20) (hg:w.grownBy w' (vs k).ownBlock) (hv:v'=.slice (some (gg,0)) (jf s' ts k).n cap) (ho:vO B (jf s' ts k) v' w') (hgg:(vs k).ownBlock=some gg∨gg=w.heap.size)
  (hsame:s'.t.trips=s.t.trips) (hlines:s'.lines.length=10) (hslot: ∀ i,i<20->i≠k->jf s' ts i=jf s ts i) (hf:s'.t.fares.disc=s.t.fares.disc/\s'.t.fares.within=s.t.fares.within/\s'.t.fares.cap=s.t.fares.cap) (hr:s'.rules=s.rules):
  qAT B g e own s' o w (w'.setCell (g,qAw k) v'):=by
 have hlab: ∀ b,b<w.heap.size->wO own gg k b=own b:=λb hb=>vw hgg (h.parts.lab k hk) hb
 have p1:=h.parts.push hk hg hv ho hgg hsame hlines hslot;have r1:QAt g vs s.t.fares s.rules o e w':=(hg.block g h.glt (λe=>h.far hk (.inr (.inr h.lg)) e.symm)).trans h.rat;have lg':wO own gg k g=99:=(hlab g h.glt).trans h.lg;have gs:=zH g w' (qAw k) v';refine⟨_,_,_,⟨?_,p1.kept gs (λb hb=>by simp only[qAA]at hb;rw[<-hb,lg'];omega),lg',h.low⟩, ?_⟩
 ·
  have e1:=qQ r1 (qAw k) v';rw[qCN vs _ _ o e hk v']at e1;unfold QAt;rw[e1];unfold qZc;rw[hf.1,hf.2.1,hf.2.2,hr]
 have m1:Mv own w (wO own gg k) w':=by
  refine⟨hg.os,hg.tape,hg.output,hg.size,hlab,λb hb hl=>hg.block b hb (λe2=>?_)⟩;have:=h.parts.lab k hk b e2.symm;omega
 exact m1.trans (QK gs lg')
theorem qAN.lined (h:qAN B g e vs ts own s o w) {k gg cap:Nat} {n:Int} {s':St} (hk:k<10) (hg:w.grownBy w' (vs (k+10)).ownBlock)
  (ho:w'.ownsRow B 3 1 (.slice (some ⟨gg,0,none⟩) ((qN s k).length+1) cap) ((qN s k).length+1) ((qN s k).flatMap qi++[.int .i64 n])) (hgg:(vs (k+10)).ownBlock=some gg∨gg=w.heap.size) (ht:s'.t=s.t) (hl:s'.lines=jm s k n) (hr:s'.rules=s.rules):
  qAT B g e own s' o w (w'.setCell ⟨g,k+13,none⟩ (.slice (some ⟨gg,0,none⟩) ((qN s k).length+1) cap)):=by
 have hk':k<s.lines.length:=by rw[h.parts.lines];exact hk
 have e1:=Lj hl hk';have hp:qAw (k+10)=k+13:=by unfold qAw;rw[U5 ω]
 have:=h.push (k:=k+10) (gg:=gg) (cap:=cap) (s':=s') (v':= .slice (some ⟨gg,0,none⟩) ((qN s k).length+1) cap) ω hg
  (by rw[YK s' ts k hk];show Value.slice _ _ _=Value.slice _ (qN s' k).length _;rw[e1,U1];rfl)
  (by rw[YK s' ts k hk];refine Gx ho rfl rfl ?_ ?_;(show(qN s' k).length=_;rw[e1,U1];rfl);(show(qN s' k).flatMap qi=_;rw[e1,List.flatMap_append];rfl))
  hgg (by rw[ht]) (by rw[hl];unfold jm;rw[List.length_modify];exact h.parts.lines)
  (λi hi hne=>by
   rcases Nat.lt_or_ge i 10 with h10|h10
   · exact O6 ts ht h10
   obtain⟨j,rfl⟩: ∃ j,i=j+10:=⟨i-10,ω⟩;rw[YK s' ts j ω,YK s ts j ω,Ll hl ω])
  (by rw[ht];exact⟨rfl,rfl,rfl⟩) hr
 rw[hp]at this;exact this
theorem qAN.trip (h:qAN B g e vs ts own s o w) {f1:Ψ} {n2 n3:Int} {n4:Bool} {gg cap:Nat} (hg:w.grownBy w' (vs 4).ownBlock)
  (ho:w'.ownsRow B 56 5 ((gg,0,ts.length+1,cap):Z) (ts.length+1) (ts.flatMap tripCells++tripCells (PV f1 n2 n3 n4))) (hgg:(vs 4).ownBlock=some gg∨gg=w.heap.size):
  qAT B g e own (Ri s ⟨f1,n2,n3,n4,[]⟩) o w (w'.setCell (g,4) ((gg,0,ts.length+1,cap):Z)):=by
 have hlab: ∀ b,b<w.heap.size->wO own gg 4 b=own b:=λb hb=>vw hgg (h.parts.lab 4 ω) hb
 have p1:=h.parts.trip (x:=PV f1 n2 n3 n4) (s':=Ri s ⟨f1,n2,n3,n4,[]⟩) rfl rfl hg rfl ho hgg (by show s.t.trips++_=_;rw[h.parts.same,List.map_append];rfl) h.parts.lines (EF s _ ts _);have r1:QAt g vs s.t.fares s.rules o e w':=(hg.block g h.glt (λe=>h.far (k:=4) ω (.inr (.inr h.lg)) e.symm)).trans h.rat;have lg':wO own gg 4 g=99:=(hlab g h.glt).trans h.lg;have gs:=zH g w' 4 ((gg,0,ts.length+1,cap):Z);refine⟨_,_,_,⟨?_,p1.kept gs (λb hb=>by simp only[qAA]at hb;rw[<-hb,lg'];omega),lg',h.low⟩, ?_⟩
 ·
  have:=qQ r1 (qAw 4) ((gg,0,ts.length+1,cap):Z);rw[qCN vs _ _ o e ω _]at this;exact this
 have m1:Mv own w (wO own gg 4) w':=by
  refine⟨hg.os,hg.tape,hg.output,hg.size,hlab,λb hb hl=>hg.block b hb (λe2=>?_)⟩;have:=h.parts.lab 4 ω b e2.symm;omega
 exact m1.trans (QK gs lg')
theorem qAN.call {pre:List TripD} {x:TripD} {w1:World} (h:qAN B g e vs (pre++[x]) own s o w) {c:CallD} {v':Value} {gg cap gb cap4:Nat} {s':St} (hv4:vs 4=((gb,0,pre.length+1,cap4):Z)) (hg:w.grownBy w1 x.v.ownBlock) (ho:lI B v' (x.calls++[c]) w1)
  (hv:v'=((gg,0,x.calls.length+1,cap):Z)) (hgg:x.v.ownBlock=some gg∨gg=w.heap.size) (hc:Ik c) (hs:s'.t={ s.t with trips:=kH s.t.trips c }) (hl:s'.lines=s.lines) (hr:s'.rules=s.rules):
  qAT B g e own s' o w (w1.setCell (gb,pre.length*5+4) v'):=by
 have hx0:(pre++[x])[pre.length]? =some x:=σ
 have hlx: ∀ b,x.v.ownBlock=some b->own b=100+pre.length:=h.parts.labc _ x hx0;have hl4:own gb=4:=h.parts.lab 4 ω gb (by rw[hv4];rfl);have hgb:gb<w.heap.size:=(qAG (h.parts.row 4 ω) gb (by rw[hv4];rfl)).2;have hlab: ∀ b,b<w.heap.size->wO own gg (100+pre.length) b=own b:=λb hb=>vw hgg hlx hb
 have p:=h.parts.call (s':=s') (by rw[hv4,U1];rfl) hg ho hv hgg hc (by rw[hs];show kH s.t.trips c=_;rw[h.parts.same];exact EW) hl (λi hi hne=>by
  rcases i with _|_|_|_|_|_|_|_|_|_|_|_|_|_|_|_|_|_|_|_|i
  all_goals first
   |exact absurd rfl hne
   |(unfold jf qN;rw[hs,hl];rfl)
   |(unfold jf qN;rw[hl])
   |(unfold jf;rw[hs])
   |omega)
 have far: ∀ b,own b=97∨own b=98∨own b=99->x.v.ownBlock≠some b:=λb hb e=>by have:=hlx b e;omega
 have ne4: ∀ b,own b=97∨own b=98∨own b=99->gb≠b:=λb hb e=>by rw[e]at hl4;omega
 have r1:QAt g vs s.t.fares s.rules o e w1:=(hg.block g h.glt (λe=>far g (.inr (.inr h.lg)) e.symm)).trans h.rat;refine⟨_,_,_,⟨?_,p,(hlab g h.glt).trans h.lg,h.low⟩,hg.os,hg.tape,hg.output,by simpa using hg.size,hlab,λb hb hk=>?_⟩
 ·
  rw[hs,hr];exact(Below.heap_setCell _ _ _ g (Ne.symm (ne4 g (.inr (.inr h.lg))))).trans r1
 exact(Below.heap_setCell _ _ _ b (Ne.symm (ne4 b ω))).trans (hg.block b hb (λe2=>far b ω e2.symm))
end
