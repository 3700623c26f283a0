/- Contracts, proved. Conditions: theirs. -/
import Derived.Test.YtakedkcjplfgeaaGreatDoorMPkFldB
import Derived.Test.YtakedkcjplfgeaaGreatDoorMPkBaseB
set_option maxRecDepth 1000000
set_option maxHeartbeats 32000000
open Go.Proofs.Tryz
namespace Go.Proofs.YtakedkcjplfgeaaGreatDoor.Ms
open Go.RowKit
open Frq Tt
theorem Qy (b:UInt8):(wW b=true/\((97<=(b.toNat:Int)/\(b.toNat:Int)<=122)∨(65<=(b.toNat:Int)/\(b.toNat:Int)<=90)∨(48<=(b.toNat:Int)/\(b.toNat:Int)<=57)∨(b.toNat:Int)=45∨(b.toNat:Int)=95∨(b.toNat:Int)=46))∨
  (wW b=false/\((b.toNat:Int)<45∨(b.toNat:Int)=47∨(57<(b.toNat:Int)/\(b.toNat:Int)<65)∨(90<(b.toNat:Int)/\(b.toNat:Int)<95)∨(b.toNat:Int)=96∨122<(b.toNat:Int))):=by
 unfold wW;by_cases h1:97<=(b.toNat:Int)/\(b.toNat:Int)<=122
 · left;refine⟨?_,.inl h1⟩;rw[decide_eq_true ω,decide_eq_true ω];rfl
 by_cases h2:65<=(b.toNat:Int)/\(b.toNat:Int)<=90
 · left;refine⟨?_,.inr (.inl h2)⟩;simp;omega
 by_cases h3:48<=(b.toNat:Int)/\(b.toNat:Int)<=57
 · left;refine⟨?_,.inr (.inr (.inl h3))⟩;simp;omega
 by_cases h4:(b.toNat:Int)=45
 · left;refine⟨?_,.inr (.inr (.inr (.inl h4)))⟩;simp;omega
 by_cases h5:(b.toNat:Int)=95
 · left;refine⟨?_,.inr (.inr (.inr (.inr (.inl h5))))⟩;simp;omega
 by_cases h6:(b.toNat:Int)=46
 · left;refine⟨?_,.inr (.inr (.inr (.inr (.inr h6))))⟩;simp;omega
 right
 refine⟨?_,ω⟩;rw[Bool.eq_false_iff];simp
 omega
theorem Yp {s:Φ} (h: ∀ k (h:k<s.size),wW (s[k]'h)=true):s.data.toList.all wW=true:=by
 rw[List.all_eq_true];intro b hb;obtain⟨k,hk⟩:=List.getElem?_of_mem hb;have hlt:k<s.size:=by have:=(Uw.1 hk).1;rw[yB]at this;exact this
 rw[bytes_get? s k hlt]at hk;rw[<-qAB hk];exact h k hlt
theorem WW {s:Φ} {k:Nat} (hk:k<s.size) (h:wW (s[k]'hk)=false):s.data.toList.all wW=false:=by
 rw[Bool.eq_false_iff];intro hc;have:=List.all_eq_true.1 hc _ (Uz (bytes_get? s k hk));rw[h]at this;cases this
theorem Y6 (s:Φ) (hs:s.size<=maxLen) (b:Bool) (H:Hid (jU s.data.toList=b)) (w:World):
  Calls prog 119 #[s] w λe w'=>e=.returned (b:Z)/\w=w':=by
 unfold maxLen at hs;have hn:=yB s;go_enter func119,ntmps119
 go_wp2;go_loop [3] (λi=> ∃ k:Nat,k<=s.size/\i=k/\Hid (∀ j (h:j<s.size),j<k->wW (s[j]'h)=true)) (λi=>s.size-(intOf i).toNat)
 case atStart=>exact⟨0,qAD _,rfl,λj h hj=>absurd hj ω⟩
 obtain⟨k,hk,rfl,HK⟩:=hrel;by_cases hlt:k<s.size
 ·
  rcases Qy (s[k]'hlt)with⟨h1,hc⟩|⟨h1,hc⟩
  ·
   have HN:=qA (show ∀ j (h:j<s.size),j<k+1->wW (s[j]'h)=true from λj h hj=>by
    by_cases e:j=k
    · subst e;exact h1
    exact HK.o j h ω)
   clear h1;rcases hc with h|h|h|h|h|h
   all_goals
    go_wp2;go_round;case rel=>exact⟨k+1,ω,by go_num,HN⟩
    simp[intOf];omega
  have HF:=qA (show b=false by rw[<-H.o];unfold jU;rw[WW hlt h1];rfl);clear h1;rcases hc with h|h|h|h|h|h
  all_goals
   go_wp2;go_ret;exact⟨qO HF.o.symm,rfl⟩
 have HF:=qA (show b=(decide (1<=s.size)&&decide (s.size<=32)) by
  rw[<-H.o];unfold jU;rw[Yp (λj h=>HK.o j h ω),hn];rfl)
 go_wp2;all_goals
  go_ret;refine⟨qO ?_,rfl⟩;rw[HF.o];rw[Bool.eq_iff_iff];simp
  omega
def jh (cs:List CallD) (i:Nat):Option CallD:=if i=0 then none else cs[i-1]?
theorem KU {cs:List CallD} {i:Nat} {p:CallD} (h:cs[i]? =some p):jh cs (i+1)=some p:=by
 unfold jh;rw[U5 ω];exact h
theorem Ap {stops lo hi:Int} {p:Option CallD} {c:CallD} (h:c.stop<0∨stops<=c.stop):jT stops lo hi p c=9:=by unfold jT;rw[U6 h]
theorem mG {stops lo hi:Int} {p c:CallD} (h: ¬ (c.stop<0∨stops<=c.stop)) (h2:p.stop=c.stop):jT stops lo hi (some p) c=13:=by
 unfold jT;rw[U5 h]
 exact U6 (congrArg some h2)
theorem BU {c:CallD}: ¬ ((none:Option CallD).map (·.stop))=some c.stop:=λh=>by cases h
theorem ed {p c:CallD} (h2: ¬ p.stop=c.stop): ¬ ((some p:Option CallD).map (·.stop))=some c.stop:=λh=>h2 (qAB h)
theorem XQ (p c:CallD):Tt.FT (some p) c=true↔c.arrive<p.depart:=by unfold Tt.FT;exact decide_eq_true_iff
theorem Ku {stops lo hi:Int} {c:CallD} (h: ¬ (c.stop<0∨stops<=c.stop)) (h3:c.arrive<lo∨c.depart<c.arrive∨hi<c.depart):jT stops lo hi none c=10:=by
 unfold jT;rw[U5 h,U5 BU]
 exact U6 (by rcases h3 with h|h|h<;>simp[h])
theorem Ak {stops lo hi:Int} {c:CallD} (h: ¬ (c.stop<0∨stops<=c.stop)) (h3: ¬ (c.arrive<lo∨c.depart<c.arrive∨hi<c.depart)):jT stops lo hi none c=0:=by
 unfold jT;rw[U5 h,U5 BU]
 refine U5 λhc=>h3 ?_
 rcases hc with h|h|h|h
 · exact .inl h
 · exact .inr (.inl h)
 · exact .inr (.inr h)
 cases h
theorem JD {stops lo hi:Int} {p c:CallD} (h: ¬ (c.stop<0∨stops<=c.stop)) (h2: ¬ p.stop=c.stop) (h3:c.arrive<lo∨c.depart<c.arrive∨hi<c.depart∨c.arrive<p.depart):jT stops lo hi (some p) c=10:=by
 unfold jT;rw[U5 h,U5 (ed h2)]
 exact U6 (by rw[XQ];exact h3)
theorem Am {stops lo hi:Int} {p c:CallD} (h: ¬ (c.stop<0∨stops<=c.stop)) (h2: ¬ p.stop=c.stop) (h3: ¬ (c.arrive<lo∨c.depart<c.arrive∨hi<c.depart∨c.arrive<p.depart)):jT stops lo hi (some p) c=0:=by
 unfold jT;rw[U5 h,U5 (ed h2)]
 exact U5 (by rw[XQ];exact h3)
theorem Gt (v:Value) (cs:List CallD) (i:Nat) (hi:i<cs.length) (stops lo hi' e:Int) (H:Hid (jT stops lo hi' (jh cs i) (cs[i]'hi)=e)) (B:Nat) (w:World) (hv:CallsIn B w v cs) (hB:B<=w.heap.size):
  Calls prog 193 #[v,i,stops,lo,hi'] w λr w'=>r=.returned (e:Z)/\Bl w w':=by
 obtain⟨b,o,cap,rfl,l1,l2,l3,hc⟩:=jA.open hv ω;obtain⟨x,hx'⟩:=ε (cs[i]'hi);have hx:cs[i]? =some x:=by rw[U2 hi,hx']
 rw[hx']at H;have hc0:=hc i x hx;have hbw:b<w.heap.size:=ω
 have g0:w.cell? (b,o+i*5)=some (x.stop:Z):=hc0 0 _ rfl;have g1:=hc0 1 _ rfl;have g2:=hc0 2 _ rfl;have g3:=hc0 3 _ rfl;have g4:=hc0 4 _ rfl;clear hc0;have iI:(i:Int)<(cs.length:Int):=ω
 by_cases h1:x.stop<0∨stops<=x.stop
 ·
  have HF:=qA ((Ap (lo:=lo) (hi:=hi') (p:=jh cs i) h1).symm.trans H.o);have f0:=HF.o;clear H HF hv hc hx hx';subst f0;rcases h1 with h|h
  all_goals
   go_enter func193,ntmps193
   go_wp2;all_goals
    go_ret;exact⟨rfl,qE (qB _) _⟩
 have s1: ¬ x.stop<0:=λh=>h1 (.inl h)
 have s2: ¬ stops<=x.stop:=λh=>h1 (.inr h)
 by_cases hz:0<i
 ·
  obtain⟨j,hj⟩: ∃ j,i=j+1:=⟨i-1,ω⟩;have hjl:j<cs.length:=ω
  obtain⟨p,hp⟩: ∃ p,cs[j]? =some p:=⟨_,U2 hjl⟩;have hc1:=hc j p hp;have k0:w.cell? ⟨b,o+j*5,none⟩=some (.int .i64 p.stop):=hc1 0 _ rfl;have k1:=hc1 1 _ rfl;have k2:=hc1 2 _ rfl;have k3:=hc1 3 _ rfl;have k4:=hc1 4 _ rfl;have jI:((i:Int)-1)=(j:Int):=ω
  have jL:(j:Int)<(cs.length:Int):=ω
  have jW:IntKind.i64.wrap (j:Int)=(j:Int):=IntWalk.i64_in _ ω;rw[show jh cs i=some p by rw[hj];exact KU hp]at H;clear hc hc1 hp hx hx' hv hj;by_cases h2:p.stop=x.stop
  ·
   have HF:=qA ((mG (lo:=lo) (hi:=hi') h1 h2).symm.trans H.o);have f0:=HF.o;clear H HF;subst f0;have h2':(p.stop==x.stop)=true:=by rw[beq_iff_eq];exact h2
   go_enter func193,ntmps193
   go_wp2_with fail;go_quiet (fail)
   go_wp2;go_ret;exact⟨rfl,(by first|exact qM (qM (qE (qB _) _) _) _|exact qM (qE (qB _) _) _|exact qE (qB _) _)⟩
  have h2':(p.stop==x.stop)=false:=by rw[U0];exact h2
  go_enter func193,ntmps193
  go_wp2_with fail;go_quiet (fail)
  go_wp2_with fail;generalize hw1:(w.alloc (Obj.cells #[x.stop,x.arrive,x.depart,x.board,x.alight] 58)).drewN nq=w1
  have B1:Bl w w1:=by rw[<-hw1];exact qM (qE (qB _) _) _
  have z0:w1.cell? (w.heap.size,0)=some (x.stop:Z):=by rw[<-hw1];simp
  have z1:w1.cell? (w.heap.size,1)=some (x.arrive:Z):=by rw[<-hw1];simp
  have z2:w1.cell? (w.heap.size,2)=some (x.depart:Z):=by rw[<-hw1];simp
  have y2:w1.cell? ⟨b,o+j*5+2,none⟩=some (.int .i64 p.depart):=by rw[(qG B1).1 _ _ hbw];exact k2
  clear hw1 k0 k1 k2 k3 k4 g0 g1 g2 g3 g4;by_cases t1:x.arrive<lo
  ·
   have HF:=qA ((JD h1 h2 (.inl t1)).symm.trans H.o);go_quiet (fail)
   go_wp2;go_ret;exact⟨qR HF.o,qM B1 _⟩
  by_cases t2:x.depart<x.arrive
  ·
   have HF:=qA ((JD h1 h2 (.inr (.inl t2))).symm.trans H.o);go_quiet (fail)
   go_wp2;go_ret;exact⟨qR HF.o,qM B1 _⟩
  by_cases t3:hi'<x.depart
  ·
   have HF:=qA ((JD h1 h2 (.inr (.inr (.inl t3)))).symm.trans H.o);go_quiet (fail)
   go_wp2;go_ret;exact⟨qR HF.o,qM B1 _⟩
  by_cases t4:x.arrive<p.depart
  ·
   have HF:=qA ((JD h1 h2 (.inr (.inr (.inr t4)))).symm.trans H.o);go_quiet (fail)
   go_wp2;go_ret;exact⟨qR HF.o,qM B1 _⟩
  have HF:=qA ((Am (lo:=lo) (hi:=hi') h1 h2 ω).symm.trans H.o);go_quiet (fail)
  go_wp2;go_ret;exact⟨qR HF.o,qM B1 _⟩
 rw[show jh cs i=none by unfold jh;rw[U6 ω]]at H;clear hc hx hx' hv;go_enter func193,ntmps193
 go_wp2_with fail;go_quiet (fail)
 go_wp2_with fail;generalize hw1:(w.alloc (Obj.cells #[x.stop,x.arrive,x.depart,x.board,x.alight] 58)).drewN nq=w1
 have B1:Bl w w1:=by rw[<-hw1];exact qM (qE (qB _) _) _
 have z0:w1.cell? (w.heap.size,0)=some (x.stop:Z):=by rw[<-hw1];simp
 have z1:w1.cell? (w.heap.size,1)=some (x.arrive:Z):=by rw[<-hw1];simp
 have z2:w1.cell? (w.heap.size,2)=some (x.depart:Z):=by rw[<-hw1];simp
 clear hw1 g0 g1 g2 g3 g4;by_cases t1:x.arrive<lo
 ·
  have HF:=qA ((Ku h1 (.inl t1)).symm.trans H.o);go_quiet (fail)
  go_wp2;go_ret;exact⟨qR HF.o,qM B1 _⟩
 by_cases t2:x.depart<x.arrive
 ·
  have HF:=qA ((Ku h1 (.inr (.inl t2))).symm.trans H.o);go_quiet (fail)
  go_wp2;go_ret;exact⟨qR HF.o,qM B1 _⟩
 by_cases t3:hi'<x.depart
 ·
  have HF:=qA ((Ku h1 (.inr (.inr t3))).symm.trans H.o);go_quiet (fail)
  go_wp2;go_ret;exact⟨qR HF.o,qM B1 _⟩
 have HF:=qA ((Ak (lo:=lo) (hi:=hi') h1 ω).symm.trans H.o);go_quiet (fail)
 go_wp2;go_ret;exact⟨qR HF.o,qM B1 _⟩
theorem XK {stops lo hi:Int} {cs:List CallD} {k:Nat} {x:CallD} (hx:cs[k]? =some x) (h:jT stops lo hi (jh cs k) x=0):
  QB stops lo hi (jh cs k) (cs.drop k)=QB stops lo hi (jh cs (k+1)) (cs.drop (k+1)):=by
 obtain⟨hk,rfl⟩:=Uw.1 hx;rw[List.drop_eq_getElem_cons hk,KU hx];show(if jT stops lo hi (jh cs k) cs[k]=0 then QB stops lo hi (some cs[k]) (cs.drop (k+1))else _)=_
 rw[U6 h]
theorem XL {stops lo hi:Int} {cs:List CallD} {k:Nat} {x:CallD} (hx:cs[k]? =some x) (h: ¬ jT stops lo hi (jh cs k) x=0):
  QB stops lo hi (jh cs k) (cs.drop k)=jT stops lo hi (jh cs k) x:=by
 obtain⟨hk,rfl⟩:=Uw.1 hx;rw[List.drop_eq_getElem_cons hk];show(if jT stops lo hi (jh cs k) cs[k]=0 then _ else jT stops lo hi (jh cs k) cs[k])=_
 rw[U5 h]
theorem WX (v:Value) (cs:List CallD) (stops lo hi e:Int) (H:Hid (yU stops lo hi cs=e)) (B:Nat) (w:World) (hv:CallsIn B w v cs) (hB:B<=w.heap.size):
  Calls prog 122 #[v,stops,lo,hi] w λr w'=>(∃ i:Int,r=.returned (.tuple #[i,e]))/\Bl w w':=by
 by_cases hbad:cs.length<2∨32<cs.length
 ·
  have HF:=qA (show(5:Int)=e by rw[<-H.o];unfold yU;rw[U6 hbad]);have f0:=HF.o;clear H HF;subst f0;rcases Nat.eq_zero_or_pos cs.length with h0|h0
  ·
   obtain⟨a1,c1,rfl,m1,rfl⟩:=hv.empty h0;go_enter func122,ntmps122
   go_wp2;go_ret2;exact⟨⟨0,rfl⟩,qB _⟩
  obtain⟨b,o,cap,rfl,l1,l2,l3,hc⟩:=hv.open h0;clear hc hv;rcases hbad with h|h
  all_goals
   go_enter func122,ntmps122
   go_wp2;go_ret2;exact⟨⟨0,rfl⟩,qB _⟩
 have HV:=qA hv;obtain⟨b,o,cap,rfl,l1,l2,l3,hc⟩:=hv.open ω;have n1:2<=cs.length:=ω
 have n2:cs.length<=32:=ω
 have HS:=qA (show QB stops lo hi (jh cs 0) (cs.drop 0)=e by rw[<-H.o];unfold yU;rw[U5 hbad];rfl);clear hc hv H hbad;go_enter func122,ntmps122
 go_wp2;go_loopw [22] (λi wr=> ∃ k:Nat,k<=cs.length/\i=k/\Hid (QB stops lo hi (jh cs k) (cs.drop k)=e)/\Bl w wr) (λi _=>cs.length-(intOf i).toNat)
 case atStart=>exact⟨0,qAD _,rfl,HS,qB _⟩
 obtain⟨k,hk,rfl,HK,hb⟩:=hrel;by_cases hlt:k<cs.length
 ·
  have hx:cs[k]? =some (cs[k]'hlt):=U2 hlt;obtain⟨ce,hce⟩:=ε (jT stops lo hi (jh cs k) (cs[k]'hlt));have HC:=qA hce;have hkI:(k:Int)<(cs.length:Int):=ω
  have hone:=Gt _ cs k hlt stops lo hi ce HC B wr (HV.o.below (hb.mono hB)) (Ux hB hb.size);by_cases h0:ce=0
  ·
   have HN:=qA (show QB stops lo hi (jh cs (k+1)) (cs.drop (k+1))=e by rw[<-XK hx (by rw[hce,h0])];exact HK.o);subst h0;clear hce hx;go_wp2_with (go_at_call 193;refine hone.mono ?_)
   rintro r w1 ⟨rfl,b1⟩;have B1:=qF hb b1;go_wp2;go_roundw;case rel=>exact⟨k+1,ω,by go_num,HN,B1⟩
   simp[intOf];omega
  have HF:=qA (show ce=e by rw[<-hce,<-XL hx (by rw[hce];exact h0)];exact HK.o);have g0:(ce != 0)=true:=by rw[bne_iff_ne];exact h0
  clear hce hx;go_wp2_with (go_at_call 193;refine hone.mono ?_)
  rintro r w1 ⟨rfl,b1⟩;have B1:=qF hb b1;go_wp2;go_ret2;exact⟨⟨k,by rw[<-HF.o];rfl⟩,B1⟩
 have HF:=qA (show(0:Int)=e by rw[<-HK.o,List.drop_eq_nil_of_le ω];rfl);have f0:=HF.o;clear HF HK;subst f0;go_wp2;go_ret2;exact⟨⟨0,rfl⟩,hb⟩
