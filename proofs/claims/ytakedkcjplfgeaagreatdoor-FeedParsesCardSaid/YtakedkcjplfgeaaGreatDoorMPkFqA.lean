/- Contracts, proved. Conditions: theirs. -/
import Derived.Test.YtakedkcjplfgeaaGreatDoorMPkBaseB
set_option maxRecDepth 1000000
set_option maxHeartbeats 32000000
open Go.Proofs.Tryz
namespace Go.Proofs.YtakedkcjplfgeaaGreatDoor.Fq
open Go.RowKit
open Frq
theorem iO (f:FreqD) (b:Bool) (H:Hid (QH f=b)) (w:World):Calls prog 123 #[.agg #[f.trip,f.frm,f.to,f.every]] w λe w'=>e=.returned (b:Z)/\Bl w w':=by
 rcases Zr f with⟨h,k⟩|⟨h,k⟩
 ·
  obtain rfl:b=true:=H.o.symm.trans k;obtain⟨h1,h2,h3,h4,h5⟩:=h;clear k H;go_enter func123,ntmps123
  go_wp2;go_ret;exact⟨by first|rfl|(simp;omega),qE (qB _) _⟩
 obtain rfl:b=false:=H.o.symm.trans k;clear k H;rcases h with h1|⟨h1,h2⟩|⟨h1,h2,h3⟩|⟨h1,h2,h3,h4⟩|⟨h1,h2,h3,h4,h5⟩
 all_goals
  go_enter func123,ntmps123
  go_wp2;go_ret;exact⟨by first|rfl|(simp;done)|(simp;omega),qE (qB _) _⟩
theorem gG (f:FreqD) (h:Hid (kz f)) (w:World):Calls prog 125 #[.agg #[f.trip,f.frm,f.to,f.every]] w λe w'=>e=.returned ((Ze f):Z)/\Bl w w':=by
 have HE:=qA (Ew f h.o);have hb:=QE f h.o;have HC:Hid ((f.to-f.frm-1) / f.every+1=Ze f):=rfl;obtain⟨b0,b1⟩:=hb;rw[<-HC.o]at b0 b1;obtain⟨h1,h2,h3,h4,h5⟩:=h.o;go_enter func125,ntmps125
 go_wp2;go_ret;exact⟨qR (by first|exact HE.o|exact HC.o),qE (qB _) _⟩
def xA (f:FreqD):Int:=f.frm+(Ze f-1)*f.every
theorem gp (f:FreqD) (h:kz f):0<=(Ze f-1)*f.every/\(Ze f-1)*f.every<=172800/\xA f<=172800:=by
 have hc:=QE f h;have:=(ru f h (Ze f-1).toNat).2 ω;rw[show(((Ze f-1).toNat:Nat):Int)=Ze f-1 by omega]at this;obtain⟨h1,h2,h3,h4,h5⟩:=h;have:=Int.mul_nonneg (a:=Ze f-1) (b:=f.every) ω ω;unfold xA;omega
theorem Oj (f:FreqD) (h:Hid (kz f)) (w:World):Calls prog 195 #[.agg #[f.trip,f.frm,f.to,f.every]] w λe w'=>e=.returned ((xA f):Z)/\Bl w w':=by
 obtain⟨b0,b1⟩:=QE f h.o;obtain⟨l0,l1,l2⟩:=gp f h.o;have HL:Hid (f.frm+(Ze f-1)*f.every=xA f):=rfl;rw[<-HL.o]at l2;obtain⟨h1,h2,h3,h4,h5⟩:=h.o;have E1:=IntWalk.i64_in (Ze f-1) ω;have E2:=IntWalk.i64_in ((Ze f-1)*f.every) ω;have E3:=IntWalk.i64_in (f.frm+(Ze f-1)*f.every) ω;go_enter func195,ntmps195
 go_wp2_with fail;go_region_held3 (λw'=>w'.cell? (w.heap.size,0)=some (f.trip:Z)/\w'.cell? (w.heap.size,1)=some (f.frm:Z)/\w'.cell? (w.heap.size,2)=some (f.to:Z)/\w'.cell? (w.heap.size,3)=some (f.every:Z)) ((first|(go_keep;done)|(refine⟨?_, ?_, ?_, ?_⟩<;>(rw[(qG b1).1 _ _ σ];first|assumption|(simp[World.cell?_alloc_new];done)|trace_state)))) (first|(go_at_call 125;refine(gG f h _).mono ?_;rintro e w' ⟨rfl,b1⟩))
 all_goals
  go_wp2;go_ret;exact⟨qR HL.o,by first|exact qF (qE (qB _) _) b1|exact qF (qH (qE (qB _) _)) b1|exact qH (qF (qE (qB _) _) b1)⟩
theorem AZ (n:Int):bits .and .i64 n 4294967295=n%4294967296:=by
 have h127:(BitVec.ofInt 64 4294967295).toNat=2 ^ 32-1:=δ
 have key:(BitVec.ofInt 64 n&&& BitVec.ofInt 64 4294967295).toNat=(n%((2 ^ 64:Nat):Int)).toNat%2 ^ 32:=by
  rw[BitVec.toNat_and,BitVec.toNat_ofInt,h127,Nat.and_two_pow_sub_one_eq_mod]
 show IntKind.i64.wrap ((BitVec.ofInt 64 n&&& BitVec.ofInt 64 4294967295).toNat:Nat)=n%4294967296
 rw[key,IntKind.wrap_i64];omega
theorem SQ (n:Int) (h0:0<=n) (h1:n<4294967296):bits .or .i64 0 n=n:=by
 have key:(BitVec.ofInt 64 0|||BitVec.ofInt 64 n).toNat=n.toNat:=by
  rw[show BitVec.ofInt 64 0=0#64 from rfl,BitVec.zero_or,BitVec.toNat_ofInt];omega
 show IntKind.i64.wrap ((BitVec.ofInt 64 0|||BitVec.ofInt 64 n).toNat:Nat)=n
 rw[key,IntKind.wrap_i64];omega
theorem JZ (a:Int) (h0: -2305843009213693952<=a) (h1:a<=2305843009213693952) (w:World):Calls prog 281 #[a] w λe w'=>e=.returned (false:Z)/\w=w':=by
 go_enter func281,ntmps281
 go_wp2;go_ret;exact⟨by first|rfl|(simp;omega),rfl⟩
theorem gV (a:Int) (h:a< -2305843009213693952∨(-2305843009213693952<=a/\2305843009213693952<a)) (w:World):Calls prog 281 #[a] w λe w'=>e=.returned (true:Z)/\w=w':=by
 rcases h with h|⟨h,h'⟩
 all_goals
  go_enter func281,ntmps281
  go_wp2;go_ret;exact⟨by first|rfl|(simp;omega),rfl⟩
def Nz (t first start:Int) (e:Ending):Prop:= ∃ n,e=.returned (.tuple #[.int .i64 n,.bool (Z4 t first start)])/\(Z4 t first start=true->n=t-first+start)
theorem Lt {t first start n:Int} {b:Bool} (hb:Z4 t first start=b) (hn:Z4 t first start=true->n=t-first+start):Nz t first start (.returned (.tuple #[n,b])):=⟨n,by rw[hb],hn⟩
theorem VC (t first start:Int):Z4 t first start=true↔0<=t-first+start/\t-first+start<=172800:=by simp[Z4]
theorem nU {t first start:Int} {p:Prop} [Decidable p] (h:(0<=t-first+start/\t-first+start<=172800)↔p):Z4 t first start=decide p:=by
 rw[Bool.eq_iff_iff,VC,decide_eq_true_iff];exact h
theorem AQ (t first start:Int) (ht:zB t) (hf:zB first) (hs:zB start) (w:World):Calls prog 282 #[t,first,start] w λe w'=>Nz t first start e/\w=w':=by
 unfold zB at*;obtain⟨t0,t1⟩:=ht;obtain⟨f0,f1⟩:=hf;obtain⟨s0,s1⟩:=hs;have a1:=AZ t;have a2:=AZ first;have a3:=AZ start;have a4:=AZ (t%4294967296-first%4294967296+start%4294967296);have w0:wrap64 0=0:=IntWalk.wrap64_in 0 ⟨ω,ω⟩;by_cases hz:t / 4294967296-first / 4294967296+start / 4294967296+(t%4294967296-first%4294967296+start%4294967296) / 4294967296=0
 ·
  have o:=SQ ((t%4294967296-first%4294967296+start)%4294967296) ω ω;have HN:=qA (nU (t:=t) (first:=first) (start:=start) (p:=(t%4294967296-first%4294967296+start)%4294967296<=172800) ω);have HV:=qA (show Z4 t first start=true->(t%4294967296-first%4294967296+start)%4294967296=t-first+start by intro k;rw[VC]at k;omega);go_enter func282,ntmps282
  go_wp2;go_ret2;exact⟨Lt HN.o HV.o,rfl⟩
 have q:(t / 4294967296-first / 4294967296+start / 4294967296+(t%4294967296-first%4294967296+start%4294967296) / 4294967296==0)=false:=by rw[U0];exact hz
 have HN:=qA (show Z4 t first start=false by
  cases k:Z4 t first start with
  |false=>rfl
  |true=>rw[VC]at k;omega)
 clear hz;go_enter func282,ntmps282
 go_wp2;go_ret2;exact⟨Lt HN.o (λk=>absurd (HN.o.symm.trans k) δ),rfl⟩
theorem BQ (t first start:Int) (ht:zB t) (hf:zB first) (hs:zB start) (w:World):Calls prog 251 #[t,first,start] w λe w'=>Nz t first start e/\w=w':=by
 have HT:=qA ht;have HF:=qA hf;have HS:=qA hs;unfold zB at ht hf hs;obtain⟨t0,t1⟩:=ht;obtain⟨f0,f1⟩:=hf;obtain⟨s0,s1⟩:=hs;by_cases at': -2305843009213693952<=t/\t<=2305843009213693952
 ·
  obtain⟨p0,p1⟩:=at';by_cases af: -2305843009213693952<=first/\first<=2305843009213693952
  ·
   obtain⟨p2,p3⟩:=af;by_cases ast: -2305843009213693952<=start/\start<=2305843009213693952
   ·
    obtain⟨p4,p5⟩:=ast;by_cases h0:0<=t-first+start
    ·
     have HN:=qA (nU (t:=t) (first:=first) (start:=start) (p:=t-first+start<=172800) ω);go_enter func251,ntmps251
     go_wp2_with fail;refine(JZ t p0 p1 _).mono ?_;rintro e w1 ⟨rfl,rfl⟩;go_wp2_with fail;refine(JZ first p2 p3 _).mono ?_;rintro e w1 ⟨rfl,rfl⟩;go_wp2_with fail;refine(JZ start p4 p5 _).mono ?_;rintro e w1 ⟨rfl,rfl⟩;go_wp2;go_ret2;exact⟨Lt HN.o (λ_=>rfl),rfl⟩
    have HN:=qA (show Z4 t first start=false by
     cases k:Z4 t first start with
     |false=>rfl
     |true=>rw[VC]at k;omega)
    have h0':t-first+start<0:=ω
    clear h0;go_enter func251,ntmps251
    go_wp2_with fail;refine(JZ t p0 p1 _).mono ?_;rintro e w1 ⟨rfl,rfl⟩;go_wp2_with fail;refine(JZ first p2 p3 _).mono ?_;rintro e w1 ⟨rfl,rfl⟩;go_wp2_with fail;refine(JZ start p4 p5 _).mono ?_;rintro e w1 ⟨rfl,rfl⟩;go_wp2;go_ret2;exact⟨Lt HN.o (λk=>absurd (HN.o.symm.trans k) δ),rfl⟩
   have HA:=qA (show start< -2305843009213693952∨(-2305843009213693952<=start/\2305843009213693952<start) by omega);clear ast;go_enter func251,ntmps251
   go_wp2_with fail;refine(JZ t p0 p1 _).mono ?_;rintro e w1 ⟨rfl,rfl⟩;go_wp2_with fail;refine(JZ first p2 p3 _).mono ?_;rintro e w1 ⟨rfl,rfl⟩;go_wp2_with fail;refine(gV start HA.o _).mono ?_;rintro e w1 ⟨rfl,rfl⟩;go_wp2_with fail;refine(AQ t first start HT.o HF.o HS.o _).mono ?_;rintro e w1 ⟨⟨n,rfl,HN⟩,rfl⟩;have HN:=qA HN;go_wp2;go_ret2;exact⟨⟨n,rfl,HN.o⟩,rfl⟩
  have HA:=qA (show first< -2305843009213693952∨(-2305843009213693952<=first/\2305843009213693952<first) by omega);clear af;go_enter func251,ntmps251
  go_wp2_with fail;refine(JZ t p0 p1 _).mono ?_;rintro e w1 ⟨rfl,rfl⟩;go_wp2_with fail;refine(gV first HA.o _).mono ?_;rintro e w1 ⟨rfl,rfl⟩;go_wp2_with fail;refine(AQ t first start HT.o HF.o HS.o _).mono ?_;rintro e w1 ⟨⟨n,rfl,HN⟩,rfl⟩;have HN:=qA HN;go_wp2;go_ret2;exact⟨⟨n,rfl,HN.o⟩,rfl⟩
 have HA:=qA (show t< -2305843009213693952∨(-2305843009213693952<=t/\2305843009213693952<t) by omega);clear at';go_enter func251,ntmps251
 go_wp2_with fail;refine(gV t HA.o _).mono ?_;rintro e w1 ⟨rfl,rfl⟩;go_wp2_with fail;refine(AQ t first start HT.o HF.o HS.o _).mono ?_;rintro e w1 ⟨⟨n,rfl,HN⟩,rfl⟩;have HN:=qA HN;go_wp2;go_ret2;exact⟨⟨n,rfl,HN.o⟩,rfl⟩
theorem dS:(prog.info? 58).map (λi=>(i.zero,i.size,i.bytes))=some (some (.agg #["","","",false,false]),5,32):=κ
def Nw (cs:List CallD) (start:Int) (e:Ending) (w':World):Prop:= ∃ v',e=.returned (.tuple #[v',.int .i64 (jo cs start).2])/\CallsIn w'.heap.size w' v' (jo cs start).1
theorem lW {cs l:List CallD} {start err:Int} {v':Value} {w':World} (h:jo cs start=(l,err)) (hv:CallsIn w'.heap.size w' v' l):Nw cs start (.returned (.tuple #[v',err])) w':=⟨v',by rw[h],by rw[h];exact hv⟩
theorem mP (l:List CallD):(l.flatMap callCells).length=l.length*5:=by
 induction l with
 |nil=>rfl
 |cons c l ih=>rw[List.flatMap_cons,U1,ih,U7];show 5+_=_;omega
theorem Cb (A B:List CallD) (x:CallD) (a d:Int) (k:Nat) (hk:A.length=k):
  (((A++x::B).flatMap callCells).set (k*5+1) (a:Z)).set (k*5+2) (d:Z)=(A++{ x with arrive:=a,depart:=d }::B).flatMap callCells:=by
 have hl:=mP A;rw[hk]at hl;rw[List.flatMap_append,List.flatMap_append,List.flatMap_cons,List.flatMap_cons];rw[List.set_append_right _ _ ω,List.set_append_right _ _ ω,hl];rw[show k*5+1-k*5=1 by omega,show k*5+2-k*5=2 by omega];rfl
def Ij (cs:List CallD) (first start:Int) (k:Nat):List CallD:=(cs.take k).map (QT first start)++cs.drop k
theorem GX {cs:List CallD} {first start:Int} {k:Nat} {x:CallD} (h:cs[k]? =some x):Ij cs first start k=(cs.take k).map (QT first start)++x::cs.drop (k+1):=by
 obtain⟨hk,rfl⟩:=Uw.1 h;unfold Ij;rw[List.drop_eq_getElem_cons hk]
theorem GY {cs:List CallD} {first start:Int} {k:Nat} {x:CallD} (h:cs[k]? =some x):Ij cs first start (k+1)=(cs.take k).map (QT first start)++QT first start x::cs.drop (k+1):=by
 unfold Ij;rw[ql h];simp
theorem Lr {cs:List CallD} {first start:Int} {k:Nat} {x:CallD} (h:cs[k]? =some x):(Ij cs first start k)[k]? =some x:=by
 rw[GX h];have hk:k<cs.length:=(Uw.1 h).1;have e:((cs.take k).map (QT first start)).length=k:=τ
 rw[List.getElem?_append_right ω,e,Nat.sub_self];rfl
theorem uC {cs:List CallD} {first start:Int} {k:Nat} {x:CallD} (h:cs[k]? =some x):
  (((Ij cs first start k).flatMap callCells).set (k*5+1) (.int .i64 (x.arrive-first+start))).set (k*5+2) (.int .i64 (x.depart-first+start))=(Ij cs first start (k+1)).flatMap callCells:=by
 have hk:k<cs.length:=(Uw.1 h).1;rw[GX h,GY h,Cb _ _ _ _ _ _ τ];rfl
theorem MC {first start:Int} {x:CallD} (h:Z4 x.arrive first start=false):rO first start x=false:=by unfold rO;rw[h];rfl
theorem MF {first start:Int} {x:CallD} (h:Z4 x.depart first start=false):rO first start x=false:=by unfold rO;rw[h,Bool.and_false]
theorem En:(prog.info? 58).map (·.size)=some 5:=κ
theorem WX (id:Φ) (rt cal:Int) (step:Bool) (v:Value) (cs:List CallD) (start:Int) (hst:zB start) (B:Nat) (w:World) (hcs:CallsIn B w v cs) (hB:B<=w.heap.size) (hok: ∀ c∈cs,Ik c) (hlen:cs.length<=1000):
  Calls prog 194 #[.agg #[id,rt,cal,step,v],start] w λe w'=>Nw cs start e w'/\Bl w w':=by
 obtain⟨i0,hi,hz0,hz1,hz2⟩:=info_parts dS;have HC:=qA hcs;have HO:=qA hok;have HST:=qA hst;clear hcs hok hst;by_cases hlen0:0<cs.length
 ·
  obtain⟨b,o,cap,rfl,hl1,hl2,hbB,hcell⟩:=HC.o.open hlen0;obtain⟨x0,hx0⟩: ∃ x0,cs[0]? =some x0:=⟨_,U2 hlen0⟩;have d2:=hcell 0 x0 hx0 2 _ rfl;rw[show o+0*5+2=o+2 by omega]at d2;have hlt:b<w.heap.size:=ω
  have HX0:=qA hx0;have HCell:=qA hcell;have q0:((cs.length:Int)==0)=false:=π
  clear hcell hx0 HC;go_enter func194,ntmps194
  go_wp2_with (refine wpList_make_full _ rfl _ _ 54 rfl (w.heap.size+1) 58 i0 (.agg #["","","",false,false]) 5 underlying54 hi hz0 hz1 .i64 .i64 _ _ cs.length rfl rfl rfl rfl ?c1 ?c2 ?c3 ?_)
  case c1=>rw[hz2];omega
  case c2=>unfold maxLen;omega
  case c3=>simp
  intro w2 own2 gr2;have b2:Bl w w2:=(qE (qB w) _).grown gr2 σ (λk hk=>by cases hk);have c4:w2.cell? (w.heap.size,4)=some ((b,o,cs.length,cap):Z):=gr2.cell (by rw[Uy (hn:=rfl)];rfl) σ;have HS:=qA (sV (w:=w2) (b:=b) Zw cs o (λi x hx j u hu=>by rw[(qG b2).1 _ _ hlt];exact HCell.o i x hx j u hu));have hs2:=gr2.size;simp only[World.size_alloc]at own2 hs2;have O2:=qA own2;clear own2 gr2;go_wp2_with (refine VU rfl (.tmp 24) (.tmp 26) 54 54 rfl 58 underlying54 5 En (w.heap.size+1) (w.heap.size+1) cs.length cs.length cap (b,o) rfl rfl _ O2.o (cs.flatMap callCells) (mP cs) HS.o ?c4 ?_)
  case c4=>
   intro u hu;simp only[List.mem_flatMap,callCells,List.mem_cons,List.not_mem_nil,or_false]at hu;obtain⟨c,_,h|h|h|h|h⟩:=hu<;>rw[h]<;>rfl
  intro w3 own3 gr3;have b3:Bl w w3:=b2.grown gr3 b2.size (λk hk=>by cases hk;omega);have hs3:=gr3.size;have own3':w3.ownsRow (w.heap.size+1) 58 5 ((w.heap.size+1,0,cs.length,cs.length):Z) cs.length ((Ij cs x0.depart start 0).flatMap callCells):=own3;have O3:=qA own3';clear own3 own3' gr3 HS O2 c4 d2;go_wp2_with fail;go_loopw [30] (λi wr=> ∃ k:Nat,k<=cs.length/\i=k/\(wr.ownsRow (w.heap.size+1) 58 5 ((w.heap.size+1,0,cs.length,cs.length):Z) cs.length ((Ij cs x0.depart start k).flatMap callCells)/\(∀ x∈cs.take k,rO x0.depart start x=true))/\Bl w wr/\w.heap.size+1<wr.heap.size) (λi _=>cs.length-(intOf i).toNat)
  case atStart=>exact⟨0,qAD _,rfl,⟨O3.o,σ⟩,b3,(qAG O3.o _ rfl).2⟩
  obtain⟨k,hk,rfl,hinv,hb,hgs⟩:=hrel;have HI:=qA hinv;clear hinv;by_cases hltk:k<cs.length
  ·
   obtain⟨x,hx⟩: ∃ x,cs[k]? =some x:=⟨_,U2 hltk⟩;have hc: ∀ j u,j<5->(callCells x)[j]? =some u->wr.cell? ⟨w.heap.size+1,k*5+j,none⟩=some u:=λj u hj hu=>by
    rw[World.ownsRow.cellAt HI.o.1 (k*5+j) ω];exact XY Zw (Lr hx) hu
   have g1:=hc 1 _ δ rfl;have g2:=hc 2 _ δ rfl;have f1:=World.ownsRow.frozenAt HI.o.1 (k*5+1);have f2:=World.ownsRow.frozenAt HI.o.1 (k*5+2);have HX:=qA hx;have HM:Hid (x∈cs):=Uz HX.o;have HT:=qA (ql HX.o);have HST2:=qA (uC (first:=x0.depart) (start:=start) HX.o);clear hx hc;go_wp2_with fail;refine(BQ x.arrive x0.depart start (HO.o x HM.o).1 (HO.o x0 (Uz HX0.o)).2 HST.o _).mono ?_;rintro e w5 ⟨⟨n1,rfl,N1⟩,rfl⟩;obtain⟨p1,hp1⟩:=ε (Z4 x.arrive x0.depart start);rw[hp1]at N1;rw[hp1];have P1:=qA (And.intro hp1 N1);clear hp1 N1;go_wp2_with fail;refine(BQ x.depart x0.depart start (HO.o x HM.o).2 (HO.o x0 (Uz HX0.o)).2 HST.o _).mono ?_;rintro e w6 ⟨⟨n2,rfl,N2⟩,rfl⟩;obtain⟨p2,hp2⟩:=ε (Z4 x.depart x0.depart start);rw[hp2]at N2;rw[hp2];have P2:=qA (And.intro hp2 N2);clear hp2 N2;cases p1 with
   |false=>
    have HR:=qA (VY HX0.o HM.o (MC P1.o.1));go_wp2;go_ret2;exact⟨lW HR.o zJ,zF (zF hb σ _) σ _⟩
   |true=>
    cases p2 with
    |false=>
     have HR:=qA (VY HX0.o HM.o (MF P2.o.1));go_wp2;go_ret2;exact⟨lW HR.o zJ,zF (zF hb σ _) σ _⟩
    |true=>
     obtain⟨rfl⟩:n1=x.arrive-x0.depart+start:=P1.o.2 rfl;obtain⟨rfl⟩:n2=x.depart-x0.depart+start:=P2.o.2 rfl;have HOK:=qA (show rO x0.depart start x=true by unfold rO;rw[P1.o.1,P2.o.1];rfl);go_wp2;go_roundw;case rel=>
      refine⟨k+1,ω,by go_num,⟨?_, ?_⟩,zF (zF hb σ _) σ _,by simpa[World.setCell]using hgs⟩
      ·
       have:=((World.ownsRow.stored HI.o.1 (k*5+1) (.int .i64 (x.arrive-x0.depart+start))).1.stored (k*5+2) (.int .i64 (x.depart-x0.depart+start))).1;rw[HST2.o]at this;exact this
      intro y hy;rw[HT.o]at hy;rcases List.mem_append.1 hy with hy|hy
      · exact HI.o.2 y hy
      rw[List.mem_singleton.1 hy];exact HOK.o
     simp[intOf];omega
  have hkn:k=cs.length:=ω
  have HF:Hid (wr.ownsRow (w.heap.size+1) 58 5 ((w.heap.size+1,0,cs.length,cs.length):Z) (cs.map (QT x0.depart start)).length ((cs.map (QT x0.depart start)).flatMap callCells)):=by
   have:=HI.o.1;unfold Ij at this;rw[U9 ω,List.drop_of_length_le ω,List.append_nil]at this;show World.ownsRow _ _ _ _ _ _ _
   rw[U4];exact this
  have HR:=qA (XJ HX0.o (by rw[List.all_eq_true];exact λy hy=>HI.o.2 y (by rw[U9 ω];exact hy)));clear hkn;go_wp2;go_ret2;exact⟨lW HR.o (zq (λ_=>rfl) HF.o),hb⟩
 obtain⟨a,cap,rfl,hl2,rfl⟩:=HC.o.empty ω;go_enter func194,ntmps194
 go_wp2;go_ret2;exact⟨lW (XI start) zJ,qE (qB _) _⟩
def Rx (fs:List FreqD) (t:Int):Bool:=fs.any λf=>f.trip==t
theorem Ht (v:Value) (fs:List FreqD) (t:Int) (r:Bool) (H:Hid (Rx fs t=r)) (B:Nat) (w:World) (ha:xG B w v fs) (hB:B<=w.heap.size):
  Calls prog 197 #[v,t] w λe w'=>e=.returned (r:Z)/\Bl w w':=by
 by_cases h0:0<fs.length
 ·
  obtain⟨b1,o1,cap1,rfl,l1,m1,hb1,hc1⟩:=ha.open h0;have H1:=qA hc1;clear ha hc1;go_enter func197,ntmps197
  go_wp2;go_loopw [9] (λi wr=> ∃ k:Nat,k<=fs.length/\i=k/\Hid ((fs.take k).any (λf=>f.trip==t)=false)/\Bl w wr) (λi _=>fs.length-(intOf i).toNat)
  case atStart=>exact⟨0,qAD _,rfl,rfl,qB _⟩
  obtain⟨k,hk,rfl,HA,hbl⟩:=hrel;by_cases hlt:k<fs.length
  ·
   obtain⟨x,hx⟩: ∃ x,fs[k]? =some x:=⟨_,U2 hlt⟩;have c1: ∀ j u,(qj x)[j]? =some u->wr.cell? ⟨b1,o1+k*4+j,none⟩=some u:=λj u hu=>by rw[(qG hbl).1 _ _ ω];exact H1.o k x hx j u hu
   have d10:wr.cell? (b1,o1+k*4)=some (.int .i64 x.trip):=c1 0 _ rfl;have d11:=c1 1 _ rfl;have d12:=c1 2 _ rfl;have d13:=c1 3 _ rfl;have HX:=qA hx;clear hx c1;by_cases he:x.trip=t
   ·
    have HR:=qA (show r=true by rw[<-H.o];exact Zb HX.o (by simp[he]));have q:(x.trip==t)=true:=by rw[beq_iff_eq];exact he
    clear he;go_wp2;go_ret;exact⟨qO HR.o.symm,qE hbl _⟩
   have q:(x.trip==t)=false:=by rw[U0];exact he
   have HN:=qA ((Yq (p:=λf:FreqD=>f.trip==t) HX.o HA.o).trans q);clear he;go_wp2;go_roundw;case rel=>exact⟨k+1,ω,by go_num,HN,qE hbl _⟩
   simp[intOf];omega
  have HR:=qA (show r=false by
   have:=HA.o;rw[U9 ω]at this;rw[<-H.o];exact this)
  go_wp2;go_ret;exact⟨qO HR.o.symm,hbl⟩
 obtain⟨a1,c1,rfl,m1,rfl⟩:=ha.empty ω;obtain rfl:r=false:=H.o.symm;go_enter func197,ntmps197
 go_wp2_with fail;refine wp_loop_rounds 1 ?_;rw[rounds_succ];go_wp2;go_ret;exact⟨rfl,qB _⟩
theorem yD:(prog.info? 3).map (λi=>(i.zero,i.size,i.bytes))=some (some (.int .i64 0),1,8):=κ
structure Jv (B:Nat) (w:World) (t:TripD):Prop where
 calls:CallsIn B w t.v t.calls
 ok: ∀ c∈t.calls,Ik c
 len:t.calls.length<=1000
theorem Jv.bl {B:Nat} {w w':World} {t:TripD} (h:Jv B w t) (hb:Bl w w') (hB:B<=w.heap.size):Jv B w' t:=⟨h.calls.below (hb.mono hB),h.ok,h.len⟩
def Y3 (cs:List CallD) (f:FreqD):Bool:=cs.isEmpty||((jo cs f.frm).2==0&&(jo cs (xA f)).2==0)
theorem Fe (id:Φ) (rt cal:Int) (step:Bool) (v:Value) (cs:List CallD) (f:FreqD) (hf:kz f) (r:Bool) (H:Hid (Y3 cs f=r)) (B:Nat) (w:World) (hcs:CallsIn B w v cs) (hB:B<=w.heap.size) (hok: ∀ c∈cs,Ik c) (hlen:cs.length<=1000):
  Calls prog 124 #[.agg #[.string id, .int .i64 rt, .int .i64 cal, .bool step,v], .agg #[.int .i64 f.trip, .int .i64 f.frm, .int .i64 f.to, .int .i64 f.every]] w λe w'=>e= .returned (.bool r)/\Bl w w':=by
 have HC:=qA hcs;have HO:=qA hok;have HF:=qA hf;clear hok;by_cases hlen0:0<cs.length
 ·
  obtain⟨b,o,cap,rfl,hl1,hl2,hbB,-⟩:=hcs.open hlen0;clear hcs;have q0:((cs.length:Int)==0)=false:=π
  obtain⟨l0,l1,l2⟩:=gp f hf;have HI1:Hid (zB f.frm):=by obtain⟨h1,h2,h3,h4,h5⟩:=hf;constructor<;>omega
  have HI2:Hid (zB (xA f)):=by obtain⟨h1,h2,h3,h4,h5⟩:=hf;unfold xA at*;constructor<;>omega
  clear l0 l1 l2 hf;go_enter func124,ntmps124
  go_wp2_with fail;obtain⟨w1,hw1⟩:=ε ((w.alloc (.cells #[.string id, .int .i64 rt, .int .i64 cal, .bool step, .slice (some ⟨b,o,none⟩) cs.length cap] 56)).alloc (.cells #[.int .i64 f.trip, .int .i64 f.frm, .int .i64 f.to, .int .i64 f.every] 126));rw[hw1];have b1:Bl w w1:=by rw[<-hw1];exact qE (qE (qB _) _) _
  have s1:w1.heap.size=w.heap.size+2:=by rw[<-hw1];simp
  have kt: ∀ j u,(tripCells ⟨id,rt,cal,step, .slice (some ⟨b,o,none⟩) cs.length cap,cs⟩)[j]? =some u->w1.cell? ⟨w.heap.size,j,none⟩=some u:=by
   intro j u hu;rw[<-hw1,(qG (qE (qB _) _)).1 _ _ σ,Uy (hn:=rfl)];simpa[tripCells]using hu
  have kf: ∀ j u,(qj f)[j]? =some u->w1.cell? ⟨w.heap.size+1,j,none⟩=some u:=by
   intro j u hu;rw[<-hw1,Uy (hn:=by simp)];simpa[qj]using hu
  have KT:=qA kt;have KF:=qA kf;clear kt kf hw1;refine(WX id rt cal step _ cs f.frm HI1.o B w1 (HC.o.below (b1.mono hB)) ω HO.o hlen).mono ?_;rintro e w2 ⟨⟨v1,rfl,-⟩,b2⟩;have hs2:=b2.size;have kt2: ∀ j u,(tripCells ⟨id,rt,cal,step, .slice (some ⟨b,o,none⟩) cs.length cap,cs⟩)[j]? =some u->w2.cell? ⟨w.heap.size,j,none⟩=some u:=λj u hu=>((qG b2).1 _ _ ω).trans (KT.o j u hu)
  have kf2: ∀ j u,(qj f)[j]? =some u->w2.cell? ⟨w.heap.size+1,j,none⟩=some u:=λj u hu=>((qG b2).1 _ _ ω).trans (KF.o j u hu)
  have t0:=kt2 0 _ rfl;have t1:=kt2 1 _ rfl;have t2:=kt2 2 _ rfl;have t3:=kt2 3 _ rfl;have t4:=kt2 4 _ rfl;have f0:=kf2 0 _ rfl;have f1:=kf2 1 _ rfl;have f2:=kf2 2 _ rfl;have f3:=kf2 3 _ rfl;have HC2:Hid (CallsIn B w2 (.slice (some ⟨b,o,none⟩) cs.length cap) cs):=HC.o.below ((qF b1 b2).mono hB);have B2:=qA (qF b1 b2);have KT2:=qA kt2;clear kt2 kf2 b1 b2;have hold: ∀ w':World,Bl w2 w'->Bl w2 w'/\CallsIn B w' (.slice (some ⟨b,o,none⟩) cs.length cap) cs/\w'.cell? ⟨w.heap.size,0,none⟩=some (.string id)/\w'.cell? ⟨w.heap.size,1,none⟩=some (.int .i64 rt)/\w'.cell? ⟨w.heap.size,2,none⟩=some (.int .i64 cal)/\w'.cell? ⟨w.heap.size,3,none⟩=some (.bool step)/\w'.cell? ⟨w.heap.size,4,none⟩=some (.slice (some ⟨b,o,none⟩) cs.length cap)/\w'.cell? ⟨w.heap.size+1,0,none⟩=some (.int .i64 f.trip)/\w'.cell? ⟨w.heap.size+1,1,none⟩=some (.int .i64 f.frm)/\w'.cell? ⟨w.heap.size+1,2,none⟩=some (.int .i64 f.to)/\w'.cell? ⟨w.heap.size+1,3,none⟩=some (.int .i64 f.every):=λw' hb=>⟨hb,HC2.o.below (hb.mono ω),((qG hb).1 _ _ ω).trans t0,((qG hb).1 _ _ ω).trans t1,((qG hb).1 _ _ ω).trans t2,((qG hb).1 _ _ ω).trans t3,((qG hb).1 _ _ ω).trans t4,((qG hb).1 _ _ ω).trans f0,((qG hb).1 _ _ ω).trans f1,((qG hb).1 _ _ ω).trans f2,((qG hb).1 _ _ ω).trans f3⟩
  go_wp2_with fail;go_region_held3 (λw'=>Bl w2 w'/\CallsIn B w' (.slice (some ⟨b,o,none⟩) cs.length cap) cs/\w'.cell? ⟨w.heap.size,0,none⟩=some (.string id)/\w'.cell? ⟨w.heap.size,1,none⟩=some (.int .i64 rt)/\w'.cell? ⟨w.heap.size,2,none⟩=some (.int .i64 cal)/\w'.cell? ⟨w.heap.size,3,none⟩=some (.bool step)/\w'.cell? ⟨w.heap.size,4,none⟩=some (.slice (some ⟨b,o,none⟩) cs.length cap)/\w'.cell? ⟨w.heap.size+1,0,none⟩=some (.int .i64 f.trip)/\w'.cell? ⟨w.heap.size+1,1,none⟩=some (.int .i64 f.frm)/\w'.cell? ⟨w.heap.size+1,2,none⟩=some (.int .i64 f.to)/\w'.cell? ⟨w.heap.size+1,3,none⟩=some (.int .i64 f.every)) (first|exact hold _ (qH (qB _))|exact hold _ (qF (qH (qB _)) b3)|exact hold _ (qF (qF (qH (qB _)) b3) b4)) (first|(go_at_call 195;refine(Oj f HF _).mono ?_;rintro e w3 ⟨rfl,b3⟩)|(go_at_call 194;refine(WX id rt cal step _ cs (xA f) HI2.o B _ (HC2.o.below ((qF (qH (qB _)) b3).mono ω)) (by have:=b3.size;simp at this;omega) HO.o hlen).mono ?_;rintro e w4 ⟨⟨v3,rfl,-⟩,b4⟩))
  have BF:Hid (Bl w _):=qF (qF (qF B2.o (qH (qB _))) b3) b4;have HR:Hid (((jo cs f.frm).2==0&&(jo cs (xA f)).2==0)=r):=by
   have:=H.o;unfold Y3 at this;rw[show cs.isEmpty=false by cases cs<;>simp at*]at this;exact this
  obtain⟨e1,he1⟩:=ε ((jo cs f.frm).2);obtain⟨e2,he2⟩:=ε ((jo cs (xA f)).2);rw[he1,he2]at HR;rw[he1,he2];clear he1 he2 hold;rcases Bool.eq_false_or_eq_true (e1==0)with q1|q1
  ·
   rcases Bool.eq_false_or_eq_true (e2==0)with q2|q2
   all_goals
    have HB:Hid (r=_):=HR.o.symm.trans (by rw[q1,q2]);go_wp2;go_ret;exact⟨qO (by rw[HB.o];rfl),BF.o⟩
  have HB:Hid (r=_):=HR.o.symm.trans (by rw[q1]);go_wp2;go_ret;exact⟨qO (by rw[HB.o];rfl),BF.o⟩
 obtain⟨a,cap,rfl,hcap,rfl⟩:=hcs.empty ω;have HB:Hid (r=true):=H.o.symm;clear HC;go_enter func124,ntmps124
 go_wp2_with fail;go_ret;exact⟨qO HB.o.symm,qE (qE (qB _) _) _⟩
def KO (f g:FreqD):Int:=if g.trip==f.trip then Ze g else 0
def yj (f:FreqD) (pre:List FreqD):Int:=(pre.map (KO f)).sum
theorem Yg (f:FreqD) (pre:List FreqD) (g:FreqD):yj f (pre++[g])=yj f pre+KO f g:=by simp[yj]
theorem pW (f:FreqD) (pre:List FreqD) (h: ∀ g∈pre,kz g):0<=yj f pre/\yj f pre<=172800*pre.length:=by
 induction pre with
 |nil=>exact⟨Int.le_refl _,by simp[yj]⟩
 |cons x l ih=>
  have e:yj f (x::l)=KO f x+yj f l:=by simp[yj]
  have:=ih λg hg=>h g (List.mem_cons_of_mem _ hg)
  have:=QE x (h x (List.mem_cons_self ..));rw[e,U7];unfold KO;split<;>omega
def MJ (f g:FreqD):Bool:=decide (g.frm<f.to)&&decide (f.frm<g.to)
def ku (f g:FreqD):Bool:=(g.trip==f.trip)&&MJ f g
def J8 (ts:List TripD) (f:FreqD):Bool:=match ts[f.trip.toNat]? with
 |some t=>Y3 t.calls f
 |none=>false
def Zi (ts:List TripD) (pre:List FreqD) (f:FreqD):Int:=
 if f.trip<0∨(ts.length:Int)<=f.trip then 9 else
 if QH f&&J8 ts f then(if 256<Ze f+yj f pre then 17 else if pre.any (ku f)then 8 else 0)else 10
theorem Ai {ts:List TripD} {pre:List FreqD} {f:FreqD} (h:f.trip<0∨(ts.length:Int)<=f.trip):Zi ts pre f=9:=by unfold Zi;rw[U6 h]
theorem Yz {ts:List TripD} {pre:List FreqD} {f:FreqD} (h0:0<=f.trip) (h1:f.trip<ts.length) (h:(QH f&&J8 ts f)=false):Zi ts pre f=10:=by unfold Zi;rw[U5 ω,h];rfl
theorem Aj {ts:List TripD} {pre:List FreqD} {f:FreqD} (h0:0<=f.trip) (h1:f.trip<ts.length) (h:(QH f&&J8 ts f)=true):Zi ts pre f=if 256<Ze f+yj f pre then 17 else if pre.any (ku f)then 8 else 0:=by unfold Zi;rw[U5 ω,h];rfl
def wU (ts:List TripD) (pre:List FreqD):List FreqD->Int×Int
 |[]=>(0,0)
 |f::rest=>if Zi ts pre f=0 then wU ts (pre++[f]) rest else(pre.length,Zi ts pre f)
def qZ (l:List FreqD) (ts:List TripD):Int×Int:=if 64<l.length then(0,5)else wU ts [] l
theorem jy {ts:List TripD} {l:List FreqD} {k:Nat} (h:l.length<=k):wU ts (l.take k) (l.drop k)=(0,0):=by
 rw[List.drop_of_length_le h];rfl
theorem qU {ts:List TripD} {l:List FreqD} {k:Nat} {f:FreqD} {e:Int} (hf:l[k]? =some f) (he:Zi ts (l.take k) f=e) (hne:e≠0):wU ts (l.take k) (l.drop k)=((k:Int),e):=by
 obtain⟨hk,rfl⟩:=Uw.1 hf;rw[List.drop_eq_getElem_cons hk];show(if _ then _ else _)=_
 rw[he,U5 hne,List.length_take,Nat.min_eq_left ω]
theorem jS {ts:List TripD} {l:List FreqD} {k:Nat} {f:FreqD} (hf:l[k]? =some f) (he:Zi ts (l.take k) f=0):wU ts (l.take k) (l.drop k)=wU ts (l.take (k+1)) (l.drop (k+1)):=by
 obtain⟨hk,rfl⟩:=Uw.1 hf;rw[List.drop_eq_getElem_cons hk];show(if _ then _ else _)=_
 rw[he,U6 rfl,ql hf]
structure WV (B:Nat) (w:World) (v:Value) (ts:List TripD):Prop where
 sl:jA tripCells 5 B w v ts
 ok: ∀ t∈ts,Jv B w t
theorem kR {a b c d:Int} (h:a=c) (h':b=d):Ending.returned (.tuple #[a,b])=.returned (.tuple #[c,d]):=by rw[h,h']
end Go.Proofs.YtakedkcjplfgeaaGreatDoor.Fq
set_option maxRecDepth 1000000
set_option maxHeartbeats 32000000
namespace Go.Proofs.YtakedkcjplfgeaaGreatDoor.Fq
open Go.RowKit
open Frq
theorem gB (v:Value) (fs:List FreqD) (vt:Value) (ts:List TripD) (r:Int×Int) (H:Hid (qZ fs ts=r)) (B:Nat) (w:World) (ha:xG B w v fs) (ht:WV B w vt ts) (hB:B<=w.heap.size):
  Calls prog 53 #[v,vt] w λe w'=>e= .returned (.tuple #[.int .i64 r.1, .int .i64 r.2])/\Bl w w':=by
 have HT:=qA ht;have hT: ∃ at' capt,vt= .slice at' ts.length capt/\capt<=9223372036854775807/\ts.length<=capt:=by
  obtain⟨a,c,h1,h2,h3,_⟩:=ht.sl;exact⟨a,c,h1,by unfold maxLen at h3;exact h3,h2⟩
 obtain⟨at',capt,rfl,tcap,tlen⟩:=hT;clear ht;by_cases h64:64<fs.length
 ·
  obtain⟨b1,o1,cap1,rfl,l1,m1,hb1,-⟩:=ha.open ω;have HR:=qA (show r=(0,5) by rw[<-H.o];unfold qZ;rw[U6 h64]);have hi:(64:Int)<(fs.length:Int):=ω
  clear ha;go_enter func53,ntmps53
  go_wp2;go_ret2;exact⟨kR (by rw[HR.o]) (by rw[HR.o]),qB _⟩
 by_cases h0:0<fs.length
 ·
  obtain⟨b1,o1,cap1,rfl,l1,m1,hb1,hc1⟩:=ha.open h0;have H1:=qA hc1;have hi:(fs.length:Int)<=64:=ω
  have HR:=qA (show wU ts (fs.take 0) (fs.drop 0)=r by rw[<-H.o];unfold qZ;rw[U5 h64];rfl);clear ha hc1 h64 H;go_enter func53,ntmps53
  go_wp2_with fail;go_loopw [17] (λi wr=> ∃ k:Nat,k<=fs.length/\i= .int .i64 k/\Hid (wU ts (fs.take k) (fs.drop k)=r)/\Hid (∀ g∈fs.take k,kz g)/\Bl w wr) (λi _=>fs.length-(intOf i).toNat)
  case atStart=>exact⟨0,qAD _,rfl,HR,by simp[Hid],qB _⟩
  rename World=>wo
  obtain⟨k,hk,rfl,HA,HSO,hbl⟩:=hrel;have hzw:=hbl.size;by_cases hlt:k<fs.length
  ·
   obtain⟨x,hx⟩: ∃ x,fs[k]? =some x:=⟨_,U2 hlt⟩;have c1: ∀ j u,(qj x)[j]? =some u->wo.cell? ⟨b1,o1+k*4+j,none⟩=some u:=λj u hu=>by rw[(qG hbl).1 _ _ ω];exact H1.o k x hx j u hu
   have d10:wo.cell? ⟨b1,o1+k*4,none⟩=some (.int .i64 x.trip):=c1 0 _ rfl;have d11:=c1 1 _ rfl;have d12:=c1 2 _ rfl;have d13:=c1 3 _ rfl;have HX:=qA hx;clear hx c1;by_cases htr:x.trip<0∨(ts.length:Int)<=x.trip
   ·
    have HE:=qA (HA.o.symm.trans (qU HX.o (Ai htr) δ));rcases Int.lt_or_le x.trip 0 with hn|hn
    ·
     clear htr;go_wp2;go_ret2;exact⟨kR (by rw[HE.o]) (by rw[HE.o]),qE hbl _⟩
    have hn2:(ts.length:Int)<=x.trip:=ω
    clear htr;go_wp2;go_ret2;exact⟨kR (by rw[HE.o]) (by rw[HE.o]),qE hbl _⟩
   obtain⟨htr0,htr1⟩:0<=x.trip/\x.trip<ts.length:=ω
   clear htr;obtain⟨bt,ot,capt',xt,hve,-,-,hbt,hxt,hct⟩:=HT.o.sl.at (k:=x.trip.toNat) ω;simp only[Value.slice.injEq]at hve;obtain⟨rfl,-,-⟩:=hve;have HTO:=qA (HT.o.ok xt (Uz hxt));have HFA:=qA (show J8 ts x=Y3 xt.calls x by unfold J8;rw[hxt]);have HCT:=qA hct;clear hct hxt;go_wp2_with fail;obtain⟨w1,hw1⟩:=ε (wo.alloc (.cells #[.int .i64 x.trip, .int .i64 x.frm, .int .i64 x.to, .int .i64 x.every] 126));rw[hw1];have s1:w1.heap.size=wo.heap.size+1:=by rw[<-hw1];simp
   have HB1:Hid (Bl w w1):=by rw[<-hw1];exact qE hbl _
   have kf: ∀ j u,(qj x)[j]? =some u->w1.cell? ⟨wo.heap.size,j,none⟩=some u:=by
    intro j u hu;rw[<-hw1,Uy (hn:=rfl)];simpa[qj]using hu
   have kt: ∀ j u,(tripCells xt)[j]? =some u->w1.cell? ⟨bt,ot+x.trip.toNat*5+j,none⟩=some u:=λj u hu=>by
    rw[(qG HB1.o).1 _ _ ω];exact HCT.o j u hu
   have f0:=kf 0 _ rfl;have f1:=kf 1 _ rfl;have f2:=kf 2 _ rfl;have f3:=kf 3 _ rfl;have t0:w1.cell? ⟨bt,ot+x.trip.toNat*5,none⟩=some (.string xt.id):=kt 0 _ rfl;have t1:=kt 1 _ rfl;have t2:=kt 2 _ rfl;have t3:=kt 3 _ rfl;have t4:=kt 4 _ rfl;have hbt1:bt<w1.heap.size:=ω
   have hold: ∀ w':World,Bl w1 w'->w'.cell? ⟨wo.heap.size,0,none⟩=some (.int .i64 x.trip)/\w'.cell? ⟨wo.heap.size,1,none⟩=some (.int .i64 x.frm)/\w'.cell? ⟨wo.heap.size,2,none⟩=some (.int .i64 x.to)/\w'.cell? ⟨wo.heap.size,3,none⟩=some (.int .i64 x.every)/\w'.cell? ⟨bt,ot+x.trip.toNat*5,none⟩=some (.string xt.id)/\w'.cell? ⟨bt,ot+x.trip.toNat*5+1,none⟩=some (.int .i64 xt.rt)/\w'.cell? ⟨bt,ot+x.trip.toNat*5+2,none⟩=some (.int .i64 xt.cal)/\w'.cell? ⟨bt,ot+x.trip.toNat*5+3,none⟩=some (.bool xt.step)/\w'.cell? ⟨bt,ot+x.trip.toNat*5+4,none⟩=some (xt.v):=λw' hb=>⟨((qG hb).1 _ _ ω).trans f0,((qG hb).1 _ _ ω).trans f1,((qG hb).1 _ _ ω).trans f2,((qG hb).1 _ _ ω).trans f3,((qG hb).1 _ _ ω).trans t0,((qG hb).1 _ _ ω).trans t1,((qG hb).1 _ _ ω).trans t2,((qG hb).1 _ _ ω).trans t3,((qG hb).1 _ _ ω).trans t4⟩
   have KF:=qA kf;clear kf kt hw1;rcases Zr x with⟨hs,ks⟩|⟨_,ks⟩
   ·
    have HK:=qA ks;have HS:=qA hs;clear hs ks;rcases Bool.eq_false_or_eq_true (Y3 xt.calls x)with kf|kf
    ·
     have HF:=qA kf;have HGO:Hid ((QH x&&J8 ts x)=true):=by show _=_;rw[HK.o,HFA.o,HF.o];rfl
     clear kf;go_region_held3 (λw'=>w'.cell? ⟨wo.heap.size,0,none⟩=some (.int .i64 x.trip)/\w'.cell? ⟨wo.heap.size,1,none⟩=some (.int .i64 x.frm)/\w'.cell? ⟨wo.heap.size,2,none⟩=some (.int .i64 x.to)/\w'.cell? ⟨wo.heap.size,3,none⟩=some (.int .i64 x.every)/\w'.cell? ⟨bt,ot+x.trip.toNat*5,none⟩=some (.string xt.id)/\w'.cell? ⟨bt,ot+x.trip.toNat*5+1,none⟩=some (.int .i64 xt.rt)/\w'.cell? ⟨bt,ot+x.trip.toNat*5+2,none⟩=some (.int .i64 xt.cal)/\w'.cell? ⟨bt,ot+x.trip.toNat*5+3,none⟩=some (.bool xt.step)/\w'.cell? ⟨bt,ot+x.trip.toNat*5+4,none⟩=some (xt.v)) (first|exact hold _ (qH (qB _))|exact hold _ (qF (qH (qB _)) b3)|exact hold _ (qF (qF (qH (qB _)) b3) b4)) (first|(go_at_call 123;refine(iO x true HK _).mono ?_;rintro e w3 ⟨rfl,b3⟩)|(go_at_call 124;refine(Fe xt.id xt.rt xt.cal xt.step xt.v xt.calls x HS.o true HF B _ ((Jv.bl HTO.o (qF HB1.o (qF (qH (qB _)) b3)) hB).calls) (by have:=b3.size;simp at this;omega) HTO.o.ok HTO.o.len).mono ?_;rintro e w4 ⟨rfl,b4⟩))
     all_goals
      have B4:Hid (Bl w1 w4):=qF (qF (qH (qB _)) b3) b4;obtain⟨g0,g1,g2,g3,-⟩:=hold _ B4.o;clear hold t0 t1 t2 t3 t4 f0 f1 f2 f3;go_wp2_with fail;refine(gG x HS _).mono ?_;rintro e w5 ⟨rfl,b5⟩;obtain⟨cc0,cc1⟩:=QE x HS.o;have B5:Hid (Bl w1 w5):=qF B4.o b5;have s5:wo.heap.size+1<=w5.heap.size:=by have:=B5.o.size;omega
      clear g0 g1 g2 g3 b3 b4 b5;go_wp2_with fail;have hb1w:b1<w1.heap.size:=ω
      have HSO':=HSO;go_loopw [8,9,53] (λn m i wr=> ∃ j:Nat,j<=k/\i= .int .i64 j/\n= .int .i64 (Ze x+yj x (fs.take j))/\m= .bool ((fs.take j).any (ku x))/\Bl w5 wr) (λ_ _ i _=>k-(intOf i).toNat)
      case atStart=>exact⟨0,qAD _,rfl,by simp[yj],rfl,qB _⟩
      obtain⟨j,hj,rfl,rfl,rfl,hbq⟩:=hrel;have hzq:=hbq.size;have HBQ:Hid (Bl w1 wr):=qF B5.o hbq;have gx: ∀ jj u,(qj x)[jj]? =some u->wr.cell? ⟨wo.heap.size,jj,none⟩=some u:=λjj u hu=>by rw[(qG HBQ.o).1 _ _ ω];exact KF.o jj u hu
      have hsum:=pW x (fs.take j) (λg hg=>HSO.o g (List.mem_of_mem_take (by rw[List.take_take,Nat.min_eq_left hj];exact hg)));rw[List.length_take,Nat.min_eq_left ω]at hsum;by_cases hjk:j<k
      ·
       obtain⟨y,hy⟩: ∃ y,fs[j]? =some y:=⟨_,U2 ω⟩;have cy: ∀ jj u,(qj y)[jj]? =some u->wr.cell? ⟨b1,o1+j*4+jj,none⟩=some u:=λjj u hu=>by rw[(qG HBQ.o).1 _ _ hb1w,(qG HB1.o).1 _ _ ω];exact H1.o j y hy jj u hu
       have e0:wr.cell? ⟨b1,o1+j*4,none⟩=some (.int .i64 y.trip):=cy 0 _ rfl;have e1:=cy 1 _ rfl;have e2:=cy 2 _ rfl;have e3:=cy 3 _ rfl;have g0:=gx 0 _ rfl;have g1:=gx 1 _ rfl;have g2:=gx 2 _ rfl;have g3:=gx 3 _ rfl;have HY:=qA hy;have HYS:Hid (kz y):=HSO.o y (List.mem_iff_getElem?.2 ⟨j,by rw[List.getElem?_take_of_lt hjk];exact hy⟩);have HSU:Hid (yj x (fs.take (j+1))=yj x (fs.take j)+KO x y):=by show _=_;rw[ql hy,Yg]
       have HAN:Hid ((fs.take (j+1)).any (ku x)=((fs.take j).any (ku x)||ku x y)):=by show _=_;rw[ql hy,List.any_append];simp
       generalize yj x (fs.take j)=n at*
       generalize (fs.take j).any (ku x)=m at*
       obtain⟨n0,n1⟩:=hsum;have hfar:Hid (wo.heap.size<wr.heap.size):=by show _<_;omega
       have a0:(wr.alloc (.cells #[.int .i64 y.trip, .int .i64 y.frm, .int .i64 y.to, .int .i64 y.every] 126)).cell? ⟨wo.heap.size,0,none⟩=some (.int .i64 x.trip):=by rw[(qG (qE (qB wr) _)).1 _ _ hfar.o];exact g0
       clear hy cy gx;by_cases he:y.trip=x.trip
       ·
        have q:(y.trip==x.trip)=true:=by rw[beq_iff_eq];exact he
        obtain⟨y0,y1⟩:=QE y HYS.o;have HSU2:=qA (show Ze x+yj x (fs.take (j+1))=Ze x+n+Ze y by rw[HSU.o,KO,q];simp;omega);have HAN2:=qA (show(fs.take (j+1)).any (ku x)=(m||(decide (y.frm<x.to)&&decide (x.frm<y.to))) by rw[HAN.o,ku,q];rfl);clear HSU HAN he;go_wp2_with fail;obtain⟨wy,hwy⟩:=ε (wr.alloc (.cells #[.int .i64 y.trip, .int .i64 y.frm, .int .i64 y.to, .int .i64 y.every] 126));rw[hwy];have BY:Hid (Bl wr wy):=by rw[<-hwy];exact qE (qB _) _
        have sy:wy.heap.size=wr.heap.size+1:=by rw[<-hwy];simp
        have ky: ∀ jj u,(qj y)[jj]? =some u->wy.cell? ⟨wr.heap.size,jj,none⟩=some u:=by
         intro jj u hu;rw[<-hwy,Uy (hn:=rfl)];simpa[qj]using hu
        clear hwy a0 e0 e1 e2 e3 g0;refine(gG y HYS _).mono ?_;rintro e w6 ⟨rfl,b6⟩;have p1:w6.cell? ⟨wo.heap.size,1,none⟩=some (.int .i64 x.frm):=by rw[(qG b6).1 _ _ ω,(qG BY.o).1 _ _ hfar.o];exact g1
        have p2:w6.cell? ⟨wo.heap.size,2,none⟩=some (.int .i64 x.to):=by rw[(qG b6).1 _ _ ω,(qG BY.o).1 _ _ hfar.o];exact g2
        have q1:w6.cell? ⟨wr.heap.size,1,none⟩=some (.int .i64 y.frm):=by rw[(qG b6).1 _ _ ω];exact ky 1 _ rfl
        have q2:w6.cell? ⟨wr.heap.size,2,none⟩=some (.int .i64 y.to):=by rw[(qG b6).1 _ _ ω];exact ky 2 _ rfl
        have B6:Hid (Bl w5 w6):=qF hbq (qF BY.o b6);clear ky g1 g2 g3 b6;cases m with
        |true=>
         rw[Bool.true_or]at HAN2;go_wp2;go_roundw;case rel=>exact⟨j+1,ω,by go_num,by rw[HSU2.o],by rw[HAN2.o],B6.o⟩
         simp[intOf];omega
        |false=>
         rw[Bool.false_or]at HAN2;by_cases c1:y.frm<x.to
         ·
          by_cases c2:x.frm<y.to
          ·
           have HAN3:=qA (show(fs.take (j+1)).any (ku x)=true by rw[HAN2.o,decide_eq_true c1,decide_eq_true c2];rfl);go_wp2;go_roundw;case rel=>exact⟨j+1,ω,by go_num,by rw[HSU2.o],by rw[HAN3.o],B6.o⟩
           simp[intOf];omega
          have c2':decide (x.frm<y.to)=false:=decide_eq_false c2;have HAN3:=qA (show(fs.take (j+1)).any (ku x)=false by rw[HAN2.o,decide_eq_false c2,Bool.and_false]);go_wp2;go_roundw;case rel=>exact⟨j+1,ω,by go_num,by rw[HSU2.o],by rw[HAN3.o],B6.o⟩
          simp[intOf];omega
         have c1':decide (y.frm<x.to)=false:=decide_eq_false c1;have HAN3:=qA (show(fs.take (j+1)).any (ku x)=false by rw[HAN2.o,decide_eq_false c1,Bool.false_and]);go_wp2;go_roundw;case rel=>exact⟨j+1,ω,by go_num,by rw[HSU2.o],by rw[HAN3.o],B6.o⟩
         simp[intOf];omega
       have q:(y.trip==x.trip)=false:=by rw[U0];exact he
       have HSU2:=qA (show yj x (fs.take (j+1))=n by rw[HSU.o,KO,q];simp);have HAN2:=qA (show(fs.take (j+1)).any (ku x)=m by rw[HAN.o,ku,q];simp);clear HSU HAN he;go_wp2;go_roundw;case rel=>exact⟨j+1,ω,by go_num,by rw[HSU2.o],by rw[HAN2.o],qE hbq _⟩
       simp[intOf];omega
      obtain rfl:j=k:=ω
      have HN:=qA (Aj (pre:=fs.take j) htr0 htr1 HGO.o);have HBW:Hid (Bl w wr):=qF HB1.o HBQ.o;generalize yj x (fs.take j)=n at*
      generalize (fs.take j).any (ku x)=m at*
      obtain⟨n0,n1⟩:=hsum;clear gx;by_cases h256:256<Ze x+n
      ·
       have HE:=qA (HA.o.symm.trans (qU HX.o (by rw[HN.o,U6 h256]) δ));go_wp2;go_ret2;exact⟨kR (by rw[HE.o]) (by rw[HE.o]),HBW.o⟩
      have h256':Ze x+n<=256:=ω
      cases m with
      |true=>
       have HE:=qA (HA.o.symm.trans (qU HX.o (by rw[HN.o,U5 h256,U6 rfl]) δ));clear h256;go_wp2;go_ret2;exact⟨kR (by rw[HE.o]) (by rw[HE.o]),HBW.o⟩
      |false=>
       have HE0:=qA (show Zi ts (fs.take j) x=0 by rw[HN.o,U5 h256];rfl);have HE:=qA ((jS HX.o HE0.o).symm.trans HA.o);have HSN:Hid (∀ g∈fs.take (j+1),kz g):=by
        intro g hg;rw[ql HX.o,List.mem_append]at hg;rcases hg with hg|hg
        · exact HSO.o g hg
        rw[List.mem_singleton]at hg;rw[hg];exact HS.o
       clear h256;go_wp2;go_roundw;case rel=>exact⟨j+1,ω,by go_num,HE,HSN,HBW.o⟩
       simp[intOf];omega
    have HF:=qA kf;have HE:=qA (HA.o.symm.trans (qU HX.o (Yz htr0 htr1 (by rw[HK.o,HFA.o,kf];rfl)) δ));clear kf;go_region_held3 (λw'=>w'.cell? ⟨wo.heap.size,0,none⟩=some (.int .i64 x.trip)/\w'.cell? ⟨wo.heap.size,1,none⟩=some (.int .i64 x.frm)/\w'.cell? ⟨wo.heap.size,2,none⟩=some (.int .i64 x.to)/\w'.cell? ⟨wo.heap.size,3,none⟩=some (.int .i64 x.every)/\w'.cell? ⟨bt,ot+x.trip.toNat*5,none⟩=some (.string xt.id)/\w'.cell? ⟨bt,ot+x.trip.toNat*5+1,none⟩=some (.int .i64 xt.rt)/\w'.cell? ⟨bt,ot+x.trip.toNat*5+2,none⟩=some (.int .i64 xt.cal)/\w'.cell? ⟨bt,ot+x.trip.toNat*5+3,none⟩=some (.bool xt.step)/\w'.cell? ⟨bt,ot+x.trip.toNat*5+4,none⟩=some (xt.v)) (first|exact hold _ (qH (qB _))|exact hold _ (qF (qH (qB _)) b3)|exact hold _ (qF (qF (qH (qB _)) b3) b4)) (first|(go_at_call 123;refine(iO x true HK _).mono ?_;rintro e w3 ⟨rfl,b3⟩)|(go_at_call 124;refine(Fe xt.id xt.rt xt.cal xt.step xt.v xt.calls x HS.o false HF B _ ((Jv.bl HTO.o (qF HB1.o (qF (qH (qB _)) b3)) hB).calls) (by have:=b3.size;simp at this;omega) HTO.o.ok HTO.o.len).mono ?_;rintro e w4 ⟨rfl,b4⟩))
    all_goals
     go_wp2;go_ret2;exact⟨kR (by rw[HE.o]) (by rw[HE.o]),qF HB1.o (qF (qF (qH (qB _)) b3) b4)⟩
   have HK:=qA ks;have HE:=qA (HA.o.symm.trans (qU HX.o (Yz htr0 htr1 (by rw[ks];rfl)) δ));clear ks;first
   |
    go_region_with ((first
     |(go_at_call 123;refine(iO x false HK _).mono ?_;rintro e w3 ⟨rfl,b3⟩)))
   |fail
   all_goals
    go_wp2;go_ret2;exact⟨kR (by rw[HE.o]) (by rw[HE.o]),qF HB1.o (qF (qH (qB _)) b3)⟩
  have HE:=qA (HA.o.symm.trans (jy ω));go_wp2;go_ret2;exact⟨kR (by rw[HE.o]) (by rw[HE.o]),hbl⟩
 obtain⟨a1,c1,rfl,m1,rfl⟩:=ha.empty ω;have HR:=qA (show r=(0,0) by rw[<-H.o];rfl);go_enter func53,ntmps53
 go_wp2_with fail;refine wp_loop_rounds 1 ?_;rw[rounds_succ];go_wp2;go_ret2;exact⟨kR (by rw[HR.o]) (by rw[HR.o]),qB _⟩
