/- Contracts, proved. Conditions: theirs. -/
import Derived.Test.YtakedkcjplfgeaaGreatDoorMXA
set_option maxRecDepth 1000000
set_option maxHeartbeats 32000000
open Go.Proofs.Tryz
namespace Go.Proofs.YtakedkcjplfgeaaGreatDoor.Frq
theorem iK (f:FreqD):(kz f/\QH f=true)∨
  ((f.frm<0∨(0<=f.frm/\172800<f.frm)∨(0<=f.frm/\f.frm<=172800/\f.to<0)∨(0<=f.frm/\f.frm<=172800/\0<=f.to/\172800<f.to)∨(0<=f.frm/\f.frm<=172800/\0<=f.to/\f.to<=172800/\f.to<=f.frm)∨
   (0<=f.frm/\f.frm<=172800/\0<=f.to/\f.to<=172800/\f.frm<f.to/\f.every<1)∨(0<=f.frm/\f.frm<=172800/\0<=f.to/\f.to<=172800/\f.frm<f.to/\1<=f.every/\86400<f.every))/\QH f=false):=by
 unfold QH;by_cases h:kz f
 · exact .inl ⟨h,decide_eq_true h⟩
 refine .inr ⟨?_,decide_eq_false h⟩;unfold kz at h;omega
def QI (f:FreqD) (n:Nat):List Int:=(List.range n).map λk:Nat=>f.frm+k*f.every
def xX (f:FreqD):List Int:=if kz f then QI f (Ze f).toNat else[]
theorem iT (f:FreqD) (n:Nat):QI f (n+1)=QI f n++[f.frm+n*f.every]:=by simp[QI,List.range_succ]
theorem Zt (f:FreqD) (n:Nat):(QI f n).length=n:=by simp[QI]
theorem uy (f:FreqD):(xX f).length<=172800:=by
 unfold xX;split
 ·
  rename_i h;have:=QE f h;rw[Zt];omega
 simp
theorem IM (f:FreqD) (h:kz f) (k:Nat) (hk:(k:Int)<Ze f):0<=f.frm+k*f.every/\f.frm+k*f.every<=172799:=by
 have:=(ru f h k).2 hk;obtain⟨h1,h2,h3,h4,h5⟩:=h;have:=Int.mul_nonneg (a:=(k:Int)) (b:=f.every) ω ω;omega
theorem DT (k:Nat) (e:Int):(((k+1:Nat):Int))*e=k*e+e:=by
 rw[show((k+1:Nat):Int)=(k:Int)+1 by omega,Int.add_mul,Int.one_mul]
theorem iR {cs:List CallD} {x0:CallD} {start:Int} (h0:cs[0]? =some x0) (h:cs.all (rO x0.depart start)=true):0<=start/\start<=172800:=by
 cases cs with
 |nil=>simp at h0
 |cons c t=>
  simp only[List.getElem?_cons_zero,qAA]at h0;subst h0;simp only[List.all_cons,Bool.and_eq_true,rO,Z4,decide_eq_true_eq]at h;omega
end Go.Proofs.YtakedkcjplfgeaaGreatDoor.Frq
namespace Go.Proofs.YtakedkcjplfgeaaGreatDoor.Fq
open Go.RowKit
open Frq
theorem KX (f:FreqD) (b:Bool) (H:Hid (QH f=b)) (w:World):Calls prog 170 #[.agg #[f.trip,f.frm,f.to,f.every]] w λe w'=>e=.returned (b:Z)/\Bl w w':=by
 rcases iK f with⟨h,k⟩|⟨h,k⟩
 ·
  obtain rfl:b=true:=H.o.symm.trans k;obtain⟨h1,h2,h3,h4,h5⟩:=h;clear k H;go_enter func170,ntmps170
  go_wp2;go_ret;exact⟨by first|rfl|(simp;omega),qE (qB _) _⟩
 obtain rfl:b=false:=H.o.symm.trans k;clear k H;rcases h with h1|⟨h1,h2⟩|⟨h1,h2,h3⟩|⟨h1,h2,h3,h4⟩|⟨h1,h2,h3,h4,h5⟩|⟨h1,h2,h3,h4,h5,h6⟩|⟨h1,h2,h3,h4,h5,h6,h7⟩
 all_goals
  go_enter func170,ntmps170
  go_wp2;go_ret;exact⟨by first|rfl|(simp;done)|(simp;omega),qE (qB _) _⟩
theorem Hq (f:FreqD) (h:Hid (kz f)) (w:World):Calls prog 172 #[.agg #[f.trip,f.frm,f.to,f.every]] w λe w'=>e=.returned ((Ze f):Z)/\Bl w w':=by
 have HE:=qA (Ew f h.o);have hb:=QE f h.o;have HC:Hid ((f.to-f.frm-1) / f.every+1=Ze f):=rfl;obtain⟨b0,b1⟩:=hb;rw[<-HC.o]at b0 b1;obtain⟨h1,h2,h3,h4,h5⟩:=h.o;go_enter func172,ntmps172
 go_wp2;go_ret;exact⟨qR (by first|exact HE.o|exact HC.o),qE (qB _) _⟩
def wC (t start first:Int):Bool:=(decide (0<=start)&&decide (start<=172800))&&Z4 t first start
def Pg (t start first:Int) (e:Ending):Prop:= ∃ n,e=.returned (.tuple #[.int .i64 n,.bool (wC t start first)])/\(wC t start first=true->n=t-first+start)
theorem o6 {t start first n:Int} {b:Bool} (hb:wC t start first=b) (hn:wC t start first=true->n=t-first+start):Pg t start first (.returned (.tuple #[n,b])):=⟨n,by rw[hb],hn⟩
theorem KY (t start first:Int):wC t start first=true↔(0<=start/\start<=172800)/\(0<=t-first+start/\t-first+start<=172800):=by simp[wC,Z4]
theorem QU {t start first:Int} (h: ¬ ((0<=start/\start<=172800)/\(0<=t-first+start/\t-first+start<=172800))):wC t start first=false:=by
 cases k:wC t start first with
 |false=>rfl
 |true=>exact absurd ((KY _ _ _).1 k) h
theorem rC (a b:Int) (h:b<=a) (ha:zB a) (hb:zB b):IntKind.u64.wrap (IntKind.u64.wrap a-IntKind.u64.wrap b)=a-b:=by
 unfold zB at*;have e: ∀ n,IntKind.u64.wrap n=n%18446744073709551616:=λn=>by simp[IntKind.wrap,IntKind.bits,IntKind.signed]
 rw[e,e,e];omega
theorem Bg (t start first:Int) (ht:zB t) (hf:zB first) (w:World):Calls prog 268 #[t,start,first] w λe w'=>Pg t start first e/\w=w':=by
 by_cases h0:start<0
 ·
  have HN:=qA (QU (t:=t) (start:=start) (first:=first) ω);go_enter func268,ntmps268
  go_wp2;go_ret2;exact⟨o6 HN.o (λk=>absurd (HN.o.symm.trans k) δ),rfl⟩
 have h0':0<=start:=ω
 clear h0;by_cases h1:172800<start
 ·
  have HN:=qA (QU (t:=t) (start:=start) (first:=first) ω);go_enter func268,ntmps268
  go_wp2;go_ret2;exact⟨o6 HN.o (λk=>absurd (HN.o.symm.trans k) δ),rfl⟩
 have h1':start<=172800:=ω
 clear h1;by_cases hge:first<=t
 ·
  have e1:=rC t first hge ht hf;unfold zB at ht hf;obtain⟨t0,t1⟩:=ht;obtain⟨f0,f1⟩:=hf;by_cases hd:t-first<=172800
  ·
   by_cases hn:t-first+start<=172800
   ·
    have HN:=qA ((KY t start first).2 ω);have HV:=qA (show start+(t-first)=t-first+start by omega);go_enter func268,ntmps268
    go_wp2;go_ret2;exact⟨o6 (HN.o.trans (by first|rfl|(symm;simp;omega))) (λ_=>HV.o),rfl⟩
   have HN:=qA (QU (t:=t) (start:=start) (first:=first) ω);go_enter func268,ntmps268
   go_wp2;go_ret2;exact⟨o6 (HN.o.trans (by first|rfl|(symm;simp;omega))) (λk=>absurd (HN.o.symm.trans k) δ),rfl⟩
  have HN:=qA (QU (t:=t) (start:=start) (first:=first) ω);go_enter func268,ntmps268
  go_wp2;go_ret2;exact⟨o6 HN.o (λk=>absurd (HN.o.symm.trans k) δ),rfl⟩
 have hge':t<first:=ω
 have e1:=rC first t ω hf ht;clear hge;unfold zB at ht hf;obtain⟨t0,t1⟩:=ht;obtain⟨f0,f1⟩:=hf;by_cases hd:first-t<=172800
 ·
  by_cases hn:0<=t-first+start
  ·
   have HN:=qA ((KY t start first).2 ω);have HV:=qA (show start+(t-first)=t-first+start by omega);go_enter func268,ntmps268
   go_wp2;go_ret2;exact⟨o6 (HN.o.trans (by first|rfl|(symm;simp;omega))) (λ_=>HV.o),rfl⟩
  have HN:=qA (QU (t:=t) (start:=start) (first:=first) ω);go_enter func268,ntmps268
  go_wp2;go_ret2;exact⟨o6 (HN.o.trans (by first|rfl|(symm;simp;omega))) (λk=>absurd (HN.o.symm.trans k) δ),rfl⟩
 have HN:=qA (QU (t:=t) (start:=start) (first:=first) ω);go_enter func268,ntmps268
 go_wp2;go_ret2;exact⟨o6 HN.o (λk=>absurd (HN.o.symm.trans k) δ),rfl⟩
def Gq (first start:Int) (c:CallD):Bool:=wC c.arrive start first&&wC c.depart start first
theorem rY {cs:List CallD} {x0:CallD} {start:Int} (h0:cs[0]? =some x0) (h: ∀ x∈cs,Gq x0.depart start x=true):jo cs start=(cs.map (QT x0.depart start),0):=by
 refine XJ h0 ?_;rw[List.all_eq_true];intro x hx;have:=h x hx;unfold Gq wC at this;unfold rO;simp only[Bool.and_eq_true]at this ⊢;exact⟨this.1.2,this.2.2⟩
theorem bn {cs:List CallD} {x0 x:CallD} {start:Int} (h0:cs[0]? =some x0) (hx:x∈cs) (h:Gq x0.depart start x=false):jo cs start=([],10):=by
 cases ha:cs.all (rO x0.depart start)with
 |true=>
  obtain⟨s0,s1⟩:=iR h0 ha;rw[List.all_eq_true]at ha;have k:=ha x hx;unfold rO at k;unfold Gq wC at h;simp only[Bool.and_eq_true]at k;rw[k.1,k.2]at h;simp[s0,s1]at h
 |false=>
  have: ∃ y∈cs,rO x0.depart start y=false:=by
   rw[List.all_eq_false]at ha;obtain⟨y,hy,hn⟩:=ha;exact⟨y,hy,by simpa using hn⟩
  obtain⟨y,hy,hn⟩:=this;exact VY h0 hy hn
theorem oI (id:Φ) (rt cal:Int) (step:Bool) (v:Value) (cs:List CallD) (start:Int) (B:Nat) (w:World) (hcs:CallsIn B w v cs) (hB:B<=w.heap.size) (hok: ∀ c∈cs,Ik c) (hlen:cs.length<=1000):
  Calls prog 229 #[.agg #[id,rt,cal,step,v],start] w λe w'=>Nw cs start e w'/\Bl w w':=by
 obtain⟨i0,hi,hz0,hz1,hz2⟩:=info_parts dS;have HC:=qA hcs;have HO:=qA hok;clear hcs hok;by_cases hlen0:0<cs.length
 ·
  obtain⟨b,o,cap,rfl,hl1,hl2,hbB,hcell⟩:=HC.o.open hlen0;obtain⟨x0,hx0⟩: ∃ x0,cs[0]? =some x0:=⟨_,U2 hlen0⟩;have d2:=hcell 0 x0 hx0 2 _ rfl;rw[show o+0*5+2=o+2 by omega]at d2;have hlt:b<w.heap.size:=ω
  have HX0:=qA hx0;have HCell:=qA hcell;have q0:((cs.length:Int)==0)=false:=π
  clear hcell hx0 HC;go_enter func229,ntmps229
  go_wp2_with fail;obtain⟨w1,hw1⟩:=ε (w.alloc (.cells #[id,rt,cal,step,(b,o,cs.length,cap)] 56));have c4:w1.cell? (w.heap.size,4)=some ((b,o,cs.length,cap):Z):=by rw[<-hw1,Uy (hn:=rfl)];rfl
  have s1:w1.heap.size=w.heap.size+1:=by rw[<-hw1];simp
  have b1:Bl w w1:=by rw[<-hw1];exact qE (qB _) _
  rw[hw1];have S1:=qA s1;have C4:=qA c4;clear hw1 d2 s1 c4;go_loopw [7,8] (λvo i wr=> ∃ k:Nat,k<=cs.length/\i=k/\(wr.ownsRow w1.heap.size 58 5 vo k (((cs.take k).map (QT x0.depart start)).flatMap callCells)/\(∀ x∈cs.take k,Gq x0.depart start x=true))/\Bl w1 wr) (λ_ i _=>cs.length-(intOf i).toNat)
  case atStart=>exact⟨0,qAD _,rfl,⟨World.ownsRow_nil _ _ _ _,σ⟩,qB _⟩
  obtain⟨k,hk,rfl,hinv,hb⟩:=hrel;have HI:=qA hinv;clear hinv;have e4:wr.cell? (w.heap.size,4)=some ((b,o,cs.length,cap):Z):=by rw[(qG hb).1 _ _ (by rw[S1.o];omega)];exact C4.o
  have hbw:=b1.trans (hb.mono (by rw[S1.o];omega):Below w.heap.size w1 wr);have hzb:b<wr.heap.size:=by have:=hbw.size;omega
  have hzw:w.heap.size<wr.heap.size:=by have:=hb.size;rw[S1.o]at this;omega
  by_cases hltk:k<cs.length
  ·
   obtain⟨x,hx⟩: ∃ x,cs[k]? =some x:=⟨_,U2 hltk⟩;have hc: ∀ j u,(callCells x)[j]? =some u->wr.cell? ⟨b,o+k*5+j,none⟩=some u:=λj u hu=>by rw[(qG hbw).1 _ _ ω];exact HCell.o k x hx j u hu
   have g0:wr.cell? (b,o+k*5)=some (.int .i64 x.stop):=hc 0 _ rfl;have g1:=hc 1 _ rfl;have g2:=hc 2 _ rfl;have g3:=hc 3 _ rfl;have g4:=hc 4 _ rfl;have HX:=qA hx;clear hx hc;have HM:Hid (x∈cs):=Uz HX.o;have HT:=qA (ql HX.o);go_wp2_with fail;refine(Bg x.arrive start x0.depart (HO.o x HM.o).1 (HO.o x0 (Uz HX0.o)).2 _).mono ?_;rintro e w2 ⟨⟨n1,rfl,N1⟩,rfl⟩;obtain⟨p1,hp1⟩:=ε (wC x.arrive start x0.depart);rw[hp1]at N1;rw[hp1];have P1:=qA (And.intro hp1 N1);clear hp1 N1;go_wp2_with fail;refine(Bg x.depart start x0.depart (HO.o x HM.o).2 (HO.o x0 (Uz HX0.o)).2 _).mono ?_;rintro e w3 ⟨⟨n2,rfl,N2⟩,rfl⟩;obtain⟨p2,hp2⟩:=ε (wC x.depart start x0.depart);rw[hp2]at N2;rw[hp2];have P2:=qA (And.intro hp2 N2);clear hp2 N2;cases p1 with
   |false=>
    have HR:=qA (bn HX0.o HM.o (show Gq x0.depart start x=false by unfold Gq;rw[P1.o.1];rfl));go_wp2;go_ret2;exact⟨lW HR.o zJ,qF b1 (qE hb _)⟩
   |true=>
    cases p2 with
    |false=>
     have HR:=qA (bn HX0.o HM.o (show Gq x0.depart start x=false by unfold Gq;rw[P2.o.1,Bool.and_false]));go_wp2;go_ret2;exact⟨lW HR.o zJ,qF b1 (qE hb _)⟩
    |true=>
     obtain⟨rfl⟩:n1=x.arrive-x0.depart+start:=P1.o.2 rfl;obtain⟨rfl⟩:n2=x.depart-x0.depart+start:=P2.o.2 rfl;have HOK:=qA (show Gq x0.depart start x=true by unfold Gq;rw[P1.o.1,P2.o.1];rfl);go_wp2_with (at_builtin;refine wpList_append_own _ rfl _ _ 54 rfl w1.heap.size 58 i0 (.agg #["","","",false,false]) 5 32 underlying54 hi hz0 hz1 hz2 rfl δ _ _ _ rfl ((HI.o.1.alloc _).alloc _) (wr.heap.size+1,0) 1 1 [.int .i64 x.stop,.int .i64 (x.arrive-x0.depart+start),.int .i64 (x.depart-x0.depart+start),.bool x.board,.bool x.alight] rfl rfl ?c1 ?c2 ?c3 ?c4 ?c5 ?_)
     case c1=>exact Kt _ _ σ (λj u h=>η)
     case c2=>simp[Value.oneCell']
     case c3=>unfold maxLen;omega
     case c4=>omega
     case c5=>have:=hb.size;simp;omega
     intro v' w2 hown' hgrow _;have hb2:Bl w1 w2:=((hb.alloc hb.size _).alloc (by have:=hb.size;simp;omega) _).grown hgrow (by have:=hb.size;simp;omega) (λk hk=>(qAG HI.o.1 k hk).1);have HOwn:=qA hown';clear hown' hgrow;go_wp2;go_roundw;case rel=>
      refine⟨k+1,ω,by go_num,⟨?_, ?_⟩,hb2⟩
      ·
       rw[HT.o,List.map_append,List.map_cons,List.map_nil,Ky];have ho:=HOwn.o;rw[<-List.map_take]at ho;exact ho
      intro y hy;rw[HT.o]at hy;rcases List.mem_append.1 hy with hy|hy
      · exact HI.o.2 y hy
      rw[List.mem_singleton.1 hy];exact HOK.o
     simp[intOf];omega
  have hkn:k=cs.length:=ω
  have HF:Hid (wr.ownsRow w1.heap.size 58 5 u7 (cs.map (QT x0.depart start)).length ((cs.map (QT x0.depart start)).flatMap callCells)):=by
   have:=HI.o.1;rw[U9 ω,hkn]at this;show World.ownsRow _ _ _ _ _ _ _
   rw[U4];exact this
  have HR:=qA (rY HX0.o (λy hy=>HI.o.2 y (by rw[U9 ω];exact hy)));clear hkn;go_wp2;go_ret2;exact⟨lW HR.o (zq (λ_=>rfl) HF.o),qF b1 hb⟩
 obtain⟨a,cap,rfl,hl2,rfl⟩:=HC.o.empty ω;go_enter func229,ntmps229
 go_wp2;go_ret2;exact⟨lW (XI start) zJ,qE (qB _) _⟩
theorem Dy (f:FreqD) (w:World):
  Calls prog 228 #[.agg #[f.trip,f.frm,f.to,f.every]] w λe w'=> ∃ v,e=.returned v/\Wy w'.heap.size w' v (xX f)/\Bl w w':=by
 obtain⟨i0,hi,hz0,hz1,hz2⟩:=info_parts yD;rcases Zr f with⟨hs,k⟩|⟨_,k⟩
 ·
  have HS:=qA hs;have HK:=qA k;obtain⟨c0,c1⟩:=QE f hs;obtain⟨h1,h2,h3,h4,h5⟩:=hs;clear k;go_enter func228,ntmps228
  go_wp2_with fail;refine(KX f true HK _).mono ?_;rintro e w2 ⟨rfl,b2⟩;obtain⟨w1,hw1⟩:=ε (w.alloc (.cells #[f.trip,f.frm,f.to,f.every] 126));rw[hw1]at b2;have b1:Bl w w1:=by rw[<-hw1];exact qE (qB _) _
  have s1:w1.heap.size=w.heap.size+1:=by rw[<-hw1];simp
  have k0: ∀ j u,(qj f)[j]? =some u->w2.cell? ⟨w.heap.size,j,none⟩=some u:=by
   intro j u hu;rw[(qG b2).1 _ _ ω,<-hw1,Uy (hn:=rfl)];simpa[qj]using hu
  have K0:=qA k0;have c11:=k0 1 _ rfl;have hsz:w.heap.size<w2.heap.size:=by have:=b2.size;omega
  have B2:=qA (qF b1 b2);clear k0 hw1 b2 b1 s1;go_wp2_with fail;clear c11;go_loopw [3,4] (λvo t wr=> ∃ k:Nat,(k:Int)<=Ze f/\t=.int .i64 (f.frm+k*f.every)/\wr.ownsRow w2.heap.size 3 1 vo (QI f k).length ((QI f k).flatMap qi)/\Bl w2 wr) (λ_ t _=>(f.to-intOf t).toNat)
  case atStart=>exact⟨0,ω,σ,World.ownsRow_nil _ _ _ _,qB _⟩
  obtain⟨k,hk,rfl,hown,hb⟩:=hrel;have HO:=qA hown;clear hown;have c2:wr.cell? (w.heap.size,2)=some (f.to:Z):=by rw[(qG hb).1 _ _ hsz];exact K0.o 2 _ rfl
  have c3:wr.cell? (w.heap.size,3)=some (f.every:Z):=by rw[(qG hb).1 _ _ hsz];exact K0.o 3 _ rfl
  have hzw:=hb.size;have hiff:=ru f HS.o k;by_cases hlt:(k:Int)<Ze f
  ·
   have hto:=hiff.2 hlt;have hbd:=IM f HS.o k hlt;have HM:=qA (DT k f.every);have HSN:=qA (iT f k);have HLN:=qA (Zt f k);obtain⟨t,ht⟩:=ε (f.frm+k*f.every);rw[ht]at hto hbd ⊢;have HT:=qA ht;obtain⟨t0,t1⟩:=hbd;clear hiff ht;go_wp2_with (at_builtin;refine wpList_append_own _ rfl _ _ 73 rfl w2.heap.size 3 i0 "" 1 8 underlying73 hi hz0 hz1 hz2 rfl δ _ _ _ rfl (HO.o.alloc _) (wr.heap.size,0) 1 1 [t] rfl rfl ?c1 ?c2 ?c3 ?c4 ?c5 ?_)
   case c1=>exact Kt _ _ σ (λj u h=>η)
   case c2=>simp[Value.oneCell']
   case c3=>rw[HLN.o];unfold maxLen;omega
   case c4=>rw[HLN.o];omega
   case c5=>simp;omega
   intro v' w5 own5 gr5 _;have b5:Bl w2 w5:=(hb.alloc hb.size _).grown gr5 τ (λk hk=>(qAG HO.o k hk).1);have O5:=qA own5;have e3:w5.cell? (w.heap.size,3)=some (f.every:Z):=by rw[(qG b5).1 _ _ hsz];exact K0.o 3 _ rfl
   clear own5 gr5;go_wp2;go_roundw;case rel=>
    refine⟨k+1,ω, ?_, ?_,b5⟩
    · rw[HM.o,<-HT.o];go_num
    rw[HSN.o,U1,Ky,HT.o];exact O5.o
   simp[intOf];omega
  have hge:f.to<=f.frm+k*f.every:=by
   rcases Int.lt_or_le (f.frm+k*f.every) f.to with h|h
   · exact absurd (hiff.1 h) hlt
   exact h
  have HF:Hid (wr.ownsRow w2.heap.size 3 1 u3 (xX f).length ((xX f).flatMap qi)):=by
   have:=HO.o;rw[show k=(Ze f).toNat by omega]at this;show World.ownsRow _ _ _ _ _ _ _
   unfold xX;rw[U6 HS.o];exact this
  clear hiff;go_wp2;go_ret;exact⟨_,rfl,zq kY HF.o,qF B2.o hb⟩
 have HK:=qA k;have HE:Hid (xX f=[]):=by
  show _=_
  unfold xX;rw[U5 (of_decide_eq_false k)]
 clear k;go_enter func228,ntmps228
 go_wp2_with fail;refine(KX f false HK _).mono ?_;rintro e w2 ⟨rfl,b2⟩;go_wp2;go_ret;exact⟨_,rfl,by rw[HE.o];exact zJ,qF (qE (qB _) _) b2⟩
theorem Jh {f:FreqD} (h:kz f):xX f=QI f (Ze f).toNat:=by unfold xX;rw[U6 h]
theorem aS (f:FreqD) {n k:Nat} (h:k<n):(QI f n)[k]? =some (f.frm+k*f.every):=by simp[QI,h]
theorem iU {f:FreqD} (h:kz f):(xX f)[0]? =some f.frm:=by
 have:=QE f h;rw[Jh h,aS f ω];simp
theorem pR {f:FreqD} (h:kz f):(xX f)[(xX f).length-1]? =some (xA f):=by
 have:=QE f h;rw[Jh h,Zt,aS f ω];unfold xA;rw[show(((Ze f).toNat-1:Nat):Int)=Ze f-1 by omega]
theorem uz {f:FreqD} (h:kz f):0<(xX f).length:=by
 have:=QE f h;rw[Jh h,Zt];omega
theorem FU {cs:List CallD} {x:CallD} (h:cs[0]? =some x) (s:Int):((jo cs s).2 != 10)=((jo cs s).2==0):=by
 cases cs with
 |nil=>simp at h
 |cons c t=>
  unfold jo;simp only;split<;>rfl
theorem CZ (cs:List CallD) (f:FreqD):Y3 cs f=((jo cs f.frm).2 != 10&&(jo cs (xA f)).2 != 10):=by
 cases cs with
 |nil=>rfl
 |cons c t=>
  rw[FU (x:=c) rfl,FU (x:=c) rfl];rfl
theorem Be (id:Φ) (rt cal:Int) (step:Bool) (v:Value) (cs:List CallD) (f:FreqD) (hf:kz f) (r:Bool) (H:Hid (Y3 cs f=r)) (B:Nat) (w:World) (hcs:CallsIn B w v cs) (hB:B<=w.heap.size) (hok: ∀ c∈cs,Ik c) (hlen:cs.length<=1000):
  Calls prog 171 #[.agg #[id,rt,cal,step,v],.agg #[f.trip,f.frm,f.to,f.every]] w λe w'=>e=.returned (r:Z)/\Bl w w':=by
 have HC:=qA hcs;have HO:=qA hok;have HF:=qA hf;obtain⟨va,cap,rfl,-,-,-⟩:=hcs;have HP:=qA (uz hf);have HS0:=qA (iU hf);have HSL:=qA (pR hf);have HLE:=qA (uy f);clear hok hf;go_enter func171,ntmps171
 go_wp2_with fail;obtain⟨w1,hw1⟩:=ε ((w.alloc (.cells #[id,rt,cal,step,.slice va cs.length cap] 56)).alloc (.cells #[f.trip,f.frm,f.to,f.every] 126));rw[hw1];have b1:Bl w w1:=by rw[<-hw1];exact qE (qE (qB _) _) _
 have s1:w1.heap.size=w.heap.size+2:=by rw[<-hw1];simp
 have kt: ∀ j u,(tripCells ⟨id,rt,cal,step,.slice va cs.length cap,cs⟩)[j]? =some u->w1.cell? ⟨w.heap.size,j,none⟩=some u:=by
  intro j u hu;rw[<-hw1,(qG (qE (qB _) _)).1 _ _ σ,Uy (hn:=rfl)];simpa[tripCells]using hu
 have KT:=qA kt;have B1:=qA b1;clear kt hw1 b1;refine(Dy f w1).mono ?_;rintro e w2 ⟨v2,rfl,i2,b2⟩;have hs2:=b2.size;obtain⟨bl,ol,capl,rfl,ll,ml,hbl,hcl⟩:=i2.open HP.o;have H1:=qA (hcl 0 _ HS0.o 0 _ rfl);have H2:=qA (hcl _ _ HSL.o 0 _ rfl);have B2:=qA (qF B1.o b2);have B12:=qA b2;have hpos:=HP.o;have hle:=HLE.o;clear i2 hcl b2;generalize (xX f).length=n at*
 obtain⟨m,rfl⟩: ∃ m,n=m+1:=⟨n-1,ω⟩;have kc: ∀ (w':World),Bl w2 w'-> ∀ j u,(tripCells ⟨id,rt,cal,step,.slice va cs.length cap,cs⟩)[j]? =some u->w'.cell? ⟨w.heap.size,j,none⟩=some u:=λw' hb j u hu=>((qG hb).1 _ _ ω).trans (((qG B12.o).1 _ _ ω).trans (KT.o j u hu))
 have KC:=qA kc;clear kc;have t0:=KC.o w2 (qB _) 0 _ rfl;have t1:=KC.o w2 (qB _) 1 _ rfl;have t2:=KC.o w2 (qB _) 2 _ rfl;have t3:=KC.o w2 (qB _) 3 _ rfl;have t4:=KC.o w2 (qB _) 4 _ rfl;have c0:w2.cell? (bl,ol)=some (f.frm:Z):=by have:=H1.o;simpa using this
 have i0:(0:Int)<((m+1:Nat):Int):=ω
 have hold: ∀ w':World,Bl w2 w'->w'.cell? (w.heap.size,0)=some (.string id)/\w'.cell? (w.heap.size,1)=some (rt:Z)/\w'.cell? (w.heap.size,2)=some (cal:Z)/\w'.cell? (w.heap.size,3)=some (step:Z)/\w'.cell? (w.heap.size,4)=some (.slice va cs.length cap)/\w'.cell? (bl,ol)=some (f.frm:Z):=λw' hb=>⟨((qG hb).1 _ _ ω).trans t0,((qG hb).1 _ _ ω).trans t1,((qG hb).1 _ _ ω).trans t2,((qG hb).1 _ _ ω).trans t3,((qG hb).1 _ _ ω).trans t4,((qG hb).1 _ _ ω).trans c0⟩
 have HI1:Hid (zB f.frm):=by obtain⟨h1,h2,h3,h4,h5⟩:=HF.o;constructor<;>omega
 have HI2:Hid (zB (xA f)):=by
  obtain⟨l0,l1,l2⟩:=gp f HF.o;obtain⟨h1,h2,h3,h4,h5⟩:=HF.o;unfold xA at*;constructor<;>omega
 go_wp2_with fail;go_region_held3 (λw'=>w'.cell? (w.heap.size,0)=some (.string id)/\w'.cell? (w.heap.size,1)=some (rt:Z)/\w'.cell? (w.heap.size,2)=some (cal:Z)/\w'.cell? (w.heap.size,3)=some (step:Z)/\w'.cell? (w.heap.size,4)=some (.slice va cs.length cap)/\w'.cell? (bl,ol)=some (f.frm:Z)) (first|exact hold _ (qH (qB _))|exact hold _ (qF (qH (qB _)) b3)) (first|(go_at_call 229;refine(oI id rt cal step _ cs f.frm B _ (HC.o.below ((qF B2.o (qH (qB _))).mono hB)) τ HO.o hlen).mono ?_;rintro e w3 ⟨⟨v3,rfl,-⟩,b3⟩))
 have B3:Hid (Bl w2 w3):=qF (qH (qB _)) b3;have s3:=B3.o.size;clear hold t0 t1 t2 t3 t4 c0 b3;have t0:=KC.o w3 B3.o 0 _ rfl;have t1:=KC.o w3 B3.o 1 _ rfl;have t2:=KC.o w3 B3.o 2 _ rfl;have t3:=KC.o w3 B3.o 3 _ rfl;have t4:=KC.o w3 B3.o 4 _ rfl;have c0:w3.cell? ⟨bl,ol+m,none⟩=some ((xA f):Z):=by rw[(qG B3.o).1 _ _ hbl];have:=H2.o;simpa using this
 have wl:IntKind.i64.wrap (((m+1:Nat):Int)-1)=(m:Int):=by rw[IntWalk.i64_in _ ω];omega
 have wl0:IntKind.i64.wrap (m:Int)=(m:Int):=IntWalk.i64_in _ ω;have wl1:IntKind.i64.wrap ((m:Int)+1-1)=(m:Int):=by rw[IntWalk.i64_in _ ω];omega
 have i1:(m:Int)<(m:Int)+1:=ω
 have i3:(0:Int)<=(m:Int):=ω
 have hold: ∀ w':World,Bl w3 w'->w'.cell? (w.heap.size,0)=some (.string id)/\w'.cell? (w.heap.size,1)=some (rt:Z)/\w'.cell? (w.heap.size,2)=some (cal:Z)/\w'.cell? (w.heap.size,3)=some (step:Z)/\w'.cell? (w.heap.size,4)=some (.slice va cs.length cap)/\w'.cell? ⟨bl,ol+m,none⟩=some ((xA f):Z):=λw' hb=>⟨((qG hb).1 _ _ ω).trans t0,((qG hb).1 _ _ ω).trans t1,((qG hb).1 _ _ ω).trans t2,((qG hb).1 _ _ ω).trans t3,((qG hb).1 _ _ ω).trans t4,((qG hb).1 _ _ ω).trans c0⟩
 go_wp2_with fail;go_region_held3 (λw'=>w'.cell? (w.heap.size,0)=some (.string id)/\w'.cell? (w.heap.size,1)=some (rt:Z)/\w'.cell? (w.heap.size,2)=some (cal:Z)/\w'.cell? (w.heap.size,3)=some (step:Z)/\w'.cell? (w.heap.size,4)=some (.slice va cs.length cap)/\w'.cell? ⟨bl,ol+m,none⟩=some ((xA f):Z)) (first|exact hold _ (qH (qB _))|exact hold _ (qF (qH (qB _)) b4)) (first|(go_at_call 229;refine(oI id rt cal step _ cs (xA f) B _ (HC.o.below ((qF B2.o (qF B3.o (qH (qB _)))).mono hB)) τ HO.o hlen).mono ?_;rintro e w4 ⟨⟨v4,rfl,-⟩,b4⟩))
 have BF:Hid (Bl w w4):=qF (qF B2.o B3.o) (qF (qH (qB _)) b4);have HR:Hid (((jo cs f.frm).2 != 10&&(jo cs (xA f)).2 != 10)=r):=by
  have:=H.o;rw[CZ]at this;exact this
 obtain⟨e1,he1⟩:=ε ((jo cs f.frm).2);obtain⟨e2,he2⟩:=ε ((jo cs (xA f)).2);rw[he1,he2]at HR;rw[he1,he2];clear he1 he2 hold t0 t1 t2 t3 t4 c0;rcases Bool.eq_false_or_eq_true (e1 != 10)with q1|q1
 ·
  rcases Bool.eq_false_or_eq_true (e2 != 10)with q2|q2
  all_goals
   have HB:Hid (r=_):=HR.o.symm.trans (by rw[q1,q2]);go_wp2;go_ret;exact⟨qO (by rw[HB.o];rfl),BF.o⟩
 have HB:Hid (r=_):=HR.o.symm.trans (by rw[q1]);go_wp2;go_ret;exact⟨qO (by rw[HB.o];rfl),BF.o⟩
theorem aB (v:Value) (fs:List FreqD) (vt:Value) (ts:List TripD) (r:Int×Int) (H:Hid (qZ fs ts=r)) (B:Nat) (w:World) (ha:xG B w v fs) (ht:WV B w vt ts) (hB:B<=w.heap.size):
  Calls prog 98 #[v,vt] w λe w'=>e=.returned (.tuple #[r.1,r.2])/\Bl w w':=by
 have HT:=qA ht;have hT: ∃ at' capt,vt=.slice at' ts.length capt/\capt<=9223372036854775807/\ts.length<=capt:=by
  obtain⟨a,c,h1,h2,h3,_⟩:=ht.sl;exact⟨a,c,h1,by unfold maxLen at h3;exact h3,h2⟩
 obtain⟨at',capt,rfl,tcap,tlen⟩:=hT;clear ht;by_cases h64:64<fs.length
 ·
  obtain⟨b1,o1,cap1,rfl,l1,m1,hb1,-⟩:=ha.open ω;have HR:=qA (show r=(0,5) by rw[<-H.o];unfold qZ;rw[U6 h64]);have hi:(64:Int)<(fs.length:Int):=ω
  clear ha;go_enter func98,ntmps98
  go_wp2;go_ret2;exact⟨kR (by rw[HR.o]) (by rw[HR.o]),qB _⟩
 by_cases h0:0<fs.length
 ·
  obtain⟨b1,o1,cap1,rfl,l1,m1,hb1,hc1⟩:=ha.open h0;have H1:=qA hc1;have hi:(fs.length:Int)<=64:=ω
  have HR:=qA (show wU ts (fs.take 0) (fs.drop 0)=r by rw[<-H.o];unfold qZ;rw[U5 h64];rfl);clear ha hc1 h64 H;go_enter func98,ntmps98
  go_wp2_with fail;go_loopw [6] (λi wr=> ∃ k:Nat,k<=fs.length/\i=k/\Hid (wU ts (fs.take k) (fs.drop k)=r)/\Hid (∀ g∈fs.take k,kz g)/\Bl w wr) (λi _=>fs.length-(intOf i).toNat)
  case atStart=>exact⟨0,qAD _,rfl,HR,by simp[Hid],qB _⟩
  rename World=>wo
  obtain⟨k,hk,rfl,HA,HSO,hbl⟩:=hrel;have hzw:=hbl.size;by_cases hlt:k<fs.length
  ·
   obtain⟨x,hx⟩: ∃ x,fs[k]? =some x:=⟨_,U2 hlt⟩;have c1: ∀ j u,(qj x)[j]? =some u->wo.cell? ⟨b1,o1+k*4+j,none⟩=some u:=λj u hu=>by rw[(qG hbl).1 _ _ ω];exact H1.o k x hx j u hu
   have d10:wo.cell? (b1,o1+k*4)=some (.int .i64 x.trip):=c1 0 _ rfl;have d11:=c1 1 _ rfl;have d12:=c1 2 _ rfl;have d13:=c1 3 _ rfl;have HX:=qA hx;clear hx c1;by_cases htr:x.trip<0∨(ts.length:Int)<=x.trip
   ·
    have HE:=qA (HA.o.symm.trans (qU HX.o (Ai htr) δ));rcases Int.lt_or_le x.trip 0 with hn|hn
    ·
     clear htr;go_wp2;go_ret2;exact⟨kR (by rw[HE.o]) (by rw[HE.o]),qE hbl _⟩
    have hn2:(ts.length:Int)<=x.trip:=ω
    clear htr;go_wp2;go_ret2;exact⟨kR (by rw[HE.o]) (by rw[HE.o]),qE hbl _⟩
   obtain⟨htr0,htr1⟩:0<=x.trip/\x.trip<ts.length:=ω
   clear htr;obtain⟨bt,ot,capt',xt,hve,-,-,hbt,hxt,hct⟩:=HT.o.sl.at (k:=x.trip.toNat) ω;simp only[Value.slice.injEq]at hve;obtain⟨rfl,-,-⟩:=hve;have HTO:=qA (HT.o.ok xt (Uz hxt));have HFA:=qA (show J8 ts x=Y3 xt.calls x by unfold J8;rw[hxt]);have HCT:=qA hct;clear hct hxt;go_wp2_with fail;obtain⟨w1,hw1⟩:=ε (wo.alloc (.cells #[.int .i64 x.trip,.int .i64 x.frm,.int .i64 x.to,.int .i64 x.every] 126));rw[hw1];have s1:w1.heap.size=wo.heap.size+1:=by rw[<-hw1];simp
   have HB1:Hid (Bl w w1):=by rw[<-hw1];exact qE hbl _
   have kf: ∀ j u,(qj x)[j]? =some u->w1.cell? ⟨wo.heap.size,j,none⟩=some u:=by
    intro j u hu;rw[<-hw1,Uy (hn:=rfl)];simpa[qj]using hu
   have kt: ∀ j u,(tripCells xt)[j]? =some u->w1.cell? ⟨bt,ot+x.trip.toNat*5+j,none⟩=some u:=λj u hu=>by
    rw[(qG HB1.o).1 _ _ ω];exact HCT.o j u hu
   have f0:=kf 0 _ rfl;have f1:=kf 1 _ rfl;have f2:=kf 2 _ rfl;have f3:=kf 3 _ rfl;have t0:w1.cell? ⟨bt,ot+x.trip.toNat*5,none⟩=some (.string xt.id):=kt 0 _ rfl;have t1:=kt 1 _ rfl;have t2:=kt 2 _ rfl;have t3:=kt 3 _ rfl;have t4:=kt 4 _ rfl;have hbt1:bt<w1.heap.size:=ω
   have hold: ∀ w':World,Bl w1 w'->w'.cell? (wo.heap.size,0)=some (.int .i64 x.trip)/\w'.cell? (wo.heap.size,1)=some (.int .i64 x.frm)/\w'.cell? (wo.heap.size,2)=some (.int .i64 x.to)/\w'.cell? (wo.heap.size,3)=some (.int .i64 x.every)/\w'.cell? ⟨bt,ot+x.trip.toNat*5,none⟩=some (.string xt.id)/\w'.cell? ⟨bt,ot+x.trip.toNat*5+1,none⟩=some (xt.rt:Z)/\w'.cell? ⟨bt,ot+x.trip.toNat*5+2,none⟩=some (xt.cal:Z)/\w'.cell? ⟨bt,ot+x.trip.toNat*5+3,none⟩=some (xt.step:Z)/\w'.cell? ⟨bt,ot+x.trip.toNat*5+4,none⟩=some (xt.v):=λw' hb=>⟨((qG hb).1 _ _ ω).trans f0,((qG hb).1 _ _ ω).trans f1,((qG hb).1 _ _ ω).trans f2,((qG hb).1 _ _ ω).trans f3,((qG hb).1 _ _ ω).trans t0,((qG hb).1 _ _ ω).trans t1,((qG hb).1 _ _ ω).trans t2,((qG hb).1 _ _ ω).trans t3,((qG hb).1 _ _ ω).trans t4⟩
   have KF:=qA kf;clear kf kt hw1;rcases Zr x with⟨hs,ks⟩|⟨_,ks⟩
   ·
    have HK:=qA ks;have HS:=qA hs;clear hs ks;rcases Bool.eq_false_or_eq_true (Y3 xt.calls x)with kf|kf
    ·
     have HF:=qA kf;have HGO:Hid ((QH x&&J8 ts x)=true):=by show _=_;rw[HK.o,HFA.o,HF.o];rfl
     clear kf;go_region_held3 (λw'=>w'.cell? (wo.heap.size,0)=some (.int .i64 x.trip)/\w'.cell? (wo.heap.size,1)=some (.int .i64 x.frm)/\w'.cell? (wo.heap.size,2)=some (.int .i64 x.to)/\w'.cell? (wo.heap.size,3)=some (.int .i64 x.every)/\w'.cell? ⟨bt,ot+x.trip.toNat*5,none⟩=some (.string xt.id)/\w'.cell? ⟨bt,ot+x.trip.toNat*5+1,none⟩=some (xt.rt:Z)/\w'.cell? ⟨bt,ot+x.trip.toNat*5+2,none⟩=some (xt.cal:Z)/\w'.cell? ⟨bt,ot+x.trip.toNat*5+3,none⟩=some (xt.step:Z)/\w'.cell? ⟨bt,ot+x.trip.toNat*5+4,none⟩=some (xt.v)) (first|exact hold _ (qH (qB _))|exact hold _ (qF (qH (qB _)) b3)|exact hold _ (qF (qF (qH (qB _)) b3) b4)) (first|(go_at_call 170;refine(KX x true HK _).mono ?_;rintro e w3 ⟨rfl,b3⟩)|(go_at_call 171;refine(Be xt.id xt.rt xt.cal xt.step xt.v xt.calls x HS.o true HF B _ ((Jv.bl HTO.o (qF HB1.o (qF (qH (qB _)) b3)) hB).calls) (by have:=b3.size;simp at this;omega) HTO.o.ok HTO.o.len).mono ?_;rintro e w4 ⟨rfl,b4⟩))
     all_goals
      have B4:Hid (Bl w1 w4):=qF (qF (qH (qB _)) b3) b4;obtain⟨g0,g1,g2,g3,-⟩:=hold _ B4.o;clear hold t0 t1 t2 t3 t4 f0 f1 f2 f3;obtain⟨cc0,cc1⟩:=QE x HS.o;have s5:wo.heap.size+1<=w4.heap.size:=by have:=B4.o.size;omega
      have hb1w:b1<w1.heap.size:=ω
      clear g0 g1 g2 g3 b3 b4;go_wp2_with fail;go_loopw [8,9,10] (λn m i wr=> ∃ j:Nat,j<=k+1/\i=.int .i64 j/\n=.int .i64 (yj x (fs.take j))/\m=.bool ((fs.take (min j k)).any (ku x))/\Bl w4 wr) (λ_ _ i _=>k+1-(intOf i).toNat)
      case atStart=>exact⟨0,qAD _,rfl,by simp[yj],σ,qB _⟩
      obtain⟨j,hj,rfl,rfl,rfl,hbq⟩:=hrel;have hzq:=hbq.size;have HBQ:Hid (Bl w1 wr):=qF B4.o hbq;have gx: ∀ jj u,(qj x)[jj]? =some u->wr.cell? ⟨wo.heap.size,jj,none⟩=some u:=λjj u hu=>by rw[(qG HBQ.o).1 _ _ ω];exact KF.o jj u hu
      have HSN:Hid (∀ g∈fs.take (k+1),kz g):=by
       intro g hg;rw[ql HX.o,List.mem_append]at hg;rcases hg with hg|hg
       · exact HSO.o g hg
       rw[List.mem_singleton]at hg;rw[hg];exact HS.o
      have hsum:=pW x (fs.take j) (λg hg=>HSN.o g (List.mem_of_mem_take (by rw[List.take_take,Nat.min_eq_left hj];exact hg)));rw[List.length_take,Nat.min_eq_left ω]at hsum;by_cases hjk:j<=k
      ·
       obtain⟨y,hy⟩: ∃ y,fs[j]? =some y:=⟨_,U2 ω⟩;have cy: ∀ jj u,(qj y)[jj]? =some u->wr.cell? ⟨b1,o1+j*4+jj,none⟩=some u:=λjj u hu=>by rw[(qG HBQ.o).1 _ _ hb1w,(qG HB1.o).1 _ _ ω];exact H1.o j y hy jj u hu
       have e0:wr.cell? ⟨b1,o1+j*4,none⟩=some (.int .i64 y.trip):=cy 0 _ rfl;have e1:=cy 1 _ rfl;have e2:=cy 2 _ rfl;have e3:=cy 3 _ rfl;have g0:=gx 0 _ rfl;have g1:=gx 1 _ rfl;have g2:=gx 2 _ rfl;have g3:=gx 3 _ rfl;have HY:=qA hy;have HYS:Hid (kz y):=HSN.o y (List.mem_iff_getElem?.2 ⟨j,by rw[List.getElem?_take_of_lt ω];exact hy⟩);have HSU:Hid (yj x (fs.take (j+1))=yj x (fs.take j)+KO x y):=by show _=_;rw[ql hy,Yg]
       have HAN:Hid (j<k->(fs.take (min (j+1) k)).any (ku x)=((fs.take (min j k)).any (ku x)||ku x y)):=by
        intro hlt2;rw[Nat.min_eq_left ω,Nat.min_eq_left ω,ql hy,List.any_append];simp
       have HAK:Hid (j=k->(fs.take (min (j+1) k)).any (ku x)=(fs.take (min j k)).any (ku x)):=by
        intro heq;rw[Nat.min_eq_right ω,Nat.min_eq_right ω]
       have HYX:Hid (j=k->y=x):=by
        intro heq;rw[heq]at hy;exact qAB (hy.symm.trans HX.o)
       have il:(j:Int)<(fs.length:Int):=ω
       have ij:(j:Int)<=(k:Int):=ω
       generalize yj x (fs.take j)=n at*
       generalize (fs.take (min j k)).any (ku x)=m at*
       obtain⟨n0,n1⟩:=hsum;have hfar:Hid (wo.heap.size<wr.heap.size):=by show _<_;omega
       have hfar1:Hid (b1<wr.heap.size):=by show _<_;omega
       clear hy cy gx;by_cases he:y.trip=x.trip
       ·
        have q:(y.trip==x.trip)=true:=by rw[beq_iff_eq];exact he
        have q':(y.trip != x.trip)=false:=by rw[bne,q];rfl
        obtain⟨y0,y1⟩:=QE y HYS.o;have HSU2:=qA (show yj x (fs.take (j+1))=n+Ze y by rw[HSU.o,KO,q];simp);clear HSU he;go_wp2_with fail;go_quiet (fail)
        generalize hwq:wr.drewN _=wq
        have bq:Bl wr wq:=by rw[<-hwq];exact qM (qB _) _
        have hsq:=bq.size;have e0':wq.cell? ⟨b1,o1+j*4,none⟩=some (.int .i64 y.trip):=by rw[(qG bq).1 _ _ hfar1.o];exact e0
        have e1':wq.cell? ⟨b1,o1+j*4+1,none⟩=some (.int .i64 y.frm):=by rw[(qG bq).1 _ _ hfar1.o];exact e1
        have e2':wq.cell? ⟨b1,o1+j*4+2,none⟩=some (.int .i64 y.to):=by rw[(qG bq).1 _ _ hfar1.o];exact e2
        have e3':wq.cell? ⟨b1,o1+j*4+3,none⟩=some (.int .i64 y.every):=by rw[(qG bq).1 _ _ hfar1.o];exact e3
        clear hwq;go_wp2_with fail;refine(Hq y HYS _).mono ?_;rintro e w6 ⟨rfl,b6⟩;have b26:Bl wr w6:=qF bq b6;have p1:w6.cell? (wo.heap.size,1)=some (.int .i64 x.frm):=by rw[(qG b26).1 _ _ hfar.o];exact g1
        have p2:w6.cell? (wo.heap.size,2)=some (.int .i64 x.to):=by rw[(qG b26).1 _ _ hfar.o];exact g2
        have q1:w6.cell? ⟨b1,o1+j*4+1,none⟩=some (.int .i64 y.frm):=by rw[(qG b26).1 _ _ hfar1.o];exact e1
        have q2:w6.cell? ⟨b1,o1+j*4+2,none⟩=some (.int .i64 y.to):=by rw[(qG b26).1 _ _ hfar1.o];exact e2
        have B6:Hid (Bl w4 w6):=qF hbq b26;clear e0 e1 e2 e3 e0' e1' e2' e3' g0 g1 g2 g3 b6 bq b26;by_cases hlt2:j<k
        ·
         have HAN2:=qA (show(fs.take (min (j+1) k)).any (ku x)=(m||(decide (y.frm<x.to)&&decide (x.frm<y.to))) by rw[HAN.o hlt2,ku,q];rfl);have il2:(j:Int)<(k:Int):=ω
         by_cases c1:y.frm<x.to
         ·
          by_cases c2:x.frm<y.to
          ·
           have HAN3:=qA (show(fs.take (min (j+1) k)).any (ku x)=true by rw[HAN2.o,decide_eq_true c1,decide_eq_true c2];simp);go_wp2_with fail;go_quiet (fail)
           go_wp2;go_roundw;case rel=>exact⟨j+1,ω,by go_num,by rw[HSU2.o],by rw[HAN3.o],qM B6.o _⟩
           simp[intOf];omega
          have c2':decide (x.frm<y.to)=false:=decide_eq_false c2;have HAN3:=qA (show(fs.take (min (j+1) k)).any (ku x)=m by rw[HAN2.o,decide_eq_false c2,Bool.and_false,Bool.or_false]);go_wp2_with fail;go_quiet (fail)
          go_wp2;go_roundw;case rel=>exact⟨j+1,ω,by go_num,by rw[HSU2.o],by rw[HAN3.o],qM B6.o _⟩
          simp[intOf];omega
         have c1':decide (y.frm<x.to)=false:=decide_eq_false c1;have HAN3:=qA (show(fs.take (min (j+1) k)).any (ku x)=m by rw[HAN2.o,decide_eq_false c1,Bool.false_and,Bool.or_false]);go_wp2_with fail;go_quiet (fail)
         go_wp2;go_roundw;case rel=>exact⟨j+1,ω,by go_num,by rw[HSU2.o],by rw[HAN3.o],qM B6.o _⟩
         simp[intOf];omega
        have HAN3:=qA (HAK.o ω);have il2:decide ((j:Int)<(k:Int))=false:=decide_eq_false ω;go_wp2_with fail;go_quiet (fail)
        go_wp2;go_roundw;case rel=>exact⟨j+1,ω,by go_num,by rw[HSU2.o],by rw[HAN3.o],qM B6.o _⟩
        simp[intOf];omega
       have q:(y.trip==x.trip)=false:=by rw[U0];exact he
       have q':(y.trip != x.trip)=true:=by rw[bne,q];rfl
       have hlt2:j<k:=by
        rcases Nat.lt_or_ge j k with h|h
        · exact h
        exact absurd (congrArg FreqD.trip (HYX.o ω)) he
       have HSU2:=qA (show yj x (fs.take (j+1))=n by rw[HSU.o,KO,q];simp);have HAN2:=qA (show(fs.take (min (j+1) k)).any (ku x)=m by rw[HAN.o hlt2,ku,q];simp);clear HSU HAN he;go_wp2_with fail;go_quiet (fail)
       go_wp2;go_roundw;case rel=>exact⟨j+1,ω,by go_num,by rw[HSU2.o],by rw[HAN2.o],qM hbq _⟩
       simp[intOf];omega
      obtain rfl:j=k+1:=ω
      have HN:=qA (Aj (pre:=fs.take k) htr0 htr1 HGO.o);have HSK:=qA (show Ze x+yj x (fs.take k)=yj x (fs.take (k+1)) by rw[ql HX.o,Yg];simp[KO];omega);have HMK:=qA (show(fs.take k).any (ku x)=(fs.take (min (k+1) k)).any (ku x) by rw[Nat.min_eq_right ω]);have HBW:Hid (Bl w wr):=qF HB1.o HBQ.o;rw[HSK.o,HMK.o]at HN;generalize yj x (fs.take (k+1))=n at*
      generalize (fs.take (min (k+1) k)).any (ku x)=m at*
      obtain⟨n0,n1⟩:=hsum;clear gx;by_cases h256:256<n
      ·
       have HE:=qA (HA.o.symm.trans (qU HX.o (by rw[HN.o,U6 h256]) δ));go_wp2;go_ret2;exact⟨kR (by rw[HE.o]) (by rw[HE.o]),HBW.o⟩
      have h256':n<=256:=ω
      cases m with
      |true=>
       have HE:=qA (HA.o.symm.trans (qU HX.o (by rw[HN.o,U5 h256,U6 rfl]) δ));clear h256;go_wp2;go_ret2;exact⟨kR (by rw[HE.o]) (by rw[HE.o]),HBW.o⟩
      |false=>
       have HE0:=qA (show Zi ts (fs.take k) x=0 by rw[HN.o,U5 h256];rfl);have HE:=qA ((jS HX.o HE0.o).symm.trans HA.o);clear h256;go_wp2;go_roundw;case rel=>exact⟨k+1,ω,by go_num,HE,HSN,HBW.o⟩
       simp[intOf];omega
    have HF:=qA kf;have HE:=qA (HA.o.symm.trans (qU HX.o (Yz htr0 htr1 (by rw[HK.o,HFA.o,kf];rfl)) δ));clear kf;go_region_held3 (λw'=>w'.cell? (wo.heap.size,0)=some (.int .i64 x.trip)/\w'.cell? (wo.heap.size,1)=some (.int .i64 x.frm)/\w'.cell? (wo.heap.size,2)=some (.int .i64 x.to)/\w'.cell? (wo.heap.size,3)=some (.int .i64 x.every)/\w'.cell? ⟨bt,ot+x.trip.toNat*5,none⟩=some (.string xt.id)/\w'.cell? ⟨bt,ot+x.trip.toNat*5+1,none⟩=some (xt.rt:Z)/\w'.cell? ⟨bt,ot+x.trip.toNat*5+2,none⟩=some (xt.cal:Z)/\w'.cell? ⟨bt,ot+x.trip.toNat*5+3,none⟩=some (xt.step:Z)/\w'.cell? ⟨bt,ot+x.trip.toNat*5+4,none⟩=some (xt.v)) (first|exact hold _ (qH (qB _))|exact hold _ (qF (qH (qB _)) b3)|exact hold _ (qF (qF (qH (qB _)) b3) b4)) (first|(go_at_call 170;refine(KX x true HK _).mono ?_;rintro e w3 ⟨rfl,b3⟩)|(go_at_call 171;refine(Be xt.id xt.rt xt.cal xt.step xt.v xt.calls x HS.o false HF B _ ((Jv.bl HTO.o (qF HB1.o (qF (qH (qB _)) b3)) hB).calls) (by have:=b3.size;simp at this;omega) HTO.o.ok HTO.o.len).mono ?_;rintro e w4 ⟨rfl,b4⟩))
    all_goals
     go_wp2;go_ret2;exact⟨kR (by rw[HE.o]) (by rw[HE.o]),qF HB1.o (qF (qF (qH (qB _)) b3) b4)⟩
   have HK:=qA ks;have HE:=qA (HA.o.symm.trans (qU HX.o (Yz htr0 htr1 (by rw[ks];rfl)) δ));clear ks;first
   |
    go_region_with ((first
     |(go_at_call 170;refine(KX x false HK _).mono ?_;rintro e w3 ⟨rfl,b3⟩)))
   |fail
   all_goals
    go_wp2;go_ret2;exact⟨kR (by rw[HE.o]) (by rw[HE.o]),qF HB1.o (qF (qH (qB _)) b3)⟩
  have HE:=qA (HA.o.symm.trans (jy ω));go_wp2;go_ret2;exact⟨kR (by rw[HE.o]) (by rw[HE.o]),hbl⟩
 obtain⟨a1,c1,rfl,m1,rfl⟩:=ha.empty ω;have HR:=qA (show r=(0,0) by rw[<-H.o];rfl);go_enter func98,ntmps98
 go_wp2_with fail;refine wp_loop_rounds 1 ?_;rw[rounds_succ];go_wp2;go_ret2;exact⟨kR (by rw[HR.o]) (by rw[HR.o]),qB _⟩
end Go.Proofs.YtakedkcjplfgeaaGreatDoor.Fq
namespace Go.Proofs.YtakedkcjplfgeaaGreatDoor.Ms
open Go.RowKit
open Frq Tt
theorem Bf (s:Φ) (hs:s.size<=maxLen) (b:Bool) (H:Hid (jU s.data.toList=b)) (w:World):
  Calls prog 165 #[s] w λe w'=>e=.returned (b:Z)/\w=w':=by
 unfold maxLen at hs;have hn:=yB s;by_cases hlen: ¬ (1<=s.size/\s.size<=32)
 ·
  have HF:=qA (show b=false by
   rw[<-H.o];unfold jU;rw[hn,Bool.and_eq_false_iff];right;rw[Bool.and_eq_false_iff,decide_eq_false_iff_not,decide_eq_false_iff_not];omega)
  rcases Nat.lt_or_ge s.size 1 with h|h
  ·
   go_enter func165,ntmps165
   go_wp2;go_ret;exact⟨qO HF.o.symm,rfl⟩
  have h2:32<s.size:=ω
  go_enter func165,ntmps165
  go_wp2;go_ret;exact⟨qO HF.o.symm,rfl⟩
 have hl1:1<=s.size:=ω
 have hl2:s.size<=32:=ω
 go_enter func165,ntmps165
 go_wp2;go_loop [3] (λi=> ∃ k:Nat,k<=s.size/\i=k/\Hid (∀ j (h:j<s.size),j<k->wW (s[j]'h)=true)) (λi=>s.size-(intOf i).toNat)
 case atStart=>exact⟨0,qAD _,rfl,λj h hj=>absurd hj ω⟩
 obtain⟨k,hk,rfl,HK⟩:=hrel;by_cases hlt:k<s.size
 ·
  rcases Qy (s[k]'hlt)with⟨h1,hc⟩|⟨h1,hc⟩
  ·
   have HN:=qA (show ∀ j (h:j<s.size),j<k+1->wW (s[j]'h)=true from λj h hj=>by
    by_cases e:j=k
    · subst e;exact h1
    exact HK.o j h ω)
   clear h1;rcases hc with h|h|h|h|h|h
   all_goals
    go_wp2;go_round;case rel=>exact⟨k+1,ω,by go_num,HN⟩
    simp[intOf];omega
  have HF:=qA (show b=false by rw[<-H.o];unfold jU;rw[WW hlt h1];rfl);clear h1;have q1:(((s[k]'hlt).toNat:Int)==45)=false:=π
  have q2:(((s[k]'hlt).toNat:Int)==95)=false:=π
  have q3:(((s[k]'hlt).toNat:Int)==46)=false:=π
  rcases hc with h|h|h|h|h|h
  all_goals
   go_wp2;all_goals(try(rename_i hx;exfalso;simp at hx;omega))
   go_ret;exact⟨qO HF.o.symm,rfl⟩
 have HF:=qA (show b=true by
  rw[<-H.o];unfold jU;rw[Yp (λj h=>HK.o j h ω),hn,decide_eq_true hl1,decide_eq_true hl2];rfl)
 go_wp2;go_ret;exact⟨qO HF.o.symm,rfl⟩
