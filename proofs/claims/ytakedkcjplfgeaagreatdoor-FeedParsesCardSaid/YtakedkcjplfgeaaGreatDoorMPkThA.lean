/- Contracts, proved. Conditions: theirs. -/
import Derived.Test.YtakedkcjplfgeaaGreatDoorMPkBaseB
set_option maxRecDepth 1000000
set_option maxHeartbeats 32000000
open Go.Proofs.Tryz
namespace Go.Proofs.YtakedkcjplfgeaaGreatDoor.Th
open Go.RowKit
open Frq Thr
theorem YS {l:List Int} {k:Nat} {x n:Int} (h:l[k]? =some x) (h1:(l.take k).contains n=false):(l.take (k+1)).contains n=(x==n):=by
 rw[ql h];simp only[List.contains_eq_any_beq,List.any_append,List.any_cons,List.any_nil,Bool.or_false]at h1 ⊢;rw[h1,Bool.false_or,Bool.eq_iff_iff,beq_iff_eq,beq_iff_eq];exact eq_comm
theorem Vz {l:List Int} {k:Nat} {n:Int} (h:l[k]? =some n):l.contains n=true:=List.contains_iff_mem.2 (Uz h)
theorem Ht (v:Value) (fs:List FreqD) (t:Int) (r:Bool) (H:Hid (vM fs t=r)) (B:Nat) (w:World) (ha:xG B w v fs) (hB:B<=w.heap.size):
  Calls prog 197 #[v,t] w λe w'=>e=.returned (r:Z)/\Bl w w':=by
 obtain⟨a,cap,rfl,hl1,hl2⟩:=ha.val;have HA:=qA ha;clear ha;go_enter func197,ntmps197
 go_wp2;go_loopw [9] (λi wr=> ∃ k:Nat,k<=fs.length/\i=k/\Hid ((fs.take k).any (λf=>f.trip==t)=false)/\Bl w wr) (λi _=>fs.length-(intOf i).toNat)
 case atStart=>exact⟨0,qAD _,rfl,rfl,qB _⟩
 obtain⟨k,hk,rfl,HN,hbl⟩:=hrel;by_cases hlt:k<fs.length
 ·
  obtain⟨b,o,x,rfl,hbs,hx,hc⟩:=HA.o.get hlt hbl hB;have d10:wr.cell? (b,o+k*4)=some (x.trip:Z):=hc 0 _ rfl;have d11:=hc 1 _ rfl;have d12:=hc 2 _ rfl;have d13:=hc 3 _ rfl;have HX:=qA hx;clear hx hc;by_cases he:x.trip=t
  ·
   have HR:=qA (show r=true by rw[<-H.o];exact Zb HX.o (by simp[he]));have q:(x.trip==t)=true:=by rw[beq_iff_eq];exact he
   clear he;go_wp2;go_ret;exact⟨qO HR.o.symm,qE hbl _⟩
  have q:(x.trip==t)=false:=by rw[U0];exact he
  have HN':=qA ((Yq (p:=λf:FreqD=>f.trip==t) HX.o HN.o).trans q);clear he;go_wp2;go_roundw;case rel=>exact⟨k+1,ω,by go_num,HN',qE hbl _⟩
  simp[intOf];omega
 have HR:=qA (show r=false by
  have:=HN.o;rw[U9 ω]at this;rw[<-H.o];exact this)
 go_wp2;go_ret;exact⟨qO HR.o.symm,hbl⟩
theorem dL {l:List ThrD} {k:Nat} {x:ThrD} {t:Int} (h:l[k]? =some x) (h1:xh (l.take k) t=none) (h2:(x.frm==t)=false):xh (l.take (k+1)) t=none:=by
 unfold xh at*;rw[ql h,List.find?_append,h1];simp[h2]
theorem Wh {l:List ThrD} {k:Nat} {x:ThrD} {t:Int} (h:l[k]? =some x) (h1:xh (l.take k) t=none) (h2:(x.frm==t)=true):xh l t=some x:=by
 unfold xh at*;obtain⟨hk,rfl⟩:=Uw.1 h;have e:(l.take k++l.drop k).find? (λx=>x.frm==t)=some l[k]:=by
  rw[List.find?_append,h1,List.drop_eq_getElem_cons hk];simp only[Option.none_or];rw[List.find?_cons_of_pos];exact h2
 rwa [List.take_append_drop]at e
theorem Yc {a c:Int} {b d:Bool} (h:a=c) (h':b=d):Ending.returned (.tuple #[a,b])=.returned (.tuple #[c,d]):=by rw[h,h']
theorem Oq (v:Value) (l:List ThrD) (t:Int) (B:Nat) (w:World) (ha:Vu B w v l) (hB:B<=w.heap.size):
  Calls prog 252 #[v,t] w λe w'=>e=.returned (.tuple #[(eG l t),.bool (dw l t)])/\Bl w w':=by
 obtain⟨a,cap,rfl,hl1,hl2⟩:=ha.val;have HA:=qA ha;clear ha;go_enter func252,ntmps252
 go_wp2;go_loopw [10] (λi wr=> ∃ k:Nat,k<=l.length/\i=k/\Hid (xh (l.take k) t=none)/\Bl w wr) (λi _=>l.length-(intOf i).toNat)
 case atStart=>exact⟨0,qAD _,rfl,rfl,qB _⟩
 obtain⟨k,hk,rfl,HN,hbl⟩:=hrel;by_cases hlt:k<l.length
 ·
  obtain⟨b,o,x,rfl,hbs,hx,hc⟩:=HA.o.get hlt hbl hB;have d10:wr.cell? (b,o+k*2)=some (x.frm:Z):=hc 0 _ rfl;have d11:=hc 1 _ rfl;have HX:=qA hx;clear hx hc;by_cases he:x.frm=t
  ·
   have q:(x.frm==t)=true:=by rw[beq_iff_eq];exact he
   have HR:=qA (YE (Wh HX.o HN.o q));clear he;go_wp2;go_ret2;exact⟨Yc HR.o.1.symm HR.o.2.symm,qE hbl _⟩
  have q:(x.frm==t)=false:=by rw[U0];exact he
  have HN':=qA (dL HX.o HN.o q);clear he;go_wp2;go_roundw;case rel=>exact⟨k+1,ω,by go_num,HN',qE hbl _⟩
  simp[intOf];omega
 have HR:=qA (YD (l:=l) (t:=t) (by
  have:=HN.o;rw[U9 ω]at this;exact this))
 go_wp2;go_ret2;exact⟨Yc HR.o.1.symm HR.o.2.symm,hbl⟩
end Go.Proofs.YtakedkcjplfgeaaGreatDoor.Th
namespace Go.Proofs.YtakedkcjplfgeaaGreatDoor.Th
open Go.RowKit
open Go.Maps (Keyed)
open Frq Thr
theorem yD:(prog.info? 3).map (λi=>(i.zero,i.size,i.bytes))=some (some (.int .i64 0),1,8):=κ
theorem Qw:Keyed prog 3:=Go.Maps.int_keyed underlying3
theorem yR (w:World):(zeroValue 4).run prog w=.ok (false:Z) w:=κ
theorem Z8 {x:Int} (h:zB x):(Lit.int .i64 x).wf=true:=by
 unfold zB at h;exact WalkArith.wf_i64 ω
theorem Qx {x:Int} (h:zB x):keyOf prog 3 (.int .i64 x)=some (.int .i64 x):=Go.Maps.keyOf_int_mk underlying3 (Z8 h)
abbrev Ju (w:World) (b n:Nat) (S:Lit->Bool):Prop:=jE w prog 3 4 b n S
def lenOf:Value->Nat
 | .slice _ n _=>n
 |_=>0
theorem ng {base:Nat} {w:World} {v:Value} {out:List Int} {m:Nat} (h:w.ownsRow base 3 1 v out.length (out.flatMap qi)) (hm:out.length=m+1):
  ∃ g cap,v=.slice (some ⟨g,0,none⟩) (m+1) cap/\m+1<=cap/\cap<=9223372036854775807/\base<=g/\g<w.heap.size/\(∃ C T z,w.heap[g]? =some (.cells C T z))/\w.cell? ⟨g,m,none⟩=some ((Jr out):Z):=by
 have hr:=zq (cells:=qi) kY h;rcases h.2 with⟨rfl,h0⟩|⟨g,cap,cur,rfl,hg,hb,hn,hc,hs,ht⟩
 · omega
 have hlt:g<w.heap.size:=by
  rcases Nat.lt_or_ge g w.heap.size with k|k
  · exact k
  simp[Array.getElem?_eq_none k]at hb
 obtain⟨b,o,x,ha,-,hx,hcell⟩:=hr.get (k:=m) ω (qB _) (U3 _);simp only[qAA,Addr.mk.injEq]at ha;obtain⟨rfl,rfl,-⟩:=ha;rw[nK hm]at hx;cases hx
 have c0:=hcell 0 _ rfl;exact⟨g,cap,by rw[hm],ω,by unfold maxLen at hc;exact hc,hg,hlt,⟨_,_,_,hb⟩,by simpa using c0⟩
theorem ML {base:Nat} {w:World} {e:TypeId} {sz:Nat} {v:Value} {n:Nat} {xs:List Value} (h:w.ownsRow base e sz v n xs):lenOf v=n:=by
 rcases h.2 with⟨rfl,h0⟩|⟨g,cap,cur,rfl,-⟩
 · rw[h0];rfl
 rfl
theorem DK {w:World} {b n:Nat} {S:Lit->Bool} (h:Ju w b n S): ∃ es clock,w.heap[b]? =some (.map es clock):=by
 obtain⟨D,⟨es,clock,hb,-⟩,-⟩:=h;exact⟨es,clock,hb⟩
theorem Ip (v:Value) (l:List ThrD) (trip:Int) (htr:zB trip) (hok: ∀ x∈l,zB x.to) (hlen:l.length<=1000) (B:Nat) (w:World) (ha:Vu B w v l) (hB:B<=w.heap.size):
  Calls prog 198 #[v, .int .i64 trip] w λe w'=> ∃ v',e= .returned v'/\Wy w'.heap.size w' v' (QC l trip)/\Bl w w':=by
 obtain⟨i0,hi,hz0,hz1,hz2⟩:=info_parts yD;obtain⟨a,cap,rfl,hl1,hl2⟩:=ha.val;have HA:=qA ha;have HOK:=qA hok;have hmm:= @run_makeMap prog;obtain⟨w1,hw1⟩:=ε (w.alloc (.cells #[.int .i64 trip] 3));have hown0:w1.ownsRow w.heap.size 3 1 (.slice (some ⟨w.heap.size,0,none⟩) 1 1) 1 [.int .i64 trip]:=by
  rw[<-hw1];exact World.ownsRow_lit w #[.int .i64 trip] 1 (U3 _) ζ rfl
 have b1:Bl w w1:=by rw[<-hw1];exact qE (qB _) _
 have s1:w1.heap.size=w.heap.size+1:=by rw[<-hw1];simp
 have hset0:Ju (w1.alloc (.map #[] 0)) w1.heap.size 0 (λ_=>false):=je w1 prog 3 4;obtain⟨w2,hput,hset,hgr⟩:=hset0.put Qw underlying174 underlying4 ζ (Qx htr);rw[<-hw1]at hput;rw[show(w.alloc (.cells #[.int .i64 trip] 3)).heap.size=w.heap.size+1 by simp]at hput;have b2:Bl w1 w2:=Below.grown (qE (qB _) _) hgr σ (λk hk=>by cases hk;exact U3 _);have HOWN:Hid (w2.ownsRow w.heap.size 3 1 (.slice (some ⟨w.heap.size,0,none⟩) 1 1) 1 [.int .i64 trip]):=(hown0.alloc _).kept hgr (by right;intro e;simp[Value.ownBlock]at e;omega);have HSET:=qA hset;have HB2:Hid (Bl w w2):=qF b1 b2;have S1:=qA s1;clear ha hok hown0 b1 b2 hset hgr hset0 s1 hw1;go_enter func198,ntmps198
 go_wp2;go_step3
 go_wp2;go_step3
 go_wp2;go_loopw [5] (λvo wr=> ∃ (out:List Int) (f n:Nat) (S:Lit->Bool),(out.length+f=l.length+1/\out.length<=n+1/\n<=out.length)/\wr.ownsRow w.heap.size 3 1 vo out.length (out.flatMap qi)/\Hid (xN l trip out/\Zx l f out=QC l trip/\ ∀ x:Int,S (.int .i64 x)=out.contains x)/\Ju wr (w.heap.size+1) n S/\Hid (∀ x∈out,zB x)/\Bl w wr) (λvo _=>l.length+2-lenOf vo)
 case atStart=>
  refine⟨[trip],l.length,1,wY (λ_=>false) (.int .i64 trip),τ,HOWN.o,⟨YY l trip,rfl,λx=>?_⟩,by rw[<-S1.o];exact HSET.o.mono ω,λx hx=>?_,HB2.o⟩
  ·
   by_cases hx:x=trip
   · rw[hx,xq _ (by trivial)];simp
   rw[xu (by simpa using hx)];simp[hx]
  rw[List.mem_singleton.1 hx];exact htr
 obtain⟨out,f,n,S,⟨hf,hn1,hn2⟩,hown,HM,hset,HI,hbl⟩:=hrel;have hp:=HM.o.1.pos;obtain⟨m,hm⟩: ∃ m,out.length=m+1:=⟨out.length-1,ω⟩;have HOWN':=qA hown;obtain⟨g,capo,rfl,hc1,hc2,hg1,hg2,hgb,hcell⟩:=ng hown hm;have HSET':=qA hset;have HL:=qA hm;have z1:=hbl.size;have HG:Hid (g≠w.heap.size+1):=by
  intro e;obtain⟨es,clock,hmb⟩:=DK hset;obtain⟨C,T,z,hgb⟩:=hgb;rw[e,hmb]at hgb;cases hgb
 clear hown hset hm hgb;go_wp2_with fail;refine(Oq _ l (Jr out) B wr (HA.o.o hbl hB) ω).mono ?_;rintro e w3 ⟨rfl,b3⟩;obtain⟨o,ho⟩:=ε (xh l (Jr out));cases o with
 |none=>
  have HR:=qA (YD ho);have HC:=qA (aT ho);rw[HR.o.1,HR.o.2];clear ho;go_wp2;try rw[Exit.noGoto_ret]
  go_ret;refine⟨_,rfl, ?_,qF hbl b3⟩;have:=HM.o.2.1;rw[Qb HC.o]at this;rw[<-this];exact(zq (cells:=qi) kY HOWN'.o).bl b3
 |some x=>
  have HR:=qA (YE ho);have HO:=qA ho;have hxi:zB x.to:=HOK.o x (List.mem_of_find?_eq_some ho);have hlook:=((HSET'.o.bl b3).look Qw underlying174 underlying4 (yR w3) (Qx hxi));rw[HM.o.2.2 x.to]at hlook;have z3:=b3.size;rw[HR.o.1,HR.o.2];cases hcon:out.contains x.to with
  |true=>
   have HC:=qA (aU HO.o hcon);rw[hcon]at hlook;clear ho hcon;go_wp2;try rw[Exit.noGoto_ret]
   go_ret;refine⟨_,rfl, ?_,qF hbl b3⟩;have:=HM.o.2.1;rw[Qb HC.o]at this;rw[<-this];exact(zq (cells:=qi) kY HOWN'.o).bl b3
  |false=>
   have HC:=qA (pU HO.o hcon);rw[hcon]at hlook;obtain⟨w4,hput,hset4,hgr4⟩:=(HSET'.o.bl b3).put Qw underlying174 underlying4 ζ (Qx hxi);have hown4:w4.ownsRow w.heap.size 3 1 (.slice (some ⟨g,0,none⟩) (m+1) capo) out.length (out.flatMap qi):=by
    refine(HOWN'.o.kept (row:=none) ⟨b3.os,b3.tape,b3.output,b3.size,λk hk _=>b3.block k hk⟩ (by right;simp[Value.ownBlock])).kept hgr4 ?_;right
    intro e;simp only[Value.ownBlock,qAA]at e;exact HG.o e
   have hb4:Bl w w4:=(qF hbl b3).grown hgr4 ω (λk hk=>by cases hk;omega);have z4:=hgr4.size;have HOWN4:=qA hown4;have HSET4:=qA hset4;have HB4:=qA hb4;have HF:Hid (f≠0):=by
    intro e;have h1:=HM.o.1.full (by have:=HL.o;omega);rw[HC.o]at h1;cases h1
   clear ho hcon hset4 hgr4 hown4 hb4;go_wp2_with (at_builtin;refine wpList_append_own _ rfl _ _ 73 rfl w.heap.size 3 i0 (.int .i64 0) 1 8 underlying73 hi hz0 hz1 hz2 rfl δ _ _ _ rfl (HOWN4.o.alloc _) ⟨w4.heap.size,0,none⟩ 1 1 [.int .i64 x.to] rfl rfl ?c1 ?c2 ?c3 ?c4 ?c5 ?_)
   case c1=>exact Kt _ _ σ (λj u h=>η)
   case c2=>simp[Value.oneCell']
   case c3=>have:=HL.o;unfold maxLen;omega
   case c4=>have:=HL.o;omega
   case c5=>simp;omega
   intro v' w5 hown' hgrow _;have hb5:Bl w w5:=(qE HB4.o _).grown hgrow τ (λk hk=>(qAG HOWN4.o k hk).1);have hset5:Ju w5 (w.heap.size+1) (n+1) (wY S (.int .i64 x.to)):=(HSET4.o.kept (Below.heap_alloc _ _ _ HSET4.o.lt)).grown hgrow (by intro e;simp only[Value.ownBlock,qAA]at e;exact HG.o e.symm);have HOWN5:=qA hown';have HSET5:=qA hset5;have HLV:Hid (lenOf v'=out.length+1):=ML hown';clear hown' hgrow hset5;go_wp2;go_roundw;case rel=>
    have hl:=HL.o;refine⟨out++[x.to],f-1,n+1,wY S (.int .i64 x.to), ?_, ?_,⟨HM.o.1.step HC.o, ?_,λy=>?_⟩,HSET5.o,λy hy=>?_,hb5⟩
    · have:=HF.o;rw[U1,List.length_singleton];omega
    ·
     have:=HOWN5.o;rw[U1,List.length_singleton,Ky];exact this
    ·
     have:=HM.o.2.1;rw[show f=f-1+1 by have:=HF.o;omega,VZ HC.o]at this;exact this
    ·
     by_cases hy:y=x.to
     · rw[hy,xq _ (by trivial)];simp
     rw[xu (by simpa using hy),HM.o.2.2 y];simp[hy]
    rcases List.mem_append.1 hy with hy|hy
    · exact HI.o y hy
    rw[List.mem_singleton.1 hy];exact hxi
   have h1:=HL.o;have h2:=HF.o;have h3:=HLV.o;show l.length+2-lenOf v'<l.length+2-(m+1)
   omega
theorem Ld (v:Value) (l:List ThrD) (frm tt:Int) (r:Bool) (H:Hid ((QC l frm).contains tt=r)) (hfr:zB frm) (hok: ∀ x∈l,zB x.to) (hlen:l.length<=1000) (B:Nat) (w:World) (ha:Vu B w v l) (hB:B<=w.heap.size):
  Calls prog 128 #[v,frm,tt] w λe w'=>e=.returned (r:Z)/\Bl w w':=by
 have HOK:=qA hok;have HFR:=qA hfr;obtain⟨a,cap,rfl,hl1,hl2⟩:=ha.val;have HA:=qA ha;clear hok hfr ha;go_enter func128,ntmps128
 go_wp2_with fail;refine(Ip _ l frm HFR.o HOK.o hlen B w HA.o hB).mono ?_;rintro e w1 ⟨v1,rfl,i1,b1⟩;have HC:=qA i1;have hcl:(QC l frm).length<=1001:=by have:=(ak l frm).len;omega
 obtain⟨C,hC⟩:=ε (QC l frm);rw[hC]at H HC i1 hcl;obtain⟨a1,cap1,rfl,l1,m1⟩:=i1.val;clear hC i1;go_wp2_with fail;go_loop [13] (λi=> ∃ k:Nat,k<=C.length/\i=k/\Hid ((C.take k).contains tt=false)) (λi=>C.length-(intOf i).toNat)
 case atStart=>exact⟨0,qAD _,rfl,rfl⟩
 obtain⟨k,hk,rfl,HN⟩:=hrel;by_cases hlt:k<C.length
 ·
  obtain⟨b,o,x,rfl,hbs,hx,hc⟩:=HC.o.get hlt (qB _) (U3 _);have c0:w1.cell? (b,o+k)=some (x:Z):=by have:=hc 0 _ rfl;simpa using this
  have hkI:(k:Int)<(C.length:Int):=ω
  have HX:=qA hx;clear hx hc;by_cases he:x=tt
  ·
   have HR:=qA (show r=true by rw[<-H.o];exact Vz (he ▸ HX.o));have q:(x==tt)=true:=by rw[beq_iff_eq];exact he
   clear he;go_wp2;go_ret;exact⟨qO HR.o.symm,b1⟩
  have q:(x==tt)=false:=by rw[U0];exact he
  have HN':=qA ((YS HX.o HN.o).trans q);clear he;go_wp2;go_round;case rel=>exact⟨k+1,ω,by go_num,HN'⟩
  simp[intOf];omega
 have HR:=qA (show r=false by
  have:=HN.o;rw[U9 ω]at this;rw[<-H.o];exact this)
 go_wp2;go_ret;exact⟨qO HR.o.symm,b1⟩
end Go.Proofs.YtakedkcjplfgeaaGreatDoor.Th
namespace Go.Proofs.YtakedkcjplfgeaaGreatDoor.Th
open Go.RowKit
open Frq Thr
theorem XE {stop:Int} {k:Nat} {x:CallD} (h0:0<k) (h1:x.stop=stop) (h2:x.alight=true):xH stop k x=true:=by unfold xH;simp[h0,h1,h2]
theorem XB {stop:Int} {k:Nat} {x:CallD} (h0: ¬ 0<k):xH stop k x=false:=by unfold xH;simp[h0]
theorem XC {stop:Int} {k:Nat} {x:CallD} (h0:x.stop≠stop):xH stop k x=false:=by unfold xH;simp[h0]
theorem XD {stop:Int} {k:Nat} {x:CallD} (h0:x.alight=false):xH stop k x=false:=by unfold xH;simp[h0]
theorem bi {n:Nat} {stop:Int} {k:Nat} {x:CallD} (h0:k+1<n) (h1:x.stop=stop) (h2:x.board=true):ZI n stop k x=true:=by unfold ZI;simp[h0,h1,h2]
theorem bW {n:Nat} {stop:Int} {k:Nat} {x:CallD} (h0: ¬ k+1<n):ZI n stop k x=false:=by unfold ZI;simp[h0]
theorem bY {n:Nat} {stop:Int} {k:Nat} {x:CallD} (h0:x.stop≠stop):ZI n stop k x=false:=by unfold ZI;simp[h0]
theorem bZ {n:Nat} {stop:Int} {k:Nat} {x:CallD} (h0:x.board=false):ZI n stop k x=false:=by unfold ZI;simp[h0]
def QL (p:Nat->CallD->Bool) (l:List CallD) (k:Nat):Prop:= ∀ i x,i<k->l[i]? =some x->p i x=false
theorem VE (p:Nat->CallD->Bool) (l:List CallD):QL p l 0:=λi _ h=>absurd h (Nat.not_lt_zero i)
theorem QL.next {p:Nat->CallD->Bool} {l:List CallD} {k:Nat} {x:CallD} (h:QL p l k) (hx:l[k]? =some x) (hp:p k x=false):QL p l (k+1):=λi y hi hy=>by
 by_cases e:i<k
 · exact h i y e hy
 obtain rfl:i=k:=ω
 rw[hx]at hy;cases hy
 exact hp
theorem QL.all {p:Nat->CallD->Bool} {l:List CallD} {k:Nat} (h:QL p l k) (hk:l.length<=k):Y2 p l=none:=XX λi x hx=>h i x (by have:=(Uw.1 hx).1;omega) hx
theorem lN (v:Value) (l:List CallD) (stop:Int) (B:Nat) (w:World) (ha:CallsIn B w v l) (hB:B<=w.heap.size):
  Calls prog 199 #[v,stop] w λe w'=>e=.returned ((bI (QA l stop)):Z)/\Bl w w':=by
 obtain⟨a,cap,rfl,hl1,hl2⟩:=ha.val;have HA:=qA ha;clear ha;go_enter func199,ntmps199
 go_wp2;go_loopw [9] (λi wr=> ∃ k:Nat,k<=l.length/\i=k/\Hid (QL (xH stop) l k)/\Bl w wr) (λi _=>l.length-(intOf i).toNat)
 case atStart=>exact⟨0,qAD _,rfl,VE _ _,qB _⟩
 obtain⟨k,hk,rfl,HN,hbl⟩:=hrel;by_cases hlt:k<l.length
 ·
  obtain⟨b,o,x,rfl,hbs,hx,hc⟩:=HA.o.get hlt hbl hB;have d0:wr.cell? (b,o+k*5)=some (x.stop:Z):=hc 0 _ rfl;have d1:=hc 1 _ rfl;have d2:=hc 2 _ rfl;have d3:=hc 3 _ rfl;have d4:=hc 4 _ rfl;have HX:=qA hx;clear hx hc;by_cases h0:0<k
  ·
   have q0:decide (0<k)=true:=decide_eq_true h0;by_cases h1:x.stop=stop
   ·
    have q1:(x.stop==stop)=true:=by rw[beq_iff_eq];exact h1
    cases h2:x.alight with
    |true=>
     rw[h2]at d4;have HR:=qA (show QA l stop=some k from Ja HN.o HX.o (XE h0 h1 h2));clear h0 h1 h2;go_wp2;go_ret;exact⟨qR (by rw[HR.o];rfl),qE hbl _⟩
    |false=>
     rw[h2]at d4;have HN':=qA (HN.o.next HX.o (XD h2));clear h0 h1 h2;go_wp2;go_roundw;case rel=>exact⟨k+1,ω,by go_num,HN',qE hbl _⟩
     simp[intOf];omega
   have q1:(x.stop==stop)=false:=by rw[U0];exact h1
   have HN':=qA (HN.o.next HX.o (XC h1));clear h0 h1;go_wp2;go_roundw;case rel=>exact⟨k+1,ω,by go_num,HN',qE hbl _⟩
   simp[intOf];omega
  have q0:decide (0<k)=false:=decide_eq_false h0;have HN':=qA (HN.o.next HX.o (XB h0));clear h0;go_wp2;go_roundw;case rel=>exact⟨k+1,ω,by go_num,HN',qE hbl _⟩
  simp[intOf];omega
 have HR:=qA (show QA l stop=none from HN.o.all ω);go_wp2;go_ret;exact⟨qR (by rw[HR.o];rfl),hbl⟩
theorem rW (v:Value) (l:List CallD) (stop:Int) (B:Nat) (w:World) (ha:CallsIn B w v l) (hB:B<=w.heap.size):
  Calls prog 200 #[v,stop] w λe w'=>e=.returned ((bI (JW l stop)):Z)/\Bl w w':=by
 obtain⟨a,cap,rfl,hl1,hl2⟩:=ha.val;have HA:=qA ha;clear ha;go_enter func200,ntmps200
 go_wp2;go_loopw [9] (λi wr=> ∃ k:Nat,k<=l.length/\i=k/\Hid (QL (ZI l.length stop) l k)/\Bl w wr) (λi _=>l.length-(intOf i).toNat)
 case atStart=>exact⟨0,qAD _,rfl,VE _ _,qB _⟩
 obtain⟨k,hk,rfl,HN,hbl⟩:=hrel;by_cases hlt:k<l.length
 ·
  obtain⟨b,o,x,rfl,hbs,hx,hc⟩:=HA.o.get hlt hbl hB;have d0:wr.cell? (b,o+k*5)=some (x.stop:Z):=hc 0 _ rfl;have d1:=hc 1 _ rfl;have d2:=hc 2 _ rfl;have d3:=hc 3 _ rfl;have d4:=hc 4 _ rfl;have HX:=qA hx;clear hx hc;by_cases h0:k+1<l.length
  ·
   have q0:decide ((k:Int)+1<(l.length:Int))=true:=decide_eq_true ω;by_cases h1:x.stop=stop
   ·
    have q1:(x.stop==stop)=true:=by rw[beq_iff_eq];exact h1
    cases h2:x.board with
    |true=>
     rw[h2]at d3;have HR:=qA (show JW l stop=some k from Ja HN.o HX.o (bi h0 h1 h2));clear h0 h1 h2;go_wp2;go_ret;exact⟨qR (by rw[HR.o];rfl),qE hbl _⟩
    |false=>
     rw[h2]at d3;have HN':=qA (HN.o.next HX.o (bZ h2));clear h0 h1 h2;go_wp2;go_roundw;case rel=>exact⟨k+1,ω,by go_num,HN',qE hbl _⟩
     simp[intOf];omega
   have q1:(x.stop==stop)=false:=by rw[U0];exact h1
   have HN':=qA (HN.o.next HX.o (bY h1));clear h0 h1;go_wp2;go_roundw;case rel=>exact⟨k+1,ω,by go_num,HN',qE hbl _⟩
   simp[intOf];omega
  have q0:decide ((k:Int)+1<(l.length:Int))=false:=decide_eq_false ω;have HN':=qA (HN.o.next HX.o (bW h0));clear h0;go_wp2;go_roundw;case rel=>exact⟨k+1,ω,by go_num,HN',qE hbl _⟩
  simp[intOf];omega
 have HR:=qA (show JW l stop=none from HN.o.all ω);go_wp2;go_ret;exact⟨qR (by rw[HR.o];rfl),hbl⟩
theorem Zq {a b a' b':Int} {c c':Bool} {r:Int×Int×Bool} (h:r=(a,b,c)) (h':r=(a',b',c')):Ending.returned (.tuple #[a,b,c])=.returned (.tuple #[a',b',c']):=by
 rw[h]at h';simp only[qAF]at h';rw[h'.1,h'.2.1,h'.2.2]
theorem Lp (va vb:Value) (a b:List CallD) (stop:Int) (i0 k0:Int) (r0:Bool) (H:Hid (vI a b stop=(i0,k0,r0))) (B:Nat) (w:World) (ha:CallsIn B w va a) (hb:CallsIn B w vb b) (hB:B<=w.heap.size):
  Calls prog 129 #[va,vb,stop] w λe w'=>e=.returned (.tuple #[i0,k0,r0])/\Bl w w':=by
 obtain⟨aa,capa,rfl,la1,la2⟩:=ha.val;obtain⟨ab,capb,rfl,lb1,lb2⟩:=hb.val;have HA:=qA ha;have HB:=qA hb;clear ha hb;go_enter func129,ntmps129
 go_wp2_with fail;refine(lN _ a stop B w HA.o hB).mono ?_;rintro e w1 ⟨rfl,b1⟩;have z1:=b1.size;have HB1:=qA b1;clear b1;obtain⟨oa,hoa⟩:=ε (QA a stop);rw[hoa];have HOA:=qA hoa;clear hoa;go_wp2_with fail;refine(rW _ b stop B w1 (HB.o.o HB1.o hB) ω).mono ?_;rintro e w2 ⟨rfl,b2⟩;have HB2:Hid (Bl w w2):=qF HB1.o b2;obtain⟨ob,hob⟩:=ε (JW b stop);rw[hob];have HOB:=qA hob;clear hob b2;cases oa with
 |none=>
  have HR:=qA (nO (b:=b) HOA.o);rw[show bI none= -1 from rfl];go_wp2_with fail;go_quiet (fail)
  go_wp2;go_ret3
  exact⟨Zq HR.o H.o,qM HB2.o _⟩
 |some i=>
  rw[show bI (some i)=(i:Int) from rfl];have q1:decide ((i:Int)<0)=false:=decide_eq_false ω;cases ob with
  |none=>
   have HR:=qA (nP (a:=a) HOB.o);rw[show bI none= -1 from rfl];go_wp2_with fail;go_quiet (fail)
   go_wp2;go_ret3
   exact⟨Zq HR.o H.o,qM HB2.o _⟩
  |some k=>
   rw[show bI (some k)=(k:Int) from rfl];have q2:decide ((k:Int)<0)=false:=decide_eq_false ω;obtain⟨x,hx,-,-⟩:=mO HOA.o;obtain⟨y,hy,-,-⟩:=mO HOB.o;have hil:=(Uw.1 hx).1;have hkl:=(Uw.1 hy).1;obtain⟨ba,oa,x',rfl,hba,hx',hca⟩:=HA.o.get hil HB2.o hB;obtain rfl:x=x':=by rw[hx]at hx';exact qAB hx'
   obtain⟨bb,ob,y',rfl,hbb,hy',hcb⟩:=HB.o.get hkl HB2.o hB;obtain rfl:y=y':=by rw[hy]at hy';exact qAB hy'
   have c1:=hca 1 _ rfl;have c2:=hcb 2 _ rfl;have HX:=qA hx;have HY:=qA hy;have iI:(i:Int)<(a.length:Int):=ω
   have kI:(k:Int)<(b.length:Int):=ω
   clear hca hcb hx hy hx' hy';by_cases hlt:y.depart<x.arrive
   ·
    have HR:=qA (dZ HOA.o HOB.o HX.o HY.o hlt);have q:decide (y.depart<x.arrive)=true:=decide_eq_true hlt;clear hlt;go_wp2_with fail;go_quiet (fail)
    go_wp2;go_ret3
    exact⟨Zq HR.o H.o,qM HB2.o _⟩
   have HR:=qA (Xp HOA.o HOB.o HX.o HY.o ω);have q:decide (y.depart<x.arrive)=false:=decide_eq_false hlt;clear hlt;go_wp2_with fail;go_quiet (fail)
   go_wp2;go_ret3
   exact⟨Zq HR.o H.o,qM HB2.o _⟩
