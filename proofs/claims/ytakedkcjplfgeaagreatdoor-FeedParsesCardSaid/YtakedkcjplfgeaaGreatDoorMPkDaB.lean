/- Contracts, proved. Conditions: theirs. -/
import Derived.Test.YtakedkcjplfgeaaGreatDoorMPkDaA
import Derived.BigQuiet
set_option maxRecDepth 1000000
set_option maxHeartbeats 32000000
open Go.Proofs.Tryz
namespace Go.Proofs.YtakedkcjplfgeaaGreatDoor.Da
open Go.RowKit
open Num Clk Dat
def xO (B:Nat) (v:Value) (l:Ψ) (w:World):Prop:=w.ownsRow B 5 1 v l.length (Lib.byteCells l)
theorem Xw (B:Nat) (w:World):xO B () [] w:=World.ownsRow_nil w B _ 1
theorem kQ {B:Nat} {v:Value} {l:Ψ} {w:World} (h:xO B v l w) (o:Obj):xO B v l (w.alloc o):=World.ownsRow.alloc h o
theorem QW (l:Ψ):(Lib.byteCells l).length=l.length:=by simp[Lib.byteCells]
theorem vg (a b:Ψ):Lib.byteCells (a++b)=Lib.byteCells a++Lib.byteCells b:=by simp[Lib.byteCells]
theorem YG {B:Nat} {v:Value} {l:Ψ} {w:World} (h:xO B v l w):(convert 140 9 v).run prog w=.ok (qP l) w:=by
 have h':=h;rcases h.2 with⟨rfl,h0⟩|⟨g,cap,cur,rfl,hg,hb,hn,hc,hs,ht⟩
 ·
  obtain rfl:l=[]:=List.length_eq_zero_iff.1 h0;exact run_convert_bytes_nil w 140 5 underlying140 underlying5 0 0 9 underlying9
 refine run_convert_bytes_back w 140 9 5 (g,0) cap l underlying140 underlying5 underlying9 ?_;intro j hj;exact World.ownsRow.cells h' rfl j _ (by simp[Lib.byteCells,hj])
theorem IL (b:Nat) (k:Nat) (h1:k<=4) (W:World):
  (Instr.sliceAt 247 ((b,0):Z) none (some ((k:Int):Z)) none).run prog W=.ok ((b,0,k,4):Z) W:=by
 have e:prog.arrayLen 247=4:=κ
 rw[run_sliceAt_array_h W 247 _ κ .i64 (k:Int) ω (by rw[e];omega)];have s:(sizeOf (prog.elem 247)).run prog W=.ok 1 W:=κ
 rw[s,e];simp[Result.andThen,slicedAt,Addr.add]
theorem mD (n:Int) (h0:0<=n) (h1:n<=9999):Lib.byteCells (xx n.toNat 4)=[.int .u8 (48+n / 10 / 10 / 10%10),.int .u8 (48+n / 10 / 10%10),.int .u8 (48+n / 10%10),.int .u8 (48+n%10)]:=by
 have a:=zi (n.toNat / 10 / 10 / 10%10) ω;have b:=zi (n.toNat / 10 / 10%10) ω;have c:=zi (n.toNat / 10%10) ω;have d:=zi (n.toNat%10) ω;simp only[xx,List.nil_append,List.cons_append,Lib.byteCells,List.map_cons,List.map_nil,a,b,c,d];rw[show((48+n.toNat / 10 / 10 / 10%10:Nat):Int)=48+n / 10 / 10 / 10%10 by omega,show((48+n.toNat / 10 / 10%10:Nat):Int)=48+n / 10 / 10%10 by omega,show((48+n.toNat / 10%10:Nat):Int)=48+n / 10%10 by omega,show((48+n.toNat%10:Nat):Int)=48+n%10 by omega]
theorem lw (n:Int) (h0:0<=n) (h1:n<=99):Lib.byteCells (xx n.toNat 2)=[.int .u8 (48+n / 10%10),.int .u8 (48+n%10)]:=by
 have c:=zi (n.toNat / 10%10) ω;have d:=zi (n.toNat%10) ω;simp only[xx,List.nil_append,List.cons_append,Lib.byteCells,List.map_cons,List.map_nil,c,d];rw[show((48+n.toNat / 10%10:Nat):Int)=48+n / 10%10 by omega,show((48+n.toNat%10:Nat):Int)=48+n%10 by omega]
theorem zl {w:World} {T:TypeId} {C:Array Value} (news:List Value) (h: ∀ (j:Nat) (u:Value),news[j]? =some u->C[j]? =some u): ∀ (j:Nat) (u:Value),news[j]? =some u->(w.alloc (.cells C T)).cell? (((w.heap.size,0):Addr).add j)=some u:=by
 intro j u hj;have:(((w.heap.size,0):Addr).add j)=((w.heap.size,j):A):=by simp[Addr.add];omega
 rw[this,Uy (hn:=rfl),h j u hj]
theorem O0 (B:Nat) (v:Value) (l:Ψ) (n:Int) (h0:0<=n) (h1:n<=9999) (w:World) (hown:xO B v l w) (hB:B<=w.heap.size) (hl:l.length<=100):
  Calls prog 212 #[v,n,.int .i64 4] w λe w'=> ∃ v',e=.returned v'/\xO B v' (l++xx n.toNat 4) w'/\Below B w w':=by
 obtain⟨i0,hi,hz0,hz1,hz2⟩:=info_parts vk;have hsl:=λb W=>IL b 4 ω W
 have HD:=qA (mD n h0 h1);have HOwn:=qA hown;clear hown;go_enter func212,ntmps212
 go_wp2_with fail;refine wp_loop_rounds 5 ?_;rw[rounds_succ];go_wp2_with fail;rw[rounds_succ];go_wp2_with fail;rw[rounds_succ];go_wp2_with fail;rw[rounds_succ];go_wp2_with fail;rw[rounds_succ];go_wp2_with (at_builtin;refine wpList_append_own _ rfl _ _ 140 rfl B 5 i0 (.int .u8 0) 1 1 underlying140 hi hz0 hz1 hz2 rfl δ _ _ _ rfl (kQ HOwn.o _) (w.heap.size,0) 4 4 [.int .u8 (48+n / 10 / 10 / 10%10),.int .u8 (48+n / 10 / 10%10),.int .u8 (48+n / 10%10),.int .u8 (48+n%10)] rfl rfl ?c1 ?c2 ?c3 ?c4 ?c5 ?_)
 case c1=>exact zl _ (λj u h=>η)
 case c2=>simp[Value.oneCell']
 case c3=>unfold maxLen;omega
 case c4=>omega
 case c5=>simp;omega
 intro v' w2 hown' hgrow _;go_wp2;go_ret;refine⟨v',rfl, ?_, ?_⟩
 ·
  have hx:=HD.o;unfold xO;rw[vg,hx,show(l++xx n.toNat 4).length=l.length+4 by simp[xx]];exact hown'
 exact((Below.refl B w).alloc hB _).grown hgrow τ (λk hk=>(qAG HOwn.o k hk).1)
theorem Hl (B:Nat) (v:Value) (l:Ψ) (n:Int) (h0:0<=n) (h1:n<=99) (w:World) (hown:xO B v l w) (hB:B<=w.heap.size) (hl:l.length<=100):
  Calls prog 212 #[v,n,.int .i64 2] w λe w'=> ∃ v',e=.returned v'/\xO B v' (l++xx n.toNat 2) w'/\Below B w w':=by
 obtain⟨i0,hi,hz0,hz1,hz2⟩:=info_parts vk;have hsl:=λb W=>IL b 2 ω W
 have HD:=qA (lw n h0 h1);have HOwn:=qA hown;clear hown;go_enter func212,ntmps212
 go_wp2_with fail;refine wp_loop_rounds 3 ?_;rw[rounds_succ];go_wp2_with fail;rw[rounds_succ];go_wp2_with fail;rw[rounds_succ];go_wp2_with (at_builtin;refine wpList_append_own _ rfl _ _ 140 rfl B 5 i0 (.int .u8 0) 1 1 underlying140 hi hz0 hz1 hz2 rfl δ _ _ _ rfl (kQ HOwn.o _) (w.heap.size,0) 2 4 [.int .u8 (48+n / 10%10),.int .u8 (48+n%10)] rfl rfl ?c1 ?c2 ?c3 ?c4 ?c5 ?_)
 case c1=>exact zl _ (λj u h=>by
  match j,h with
  |0,h=>simpa using h
  |1,h=>simpa using h)
 case c2=>simp[Value.oneCell']
 case c3=>unfold maxLen;omega
 case c4=>omega
 case c5=>simp;omega
 intro v' w2 hown' hgrow _;go_wp2;go_ret;refine⟨v',rfl, ?_, ?_⟩
 ·
  have hx:=HD.o;unfold xO;rw[vg,hx,show(l++xx n.toNat 2).length=l.length+2 by simp[xx]];exact hown'
 exact((Below.refl B w).alloc hB _).grown hgrow τ (λk hk=>(qAG HOwn.o k hk).1)
theorem Xy {B:Nat} {v:Value} {l:Ψ} {w:World} (h:xO B v l w): ∃ a n c,v=.slice a n c:=by
 rcases h.2 with⟨rfl,_⟩|⟨g,cap,cur,rfl,_⟩
 · exact⟨_,_,_,rfl⟩
 exact⟨_,_,_,rfl⟩
theorem sD (d:Int):(0<=d/\d<=36524/\jb d=(V4 d,0))∨(¬ (0<=d/\d<=36524)/\jb d=([],11)):=by
 unfold jb;by_cases h:0<=d/\d<=36524
 · exact .inl ⟨h.1,h.2,U6 h⟩
 exact .inr ⟨h,U5 h⟩
theorem sK (d:Int) (h0:0<=d) (h1:d<=36524):(((([]++xx (kZ d).toNat 4)++[45])++xx (jl d).toNat 2)++[45])++xx (QJ d).toNat 2=V4 d:=by
 obtain⟨⟨y0,y1⟩,⟨m0,m1⟩,⟨d0,d1⟩⟩:=Yt d h0 h1;have hm:=QX (kZ d) (jl d);unfold V4;rw[CQ _ ω,mF _ ω,mF _ ω];simp
theorem CP (d:Int) (l:Ψ) (e:Int) (H:Hid (jb d=(l,e))) (w:World):
  Calls prog 149 #[d] w λr w'=>r=.returned (.tuple #[qP l,e])/\Bl w w':=by
 rcases sD d with⟨h0,h1,k⟩|⟨h,k⟩
 ·
  obtain⟨e1,rfl⟩:=qAE (k.symm.trans H.o);have HL:=qA e1;have HT:=qA (sK d h0 h1);clear k H e1;obtain⟨⟨y0,y1⟩,⟨m0,m1⟩,⟨d0,d1⟩⟩:=Yt d h0 h1;have hm:=(QX (kZ d) (jl d)).2;have d2:QJ d<=99:=ω
  clear d1 hm;obtain⟨i0,hi,hz0,hz1,hz2⟩:=info_parts vk;have HC0:=qA (rfl:fK d (.returned (.tuple #[(kZ d),(jl d),(QJ d),true])));go_enter func149,ntmps149
  go_wp2_with fail;refine(CO d h0 h1 _).mono ?_;rintro e w1 ⟨he,b1⟩;unfold fK at he;subst he;generalize kZ d=y at*
  generalize jl d=m at*
  generalize QJ d=x at*
  go_wp2_with fail;refine(O0 w.heap.size _ [] y ω ω _ (Xw _ _) b1.size σ).mono ?_;rintro e w2 ⟨v2,rfl,o2,b2⟩;obtain⟨a2,n2,c2,rfl⟩:=Xy o2;have O2:=qA o2;clear o2;have b3:=b1.trans b2;go_wp2_with (at_builtin;refine wpList_append_own _ rfl _ _ 140 rfl w.heap.size 5 i0 (.int .u8 0) 1 1 underlying140 hi hz0 hz1 hz2 rfl δ _ _ _ rfl (kQ O2.o _) (w2.heap.size,0) 1 1 [.int .u8 45] rfl rfl ?c1 ?c2 ?c3 ?c4 ?c5 ?_)
  case c1=>exact zl _ (λj u h=>η)
  case c2=>simp[Value.oneCell']
  case c3=>unfold maxLen;simp[xx]
  case c4=>simp[xx]
  case c5=>have:=b3.size;simp;omega
  intro v3 w3 hown3 hgrow3 _;have O3:Hid (xO w.heap.size v3 (([]++xx y.toNat 4)++[45]) w3):=by
   show xO _ _ _ _
   unfold xO;rw[vg,U1];exact hown3
  have b4:Bl w w3:=(b3.alloc b3.size _).grown hgrow3 (by have:=b3.size;simp;omega) (λk hk=>(qAG O2.o k hk).1);clear hown3 hgrow3;go_wp2_with fail;refine(Hl w.heap.size v3 (([]++xx y.toNat 4)++[45]) m ω ω _ O3.o b4.size (by simp[xx])).mono ?_;rintro e w5 ⟨v5,rfl,o5,b5⟩;obtain⟨a5,n5,c5,rfl⟩:=Xy o5;have O5:=qA o5;clear o5;have b6:=b4.trans b5;go_wp2_with (at_builtin;refine wpList_append_own _ rfl _ _ 140 rfl w.heap.size 5 i0 (.int .u8 0) 1 1 underlying140 hi hz0 hz1 hz2 rfl δ _ _ _ rfl (kQ O5.o _) (w5.heap.size,0) 1 1 [.int .u8 45] rfl rfl ?c1 ?c2 ?c3 ?c4 ?c5 ?_)
  case c1=>exact zl _ (λj u h=>η)
  case c2=>simp[Value.oneCell']
  case c3=>unfold maxLen;simp[xx]
  case c4=>simp[xx]
  case c5=>have:=b6.size;simp;omega
  intro v7 w7 hown7 hgrow7 _;have O7:Hid (xO w.heap.size v7 (((([]++xx y.toNat 4)++[45])++xx m.toNat 2)++[45]) w7):=by
   show xO _ _ _ _
   unfold xO;rw[vg,U1];exact hown7
  have b8:Bl w w7:=(b6.alloc b6.size _).grown hgrow7 (by have:=b6.size;simp;omega) (λk hk=>(qAG O5.o k hk).1);clear hown7 hgrow7;go_wp2_with fail;refine(Hl w.heap.size v7 (((([]++xx y.toNat 4)++[45])++xx m.toNat 2)++[45]) x ω ω _ O7.o b8.size (by simp[xx])).mono ?_;rintro e w9 ⟨v9,rfl,o9,b9⟩;have hcv:=YG o9;rw[HT.o,HL.o]at hcv;have b10:=b8.trans b9;clear o9;go_wp2;go_ret2;exact⟨rfl,b10⟩
 obtain⟨rfl,rfl⟩:=qAE (k.symm.trans H.o);have HN:=qA h;clear h k H;go_enter func149,ntmps149
 go_wp2_with fail;refine(Es d HN.o _).mono ?_;rintro e w1 ⟨rfl,rfl⟩;go_wp2;go_ret2;exact⟨rfl,qB _⟩
theorem PR {l:Ψ} (h:zC l=true) (k:Nat) (hk:l.length<=k):val l<10 ^ k:=by
 induction k generalizing l with
 |zero=>
  obtain rfl:l=[]:=List.length_eq_zero_iff.1 ω;simp[val]
 |succ k ih=>
  rcases Yd l with rfl|⟨m,c,rfl⟩
  · rw[NP];exact Nat.pow_pos δ
  rw[Jy,Bool.and_eq_true]at h;have:=ih h.1 (by simp at hk;omega);have hc:=(jg c).1 h.2;rw[ZY,Nat.pow_succ];omega
theorem Yc {k:IntKind} {n x:Int} {b y:Bool} (h1:n=x) (h2:b=y):Ending.returned (.tuple #[.int k x,y])=.returned (.tuple #[.int k n,b]):=by rw[h1,h2]
def YQ (l:Ψ):Int×Bool:=if zC l=true then((val l:Int),true)else(0,false)
theorem Ji (s:Φ) (k:Nat) (h:k<s.size):s.data.toList.take (k+1)=s.data.toList.take k++[s[k]]:=by
 rw[List.take_succ_eq_append_getElem η];rfl
theorem uJ (s:Φ) (k:Nat) (h:k<s.size) (hc:qV s[k]=false):zC s.data.toList=false:=by
 have:=Ji s k h;have e:s.data.toList=s.data.toList.take (k+1)++s.data.toList.drop (k+1):=(List.take_append_drop _ _).symm;rw[e,this];simp[zC,hc]
theorem OC {c:UInt8}:(qV c=true/\48<=(c.toNat:Int)/\(c.toNat:Int)<=57)∨(qV c=false/\((c.toNat:Int)<48∨(48<=(c.toNat:Int)/\57<(c.toNat:Int)))):=by
 cases h:qV c with
 |true=>exact .inl ⟨rfl,by have:=(jg c).1 h;omega⟩
 |false=>
  refine .inr ⟨rfl, ?_⟩;have: ¬ (48<=c.toNat/\c.toNat<=57):=λk=>by rw[(jg c).2 k]at h;simp at h
  omega
theorem ZN (s:Φ) (n:Int) (b:Bool) (H:Hid (YQ s.data.toList=(n,b))) (hs:s.size<=4) (w:World):
  Calls prog 275 #[s] w λe w'=>e=.returned (.tuple #[n,b])/\w=w':=by
 go_enter func275,ntmps275
 go_wp2;go_loop [4,5] (λx i=> ∃ k:Nat,k<=s.size/\i=k/\x=(val (s.data.toList.take k))/\zC (s.data.toList.take k)=true) (λ_ i=>s.size-(intOf i).toNat)
 case atStart=>exact⟨0,qAD _,rfl,rfl,rfl⟩
 obtain⟨k,hk,rfl,rfl,hd⟩:=hrel;have HD:=qA hd;clear hd;by_cases hlt:k<s.size
 ·
  have hv:=PR HD.o 3 (by rw[List.length_take];omega);have e7:=λW=>KI s (k:Int) k rfl hlt W
  have HV:=qA (Ji s k hlt);have HN:=qA (λhc=>uJ s k hlt hc);obtain⟨c,hc⟩:=ε (s[k]);rw[hc]at e7 HV HN;have hcs:=qA hc;clear hc;obtain⟨v,hv'⟩:=ε (val (s.data.toList.take k));rw[hv']at hv ⊢;have HVV:=qA hv';clear hv';rcases OC (c:=c)with⟨hdc,c0,c1⟩|⟨hdc,c0|⟨c0,c1⟩⟩
  ·
   have HDC:=qA hdc;clear hdc;have hv3:(v:Int)<=1000:=ω
   have E1:=IntWalk.u8_in ((c.toNat:Int)-48) ω;go_wp2;go_round;case rel=>exact⟨k+1,ω,by go_num,by rw[HV.o,ZY,HVV.o];exact congrArg _ ω,by rw[HV.o,Jy,HD.o,HDC.o];rfl⟩
   simp[intOf];omega
  all_goals
   have HB:Hid (n=0/\b=false):=by
    have:=H.o;unfold YQ at this;rw[HN.o hdc]at this;simp at this
    exact⟨this.1.symm,this.2⟩
   clear hdc;go_wp2;go_ret2;exact⟨Yc HB.o.1 HB.o.2,rfl⟩
 have HB:Hid (n=val (s.data.toList.take k)/\b=true):=by
  have:=H.o;have he:=HD.o;rw[U9 τ]at he ⊢;unfold YQ at this;rw[U6 he]at this;exact⟨((qAE this).1).symm,((qAE this).2).symm⟩
 go_wp2;go_ret2;exact⟨Yc HB.o.1 HB.o.2,rfl⟩
theorem Xh (s:Φ) (z:Int) (i:Nat) (hz:z=(i:Int)) (c:UInt8) (hc:s.data.toList[i]? =some c) (W:World):
  (Instr.index 9 (s:Z) (z:Z)).run prog W=.ok (.int .u8 (c.toNat:Int)) W:=by
 obtain⟨h,e⟩:=Uw.1 hc;have hi:i<s.size:=η
 rw[KI s z i hz hi W,<-qw s i hi,e]
theorem yC (s:Φ) (i j:Nat):(s.extract i j).data.toList=(s.data.toList.drop i).take (j-i):=by rw[Lib.extract_data]
theorem aV (s:Φ):s.data.toList.length=s.size:=σ
theorem Ns {a b:UInt8} (h:a≠b):(a.toNat:Int)≠(b.toNat:Int):=λk=>h (UInt8.toNat.inj ω)
theorem Rq {a b c e:UInt8} (h1:qV a=true) (h2:qV b=true) (h3:qV c=true) (h4:qV e=true):YQ [a,b,c,e]=(100*wH a b+wH c e,true):=by
 have:=wV h1;have:=wV h2;have:=wV h3;have:=wV h4;unfold YQ;rw[U6 (by simp[zC, *]),qAF];refine⟨?_,rfl⟩;unfold wH;simp only[val,List.foldl_cons,List.foldl_nil];omega
theorem P8 {a b:UInt8} (h1:qV a=true) (h2:qV b=true):YQ [a,b]=(wH a b,true):=by
 have:=wV h1;have:=wV h2;unfold YQ;rw[U6 (by simp[zC, *]),qAF];refine⟨?_,rfl⟩;unfold wH;simp only[val,List.foldl_cons,List.foldl_nil];omega
theorem Xu (l:Ψ):YQ l=((YQ l).1,zC l):=by unfold YQ;split<;>simp_all
theorem FP {s:Φ} {y m d:Int} (h:DF s.data.toList y m d):s.size=10/\s.data.toList[4]? =some 45/\s.data.toList[7]? =some 45/\
  YQ (s.extract 0 4).data.toList=(y,true)/\YQ (s.extract 5 7).data.toList=(m,true)/\YQ (s.extract 8 s.size).data.toList=(d,true):=by
 have hl:=Ny h;rw[aV]at hl;obtain⟨a,b,c,e,f,g,h,k,e0,⟨h1,h2,h3,h4⟩,⟨h5,h6⟩,⟨h7,h8⟩,rfl,rfl,rfl⟩:=h;rw[yC,yC,yC,e0,hl];exact⟨rfl,rfl,rfl,Rq h1 h2 h3 h4,P8 h5 h6,P8 h7 h8⟩
theorem Iw {s:Φ} (h:vG s.data.toList pat10=false):s.size≠10∨(s.size=10/\((∃ x,s.data.toList[4]? =some x/\x≠45)∨(s.data.toList[4]? =some 45/\ ∃ x,s.data.toList[7]? =some x/\x≠45)∨
  (s.data.toList[4]? =some 45/\s.data.toList[7]? =some 45/\ ∃ n1 b1 n2 b2 n3 b3,YQ (s.extract 0 4).data.toList=(n1,b1)/\YQ (s.extract 5 7).data.toList=(n2,b2)/\YQ (s.extract 8 s.size).data.toList=(n3,b3)/\
   (b1=false∨(b1=true/\b2=false)∨(b1=true/\b2=true/\b3=false))))):=by
 by_cases hl:s.size=10
 ·
  refine .inr ⟨hl, ?_⟩;obtain⟨a,b,c,d,x,e,f,y,g,k,e0⟩:=GV (l:=s.data.toList) (by rw[aV,hl]);rw[yC,yC,yC,e0,hl];by_cases hx:x=45
  ·
   by_cases hy:y=45
   ·
    subst hx;subst hy;refine .inr (.inr ⟨rfl,rfl,_,_,_,_,_,_,Xu _,Xu _,Xu _, ?_⟩);rw[e0]at h;show zC [a,b,c,d]=false∨(zC [a,b,c,d]=true/\zC [e,f]=false)∨(zC [a,b,c,d]=true/\zC [e,f]=true/\zC [g,k]=false)
    cases h1:zC [a,b,c,d]with
    |false=>exact .inl rfl
    |true=>
     cases h2:zC [e,f]with
     |false=>exact .inr (.inl ⟨rfl,rfl⟩)
     |true=>
      cases h3:zC [g,k]with
      |false=>exact .inr (.inr ⟨rfl,rfl,rfl⟩)
      |true=>
       simp[zC]at h1 h2 h3
       simp[vG,pat10,h1,h2,h3]at h
   subst hx;exact .inr (.inl ⟨rfl,y,rfl,hy⟩)
  exact .inl ⟨x,rfl,hx⟩
 exact .inl hl
def PY (b:Bool) (e:Ending):Prop:= ∃ y m d:Int,e=.returned (.tuple #[y,m,d,b])
theorem LY {e:Ending} (y m d:Int) (b:Bool) (h:e=.returned (.tuple #[y,m,d,b])):PY b e:=⟨y,m,d,h⟩
theorem vH (s:Φ) (i j:Nat) (h:j<=s.size) (hij:i<=j):(s.extract i j).size=j-i:=τ
theorem XW (s:Φ) (y m d:Int) (H:Hid (DF s.data.toList y m d)) (w:World):
  Calls prog 243 #[s] w λe w'=>e=.returned (.tuple #[y,m,d,true])/\w=w':=by
 obtain⟨h10,h4,h7,n1,n2,n3⟩:=FP H.o;have N1:=qA n1;have N2:=qA n2;have N3:=qA n3;have e4:=λW=>Xh s 4 4 rfl 45 h4 W
 have e7:=λW=>Xh s 7 7 rfl 45 h7 W
 have hs1:10<=s.size:=ω
 have hs2:s.size<=10:=ω
 have q0:((s.size:Int) != 10)=false:=by rw[bne_eq_false_iff_eq];omega
 clear h10 h4 h7 n1 n2 n3;go_enter func243,ntmps243
 go_wp2_with fail;refine(ZN _ _ _ N1 (by rw[vH _ _ _ ω ω];omega) _).mono ?_;rintro e w1 ⟨rfl,rfl⟩;go_wp2_with fail;refine(ZN _ _ _ N2 (by rw[vH _ _ _ ω ω];omega) _).mono ?_;rintro e w1 ⟨rfl,rfl⟩;go_wp2_with fail;refine(ZN _ _ _ N3 (by rw[vH _ _ _ ω ω];omega) _).mono ?_;rintro e w1 ⟨rfl,rfl⟩;go_wp2;exact bodyPost_ret (v:=.tuple #[y,m,d,true]) (by simp[results,results243,go_sem]) rfl ⟨rfl,rfl⟩
theorem CX (s:Φ) (H:Hid (vG s.data.toList pat10=false)) (w:World):
  Calls prog 243 #[s] w λe w'=>PY false e/\w=w':=by
 rcases Iw H.o with h|⟨h10,⟨x,h4,hx⟩|⟨h4,x,h7,hx⟩|⟨h4,h7,n1,b1,n2,b2,n3,b3,k1,k2,k3,hb⟩⟩
 ·
  have q0:((s.size:Int) != 10)=true:=by rw[bne_iff_ne];omega
  clear h;go_enter func243,ntmps243
  go_wp2;exact bodyPost_ret (v:=.tuple #["","","",false]) (by simp[results,results243,go_sem]) rfl ⟨LY _ _ _ _ rfl,rfl⟩
 ·
  have q0:((s.size:Int) != 10)=false:=by rw[bne_eq_false_iff_eq];omega
  have e4:=λW=>Xh s 4 4 rfl x h4 W
  have q1:((x.toNat:Int) != 45)=true:=by rw[bne_iff_ne];exact Ns (b:=45) hx
  clear h10 h4 hx;go_enter func243,ntmps243
  go_wp2;exact bodyPost_ret (v:=.tuple #["","","",false]) (by simp[results,results243,go_sem]) rfl ⟨LY _ _ _ _ rfl,rfl⟩
 ·
  have q0:((s.size:Int) != 10)=false:=by rw[bne_eq_false_iff_eq];omega
  have e4:=λW=>Xh s 4 4 rfl 45 h4 W
  have e7:=λW=>Xh s 7 7 rfl x h7 W
  have q1:((x.toNat:Int) != 45)=true:=by rw[bne_iff_ne];exact Ns (b:=45) hx
  clear h10 h4 h7 hx;go_enter func243,ntmps243
  go_wp2;exact bodyPost_ret (v:=.tuple #["","","",false]) (by simp[results,results243,go_sem]) rfl ⟨LY _ _ _ _ rfl,rfl⟩
 have N1:=qA k1;have N2:=qA k2;have N3:=qA k3;have e4:=λW=>Xh s 4 4 rfl 45 h4 W
 have e7:=λW=>Xh s 7 7 rfl 45 h7 W
 have hs1:10<=s.size:=ω
 have hs2:s.size<=10:=ω
 have q0:((s.size:Int) != 10)=false:=by rw[bne_eq_false_iff_eq];omega
 clear h10 h4 h7 k1 k2 k3;rcases hb with rfl|⟨rfl,rfl⟩|⟨rfl,rfl,rfl⟩
 all_goals
  go_enter func243,ntmps243
  go_wp2_with fail;refine(ZN _ _ _ N1 (by rw[vH _ _ _ ω ω];omega) _).mono ?_;rintro e w1 ⟨rfl,rfl⟩;go_wp2_with fail;refine(ZN _ _ _ N2 (by rw[vH _ _ _ ω ω];omega) _).mono ?_;rintro e w1 ⟨rfl,rfl⟩;go_wp2_with fail;refine(ZN _ _ _ N3 (by rw[vH _ _ _ ω ω];omega) _).mono ?_;rintro e w1 ⟨rfl,rfl⟩;go_wp2;exact bodyPost_ret (v:=.tuple #[n1,n2,n3,false]) (by simp[results,results243,go_sem]) rfl ⟨LY _ _ _ _ rfl,rfl⟩
theorem FC (s:Φ) (n e:Int) (H:Day s.data.toList n e) (w:World):
  Calls prog 188 #[s] w λr w'=>r=.returned (.tuple #[n,e])/\Bl w w':=by
 generalize hl:s.data.toList=l at H
 cases H with
 |bad h=>
  have HF:Hid (vG s.data.toList pat10=false):=by show _=_;rw[hl];exact h
  clear h hl;go_enter func188,ntmps188
  go_wp2_with fail;refine(CX s HF _).mono ?_;rintro e w1 ⟨⟨y,m,d,rfl⟩,rfl⟩;go_wp2;go_ret2;exact⟨rfl,qB _⟩
 |out h k=>
  rename_i y m d;have HF:Hid (DF s.data.toList y m d):=by show DF _ _ _ _;rw[hl];exact h
  have HK:=qA k;clear h hl k;go_enter func188,ntmps188
  go_wp2_with fail;refine(XW s _ _ _ HF _).mono ?_;rintro e w1 ⟨rfl,rfl⟩;go_wp2_with fail;refine(Fj _ _ _ _ _ HK _).mono ?_;rintro e w1 ⟨rfl,b1⟩;go_wp2;go_ret2;exact⟨rfl,b1⟩
 |ok _ h k=>
  rename_i y m d;have HF:Hid (DF s.data.toList y m d):=by show DF _ _ _ _;rw[hl];exact h
  have HK:=qA k;clear h hl k;go_enter func188,ntmps188
  go_wp2_with fail;refine(XW s _ _ _ HF _).mono ?_;rintro e w1 ⟨rfl,rfl⟩;go_wp2_with fail;refine(Fj _ _ _ _ _ HK _).mono ?_;rintro e w1 ⟨rfl,b1⟩;go_wp2;go_ret2;exact⟨rfl,b1⟩
