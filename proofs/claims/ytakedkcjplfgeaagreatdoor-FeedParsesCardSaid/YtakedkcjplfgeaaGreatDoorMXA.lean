/- Contracts, proved. Conditions: theirs. -/
import Derived.Test.YtakedkcjplfgeaaGreatDoorMPkWrA
import Derived.StillTailTactics
set_option maxRecDepth 1000000
set_option maxHeartbeats 32000000
open Go.Proofs.Tryz
namespace Go.Proofs.YtakedkcjplfgeaaGreatDoor.Fld
theorem Z7 (c:UInt8): ∀ s,zK c (s++[c])=zK c s++[[]]
 |[]=>by rw[List.nil_append,ZT];rfl
 |b::r=>by
  rw[List.cons_append];by_cases h:b=c
  ·
   rw[h,ZT,ZT,Z7 c r];rfl
  obtain⟨h',t,hr⟩: ∃ h' t,zK c r=h'::t:=by
   cases hs:zK c r with
   |nil=>exact absurd hs (fB c r)
   |cons x y=>exact⟨x,y,rfl⟩
  rw[yh h hr,yh h (by rw[Z7 c r,hr];rfl)];rfl
end Go.Proofs.YtakedkcjplfgeaaGreatDoor.Fld
namespace Go.Proofs.YtakedkcjplfgeaaGreatDoor
open Go.RowKit
open Frq Thr Tt Num Clk Dat Fld
theorem jA.getB {α:Type} {cells:α->List Value} {sz B:Nat} {w:World} {xs:List α} {a:Option Addr} {n cap:Nat} (h:jA cells sz B w (.slice a n cap) xs) {k:Nat} {x:α} (hx:xs[k]? =some x):
  ∃ (b o:Nat),a=some ((b,o):A)/\b<B/\ ∀ (j:Nat) (u:Value),(cells x)[j]? =some u->w.cell? (b,o+k*sz+j)=some u:=by
 obtain⟨b,o,cap',y,hv,-,-,hbB,hy,hc⟩:=h.at (Uw.1 hx).1;simp only[Value.slice.injEq]at hv;obtain rfl:x=y:=qAB (hx.symm.trans hy);exact⟨b,o,hv.1,hbB,hc⟩
end Go.Proofs.YtakedkcjplfgeaaGreatDoor
namespace Go.Proofs.YtakedkcjplfgeaaGreatDoor.Num
theorem xE (u:Nat):val (qL u)=u:=by
 induction u using Nat.strongRecOn with
 |_ u ih=>
  by_cases h:u<10
  ·
   rw[zD h];have:=zi u h;simp only[val,List.foldl_cons,List.foldl_nil,this];omega
  rw[jC h,ZY,ih (u / 10) ω,zi (u%10) ω];omega
theorem VX (u:Nat):zC (qL u)=true:=by
 induction u using Nat.strongRecOn with
 |_ u ih=>
  by_cases h:u<10
  ·
   rw[zD h];have:=zi u h;simp only[zC,List.all_cons,List.all_nil,Bool.and_true,jg];omega
  rw[jC h,Jy,ih (u / 10) ω];have:=zi (u%10) ω;simp only[Bool.true_and,jg];omega
theorem Xc (u:Nat) (hu:0<u):(qL u).head?≠some 48:=by
 induction u using Nat.strongRecOn with
 |_ u ih=>
  by_cases h:u<10
  ·
   rw[zD h];have:=zi u h;intro e;simp only[List.head?_cons,qAA]at e;rw[e]at this;simp at this
   omega
  rw[jC h];have:=ih (u / 10) ω ω;have hne:=JX (u / 10);cases hd:qL (u / 10)with
  |nil=>exact absurd hd hne
  |cons a t=>
   rw[hd]at this;simpa using this
theorem kP (u:Nat):zN (qL u)=true:=by
 have h1:=VX u;have h2:(qL u).isEmpty=false:=by
  have:=JX u;cases hd:qL u with
  |nil=>exact absurd hd this
  |cons a t=>rfl
 by_cases hu:u=0
 ·
  subst hu;rw[zD ω];decide
 have h3:=Xc u ω;simp[zN,h1,h2,h3]
theorem GG {l:Ψ} (h:zN l=true):l.head?≠some 45:=by
 cases l with
 |nil=>simp
 |cons a t=>
  simp[zN,zC,qV]at h
  intro e;simp only[List.head?_cons,qAA]at e;subst e;simp at h
end Go.Proofs.YtakedkcjplfgeaaGreatDoor.Num
namespace Go.Proofs.YtakedkcjplfgeaaGreatDoor.Clk
open Num
theorem vV (n:Nat) (h:n<100):qV (UInt8.ofNat (48+n / 10))=true/\qV (UInt8.ofNat (48+n%10))=true/\wH (UInt8.ofNat (48+n / 10)) (UInt8.ofNat (48+n%10))=n:=by
 have h1:=zi (n / 10) ω;have h2:=zi (n%10) ω;refine⟨?_, ?_, ?_⟩
 · rw[jg];omega
 · rw[jg];omega
 unfold wH;rw[h1,h2];omega
end Go.Proofs.YtakedkcjplfgeaaGreatDoor.Clk
namespace Go.Proofs.YtakedkcjplfgeaaGreatDoor.Dat
open Num Clk
theorem oU {l:Ψ} {y m d:Int} (h:DF l y m d):vG l pat10=true:=by
 obtain⟨a,b,c,e,f,g,h,k,rfl,⟨h1,h2,h3,h4⟩,⟨h5,h6⟩,⟨h7,h8⟩,_⟩:=h;simp[vG,pat10, *]
end Go.Proofs.YtakedkcjplfgeaaGreatDoor.Dat
namespace Go.Proofs.YtakedkcjplfgeaaGreatDoor.Tt
open Num Clk Dat Frq Thr Fld
def St.ids (s:St):List Ψ:=s.t.stops.map (·.id)
theorem DN: ∀ m:Fin 256,QR (vU (m.val:Int))=((m.val:Int),0):=ξ
theorem Xt {m:Int} (h:0<=m/\m<=255):QR (vU m)=(m,0):=by
 have:=DN ⟨m.toNat,ω⟩;simpa[Int.toNat_of_nonneg h.1]using this
end Go.Proofs.YtakedkcjplfgeaaGreatDoor.Tt
namespace Go.Proofs.YtakedkcjplfgeaaGreatDoor.Tt
open Num Clk Dat
theorem Cm (c:UInt8) (l:Ψ) (h:c∉l):Lib.index l [c]= -1:=by
 induction l with
 |nil=>rfl
 |cons b l ih=>
  rw[List.mem_cons,not_or]at h;unfold Lib.index;rw[U5 (by simp[h.1]),ih h.2];rfl
theorem GL (c:UInt8) (a b:Ψ) (h:c∉a):Lib.index (a++c::b) [c]=a.length:=by
 induction a with
 |nil=>unfold Lib.index;simp
 |cons x a ih=>
  rw[List.mem_cons,not_or]at h;rw[List.cons_append];unfold Lib.index;rw[U5 (by simp[h.1]),ih h.2,U5 σ];simp
theorem Ae {c:UInt8} {l:Ψ} (h:c∉l):Lib.cut l [c]=(l,[],false):=by
 unfold Lib.cut;rw[Cm c l h,U5 δ]
theorem ry {c:UInt8} {a b:Ψ} (h:c∉a):Lib.cut (a++c::b) [c]=(a,b,true):=by
 unfold Lib.cut;rw[GL c a b h,U6 ω];simp
theorem iZ (u:Ψ):Lib.hasSuffix (u++[115]) [115]=true:=by
 unfold Lib.hasSuffix;rw[List.isSuffixOf_iff_suffix];exact⟨u,rfl⟩
theorem ik (u:Ψ):Lib.trimSuffix (u++[115]) [115]=u:=by
 unfold Lib.trimSuffix;rw[U6 (iZ u)];simp
theorem Dc {a:Ψ} (h:(109:UInt8)∉a):yL (a++[115])=some [a]:=by
 unfold yL;rw[U6 (iZ a),ik,Ae h,U5 σ]
theorem Df {a b:Ψ} (h:(109:UInt8)∉a) (h2:(104:UInt8)∉a):yL (a++109::(b++[115]))=some [a,b]:=by
 unfold yL;rw[show a++109::(b++[115])=(a++109::b)++[115] by simp,U6 (iZ _),ik,ry h,U6 rfl];dsimp only
 rw[Ae h2,U5 σ]
theorem oC {a b c:Ψ} (h:(109:UInt8)∉a) (h2:(104:UInt8)∉a) (h3:(109:UInt8)∉b):yL (a++104::(b++109::(c++[115])))=some [a,b,c]:=by
 unfold yL;rw[show a++104::(b++109::(c++[115]))=((a++104::b)++109::c)++[115] by simp,U6 (iZ _),ik,ry (by simp[h,h3]),U6 rfl];dsimp only
 rw[ry h2,U6 rfl]
theorem gJ {l:Ψ} (h:zC l=true) {c:UInt8} (hc:57<c.toNat):c∉l:=by
 intro k;unfold zC at h;rw[List.all_eq_true]at h;have:=h c k;rw[jg]at this;omega
theorem cO {l:Ψ} (h:zN l=true):zC l=true:=by
 unfold zN at h;rw[Bool.and_eq_true,Bool.and_eq_true]at h;exact h.1.1
theorem NJ (n:Nat) (h:n<100):zC (ZW n)=true:=by
 obtain⟨h1,h2,_⟩:=vV n h;unfold ZW zC;simp only[List.all_cons,List.all_nil,h1,h2,Bool.and_true]
theorem Xa (n:Nat) (h:n<60):wF (ZW n)=((n:Int),true):=by
 obtain⟨h1,h2,h3⟩:=vV n ω;have:=zi (n / 10) ω;unfold ZW wF;dsimp only
 rw[U6 ⟨h1,h2,ω⟩,h3]
end Go.Proofs.YtakedkcjplfgeaaGreatDoor.Tt
namespace Go.Proofs.YtakedkcjplfgeaaGreatDoor.Da
open Go.RowKit
open Num Clk Dat
theorem Tu (n q t j:Nat) (l:Ψ) (h:xx n (j+(t+1))=xx q (t+1)++l):xx n (j+1+t)=xx (q / 10) t++(UInt8.ofNat (48+q%10)::l):=by
 rw[show j+1+t=j+(t+1) by omega,h];simp[xx]
theorem UQ (l:Ψ) (n:Nat):(⟨#[48+UInt8.ofNat (n%10)]⟩:Φ)++⟨l.toArray⟩=⟨(UInt8.ofNat (48+n%10)::l).toArray⟩:=by
 apply ByteArray.ext
 simp
theorem TD (n:Int) (k:Nat) (l:Ψ) (H:Hid (xx n.toNat k=l)) (h0:0<=n) (h1:n<=9999) (hk:k<=4) (w:World):
  Calls prog 222 #[n,(k:Int)] w λe w'=>e=.returned (qP l)/\Bl w w':=by
 have hcv:=Na;go_enter func222,ntmps222
 go_wp2;go_loopw [0,5,6] (λx s i wr=> ∃ j t q:Nat,∃ m:Ψ,m.length<=j/\j+t=k/\q<=9999/\Hid (xx n.toNat (j+t)=xx q t++m)/\i=j/\x=q/\s=qP m/\Bl w wr) (λ_ _ i _=>k-(intOf i).toNat)
 case atStart=>exact⟨0,k,n.toNat,[],σ,ω,ω,by show _=_;simp,rfl,by rw[show((n.toNat:Nat):Int)=n by omega],rfl,qB _⟩
 obtain⟨j,t,q,m,hml,hjt,hq,HD,rfl,rfl,rfl,hb⟩:=hrel;have HJ:=qA hjt;clear hjt;cases t with
 |zero=>
  have hlt:(j:Int)=k:=by have:=HJ.o;omega
  have HM:Hid (m=l):=by
   show _=_
   have:=HD.o;rw[HJ.o,H.o]at this;simpa[xx]using this.symm
  have hge: ¬ ((j:Int)<k):=ω
  clear hlt;go_wp2;go_ret;exact⟨VL (by rw[HM.o]),hb⟩
 |succ t=>
  have hlt:(j:Int)<k:=by have:=HJ.o;omega
  have HN:=qA (Tu n.toNat q t j m HD.o);have HC:=qA (UQ m q);have hji:j+1<=1000:=by have:=HJ.o;omega
  clear HD;go_wp2;go_roundw;case rel=>exact⟨j+1,t,q / 10,UInt8.ofNat (48+q%10)::m,τ,by have:=HJ.o;omega,ω,HN,by go_num,by rw[show((q / 10:Nat):Int)=(q:Int) / 10 by omega],by first|rw[HC.o]|exact congrArg Value.string HC.o,qE hb _⟩
  simp[intOf];have:=HJ.o;omega
end Go.Proofs.YtakedkcjplfgeaaGreatDoor.Da
namespace Go.Proofs.YtakedkcjplfgeaaGreatDoor
open Go.RowKit
open Fld
theorem TG (b:UInt8) (w:World):
  Calls prog 201 #[.int .u8 b.toNat] w λe w'=>e=.returned (.bool (Ey b))/\w=w':=by
 go_enter func201,ntmps201
 go_wp2;all_goals
  go_ret;refine⟨qO ?_,rfl⟩;rw[Bool.eq_iff_iff];simp[Ey]
  omega
theorem Uk (n:Nat) (hn:n<16) (w:World):
  Calls prog 203 #[.int .u8 n] w λe w'=>e=.returned (.int .u8 (KE n).toNat)/\w=w':=by
 have HX:=qA (Xe hn);go_enter func203,ntmps203
 go_wp2
 ·
  go_ret;refine⟨qR ?_,rfl⟩;rw[HX.o,U6 ω];omega
 go_ret;refine⟨qR ?_,rfl⟩;rw[HX.o,U5 ω];omega
theorem TW (b:UInt8):Qi b=true↔b.toNat=44∨b.toNat=34∨b.toNat=92∨Ey b=true:=by
 unfold Qi;simp
theorem UM (s:Φ) (hs:s.size<=maxLen) (w:World):
  Calls prog 132 #[s] w λe w'=>e=.returned (.bool (jq s.data.toList))/\w=w':=by
 unfold maxLen at hs;obtain⟨p,hp,hd,hn⟩:=sS s;have HD:=qA hd;have HN:=qA hn;clear hd hn;go_enter func132,ntmps132
 go_wp2;go_loop [3] (λi=> ∃ k:Nat,k<=p/\i=k) (λi=>s.size-(intOf i).toNat)
 case atStart=>exact⟨0,ω,rfl⟩
 obtain⟨k,hk,rfl⟩:=hrel;by_cases h1:k<s.size
 ·
  have HC:=qA (TW (s[k]'h1));by_cases h44:((s[k]'h1).toNat:Int)=44∨((s[k]'h1).toNat:Int)=34∨((s[k]'h1).toNat:Int)=92
  ·
   have HF:=qA (iP h1 (HC.o.2 ω));rcases h44 with h|h|h
   all_goals
    go_wp2;go_ret;exact⟨qO HF.o.symm,rfl⟩
  have q1: ¬ ((s[k]'h1).toNat:Int)=44:=λe=>h44 (.inl e)
  have q2: ¬ ((s[k]'h1).toNat:Int)=34:=λe=>h44 (.inr (.inl e))
  have q3: ¬ ((s[k]'h1).toNat:Int)=92:=λe=>h44 (.inr (.inr e))
  clear h44;go_wp2_with (go_at_call 201;refine(TG (s[k]'h1) _).mono ?_)
  all_goals rename_i hcb
  ·
   have hcb:Ey (s[k]'h1)=true:=by
    rcases hcb with((h|h)|h)|h
    · exact absurd (beq_iff_eq.1 h) q1
    · exact absurd (beq_iff_eq.1 h) q2
    · exact absurd (beq_iff_eq.1 h) q3
    exact h
   have HF:=qA (iP h1 (HC.o.2 (.inr (.inr (.inr hcb)))));go_ret;exact⟨qO HF.o.symm,rfl⟩
  have hkp:k<p:=by
   rcases Nat.lt_or_ge k p with h|h
   · exact h
   exfalso
   obtain rfl:k=p:=ω
   rcases HC.o.1 (HN.o h1)with h|h|h|h
   · omega
   · omega
   · omega
   rw[hcb.2]at h;cases h
  go_round;case rel=>exact⟨k+1,ω,by go_num⟩
  simp[intOf];omega
 have had:=uZ (s:=s) (λj hj=>HD.o j hj ω);by_cases h0:s.size=0
 ·
  have hs:s.toList=[]:=wK h0;have HF:=qA (show jq s.data.toList=false by rw[had,dif_neg ω]);clear had;go_wp2;go_ret;exact⟨qO HF.o.symm,rfl⟩
 have hps:0<s.size:=ω
 have HF:=qA (show jq s.data.toList=(!((s[0]'hps).toNat==32)&& !((s[s.size-1]'ω).toNat==32)) by rw[had,dif_pos hps]);have hne:=jG h0;have hne':=jQ h0;clear had;by_cases h4:((s[0]'hps).toNat:Int)=32
 ·
  have h6:((s[0]'hps).toNat==32)=true:=by rw[beq_iff_eq];omega
  have HG:=qA (show jq s.data.toList=false by rw[HF.o,h6];rfl);clear h6;go_wp2;go_ret;exact⟨qO HG.o.symm,rfl⟩
 go_wp2;go_ret;exact⟨qO (by rw[HF.o,<-Nj,<-Nj]),rfl⟩
theorem TM {B:Nat} {v':Value} {l m:Ψ} {w:World} {n:Nat} (h:w.ownsRow B 5 1 v' n (Lib.byteCells l++Lib.byteCells m)) (hn:n=l.length+m.length):xO B v' (l++m) w:=by
 subst hn;exact ZO h
theorem Ua (z:Int) (h:0<=z/\z<16) (w:World):
  Calls prog 203 #[.int .u8 z] w λe w'=>e=.returned (.int .u8 (KE z.toNat).toNat)/\w=w':=by
 have:=Uk z.toNat ω w;rw[show((z.toNat:Nat):Int)=z by omega]at this;exact this
theorem UN (s:Φ) (q:Ψ) (H:Hid (zg s.data.toList=q)) (hs:s.size<=34359738368) (w:World):
  Calls prog 134 #[.string s] w λe w'=>e= .returned (qP q)/\Bl w w':=by
 obtain⟨i0,hi,hz0,hz1,hz2⟩:=info_parts vk;obtain⟨p,hp⟩:=ε (jq s.data.toList);have HP:=qA hp;clear hp;go_enter func134,ntmps134
 go_wp2_with (go_at_call 132;refine(UM s ζ _).mono ?_)
 rintro e w1 ⟨rfl,rfl⟩;rw[HP.o];cases p with
 |true=>
  have HF:=qA ((xm HP.o).symm.trans H.o);go_wp2;go_ret;exact⟨by rw[<-HF.o];rfl,qB _⟩
 |false=>
  have HF:=qA ((JM HP.o).symm.trans H.o);go_wp2_with fail;have b2:Bl w (w.alloc (.cells #[.int .u8 34] 5)):=qE (qB _) _;have o2:xO w.heap.size (.slice (some ⟨w.heap.size,0,none⟩) 1 1) [34] (w.alloc (.cells #[.int .u8 34] 5)):=Gw _ _ (U3 _) _ _ rfl 1 rfl ω;generalize hw2:w.alloc (.cells #[.int .u8 34] 5)=w2 at b2 o2
  have B2:=qA b2;have O2:=qA o2;clear b2 o2 hw2;go_loopw [3,4] (λvo i wr=> ∃ k:Nat,k<=s.size/\i= .int .i64 k/\Hid (xO w.heap.size vo (34::jR (s.data.toList.take k)) wr)/\Hid (Bl w wr)) (λ_ i _=>s.size-(intOf i).toNat)
  case atStart=>exact⟨0,qAD _,rfl,O2,B2⟩
  obtain⟨k,hk,rfl,HO,HB⟩:=hrel;by_cases hlt:k<s.size
  ·
   have HT:=qA (tK hlt);have HL:=Xi s k hk;obtain⟨c,hc⟩:=ε (Ey (s[k]'hlt));have HC:=qA hc;clear hc;go_wp2_with (go_at_call 201;refine(TG (s[k]'hlt) _).mono ?_)
   rintro e w3 ⟨rfl,rfl⟩;rw[HC.o];cases c with
   |true=>
    have hbl:(s[k]'hlt).toNat<256:=rD _;have hcc:=(Ad _).2 HC.o;have HE:=qA (OI (b:=s[k]'hlt) ω ω HC.o);clear hcc;obtain⟨z1,hz1'⟩: ∃ z:Int,((s[k]'hlt).toNat:Int) / 16=z:=⟨_,rfl⟩;obtain⟨z2,hz2'⟩: ∃ z:Int,((s[k]'hlt).toNat:Int)%16=z:=⟨_,rfl⟩;have g1:0<=z1/\z1<16:=ω
    have g2:0<=z2/\z2<16:=ω
    rw[show(s[k]'hlt).toNat / 16=z1.toNat by omega,show(s[k]'hlt).toNat%16=z2.toNat by omega]at HE;have e2:IntKind.u8.wrap z2=z2:=IntWalk.u8_in _ ω;have e1:IntKind.u8.wrap (((s[k]'hlt).toNat:Int) / 16)=z1:=by rw[hz1'];exact IntWalk.u8_in _ ω
    have e3:(((s[k]'hlt).toNat:Int).tmod 16)=z2:=by rw[<-hz2'];exact IntWalk.rem_in _ _ ω
    clear hz1' hz2';go_wp2_with fail;go_region_held3 (λ_=>True) (trivial)
     ((first
      |(go_at_call 203;refine(Ua _ (by first|exact g1|exact g2) _).mono ?_;rintro e w' ⟨rfl,rfl⟩)
      |(refine step_append_lies _ ρ _ _ _ ρ w.heap.size 5 i0 _ 1 1 underlying140 hi hz0 hz1 hz2 rfl ω u3 _ _ ρ ((kQ HO.o _).drew) ⟨wr.heap.size,0,none⟩ 4 4 [.int .u8 92, .int .u8 120, .int .u8 (KE z1.toNat).toNat, .int .u8 (KE z2.toNat).toNat] ρ ρ (World.news_of_block (cs:= #[.int .u8 92, .int .u8 120, .int .u8 (KE z1.toNat).toNat, .int .u8 (KE z2.toNat).toNat]) (t:=5) (fr:=(0,0)) (heap_alloc_new wr _)) (by simp[Value.oneCell']) ω (by unfold maxLen;rw[U7];omega) (by rw[U7];omega) (by have:=HB.o.size;simp;omega) (wr.heap.size+1) σ ?_;intro gg cap w3 hown3 hgrow3 hat hlt3)
      |fail))
    all_goals
     have O3:=qA (ZO (m:=[92,120,KE z1.toNat,KE z2.toNat]) hown3);have B3:Hid (Bl w w3):=(Below.drew (HB.o.alloc HB.o.size _)).grown hgrow3 (by have:=HB.o.size;simp;omega) (λk hk=>(qAG HO.o k hk).1);clear hown3 hgrow3 hat hlt3;go_wp2;go_roundw;case rel=>exact⟨k+1,ω,by go_num,by have:=O3.o;rw[HT.o,HE.o];exact this,B3⟩
     simp[intOf];omega
   |false=>
    by_cases hq:((s[k]'hlt).toNat:Int)=34
    ·
     have HE:=qA (show xR (s[k]'hlt)=[92,34] by rw[FV ω,Nr (s[k]'hlt) 34 ω];rfl);go_wp2_with (at_builtin;refine wpList_append_own _ rfl _ _ 140 rfl w.heap.size 5 i0 (.int .u8 0) 1 1 underlying140 hi hz0 hz1 hz2 rfl δ _ _ _ rfl (kQ HO.o _) ⟨wr.heap.size,0,none⟩ 1 1 [.int .u8 92] rfl rfl ?c1 ?c2 ?c3 ?c4 ?c5 ?_)
     case c1=>exact zl _ (λj u h=>η)
     case c2=>simp[Value.oneCell']
     case c3=>unfold maxLen;rw[U7];omega
     case c4=>rw[U7];omega
     case c5=>have:=HB.o.size;simp;omega
     intro v3 w3 hown3 hgrow3 _;have O3:=qA (ZO (m:=[92]) hown3);have B3:Hid (Bl w w3):=(HB.o.alloc HB.o.size _).grown hgrow3 (by have:=HB.o.size;simp;omega) (λk hk=>(qAG HO.o k hk).1);clear hown3 hgrow3;go_wp2_with (at_builtin;refine wpList_append_own _ rfl _ _ 140 rfl w.heap.size 5 i0 (.int .u8 0) 1 1 underlying140 hi hz0 hz1 hz2 rfl δ _ _ _ rfl (kQ O3.o _) ⟨w3.heap.size,0,none⟩ 1 1 [.int .u8 34] rfl rfl ?c1 ?c2 ?c3 ?c4 ?c5 ?_)
     case c1=>exact zl _ (λj u h=>η)
     case c2=>simp[Value.oneCell']
     case c3=>unfold maxLen;rw[U1,U7];simp only[U7,List.length_nil];omega
     case c4=>rw[U1,U7];simp only[U7,List.length_nil];omega
     case c5=>have:=B3.o.size;simp;omega
     intro v4 w4 hown4 hgrow4 _;have O4:=qA (TM (m:=[34]) hown4 σ);have B4:Hid (Bl w w4):=(B3.o.alloc B3.o.size _).grown hgrow4 (by have:=B3.o.size;simp;omega) (λk hk=>(qAG O3.o k hk).1);clear hown4 hgrow4;go_wp2;go_roundw;case rel=>exact⟨k+1,ω,by go_num,by have:=O4.o;rw[HT.o,HE.o];show xO _ _ _ _;simpa using this,B4⟩
     simp[intOf];omega
    by_cases hq2:((s[k]'hlt).toNat:Int)=92
    ·
     have HE:=qA (show xR (s[k]'hlt)=[92,92] by rw[FV ω,Nr (s[k]'hlt) 92 ω];rfl);go_wp2_with (at_builtin;refine wpList_append_own _ rfl _ _ 140 rfl w.heap.size 5 i0 (.int .u8 0) 1 1 underlying140 hi hz0 hz1 hz2 rfl δ _ _ _ rfl (kQ HO.o _) ⟨wr.heap.size,0,none⟩ 1 1 [.int .u8 92] rfl rfl ?c1 ?c2 ?c3 ?c4 ?c5 ?_)
     case c1=>exact zl _ (λj u h=>η)
     case c2=>simp[Value.oneCell']
     case c3=>unfold maxLen;rw[U7];omega
     case c4=>rw[U7];omega
     case c5=>have:=HB.o.size;simp;omega
     intro v3 w3 hown3 hgrow3 _;have O3:=qA (ZO (m:=[92]) hown3);have B3:Hid (Bl w w3):=(HB.o.alloc HB.o.size _).grown hgrow3 (by have:=HB.o.size;simp;omega) (λk hk=>(qAG HO.o k hk).1);clear hown3 hgrow3;go_wp2_with (at_builtin;refine wpList_append_own _ rfl _ _ 140 rfl w.heap.size 5 i0 (.int .u8 0) 1 1 underlying140 hi hz0 hz1 hz2 rfl δ _ _ _ rfl (kQ O3.o _) ⟨w3.heap.size,0,none⟩ 1 1 [.int .u8 92] rfl rfl ?c1 ?c2 ?c3 ?c4 ?c5 ?_)
     case c1=>exact zl _ (λj u h=>η)
     case c2=>simp[Value.oneCell']
     case c3=>unfold maxLen;rw[U1,U7];simp only[U7,List.length_nil];omega
     case c4=>rw[U1,U7];simp only[U7,List.length_nil];omega
     case c5=>have:=B3.o.size;simp;omega
     intro v4 w4 hown4 hgrow4 _;have O4:=qA (TM (m:=[92]) hown4 σ);have B4:Hid (Bl w w4):=(B3.o.alloc B3.o.size _).grown hgrow4 (by have:=B3.o.size;simp;omega) (λk hk=>(qAG O3.o k hk).1);clear hown4 hgrow4;go_wp2;go_roundw;case rel=>exact⟨k+1,ω,by go_num,by have:=O4.o;rw[HT.o,HE.o];show xO _ _ _ _;simpa using this,B4⟩
     simp[intOf];omega
    have f1:(((s[k]'hlt).toNat:Int)==34)=false:=by rw[U0];exact hq
    have f2:(((s[k]'hlt).toNat:Int)==92)=false:=by rw[U0];exact hq2
    have HE:=qA (OH (b:=s[k]'hlt) ω ω HC.o);clear hq hq2;go_wp2_with (at_builtin;refine wpList_append_own _ rfl _ _ 140 rfl w.heap.size 5 i0 (.int .u8 0) 1 1 underlying140 hi hz0 hz1 hz2 rfl δ _ _ _ rfl (kQ HO.o _) ⟨wr.heap.size,0,none⟩ 1 1 [.int .u8 (s[k]'hlt).toNat] rfl rfl ?c1 ?c2 ?c3 ?c4 ?c5 ?_)
    case c1=>exact zl _ (λj u h=>η)
    case c2=>simp[Value.oneCell']
    case c3=>unfold maxLen;rw[U7];omega
    case c4=>rw[U7];omega
    case c5=>have:=HB.o.size;simp;omega
    intro v3 w3 hown3 hgrow3 _;have O3:=qA (ZO (m:=[s[k]'hlt]) hown3);have B3:Hid (Bl w w3):=(HB.o.alloc HB.o.size _).grown hgrow3 (by have:=HB.o.size;simp;omega) (λk hk=>(qAG HO.o k hk).1);clear hown3 hgrow3;go_wp2;go_roundw;case rel=>exact⟨k+1,ω,by go_num,by have:=O3.o;rw[HT.o,HE.o];exact this,B3⟩
    simp[intOf];omega
  obtain rfl:k=s.size:=ω
  have hall:s.data.toList.take s.size=s.data.toList:=U9 σ;rw[hall]at HO;have HQ:=qA (show(34::jR s.data.toList)++[34]=q from HF.o);have HL:=xe s.data.toList;have hsl:s.data.toList.length=s.size:=σ
  clear hall;go_wp2_with (at_builtin;refine wpList_append_own _ rfl _ _ 140 rfl w.heap.size 5 i0 (.int .u8 0) 1 1 underlying140 hi hz0 hz1 hz2 rfl δ _ _ _ rfl (kQ HO.o _) ⟨wr.heap.size,0,none⟩ 1 1 [.int .u8 34] rfl rfl ?c1 ?c2 ?c3 ?c4 ?c5 ?_)
  case c1=>exact zl _ (λj u h=>η)
  case c2=>simp[Value.oneCell']
  case c3=>unfold maxLen;rw[U7];omega
  case c4=>rw[U7];omega
  case c5=>have:=HB.o.size;simp;omega
  intro v3 w3 hown3 hgrow3 _;have O3:=qA (ZO (m:=[34]) hown3);have B3:Hid (Bl w w3):=(HB.o.alloc HB.o.size _).grown hgrow3 (by have:=HB.o.size;simp;omega) (λk hk=>(qAG HO.o k hk).1);clear hown3 hgrow3;rw[HQ.o]at O3;have hcv:=YG O3.o;go_wp2;go_ret;exact⟨rfl,B3.o⟩
