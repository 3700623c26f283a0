/- Contracts, proved. Conditions: theirs. -/
import Derived.Test.YtakedkcjplfgeaaGreatDoorMPkWrB
import Derived.Test.YtakedkcjplfgeaaGreatDoorMXA
set_option maxRecDepth 1000000
set_option maxHeartbeats 32000000
open Go.Proofs.Tryz
namespace Go.Proofs.YtakedkcjplfgeaaGreatDoor
open Go.RowKit
open Frq Thr Tt Num Clk Dat Fld
def Uu (b:Nat) (w:World):Prop:=b<w.heap.size/\ ∀ (i:Nat) (x:Ψ),modeWords[i]? =some x->w.cell? (b,i)=some (qP x)
theorem TI (w:World):Calls prog 86 #[] w λq w'=> ∃ b,q=.returned (.slice (some ⟨b,0,none⟩) 8 8)/\Uu b w'/\Bl w w':=by
 go_enter func86,ntmps86
 go_wp2;go_ret;refine⟨w.heap.size,rfl,⟨σ,λi x hx=>?_⟩,qE (qB _) _⟩;rw[Uy (hn:=rfl)];have hi:i<8:=(Uw.1 hx).1;obtain rfl|rfl|rfl|rfl|rfl|rfl|rfl|rfl:i=0∨i=1∨i=2∨i=3∨i=4∨i=5∨i=6∨i=7:=ω
 all_goals
  rw[<-qAB hx];rfl
theorem UO: ∀ a:Fin 256,∀ i:Fin 8,(((a.val:Int) / 2 ^ i.val).tmod 2==1)=decide (a.val>>>i.val%2=1):=ξ
theorem Tn: ∀ a:Fin 256,∀ i:Fin 8,IntKind.u64.wrap (((a.val:Int) / 2 ^ i.val))=((a.val>>>i.val:Nat):Int):=ξ
theorem Td (n:Nat) (hn:n<256) (i:Nat) (hi:i<8) (r:Bool) (hr:Hid (decide (n>>>i%2=1)=r)) (w:World):Calls prog 162 #[n,i] w λq w'=>q=.returned (r:Z)/\w'=w:=by
 have hw:IntKind.u64.wrap (n:Int)=n:=by have:=Tn ⟨n,hn⟩ ⟨0,ω⟩;simpa using this
 have hv:IntKind.u64.wrap (i:Int)=i:=by have:=Tn ⟨i,ω⟩ ⟨0,ω⟩;simpa using this
 have hq:(((n:Int) / 2 ^ i).tmod 2==1)=r:=by rw[<-hr.o];exact UO ⟨n,hn⟩ ⟨i,hi⟩
 go_enter func162,ntmps162
 go_wp2;go_ret;exact⟨rfl,rfl⟩
theorem UL (m:Int) (hm:0<=m/\m<=255) (w:World):Calls prog 92 #[m] w λq w'=>q=.returned (.tuple #[qP (vU m),.int .i64 0])/\Bl w w':=by
 obtain⟨n,rfl⟩:=Int.eq_ofNat_of_zero_le hm.1;have hn:n<256:=ω
 have HT:Hid ((if Qg (vz n 8)=[]then ae else Qg (vz n 8))=vU n):=by
  show _=_
  by_cases h0:n=0
  · subst h0;rfl
  have h1:vU (n:Int)=Qg (vz n 8):=by
   rw[DL ω hm.2,Int.toNat_natCast];have:=XG hn 56;have h8:=XG hn 0;rw[show vz n 64=vz n 8 from this.trans h8.symm]
  rw[h1,U5];intro e;have hne:vz n 8≠[]:=by
   intro e2;have h3: ∀ a:Fin 256,a.val≠0->vz a.val 8≠[]:=ξ
   exact h3 ⟨n,hn⟩ h0 e2
  exact Gj (λi hi=>Bz hn hi) hne e
 obtain⟨mt,hmt⟩:=ε (vU (n:Int));rw[hmt]at HT ⊢;clear hmt;go_enter func92,ntmps92
 go_wp2_with fail;go_loopw [5,4] (λi s wr=> ∃ (k:Nat) (x:Ψ),(k<=8/\i=k/\s=qP x)/\x.length<=10*k/\Hid (Qg (vz n k)=x)/\Hid (Bl w wr)) (λi _ _=>8-(intOf i).toNat)
 case atStart=>exact⟨0,[],⟨ω,rfl,rfl⟩,U3 _,rfl,qB _⟩
 obtain⟨k,x,⟨hk,rfl,rfl⟩,hxl,HX,HBL⟩:=hrel;by_cases hlt:k<8
 ·
  obtain⟨r,hr⟩:=ε (decide (n>>>k%2=1));have HR:=qA hr;clear hr;have hkI:(k:Int)<8:=ω
  cases r with
  |false=>
   have HX':=qA (show Qg (vz n (k+1))=x by rw[bV (of_decide_eq_false HR.o)];exact HX.o);go_wp2_with (go_at_call 162;refine(Td n hn k hlt false HR _).mono ?_;rintro y1 w1 ⟨rfl,rfl⟩)
   go_roundw;case rel=>exact⟨k+1,x,⟨ω,by go_num,rfl⟩,ω,HX',HBL⟩
   simp[intOf];omega
  |true=>
   obtain⟨y,hy⟩:=ε (Jt k);have hyl:y.length<=9:=by rw[<-hy];exact Vm hlt
   have HY:Hid (modeWords[k]? =some y):=by
    show _=_
    rw[<-hy];unfold Jt;rw[List.getD_eq_getElem?_getD,U2 (show k<modeWords.length from hlt)];rfl
   have HS:=qA (show Qg (vz n (k+1))=if x=[]then y else x++[43]++y by rw[rV (of_decide_eq_true HR.o),uI (λi hi=>Bz hn hi),HX.o,hy]);clear hy;by_cases hx0:x=[]
   ·
    subst hx0;have HS':=qA (HS.o.trans (U6 rfl));go_wp2_with (first
     |(go_at_call 162;refine(Td n hn k hlt true HR _).mono ?_;rintro y1 w1 ⟨rfl,rfl⟩)
     |(go_at_call 86;refine(TI _).mono ?_;rintro y2 w2 ⟨b,rfl,nm,b2⟩;have m0:w2.cell? (b,k)=some (qP y):=nm.2 k y HY.o;have B2:=qA (qF HBL.o b2);clear nm b2))
    go_roundw;case rel=>exact⟨k+1,y,⟨ω,by go_num,by first|rfl|(congr 1)⟩,ω,HS',B2⟩
    simp[intOf];omega
   have hx1:(x != [])=true:=by rw[bne_iff_ne];exact hx0
   have hx2:(x==[])=false:=by rw[U0];exact hx0
   have HS':=qA (HS.o.trans (U5 hx0));clear hx0;go_wp2_with (first
    |(go_at_call 162;refine(Td n hn k hlt true HR _).mono ?_;rintro y1 w1 ⟨rfl,rfl⟩)
    |(go_at_call 86;refine(TI _).mono ?_;rintro y2 w2 ⟨b,rfl,nm,b2⟩;have m0:w2.cell? (b,k)=some (qP y):=nm.2 k y HY.o;have B2:=qA (qF HBL.o b2);clear nm b2))
   go_roundw;case rel=>exact⟨k+1,x++[43]++y,⟨ω,by go_num,by first|rfl|(congr 1)⟩,τ,HS',B2⟩
   simp[intOf];omega
 obtain rfl:k=8:=ω
 rw[HX.o]at HT;by_cases hx0:x=[]
 ·
  have HF:=qA (HT.o.symm.trans (U6 hx0));subst hx0;obtain rfl:=HF.o;go_wp2;go_ret2;exact⟨rfl,HBL.o⟩
 have hx1:(x==[])=false:=by rw[U0];exact hx0
 have HF:=qA (HT.o.symm.trans (U5 hx0));obtain rfl:=HF.o;clear HF HT;go_wp2;go_ret2;exact⟨rfl,HBL.o⟩
end Go.Proofs.YtakedkcjplfgeaaGreatDoor
namespace Go.Proofs.YtakedkcjplfgeaaGreatDoor.Tt
open Num Clk Dat Frq Thr Fld
def qBP:List Ψ->Ψ
 |[]=>[]
 |[a]=>a
 |a::b::r=>a++43::qBP (b::r)
theorem qAi (a:Ψ) {r:List Ψ} (h:r≠[]):qBP (a::r)=a++43::qBP r:=by
 cases r with
 |nil=>exact absurd rfl h
 |cons b r=>rfl
theorem qAq: ∀ s:Ψ,qBP (zK 43 s)=s
 |[]=>rfl
 |b::r=>by
  by_cases h:b=43
  ·
   rw[h,ZT,qAi _ (fB 43 r),qAq r];rfl
  obtain⟨h',t,hr⟩: ∃ h' t,zK 43 r=h'::t:=by
   cases hs:zK 43 r with
   |nil=>exact absurd hs (fB 43 r)
   |cons x y=>exact⟨x,y,rfl⟩
  have ih:=qAq r;rw[hr]at ih;rw[yh h hr];cases t with
  |nil=>show b::h'=b::r;rw[<-ih];rfl
  |cons x y=>
   rw[qAi _ σ,List.cons_append,<-qAi h' σ,ih]
theorem qBC: ∀ l:List Ψ,(l.intersperse [43]).flatten=qBP l
 |[]=>rfl
 |[a]=>by simp[qBP]
 |a::b::r=>by
  have ih:=qBC (b::r);rw[qAi a σ,<-ih];rw[List.intersperse_cons_cons];simp
def qCv:Nat->List Nat->Prop
 |_,[]=>True
 |k,m::r=>k<=m/\m<8/\qCv (m+1) r
def qBr:Nat->List (List Nat)
 |0=>[[]]
 |n+1=>qBr n++(qBr n).map ((7-n):: ·)
theorem qAs: ∀ (n:Nat) (l:List Nat),n<=8->qCv (8-n) l->l∈qBr n
 |0,[],_,_=>by simp[qBr]
 |0,m::r,_,h=>by have:=h.1;have:=h.2.1;omega
 |n+1,[],hn,_=>by
  unfold qBr;exact List.mem_append_left _ (qAs n [] ω trivial)
 |n+1,m::r,hn,h=>by
  obtain⟨h1,h2,h3⟩:=h;unfold qBr;by_cases hm:m=7-n
  ·
   refine List.mem_append_right _ (List.mem_map.2 ⟨r,qAs n r ω ?_,by rw[hm]⟩);rw[show 8-n=m+1 by omega];exact h3
  exact List.mem_append_left _ (qAs n (m::r) ω ⟨ω,h2,h3⟩)
def qBv (acc:Nat) (l:List Nat):Nat:=l.foldl (λa m=>a|||1<<<m) acc
theorem qCc: ∀ l∈qBr 8,Ei (qBv 0 l)=l/\qBv 0 l<=255/\(l=[]∨qBv 0 l≠0):=ξ
theorem qBB: ∀ (l:List Ψ) (s:Ψ) (i:Nat),qm s l=some i->l[i]? =some s
 |[],s,i,h=>by simp[qm]at h
 |x::r,s,i,h=>by
  unfold qm at h;split at h
  ·
   rename_i e;rw[qAA]at h;rw[<-h,<-e];rfl
  cases hr:qm s r with
  |none=>rw[hr]at h;simp at h
  |some j=>
   rw[hr]at h;simp only[Option.map_some,qAA]at h;rw[<-h,List.getElem?_cons_succ];exact qBB r s j hr
theorem qBf {a m:Nat}:a>>>m=0↔a<2 ^ m:=by
 rw[Nat.shiftRight_eq_div_pow,Nat.div_eq_zero_iff];have:0<2 ^ m:=Nat.two_pow_pos m;omega
theorem qBE: ∀ (ps:List Ψ) (acc k r:Nat),(∀ m,acc>>>m=0->k<=m)->wG acc ps=some r-> ∃ idx:List Nat,qCv k idx/\ps=idx.map (λi=>modeWords.getD i [])/\r=qBv acc idx
 |[],acc,k,r,_,h=>by
  simp only[wG,qAA]at h;exact⟨[],trivial,rfl,h.symm⟩
 |p::ps,acc,k,r,hk,h=>by
  unfold wG at h;split at h
  ·
   rename_i m hm;split at h
   ·
    rename_i h0;have hw:=qBB _ _ _ hm;have hm8:m<8:=(Uw.1 hw).1;have hb:=qBf.1 h0;obtain⟨idx,i1,i2,i3⟩:=qBE ps (acc|||1<<<m) (m+1) r (λm' h'=>by
     have h1:=qBf.1 h';have h2:1<<<m<=acc|||1<<<m:=Nat.right_le_or;rw[Nat.shiftLeft_eq,Nat.one_mul]at h2 h1;have h3:2 ^ m<2 ^ m':=Nat.lt_of_le_of_lt h2 h1;exact(Nat.pow_lt_pow_iff_right δ).1 h3) h
    refine⟨m::idx,⟨hk m h0,hm8,i1⟩, ?_,i3⟩;rw[List.map_cons,<-i2,List.getD_eq_getElem?_getD,hw];rfl
   cases h
  cases h
theorem qBl {s:Ψ} {m:Int} (h:QR s=(m,0)):(0<=m/\m<=255)/\vU m=s:=by
 unfold QR at h;split at h
 ·
  rename_i hs;rw[qAF]at h;rw[<-h.1,hs];decide
 split at h
 ·
  rename_i r hr;rw[qAF]at h;obtain⟨idx,i1,i2,i3⟩:=qBE _ 0 0 r (λm _=>qAD m) hr;obtain⟨b1,b2,b3⟩:=qCc idx (qAs 8 idx δ i1);rw[<-i3]at b1 b2 b3;have hne:idx≠[]:=λe=>by
   rw[e]at i2;exact fB 43 s i2
  have h0:r≠0:=b3.resolve_left hne;rw[<-h.1];refine⟨ω, ?_⟩;unfold vU;rw[U5 ω,U5 ω,Int.toNat_natCast,b1];show((idx.map λi=>modeWords.getD i []).intersperse [43]).flatten=s
  rw[<-i2,qBC,qAq]
 rw[qAF]at h;exact absurd h.2 δ
end Go.Proofs.YtakedkcjplfgeaaGreatDoor.Tt
namespace Go.Proofs.YtakedkcjplfgeaaGreatDoor
open Go.RowKit
open Frq Thr Tt Num Clk Dat Fld
theorem qB3 (s:Ψ):(∃ m:Int,QR s=(m,0))∨QR s=(0,3):=by
 unfold QR;split
 · exact .inl ⟨_,rfl⟩
 split
 · exact .inl ⟨_,rfl⟩
 exact .inr rfl
theorem qCH (x:Ψ) (n e2:Int) (HX:Hid (QR x=(n,e2))) (w:World):
  Calls prog 209 #[qP x] w λq w'=>q=.returned (.tuple #[n,e2])/\Bl w w':=by
 go_enter func209,ntmps209
 go_wp2_with fail;go_loopw [4] (λi wr=> ∃ k:Nat,(k<=256/\i=k)/\Hid (∀ j:Nat,j<k->vU j≠x)/\Hid (Bl w wr)) (λi _=>256-(intOf i).toNat)
 case atStart=>exact⟨0,⟨qAD _,rfl⟩,λj hj=>absurd hj (Nat.not_lt_zero j),qB _⟩
 obtain⟨k,⟨hk,rfl⟩,HN,HBL⟩:=hrel;by_cases hlt:k<256
 ·
  obtain⟨y,hy⟩: ∃ y,Hid (vU k=y):=⟨_,rfl⟩;cases hq:y==x with
  |true=>
   have HP:=qA (show((k:Int),(0:Int))=(n,e2) by rw[<-HX.o,<-beq_iff_eq.1 hq,<-hy.o];exact(Xt ⟨ω,ω⟩).symm);obtain⟨d1,d2⟩:=qAE HP.o;clear HP HX;subst d1 d2;go_wp2_with (go_at_call 92;refine(UL k ⟨ω,ω⟩ _).mono ?_)
   rw[hy.o];rintro y1 w1 ⟨rfl,b1⟩;go_wp2_with fail;go_ret2;exact⟨rfl,qF HBL.o b1⟩
  |false=>
   have HN':=qA (show ∀ j:Nat,j<k+1->vU j≠x from λj hj=>by
    rcases Nat.lt_or_ge j k with h|h
    · exact HN.o j h
    obtain rfl:j=k:=ω
    rw[hy.o];exact U0.1 hq)
   go_wp2_with (go_at_call 92;refine(UL k ⟨ω,ω⟩ _).mono ?_)
   rw[hy.o];rintro y1 w1 ⟨rfl,b1⟩;have HB2:=qA (qF HBL.o b1);go_wp2_with fail;go_roundw;case rel=>exact⟨k+1,⟨ω,by go_num⟩,HN',HB2⟩
   simp[intOf];omega
 have HP:=qA (show((0:Int),(3:Int))=(n,e2) by
  rw[<-HX.o];rcases qB3 x with⟨m,hm⟩|hm
  ·
   obtain⟨⟨h0,h1⟩,h2⟩:=qBl hm;exact absurd (by rw[show((m.toNat:Nat):Int)=m by omega];exact h2) (HN.o m.toNat ω)
  exact hm.symm)
 obtain⟨d1,d2⟩:=qAE HP.o;clear HP HX;subst d1 d2;go_wp2_with fail;go_ret2;exact⟨rfl,HBL.o⟩
end Go.Proofs.YtakedkcjplfgeaaGreatDoor
namespace Go.Proofs.YtakedkcjplfgeaaGreatDoor
open Go.RowKit
open Fld
theorem qB0 {b:UInt8} (h:vS b<16):KE (vS b)=b:=by
 refine UInt8.toNat.inj ?_;rw[Xe h];unfold vS at h ⊢;split at h
 ·
  rename_i h1;rw[U6 h1];split<;>omega
 rename_i h1;split at h
 ·
  rename_i h2;rw[U5 h1,U6 h2];split<;>omega
 omega
theorem qAf (b:UInt8) (w:World):
  Calls prog 202 #[.int .u8 b.toNat] w λe w'=>e=.returned (.int .u8 (vS b))/\w=w':=by
 go_enter func202,ntmps202
 go_wp2;go_loop [3] (λi=> ∃ k:Nat,k<=16/\i=.int .u8 k/\Hid (∀ m,m<k->KE m≠b)) (λi=>16-(intOf i).toNat)
 case atStart=>exact⟨0,ω,rfl,λm hm=>absurd hm ω⟩
 obtain⟨k,hk,rfl,HK⟩:=hrel;by_cases hlt:k<16
 ·
  by_cases hh:((KE k).toNat:Int)=(b.toNat:Int)
  ·
   have HV:=qA (show vS b=k by rw[<-UInt8.toNat.inj (Int.ofNat.inj hh),dF hlt]);go_wp2_with (go_at_call 203;refine(Uk k hlt _).mono ?_)
   go_ret;exact⟨qR (by rw[HV.o]),rfl⟩
  go_wp2_with (go_at_call 203;refine(Uk k hlt _).mono ?_)
  go_round;case rel=>exact⟨k+1,ω,by go_num,λm hm=>by
   by_cases e:m=k
   · subst e;intro h;rw[h]at hh;exact hh rfl
   exact HK.o m ω⟩
  simp[intOf];omega
 have HV:=qA (show vS b=16 by
  have:=Iy b;rcases Nat.lt_or_ge (vS b) 16 with h|h
  · exact absurd (qB0 h) (HK.o _ ω)
  omega)
 go_wp2;go_ret;exact⟨qR (by rw[HV.o];rfl),rfl⟩
theorem P9 (s:Φ) (hs:s.size<=maxLen) (h0:0<s.size) (c:UInt8) (k:Nat) (H:Hid ((wP s.data.toList).getD (0,0)=(c,k))) (w:World):
  Calls prog 133 #[s] w λe w'=>e=.returned (.tuple #[.int .u8 c.toNat,k])/\Bl w w':=by
 unfold maxLen at hs;by_cases h: ¬ (s[0]'h0).toNat=92
 ·
  obtain⟨rfl,rfl⟩:s[0]'h0=c/\1=k:=by have:=H.o;rw[DV h0 h]at this;exact qAE this
  clear H;have h92: ¬ ((s[0]'h0).toNat:Int)=92:=ω
  go_enter func133,ntmps133
  go_wp2;go_ret2;exact⟨σ,qB _⟩
 replace h:(s[0]'h0).toNat=92:=Decidable.not_not.1 h
 have h92:((s[0]'h0).toNat:Int)=92:=ω
 by_cases h2:2<=s.size
 ·
  by_cases ha:((s[1]'ω).toNat:Int)=34
  ·
   obtain⟨rfl,rfl⟩:s[1]'ω=c/\2=k:=by have:=H.o;rw[BV h2 h (.inl ω)]at this;exact qAE this
   clear H;go_enter func133,ntmps133
   go_wp2;go_ret2;exact⟨by simp[ha],qB _⟩
  by_cases hb:((s[1]'ω).toNat:Int)=92
  ·
   obtain⟨rfl,rfl⟩:s[1]'ω=c/\2=k:=by have:=H.o;rw[BV h2 h (.inr ω)]at this;exact qAE this
   clear H;go_enter func133,ntmps133
   go_wp2;go_ret2;exact⟨by simp[hb],qB _⟩
  have f1:(((s[1]'ω).toNat:Int)==34)=false:=by rw[U0];exact ha
  have f2:(((s[1]'ω).toNat:Int)==92)=false:=by rw[U0];exact hb
  by_cases h4:4<=s.size
  ·
   by_cases hx:((s[1]'ω).toNat:Int)=120
   ·
    have HX:=qA (MI h4 h ω);by_cases d2:vS (s[2]'ω)<16
    ·
     by_cases d3:vS (s[3]'ω)<16
     ·
      obtain⟨hc,rfl⟩:UInt8.ofNat (16*vS (s[2]'ω)+vS (s[3]'ω))=c/\4=k:=by have:=H.o;rw[HX.o,U6 ⟨d2,d3⟩]at this;exact qAE this
      have HC:=qA (show((16*vS (s[2]'ω)+vS (s[3]'ω):Nat):Int)=c.toNat by rw[<-hc,UInt8.toNat_ofNat',Nat.mod_eq_of_lt ω]);clear H HX hc;have i2:((vS (s[2]'ω):Nat):Int)<16:=ω
      have i3:((vS (s[3]'ω):Nat):Int)<16:=ω
      have e1:IntKind.u8.wrap (16*((vS (s[2]'ω):Nat):Int))=16*((vS (s[2]'ω):Nat):Int):=IntWalk.u8_in _ ω;have e2:IntKind.u8.wrap (16*((vS (s[2]'ω):Nat):Int)+((vS (s[3]'ω):Nat):Int))=16*((vS (s[2]'ω):Nat):Int)+((vS (s[3]'ω):Nat):Int):=IntWalk.u8_in _ ω;go_enter func133,ntmps133
      go_wp2_with (go_at_call 202;refine(qAf _ _).mono ?_)
      rintro e w' ⟨rfl,rfl⟩;go_wp2_with (go_at_call 202;refine(qAf _ _).mono ?_)
      rintro e w' ⟨rfl,rfl⟩;go_wp2;go_quiet ((go_at_call 202;exact Calls.quiet_of_same ((qAf _ _).mono λe w' h=>⟨h.1,h.2.symm⟩)))
      generalize hwz:w.drewN _=wz
      have bz:Bl w wz:=by rw[<-hwz];exact qM (qB _) _
      go_wp2;go_ret2;exact⟨by rw[show((c.toNat:Nat):Int)=16*((vS (s[2]'ω):Nat):Int)+((vS (s[3]'ω):Nat):Int) by have:=HC.o;omega];rfl,bz⟩
     obtain⟨rfl,rfl⟩:0=c/\0=k:=by have:=H.o;rw[HX.o,U5 (λe=>d3 e.2)]at this;exact qAE this
     clear H;clear HX;have i2:((vS (s[2]'ω):Nat):Int)<16:=ω
     have i3: ¬ ((vS (s[3]'ω):Nat):Int)<16:=ω
     go_enter func133,ntmps133
     go_wp2_with (go_at_call 202;refine(qAf _ _).mono ?_)
     rintro e w' ⟨rfl,rfl⟩;go_wp2_with (go_at_call 202;refine(qAf _ _).mono ?_)
     rintro e w' ⟨rfl,rfl⟩;go_wp2;go_ret2;exact⟨σ,qB _⟩
    obtain⟨rfl,rfl⟩:0=c/\0=k:=by have:=H.o;rw[HX.o,U5 (λe=>d2 e.1)]at this;exact qAE this
    clear H;clear HX;have i2: ¬ ((vS (s[2]'ω):Nat):Int)<16:=ω
    go_enter func133,ntmps133
    go_wp2_with (go_at_call 202;refine(qAf _ _).mono ?_)
    rintro e w' ⟨rfl,rfl⟩;go_wp2;go_ret2;exact⟨σ,qB _⟩
   obtain⟨rfl,rfl⟩:0=c/\0=k:=by have:=H.o;rw[eH h2 h ω ω (.inl ω)]at this;exact qAE this
   clear H;go_enter func133,ntmps133
   go_wp2;go_ret2;exact⟨σ,qB _⟩
  obtain⟨rfl,rfl⟩:0=c/\0=k:=by have:=H.o;rw[eH h2 h ω ω (.inr ω)]at this;exact qAE this
  clear H;go_enter func133,ntmps133
  go_wp2;go_ret2;exact⟨σ,qB _⟩
 obtain⟨rfl,rfl⟩:0=c/\0=k:=by have:=H.o;rw[DW ω h]at this;exact qAE this
 clear H;go_enter func133,ntmps133
 go_wp2;go_ret2;exact⟨σ,qB _⟩
theorem qCh (s:Φ) (k n:Nat):(s.extract k n).data.toList=(s.extract 1 n).data.toList.drop (k-1)∨k=0:=by
 by_cases h:k=0
 · exact .inr h
 left
 rw[yC,yC,List.drop_take,List.drop_drop,show 1+(k-1)=k by omega,show n-1-(k-1)=n-k by omega]
theorem qCL (s:Φ) (k n:Nat) (h:1<=k):(s.extract k n).data.toList=(s.extract 1 n).data.toList.drop (k-1):=by
 rcases qCh s k n with h1|h1
 · exact h1
 omega
theorem qBI (s:Φ) (hs:s.size<=34359738368) (o:Ψ) (e:Int) (H:Hid (PP (jJ s.data.toList)=(o,e))) (w:World):
  Calls prog 63 #[s] w λr w'=>r=.returned (.tuple #[qP o,e])/\Bl w w':=by
 obtain⟨i0,hi,hz0,hz1,hz2⟩:=info_parts vk;obtain⟨p,hp⟩:=ε (jq s.data.toList);have HP:=qA hp;clear hp;go_enter func63,ntmps63
 go_wp2_with (go_at_call 132;refine(UM s ζ _).mono ?_)
 rintro r w1 ⟨rfl,rfl⟩;rw[HP.o];cases p with
 |true=>
  have HF:=qA (show(s.data.toList,(0:Int))=(o,e) by rw[<-H.o,EX HP.o];rfl);obtain⟨e1,e2⟩:=qAE HF.o;clear H HF;subst e1 e2;go_wp2;go_ret2;exact⟨rfl,qB _⟩
 |false=>
  by_cases h2:2<=s.size
  ·
   by_cases h3:((s[0]'ω).toNat:Int)=34
   ·
    by_cases h4:((s[s.size-1]'ω).toNat:Int)=34
    ·
     have HU:=qA (PQ HP.o h2 ω ω);have hil:(s.extract 1 (s.size-1)).data.toList.length=s.size-2:=by
      rw[Array.length_toList];exact(vH s 1 (s.size-1) ω ω).trans ω
     obtain⟨l,hl⟩:=ε ((s.extract 1 (s.size-1)).data.toList);rw[hl]at HU hil;have HL:=qA hl;clear hl;go_wp2;go_loopw [5,6] (λvo i wr=> ∃ (k:Nat) (out:Ψ),1<=k/\k<=s.size-1/\out.length+1<=k/\i=k/\Hid (xO w.heap.size vo out wr)/\Hid (ZK l=(ZK (l.drop (k-1))).map (out++ ·))/\Hid (Bl w wr)) (λ_ i _=>s.size-(intOf i).toNat)
     case atStart=>exact⟨1,[],U3 _,ω,U3 _,rfl,Xw _ _,by show _=_;simp,qB _⟩
     obtain⟨k,out,hk1,hk,hol,rfl,HO,HD,HB⟩:=hrel;by_cases hlt:k<s.size-1
     ·
      have hz:0<(s.extract k (s.size-1)).size:=by rw[vH _ _ _ ω ω];omega
      have hm:(s.extract k (s.size-1)).size<=maxLen:=by rw[vH _ _ _ ω ω];unfold maxLen;omega
      obtain⟨c,n,hcn⟩: ∃ c n,(wP (l.drop (k-1))).getD (0,0)=(c,n):=⟨_,_,rfl⟩;have HC:=qA hcn;have HX:=qA (show(wP (s.extract k (s.size-1)).data.toList).getD (0,0)=(c,n) by rw[qCL s k _ hk1,HL.o];exact hcn);have he:=P9 (s.extract k (s.size-1)) hm hz c n HX;clear hcn;have hlen:(l.drop (k-1)).length=s.size-1-k:=by rw[List.length_drop,hil];omega
      go_wp2_with (go_at_call 133;refine(he _).mono ?_)
      rintro r w1 ⟨rfl,b1⟩;have B1:Hid (Bl w w1):=qF HB.o b1;have O1:=qA (MK HO.o b1);clear b1 he;by_cases hn:n=0
      ·
       subst hn;have HN:=qA (show(([]:List UInt8),(3:Int))=(o,e) by
        rw[<-H.o,HU.o,HD.o,FK (λh=>by rw[h]at hlen;simp at hlen;omega) (DX HC.o)];rfl)
       obtain⟨e1,e2⟩:=qAE HN.o;clear H HN;subst e1 e2;go_wp2;go_ret2;exact⟨rfl,B1.o⟩
      have ho:=DY HC.o hn;have hp:=JJ ho;have HS:=qA (lm ho HD.o);have hnz:((n:Nat):Int)≠0:=ω
      rw[hlen]at hp;clear ho hlen;go_wp2_with (at_builtin;refine wpList_append_own _ rfl _ _ 140 rfl w.heap.size 5 i0 (.int .u8 0) 1 1 underlying140 hi hz0 hz1 hz2 rfl δ _ _ _ rfl (kQ O1.o _) (w1.heap.size,0) 1 1 [.int .u8 c.toNat] rfl rfl ?c1 ?c2 ?c3 ?c4 ?c5 ?_)
      case c1=>exact zl _ (λj u h=>η)
      case c2=>simp[Value.oneCell']
      case c3=>unfold maxLen;omega
      case c4=>omega
      case c5=>have:=B1.o.size;simp;omega
      intro v3 w3 hown3 hgrow3 _;have O3:=qA (ZO (m:=[c]) hown3);have B3:Hid (Bl w w3):=(B1.o.alloc B1.o.size _).grown hgrow3 (by have:=B1.o.size;simp;omega) (λk hk=>(qAG O1.o k hk).1);clear hown3 hgrow3;go_wp2;go_roundw;case rel=>exact⟨k+n,out++[c],ω,ω,τ,by go_num,O3,by have:=HS.o;rw[show k+n-1=k-1+n by omega];exact this,B3⟩
      simp[intOf];omega
     obtain rfl:k=s.size-1:=ω
     have HO2:=qA (show ZK l=some out by
      rw[HD.o,List.drop_eq_nil_of_le (by rw[hil];omega),FN];simp)
     have hcv:=YG HO.o;obtain⟨q,hq⟩:=ε (zg out);have HQ:=qA hq;clear hq;have hqc:=UN ⟨out.toArray⟩ q HQ (by show out.toArray.size<=_;rw[List.size_toArray];omega);by_cases hqs:(⟨q.toArray⟩:ByteArray)=s
     ·
      have hbq:(q==s.toList)=true:=by rw[beq_iff_eq,ByteArray.toList_eq];exact iW.1 hqs
      have HF:=qA (show(out,(0:Int))=(o,e) by
       rw[<-H.o,HU.o,HO2.o];symm
       show PP (if zg out=s.data.toList then some out else none)=_
       rw[U6 (HQ.o.trans (iW.1 hqs))];rfl)
      obtain⟨e1,e2⟩:=qAE HF.o;clear H HF;subst e1 e2;go_wp2_with (go_at_call 134;refine(hqc _).mono ?_)
      rintro r w3 ⟨rfl,b3⟩;have hcv3:=YG (MK HO.o b3);go_wp2;go_ret2;exact⟨rfl,qF HB.o b3⟩
     have hbq:(q==s.toList)=false:=by rw[U0,ByteArray.toList_eq];exact λhc=>hqs (iW.2 hc)
     have HF:=qA (show(([]:List UInt8),(3:Int))=(o,e) by
      rw[<-H.o,HU.o,HO2.o];symm
      show PP (if zg out=s.data.toList then some out else none)=_
      rw[U5 (λhc=>hqs (iW.2 (HQ.o.symm.trans hc)))];rfl)
     obtain⟨e1,e2⟩:=qAE HF.o;clear H HF;subst e1 e2;go_wp2_with (go_at_call 134;refine(hqc _).mono ?_)
     rintro r w3 ⟨rfl,b3⟩;go_wp2;go_ret2;exact⟨rfl,qF HB.o b3⟩
    have f4:(((s[s.size-1]'ω).toNat:Int) != 34)=true:=by rw[bne_iff_ne];exact h4
    have HU:=qA (iq HP.o (.inr ⟨ω,.inr ω⟩));have HF:=qA (show(([]:List UInt8),(3:Int))=(o,e) by rw[<-H.o,HU.o];rfl);obtain⟨e1,e2⟩:=qAE HF.o;clear H HF HU;subst e1 e2;go_wp2;go_ret2;exact⟨rfl,qB _⟩
   have f3:(((s[0]'ω).toNat:Int) != 34)=true:=by rw[bne_iff_ne];exact h3
   have HU:=qA (iq HP.o (.inr ⟨ω,.inl ω⟩));have HF:=qA (show(([]:List UInt8),(3:Int))=(o,e) by rw[<-H.o,HU.o];rfl);obtain⟨e1,e2⟩:=qAE HF.o;clear H HF HU;subst e1 e2;go_wp2;go_ret2;exact⟨rfl,qB _⟩
  have HU:=qA (iq HP.o (.inl ω));have HF:=qA (show(([]:List UInt8),(3:Int))=(o,e) by rw[<-H.o,HU.o];rfl);obtain⟨e1,e2⟩:=qAE HF.o;clear H HF HU;subst e1 e2;go_wp2;go_ret2;exact⟨rfl,qB _⟩
theorem qBq (s:Φ) (j:Nat) (h:j<s.size) (h44:(s[j]'h).toNat=44):wS (s.data.toList.drop j)=0:=by
 rw[QM s j h,wS];rw[U6 (by simp[h44])]
theorem qBp (s:Φ) (j:Nat) (h:j<s.size) (h44: ¬ (s[j]'h).toNat=44):wS (s.data.toList.drop j)=1+wS (s.data.toList.drop (j+1)):=by
 rw[QM s j h,wS];rw[U5 (by simpa using h44)]
theorem qC1 (s:Φ) (hs:s.size<=34359738368) (k:Nat) (hk:k<=s.size) (r:Nat) (H:Hid (k+Qc (s.data.toList.drop k)=r)) (w:World):
  Calls prog 62 #[s,k] w λe w'=>e=.returned (r:Z)/\w=w':=by
 by_cases hq: ∃ h:k<s.size,(s[k]'h).toNat=34
 ·
  obtain⟨hlt,h34⟩:=hq;have HR:=qA (show Qr s (k+1)=r by rw[<-Pq s k hlt h34];exact H.o);have h34':((s[k]'hlt).toNat:Int)=34:=ω
  clear H h34;go_enter func62,ntmps62
  go_wp2;go_loop [1] (λi=> ∃ j:Nat,j<=s.size+1/\i=j/\Hid (Qr s j=r)) (λi=>s.size+1-(intOf i).toNat)
  case atStart=>exact⟨k+1,ω,by go_num,HR⟩
  obtain⟨j,hj,rfl,HJ⟩:=hrel;by_cases hl:j<s.size
  ·
   by_cases j34:((s[j]'hl).toNat:Int)=34
   ·
    have HF:r=j+1:=by rw[<-HJ.o];exact oN s j hl ω
    have hmin:min ((j:Int)+1) (s.size:Int)=(j:Int)+1:=ω
    go_wp2;go_ret;exact⟨qR ω,rfl⟩
   have f1:(((s[j]'hl).toNat:Int) != 34)=true:=by rw[bne_iff_ne];exact j34
   by_cases j92:((s[j]'hl).toNat:Int)=92
   ·
    have HS:=qA (show Qr s (j+2)=r by rw[<-Dq s j hl ω];exact HJ.o);go_wp2;go_round;case rel=>exact⟨j+2,ω,by go_num,HS⟩
    simp[intOf];omega
   have f2:(((s[j]'hl).toNat:Int)==92)=false:=by rw[U0];exact j92
   have HS:=qA (show Qr s (j+1)=r by rw[<-oM s j hl ω ω];exact HJ.o);go_wp2;go_round;case rel=>exact⟨j+1,ω,by go_num,HS⟩
   simp[intOf];omega
  have HF:r=s.size:=by rw[<-HJ.o];exact Dp s j ω
  have hmin:min ((j:Int)+1) (s.size:Int)=(s.size:Int):=ω
  go_wp2;go_ret;exact⟨qR ω,rfl⟩
 have he:Qc (s.data.toList.drop k)=wS (s.data.toList.drop k):=by
  rcases Nat.lt_or_ge k s.size with h|h
  · exact OL s k h λe=>hq ⟨h,e⟩
  exact I7 s k h
 have HR:=qA (show k+wS (s.data.toList.drop k)=r by rw[<-he];exact H.o);clear H he;by_cases hlt:k<s.size
 ·
  have h34: ¬ ((s[k]'hlt).toNat:Int)=34:=λe=>hq ⟨hlt,ω⟩
  have f1:(((s[k]'hlt).toNat:Int)==34)=false:=by rw[U0];exact h34
  clear hq;go_enter func62,ntmps62
  go_wp2;go_loop [1] (λi=> ∃ j:Nat,j<=s.size/\i=j/\Hid (j+wS (s.data.toList.drop j)=r)) (λi=>s.size-(intOf i).toNat)
  case atStart=>exact⟨k,ω,by go_num,HR⟩
  obtain⟨j,hj,rfl,HJ⟩:=hrel;by_cases hl:j<s.size
  ·
   by_cases j44:((s[j]'hl).toNat:Int)=44
   ·
    have HF:r=j:=by rw[<-HJ.o,qBq s j hl ω];rfl
    go_wp2;go_ret;exact⟨qR ω,rfl⟩
   have f1:(((s[j]'hl).toNat:Int) != 44)=true:=by rw[bne_iff_ne];exact j44
   have HS:=qA (show j+1+wS (s.data.toList.drop (j+1))=r by rw[<-HJ.o,qBp s j hl ω];omega);go_wp2;go_round;case rel=>exact⟨j+1,ω,by go_num,HS⟩
   simp[intOf];omega
  have HF:r=j:=by rw[<-HJ.o,J7 s j ω];rfl
  go_wp2;go_ret;exact⟨qR ω,rfl⟩
 obtain rfl:k=s.size:=ω
 have HF:r=s.size:=by rw[<-HR.o,J7 s _ (U3 _)];rfl
 clear hq HR;go_enter func62,ntmps62
 go_wp2;go_loop [1] (λi=>i=s.size) (λ_=>0)
 case atStart=>rfl
 obtain rfl:=hrel;go_wp2;go_ret;exact⟨qR ω,rfl⟩
theorem qCb (s:Φ) (hs:s.size<=34359738368) (l:List Ψ) (e:Int) (H:Hid (yM s.data.toList=(l,e))) (w:World):
  Calls prog 23 #[s] w λr w'=> ∃ v,r=.returned (.tuple #[v,e])/\VV w.heap.size v l w'/\Bl w w':=by
 obtain⟨i0,hi,hz0,hz1,hz2⟩:=info_parts nD;by_cases hbig:65536<s.size
 ·
  have HF:=qA (show(([]:List Ψ),(5:Int))=(l,e) by rw[<-H.o];unfold yM;rw[U6 (by rw[yB];exact hbig)]);obtain⟨e1,e2⟩:=qAE HF.o;clear H HF;subst e1 e2;go_enter func23,ntmps23
  go_wp2;go_ret2;exact⟨_,rfl,ZP _ _,qB _⟩
 by_cases h0:s.size=0
 ·
  have hs:s.toList=[]:=wK h0;have hn:=yB s;have HF:=qA (show(([]:List Ψ),(0:Int))=(l,e) by
   rw[<-H.o];unfold yM;rw[U5 (by rw[hn];omega),U6 (List.length_eq_zero_iff.1 (hn.trans h0))])
  obtain⟨e1,e2⟩:=qAE HF.o;clear H HF;subst e1 e2;go_enter func23,ntmps23
  go_wp2;go_ret2;exact⟨_,rfl,ZP _ _,qB _⟩
 have hne:=jG h0;have hne':=jQ h0;have hn:=yB s;have HS:=qA (show pre [] (kS (64-0) (s.data.toList.drop 0))=(l,e) by
  rw[MP,<-H.o];unfold yM;rw[U5 (by rw[hn];omega),U5 (λh=>by rw[h]at hn;simp at hn;omega)];rfl)
 clear H;go_enter func23,ntmps23
 go_wp2;go_loopw [4,5,6] (λvo i nn wr=> ∃ (k:Nat) (out:List Ψ),k<=s.size/\out.length<=64/\i=k/\nn=out.length/\Hid (VV w.heap.size vo out wr)/\Hid (pre out (kS (64-out.length) (s.data.toList.drop k))=(l,e))/\Hid (Bl w wr)) (λ_ i _ _=>s.size+1-(intOf i).toNat)
 case atStart=>exact⟨0,[],qAD _,δ,rfl,rfl,ZP _ _,HS,qB _⟩
 obtain⟨k,out,hk,hol',rfl,rfl,HO,HD,HB⟩:=hrel;by_cases hol: ¬ out.length<64
 ·
  have h64:out.length=64:=ω
  have HF:=qA (show(([]:List Ψ),(5:Int))=(l,e) by rw[<-HD.o,h64];rfl);obtain⟨e1,e2⟩:=qAE HF.o;clear HF HD;subst e1 e2;go_wp2;go_ret2;exact⟨_,rfl,ZP _ _,HB.o⟩
 replace hol:out.length<64:=Decidable.not_not.1 hol
 obtain⟨r,hr⟩:=ε (k+Qc (s.data.toList.drop k));have hxl:=I5 (s.data.toList.drop k);rw[List.length_drop,hn]at hxl;have hrs:r<=s.size:=ω
 have hkr:k<=r:=ω
 have HR:=qA hr;have hex:=qC1 s hs k hk r HR;have HT:=qA (show(s.extract k r).data.toList=(s.data.toList.drop k).take (Qc (s.data.toList.drop k)) by rw[yC,<-hr,Nat.add_sub_cancel_left]);have HE:=qA (show(s.data.toList.drop k).drop (Qc (s.data.toList.drop k))=s.data.toList.drop r by rw[List.drop_drop,hr]);have h64:64-out.length=(63-out.length)+1:=ω
 rw[h64]at HD;clear hr hxl;obtain⟨u,hu⟩:=ε (jJ (s.extract k r).data.toList);have HU:=qA (show jJ ((s.data.toList.drop k).take (Qc (s.data.toList.drop k)))=u by rw[<-HT.o];exact hu);have hsz:(s.extract k r).size<=34359738368:=by rw[vH _ _ _ hrs hkr];omega
 cases u with
 |none=>
  have hun:=qBI (s.extract k r) hsz [] 3 (by show _=_;rw[hu];rfl);have HF:=qA (show(([]:List Ψ),(3:Int))=(l,e) by rw[<-HD.o,uo HU.o];rfl);obtain⟨e1,e2⟩:=qAE HF.o;clear HF hu HD;subst e1 e2;go_wp2_with (go_at_call 62;refine(hex _).mono ?_)
  rintro x w1 ⟨rfl,rfl⟩;go_wp2_with (go_at_call 63;refine(hun _).mono ?_)
  rintro x w2 ⟨rfl,b2⟩;go_wp2;go_ret2;exact⟨_,rfl,ZP _ _,qF HB.o b2⟩
 |some f=>
  have hun:=qBI (s.extract k r) hsz f 0 (by show _=_;rw[hu];rfl);clear hu;by_cases hend:r<s.size
  ·
   have HC:=qA (QM s r hend);by_cases h44:((s[r]'hend).toNat:Int)=44
   ·
    have HM:=qA (show pre (out++[f]) (kS (63-out.length) (s.data.toList.drop (r+1)))=(l,e) by
     rw[<-HD.o,og HU.o (HE.o.trans HC.o) ω,MQ])
    clear HD;go_wp2_with (go_at_call 62;refine(hex _).mono ?_)
    rintro x w1 ⟨rfl,rfl⟩;go_wp2_with (go_at_call 63;refine(hun _).mono ?_)
    rintro x w2 ⟨rfl,b2⟩;have B2:Hid (Bl w w2):=qF HB.o b2;have O2:=qA (Wp HO.o b2);clear b2 hun hex;go_wp2_with (at_builtin;refine wpList_append_own _ rfl _ _ 66 rfl w.heap.size 9 i0 (.string ByteArray.empty) 1 16 underlying66 hi hz0 hz1 hz2 rfl δ _ _ _ rfl (YZ O2.o _) (w2.heap.size,0) 1 1 [qP f] rfl rfl ?c1 ?c2 ?c3 ?c4 ?c5 ?_)
    case c1=>exact zl _ (λj u h=>η)
    case c2=>simp[Value.oneCell']
    case c3=>unfold maxLen;omega
    case c4=>omega
    case c5=>have:=B2.o.size;simp;omega
    intro v3 w3 hown3 hgrow3 _;have O3:=qA (Xx (m:=[f]) hown3);have B3:Hid (Bl w w3):=(B2.o.alloc B2.o.size _).grown hgrow3 (by have:=B2.o.size;simp;omega) (λk hk=>(qAG O2.o k hk).1);clear hown3 hgrow3;have hl3:(out++[f]).length=out.length+1:=σ
    go_wp2;go_roundw;case rel=>exact⟨r+1,out++[f],ω,ω,by go_num,by rw[hl3];go_num,O3,by rw[hl3,show 64-(out.length+1)=63-out.length by omega];exact HM,B3⟩
    simp[intOf];omega
   have f1:(((s[r]'hend).toNat:Int) != 44)=true:=by rw[bne_iff_ne];exact h44
   have HF:=qA (show(([]:List Ψ),(3:Int))=(l,e) by
    rw[<-HD.o,iQ HU.o (HE.o.trans HC.o) ω];rfl)
   obtain⟨e1,e2⟩:=qAE HF.o;clear HF HD;subst e1 e2;go_wp2_with (go_at_call 62;refine(hex _).mono ?_)
   rintro x w1 ⟨rfl,rfl⟩;go_wp2_with (go_at_call 63;refine(hun _).mono ?_)
   rintro x w2 ⟨rfl,b2⟩;have B2:Hid (Bl w w2):=qF HB.o b2;have O2:=qA (Wp HO.o b2);clear b2 hun hex;go_wp2_with (at_builtin;refine wpList_append_own _ rfl _ _ 66 rfl w.heap.size 9 i0 (.string ByteArray.empty) 1 16 underlying66 hi hz0 hz1 hz2 rfl δ _ _ _ rfl (YZ O2.o _) (w2.heap.size,0) 1 1 [qP f] rfl rfl ?c1 ?c2 ?c3 ?c4 ?c5 ?_)
   case c1=>exact zl _ (λj u h=>η)
   case c2=>simp[Value.oneCell']
   case c3=>unfold maxLen;omega
   case c4=>omega
   case c5=>have:=B2.o.size;simp;omega
   intro v3 w3 hown3 hgrow3 _;have O3:=qA (Xx (m:=[f]) hown3);have B3:Hid (Bl w w3):=(B2.o.alloc B2.o.size _).grown hgrow3 (by have:=B2.o.size;simp;omega) (λk hk=>(qAG O2.o k hk).1);clear hown3 hgrow3;go_wp2;go_ret2;exact⟨_,rfl,ZP _ _,B3.o⟩
  obtain rfl:r=s.size:=ω
  have HF:=qA (show(out++[f],(0:Int))=(l,e) by
   rw[<-HD.o,oZ HU.o (HE.o.trans (J7 s _ (U3 _)))];rfl)
  obtain⟨e1,e2⟩:=qAE HF.o;clear HF HD;subst e1 e2;go_wp2_with (go_at_call 62;refine(hex _).mono ?_)
  rintro x w1 ⟨rfl,rfl⟩;go_wp2_with (go_at_call 63;refine(hun _).mono ?_)
  rintro x w2 ⟨rfl,b2⟩;have B2:Hid (Bl w w2):=qF HB.o b2;have O2:=qA (Wp HO.o b2);clear b2 hun hex;go_wp2_with (at_builtin;refine wpList_append_own _ rfl _ _ 66 rfl w.heap.size 9 i0 (.string ByteArray.empty) 1 16 underlying66 hi hz0 hz1 hz2 rfl δ _ _ _ rfl (YZ O2.o _) (w2.heap.size,0) 1 1 [qP f] rfl rfl ?c1 ?c2 ?c3 ?c4 ?c5 ?_)
  case c1=>exact zl _ (λj u h=>η)
  case c2=>simp[Value.oneCell']
  case c3=>unfold maxLen;omega
  case c4=>omega
  case c5=>have:=B2.o.size;simp;omega
  intro v3 w3 hown3 hgrow3 _;have O3:=qA (Xx (m:=[f]) hown3);have B3:Hid (Bl w w3):=(B2.o.alloc B2.o.size _).grown hgrow3 (by have:=B2.o.size;simp;omega) (λk hk=>(qAG O2.o k hk).1);clear hown3 hgrow3;go_wp2;go_ret2;exact⟨_,rfl,O3.o,B3.o⟩
end Go.Proofs.YtakedkcjplfgeaaGreatDoor
namespace Go.Proofs.YtakedkcjplfgeaaGreatDoor.Fld
theorem qAU {c b:UInt8} (h:b≠c): ∀ (s:Ψ) (out:List Ψ) (cur:Ψ),zK c s=out++[cur]->zK c (s++[b])=out++[cur++[b]]
 |[],out,cur,hs=>by
  have e:out=[]/\cur=[]:=by
   have h1:([[]]:List Ψ)=out++[cur]:=hs;cases out with
   |nil=>simp at h1;exact⟨rfl,h1⟩
   |cons x y=>simp at h1
  rw[e.1,e.2,List.nil_append];rw[zK];rw[U5 h];rfl
 |a::r,out,cur,hs=>by
  rw[List.cons_append];by_cases ha:a=c
  ·
   rw[ha,ZT]at hs;cases out with
   |nil=>
    have:=fB c r;simp at hs
    exact absurd hs.2 this
   |cons x y=>
    rw[List.cons_append,List.cons.injEq]at hs;rw[ha,ZT,qAU h r y cur hs.2,<-hs.1];rfl
  obtain⟨h',t,hr⟩: ∃ h' t,zK c r=h'::t:=by
   cases hs:zK c r with
   |nil=>exact absurd hs (fB c r)
   |cons x y=>exact⟨x,y,rfl⟩
  rw[yh ha hr]at hs;cases out with
  |nil=>
   rw[List.nil_append,List.cons.injEq]at hs;obtain⟨h1,rfl⟩:=hs;have:=qAU h r [] h' (by rw[hr];rfl);rw[yh ha this,<-h1];rfl
  |cons x y=>
   rw[List.cons_append,List.cons.injEq]at hs;obtain⟨h1,h2⟩:=hs;have:=qAU h r (h'::y) cur (by rw[hr,h2];rfl);rw[yh ha this,<-h1];rfl
end Go.Proofs.YtakedkcjplfgeaaGreatDoor.Fld
namespace Go.Proofs.YtakedkcjplfgeaaGreatDoor
open Go.RowKit
open Fld
theorem qBN {s:Φ} {i at':Nat} {out:List Ψ} (h:i<s.size) (h10:(s[i]'h).toNat=10)
  (hr:zK 10 (s.data.toList.take i)=out++[(s.extract at' i).data.toList]):zK 10 (s.data.toList.take (i+1))=(out++[(s.extract at' i).data.toList])++[(s.extract (i+1) (i+1)).data.toList]:=by
 have e:(s[i]'h)=10:=UInt8.toNat.inj (by simpa using h10);have e2:(s.extract (i+1) (i+1)).data.toList=[]:=by rw[yC];simp
 rw[List.take_succ_eq_append_getElem η,qw s i h,e,Z7,hr,e2]
theorem qBO {s:Φ} {i at':Nat} {out:List Ψ} (h:i<s.size) (h10: ¬ (s[i]'h).toNat=10) (hat:at'<=i)
  (hr:zK 10 (s.data.toList.take i)=out++[(s.extract at' i).data.toList]):zK 10 (s.data.toList.take (i+1))=out++[(s.extract at' (i+1)).data.toList]:=by
 have e:(s[i]'h)≠10:=λe=>h10 (by rw[e];rfl)
 have e2:(s.extract at' (i+1)).data.toList=(s.extract at' i).data.toList++[s[i]'h]:=by
  rw[yC,yC,show i+1-at'=(i-at')+1 by omega,List.take_succ_eq_append_getElem (by rw[List.length_drop,yB];omega),List.getElem_drop];congr 1
  simp only[List.cons.injEq,and_true];rw[<-qw s i h];congr 1
  omega
 rw[List.take_succ_eq_append_getElem η,qw s i h,qAU e _ _ _ hr,e2]
theorem qB2 {t:Ψ} {out:List Ψ} {cur:Ψ} (h:zK 10 t=out++[cur]) (h1: ¬ 65536<t.length) (h2:t≠[]->t.getLast?=some 10):vT t=(out,0):=by
 unfold vT;rw[U5 h1];by_cases h0:t=[]
 ·
  rw[U6 h0];rw[h0]at h;have h':([[]]:List Ψ)=out++[cur]:=h;cases out with
  |nil=>rfl
  |cons x y=>simp at h'
 rw[U5 h0,U6 (h2 h0)];obtain⟨f,hf⟩:=List.getLast?_eq_some_iff.1 (h2 h0);rw[hf,Z7]at h;rw[hf,List.dropLast_concat];have:=congrArg List.dropLast h;rw[List.dropLast_concat,List.dropLast_concat]at this;rw[this]
theorem qCd (b:UInt8):(some b:Option UInt8)=some 10↔b.toNat=10:=by
 rw[qAA];exact⟨λe=>by rw[e];rfl,λe=>UInt8.toNat.inj (by simpa using e)⟩
theorem qCa (s:Φ) (hs:s.size<=4294967280) (l:List Ψ) (e:Int) (H:Hid (vT s.data.toList=(l,e))) (w:World):
  Calls prog 22 #[s] w λr w'=> ∃ v,r=.returned (.tuple #[v,e])/\VV w.heap.size v l w'/\Bl w w':=by
 obtain⟨i0,hi,hz0,hz1,hz2⟩:=info_parts nD;have hn:=yB s;by_cases hbig:65536<s.size
 ·
  have HF:=qA (show(([]:List Ψ),(5:Int))=(l,e) by rw[<-H.o];unfold vT;rw[U6 (by rw[hn];exact hbig)]);obtain⟨e1,e2⟩:=qAE HF.o;clear H HF;subst e1 e2;go_enter func22,ntmps22
  go_wp2;go_ret2;exact⟨_,rfl,ZP _ _,qB _⟩
 by_cases hbad: ∃ h:0<s.size,¬ (s[s.size-1]'ω).toNat=10
 ·
  obtain⟨h0,hb⟩:=hbad;have hnl: ¬ s.data.toList=[]:=λh=>by rw[h]at hn;simp at hn;omega
  have hne:=jG (s:=s) ω;have hne':=jQ (s:=s) ω;have f1:(((s[s.size-1]'ω).toNat:Int) != 10)=true:=by rw[bne_iff_ne];omega
  have HF:=qA (show(([]:List Ψ),(4:Int))=(l,e) by
   rw[<-H.o];unfold vT;rw[U5 (by rw[hn];omega),U5 hnl,U5 (by rw[BN s h0,qCd];exact hb)])
  obtain⟨e1,e2⟩:=qAE HF.o;clear H HF hnl;subst e1 e2;go_enter func22,ntmps22
  go_wp2;go_ret2;exact⟨_,rfl,ZP _ _,qB _⟩
 have HE:=qA (fun(out:List Ψ) (cur:Ψ) (h:zK 10 s.data.toList=out++[cur])=>show out=l/\(0:Int)=e by
  have:=qB2 h (by rw[hn];exact hbig) (λhne=>by
   have h0:0<s.size:=by
    rcases Nat.eq_zero_or_pos s.size with h0|h0
    · exact absurd (List.length_eq_zero_iff.1 (hn.trans h0)) hne
    exact h0
   rw[BN s h0,qCd];exact Decidable.not_not.1 λhc=>hbad ⟨h0,hc⟩)
  exact qAE (this.symm.trans H.o))
 have hlast: ∀ h0:0<s.size,(((s[s.size-1]'ω).toNat:Int) != 10)=false:=λh0=>by
  have:=Decidable.not_not.1 λhc=>hbad ⟨h0,hc⟩
  rw[this];rfl
 clear H hbad;rcases Nat.eq_zero_or_pos s.size with h0|h0
 ·
  have hs:s.toList=[]:=wK h0;obtain⟨e1,e2⟩:=HE.o [] [] (by rw[List.length_eq_zero_iff.1 (hn.trans h0)];rfl);clear hlast HE;subst e1 e2;go_enter func22,ntmps22
  go_wp2_with fail;refine wp_loop_rounds 1 ?_;rw[rounds_succ];go_wp2;go_ret2;exact⟨_,rfl,ZP _ _,qB _⟩
 have hne:=jG (s:=s) ω;have hne':=jQ (s:=s) ω;have f1:=hlast h0;clear hlast;go_enter func22,ntmps22
 go_wp2;go_loopw [4,5,6] (λvo va i wr=> ∃ (k j:Nat) (out:List Ψ),k<=s.size/\j<=k/\out.length<=k/\i=k/\va=j/\Hid (VV w.heap.size vo out wr)/\Hid (zK 10 (s.data.toList.take k)=out++[(s.extract j k).data.toList])/\Hid (Bl w wr)) (λ_ _ i _=>s.size-(intOf i).toNat)
 case atStart=>exact⟨0,0,[],qAD _,U3 _,U3 _,rfl,rfl,ZP _ _,by show _=_;rw[yC];rfl,qB _⟩
 obtain⟨k,j,out,hk,hj,hol,rfl,rfl,HO,HS,HB⟩:=hrel;by_cases hlt:k<s.size
 ·
  by_cases h10:((s[k]'hlt).toNat:Int)=10
  ·
   have HN:=qA (qBN hlt ω HS.o);obtain⟨f,hf⟩:=ε ((s.extract j k).data.toList);have hv:Value.string (s.extract j k)=qP f:=by rw[<-hf]
   rw[hf]at HN;clear hf;go_wp2_with (at_builtin;refine wpList_append_own _ rfl _ _ 66 rfl w.heap.size 9 i0 (.string ByteArray.empty) 1 16 underlying66 hi hz0 hz1 hz2 rfl δ _ _ _ rfl (YZ HO.o _) (wr.heap.size,0) 1 1 [qP f] rfl rfl ?c1 ?c2 ?c3 ?c4 ?c5 ?_)
   case c1=>exact zl _ (λj u h=>η)
   case c2=>simp[Value.oneCell']
   case c3=>unfold maxLen;omega
   case c4=>omega
   case c5=>have:=HB.o.size;simp;omega
   intro v3 w3 hown3 hgrow3 _;have O3:=qA (Xx (m:=[f]) hown3);have B3:Hid (Bl w w3):=(HB.o.alloc HB.o.size _).grown hgrow3 (by have:=HB.o.size;simp;omega) (λk hk=>(qAG HO.o k hk).1);clear hown3 hgrow3 hv;go_wp2;go_roundw;case rel=>exact⟨k+1,k+1,out++[f],ω,ω,τ,by go_num,by go_num,O3,HN,B3⟩
   simp[intOf];omega
  have f2:(((s[k]'hlt).toNat:Int)==10)=false:=by rw[U0];exact h10
  have HN:=qA (qBO hlt ω hj HS.o);go_wp2;go_roundw;case rel=>exact⟨k+1,j,out,ω,ω,ω,by go_num,rfl,HO,HN,HB⟩
  simp[intOf];omega
 obtain rfl:k=s.size:=ω
 obtain⟨e1,e2⟩:=HE.o out _ (by rw[<-HS.o,U9 ω]);clear HE HS;subst e1 e2;go_wp2;go_ret2;exact⟨_,rfl,HO.o,HB.o⟩
