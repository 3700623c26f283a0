/- Contracts, proved. Conditions: theirs. -/
import Derived.Test.YtakedkcjplfgeaaGreatDoorMPkCkA
set_option maxRecDepth 1000000
set_option maxHeartbeats 32000000
open Go.Proofs.Tryz
namespace Go.Proofs.YtakedkcjplfgeaaGreatDoor.Ck
open Go.RowKit
open Num Clk
theorem KZ {s:Φ} (h:s.size=0):s.data.toList=[]:=List.length_eq_zero_iff.1 η
theorem wK {s:Φ} (h:s.size=0):s.toList=[]:=by
 rw[ByteArray.toList_eq];exact KZ h
theorem jG {s:Φ} (h: ¬ s.size=0): ¬ s.toList=[]:=by
 rw[ByteArray.toList_eq];intro e;exact h (by simpa using congrArg List.length e)
theorem jQ {s:Φ} (h: ¬ s.size=0):s.toList.isEmpty=false:=by
 have:=jG h;simpa using this
theorem yt (s:Φ):zC s.data.toList=true↔ ∀ k (h:k<s.size),qV (s[k]'h)=true:=by
 simp only[zC,List.all_eq_true];constructor
 ·
  intro h k hk;have:=h (s.data.toList[k]'(by simpa using hk)) (List.getElem_mem _);rwa [qw s k hk]at this
 intro h c hc;obtain⟨k,hk,rfl⟩:=List.getElem_of_mem hc;have hk':k<s.size:=by simpa using hk
 rw[qw s k hk'];exact h k hk'
theorem Zd (s:Φ):zN s.data.toList=(zC s.data.toList&& !decide (s.size=0)&&(if h:0<s.size then decide ((s[0]'h).toNat≠48)||decide (s.size=1)else true)):=by
 by_cases h:0<s.size
 ·
  have h':0<s.data.toList.length:=η
  cases hl:s.data.toList with
  |nil=>rw[hl]at h';simp at h'
  |cons a t=>
   have ha:s[0]'h=a:=by rw[<-qw s 0 h];simp[hl]
   have hsz:s.size=t.length+1:=by
    have:s.data.toList.length=s.size:=σ
    rw[hl]at this;simpa using this.symm
   have h48:(a=48)↔a.toNat=48:=⟨λe=>by rw[e];rfl,λe=>UInt8.toNat.inj (by simpa using e)⟩;simp only[zN,ha,hsz];by_cases h1:a=48
   · cases t<;>simp[h1]
   have h2: ¬ a.toNat=48:=λe=>h1 (h48.2 e)
   simp[h1,h2]
 have h0:s.size=0:=ω
 simp[zN,KZ h0,h0]
theorem Kq (s:Φ) (k:Nat) (h:k<s.size):val (s.data.toList.take (k+1))=10*val (s.data.toList.take k)+((s[k]'h).toNat-48):=by
 have hk:k<s.data.toList.length:=η
 rw[List.take_succ_eq_append_getElem hk,ZY,qw s k h]
inductive Canon (s:Φ):Bool->Prop
 |empty (h:s.size=0):Canon s false
 |zero (h:0<s.size) (h0:((s[0]'h).toNat:Int)=48) (h1:1<(s.size:Int)):Canon s false
 |bad (h:0<s.size) (h0:((s[0]'h).toNat:Int)=48-> ¬ 1<(s.size:Int)) (p:Nat) (hp:p<s.size) (hd:Hid (∀ k (h:k<s.size),k<p->qV (s[k]'h)=true)) (hn:Hid (qV (s[p]'hp)=false)):Canon s false
 |good (h:0<s.size) (h0:((s[0]'h).toNat:Int)=48-> ¬ 1<(s.size:Int)) (hd:Hid (∀ k (h:k<s.size),qV (s[k]'h)=true)):Canon s true
theorem CJ (s:Φ):Canon s (zN s.data.toList):=by
 rw[Zd];by_cases h0:s.size=0
 ·
  have:decide (s.size=0)=true:=decide_eq_true h0;rw[this,Bool.not_true,Bool.and_false,Bool.false_and];exact .empty h0
 have hps:0<s.size:=ω
 rw[dif_pos hps];by_cases hz:((s[0]'hps).toNat:Int)=48/\1<(s.size:Int)
 ·
  have e1:decide ((s[0]'hps).toNat≠48)=false:=decide_eq_false ω;have e2:decide (s.size=1)=false:=decide_eq_false ω;rw[e1,e2,Bool.or_false,Bool.and_false];exact .zero hps hz.1 hz.2
 have hz':((s[0]'hps).toNat:Int)=48-> ¬ 1<(s.size:Int):=λa b=>hz ⟨a,b⟩
 have e1:(decide ((s[0]'hps).toNat≠48)||decide (s.size=1))=true:=by
  by_cases k:(s[0]'hps).toNat=48
  ·
   have:=hz' ω;simp
   right
   omega
  simp[k]
 have e2:decide (s.size=0)=false:=decide_eq_false h0;rw[e1,e2,Bool.not_false,Bool.and_true,Bool.and_true];obtain⟨p,hp,hd,hn⟩:=Vh (λ_ c=>qV c) s;by_cases hlt:p<s.size
 ·
  have:zC s.data.toList=false:=by
   rw[Bool.eq_false_iff,Ne,yt];intro k;have:=k p hlt;rw[hn hlt]at this;simp at this
  rw[this];exact .bad hps hz' p hlt hd (hn hlt)
 have hall: ∀ k (h:k<s.size),qV (s[k]'h)=true:=λk hk=>hd k hk ω
 rw[(yt s).2 hall];exact .good hps hz' hall
theorem Vk (s:Φ) (n:Int) (ok:Bool) (H:Hid (xB s.data.toList=(n,ok))) (hs:s.size<=maxLen) (w:World):
  Calls prog 278 #[s] w λe w'=>e=.returned (.tuple #[n,ok])/\Bl w w':=by
 unfold maxLen at hs;have hw:=CJ s;have H':=H.o;unfold xB at H';generalize hc:zN s.data.toList=c at*
 cases hw with
 |empty h=>
  rw[U5 σ,qAF]at H';obtain⟨rfl,rfl⟩:=H';have hne:=wK h;clear H hc;go_enter func278,ntmps278
  go_wp2;go_ret2;exact⟨rfl,qB _⟩
 |zero h h0 h1=>
  rw[U5 σ,qAF]at H';obtain⟨rfl,rfl⟩:=H';have hne:=jG (s:=s) ω;have hne':=jQ (s:=s) ω;clear H hc;go_enter func278,ntmps278
  go_wp2;go_ret2;exact⟨rfl,qB _⟩
 |bad h h0 p hp hd hn=>
  rw[U5 σ,qAF]at H';obtain⟨rfl,rfl⟩:=H';have hne:=jG (s:=s) ω;have hne':=jQ (s:=s) ω;clear H hc;have hz:(((s[0]'h).toNat:Int)=48/\ ¬ 1<(s.size:Int))∨(¬ ((s[0]'h).toNat:Int)=48/\ ¬ 1<(s.size:Int))∨(¬ ((s[0]'h).toNat:Int)=48/\1<(s.size:Int)):=by
   by_cases k:((s[0]'h).toNat:Int)=48
   · exact .inl ⟨k,h0 k⟩
   omega
  clear h0;rcases hz with⟨k1,k2⟩|⟨k1,k2⟩|⟨k1,k2⟩
  all_goals
   have kb':(((s[0]'h).toNat:Int)==48)=decide (((s[0]'h).toNat:Int)=48):=by rw[Bool.eq_iff_iff];simp
   simp only[k1,decide_true,decide_false]at kb';go_enter func278,ntmps278
   go_wp2;go_loopw [4] (λn w'=> ∃ pos m:Nat,pos<=p/\n=m/\m<=1000000/\Hid (m=min 1000000 (val (s.data.toList.take pos)))/\w'=w.iter s pos) (λ_ w'=>s.size-w'.iterPos w.heap.size)
   case atStart=>exact⟨0,0,qAD _,rfl,ω,rfl,rfl⟩
   obtain⟨pos,m,hpos,rfl,hm,HM,rfl⟩:=hrel;by_cases h1:pos<p
   ·
    have hps:pos<s.size:=ω
    have hdg:=wV (hd.o pos hps h1);have hnx: ∀ ty,(Instr.next ((w.heap.size,0):Z) true ty).run prog (w.iter s pos)=_:=λty=>run_next_ascii w s pos ty hps ω
    have HS:=qA (Kq s pos hps);go_wp2;all_goals
     go_roundw;case rel=>exact⟨pos+1,min 1000000 (10*m+((s[pos]'hps).toNat-48)),ω,by apply congrArg (Value.int IntKind.i64);omega,ω,by have:=HM.o;show _=_;rw[HS.o];omega,rfl⟩
     first|(simp;done)|(simp;omega)
   obtain rfl:pos=p:=ω
   have hnd:=VF hn.o;by_cases h3:(s[pos]'hp).toNat<128
   ·
    have hnx: ∀ ty,(Instr.next ((w.heap.size,0):Z) true ty).run prog (w.iter s pos)=_:=λty=>run_next_ascii w s pos ty hp h3
    rcases hnd with hnd|hnd
    all_goals
     go_wp2;go_ret2;exact⟨rfl,yT (qB _) _ _⟩
   have hnx: ∀ ty,(Instr.next ((w.heap.size,0):Z) true ty).run prog (w.iter s pos)=_:=λty=>run_next_any w s pos ty hp
   have hh:=decode_high s pos hp ω;go_wp2;all_goals
    go_ret2;exact⟨rfl,yT (qB _) _ _⟩
 |good h h0 hd=>
  rw[U6 rfl,qAF]at H';obtain⟨rfl,rfl⟩:=H';have hne:=jG (s:=s) ω;have hne':=jQ (s:=s) ω;clear H hc;have hz:(((s[0]'h).toNat:Int)=48/\ ¬ 1<(s.size:Int))∨(¬ ((s[0]'h).toNat:Int)=48/\ ¬ 1<(s.size:Int))∨(¬ ((s[0]'h).toNat:Int)=48/\1<(s.size:Int)):=by
   by_cases k:((s[0]'h).toNat:Int)=48
   · exact .inl ⟨k,h0 k⟩
   omega
  clear h0;rcases hz with⟨k1,k2⟩|⟨k1,k2⟩|⟨k1,k2⟩
  all_goals
   have kb':(((s[0]'h).toNat:Int)==48)=decide (((s[0]'h).toNat:Int)=48):=by rw[Bool.eq_iff_iff];simp
   simp only[k1,decide_true,decide_false]at kb';go_enter func278,ntmps278
   go_wp2;go_loopw [4] (λn w'=> ∃ pos m:Nat,pos<=s.size/\n=m/\m<=1000000/\Hid (m=min 1000000 (val (s.data.toList.take pos)))/\w'=w.iter s pos) (λ_ w'=>s.size-w'.iterPos w.heap.size)
   case atStart=>exact⟨0,0,qAD _,rfl,ω,rfl,rfl⟩
   obtain⟨pos,m,hpos,rfl,hm,HM,rfl⟩:=hrel;by_cases h1:pos<s.size
   ·
    have hps:pos<s.size:=ω
    have hdg:=wV (hd.o pos hps);have hnx: ∀ ty,(Instr.next ((w.heap.size,0):Z) true ty).run prog (w.iter s pos)=_:=λty=>run_next_ascii w s pos ty hps ω
    have HS:=qA (Kq s pos hps);go_wp2;all_goals
     go_roundw;case rel=>exact⟨pos+1,min 1000000 (10*m+((s[pos]'hps).toNat-48)),ω,by apply congrArg (Value.int IntKind.i64);omega,ω,by have:=HM.o;show _=_;rw[HS.o];omega,rfl⟩
     first|(simp;done)|(simp;omega)
   have hnx: ∀ ty,(Instr.next ((w.heap.size,0):Z) true ty).run prog (w.iter s pos)=_:=λty=>run_next_end w s pos ty h1
   have HE:=qA (show(m:Int)=((min 1000000 (val s.data.toList):Nat):Int) by rw[HM.o,U9 τ]);go_wp2;go_ret2;exact⟨wI (by rw[HE.o]),yT (qB _) _ _⟩
def lK (s:Φ) (x y:UInt8):Prop:=s.data.toList=[x,y]/\qV x=true/\qV y=true/\x.toNat<54
theorem IY {s:Φ} {n:Int} {ok:Bool} (H:wF s.data.toList=(n,ok)):(∃ x y,lK s x y/\n=wH x y/\ok=true)∨((¬ ∃ x y,lK s x y)/\n=0/\ok=false):=by
 by_cases h: ∃ x y,lK s x y
 ·
  obtain⟨x,y,hl,hx,hy,h6⟩:=h;rw[hl]at H;simp only[wF,hx,hy,h6,and_self,if_true,qAF]at H;exact .inl ⟨x,y,⟨hl,hx,hy,h6⟩,H.1.symm,H.2.symm⟩
 refine .inr ⟨h, ?_⟩;generalize hl:s.data.toList=l at H
 match l,H with
 |[],H=>simp only[wF,qAF]at H;exact⟨H.1.symm,H.2.symm⟩
 |[_],H=>simp only[wF,qAF]at H;exact⟨H.1.symm,H.2.symm⟩
 |[x,y],H=>
  have: ¬ (qV x=true/\qV y=true/\x.toNat<54):=λk=>h ⟨x,y,hl,k⟩
  simp only[wF,U5 this,qAF]at H;exact⟨H.1.symm,H.2.symm⟩
 |_::_::_::_,H=>simp only[wF,qAF]at H;exact⟨H.1.symm,H.2.symm⟩
theorem P7 {s:Φ} (h: ¬ ∃ x y,lK s x y) (h2:s.size=2) (h0:0<s.size) (h1:1<s.size):(((s[0]'h0).toNat:Int)<48∨(48<=((s[0]'h0).toNat:Int)/\53<((s[0]'h0).toNat:Int))∨
  ((48<=((s[0]'h0).toNat:Int)/\((s[0]'h0).toNat:Int)<=53)/\(((s[1]'h1).toNat:Int)<48∨(48<=((s[1]'h1).toNat:Int)/\57<((s[1]'h1).toNat:Int))))):=by
 have hx:=qw s 0 h0;have hy:=qw s 1 h1;have hlen:s.data.toList.length=2:=by simpa using h2
 match hl:s.data.toList,hlen with
 |[x,y],_=>
  simp only[hl,List.getElem_cons_zero,List.getElem_cons_succ]at hx hy;rw[<-hx,<-hy];have: ¬ ((48<=x.toNat/\x.toNat<=57)/\(48<=y.toNat/\y.toNat<=57)/\x.toNat<54):=λk=>h ⟨x,y,hl,(jg x).2 k.1,(jg y).2 k.2.1,k.2.2⟩
  omega
theorem Ro {s:Φ} {x y:UInt8} (h:lK s x y):s.size=2/\(∀ h0:0<s.size,(s[0]'h0)=x)/\(∀ h1:1<s.size,(s[1]'h1)=y):=by
 obtain⟨hl,_⟩:=h;have h2:s.size=2:=by
  have:s.data.toList.length=s.size:=σ
  rw[hl]at this;simpa using this.symm
 exact⟨h2,λh0=>by rw[<-qw s 0 h0];simp[hl],λh1=>by rw[<-qw s 1 h1];simp[hl]⟩
theorem J9 (s:Φ) (n:Int) (ok:Bool) (H:Hid (wF s.data.toList=(n,ok))) (w:World):
  Calls prog 279 #[s] w λe w'=>e=.returned (.tuple #[n,ok])/\Bl w w':=by
 rcases IY H.o with⟨x,y,ht,hn,rfl⟩|⟨ht,rfl,rfl⟩
 ·
  obtain⟨h2,ex,ey⟩:=Ro ht;have h0:0<s.size:=ω
  have h1:1<s.size:=ω
  have bx:=wV ht.2.1;have b_y:=wV ht.2.2.1;have b6:(x.toNat:Int)<=53:=by have:=ht.2.2.2;omega
  rw[<-ex h0]at bx b6;rw[<-ey h1]at b_y;have HT:=qA ht;have HN:=qA hn;have hs2:(s.size:Int)=2:=ω
  clear H ht hn ex ey h2;go_enter func279,ntmps279
  go_wp2_with (go_at_call 247;refine(Z5 s x y HT.o.1 HT.o.2.1 HT.o.2.2.1 _).mono ?_;rintro e w1 ⟨rfl,m1,rfl⟩)
  go_ret2;exact⟨wI (by rw[HN.o]),qM (qB _) _⟩
 clear H;by_cases h2:s.size=2
 ·
  have h0:0<s.size:=ω
  have h1:1<s.size:=ω
  have hs2:(s.size:Int)=2:=ω
  have hc:=P7 ht h2 h0 h1;clear ht h2;rcases hc with k|⟨k1,k2⟩|⟨⟨k1,k2⟩,k3|⟨k3,k4⟩⟩
  all_goals
   go_enter func279,ntmps279
   go_wp2;go_ret2;exact⟨rfl,qB _⟩
 have hs2: ¬ (s.size:Int)=2:=ω
 clear ht h2;go_enter func279,ntmps279
 go_wp2;go_ret2;exact⟨rfl,qB _⟩
theorem VG (s:Φ) (b:Bool) (H:Hid (zN s.data.toList=b)) (hs:s.size<=maxLen) (w:World):
  Calls prog 260 #[s] w λe w'=>e=.returned (b:Z)/\w=w':=by
 unfold maxLen at hs;obtain⟨p,hp,hd,hn⟩:=Vh (λ_ c=>qV c) s;have HD:=qA hd;have HN:=qA hn;have hcp:=qA (Zd s);clear hd hn;go_enter func260,ntmps260
 go_wp2;go_loop [3] (λi=> ∃ k:Nat,k<=p/\i=k) (λi=>s.size-(intOf i).toNat)
 case atStart=>exact⟨0,qAD _,rfl⟩
 obtain⟨k,hk,rfl⟩:=hrel;by_cases h1:k<p
 ·
  have hks:k<s.size:=ω
  have HO:=qA (HD.o k hks h1);go_wp2_with (go_at_call 257;refine(Ag _ true HO _).mono ?_;rintro e w1 ⟨rfl,rfl⟩)
  go_round;case rel=>exact⟨k+1,ω,by go_num⟩
  simp[intOf];omega
 obtain rfl:k=p:=ω
 by_cases h2:k<s.size
 ·
  have HO:=qA (HN.o h2);have HB:=qA (show b=false by
   rw[<-H.o,hcp.o];have:zC s.data.toList=false:=by
    rw[Bool.eq_false_iff,Ne,yt];intro q;have:=q k h2;rw[HO.o]at this;simp at this
   simp[this])
  go_wp2_with (go_at_call 257;refine(Ag _ false HO _).mono ?_;rintro e w1 ⟨rfl,rfl⟩)
  go_ret;exact⟨qO (by rw[HB.o]),rfl⟩
 have had:zC s.data.toList=true:=by
  rw[yt];intro j hj;exact HD.o j hj ω
 by_cases h0:s.size=0
 ·
  have HB:=qA (show b=false by rw[<-H.o,hcp.o];simp[h0]);have q1:((s.size:Int)==1)=false:=τ
  have q2:decide (1<(s.size:Int))=false:=decide_eq_false ω;clear hcp had;go_wp2;go_ret;exact⟨qO (by rw[HB.o]),rfl⟩
 have hps:0<s.size:=ω
 have HB:=qA (show b=(decide ((s[0]'hps).toNat≠48)||decide (s.size=1)) by rw[<-H.o,hcp.o,had,dif_pos hps];simp[h0]);clear hcp had;by_cases h3:s.size=1
 ·
  have HB2:=qA (show b=true by rw[HB.o];simp[h3]);have q1:((s.size:Int)==1)=true:=τ
  clear h3;go_wp2;go_ret;exact⟨qO (by rw[HB2.o]),rfl⟩
 have q1:((s.size:Int)==1)=false:=τ
 have q2:decide (1<(s.size:Int))=true:=decide_eq_true ω;have q3:(1:Int)<(s.size:Int):=ω
 by_cases h4:(s[0]'hps).toNat=48
 ·
  have HB2:=qA (show b=false by rw[HB.o];simp[h3,h4]);have q4:(((s[0]'hps).toNat:Int) != 48)=false:=by rw[bne_eq_false_iff_eq];omega
  clear h4 h3;go_wp2;go_ret;exact⟨qO (by rw[HB2.o]),rfl⟩
 have HB2:=qA (show b=true by rw[HB.o];simp[h4]);have q4:(((s[0]'hps).toNat:Int) != 48)=true:=by rw[bne_iff_ne];omega
 clear h4 h3;go_wp2;go_ret;exact⟨qO (by rw[HB2.o]),rfl⟩
theorem Zg (s p:Φ) (a:Ψ) (f:Bool) (Ha:Hid (Lib.trimSuffix s.data.toList p.data.toList=a)) (Hf:Hid (Lib.hasSuffix s.data.toList p.data.toList=f)) (hs:s.size<=9223372036854775807) (w:World):
  Calls prog 37 #[s,p] w λe w'=>e=.returned (.tuple #[qP a,f])/\w=w':=
 (strings_CutSuffix s p w hs).mono λ_ _ ⟨he,hw⟩=>⟨by rw[he,Ha.o,Hf.o],hw.symm⟩
theorem lY (s sep:Φ) (a b:Ψ) (f:Bool) (H:Hid (Lib.cut s.data.toList sep.data.toList=(a,b,f))) (m:Int) (w:World) (hs:s.size<4294967281) (hm:w.cell? (1,0)=some (m:Z)):
  Calls prog 288 #[s,sep] w λe w'=>e=.returned (.tuple #[qP a,qP b,f])/\ ∃ n,w.drewN n=w':=
 (strings_Cut s sep m w hs hm).mono λ_ _ ⟨he,n,hw⟩=>⟨by rw[he,H.o],n,hw.symm⟩
def Pe (w:World) (ls:List Ψ) (e:Ending) (w':World):Prop:=
 ∃ g:Nat,e=.returned (.tuple #[(g,0,ls.length,ls.length),true])/\g<w'.heap.size/\(∀ i,i<ls.length->w'.cell? ⟨g,i,none⟩=some (qP (ls.getD i [])))/\Bl w w'
theorem pX (l:Ψ):(Lib.trimSuffix l [115]).length<=l.length:=by
 unfold Lib.trimSuffix;split
 · rw[List.length_take];omega
 exact U3 _
theorem gI (l p:Ψ):(Lib.cut l p).1.length<=l.length:=by
 unfold Lib.cut;split
 · rw[List.length_take];omega
 exact U3 _
theorem uT (s:Φ) (H:Hid (yL s.data.toList=none)) (hs:s.size<=131072) (w:World):
  Calls prog 277 #[s] w λe w'=>e=.returned (.tuple #[(),false])/\Bl w w':=by
 have HF:Hid (Lib.hasSuffix s.data.toList [115]=false):=by
  have h:=H.o;unfold yL at h;show _=_
  rw[Bool.eq_false_iff];intro k;rw[U6 k]at h;split at h
  · split at h<;>simp at h
  simp at h
 go_enter func277,ntmps277
 go_wp2_with (go_at_call 37;refine(Zg s ⟨#[115]⟩ _ false rfl HF ω _).mono ?_;rintro e w1 ⟨rfl,rfl⟩)
 go_ret2;exact⟨rfl,qB _⟩
theorem gy (w w1:World) (hb:Bl w w1) (hz:w1.heap.size=w.heap.size) (ls:List Ψ) (T:TypeId) (c:Array Value) (hc:c=(ls.map qP).toArray) {fn:Func} {a:Act} (n:Nat) (hn:n=ls.length)
  (hr: ∀ W,(results fn a.tmps).run prog W=.ok (.tuple #[(w.heap.size,0,n,n),true]) W) (hd:a.defers=[]):
  bodyPost prog fn (Pe w ls) .ret a (w1.alloc (.cells c T)):=by
 subst hn;refine bodyPost_ret (v:=.tuple #[(w.heap.size,0,ls.length,ls.length),true]) (hr _) hd ⟨w.heap.size,rfl, ?_, ?_,qE hb _⟩
 ·
  show _<(w1.heap.push _).size
  rw[Array.size_push,hz];omega
 intro i hi;rw[Uy _ _ _ _ hz.symm,hc];simp[List.getD,hi]
theorem Ya (s:Φ) (ls:List Ψ) (H:Hid (yL s.data.toList=some ls)) (hs:s.size<=131072) (m:Int) (w:World) (hm:w.cell? (1,0)=some (m:Z)):
  Calls prog 277 #[s] w (Pe w ls):=by
 have hl:=pX s.data.toList;have hsz:s.data.toList.length=s.size:=σ
 obtain⟨u,hu⟩:=ε (Lib.trimSuffix s.data.toList [115]);obtain⟨a,b,f,hc⟩: ∃ a b f,Lib.cut u [109]=(a,b,f):=⟨_,_,_,rfl⟩;obtain⟨a',b',f',hc'⟩: ∃ x y z,Lib.cut a [104]=(x,y,z):=⟨_,_,_,rfl⟩;have hul:u.length<=131072:=by rw[<-hu];omega
 have hal:a.length<=131072:=by have:=gI u [109];rw[hc]at this;dsimp only at this;omega
 have HU:=qA hu;have HC:Hid (Lib.cut (ByteArray.mk u.toArray).data.toList (ByteArray.mk #[109]).data.toList=(a,b,f)):=by show _=_;exact hc
 have HC':Hid (Lib.cut (ByteArray.mk a.toArray).data.toList (ByteArray.mk #[104]).data.toList=(a',b',f')):=by show _=_;exact hc'
 have hus:(ByteArray.mk u.toArray).size<4294967281:=by show u.toArray.size<_;simp;omega
 have has:(ByteArray.mk a.toArray).size<4294967281:=by show a.toArray.size<_;simp;omega
 have h:=H.o;unfold yL at h;rw[hu,hc]at h;cases hf:Lib.hasSuffix s.data.toList [115]with
 |false=>rw[hf]at h;simp at h
 |true=>
  rw[U6 hf]at h;have HF:=qA hf;clear hf hu hsz hl;cases f with
  |false=>
   rw[U5 σ,qAA]at h;subst h;clear hc hc' HC' H;go_enter func277,ntmps277
   go_wp2_with (first
    |(go_at_call 37;refine(Zg s ⟨#[115]⟩ u true HU HF ω _).mono ?_;rintro e w1 ⟨rfl,rfl⟩)
    |(go_at_call 288;refine(lY _ ⟨#[109]⟩ a b false HC m _ hus hm).mono ?_;rintro e w1 ⟨rfl,n1,rfl⟩))
   exact gy w _ (qM (qB w) _) σ [u] _ _ rfl 1 rfl (λW=>by simp[results,results277,go_sem]) rfl
  |true=>
   rw[U6 rfl]at h;dsimp only at h
   rw[hc']at h;dsimp only at h
   have hm': ∀ n,(w.drewN n).cell? (1,0)=some (m:Z):=λn=>by rw[World.cell?_drewN];exact hm
   cases f' with
   |false=>
    rw[U5 σ,qAA]at h;subst h;clear hc hc' H;go_enter func277,ntmps277
    go_wp2_with fail;refine(Zg s ⟨#[115]⟩ u true HU HF ω _).mono ?_;rintro e w1 ⟨rfl,rfl⟩;clear HU HF;go_wp2_with fail;refine(lY _ ⟨#[109]⟩ a b true HC m _ hus hm).mono ?_;rintro e w1 ⟨rfl,n1,rfl⟩;clear HC;go_wp2_with fail;refine(lY _ ⟨#[104]⟩ a' b' false HC' m _ has (hm' _)).mono ?_;rintro e w1 ⟨rfl,n2,rfl⟩;clear HC';go_wp2;exact gy w _ (qM (qB w) _) σ [a,b] _ _ rfl 2 rfl (λW=>by simp[results,results277,go_sem]) rfl
   |true=>
    rw[U6 rfl,qAA]at h;subst h;clear hc hc' H;go_enter func277,ntmps277
    go_wp2_with fail;refine(Zg s ⟨#[115]⟩ u true HU HF ω _).mono ?_;rintro e w1 ⟨rfl,rfl⟩;clear HU HF;go_wp2_with fail;refine(lY _ ⟨#[109]⟩ a b true HC m _ hus hm).mono ?_;rintro e w1 ⟨rfl,n1,rfl⟩;clear HC;go_wp2_with fail;refine(lY _ ⟨#[104]⟩ a' b' true HC' m _ has (hm' _)).mono ?_;rintro e w1 ⟨rfl,n2,rfl⟩;clear HC';go_wp2;exact gy w _ (qM (qB w) _) σ [a',b',b] _ _ rfl 3 rfl (λW=>by simp[results,results277,go_sem]) rfl
theorem Xl (l:Ψ):0<=(xB l).1/\(xB l).1<=1000000:=by
 unfold xB;split
 · dsimp only;omega
 exact⟨Int.le_refl _,δ⟩
theorem Di (s:Φ) (H:Hid (yL s.data.toList=none)) (hs:s.size<=131072) (w:World):
  Calls prog 248 #[s] w λe w'=>e=.returned (.tuple #["",.int .i64 3])/\Bl w w':=by
 go_enter func248,ntmps248
 go_wp2_with fail;refine(uT s H hs w).mono ?_;rintro e w1 ⟨rfl,b1⟩;go_wp2;go_ret2;exact⟨rfl,b1⟩
theorem G7 (s:Φ) (a:Ψ) (H:Hid (yL s.data.toList=some [a])) (v:Int) (ok:Bool) (r e:Int) (HL:Hid (xB a=(v,ok))) (HS:Hid (bQ [a]=(r,e)))
   (hs:s.size<=131072) (hal:a.length<=131072) (m:Int) (w:World) (hm:w.cell? (1,0)=some (m:Z)):
    Calls prog 248 #[s] w λee w'=>ee=.returned (.tuple #[r,e])/\Bl w w':=by
  have HL0:=HL;have hb:=Xl a;rw[HL.o]at hb;have hS:=HS.o;unfold bQ at hS;dsimp only at hS hb
  rw[HL.o]at hS;dsimp only at hS
  go_enter func248,ntmps248
  go_wp2_with fail;refine(Ya s [a] H hs m w hm).mono ?_;rintro ee w1 ⟨g,rfl,hg,hc,b1⟩;have c0:w1.cell? (g,0)=some (qP a):=hc 0 σ;clear hc;simp only[U7,List.length_nil];have hsz:(ByteArray.mk a.toArray).size<=maxLen:=by show a.toArray.size<=_;unfold maxLen;simp;omega
  go_wp2_with fail;refine(Vk _ v ok (by show _=_;exact HL.o) hsz w1).mono ?_;rintro ee w2 ⟨rfl,b2⟩;have b3:=qF b1 b2;clear HL HL0 hsz HS H;cases ok with
  |false=>
    rw[U5 σ]at hS;obtain⟨rfl,rfl⟩:=qAE hS;clear hS;go_wp2;go_ret2;exact⟨rfl,b3⟩
  |true=>
    by_cases h59:v<=59
    · rw[U6 ⟨rfl,h59⟩]at hS
      obtain⟨rfl,rfl⟩:=qAE hS;clear hS;have q1:decide (59<v)=false:=decide_eq_false ω;have q2:(59<v)=False:=eq_false ω;go_wp2_with fail;refine wp_loop_rounds 1 ?_;rw[rounds_succ];go_wp2;go_ret2;exact⟨rfl,b3⟩
    · rw[U5 ω]at hS
      obtain⟨rfl,rfl⟩:=qAE hS;clear hS;have q1:decide (59<v)=true:=decide_eq_true ω;go_wp2;go_ret2;exact⟨rfl,b3⟩
theorem XZ (l:Ψ):0<=(wF l).1/\(wF l).1<=59:=by
 unfold wF;split
 ·
  split
  ·
   rename_i x y h;obtain⟨h1,h2,h3⟩:=h;have:=wV h1;have:=wV h2;unfold wH;dsimp only
   omega
  exact⟨Int.le_refl _,δ⟩
 exact⟨Int.le_refl _,δ⟩
theorem G8 (s:Φ) (a b:Ψ) (H:Hid (yL s.data.toList=some [a,b])) (v n:Int) (ok ok1:Bool) (r e:Int) (HL:Hid (xB a=(v,ok))) (HF:Hid (wF b=(n,ok1))) (HS:Hid (bQ [a,b]=(r,e)))
   (hs:s.size<=131072) (hal:a.length<=131072) (m:Int) (w:World) (hm:w.cell? (1,0)=some (m:Z)):
    Calls prog 248 #[s] w λee w'=>ee=.returned (.tuple #[r,e])/\Bl w w':=by
  have hb:=Xl a;have hf:=XZ b;rw[HL.o]at hb;rw[HF.o]at hf;have hS:=HS.o;unfold bQ at hS;dsimp only at hS hb hf
  rw[HL.o,HF.o]at hS;dsimp only at hS
  go_enter func248,ntmps248
  go_wp2_with fail;refine(Ya s [a,b] H hs m w hm).mono ?_;rintro ee w1 ⟨g,rfl,hg,hc,b1⟩;have c0:w1.cell? (g,0)=some (qP a):=hc 0 σ;have c1:w1.cell? (g,1)=some (qP b):=hc 1 σ;clear hc;simp only[U7,List.length_nil];have hsz:(ByteArray.mk a.toArray).size<=maxLen:=by show a.toArray.size<=_;unfold maxLen;simp;omega
  go_wp2_with fail;refine(Vk _ v ok (by show _=_;exact HL.o) hsz w1).mono ?_;rintro ee w2 ⟨rfl,b2⟩;have b3:=qF b1 b2;have c1':w2.cell? (g,1)=some (qP b):=by rw[(qG b2).1 g 1 hg];exact c1
  clear HL hsz HS H c0 c1;cases ok with
  |false=>
    rw[U5 σ]at hS;obtain⟨rfl,rfl⟩:=qAE hS;clear hS HF;go_wp2;go_ret2;exact⟨rfl,b3⟩
  |true=>
    by_cases h59:v<=59
    · have q1:decide (59<v)=false:=decide_eq_false ω
      have q2:(59<v)=False:=eq_false ω;by_cases h0:v=0
      · subst h0
        rw[U5 σ]at hS;obtain⟨rfl,rfl⟩:=qAE hS;clear hS HF;go_wp2;go_ret2;exact⟨rfl,b3⟩
      · have q3:(v==0)=false:=by rw[U0];exact h0
        have HV:=qA h59;have HV0:=qA h0;clear h59 h0;go_wp2_with fail;refine wp_loop_rounds 2 ?_;rw[rounds_succ];go_wp2_with fail;refine(J9 _ n ok1 (by show _=_;exact HF.o) w2).mono ?_;rintro ee w4 ⟨rfl,b4⟩;have b5:=qF b3 b4;clear HF;cases ok1 with
        |false=>
          rw[U5 σ]at hS;obtain⟨rfl,rfl⟩:=qAE hS;clear hS;go_wp2;go_ret2;exact⟨rfl,b5⟩
        |true=>
          rw[U6 ⟨σ,HV.o,HV0.o,σ⟩]at hS;obtain⟨rfl,rfl⟩:=qAE hS;clear hS;have E1:=IntWalk.i64_in (60*v) ω;have E2:=IntWalk.i64_in (60*v+n) (by have:=HV.o;omega);have q5:decide (359999<60*v+n)=false:=decide_eq_false (by have:=HV.o;omega);go_wp2_with fail;rw[rounds_succ];go_wp2;go_ret2;exact⟨rfl,b5⟩
    · rw[U5 ω]at hS
      obtain⟨rfl,rfl⟩:=qAE hS;clear hS HF;have q1:decide (59<v)=true:=decide_eq_true ω;go_wp2;go_ret2;exact⟨rfl,b3⟩
theorem uX (s:Φ) (a b c:Ψ) (H:Hid (yL s.data.toList=some [a,b,c])) (v n k:Int) (ok ok1 ok2:Bool) (r e:Int) (HL:Hid (xB a=(v,ok))) (HF:Hid (wF b=(n,ok1))) (HG:Hid (wF c=(k,ok2))) (HS:Hid (bQ [a,b,c]=(r,e)))
   (hs:s.size<=131072) (hal:a.length<=131072) (m:Int) (w:World) (hm:w.cell? (1,0)=some (m:Z)):
    Calls prog 248 #[s] w λee w'=>ee=.returned (.tuple #[r,e])/\Bl w w':=by
  have hb:=Xl a;have hf:=XZ b;have hk:=XZ c;rw[HL.o]at hb;rw[HF.o]at hf;rw[HG.o]at hk;have hS:=HS.o;unfold bQ at hS;dsimp only at hS hb hf hk
  rw[HL.o,HF.o,HG.o]at hS;dsimp only at hS
  go_enter func248,ntmps248
  go_wp2_with fail;refine(Ya s [a,b,c] H hs m w hm).mono ?_;rintro ee w1 ⟨g,rfl,hg,hc,b1⟩;have c0:w1.cell? (g,0)=some (qP a):=hc 0 σ;have c1:w1.cell? (g,1)=some (qP b):=hc 1 σ;have c2:w1.cell? (g,2)=some (qP c):=hc 2 σ;clear hc;simp only[U7,List.length_nil];have hsz:(ByteArray.mk a.toArray).size<=maxLen:=by show a.toArray.size<=_;unfold maxLen;simp;omega
  go_wp2_with fail;refine(Vk _ v ok (by show _=_;exact HL.o) hsz w1).mono ?_;rintro ee w2 ⟨rfl,b2⟩;have b3:=qF b1 b2;have c1':w2.cell? (g,1)=some (qP b):=by rw[(qG b2).1 g 1 hg];exact c1
  have c2':w2.cell? (g,2)=some (qP c):=by rw[(qG b2).1 g 2 hg];exact c2
  have hg2:g<w2.heap.size:=Nat.lt_of_lt_of_le hg b2.size;clear HL hsz HS H c0 c1 c2;cases ok with
  |false=>
    rw[U5 σ]at hS;obtain⟨rfl,rfl⟩:=qAE hS;clear hS HF HG;go_wp2;go_ret2;exact⟨rfl,b3⟩
  |true=>
    by_cases h0:v=0
    · subst h0
      rw[U5 σ]at hS;obtain⟨rfl,rfl⟩:=qAE hS;clear hS HF HG;go_wp2;go_ret2;exact⟨rfl,b3⟩
    · have q3:(v==0)=false:=by rw[U0];exact h0
      have HV0:=qA h0;clear h0;go_wp2_with fail;refine wp_loop_rounds 3 ?_;rw[rounds_succ];go_wp2_with fail;refine(J9 _ n ok1 (by show _=_;exact HF.o) w2).mono ?_;rintro ee w4 ⟨rfl,b4⟩;have b5:=qF b3 b4;have c2'':w4.cell? (g,2)=some (qP c):=by rw[(qG b4).1 g 2 hg2];exact c2'
      clear HF;cases ok1 with
      |false=>
        rw[U5 σ]at hS;obtain⟨rfl,rfl⟩:=qAE hS;clear hS HG;go_wp2;go_ret2;exact⟨rfl,b5⟩
      |true=>
        have E1:=IntWalk.i64_in (60*v) ω;have E2:=IntWalk.i64_in (60*v+n) ω;go_wp2_with fail;rw[rounds_succ];go_wp2_with fail;refine(J9 _ k ok2 (by show _=_;exact HG.o) w4).mono ?_;rintro ee w5 ⟨rfl,b6⟩;have b7:=qF b5 b6;clear HG;cases ok2 with
        |false=>
          rw[U5 σ]at hS;obtain⟨rfl,rfl⟩:=qAE hS;clear hS;go_wp2;go_ret2;exact⟨rfl,b7⟩
        |true=>
          rw[U6 ⟨σ,HV0.o,σ,σ⟩]at hS;have E3:=IntWalk.i64_in (60*(60*v+n)) ω;have E4:=IntWalk.i64_in (60*(60*v+n)+k) ω;go_wp2_with fail;rw[rounds_succ];by_cases ht:60*(60*v+n)+k<=359999
          · rw[U6 ht]at hS
            obtain⟨rfl,rfl⟩:=qAE hS;have q5:decide (359999<60*(60*v+n)+k)=false:=decide_eq_false ω;clear hS ht;go_wp2;go_ret2;exact⟨rfl,b7⟩
          · rw[U5 ht]at hS
            obtain⟨rfl,rfl⟩:=qAE hS;have q5:decide (359999<60*(60*v+n)+k)=true:=decide_eq_true ω;clear hS ht;go_wp2;go_ret2;exact⟨rfl,b7⟩
theorem KP {l a:Ψ} {t:List Ψ} (h:yL l=some (a::t)):a.length<=l.length:=by
 have hu:=pX l;have h1:=gI (Lib.trimSuffix l [115]) [109];have h2:=gI (Lib.cut (Lib.trimSuffix l [115]) [109]).1 [104];unfold yL at h;split at h
 ·
  split at h
  ·
   split at h
   · obtain⟨rfl,_⟩:=List.cons.inj (qAB h);omega
   obtain⟨rfl,_⟩:=List.cons.inj (qAB h);omega
  obtain⟨rfl,_⟩:=List.cons.inj (qAB h);omega
 simp at h
theorem Ox (s:Φ) (r e:Int) (H:Hid (wE s.data.toList=(r,e))) (hs:s.size<=131072) (m:Int) (w:World) (hm:w.cell? (1,0)=some (m:Z)):
  Calls prog 248 #[s] w λee w'=>ee=.returned (.tuple #[r,e])/\Bl w w':=by
 have h:=H.o;unfold wE at h;have hsz:s.data.toList.length=s.size:=σ
 rcases iD s.data.toList with k|⟨a,k⟩|⟨a,b,k⟩|⟨a,b,c,k⟩
 ·
  rw[k]at h;obtain⟨rfl,rfl⟩:=qAE h;exact Di s k hs w
 ·
  rw[k]at h;exact G7 s a k _ _ r e rfl h hs (by have:=KP k;omega) m w hm
 ·
  rw[k]at h;exact G8 s a b k _ _ _ _ r e rfl rfl h hs (by have:=KP k;omega) m w hm
 rw[k]at h;exact uX s a b c k _ _ _ _ _ _ r e rfl rfl rfl h hs (by have:=KP k;omega) m w hm
