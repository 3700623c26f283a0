/- Contracts, proved. Conditions: theirs. -/
import Derived.Test.YtakedkcjplfgeaaGreatDoorRows
import Derived.Test.YtakedkcjplfgeaaGreatDoorMPkShelf
import Derived.Test.YtakedkcjplfgeaaGreatDoorMPkBase
import Derived.Test.YtakedkcjplfgeaaGreatDoorMPkPlain
import Derived.WalkSpells
import Derived.WalkLawsBesides
import Derived.Lib.SmallJoins
import Derived.BigQuiet
import Derived.Deep.RegionHeld3
import Derived.Deep.AppendLies
import Derived.Deep.DeepCutAuto
set_option maxRecDepth 1000000
set_option maxHeartbeats 32000000
open Go.Proofs.Tryz
namespace Go.Proofs.YtakedkcjplfgeaaGreatDoor
open Go.RowKit
open Fld
theorem qR {k:IntKind} {a b:Int} (h:a=b):Ending.returned (.int k a)=.returned (.int k b):=by rw[h]
theorem qO {a b:Bool} (h:a=b):Ending.returned (a:Z)=.returned (b:Z):=by rw[h]
abbrev qP (l:Ψ):Value:=.string ⟨l.toArray⟩
theorem qw (s:Φ) (k:Nat) (h:k<s.size):s.data.toList[k]'η=s[k]'h:=by simp;rfl
theorem bytes_get? (s:Φ) (k:Nat) (h:k<s.size):s.data.toList[k]? =some (s[k]'h):=by rw[U2 η,qw s k h]
theorem wK {s:Φ} (h:s.size=0):s.toList=[]:=by
 rw[ByteArray.toList_eq];exact List.length_eq_zero_iff.1 η
theorem jG {s:Φ} (h: ¬ s.size=0): ¬ s.toList=[]:=by
 rw[ByteArray.toList_eq];intro e;exact h (by simpa using congrArg List.length e)
theorem jQ {s:Φ} (h: ¬ s.size=0):s.toList.isEmpty=false:=by
 have:=jG h;simpa using this
theorem sS (s:Φ): ∃ p:Nat,p<=s.size/\(∀ k (h:k<s.size),k<p->Qi (s[k]'h)=false)/\ ∀ h:p<s.size,Qi (s[p]'h)=true:=by
 suffices H: ∀ n,n<=s.size->(∀ k (h:k<s.size),k<s.size-n->Qi (s[k]'h)=false)-> ∃ p:Nat,p<=s.size/\(∀ k (h:k<s.size),k<p->Qi (s[k]'h)=false)/\ ∀ h:p<s.size,Qi (s[p]'h)=true from
  H s.size (U3 _) (λk h hk=>ω)
 intro n;induction n with
 |zero=>intro _ h;exact⟨s.size,U3 _,λk hk _=>h k hk ω,λh=>absurd h ω⟩
 |succ n ih=>
  intro hn h;by_cases hd:Qi (s[s.size-(n+1)]'ω)=false
  ·
   refine ih ω λk hk hlt=>?_
   by_cases e:k=s.size-(n+1)
   · subst e;exact hd
   exact h k hk ω
  exact⟨s.size-(n+1),ω,h,λ_=>by simpa using hd⟩
theorem iP {s:Φ} {p:Nat} (h:p<s.size) (hp:Qi (s[p]'h)=true):jq s.data.toList=false:=by
 have:s.data.toList.any Qi=true:=List.any_eq_true.2 ⟨_,Uz (bytes_get? s p h),hp⟩;unfold jq;rw[this];rfl
theorem uZ {s:Φ} (h: ∀ k (h:k<s.size),Qi (s[k]'h)=false):jq s.data.toList=if h0:0<s.size then(!((s[0]'h0).toNat==32)&& !((s[s.size-1]'ω).toNat==32))else false:=by
 have:s.data.toList.any Qi=false:=by
  rw[List.any_eq_false];intro b hb;obtain⟨k,hk,rfl⟩:=List.getElem_of_mem hb;have hk':k<s.size:=by simpa using hk
  rw[qw s k hk',h k hk'];decide
 unfold jq;rw[this];split
 ·
  rename_i h0;have hl:s.data.toList.length=s.size:=σ
  have hne:s.data.toList≠[]:=λe=>by rw[e]at hl;simp at hl;omega
  have h1:s.data.toList.head?=some (s[0]'h0):=by rw[List.head?_eq_getElem?];exact bytes_get? s 0 h0
  have h2:s.data.toList.getLast?=some (s[s.size-1]'ω):=by rw[List.getLast?_eq_getElem?,hl];exact bytes_get? s _ ω
  have h32: ∀ b:UInt8,((some b:Option UInt8)==some 32)=(b.toNat==32):=by
   intro b;by_cases e:b=32
   · subst e;rfl
   have: ¬ b.toNat=32:=λk=>e (UInt8.toNat.inj (by simpa using k))
   rw[show(b.toNat==32)=false by simpa using this];simpa using e
  rw[h1,h2,h32,h32];rw[show s.data.toList.isEmpty=false by simpa[List.isEmpty_iff]using hne];rfl
 have hs:s.data.toList=[]:=List.length_eq_zero_iff.1 (by rw[Array.length_toList];show s.size=0;omega);rw[hs];rfl
theorem lq (s:Φ) (pos:Nat) (h:pos<s.size) (ha:128<=(s[pos]'h).toNat):pos+(Utf8.decode s pos).2<=s.size/\ ∀ k (hk:k<s.size),pos<=k->k<pos+(Utf8.decode s pos).2->128<=(s[k]'hk).toNat:=by
 have g: ∀ k (hk:k<s.size),s.get! k=s[k]'hk:=λk hk=>get_at s k hk
 have g0:=g pos h;obtain⟨b0,e0⟩: ∃ b,b=(s.get! pos).toNat:=⟨_,rfl⟩;obtain⟨b1,e1⟩: ∃ b,b=(s.get! (pos+1)).toNat:=⟨_,rfl⟩;obtain⟨b2,e2⟩: ∃ b,b=(s.get! (pos+2)).toNat:=⟨_,rfl⟩;obtain⟨b3,e3⟩: ∃ b,b=(s.get! (pos+3)).toNat:=⟨_,rfl⟩;rw[Lib.decode_at,<-e0,<-e1,<-e2,<-e3];rw[<-g pos h,<-e0]at ha;have K:(Lib.decodeN (s.size-pos) b0 b1 b2 b3).2=1∨(Lib.decodeN (s.size-pos) b0 b1 b2 b3).2=2/\1<s.size-pos/\128<=b1∨(Lib.decodeN (s.size-pos) b0 b1 b2 b3).2=3/\2<s.size-pos/\128<=b1/\128<=b2∨(Lib.decodeN (s.size-pos) b0 b1 b2 b3).2=4/\3<s.size-pos/\128<=b1/\128<=b2/\128<=b3:=by
  unfold Lib.decodeN;repeat' split
  all_goals first|exact .inl rfl|exact .inr (.inl ⟨rfl,ω,ω⟩)|exact .inr (.inr (.inl ⟨rfl,ω,ω,ω⟩))|exact .inr (.inr (.inr ⟨rfl,ω,ω,ω,ω⟩))
 have at0: ∀ k (hk:k<s.size),k=pos->128<=(s[k]'hk).toNat:=λk hk e=>by subst e;rw[<-g k hk,<-e0];exact ha
 have at1:128<=b1-> ∀ k (hk:k<s.size),k=pos+1->128<=(s[k]'hk).toNat:=λhb k hk e=>by subst e;rw[<-g _ hk,<-e1];exact hb
 have at2:128<=b2-> ∀ k (hk:k<s.size),k=pos+2->128<=(s[k]'hk).toNat:=λhb k hk e=>by subst e;rw[<-g _ hk,<-e2];exact hb
 have at3:128<=b3-> ∀ k (hk:k<s.size),k=pos+3->128<=(s[k]'hk).toNat:=λhb k hk e=>by subst e;rw[<-g _ hk,<-e3];exact hb
 rcases K with K|⟨K,n1,c1⟩|⟨K,n1,c1,c2⟩|⟨K,n1,c1,c2,c3⟩
 all_goals
  rw[K];refine⟨ω,λk hk h1 h2=>?_⟩;by_cases i0:k=pos
  · exact at0 k hk i0
  first
  |(exfalso;omega)
  |
   by_cases i1:k=pos+1
   · exact at1 c1 k hk i1
   first
   |(exfalso;omega)
   |
    by_cases i2:k=pos+2
    · exact at2 c2 k hk i2
    first
    |(exfalso;omega)
    |exact at3 c3 k hk ω
def eu (n:Nat):Bool:=n==44||(n==34||(n==92||(decide (n<32)||n==127)))
theorem Wu (b:UInt8):Qi b=eu b.toNat:=rfl
theorem Vs {n:Nat} (h:128<=n):eu n=false:=by
 unfold eu;simp
 omega
theorem fA (n:Nat) (hn:n<=2147483647) (w:World):
  Calls prog 239 #[.int .i32 n] w λe w'=>e=.returned (.bool (eu n))/\w=w':=by
 go_enter func239,ntmps239
 go_wp2;all_goals
  go_ret;refine⟨qO ?_,rfl⟩;rw[Bool.eq_iff_iff];simp[eu]
  omega
theorem Nj (n:Nat):((n:Int) != 32)= !(n==32):=by
 have e1:((n:Int)==32)=(n==32):=by
  rw[Bool.eq_iff_iff,beq_iff_eq,beq_iff_eq];omega
 show(!((n:Int)==32))=_
 rw[e1]
theorem xP {B:Nat} {w0 w:World} (h:Below B w0 w) (hB:B<=w.heap.size) (s:Φ) (pos:Nat):Below B w0 (w.iter s pos):=h.alloc hB _
theorem VG (s:Φ) (hs:s.size<=maxLen) (w:World):
  Calls prog 182 #[s] w λe w'=>e=.returned (.bool (jq s.data.toList))/\Bl w w':=by
 unfold maxLen at hs;obtain⟨p,hp,hd,hn⟩:=sS s;have HD:=qA hd;have HN:=qA hn;clear hd hn;go_enter func182,ntmps182
 go_wp2;go_loopw [4] (λ_ w'=> ∃ pos:Nat,pos<=p/\w'=w.iter s pos) (λ_ w'=>s.size-w'.iterPos w.heap.size)
 case atStart=>exact⟨0,qAD _,rfl⟩
 obtain⟨pos,hpos,rfl⟩:=hrel;by_cases h1:pos<p
 ·
  have hps:pos<s.size:=ω
  have HS:=qA (HD.o pos hps h1);obtain⟨r,wd,hr,hwd,hr1,hsp,hle⟩: ∃ r wd:Nat,(Utf8.decode s pos)=(r,wd)/\1<=wd/\r<=2147483647/\eu r=false/\pos+wd<=p:=by
   refine⟨(Utf8.decode s pos).1,(Utf8.decode s pos).2,Prod.eta _ |>.symm, ?_,decode_le s pos, ?_, ?_⟩
   ·
    by_cases h3:(s[pos]'hps).toNat<128
    · rw[decode_ascii s pos hps h3];exact U3 1
    exact(decode_high s pos hps ω).2
   ·
    by_cases h3:(s[pos]'hps).toNat<128
    · rw[decode_ascii s pos hps h3];exact(Wu _).symm.trans HS.o
    exact Vs (decode_high s pos hps ω).1
   by_cases h3:(s[pos]'hps).toNat<128
   · rw[decode_ascii s pos hps h3];exact h1
   obtain⟨k1,k2⟩:=lq s pos hps ω;rcases Nat.lt_or_ge p (pos+(Utf8.decode s pos).2)with hlt|hge
   ·
    exfalso
    have hps':p<s.size:=ω
    have a:=HN.o hps';rw[Wu,Vs (k2 p hps' ω hlt)]at a;cases a
   exact hge
  have hnx: ∀ ty,(Instr.next ((w.heap.size,0):Z) true ty).run prog (w.iter s pos)=_:=λty=>run_next_any w s pos ty hps
  simp only[hr]at hnx;have HP:=qA hsp;clear hsp hr;go_wp2_with (go_at_call 239;refine(fA r hr1 _).mono ?_)
  rintro e w' ⟨rfl,rfl⟩;rw[HP.o];go_wp2;go_roundw;case rel=>exact⟨pos+wd,ω,rfl⟩
  simp;omega
 obtain rfl:pos=p:=ω
 by_cases h2:pos<s.size
 ·
  have hnd:=HN.o h2;have HF:=qA (iP h2 hnd);have h3:(s[pos]'h2).toNat<128:=by
   rcases Nat.lt_or_ge (s[pos]'h2).toNat 128 with h|h
   · exact h
   rw[Wu,Vs h]at hnd;cases hnd
  have hnx: ∀ ty,(Instr.next ((w.heap.size,0):Z) true ty).run prog (w.iter s pos)=_:=λty=>run_next_ascii w s pos ty h2 h3
  have HP:=qA ((Wu _).symm.trans hnd);clear hnd;go_wp2_with (go_at_call 239;refine(fA (s[pos]'h2).toNat ω _).mono ?_)
  rintro e w' ⟨rfl,rfl⟩;rw[HP.o];go_wp2;go_ret;exact⟨qO HF.o.symm,yT (qB _) _ _⟩
 have hnx: ∀ ty,(Instr.next ((w.heap.size,0):Z) true ty).run prog (w.iter s pos)=_:=λty=>run_next_end w s pos ty h2
 have had:=uZ (s:=s) (λk hk=>HD.o k hk ω);by_cases h0:s.size=0
 ·
  have hs:s.toList=[]:=wK h0;have HF:=qA (show jq s.data.toList=false by rw[had,dif_neg ω]);clear had;go_wp2;go_ret;exact⟨qO HF.o.symm,yT (qB _) _ _⟩
 have hps:0<s.size:=ω
 have HF:=qA (show jq s.data.toList=(!((s[0]'hps).toNat==32)&& !((s[s.size-1]'ω).toNat==32)) by rw[had,dif_pos hps]);have hne:=jG h0;have hne':=jQ h0;clear had;by_cases h4:((s[0]'hps).toNat:Int)=32
 ·
  have h6:((s[0]'hps).toNat==32)=true:=by rw[beq_iff_eq];omega
  have HG:=qA (show jq s.data.toList=false by rw[HF.o,h6];rfl);clear h6;go_wp2;go_ret;exact⟨qO HG.o.symm,yT (qB _) _ _⟩
 go_wp2;go_ret;exact⟨qO (by rw[HF.o,<-Nj,<-Nj]),yT (qB _) _ _⟩
theorem Yu (b o c:Nat) (x y:Ψ) (w:World) (hx:w.cell? (b,o)=some (qP x)) (hy:w.cell? (b,o+1)=some (qP y)) (hb:b<w.heap.size) (hc:2<=c) (hl:x.length+y.length<=140737488355328):
  Calls prog 210 #[(b,o,2,c)] w λe w'=>e=.returned (qP (x++y))/\Bl w w':=by
 have hj:=strings_Join b o c [⟨x.toArray⟩,⟨y.toArray⟩] ⟨#[]⟩ w (by
  intro j z hz;match j,hz with
  |0,hz=>cases hz;exact hx
  |1,hz=>cases hz;exact hy) hb σ hc (by simpa[Lib.join]using hl)
 have HE:=qA (show(Lib.join ([(⟨x.toArray⟩:Φ),⟨y.toArray⟩].map (·.data.toList)) (⟨#[]⟩:Φ).data.toList)=x++y by simp[Lib.join]);rw[HE.o]at hj;go_enter func210,ntmps210
 go_wp2_with (go_at_call 263;refine hj.mono ?_)
 rintro e w' rfl hb';go_wp2;go_ret;exact⟨rfl,hb'⟩
theorem vk:(prog.info? 5).map (λi=>(i.zero,i.size,i.bytes))=some (some (.int .u8 0),1,1):=κ
def xO (B:Nat) (v:Value) (l:Ψ) (w:World):Prop:=w.ownsRow B 5 1 v l.length (Lib.byteCells l)
theorem Xw (B:Nat) (w:World):xO B () [] w:=World.ownsRow_nil w B _ 1
theorem kQ {B:Nat} {v:Value} {l:Ψ} {w:World} (h:xO B v l w) (o:Obj):xO B v l (w.alloc o):=World.ownsRow.alloc h o
theorem QW (l:Ψ):(Lib.byteCells l).length=l.length:=by simp[Lib.byteCells]
theorem vg (a b:Ψ):Lib.byteCells (a++b)=Lib.byteCells a++Lib.byteCells b:=by simp[Lib.byteCells]
theorem YG {B:Nat} {v:Value} {l:Ψ} {w:World} (h:xO B v l w):(convert 140 9 v).run prog w=.ok (qP l) w:=by
 have h':=h;rcases h.2 with⟨rfl,h0⟩|⟨g,cap,cur,rfl,hg,hb,hn,hc,hs,ht⟩
 ·
  obtain rfl:l=[]:=List.length_eq_zero_iff.1 h0;exact run_convert_bytes_nil w 140 5 underlying140 underlying5 0 0 9 underlying9
 refine run_convert_bytes_back w 140 9 5 (g,0) cap l underlying140 underlying5 underlying9 ?_;intro j hj;exact World.ownsRow.cells h' rfl j _ (by simp[Lib.byteCells,hj])
theorem Xy {B:Nat} {v:Value} {l:Ψ} {w:World} (h:xO B v l w): ∃ a c,v=.slice a l.length c:=by
 rcases h.2 with⟨rfl,h0⟩|⟨g,cap,cur,rfl,_⟩
 · exact⟨_,_,by rw[h0]⟩
 exact⟨_,_,rfl⟩
theorem zl {w:World} {T:TypeId} {C:Array Value} (news:List Value) (h: ∀ (j:Nat) (u:Value),news[j]? =some u->C[j]? =some u): ∀ (j:Nat) (u:Value),news[j]? =some u->(w.alloc (.cells C T)).cell? (((w.heap.size,0):Addr).add j)=some u:=by
 intro j u hj;have:(((w.heap.size,0):Addr).add j)=((w.heap.size,j):A):=by simp[Addr.add];omega
 rw[this,Uy (hn:=rfl),h j u hj]
theorem Gw (B:Nat) (w:World) (hB:B<=w.heap.size) (l:Ψ) (C:Array Value) (hC:C.toList=Lib.byteCells l) (n:Nat) (hn:n=l.length) (h1:n<=1000):xO B ((w.heap.size,0,n,n):Z) l (w.alloc (.cells C 5)):=by
 have hsz:C.size=l.length:=by rw[<-Array.length_toList,hC,QW]
 refine⟨by rw[QW,Nat.mul_one],.inr ⟨w.heap.size,n,C,by rw[hn],hB, ?_,ω,ζ,ω, ?_⟩⟩
 · exact heap_alloc_new w _
 rw[hC,U9 (by rw[QW];omega)]
theorem ZO {B:Nat} {v':Value} {l m:Ψ} {w:World} (h:w.ownsRow B 5 1 v' (l.length+m.length) (Lib.byteCells l++Lib.byteCells m)):xO B v' (l++m) w:=by
 unfold xO;rw[vg,U1];exact h
theorem tJ (l:Ψ) (b:UInt8):jR (l++[b])=jR l++xR b:=by simp[jR]
theorem tK {s:Φ} {k:Nat} (h:k<s.size):jR (s.data.toList.take (k+1))=jR (s.data.toList.take k)++xR (s[k]'h):=by
 rw[List.take_succ_eq_append_getElem η,tJ,qw s k h]
theorem XR (b:UInt8):(xR b).length<=4:=by
 unfold xR;split
 · simp
 split<;>simp
theorem xe: ∀ l:Ψ,(jR l).length<=4*l.length
 |[]=>by simp[jR]
 |b::l=>by
  have e:jR (b::l)=xR b++jR l:=by simp[jR]
  have:=XR b;have:=xe l;rw[e,U1,U7];omega
theorem Xi (s:Φ) (k:Nat) (_h:k<=s.size):(jR (s.data.toList.take k)).length<=4*k:=by
 refine Ux (xe _) ?_;rw[List.length_take];omega
theorem FV {b:UInt8} (h:b.toNat=34∨b.toNat=92):xR b=[92,b]:=by
 unfold xR;rw[U6 η]
theorem OI {b:UInt8} (h1: ¬ b.toNat=34) (h2: ¬ b.toNat=92) (h:Ey b=true):xR b=[92,120,KE (b.toNat / 16),KE (b.toNat%16)]:=by
 unfold xR;rw[U5 (by simp[h1,h2]),U6 h]
theorem OH {b:UInt8} (h1: ¬ b.toNat=34) (h2: ¬ b.toNat=92) (h:Ey b=false):xR b=[b]:=by
 unfold xR;rw[U5 (by simp[h1,h2]),U5 (by rw[h];decide)]
theorem Nr (b:UInt8) (n:Nat) (h:b.toNat=n):b=UInt8.ofNat n:=by rw[<-h,UInt8.ofNat_toNat]
theorem dG (n:Nat) (z:Int) (hz:z=n) (hn:n<16) (W:World):(Instr.index 9 (.string ⟨#[48,49,50,51,52,53,54,55,56,57,97,98,99,100,101,102]⟩) (.int .u8 z)).run prog W=.ok (.int .u8 (KE n).toNat) W:=by
 subst hz;rw[run_index_string W _ _ _ _ underlying9,dif_pos ⟨ω,by show(n:Int)<16;omega⟩];match n,hn with
 |0,_|1,_|2,_|3,_|4,_|5,_|6,_|7,_|8,_|9,_|10,_|11,_|12,_|13,_|14,_|15,_=>rfl
 |k+16,h=>omega
theorem Ad (b:UInt8):((b.toNat:Int)<32∨(b.toNat:Int)=127)↔Ey b=true:=by
 unfold Ey;simp
 omega
theorem Bc (s:Φ) (q:Ψ) (H:Hid (zg s.data.toList=q)) (hs:s.size<=34359738368) (w:World):
  Calls prog 184 #[.string s] w λe w'=>e= .returned (qP q)/\Bl w w':=by
 obtain⟨i0,hi,hz0,hz1,hz2⟩:=info_parts vk;obtain⟨p,hp⟩:=ε (jq s.data.toList);have HP:=qA hp;clear hp;go_enter func184,ntmps184
 go_wp2_with (go_at_call 182;refine(VG s ζ _).mono ?_)
 rintro e w1 ⟨rfl,b1⟩;rw[HP.o];cases p with
 |true=>
  have HF:=qA ((xm HP.o).symm.trans H.o);go_wp2;go_ret;exact⟨by rw[<-HF.o];rfl,b1⟩
 |false=>
  have HF:=qA ((JM HP.o).symm.trans H.o);go_wp2_with fail;have b2:Bl w (w1.alloc (.cells #[.int .u8 34] 5)):=qE b1 _;have o2:xO w.heap.size (.slice (some ⟨w1.heap.size,0,none⟩) 1 1) [34] (w1.alloc (.cells #[.int .u8 34] 5)):=Gw _ _ b1.size _ _ rfl 1 rfl ω;generalize hw2:w1.alloc (.cells #[.int .u8 34] 5)=w2 at b2 o2
  have B2:=qA b2;have O2:=qA o2;clear b2 o2 hw2 b1;go_loopw [3,12] (λvo i wr=> ∃ k:Nat,k<=s.size/\i= .int .i64 k/\Hid (xO w.heap.size vo (34::jR (s.data.toList.take k)) wr)/\Hid (Bl w wr)) (λ_ i _=>s.size-(intOf i).toNat)
  case atStart=>exact⟨0,qAD _,rfl,O2,B2⟩
  obtain⟨k,hk,rfl,HO,HB⟩:=hrel;by_cases hlt:k<s.size
  ·
   have HT:=qA (tK hlt);have HL:=Xi s k hk;by_cases hq:((s[k]'hlt).toNat:Int)=34
   ·
    have HE:=qA (show xR (s[k]'hlt)=[92,34] by rw[FV ω,Nr (s[k]'hlt) 34 ω];rfl);go_wp2_with (at_builtin;refine wpList_append_own _ rfl _ _ 140 rfl w.heap.size 5 i0 (.int .u8 0) 1 1 underlying140 hi hz0 hz1 hz2 rfl δ _ _ _ rfl (kQ HO.o _) ⟨wr.heap.size,0,none⟩ 2 2 [.int .u8 92, .int .u8 34] rfl rfl ?c1 ?c2 ?c3 ?c4 ?c5 ?_)
    case c1=>exact zl _ (λj u h=>η)
    case c2=>simp[Value.oneCell']
    case c3=>unfold maxLen;rw[U7];omega
    case c4=>rw[U7];omega
    case c5=>have:=HB.o.size;simp;omega
    intro v' w3 hown3 hgrow3 _;have O3:=qA (ZO (m:=[92,34]) hown3);have B3:Hid (Bl w w3):=(HB.o.alloc HB.o.size _).grown hgrow3 (by have:=HB.o.size;simp;omega) (λk hk=>(qAG HO.o k hk).1);clear hown3 hgrow3;go_wp2;go_roundw;case rel=>exact⟨k+1,ω,by go_num,by have:=O3.o;rw[HT.o,HE.o];exact this,B3⟩
    simp[intOf];omega
   by_cases hq2:((s[k]'hlt).toNat:Int)=92
   ·
    have HE:=qA (show xR (s[k]'hlt)=[92,92] by rw[FV ω,Nr (s[k]'hlt) 92 ω];rfl);go_wp2_with (at_builtin;refine wpList_append_own _ rfl _ _ 140 rfl w.heap.size 5 i0 (.int .u8 0) 1 1 underlying140 hi hz0 hz1 hz2 rfl δ _ _ _ rfl (kQ HO.o _) ⟨wr.heap.size,0,none⟩ 2 2 [.int .u8 92, .int .u8 92] rfl rfl ?c1 ?c2 ?c3 ?c4 ?c5 ?_)
    case c1=>exact zl _ (λj u h=>η)
    case c2=>simp[Value.oneCell']
    case c3=>unfold maxLen;rw[U7];omega
    case c4=>rw[U7];omega
    case c5=>have:=HB.o.size;simp;omega
    intro v' w3 hown3 hgrow3 _;have O3:=qA (ZO (m:=[92,92]) hown3);have B3:Hid (Bl w w3):=(HB.o.alloc HB.o.size _).grown hgrow3 (by have:=HB.o.size;simp;omega) (λk hk=>(qAG HO.o k hk).1);clear hown3 hgrow3;go_wp2;go_roundw;case rel=>exact⟨k+1,ω,by go_num,by have:=O3.o;rw[HT.o,HE.o];exact this,B3⟩
    simp[intOf];omega
   have f1:(((s[k]'hlt).toNat:Int)==34)=false:=by rw[U0];exact hq
   have f2:(((s[k]'hlt).toNat:Int)==92)=false:=by rw[U0];exact hq2
   by_cases hc:((s[k]'hlt).toNat:Int)<32∨((s[k]'hlt).toNat:Int)=127
   ·
    have hbl:(s[k]'hlt).toNat<256:=rD _;have HE:=qA (OI (b:=s[k]'hlt) ω ω ((Ad _).1 hc));have hd1:=λW=>dG ((s[k]'hlt).toNat / 16) (((s[k]'hlt).toNat:Int) / 16) ω ω W
    have hd2:=λW=>dG ((s[k]'hlt).toNat%16) (((s[k]'hlt).toNat:Int)%16) ω ω W
    have f3:(decide (((s[k]'hlt).toNat:Int)<32)||(((s[k]'hlt).toNat:Int)==127))=true:=by simpa using hc
    rcases hc with hc|hc
    ·
     obtain⟨h1,hh1⟩:=ε ((KE ((s[k]'hlt).toNat / 16)));obtain⟨h2,hh2⟩:=ε ((KE ((s[k]'hlt).toNat%16)));rw[hh1]at hd1;rw[hh2]at hd2;rw[hh1,hh2]at HE;clear hh1 hh2;have n1:(0:Int)<=((s[k]'hlt).toNat:Int) / 16:=ω
     have n2:((s[k]'hlt).toNat:Int) / 16<16:=ω
     have n3:(0:Int)<=((s[k]'hlt).toNat:Int)%16:=ω
     have n4:((s[k]'hlt).toNat:Int)%16<16:=ω
     have e1:IntKind.u8.wrap (((s[k]'hlt).toNat:Int) / 16)=((s[k]'hlt).toNat:Int) / 16:=IntWalk.u8_in _ ω;have e2:IntKind.u8.wrap (((s[k]'hlt).toNat:Int)%16)=((s[k]'hlt).toNat:Int)%16:=IntWalk.u8_in _ ω;have e3:(((s[k]'hlt).toNat:Int).tmod 16)=((s[k]'hlt).toNat:Int)%16:=IntWalk.rem_in _ _ ω;go_wp2_with fail;go_region_held3 (λ_=>True) (trivial)
      ((refine step_append_lies _ ρ _ _ _ ρ w.heap.size 5 i0 _ 1 1 underlying140 hi hz0 hz1 hz2 rfl ω u3 _ _ ρ ((kQ HO.o _).drew)
         ⟨wr.heap.size,0,none⟩ 4 4 [.int .u8 92, .int .u8 120, .int .u8 h1.toNat, .int .u8 h2.toNat] ρ ρ (World.news_of_block (cs:= #[.int .u8 92, .int .u8 120, .int .u8 h1.toNat, .int .u8 h2.toNat]) (t:=5) (fr:=(0,0)) (heap_alloc_new wr _)) (by simp[Value.oneCell'])
         ω (by unfold maxLen;rw[U7];omega) (by rw[U7];omega) (by have:=HB.o.size;simp;omega) (wr.heap.size+1) σ ?_;intro gg cap w3 hown3 hgrow3 hat hlt3))
     all_goals
      have O3:=qA (ZO (m:=[92,120,h1,h2]) hown3);have B3:Hid (Bl w w3):=(Below.drew (HB.o.alloc HB.o.size _)).grown hgrow3 (by have:=HB.o.size;simp;omega) (λk hk=>(qAG HO.o k hk).1);clear hown3 hgrow3 hat hlt3;go_wp2;go_roundw;case rel=>exact⟨k+1,ω,by go_num,by have:=O3.o;rw[HT.o,HE.o];exact this,B3⟩
      simp[intOf];omega
    have HE:=qA (show xR (s[k]'hlt)=[92,120,55,102] by rw[HE.o,show(s[k]'hlt).toNat=127 by omega];rfl);clear hd1 hd2 f1 f2 f3;go_wp2_with fail;go_region_held3 (λ_=>True) (trivial)
     ((refine step_append_lies _ ρ _ _ _ ρ w.heap.size 5 i0 _ 1 1 underlying140 hi hz0 hz1 hz2 rfl ω u3 _ _ ρ ((kQ HO.o _).drew)
        ⟨wr.heap.size,0,none⟩ 4 4 [.int .u8 92, .int .u8 120, .int .u8 55, .int .u8 102] ρ ρ (World.news_of_block (cs:= #[.int .u8 92, .int .u8 120, .int .u8 55, .int .u8 102]) (t:=5) (fr:=(0,0)) (heap_alloc_new wr _)) (by simp[Value.oneCell'])
        ω (by unfold maxLen;rw[U7];omega) (by rw[U7];omega) (by have:=HB.o.size;simp;omega) (wr.heap.size+1) σ ?_;intro gg cap w3 hown3 hgrow3 hat hlt3))
    all_goals
     have O3:=qA (ZO (m:=[92,120,55,102]) hown3);have B3:Hid (Bl w w3):=(Below.drew (HB.o.alloc HB.o.size _)).grown hgrow3 (by have:=HB.o.size;simp;omega) (λk hk=>(qAG HO.o k hk).1);clear hown3 hgrow3 hat hlt3;go_wp2;go_roundw;case rel=>exact⟨k+1,ω,by go_num,by have:=O3.o;rw[HT.o,HE.o];exact this,B3⟩
     simp[intOf];omega
   have f3:decide (((s[k]'hlt).toNat:Int)<32)=false:=by rw[decide_eq_false_iff_not];exact λe=>hc (.inl e)
   have f4:(((s[k]'hlt).toNat:Int)==127)=false:=by rw[U0];exact λe=>hc (.inr e)
   have HE:=qA (OH (b:=s[k]'hlt) ω ω (by rw[Bool.eq_false_iff];exact λe=>hc ((Ad _).2 e)));clear hc hq hq2;go_wp2_with (at_builtin;refine wpList_append_own _ rfl _ _ 140 rfl w.heap.size 5 i0 (.int .u8 0) 1 1 underlying140 hi hz0 hz1 hz2 rfl δ _ _ _ rfl (kQ HO.o _) ⟨wr.heap.size,0,none⟩ 1 1 [.int .u8 (s[k]'hlt).toNat] rfl rfl ?c1 ?c2 ?c3 ?c4 ?c5 ?_)
   case c1=>exact zl _ (λj u h=>η)
   case c2=>simp[Value.oneCell']
   case c3=>unfold maxLen;rw[U7];omega
   case c4=>rw[U7];omega
   case c5=>have:=HB.o.size;simp;omega
   intro v' w3 hown3 hgrow3 _;have O3:=qA (ZO (m:=[s[k]'hlt]) hown3);have B3:Hid (Bl w w3):=(HB.o.alloc HB.o.size _).grown hgrow3 (by have:=HB.o.size;simp;omega) (λk hk=>(qAG HO.o k hk).1);clear hown3 hgrow3;go_wp2;go_roundw;case rel=>exact⟨k+1,ω,by go_num,by have:=O3.o;rw[HT.o,HE.o];exact this,B3⟩
   simp[intOf];omega
  obtain rfl:k=s.size:=ω
  have hall:s.data.toList.take s.size=s.data.toList:=U9 σ;rw[hall]at HO;have hcv:=YG HO.o;have HQ:=qA (show(34::jR s.data.toList)++[34]=q from HF.o);have HL:=xe s.data.toList;have hsl:s.data.toList.length=s.size:=σ
  clear hall;go_wp2_with (go_at_call 210;refine(Yu wr.heap.size 0 2 (34::jR s.data.toList) [34] _ (by rw[Uy (hn:=rfl)];rfl) (by rw[Uy (hn:=rfl)];rfl) σ (U3 _) τ).mono ?_)
  rintro e w5 ⟨rfl,b5⟩;rw[HQ.o];go_wp2;go_ret;exact⟨rfl,qF (qE HB.o _) b5⟩
theorem Iy (b:UInt8):vS b<=16:=by
 unfold vS;split
 · omega
 split<;>omega
def sG:Ψ:=[48,49,50,51,52,53,54,55,56,57,97,98,99,100,101,102]
theorem Oi: ∀ n:Fin 256,Lib.indexByte sG (UInt8.ofNat n.val)=if vS (UInt8.ofNat n.val)<16 then(vS (UInt8.ofNat n.val):Int)else -1:=ξ
theorem Oh (b:UInt8):Lib.indexByte sG b=if vS b<16 then(vS b:Int)else -1:=by
 have:=Oi ⟨b.toNat,b.toNat_lt⟩;rw[show UInt8.ofNat (⟨b.toNat,b.toNat_lt⟩:Fin 256).val=b from UInt8.ofNat_toNat]at this;exact this
theorem JI (b:UInt8) (w:World):
  Calls prog 274 #[.int .u8 b.toNat] w λe w'=>e=.returned (.int .u8 (vS b))/\w=w':=by
 have hix:=strings_IndexByte ⟨#[48,49,50,51,52,53,54,55,56,57,97,98,99,100,101,102]⟩ (b.toNat:Int) w;rw[show((b.toNat:Int).toNat.toUInt8)=b from UInt8.ofNat_toNat]at hix;rw[show(⟨#[48,49,50,51,52,53,54,55,56,57,97,98,99,100,101,102]⟩:Φ).data.toList=sG from rfl,Oh b]at hix;by_cases h:vS b<16
 ·
  rw[U6 h]at hix;obtain⟨v,hv⟩:=ε (vS b);rw[hv]at hix h ⊢;go_enter func274,ntmps274
  go_wp2_with (go_at_call 79;refine hix.mono ?_)
  rintro e w' ⟨rfl,rfl⟩;go_wp2;go_ret;exact⟨qR ω,rfl⟩
 have h16:vS b=16:=by have:=Iy b;omega
 rw[U5 h]at hix;rw[h16];go_enter func274,ntmps274
 go_wp2_with (go_at_call 79;refine hix.mono ?_)
 rintro e w' ⟨rfl,rfl⟩;go_wp2;go_ret;exact⟨qR δ,rfl⟩
theorem DW {s:Φ} (h0:s.size=1) (h:(s[0]'ω).toNat=92):wP s.data.toList=none:=by
 have hl:s.data.toList.length=1:=by simpa using h0
 match hm:s.data.toList,hl with
 |[a],_=>
  have e0:=bytes_get? s 0 ω;rw[hm]at e0;have e0:a=s[0]'ω:=by simpa using e0
  simp[wP,e0,h]
theorem BV {s:Φ} (h2:2<=s.size) (h:(s[0]'ω).toNat=92) (hq:(s[1]'ω).toNat=34∨(s[1]'ω).toNat=92):wP s.data.toList=some (s[1]'ω,2):=by
 have hl:2<=s.data.toList.length:=by simpa using h2
 match hm:s.data.toList,hl with
 |a::b::r,_=>
  have e0:=bytes_get? s 0 ω;have e1:=bytes_get? s 1 ω;rw[hm]at e0 e1;have e0:a=s[0]'ω:=by simpa using e0
  have e1:b=s[1]'ω:=by simpa using e1
  rw[e0,e1];simp[wP,h,hq]
theorem eH {s:Φ} (h2:2<=s.size) (h:(s[0]'ω).toNat=92) (h34: ¬ (s[1]'ω).toNat=34) (h92: ¬ (s[1]'ω).toNat=92) (hx: ¬ (s[1]'ω).toNat=120∨s.size<4):wP s.data.toList=none:=by
 have hl:2<=s.data.toList.length:=by simpa using h2
 have hsz:s.data.toList.length=s.size:=σ
 match hm:s.data.toList,hl with
 |a::b::r,_=>
  have e0:=bytes_get? s 0 ω;have e1:=bytes_get? s 1 ω;rw[hm]at e0 e1 hsz;have e0:a=s[0]'ω:=by simpa using e0
  have e1:b=s[1]'ω:=by simpa using e1
  rw[e0,e1];rcases hx with hx|hx
  · simp[wP,h,h34,h92,hx]
  match r,hsz with
  |[],_=>simp[wP,h,h34,h92]
  |[x],_=>simp[wP,h,h34,h92]
  |x::y::t,hsz=>simp at hsz;omega
theorem MI {s:Φ} (h4:4<=s.size) (h:(s[0]'ω).toNat=92) (hx:(s[1]'ω).toNat=120):
  wP s.data.toList=if vS (s[2]'ω)<16/\vS (s[3]'ω)<16 then some (UInt8.ofNat (16*vS (s[2]'ω)+vS (s[3]'ω)),4)else none:=by
 have hl:4<=s.data.toList.length:=by simpa using h4
 match hm:s.data.toList,hl with
 |a::b::c::d::r,_=>
  have e0:=bytes_get? s 0 ω;have e1:=bytes_get? s 1 ω;have e2:=bytes_get? s 2 ω;have e3:=bytes_get? s 3 ω;rw[hm]at e0 e1 e2 e3;have e0:a=s[0]'ω:=by simpa using e0
  have e1:b=s[1]'ω:=by simpa using e1
  have e2:c=s[2]'ω:=by simpa using e2
  have e3:d=s[3]'ω:=by simpa using e3
  rw[e0,e1,e2,e3];simp[wP,h,hx]
theorem DV {s:Φ} (h1:0<s.size) (h: ¬ (s[0]'h1).toNat=92):wP s.data.toList=some (s[0]'h1,1):=by
 have hl:1<=s.data.toList.length:=by rw[Array.length_toList];exact h1
 match hm:s.data.toList,hl with
 |a::r,_=>
  have e0:=bytes_get? s 0 ω;rw[hm]at e0;have e0:a=s[0]'ω:=by simpa using e0
  rw[e0];simp[wP,h]
theorem FW (s:Φ) (hs:s.size<=maxLen) (h0:0<s.size) (h:(s[0]'h0).toNat=92) (c:UInt8) (k:Nat) (H:Hid ((wP s.data.toList).getD (0,0)=(c,k))) (w:World):
  Calls prog 240 #[s] w λe w'=>e=.returned (.tuple #[.int .u8 c.toNat,k])/\Bl w w':=by
 unfold maxLen at hs;have h92:((s[0]'h0).toNat:Int)=92:=ω
 by_cases h2:2<=s.size
 ·
  by_cases ha:((s[1]'ω).toNat:Int)=34
  ·
   obtain⟨rfl,rfl⟩:s[1]'ω=c/\2=k:=by have:=H.o;rw[BV h2 h (.inl ω)]at this;exact qAE this
   clear H;go_enter func240,ntmps240
   go_wp2;go_ret2;exact⟨by simp[ha],qB _⟩
  by_cases hb:((s[1]'ω).toNat:Int)=92
  ·
   obtain⟨rfl,rfl⟩:s[1]'ω=c/\2=k:=by have:=H.o;rw[BV h2 h (.inr ω)]at this;exact qAE this
   clear H;go_enter func240,ntmps240
   go_wp2;go_ret2;exact⟨by simp[hb],qB _⟩
  have f1:(((s[1]'ω).toNat:Int)==34)=false:=by rw[U0];exact ha
  have f2:(((s[1]'ω).toNat:Int)==92)=false:=by rw[U0];exact hb
  by_cases h4:4<=s.size
  ·
   by_cases hx:((s[1]'ω).toNat:Int)=120
   ·
    have HX:=qA (MI h4 h ω);by_cases d2:vS (s[2]'ω)<16
    ·
     by_cases d3:vS (s[3]'ω)<16
     ·
      obtain⟨hc,rfl⟩:UInt8.ofNat (16*vS (s[2]'ω)+vS (s[3]'ω))=c/\4=k:=by have:=H.o;rw[HX.o,U6 ⟨d2,d3⟩]at this;exact qAE this
      have HC:=qA (show((16*vS (s[2]'ω)+vS (s[3]'ω):Nat):Int)=c.toNat by rw[<-hc,UInt8.toNat_ofNat',Nat.mod_eq_of_lt ω]);clear H HX hc;have i2:((vS (s[2]'ω):Nat):Int)<16:=ω
      have i3:((vS (s[3]'ω):Nat):Int)<16:=ω
      have e1:IntKind.u8.wrap (16*((vS (s[2]'ω):Nat):Int))=16*((vS (s[2]'ω):Nat):Int):=IntWalk.u8_in _ ω;have e2:IntKind.u8.wrap (16*((vS (s[2]'ω):Nat):Int)+((vS (s[3]'ω):Nat):Int))=16*((vS (s[2]'ω):Nat):Int)+((vS (s[3]'ω):Nat):Int):=IntWalk.u8_in _ ω;go_enter func240,ntmps240
      go_wp2_with (go_at_call 274;refine(JI _ _).mono ?_)
      rintro e w' ⟨rfl,rfl⟩;go_wp2_with (go_at_call 274;refine(JI _ _).mono ?_)
      rintro e w' ⟨rfl,rfl⟩;go_wp2;go_quiet ((go_at_call 274;exact Calls.quiet_of_same ((JI _ _).mono λe w' h=>⟨h.1,h.2.symm⟩)))
      generalize hwz:w.drewN _=wz
      have bz:Bl w wz:=by rw[<-hwz];exact qM (qB _) _
      go_wp2;go_ret2;exact⟨by rw[show((c.toNat:Nat):Int)=16*((vS (s[2]'ω):Nat):Int)+((vS (s[3]'ω):Nat):Int) by have:=HC.o;omega];rfl,bz⟩
     obtain⟨rfl,rfl⟩:0=c/\0=k:=by have:=H.o;rw[HX.o,U5 (λe=>d3 e.2)]at this;exact qAE this
     clear H;clear HX;have i2:((vS (s[2]'ω):Nat):Int)<16:=ω
     have i3: ¬ ((vS (s[3]'ω):Nat):Int)<16:=ω
     go_enter func240,ntmps240
     go_wp2_with (go_at_call 274;refine(JI _ _).mono ?_)
     rintro e w' ⟨rfl,rfl⟩;go_wp2_with (go_at_call 274;refine(JI _ _).mono ?_)
     rintro e w' ⟨rfl,rfl⟩;go_wp2;go_ret2;exact⟨σ,qB _⟩
    obtain⟨rfl,rfl⟩:0=c/\0=k:=by have:=H.o;rw[HX.o,U5 (λe=>d2 e.1)]at this;exact qAE this
    clear H;clear HX;have i2: ¬ ((vS (s[2]'ω):Nat):Int)<16:=ω
    go_enter func240,ntmps240
    go_wp2_with (go_at_call 274;refine(JI _ _).mono ?_)
    rintro e w' ⟨rfl,rfl⟩;go_wp2;go_ret2;exact⟨σ,qB _⟩
   obtain⟨rfl,rfl⟩:0=c/\0=k:=by have:=H.o;rw[eH h2 h ω ω (.inl ω)]at this;exact qAE this
   clear H;go_enter func240,ntmps240
   go_wp2;go_ret2;exact⟨σ,qB _⟩
  obtain⟨rfl,rfl⟩:0=c/\0=k:=by have:=H.o;rw[eH h2 h ω ω (.inr ω)]at this;exact qAE this
  clear H;go_enter func240,ntmps240
  go_wp2;go_ret2;exact⟨σ,qB _⟩
 obtain⟨rfl,rfl⟩:0=c/\0=k:=by have:=H.o;rw[DW ω h]at this;exact qAE this
 clear H;go_enter func240,ntmps240
 go_wp2;go_ret2;exact⟨σ,qB _⟩
