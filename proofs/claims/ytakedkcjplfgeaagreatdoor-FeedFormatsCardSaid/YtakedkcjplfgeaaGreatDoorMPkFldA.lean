/- Contracts, proved. Conditions: each contract's own. -/
import Derived.Test.YtakedkcjplfgeaaGreatDoorRows
import Derived.Test.YtakedkcjplfgeaaGreatDoorMPkShelf
import Derived.Test.YtakedkcjplfgeaaGreatDoorMPkBase
import Derived.Test.YtakedkcjplfgeaaGreatDoorMPkPlain
import Derived.WalkSpells
import Derived.WalkLawsBesides
import Derived.Lib.SmallJoins
import Derived.BigQuiet
import Derived.Deep.RegionHeld3
import Derived.Deep.AppendLies
import Derived.Deep.DeepCutAuto
set_option maxRecDepth 1000000
set_option maxHeartbeats 32000000
namespace Go.Proofs.YtakedkcjplfgeaaGreatDoor
open Go.RowKit
open Fld
theorem qR {k:IntKind} {a b:Int} (h:a=b):Ending.returned (.int k a)= .returned (.int k b):=by rw[h]
theorem qO {a b:Bool} (h:a=b):Ending.returned (.bool a)= .returned (.bool b):=by rw[h]
abbrev qP (l:List UInt8):Value:= .string ⟨l.toArray⟩
theorem qw (s:ByteArray) (k:Nat) (h:k<s.size):s.data.toList[k]'(by simpa using h)=s[k]'h:=by simp;rfl
theorem bytes_get? (s:ByteArray) (k:Nat) (h:k<s.size):s.data.toList[k]? =some (s[k]'h):=by rw[U2 (by simpa using h),qw s k h]
theorem wK {s:ByteArray} (h:s.size=0):s.toList=[]:=by
 rw[ByteArray.toList_eq];exact List.length_eq_zero_iff.1 (by simpa using h)
theorem jG {s:ByteArray} (h: ¬ s.size=0): ¬ s.toList=[]:=by
 rw[ByteArray.toList_eq];intro e;exact h (by simpa using congrArg List.length e)
theorem jQ {s:ByteArray} (h: ¬ s.size=0):s.toList.isEmpty=false:=by
 have:=jG h;simpa using this
theorem sS (s:ByteArray): ∃ p:Nat,p<=s.size/\(∀ k (h:k<s.size),k<p->Qi (s[k]'h)=false)/\ ∀ h:p<s.size,Qi (s[p]'h)=true:=by
 suffices H: ∀ n,n<=s.size->(∀ k (h:k<s.size),k<s.size-n->Qi (s[k]'h)=false)-> ∃ p:Nat,p<=s.size/\(∀ k (h:k<s.size),k<p->Qi (s[k]'h)=false)/\ ∀ h:p<s.size,Qi (s[p]'h)=true from
  H s.size (U3 _) (fun k h hk=>by omega)
 intro n;induction n with
 |zero=>intro _ h;exact⟨s.size,U3 _,fun k hk _=>h k hk (by omega),fun h=>absurd h (by omega)⟩
 |succ n ih=>
  intro hn h;by_cases hd:Qi (s[s.size-(n+1)]'(by omega))=false
  ·
   refine ih (by omega) fun k hk hlt=>?_
   by_cases e:k=s.size-(n+1)
   · subst e;exact hd
   · exact h k hk (by omega)
  · exact⟨s.size-(n+1),by omega,h,fun _=>by simpa using hd⟩
theorem iP {s:ByteArray} {p:Nat} (h:p<s.size) (hp:Qi (s[p]'h)=true):jq s.data.toList=false:=by
 have:s.data.toList.any Qi=true:=List.any_eq_true.2 ⟨_,Uz (bytes_get? s p h),hp⟩;unfold jq;rw[this];rfl
theorem uZ {s:ByteArray} (h: ∀ k (h:k<s.size),Qi (s[k]'h)=false):jq s.data.toList=if h0:0<s.size then(!((s[0]'h0).toNat==32)&& !((s[s.size-1]'(by omega)).toNat==32))else false:=by
 have:s.data.toList.any Qi=false:=by
  rw[List.any_eq_false];intro b hb;obtain⟨k,hk,rfl⟩:=List.getElem_of_mem hb;have hk':k<s.size:=by simpa using hk
  rw[qw s k hk',h k hk'];decide
 unfold jq;rw[this];split
 ·
  rename_i h0;have hl:s.data.toList.length=s.size:=by simp
  have hne:s.data.toList≠[]:=fun e=>by rw[e]at hl;simp at hl;omega
  have h1:s.data.toList.head?=some (s[0]'h0):=by rw[List.head?_eq_getElem?];exact bytes_get? s 0 h0
  have h2:s.data.toList.getLast?=some (s[s.size-1]'(by omega)):=by rw[List.getLast?_eq_getElem?,hl];exact bytes_get? s _ (by omega)
  have h32: ∀ b:UInt8,((some b:Option UInt8)==some 32)=(b.toNat==32):=by
   intro b;by_cases e:b=32
   · subst e;rfl
   ·
    have: ¬ b.toNat=32:=fun k=>e (UInt8.toNat.inj (by simpa using k))
    rw[show(b.toNat==32)=false by simpa using this];simpa using e
  rw[h1,h2,h32,h32];rw[show s.data.toList.isEmpty=false by simpa[List.isEmpty_iff]using hne];rfl
 ·
  have hs:s.data.toList=[]:=List.length_eq_zero_iff.1 (by rw[Array.length_toList];show s.size=0;omega);rw[hs];rfl
theorem lq (s:ByteArray) (pos:Nat) (h:pos<s.size) (ha:128<=(s[pos]'h).toNat):pos+(Utf8.decode s pos).2<=s.size/\ ∀ k (hk:k<s.size),pos<=k->k<pos+(Utf8.decode s pos).2->128<=(s[k]'hk).toNat:=by
 have g: ∀ k (hk:k<s.size),s.get! k=s[k]'hk:=fun k hk=>get_at s k hk
 have g0:=g pos h;obtain⟨b0,e0⟩: ∃ b,b=(s.get! pos).toNat:=⟨_,rfl⟩;obtain⟨b1,e1⟩: ∃ b,b=(s.get! (pos+1)).toNat:=⟨_,rfl⟩;obtain⟨b2,e2⟩: ∃ b,b=(s.get! (pos+2)).toNat:=⟨_,rfl⟩;obtain⟨b3,e3⟩: ∃ b,b=(s.get! (pos+3)).toNat:=⟨_,rfl⟩;rw[Lib.decode_at,<-e0,<-e1,<-e2,<-e3];rw[<-g pos h,<-e0]at ha;have K:(Lib.decodeN (s.size-pos) b0 b1 b2 b3).2=1∨(Lib.decodeN (s.size-pos) b0 b1 b2 b3).2=2/\1<s.size-pos/\128<=b1∨(Lib.decodeN (s.size-pos) b0 b1 b2 b3).2=3/\2<s.size-pos/\128<=b1/\128<=b2∨(Lib.decodeN (s.size-pos) b0 b1 b2 b3).2=4/\3<s.size-pos/\128<=b1/\128<=b2/\128<=b3:=by
  unfold Lib.decodeN;repeat' split
  all_goals first|exact .inl rfl|exact .inr (.inl ⟨rfl,by omega,by omega⟩)|exact .inr (.inr (.inl ⟨rfl,by omega,by omega,by omega⟩))|exact .inr (.inr (.inr ⟨rfl,by omega,by omega,by omega,by omega⟩))
 have at0: ∀ k (hk:k<s.size),k=pos->128<=(s[k]'hk).toNat:=fun k hk e=>by subst e;rw[<-g k hk,<-e0];exact ha
 have at1:128<=b1-> ∀ k (hk:k<s.size),k=pos+1->128<=(s[k]'hk).toNat:=fun hb k hk e=>by subst e;rw[<-g _ hk,<-e1];exact hb
 have at2:128<=b2-> ∀ k (hk:k<s.size),k=pos+2->128<=(s[k]'hk).toNat:=fun hb k hk e=>by subst e;rw[<-g _ hk,<-e2];exact hb
 have at3:128<=b3-> ∀ k (hk:k<s.size),k=pos+3->128<=(s[k]'hk).toNat:=fun hb k hk e=>by subst e;rw[<-g _ hk,<-e3];exact hb
 rcases K with K|⟨K,n1,c1⟩|⟨K,n1,c1,c2⟩|⟨K,n1,c1,c2,c3⟩
 all_goals
  rw[K];refine⟨by omega,fun k hk h1 h2=>?_⟩;by_cases i0:k=pos
  · exact at0 k hk i0
  first
  |(exfalso;omega)
  |
   by_cases i1:k=pos+1
   · exact at1 c1 k hk i1
   first
   |(exfalso;omega)
   |
    by_cases i2:k=pos+2
    · exact at2 c2 k hk i2
    first
    |(exfalso;omega)
    |exact at3 c3 k hk (by omega)
def eu (n:Nat):Bool:=n==44||(n==34||(n==92||(decide (n<32)||n==127)))
theorem Wu (b:UInt8):Qi b=eu b.toNat:=rfl
theorem Vs {n:Nat} (h:128<=n):eu n=false:=by
 unfold eu;simp
 omega
theorem fA (n:Nat) (hn:n<=2147483647) (w:World):
  Calls Tryz.prog 239 #[.int .i32 n] w fun e w'=>e= .returned (.bool (eu n))/\w=w':=by
 go_enter Tryz.func239,Tryz.ntmps239
 go_wp2;all_goals
  go_ret;refine⟨qO ?_,rfl⟩;rw[Bool.eq_iff_iff];simp[eu]
  omega
theorem Nj (n:Nat):((n:Int) != 32)= !(n==32):=by
 have e1:((n:Int)==32)=(n==32):=by
  rw[Bool.eq_iff_iff,beq_iff_eq,beq_iff_eq];omega
 show(!((n:Int)==32))=_
 rw[e1]
theorem xP {B:Nat} {w0 w:World} (h:Below B w0 w) (hB:B<=w.heap.size) (s:ByteArray) (pos:Nat):Below B w0 (w.iter s pos):=h.alloc hB _
theorem VG (s:ByteArray) (hs:s.size<=maxLen) (w:World):
  Calls Tryz.prog 182 #[.string s] w fun e w'=>e= .returned (.bool (jq s.data.toList))/\Bl w w':=by
 unfold maxLen at hs;obtain⟨p,hp,hd,hn⟩:=sS s;have HD:=qA hd;have HN:=qA hn;clear hd hn;go_enter Tryz.func182,Tryz.ntmps182
 go_wp2;go_loopw [4] (fun _ w'=> ∃ pos:Nat,pos<=p/\w'=w.iter s pos) (fun _ w'=>s.size-w'.iterPos w.heap.size)
 case atStart=>exact⟨0,qAD _,rfl⟩
 case round=>
  obtain⟨pos,hpos,rfl⟩:=hrel;by_cases h1:pos<p
  ·
   have hps:pos<s.size:=by omega
   have HS:=qA (HD.out pos hps h1);obtain⟨r,wd,hr,hwd,hr1,hsp,hle⟩: ∃ r wd:Nat,(Utf8.decode s pos)=(r,wd)/\1<=wd/\r<=2147483647/\eu r=false/\pos+wd<=p:=by
    refine⟨(Utf8.decode s pos).1,(Utf8.decode s pos).2,Prod.eta _ |>.symm, ?_,decode_le s pos, ?_, ?_⟩
    ·
     by_cases h3:(s[pos]'hps).toNat<128
     · rw[decode_ascii s pos hps h3];exact U3 1
     · exact(decode_high s pos hps (by omega)).2
    ·
     by_cases h3:(s[pos]'hps).toNat<128
     · rw[decode_ascii s pos hps h3];exact(Wu _).symm.trans HS.out
     · exact Vs (decode_high s pos hps (by omega)).1
    ·
     by_cases h3:(s[pos]'hps).toNat<128
     · rw[decode_ascii s pos hps h3];exact h1
     ·
      obtain⟨k1,k2⟩:=lq s pos hps (by omega);rcases Nat.lt_or_ge p (pos+(Utf8.decode s pos).2)with hlt|hge
      ·
       exfalso
       have hps':p<s.size:=by omega
       have a:=HN.out hps';rw[Wu,Vs (k2 p hps' (by omega) hlt)]at a;cases a
      · exact hge
   have hnx: ∀ ty,(Instr.next (.pointer (some ⟨w.heap.size,0,none⟩)) true ty).run Tryz.prog (w.iter s pos)=_:=fun ty=>run_next_any w s pos ty hps
   simp only[hr]at hnx;have HP:=qA hsp;clear hsp hr;go_wp2_with (go_at_call 239;refine(fA r hr1 _).mono ?_)
   rintro e w' ⟨rfl,rfl⟩;rw[HP.out];go_wp2;go_roundw;case rel=>exact⟨pos+wd,by omega,rfl⟩
   case measure=>simp;omega
  ·
   obtain rfl:pos=p:=by omega
   by_cases h2:pos<s.size
   ·
    have hnd:=HN.out h2;have HF:=qA (iP h2 hnd);have h3:(s[pos]'h2).toNat<128:=by
     rcases Nat.lt_or_ge (s[pos]'h2).toNat 128 with h|h
     · exact h
     · rw[Wu,Vs h]at hnd;cases hnd
    have hnx: ∀ ty,(Instr.next (.pointer (some ⟨w.heap.size,0,none⟩)) true ty).run Tryz.prog (w.iter s pos)=_:=fun ty=>run_next_ascii w s pos ty h2 h3
    have HP:=qA ((Wu _).symm.trans hnd);clear hnd;go_wp2_with (go_at_call 239;refine(fA (s[pos]'h2).toNat (by omega) _).mono ?_)
    rintro e w' ⟨rfl,rfl⟩;rw[HP.out];go_wp2;go_ret;exact⟨qO HF.out.symm,yT (qB _) _ _⟩
   ·
    have hnx: ∀ ty,(Instr.next (.pointer (some ⟨w.heap.size,0,none⟩)) true ty).run Tryz.prog (w.iter s pos)=_:=fun ty=>run_next_end w s pos ty h2
    have had:=uZ (s:=s) (fun k hk=>HD.out k hk (by omega));by_cases h0:s.size=0
    ·
     have hs:s.toList=[]:=wK h0;have HF:=qA (show jq s.data.toList=false by rw[had,dif_neg (by omega)]);clear had;go_wp2;go_ret;exact⟨qO HF.out.symm,yT (qB _) _ _⟩
    ·
     have hps:0<s.size:=by omega
     have HF:=qA (show jq s.data.toList=(!((s[0]'hps).toNat==32)&& !((s[s.size-1]'(by omega)).toNat==32)) by rw[had,dif_pos hps]);have hne:=jG h0;have hne':=jQ h0;clear had;by_cases h4:((s[0]'hps).toNat:Int)=32
     ·
      have h6:((s[0]'hps).toNat==32)=true:=by rw[beq_iff_eq];omega
      have HG:=qA (show jq s.data.toList=false by rw[HF.out,h6];rfl);clear h6;go_wp2;go_ret;exact⟨qO HG.out.symm,yT (qB _) _ _⟩
     ·
      go_wp2;go_ret;exact⟨qO (by rw[HF.out,<-Nj,<-Nj]),yT (qB _) _ _⟩
theorem Yu (b o c:Nat) (x y:List UInt8) (w:World) (hx:w.cell? ⟨b,o,none⟩=some (qP x)) (hy:w.cell? ⟨b,o+1,none⟩=some (qP y)) (hb:b<w.heap.size) (hc:2<=c) (hl:x.length+y.length<=140737488355328):
  Calls Tryz.prog 210 #[.slice (some ⟨b,o,none⟩) 2 c] w fun e w'=>e= .returned (qP (x++y))/\Bl w w':=by
 have hj:=Tryz.strings_Join b o c [⟨x.toArray⟩,⟨y.toArray⟩] ⟨#[]⟩ w (by
  intro j z hz;match j,hz with
  |0,hz=>cases hz;exact hx
  |1,hz=>cases hz;exact hy) hb (by simp) hc (by simpa[Lib.join]using hl)
 have HE:=qA (show(Lib.join ([(⟨x.toArray⟩:ByteArray),⟨y.toArray⟩].map (·.data.toList)) (⟨#[]⟩:ByteArray).data.toList)=x++y by simp[Lib.join]);rw[HE.out]at hj;go_enter Tryz.func210,Tryz.ntmps210
 go_wp2_with (go_at_call 263;refine hj.mono ?_)
 rintro e w' rfl hb';go_wp2;go_ret;exact⟨rfl,hb'⟩
theorem vk:(Tryz.prog.info? 5).map (fun i=>(i.zero,i.size,i.bytes))=some (some (.int .u8 0),1,1):=by kernel_rfl
def xO (B:Nat) (v:Value) (l:List UInt8) (w:World):Prop:=w.ownsRow B 5 1 v l.length (Lib.byteCells l)
theorem Xw (B:Nat) (w:World):xO B (.slice none 0 0) [] w:=World.ownsRow_nil w B _ 1
theorem kQ {B:Nat} {v:Value} {l:List UInt8} {w:World} (h:xO B v l w) (o:Obj):xO B v l (w.alloc o):=World.ownsRow.alloc h o
theorem QW (l:List UInt8):(Lib.byteCells l).length=l.length:=by simp[Lib.byteCells]
theorem vg (a b:List UInt8):Lib.byteCells (a++b)=Lib.byteCells a++Lib.byteCells b:=by simp[Lib.byteCells]
theorem YG {B:Nat} {v:Value} {l:List UInt8} {w:World} (h:xO B v l w):(convert 140 9 v).run Tryz.prog w= .ok (qP l) w:=by
 have h':=h;rcases h.2 with⟨rfl,h0⟩|⟨g,cap,cur,rfl,hg,hb,hn,hc,hs,ht⟩
 ·
  obtain rfl:l=[]:=List.length_eq_zero_iff.1 h0;exact run_convert_bytes_nil w 140 5 Tryz.underlying140 Tryz.underlying5 0 0 9 Tryz.underlying9
 ·
  refine run_convert_bytes_back w 140 9 5 ⟨g,0,none⟩ cap l Tryz.underlying140 Tryz.underlying5 Tryz.underlying9 ?_;intro j hj;exact World.ownsRow.cells h' rfl j _ (by simp[Lib.byteCells,hj])
theorem Xy {B:Nat} {v:Value} {l:List UInt8} {w:World} (h:xO B v l w): ∃ a c,v= .slice a l.length c:=by
 rcases h.2 with⟨rfl,h0⟩|⟨g,cap,cur,rfl,_⟩
 · exact⟨_,_,by rw[h0]⟩
 · exact⟨_,_,rfl⟩
theorem zl {w:World} {T:TypeId} {C:Array Value} (news:List Value) (h: ∀ (j:Nat) (u:Value),news[j]? =some u->C[j]? =some u): ∀ (j:Nat) (u:Value),news[j]? =some u->(w.alloc (.cells C T)).cell? ((⟨w.heap.size,0,none⟩:Addr).add j)=some u:=by
 intro j u hj;have:((⟨w.heap.size,0,none⟩:Addr).add j)=⟨w.heap.size,j,none⟩:=by simp[Addr.add];omega
 rw[this,Uy (hn:=rfl),h j u hj]
theorem Gw (B:Nat) (w:World) (hB:B<=w.heap.size) (l:List UInt8) (C:Array Value) (hC:C.toList=Lib.byteCells l) (n:Nat) (hn:n=l.length) (h1:n<=1000):xO B (.slice (some ⟨w.heap.size,0,none⟩) n n) l (w.alloc (.cells C 5)):=by
 have hsz:C.size=l.length:=by rw[<-Array.length_toList,hC,QW]
 refine⟨by rw[QW,Nat.mul_one], .inr ⟨w.heap.size,n,C,by rw[hn],hB, ?_,by omega,by unfold maxLen;omega,by omega, ?_⟩⟩
 · exact heap_alloc_new w _
 · rw[hC,U9 (by rw[QW];omega)]
theorem ZO {B:Nat} {v':Value} {l m:List UInt8} {w:World} (h:w.ownsRow B 5 1 v' (l.length+m.length) (Lib.byteCells l++Lib.byteCells m)):xO B v' (l++m) w:=by
 unfold xO;rw[vg,U1];exact h
theorem tJ (l:List UInt8) (b:UInt8):jR (l++[b])=jR l++xR b:=by simp[jR]
theorem tK {s:ByteArray} {k:Nat} (h:k<s.size):jR (s.data.toList.take (k+1))=jR (s.data.toList.take k)++xR (s[k]'h):=by
 rw[List.take_succ_eq_append_getElem (by simpa using h),tJ,qw s k h]
theorem XR (b:UInt8):(xR b).length<=4:=by
 unfold xR;split
 · simp
 · split<;>simp
theorem xe: ∀ l:List UInt8,(jR l).length<=4*l.length
 |[]=>by simp[jR]
 |b::l=>by
  have e:jR (b::l)=xR b++jR l:=by simp[jR]
  have:=XR b;have:=xe l;rw[e,U1,U7];omega
theorem Xi (s:ByteArray) (k:Nat) (_h:k<=s.size):(jR (s.data.toList.take k)).length<=4*k:=by
 refine Ux (xe _) ?_;rw[List.length_take];omega
theorem FV {b:UInt8} (h:b.toNat=34∨b.toNat=92):xR b=[92,b]:=by
 unfold xR;rw[U6 (by simpa using h)]
theorem OI {b:UInt8} (h1: ¬ b.toNat=34) (h2: ¬ b.toNat=92) (h:Ey b=true):xR b=[92,120,KE (b.toNat / 16),KE (b.toNat%16)]:=by
 unfold xR;rw[U5 (by simp[h1,h2]),U6 h]
theorem OH {b:UInt8} (h1: ¬ b.toNat=34) (h2: ¬ b.toNat=92) (h:Ey b=false):xR b=[b]:=by
 unfold xR;rw[U5 (by simp[h1,h2]),U5 (by rw[h];decide)]
theorem Nr (b:UInt8) (n:Nat) (h:b.toNat=n):b=UInt8.ofNat n:=by rw[<-h,UInt8.ofNat_toNat]
theorem dG (n:Nat) (z:Int) (hz:z=n) (hn:n<16) (W:World):(Instr.index 9 (.string ⟨#[48,49,50,51,52,53,54,55,56,57,97,98,99,100,101,102]⟩) (.int .u8 z)).run Tryz.prog W= .ok (.int .u8 (KE n).toNat) W:=by
 subst hz;rw[run_index_string W _ _ _ _ Tryz.underlying9,dif_pos ⟨by omega,by show(n:Int)<16;omega⟩];match n,hn with
 |0,_|1,_|2,_|3,_|4,_|5,_|6,_|7,_|8,_|9,_|10,_|11,_|12,_|13,_|14,_|15,_=>rfl
 |k+16,h=>omega
theorem Ad (b:UInt8):((b.toNat:Int)<32∨(b.toNat:Int)=127)↔Ey b=true:=by
 unfold Ey;simp
 omega
theorem Bc (s:ByteArray) (q:List UInt8) (H:Hid (zg s.data.toList=q)) (hs:s.size<=34359738368) (w:World):
  Calls Tryz.prog 184 #[.string s] w fun e w'=>e= .returned (qP q)/\Bl w w':=by
 obtain⟨i0,hi,hz0,hz1,hz2⟩:=info_parts vk;obtain⟨p,hp⟩: ∃ p,jq s.data.toList=p:=⟨_,rfl⟩;have HP:=qA hp;clear hp;go_enter Tryz.func184,Tryz.ntmps184
 go_wp2_with (go_at_call 182;refine(VG s (by unfold maxLen;omega) _).mono ?_)
 rintro e w1 ⟨rfl,b1⟩;rw[HP.out];cases p with
 |true=>
  have HF:=qA ((xm HP.out).symm.trans H.out);go_wp2;go_ret;exact⟨by rw[<-HF.out];rfl,b1⟩
 |false=>
  have HF:=qA ((JM HP.out).symm.trans H.out);go_wp2_with fail;have b2:Bl w (w1.alloc (.cells #[.int .u8 34] 5)):=qE b1 _;have o2:xO w.heap.size (.slice (some ⟨w1.heap.size,0,none⟩) 1 1) [34] (w1.alloc (.cells #[.int .u8 34] 5)):=Gw _ _ b1.size _ _ rfl 1 rfl (by omega);generalize hw2:w1.alloc (.cells #[.int .u8 34] 5)=w2 at b2 o2
  have B2:=qA b2;have O2:=qA o2;clear b2 o2 hw2 b1;go_loopw [3,12] (fun vo i wr=> ∃ k:Nat,k<=s.size/\i= .int .i64 k/\Hid (xO w.heap.size vo (34::jR (s.data.toList.take k)) wr)/\Hid (Bl w wr)) (fun _ i _=>s.size-(intOf i).toNat)
  case atStart=>exact⟨0,qAD _,rfl,O2,B2⟩
  case round=>
   obtain⟨k,hk,rfl,HO,HB⟩:=hrel;by_cases hlt:k<s.size
   ·
    have HT:=qA (tK hlt);have HL:=Xi s k hk;by_cases hq:((s[k]'hlt).toNat:Int)=34
    ·
     have HE:=qA (show xR (s[k]'hlt)=[92,34] by rw[FV (by omega),Nr (s[k]'hlt) 34 (by omega)];rfl);go_wp2_with (at_builtin;refine wpList_append_own _ rfl _ _ 140 rfl w.heap.size 5 i0 (.int .u8 0) 1 1 Tryz.underlying140 hi hz0 hz1 hz2 rfl (by decide) _ _ _ rfl (kQ HO.out _) ⟨wr.heap.size,0,none⟩ 2 2 [.int .u8 92, .int .u8 34] rfl rfl ?c1 ?c2 ?c3 ?c4 ?c5 ?_)
     case c1=>exact zl _ (fun j u h=>by simpa using h)
     case c2=>simp[Value.oneCell']
     case c3=>unfold maxLen;rw[U7];omega
     case c4=>rw[U7];omega
     case c5=>have:=HB.out.size;simp;omega
     intro v' w3 hown3 hgrow3 _;have O3:=qA (ZO (m:=[92,34]) hown3);have B3:Hid (Bl w w3):=(HB.out.alloc HB.out.size _).grown hgrow3 (by have:=HB.out.size;simp;omega) (fun k hk=>(qAG HO.out k hk).1);clear hown3 hgrow3;go_wp2;go_roundw;case rel=>exact⟨k+1,by omega,by go_num,by have:=O3.out;rw[HT.out,HE.out];exact this,B3⟩
     case measure=>simp[intOf];omega
    by_cases hq2:((s[k]'hlt).toNat:Int)=92
    ·
     have HE:=qA (show xR (s[k]'hlt)=[92,92] by rw[FV (by omega),Nr (s[k]'hlt) 92 (by omega)];rfl);go_wp2_with (at_builtin;refine wpList_append_own _ rfl _ _ 140 rfl w.heap.size 5 i0 (.int .u8 0) 1 1 Tryz.underlying140 hi hz0 hz1 hz2 rfl (by decide) _ _ _ rfl (kQ HO.out _) ⟨wr.heap.size,0,none⟩ 2 2 [.int .u8 92, .int .u8 92] rfl rfl ?c1 ?c2 ?c3 ?c4 ?c5 ?_)
     case c1=>exact zl _ (fun j u h=>by simpa using h)
     case c2=>simp[Value.oneCell']
     case c3=>unfold maxLen;rw[U7];omega
     case c4=>rw[U7];omega
     case c5=>have:=HB.out.size;simp;omega
     intro v' w3 hown3 hgrow3 _;have O3:=qA (ZO (m:=[92,92]) hown3);have B3:Hid (Bl w w3):=(HB.out.alloc HB.out.size _).grown hgrow3 (by have:=HB.out.size;simp;omega) (fun k hk=>(qAG HO.out k hk).1);clear hown3 hgrow3;go_wp2;go_roundw;case rel=>exact⟨k+1,by omega,by go_num,by have:=O3.out;rw[HT.out,HE.out];exact this,B3⟩
     case measure=>simp[intOf];omega
    have f1:(((s[k]'hlt).toNat:Int)==34)=false:=by rw[U0];exact hq
    have f2:(((s[k]'hlt).toNat:Int)==92)=false:=by rw[U0];exact hq2
    by_cases hc:((s[k]'hlt).toNat:Int)<32∨((s[k]'hlt).toNat:Int)=127
    ·
     have hbl:(s[k]'hlt).toNat<256:=rD _;have HE:=qA (OI (b:=s[k]'hlt) (by omega) (by omega) ((Ad _).1 hc));have hd1:=fun W=>dG ((s[k]'hlt).toNat / 16) (((s[k]'hlt).toNat:Int) / 16) (by omega) (by omega) W
     have hd2:=fun W=>dG ((s[k]'hlt).toNat%16) (((s[k]'hlt).toNat:Int)%16) (by omega) (by omega) W
     have f3:(decide (((s[k]'hlt).toNat:Int)<32)||(((s[k]'hlt).toNat:Int)==127))=true:=by simpa using hc
     rcases hc with hc|hc
     ·
      obtain⟨h1,hh1⟩: ∃ h1,(KE ((s[k]'hlt).toNat / 16))=h1:=⟨_,rfl⟩;obtain⟨h2,hh2⟩: ∃ h2,(KE ((s[k]'hlt).toNat%16))=h2:=⟨_,rfl⟩;rw[hh1]at hd1;rw[hh2]at hd2;rw[hh1,hh2]at HE;clear hh1 hh2;have n1:(0:Int)<=((s[k]'hlt).toNat:Int) / 16:=by omega
      have n2:((s[k]'hlt).toNat:Int) / 16<16:=by omega
      have n3:(0:Int)<=((s[k]'hlt).toNat:Int)%16:=by omega
      have n4:((s[k]'hlt).toNat:Int)%16<16:=by omega
      have e1:IntKind.u8.wrap (((s[k]'hlt).toNat:Int) / 16)=((s[k]'hlt).toNat:Int) / 16:=IntWalk.u8_in _ (by omega);have e2:IntKind.u8.wrap (((s[k]'hlt).toNat:Int)%16)=((s[k]'hlt).toNat:Int)%16:=IntWalk.u8_in _ (by omega);have e3:(((s[k]'hlt).toNat:Int).tmod 16)=((s[k]'hlt).toNat:Int)%16:=IntWalk.rem_in _ _ (by omega);go_wp2_with fail;go_region_held3 (fun _=>True) (trivial)
       ((refine step_append_lies _ (by rfl) _ _ _ (by rfl) w.heap.size 5 i0 _ 1 1 Tryz.underlying140 hi hz0 hz1 hz2 rfl (by omega) u3 _ _ (by rfl) ((kQ HO.out _).drew)
          ⟨wr.heap.size,0,none⟩ 4 4 [.int .u8 92, .int .u8 120, .int .u8 h1.toNat, .int .u8 h2.toNat] (by rfl) (by rfl) (World.news_of_block (cs:= #[.int .u8 92, .int .u8 120, .int .u8 h1.toNat, .int .u8 h2.toNat]) (t:=5) (fr:=(0,0)) (heap_alloc_new wr _)) (by simp[Value.oneCell'])
          (by omega) (by unfold maxLen;rw[U7];omega) (by rw[U7];omega) (by have:=HB.out.size;simp;omega) (wr.heap.size+1) (by simp) ?_;intro gg cap w3 hown3 hgrow3 hat hlt3))
      all_goals
       have O3:=qA (ZO (m:=[92,120,h1,h2]) hown3);have B3:Hid (Bl w w3):=(Below.drew (HB.out.alloc HB.out.size _)).grown hgrow3 (by have:=HB.out.size;simp;omega) (fun k hk=>(qAG HO.out k hk).1);clear hown3 hgrow3 hat hlt3;go_wp2;go_roundw;case rel=>exact⟨k+1,by omega,by go_num,by have:=O3.out;rw[HT.out,HE.out];exact this,B3⟩
       case measure=>simp[intOf];omega
     ·
      have HE:=qA (show xR (s[k]'hlt)=[92,120,55,102] by rw[HE.out,show(s[k]'hlt).toNat=127 by omega];rfl);clear hd1 hd2 f1 f2 f3;go_wp2_with fail;go_region_held3 (fun _=>True) (trivial)
       ((refine step_append_lies _ (by rfl) _ _ _ (by rfl) w.heap.size 5 i0 _ 1 1 Tryz.underlying140 hi hz0 hz1 hz2 rfl (by omega) u3 _ _ (by rfl) ((kQ HO.out _).drew)
          ⟨wr.heap.size,0,none⟩ 4 4 [.int .u8 92, .int .u8 120, .int .u8 55, .int .u8 102] (by rfl) (by rfl) (World.news_of_block (cs:= #[.int .u8 92, .int .u8 120, .int .u8 55, .int .u8 102]) (t:=5) (fr:=(0,0)) (heap_alloc_new wr _)) (by simp[Value.oneCell'])
          (by omega) (by unfold maxLen;rw[U7];omega) (by rw[U7];omega) (by have:=HB.out.size;simp;omega) (wr.heap.size+1) (by simp) ?_;intro gg cap w3 hown3 hgrow3 hat hlt3))
      all_goals
       have O3:=qA (ZO (m:=[92,120,55,102]) hown3);have B3:Hid (Bl w w3):=(Below.drew (HB.out.alloc HB.out.size _)).grown hgrow3 (by have:=HB.out.size;simp;omega) (fun k hk=>(qAG HO.out k hk).1);clear hown3 hgrow3 hat hlt3;go_wp2;go_roundw;case rel=>exact⟨k+1,by omega,by go_num,by have:=O3.out;rw[HT.out,HE.out];exact this,B3⟩
       case measure=>simp[intOf];omega
    have f3:decide (((s[k]'hlt).toNat:Int)<32)=false:=by rw[decide_eq_false_iff_not];exact fun e=>hc (.inl e)
    have f4:(((s[k]'hlt).toNat:Int)==127)=false:=by rw[U0];exact fun e=>hc (.inr e)
    have HE:=qA (OH (b:=s[k]'hlt) (by omega) (by omega) (by rw[Bool.eq_false_iff];exact fun e=>hc ((Ad _).2 e)));clear hc hq hq2;go_wp2_with (at_builtin;refine wpList_append_own _ rfl _ _ 140 rfl w.heap.size 5 i0 (.int .u8 0) 1 1 Tryz.underlying140 hi hz0 hz1 hz2 rfl (by decide) _ _ _ rfl (kQ HO.out _) ⟨wr.heap.size,0,none⟩ 1 1 [.int .u8 (s[k]'hlt).toNat] rfl rfl ?c1 ?c2 ?c3 ?c4 ?c5 ?_)
    case c1=>exact zl _ (fun j u h=>by simpa using h)
    case c2=>simp[Value.oneCell']
    case c3=>unfold maxLen;rw[U7];omega
    case c4=>rw[U7];omega
    case c5=>have:=HB.out.size;simp;omega
    intro v' w3 hown3 hgrow3 _;have O3:=qA (ZO (m:=[s[k]'hlt]) hown3);have B3:Hid (Bl w w3):=(HB.out.alloc HB.out.size _).grown hgrow3 (by have:=HB.out.size;simp;omega) (fun k hk=>(qAG HO.out k hk).1);clear hown3 hgrow3;go_wp2;go_roundw;case rel=>exact⟨k+1,by omega,by go_num,by have:=O3.out;rw[HT.out,HE.out];exact this,B3⟩
    case measure=>simp[intOf];omega
   ·
    obtain rfl:k=s.size:=by omega
    have hall:s.data.toList.take s.size=s.data.toList:=U9 (by simp);rw[hall]at HO;have hcv:=YG HO.out;have HQ:=qA (show(34::jR s.data.toList)++[34]=q from HF.out);have HL:=xe s.data.toList;have hsl:s.data.toList.length=s.size:=by simp
    clear hall;go_wp2_with (go_at_call 210;refine(Yu wr.heap.size 0 2 (34::jR s.data.toList) [34] _ (by rw[Uy (hn:=rfl)];rfl) (by rw[Uy (hn:=rfl)];rfl) (by simp) (U3 _) (by simp;omega)).mono ?_)
    rintro e w5 ⟨rfl,b5⟩;rw[HQ.out];go_wp2;go_ret;exact⟨rfl,qF (qE HB.out _) b5⟩
theorem Iy (b:UInt8):vS b<=16:=by
 unfold vS;split
 · omega
 · split<;>omega
def sG:List UInt8:=[48,49,50,51,52,53,54,55,56,57,97,98,99,100,101,102]
theorem Oi: ∀ n:Fin 256,Lib.indexByte sG (UInt8.ofNat n.val)=if vS (UInt8.ofNat n.val)<16 then(vS (UInt8.ofNat n.val):Int)else -1:=by decide+kernel
theorem Oh (b:UInt8):Lib.indexByte sG b=if vS b<16 then(vS b:Int)else -1:=by
 have:=Oi ⟨b.toNat,b.toNat_lt⟩;rw[show UInt8.ofNat (⟨b.toNat,b.toNat_lt⟩:Fin 256).val=b from UInt8.ofNat_toNat]at this;exact this
theorem JI (b:UInt8) (w:World):
  Calls Tryz.prog 274 #[.int .u8 b.toNat] w fun e w'=>e= .returned (.int .u8 (vS b))/\w=w':=by
 have hix:=Tryz.strings_IndexByte ⟨#[48,49,50,51,52,53,54,55,56,57,97,98,99,100,101,102]⟩ (b.toNat:Int) w;rw[show((b.toNat:Int).toNat.toUInt8)=b from UInt8.ofNat_toNat]at hix;rw[show(⟨#[48,49,50,51,52,53,54,55,56,57,97,98,99,100,101,102]⟩:ByteArray).data.toList=sG from rfl,Oh b]at hix;by_cases h:vS b<16
 ·
  rw[U6 h]at hix;obtain⟨v,hv⟩: ∃ v,vS b=v:=⟨_,rfl⟩;rw[hv]at hix h ⊢;go_enter Tryz.func274,Tryz.ntmps274
  go_wp2_with (go_at_call 79;refine hix.mono ?_)
  rintro e w' ⟨rfl,rfl⟩;go_wp2;go_ret;exact⟨qR (by omega),rfl⟩
 ·
  have h16:vS b=16:=by have:=Iy b;omega
  rw[U5 h]at hix;rw[h16];go_enter Tryz.func274,Tryz.ntmps274
  go_wp2_with (go_at_call 79;refine hix.mono ?_)
  rintro e w' ⟨rfl,rfl⟩;go_wp2;go_ret;exact⟨qR (by decide),rfl⟩
theorem DW {s:ByteArray} (h0:s.size=1) (h:(s[0]'(by omega)).toNat=92):wP s.data.toList=none:=by
 have hl:s.data.toList.length=1:=by simpa using h0
 match hm:s.data.toList,hl with
 |[a],_=>
  have e0:=bytes_get? s 0 (by omega);rw[hm]at e0;have e0:a=s[0]'(by omega):=by simpa using e0
  simp[wP,e0,h]
theorem BV {s:ByteArray} (h2:2<=s.size) (h:(s[0]'(by omega)).toNat=92) (hq:(s[1]'(by omega)).toNat=34∨(s[1]'(by omega)).toNat=92):wP s.data.toList=some (s[1]'(by omega),2):=by
 have hl:2<=s.data.toList.length:=by simpa using h2
 match hm:s.data.toList,hl with
 |a::b::r,_=>
  have e0:=bytes_get? s 0 (by omega);have e1:=bytes_get? s 1 (by omega);rw[hm]at e0 e1;have e0:a=s[0]'(by omega):=by simpa using e0
  have e1:b=s[1]'(by omega):=by simpa using e1
  rw[e0,e1];simp[wP,h,hq]
theorem eH {s:ByteArray} (h2:2<=s.size) (h:(s[0]'(by omega)).toNat=92) (h34: ¬ (s[1]'(by omega)).toNat=34) (h92: ¬ (s[1]'(by omega)).toNat=92) (hx: ¬ (s[1]'(by omega)).toNat=120∨s.size<4):wP s.data.toList=none:=by
 have hl:2<=s.data.toList.length:=by simpa using h2
 have hsz:s.data.toList.length=s.size:=by simp
 match hm:s.data.toList,hl with
 |a::b::r,_=>
  have e0:=bytes_get? s 0 (by omega);have e1:=bytes_get? s 1 (by omega);rw[hm]at e0 e1 hsz;have e0:a=s[0]'(by omega):=by simpa using e0
  have e1:b=s[1]'(by omega):=by simpa using e1
  rw[e0,e1];rcases hx with hx|hx
  · simp[wP,h,h34,h92,hx]
  ·
   match r,hsz with
   |[],_=>simp[wP,h,h34,h92]
   |[x],_=>simp[wP,h,h34,h92]
   |x::y::t,hsz=>simp at hsz;omega
theorem MI {s:ByteArray} (h4:4<=s.size) (h:(s[0]'(by omega)).toNat=92) (hx:(s[1]'(by omega)).toNat=120):
  wP s.data.toList=if vS (s[2]'(by omega))<16/\vS (s[3]'(by omega))<16 then some (UInt8.ofNat (16*vS (s[2]'(by omega))+vS (s[3]'(by omega))),4)else none:=by
 have hl:4<=s.data.toList.length:=by simpa using h4
 match hm:s.data.toList,hl with
 |a::b::c::d::r,_=>
  have e0:=bytes_get? s 0 (by omega);have e1:=bytes_get? s 1 (by omega);have e2:=bytes_get? s 2 (by omega);have e3:=bytes_get? s 3 (by omega);rw[hm]at e0 e1 e2 e3;have e0:a=s[0]'(by omega):=by simpa using e0
  have e1:b=s[1]'(by omega):=by simpa using e1
  have e2:c=s[2]'(by omega):=by simpa using e2
  have e3:d=s[3]'(by omega):=by simpa using e3
  rw[e0,e1,e2,e3];simp[wP,h,hx]
theorem DV {s:ByteArray} (h1:0<s.size) (h: ¬ (s[0]'h1).toNat=92):wP s.data.toList=some (s[0]'h1,1):=by
 have hl:1<=s.data.toList.length:=by rw[Array.length_toList];exact h1
 match hm:s.data.toList,hl with
 |a::r,_=>
  have e0:=bytes_get? s 0 (by omega);rw[hm]at e0;have e0:a=s[0]'(by omega):=by simpa using e0
  rw[e0];simp[wP,h]
theorem FW (s:ByteArray) (hs:s.size<=maxLen) (h0:0<s.size) (h:(s[0]'h0).toNat=92) (c:UInt8) (k:Nat) (H:Hid ((wP s.data.toList).getD (0,0)=(c,k))) (w:World):
  Calls Tryz.prog 240 #[.string s] w fun e w'=>e= .returned (.tuple #[.int .u8 c.toNat, .int .i64 k])/\Bl w w':=by
 unfold maxLen at hs;have h92:((s[0]'h0).toNat:Int)=92:=by omega
 by_cases h2:2<=s.size
 ·
  by_cases ha:((s[1]'(by omega)).toNat:Int)=34
  ·
   obtain⟨rfl,rfl⟩:s[1]'(by omega)=c/\2=k:=by have:=H.out;rw[BV h2 h (.inl (by omega))]at this;exact qAE this
   clear H;go_enter Tryz.func240,Tryz.ntmps240
   go_wp2;go_ret2;exact⟨by simp[ha],qB _⟩
  by_cases hb:((s[1]'(by omega)).toNat:Int)=92
  ·
   obtain⟨rfl,rfl⟩:s[1]'(by omega)=c/\2=k:=by have:=H.out;rw[BV h2 h (.inr (by omega))]at this;exact qAE this
   clear H;go_enter Tryz.func240,Tryz.ntmps240
   go_wp2;go_ret2;exact⟨by simp[hb],qB _⟩
  have f1:(((s[1]'(by omega)).toNat:Int)==34)=false:=by rw[U0];exact ha
  have f2:(((s[1]'(by omega)).toNat:Int)==92)=false:=by rw[U0];exact hb
  by_cases h4:4<=s.size
  ·
   by_cases hx:((s[1]'(by omega)).toNat:Int)=120
   ·
    have HX:=qA (MI h4 h (by omega));by_cases d2:vS (s[2]'(by omega))<16
    ·
     by_cases d3:vS (s[3]'(by omega))<16
     ·
      obtain⟨hc,rfl⟩:UInt8.ofNat (16*vS (s[2]'(by omega))+vS (s[3]'(by omega)))=c/\4=k:=by have:=H.out;rw[HX.out,U6 ⟨d2,d3⟩]at this;exact qAE this
      have HC:=qA (show((16*vS (s[2]'(by omega))+vS (s[3]'(by omega)):Nat):Int)=c.toNat by rw[<-hc,UInt8.toNat_ofNat',Nat.mod_eq_of_lt (by omega)]);clear H HX hc;have i2:((vS (s[2]'(by omega)):Nat):Int)<16:=by omega
      have i3:((vS (s[3]'(by omega)):Nat):Int)<16:=by omega
      have e1:IntKind.u8.wrap (16*((vS (s[2]'(by omega)):Nat):Int))=16*((vS (s[2]'(by omega)):Nat):Int):=IntWalk.u8_in _ (by omega);have e2:IntKind.u8.wrap (16*((vS (s[2]'(by omega)):Nat):Int)+((vS (s[3]'(by omega)):Nat):Int))=16*((vS (s[2]'(by omega)):Nat):Int)+((vS (s[3]'(by omega)):Nat):Int):=IntWalk.u8_in _ (by omega);go_enter Tryz.func240,Tryz.ntmps240
      go_wp2_with (go_at_call 274;refine(JI _ _).mono ?_)
      rintro e w' ⟨rfl,rfl⟩;go_wp2_with (go_at_call 274;refine(JI _ _).mono ?_)
      rintro e w' ⟨rfl,rfl⟩;go_wp2;go_quiet ((go_at_call 274;exact Calls.quiet_of_same ((JI _ _).mono fun e w' h=>⟨h.1,h.2.symm⟩)))
      generalize hwz:w.drewN _=wz
      have bz:Bl w wz:=by rw[<-hwz];exact qM (qB _) _
      go_wp2;go_ret2;exact⟨by rw[show((c.toNat:Nat):Int)=16*((vS (s[2]'(by omega)):Nat):Int)+((vS (s[3]'(by omega)):Nat):Int) by have:=HC.out;omega];rfl,bz⟩
     ·
      obtain⟨rfl,rfl⟩:0=c/\0=k:=by have:=H.out;rw[HX.out,U5 (fun e=>d3 e.2)]at this;exact qAE this
      clear H;clear HX;have i2:((vS (s[2]'(by omega)):Nat):Int)<16:=by omega
      have i3: ¬ ((vS (s[3]'(by omega)):Nat):Int)<16:=by omega
      go_enter Tryz.func240,Tryz.ntmps240
      go_wp2_with (go_at_call 274;refine(JI _ _).mono ?_)
      rintro e w' ⟨rfl,rfl⟩;go_wp2_with (go_at_call 274;refine(JI _ _).mono ?_)
      rintro e w' ⟨rfl,rfl⟩;go_wp2;go_ret2;exact⟨by simp,qB _⟩
    ·
     obtain⟨rfl,rfl⟩:0=c/\0=k:=by have:=H.out;rw[HX.out,U5 (fun e=>d2 e.1)]at this;exact qAE this
     clear H;clear HX;have i2: ¬ ((vS (s[2]'(by omega)):Nat):Int)<16:=by omega
     go_enter Tryz.func240,Tryz.ntmps240
     go_wp2_with (go_at_call 274;refine(JI _ _).mono ?_)
     rintro e w' ⟨rfl,rfl⟩;go_wp2;go_ret2;exact⟨by simp,qB _⟩
   ·
    obtain⟨rfl,rfl⟩:0=c/\0=k:=by have:=H.out;rw[eH h2 h (by omega) (by omega) (.inl (by omega))]at this;exact qAE this
    clear H;go_enter Tryz.func240,Tryz.ntmps240
    go_wp2;go_ret2;exact⟨by simp,qB _⟩
  ·
   obtain⟨rfl,rfl⟩:0=c/\0=k:=by have:=H.out;rw[eH h2 h (by omega) (by omega) (.inr (by omega))]at this;exact qAE this
   clear H;go_enter Tryz.func240,Tryz.ntmps240
   go_wp2;go_ret2;exact⟨by simp,qB _⟩
 ·
  obtain⟨rfl,rfl⟩:0=c/\0=k:=by have:=H.out;rw[DW (by omega) h]at this;exact qAE this
  clear H;go_enter Tryz.func240,Tryz.ntmps240
  go_wp2;go_ret2;exact⟨by simp,qB _⟩
end Go.Proofs.YtakedkcjplfgeaaGreatDoor
