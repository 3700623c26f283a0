/- Contracts, proved. Conditions: theirs. -/
import Derived.Test.YtakedkcjplfgeaaGreatDoorMPkWrA
import Derived.RangeFuncNested
import Derived.OwnWalkIn
import Derived.TacticsInMore
import Derived.LoopNIn
import Derived.LoopIn
set_option maxRecDepth 1000000
set_option maxHeartbeats 32000000
open Go.Proofs.Tryz
namespace Go.Proofs.YtakedkcjplfgeaaGreatDoor
open Go.RowKit Go.Shelf
open Frq Thr Tt
attribute [local go_sem] Oper.semAt_some
theorem Ig: ∀ i:Fin 64,IntKind.u64.wrap ((2:Int) ^ i.val)=(2:Int) ^ i.val:=ξ
theorem Il: ∀ a:Fin 256,∀ i:Fin 64,bits .and .u64 ((a.val:Nat):Int) ((2:Int) ^ i.val)=if a.val>>>i.val%2=1 then(2:Int) ^ i.val else 0:=ξ
theorem Oy: ∀ i:Fin 64,((2:Int) ^ i.val != 0)=true:=ξ
theorem Em (i:Nat) (hi:i<64) (w:World):Calls prog 266 #[i] w λq w'=>q=.returned (.int .u64 ((2:Int) ^ i))/\w'=w:=by
 have hw:=Ig ⟨i,hi⟩;simp only at hw;go_enter func266,ntmps266
 go_wp2;go_ret;exact⟨rfl,rfl⟩
theorem N9 (n:Nat) (hn:n<256) (i:Nat) (hi:i<64) (r:Bool) (hr:Hid (decide (n>>>i%2=1)=r)) (w:World):Calls prog 218 #[.int .u64 n,i] w λq w'=>q=.returned (r:Z)/\w'=w:=by
 have ha:=Il ⟨n,hn⟩ ⟨i,hi⟩;have hp:=Oy ⟨i,hi⟩;simp only at ha hp;cases r with
 |true=>
  rw[U6 (of_decide_eq_true hr.o)]at ha;go_enter func218,ntmps218
  go_wp2_with (go_at_call 266;refine(Em i hi _).mono ?_;rintro y w1 ⟨rfl,rfl⟩)
  go_ret;exact⟨rfl,rfl⟩
 |false=>
  rw[U5 (of_decide_eq_false hr.o)]at ha;go_enter func218,ntmps218
  go_wp2_with (go_at_call 266;refine(Em i hi _).mono ?_;rintro y w1 ⟨rfl,rfl⟩)
  go_ret;exact⟨rfl,rfl⟩
abbrev NZ (Bn:Nat) (A B:World):Prop:=B.heap[Bn]? =A.heap[Bn]?
theorem Lc {Bn:Nat} {w:World} (hn:Bn<w.heap.size) (W:World) (l:Nat) (o o':Obj) (hl:w.heap.size<=l) (_:W.heap[l]? =some o) (_:o.isCells=false) (_:o.isWalk=false):NZ Bn W (W.putObj l o'):=
 World.putObj_heap_other ω
theorem V7 {β:Type} {Bn B:Nat} {O:β->Obj} (h:Bn<B):OwnFrom B (fun(x:β) W=>W.heap[Bn]? =some (O x)):=
 λ_ W W' _ hs hg hr=>(hg.block Bn (Array.getElem?_eq_some_iff.1 hs).1 (λe=>by have:=(hr Bn e.symm).1;omega)).trans hs
abbrev aj (n:Nat):Obj:=.cells #[.int .u64 n] 194
theorem Io (n:Nat) (k:Nat) (w:World):
  Go.CallsIn Fence.wide k prog 153 #[.int .u64 n] w λe w'=>e=.returned (.func (.func 217) #[] #[(w.heap.size,0)])/\w'=w.alloc (aj n):=by
 refine callsIn_of_wp func153 rfl trivial ?_ rfl;simp only[ntmps153,List.size_toArray,U7,List.length_nil,Nat.reduceAdd,Nat.reduceSub,Array.replicate_succ,Array.replicate_zero,List.push_toArray,List.append_toArray,List.nil_append,List.cons_append];gi_wp2
 go_ret;exact⟨rfl,rfl⟩
theorem Eh (m:Nat) (hm:m<256) (n:Nat) (hn:1<=n) (l Bn:Nat) (J Jx:List (Fin 8)->World->Prop)
  (hY: ∀ pre (x:Fin 8) W,J pre W->pre.length<64->YieldAt Fence.wide (n-1) prog l #[x.val] W λe W'=>
   (e=.returned (true:Z)/\J (pre++[x]) W'/\W'.heap[Bn]? =W.heap[Bn]?)∨(e=.returned (false:Z)/\Jx (pre++[x]) W'))
  (W:World) (hBn:W.heap[Bn]? =some (aj m)) (h0:J [] W):
  Go.CallsIn Fence.wide n prog 217 #[.func (.yield l) #[] #[],(Bn,0)] W λe W'=>(∃ v,e=.returned v)/\
   ((∃ ys,ys.map Fin.val=vz m 64/\J ys W')∨(∃ pre,True/\Jx pre W')):=by
 have HB:=qA hBn;clear hBn;refine callsIn_of_wp func217 rfl trivial ?_ rfl;simp only[ntmps217,List.size_toArray,U7,List.length_nil,Nat.reduceAdd,Nat.reduceSub,Array.replicate_succ,Array.replicate_zero,List.push_toArray,List.append_toArray,List.nil_append,List.cons_append];have hfn:Fence.wide.fn 218:=trivial;gi_wp2_with fail
 gi_loopw [4] (λt wr=> ∃ (k:Nat) (pre:List (Fin 8)),k<=64/\t=k/\Hid (pre.map Fin.val=vz m k)/\J pre wr/\wr.heap[Bn]? =some (aj m)) (λt _=>64-(intOf t).toNat)
 case atStart=>exact⟨0,[],ω,rfl,by show _=_;rfl,h0,HB.o⟩
 obtain⟨k,pre,hk,rfl,HP,hJs,hBk⟩:=hrel;have c0:wr.cell? (Bn,0)=some (.int .u64 m):=qC hBk 0 _ rfl;have HBk:=qA hBk;clear hBk;by_cases hlt:k<64
 ·
  have hlI:(k:Int)<64:=ω
  obtain⟨r,hr⟩:=ε (decide (m>>>k%2=1));have hc:=N9 m hm k hlt r (qA hr);cases r with
  |true=>
   have hS:=rV (of_decide_eq_true hr);have hk8:k<8:=Bz hm (by rw[hS];simp);have HS:=qA (show(pre++[(⟨k,hk8⟩:Fin 8)]).map Fin.val=vz m (k+1) by rw[hS,List.map_append,HP.o];rfl);have hlen:pre.length<64:=by
    have h1:=congrArg List.length HP.o;rw[U4]at h1;have:=rU m k;omega
   obtain⟨fn,tmps,assign,body,hy,hR⟩:=hY pre ⟨k,hk8⟩ wr hJs hlen;clear hr hS;gi_wp2_with (gi_at_call 218;refine(callsIn_wide.2 (hc _)).mono ?_;rintro y2 w2 ⟨rfl,rfl⟩)
   gi_wp2
   refine hR.mono ?_;rintro e W3 (⟨rfl,hJ3,hk3⟩|⟨rfl,hJx3⟩)
   ·
    gi_wp2
    go_roundw;case rel=>exact⟨k+1,_,ω,by go_num,HS,hJ3,hk3.trans HBk.o⟩
    simp[intOf];omega
   gi_wp2
   refine bodyPost_ret (results_none rfl _ _ _) rfl ?_;exact⟨⟨_,rfl⟩,.inr ⟨_,trivial,hJx3⟩⟩
  |false=>
   have HS:=qA (bV (of_decide_eq_false hr));clear hr;gi_wp2_with (gi_at_call 218;refine(callsIn_wide.2 (hc _)).mono ?_;rintro y2 w2 ⟨rfl,rfl⟩)
   refine⟨λf h=>(by cases h), ?_⟩;gi_wp2
   go_roundw;case rel=>exact⟨k+1,pre,ω,by go_num,by rw[HS.o];exact HP,hJs,HBk.o⟩
   simp[intOf];omega
 obtain rfl:k=64:=ω
 gi_wp2
 go_end0;exact⟨⟨_,rfl⟩,.inl ⟨_,HP.o,hJs⟩⟩
theorem rQ (m:Nat) (hm:m<256) (n:Nat) (hn:1<=n) (Bn:Nat) (w:World) (hB:w.heap[Bn]? =some (aj m)):
  SeqStopsK Fence.wide n prog 217 #[(Bn,0)] (λx:Fin 8=> #[Value.int .i64 x.val]) (NZ Bn) (λys=>ys.map Fin.val=vz m 64) (λ_=>True) 64 w:=λl J Jx W hW _ _ hY h0=>
 Eh m hm n hn l Bn J Jx hY W ((hW.block Bn (Array.getElem?_eq_some_iff.1 hB).1).trans hB) h0
end Go.Proofs.YtakedkcjplfgeaaGreatDoor
namespace Go.Proofs.YtakedkcjplfgeaaGreatDoor
open Go.RowKit Go.Shelf
open Frq Thr Tt
abbrev wb (b:Bool):Value:=.int .u8 (if b then 49 else 48)
theorem Pm (W:World) (b:Nat) (x0 x1 x2 x3 x4 x5 x6:Int) (h0:W.cell? (b,0)=some (.int .u8 x0)) (h1:W.cell? (b,1)=some (.int .u8 x1)) (h2:W.cell? (b,2)=some (.int .u8 x2)) (h3:W.cell? (b,3)=some (.int .u8 x3)) (h4:W.cell? (b,4)=some (.int .u8 x4)) (h5:W.cell? (b,5)=some (.int .u8 x5)) (h6:W.cell? (b,6)=some (.int .u8 x6)):
  (convert 140 9 ((b,0,7,7):Z)).run prog W=.ok (.string ⟨#[UInt8.ofNat x0.toNat,UInt8.ofNat x1.toNat,UInt8.ofNat x2.toNat,UInt8.ofNat x3.toNat,UInt8.ofNat x4.toNat,UInt8.ofNat x5.toNat,UInt8.ofNat x6.toNat]⟩) W:=
 run_convert_bytes_arg W 140 5 underlying140 underlying5 b 0 7 7 [x0,x1,x2,x3,x4,x5,x6] rfl (by
  intro i hi
  match i,hi with
  |0,_=>simpa using h0
  |1,_=>simpa using h1
  |2,_=>simpa using h2
  |3,_=>simpa using h3
  |4,_=>simpa using h4
  |5,_=>simpa using h5
  |6,_=>simpa using h6) 9 underlying9
def SA (x:Vw):Nat->Array Value
 |0=> #[.int .u8 0,.int .u8 0,.int .u8 0,.int .u8 0,.int .u8 0,.int .u8 0,.int .u8 0]
 |1=> #[wb x.d0,.int .u8 0,.int .u8 0,.int .u8 0,.int .u8 0,.int .u8 0,.int .u8 0]
 |2=> #[wb x.d0,wb x.d1,.int .u8 0,.int .u8 0,.int .u8 0,.int .u8 0,.int .u8 0]
 |3=> #[wb x.d0,wb x.d1,wb x.d2,.int .u8 0,.int .u8 0,.int .u8 0,.int .u8 0]
 |4=> #[wb x.d0,wb x.d1,wb x.d2,wb x.d3,.int .u8 0,.int .u8 0,.int .u8 0]
 |5=> #[wb x.d0,wb x.d1,wb x.d2,wb x.d3,wb x.d4,.int .u8 0,.int .u8 0]
 |6=> #[wb x.d0,wb x.d1,wb x.d2,wb x.d3,wb x.d4,wb x.d5,.int .u8 0]
 |_=> #[wb x.d0,wb x.d1,wb x.d2,wb x.d3,wb x.d4,wb x.d5,wb x.d6]
theorem Eg (b:Bool):UInt8.ofNat (if b then(49:Int)else 48).toNat=ai b:=by cases b<;>rfl
theorem NW (x:Vw) (w:World):Calls prog 72 #[.agg #[x.d0,x.d1,x.d2,x.d3,x.d4,x.d5,x.d6]] w λq w'=>q=.returned (qP (Qk x))/\Bl w w':=by
 obtain⟨d0,d1,d2,d3,d4,d5,d6⟩:=x;obtain⟨w2,hw2⟩:=ε ((w.alloc (.cells #[d0,d1,d2,d3,d4,d5,d6] 59)).alloc (.cells #[.int .u8 0,.int .u8 0,.int .u8 0,.int .u8 0,.int .u8 0,.int .u8 0,.int .u8 0] 191));have H2:=qA (show w2.heap[w.heap.size+1]? =some (.cells (SA ⟨d0,d1,d2,d3,d4,d5,d6⟩ 0) 191 (0,0)) by
  rw[<-hw2];have:=heap_alloc_new (w.alloc (.cells #[d0,d1,d2,d3,d4,d5,d6] 59)) (.cells #[.int .u8 0,.int .u8 0,.int .u8 0,.int .u8 0,.int .u8 0,.int .u8 0,.int .u8 0] 191);rw[show(w.alloc (.cells #[d0,d1,d2,d3,d4,d5,d6] 59)).heap.size=w.heap.size+1 by simp]at this;exact this)
 have H1:=qA (show w2.heap[w.heap.size]? =some (.cells #[d0,d1,d2,d3,d4,d5,d6] 59 (0,0)) by rw[<-hw2];exact qX (heap_alloc_new w _) (qE (qB _) _));have e0:w2.cell? (w.heap.size,0)=some (d0:Z):=qC H1.o 0 _ rfl;have e1:w2.cell? (w.heap.size,1)=some (d1:Z):=qC H1.o 1 _ rfl;have e2:w2.cell? (w.heap.size,2)=some (d2:Z):=qC H1.o 2 _ rfl;have e3:w2.cell? (w.heap.size,3)=some (d3:Z):=qC H1.o 3 _ rfl;have e4:w2.cell? (w.heap.size,4)=some (d4:Z):=qC H1.o 4 _ rfl;have e5:w2.cell? (w.heap.size,5)=some (d5:Z):=qC H1.o 5 _ rfl;have e6:w2.cell? (w.heap.size,6)=some (d6:Z):=qC H1.o 6 _ rfl;have B2:=qA (show Bl w w2 by rw[<-hw2];exact qE (qE (qB _) _) _);have y0: ∀ w:World,(Instr.index 59 (.agg #[d0,d1,d2,d3,d4,d5,d6]) (.int .i64 0)).run prog w=.ok (d0:Z) w:=λ_=>by kernel_rfl
 have y1: ∀ w:World,(Instr.index 59 (.agg #[d0,d1,d2,d3,d4,d5,d6]) (.int .i64 1)).run prog w=.ok (d1:Z) w:=λ_=>by kernel_rfl
 have y2: ∀ w:World,(Instr.index 59 (.agg #[d0,d1,d2,d3,d4,d5,d6]) (.int .i64 2)).run prog w=.ok (d2:Z) w:=λ_=>by kernel_rfl
 have y3: ∀ w:World,(Instr.index 59 (.agg #[d0,d1,d2,d3,d4,d5,d6]) (.int .i64 3)).run prog w=.ok (d3:Z) w:=λ_=>by kernel_rfl
 have y4: ∀ w:World,(Instr.index 59 (.agg #[d0,d1,d2,d3,d4,d5,d6]) (.int .i64 4)).run prog w=.ok (d4:Z) w:=λ_=>by kernel_rfl
 have y5: ∀ w:World,(Instr.index 59 (.agg #[d0,d1,d2,d3,d4,d5,d6]) (.int .i64 5)).run prog w=.ok (d5:Z) w:=λ_=>by kernel_rfl
 have y6: ∀ w:World,(Instr.index 59 (.agg #[d0,d1,d2,d3,d4,d5,d6]) (.int .i64 6)).run prog w=.ok (d6:Z) w:=λ_=>by kernel_rfl
 go_enter func72,ntmps72
 go_wp2_with fail;clear hw2 e0 e1 e2 e3 e4 e5 e6 H1;go_loopw [7] (λi wr=> ∃ k:Nat,(k<=7/\i=k)/\Hid (wr.heap[w.heap.size+1]? =some (.cells (SA ⟨d0,d1,d2,d3,d4,d5,d6⟩ k) 191 (0,0)))/\Hid (Bl w wr)) (λi _=>7-(intOf i).toNat)
 case atStart=>exact⟨0,⟨ω,rfl⟩,H2,B2⟩
 obtain⟨k,⟨hk,rfl⟩,HC,HB⟩:=hrel;have fr:=U8 HC.o;by_cases hlt:k<7
 ·
  obtain rfl|rfl|rfl|rfl|rfl|rfl|rfl:k=0∨k=1∨k=2∨k=3∨k=4∨k=5∨k=6:=ω
  ·
   have c:wr.cell? (w.heap.size+1,0)=some (.int .u8 0):=qC HC.o 0 _ rfl;cases d0 with
   |true=>
    go_wp2;go_roundw;case rel=>exact⟨1,⟨ω,rfl⟩,qQ (qQ HC.o 0 (.int .u8 48)) 0 (.int .u8 49),zF (zF HB.o (Nat.le_succ _) _) (Nat.le_succ _) _⟩
    simp[intOf]
   |false=>
    go_wp2;go_roundw;case rel=>exact⟨1,⟨ω,rfl⟩,qQ HC.o 0 (.int .u8 48),zF HB.o (Nat.le_succ _) _⟩
    simp[intOf]
  ·
   have c:wr.cell? (w.heap.size+1,1)=some (.int .u8 0):=qC HC.o 1 _ rfl;cases d1 with
   |true=>
    go_wp2;go_roundw;case rel=>exact⟨2,⟨ω,rfl⟩,qQ (qQ HC.o 1 (.int .u8 48)) 1 (.int .u8 49),zF (zF HB.o (Nat.le_succ _) _) (Nat.le_succ _) _⟩
    simp[intOf]
   |false=>
    go_wp2;go_roundw;case rel=>exact⟨2,⟨ω,rfl⟩,qQ HC.o 1 (.int .u8 48),zF HB.o (Nat.le_succ _) _⟩
    simp[intOf]
  ·
   have c:wr.cell? (w.heap.size+1,2)=some (.int .u8 0):=qC HC.o 2 _ rfl;cases d2 with
   |true=>
    go_wp2;go_roundw;case rel=>exact⟨3,⟨ω,rfl⟩,qQ (qQ HC.o 2 (.int .u8 48)) 2 (.int .u8 49),zF (zF HB.o (Nat.le_succ _) _) (Nat.le_succ _) _⟩
    simp[intOf]
   |false=>
    go_wp2;go_roundw;case rel=>exact⟨3,⟨ω,rfl⟩,qQ HC.o 2 (.int .u8 48),zF HB.o (Nat.le_succ _) _⟩
    simp[intOf]
  ·
   have c:wr.cell? (w.heap.size+1,3)=some (.int .u8 0):=qC HC.o 3 _ rfl;cases d3 with
   |true=>
    go_wp2;go_roundw;case rel=>exact⟨4,⟨ω,rfl⟩,qQ (qQ HC.o 3 (.int .u8 48)) 3 (.int .u8 49),zF (zF HB.o (Nat.le_succ _) _) (Nat.le_succ _) _⟩
    simp[intOf]
   |false=>
    go_wp2;go_roundw;case rel=>exact⟨4,⟨ω,rfl⟩,qQ HC.o 3 (.int .u8 48),zF HB.o (Nat.le_succ _) _⟩
    simp[intOf]
  ·
   have c:wr.cell? (w.heap.size+1,4)=some (.int .u8 0):=qC HC.o 4 _ rfl;cases d4 with
   |true=>
    go_wp2;go_roundw;case rel=>exact⟨5,⟨ω,rfl⟩,qQ (qQ HC.o 4 (.int .u8 48)) 4 (.int .u8 49),zF (zF HB.o (Nat.le_succ _) _) (Nat.le_succ _) _⟩
    simp[intOf]
   |false=>
    go_wp2;go_roundw;case rel=>exact⟨5,⟨ω,rfl⟩,qQ HC.o 4 (.int .u8 48),zF HB.o (Nat.le_succ _) _⟩
    simp[intOf]
  ·
   have c:wr.cell? (w.heap.size+1,5)=some (.int .u8 0):=qC HC.o 5 _ rfl;cases d5 with
   |true=>
    go_wp2;go_roundw;case rel=>exact⟨6,⟨ω,rfl⟩,qQ (qQ HC.o 5 (.int .u8 48)) 5 (.int .u8 49),zF (zF HB.o (Nat.le_succ _) _) (Nat.le_succ _) _⟩
    simp[intOf]
   |false=>
    go_wp2;go_roundw;case rel=>exact⟨6,⟨ω,rfl⟩,qQ HC.o 5 (.int .u8 48),zF HB.o (Nat.le_succ _) _⟩
    simp[intOf]
  have c:wr.cell? (w.heap.size+1,6)=some (.int .u8 0):=qC HC.o 6 _ rfl;cases d6 with
  |true=>
   go_wp2;go_roundw;case rel=>exact⟨7,⟨ω,rfl⟩,qQ (qQ HC.o 6 (.int .u8 48)) 6 (.int .u8 49),zF (zF HB.o (Nat.le_succ _) _) (Nat.le_succ _) _⟩
   simp[intOf]
  |false=>
   go_wp2;go_roundw;case rel=>exact⟨7,⟨ω,rfl⟩,qQ HC.o 6 (.int .u8 48),zF HB.o (Nat.le_succ _) _⟩
   simp[intOf]
 obtain rfl:k=7:=ω
 have c0:wr.cell? (w.heap.size+1,0)=some (wb d0):=qC HC.o 0 _ rfl;have c1:wr.cell? (w.heap.size+1,1)=some (wb d1):=qC HC.o 1 _ rfl;have c2:wr.cell? (w.heap.size+1,2)=some (wb d2):=qC HC.o 2 _ rfl;have c3:wr.cell? (w.heap.size+1,3)=some (wb d3):=qC HC.o 3 _ rfl;have c4:wr.cell? (w.heap.size+1,4)=some (wb d4):=qC HC.o 4 _ rfl;have c5:wr.cell? (w.heap.size+1,5)=some (wb d5):=qC HC.o 5 _ rfl;have c6:wr.cell? (w.heap.size+1,6)=some (wb d6):=qC HC.o 6 _ rfl;have hcv:=Pm wr (w.heap.size+1) _ _ _ _ _ _ _ c0 c1 c2 c3 c4 c5 c6;simp only[Eg]at hcv;clear c0 y0 c1 y1 c2 y2 c3 y3 c4 y4 c5 y5 c6 y6;go_wp2;go_ret;exact⟨rfl,HB.o⟩
attribute [local go_sem] Oper.semAt_some
theorem pV (a b:Ψ):(.string ((⟨a.toArray⟩:ByteArray)++⟨b.toArray⟩):Value)=qP (a++b):=by
 show Value.string _=Value.string _
 congr 1
abbrev YR (pre:List (Fin 8)):List UInt8:=Qg (pre.map Fin.val)
theorem Ba (pre:List (Fin 8)): ∀ i∈pre.map Fin.val,i<8:=λi hi=>by
 obtain⟨x,-,rfl⟩:=List.mem_map.1 hi;exact x.isLt
theorem Dk (pre:List (Fin 8)) (x:Fin 8):YR (pre++[x])=if YR pre=[]then Jt x.val else YR pre++[43]++Jt x.val:=by
 unfold YR;rw[List.map_append,List.map_cons,List.map_nil,uI (Ba pre)]
theorem Ie: ∀ a:Fin 256,IntKind.u64.wrap ((a.val:Nat):Int)=((a.val:Nat):Int):=ξ
abbrev fU (l:Ψ):Obj:=.cells #[qP l] 9
theorem EY (n:Nat) (h1n:1<=n) (hn:n<=255) (w:World) (nm:yS w):
  Calls prog 78 #[.int .i64 n] w λq w'=>q= .returned (.tuple #[qP (Qg (vz n 64)), .int .i64 0])/\Bl w w':=by
 refine(callsIn_wide (n:=3)).1 ?_;have h1:1<=3:=ω
 have NM:=qA nm;have hnl:0<w.heap.size:=World.block_lt_of_cell? w _ (nm 0 _ rfl);have n0: ¬ (n:Int)<0:=ω
 have n1: ¬ (255:Int)<n:=ω
 have n2:((n:Int)==0)=false:=π
 have hcv:IntKind.u64.wrap (n:Int)=n:=Ie ⟨n,ω⟩;clear nm;refine callsIn_of_wp_marks func78 rfl trivial ?_ rfl;simp only[ntmps78,List.size_toArray,U7,List.length_nil,Nat.reduceAdd,Nat.reduceSub,Array.replicate_succ,Array.replicate_zero,List.push_toArray,List.append_toArray,List.nil_append,List.cons_append];have hfn:Fence.wide.fn 153:=trivial;gi_wp2_with (gi_at_call 153;refine(Io n _ _).mono ?_;rintro e w2 ⟨rfl,rfl⟩)
 have hB0:Bl w ((w.alloc (fU [])).alloc (aj n)):=qE (qE (qB _) _) _;have bS:((w.alloc (fU [])).alloc (aj n)).heap[w.heap.size]? =some (fU []):=qX (heap_alloc_new w _) (qE (qB _) _);have bN:((w.alloc (fU [])).alloc (aj n)).heap[w.heap.size+1]? =some (aj n):=by
  have:=heap_alloc_new (w.alloc (fU [])) (aj n);rw[show(w.alloc (fU [])).heap.size=w.heap.size+1 by simp]at this;exact this
 refine wpIn_rangeFunc_ownG rfl h1 (gf:=217) (lb:= #[.pointer (some ⟨w.heap.size+1,0,none⟩)]) rfl trivial (enters_of func217 κ rfl)
  (rQ n ω (3-1) ω (w.heap.size+1) _ bN) (λh k=>k.trans h) (Lc σ) (Below.refl _ _) (λ_=>rfl)
  (λpre W=>(W.heap[w.heap.size]? =some (fU (YR pre))/\Below w.heap.size w W)/\W.heap[w.heap.size+1]? =some (aj n))
  (λ_ _ _=>False)
  (OwnFrom.and (OwnFrom.and (V7 τ) (ownFrom_below (U3 _) τ)) (V7 σ))
  (λ_ _ _ _ _ hs _ _=>hs)
  ⟨⟨bS,hB0⟩,bN⟩
  (λx=>{ tmps:= #[.int .i64 n,undef, .string ⟨#[]⟩, .int .i64 0, .pointer (some ⟨w.heap.size,0,none⟩), .int .i64 x.val, .int .i64 n, .bool false, .bool false, .int .i64 n, .bool false, .bool false, .int .i64 n, .bool false, .int .i64 n, .int .u64 n,
   .func (.func 217) #[] #[.pointer (some ⟨w.heap.size+1,0,none⟩)], .int .i64 x.val,undef,undef,undef,undef,undef,undef,undef,undef,undef,undef],defers:=[] }) ?assign ?body ?done ?stop
 case assign=>
  intro l x W K hK;gi_wp2
  exact hK
 case body=>
  rintro l pre x W ⟨⟨hS,hB⟩,hN⟩ hlt;have HS:=qA hS;have HN:=qA hN;have HB:=qA hB;have hc:W.cell? ⟨w.heap.size,0,none⟩=some (qP (YR pre)):=qC hS 0 _ rfl;have hf:=U8 hS 0;have hg:W.cell? ⟨0,x.val,none⟩=some (qP (Jt x.val)):=by
   rw[(qG hB).1 _ _ hnl];obtain⟨x,hx⟩:=x;refine NM.o x _ ?_;show modeWords[x]? =some (modeWords.getD x [])
   rw[List.getD_eq_getElem?_getD,U2 (show x<modeWords.length from hx)];rfl
  have hxl:((x.val:Nat):Int)<8:=by have:=x.isLt;omega
  have hpl:(YR pre).length<=640:=by
   have h2:=dn (Ba pre);rw[U4]at h2;unfold YR;omega
  have hml:=Vm x.isLt;have HSN:=qA (Dk pre x);have hsz:w.heap.size+1≠w.heap.size:=ω
  clear hS hN hB;obtain⟨l0,hl0⟩:=ε (YR pre);rw[hl0]at hc hpl HSN HS;obtain⟨q,hq⟩:=ε (Jt x.val);rw[hq]at hg hml HSN;clear hl0 hq;by_cases he:l0=[]
  ·
   subst he;have ha:=λW=>run_string_add_sum (P:=prog) W ⟨#[]⟩ ⟨q.toArray⟩ (by show 0+q.toArray.size<=_;rw[List.size_toArray];omega)
   have hz:(.string ((⟨#[]⟩:ByteArray)++⟨q.toArray⟩):Value)=qP (YR (pre++[x])):=by rw[HSN.o,U6 rfl];exact pV [] q
   have HZ:=qA hz;clear hz;gi_wp2_with fail
   gi_region
   all_goals
    have h1:(W.setCell ⟨w.heap.size,0,none⟩ (.string ((⟨#[]⟩:ByteArray)++⟨q.toArray⟩))).heap[w.heap.size]? =some (fU (YR (pre++[x]))):=by rw[HZ.o];exact qQ HS.o 0 _
    have h2:(W.setCell ⟨w.heap.size,0,none⟩ (.string ((⟨#[]⟩:ByteArray)++⟨q.toArray⟩))).heap[w.heap.size+1]? =W.heap[w.heap.size+1]? :=Below.heap_setCell W ⟨w.heap.size,0,none⟩ _ _ hsz;exact⟨(KeepsOthers.trans (KeepsOthers.setCell W _ _) (KeepsOthers.drew _)).from _,h2,⟨⟨h1,qH (zF HB.o (U3 _) _)⟩,h2.trans HN.o⟩⟩
  have hne:l0.isEmpty=false:=by
   cases l0 with
   |nil=>exact absurd rfl he
   |cons a r=>rfl
  have ha:=λW=>run_string_add_sum (P:=prog) W ⟨l0.toArray⟩ ⟨#[43]⟩ (by show l0.toArray.size+1<=_;rw[List.size_toArray];omega)
  have ha2:=λW=>run_string_add_sum (P:=prog) W (⟨l0.toArray⟩++⟨#[43]⟩) ⟨q.toArray⟩ (by rw[ByteArray.size_append];show l0.toArray.size+1+q.toArray.size<=_;rw[List.size_toArray,List.size_toArray];omega)
  have hz:(.string (((⟨l0.toArray⟩:ByteArray)++⟨#[43]⟩)++⟨q.toArray⟩):Value)=qP (YR (pre++[x])):=by
   rw[HSN.o,U5 he,<-pV];rfl
  have HZ:=qA hz;clear hz;gi_wp2_with fail
  gi_region
  all_goals
   have h0:=qQ HS.o 0 (.string ((⟨l0.toArray⟩:ByteArray)++⟨#[43]⟩));have h1:((W.setCell ⟨w.heap.size,0,none⟩ (.string ((⟨l0.toArray⟩:ByteArray)++⟨#[43]⟩))).setCell ⟨w.heap.size,0,none⟩ (.string (((⟨l0.toArray⟩:ByteArray)++⟨#[43]⟩)++⟨q.toArray⟩))).heap[w.heap.size]? =some (fU (YR (pre++[x]))):=by rw[HZ.o];exact qQ h0 0 _
   have h2:((W.setCell ⟨w.heap.size,0,none⟩ (.string ((⟨l0.toArray⟩:ByteArray)++⟨#[43]⟩))).setCell ⟨w.heap.size,0,none⟩ (.string (((⟨l0.toArray⟩:ByteArray)++⟨#[43]⟩)++⟨q.toArray⟩))).heap[w.heap.size+1]? =W.heap[w.heap.size+1]? :=(Below.heap_setCell _ ⟨w.heap.size,0,none⟩ _ _ hsz).trans (Below.heap_setCell W ⟨w.heap.size,0,none⟩ _ _ hsz);exact⟨(KeepsOthers.trans (KeepsOthers.setCell W _ _) (KeepsOthers.trans (KeepsOthers.setCell _ _ _) (KeepsOthers.drew _))).from _,h2,⟨⟨h1,qH (zF (zF HB.o (U3 _) _) (U3 _) _)⟩,h2.trans HN.o⟩⟩
 case done=>
  rintro D ys W hD hys ⟨⟨hS,hB⟩,-⟩ hK;have hc:W.cell? ⟨w.heap.size,0,none⟩=some (qP (YR ys)):=qC hS 0 _ rfl;have HY:=qA (show YR ys=Qg (vz n 64) by unfold YR;rw[hys]);clear hys hS;gi_wp2
  refine⟨σ, .inl ⟨_,_,rfl,run_takeDeferred hK, ?_⟩⟩;refine⟨_,results_tmp2 rfl _ _ _, ?_,hB.trans (belowK_b (w:=w) (U3 _) W D _ _ (by simp at hD;omega) hK rfl rfl)⟩;rw[<-HY.o];rfl
 rintro D c pre W _ _ h _;exact h.elim
theorem Ic (m:Int) (hm:0<=m/\m<=255) (w:World) (nm:yS w):
  Calls prog 78 #[m] w λq w'=>q=.returned (.tuple #[qP (vU m),.int .i64 0])/\Bl w w':=by
 obtain⟨n,rfl⟩:=Int.eq_ofNat_of_zero_le hm.1;by_cases h0:n=0
 ·
  subst h0;clear nm hm;go_enter func78,ntmps78
  go_wp2;go_ret2;exact⟨rfl,qB _⟩
 have:=EY n ω ω w nm;rw[DL ω hm.2];exact this
