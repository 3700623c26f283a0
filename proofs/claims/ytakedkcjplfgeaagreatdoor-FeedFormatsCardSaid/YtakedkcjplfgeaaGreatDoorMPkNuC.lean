/- Contracts, proved. Conditions: each contract's own. -/
import Derived.Test.YtakedkcjplfgeaaGreatDoorMPkNuA
import Derived.Test.YtakedkcjplfgeaaGreatDoorMPkBase
import Derived.Lib.SmallJoins
import Derived.Deep.RegionWith
import Derived.BigQuiet
set_option maxRecDepth 1000000
set_option maxHeartbeats 32000000
namespace Go.Proofs.YtakedkcjplfgeaaGreatDoor.Nu
open Go.RowKit
open Num
abbrev qP (l:List UInt8):Value:= .string ⟨l.toArray⟩
def Jw (w:World) (b:Nat) (xs:List Int):Prop:= ∀ j,j<xs.length->w.cell? ⟨b,j,none⟩=some (.int .u8 (xs.getD j 0))/\w.frozen? ⟨b,j,none⟩=false
theorem Jw.set {w:World} {b:Nat} {xs:List Int} (h:Jw w b xs) (i:Nat) (hi:i<xs.length) (v:Int):Jw (w.setCell ⟨b,i,none⟩ (.int .u8 v)) b (xs.set i v):=by
 intro j hj;simp only[List.length_set]at hj;obtain⟨hc,hf⟩:=h j hj;by_cases e:j=i
 ·
  subst e;refine⟨?_,by rw[World.frozen?_setCell];exact hf⟩;rw[World.cell?_setCell_same (h:=hc)];simp[List.getD,hi]
 ·
  refine⟨?_,by rw[World.frozen?_setCell];exact hf⟩;rw[World.cell?_setCell_other (h:=by intro k;exact e (by simpa using k.symm)),hc];simp[List.getD,Ne.symm e]
def PZ (w:World) (n:Int) (N:Nat) (a':Act) (w':World):Prop:=
 ∃ (i m:Nat) (xs:List Int) (ds:List UInt8) (u6 u7 u8 u9 u10 u11 u12 u13 u14 u15 u16 u17 u18 u19 u20 u21 u22 u23:Value),a'={ tmps:= #[.int .i64 n,undef, .string ⟨#[]⟩, .pointer (some ⟨w.heap.size,0,none⟩), .int .i64 i, .int .u64 m,u6,u7,u8,u9,u10,u11,u12,u13,u14,u15,u16,u17,u18,u19,u20,u21,u22,u23,undef,undef,undef,undef,undef,undef,undef,undef,undef],defers:=[] }/\
  i+ds.length=20/\0<m/\m<=9223372036854775808/\qL N=qL m++ds/\xs.length=20/\xs.drop i=ds.map (fun c=>(c.toNat:Int))/\Jw w' w.heap.size xs/\Below w.heap.size w w'
theorem Yw (k:Nat) (xs:List Int) (h:k<xs.length) (v:Int):(xs.set k v).drop k=v::xs.drop (k+1):=by
 induction xs generalizing k with
 |nil=>simp at h
 |cons a t ih=>
  cases k with
  |zero=>simp
  |succ k=>simpa using ih k (by simpa using h)
theorem xn (w:World) (xs:List Int) (c:Array Value) (hc:c=(xs.map (Value.int .u8)).toArray) (T:TypeId):Jw (w.alloc (.cells c T)) w.heap.size xs:=by
 intro j hj;subst hc;refine⟨?_, ?_⟩
 ·
  rw[Uy (hn:=rfl)];simp[List.getD,hj]
 · simp[go_sem]
theorem yQ (l:List UInt8):strOfNums (l.map (fun c=>(c.toNat:Int)))=⟨l.toArray⟩:=by
 unfold strOfNums;rw[List.map_map];congr 2
 have:((fun n:Int=>UInt8.ofNat n.toNat) ∘ fun c:UInt8=>(c.toNat:Int))=id:=by
  funext c
  simp
 rw[this,List.map_id]
theorem Ws (b:Nat) (z:Int) (k:Nat) (hz:z=(k:Int)) (hk:k<20) (W:World):
  (Instr.sliceAt 188 (.pointer (some ⟨b,0,none⟩)) (some (.int .i64 z)) none none).run Tryz.prog W= .ok (.slice (some ⟨b,k,none⟩) (20-k) (20-k)) W:=by
 subst hz;have h20:Tryz.prog.arrayLen 188=20:=by kernel_rfl
 have hs:(sizeOf (Tryz.prog.elem 188)).run Tryz.prog W= .ok 1 W:=by kernel_rfl
 rw[run_sliceAt_array_l (P:=Tryz.prog) W 188 ⟨b,0,none⟩ (by kernel_rfl) .i64 k (by omega) (by rw[h20];omega),hs,h20];have: ¬ 20=k:=by omega
 simp[Result.andThen,slicedAt,this,Addr.add]
 intro h;omega
theorem xQ (m:Nat):(((UInt8.ofNat (48+m%10)).toNat:Nat):Int)=48+(m:Int)%10:=by
 rw[zi (m%10) (by omega)];omega
theorem mV {i m:Nat} {xs:List Int} {ds:List UInt8} (hi:i+ds.length=20) (hi1:1<=i) (hxs:xs.length=20) (hdr:xs.drop i=ds.map (fun c=>(c.toNat:Int))):
  (xs.set (i-1) (48+(m:Int)%10)).drop (i-1)=(UInt8.ofNat (48+m%10)::ds).map (fun c=>(c.toNat:Int)):=by
 rw[Yw (i-1) xs (by omega),show i-1+1=i by omega,hdr,List.map_cons,xQ]
theorem KA (n:Int) (h0: -9223372036854775808<=n) (h1:n<=9223372036854775807) (w:World):
  Calls Tryz.prog 69 #[.int .i64 n] w fun e w'=>e= .returned (qP (jO n))/\Below w.heap.size w w':=by
 by_cases hn:n<0
 ·
  obtain⟨N,rfl⟩: ∃ N:Nat,n= -(N:Int):=⟨n.natAbs,by omega⟩;have HI:=qA (show jO (-(N:Int))=45::qL N by unfold jO;rw[U6 hn];congr 2;omega);have hNb:N<=9223372036854775808:=by omega
  have hu:IntKind.u64.wrap (-IntKind.u64.wrap (-(N:Int)))=(N:Int):=by
   simp only[IntKind.wrap,IntKind.signed,IntKind.bits];simp
   omega
  go_enter Tryz.func69,Tryz.ntmps69
  go_wp2;refine wp_scope_jumps 0 (PZ w (-(N:Int)) N) (fun a' _=>(intOf (a'.tmps.getD 5 undef)).toNat) rfl ?_ ?_
  ·
   by_cases hm:9<N
   ·
    go_wp2;go_step3
    go_wp2;go_step3
    refine⟨rfl,19,N / 10,[0,0,0,0,0,0,0,0,0,0,0,0,0,0,0,0,0,0,0,48+(N:Int)%10],[UInt8.ofNat (48+N%10)],_,_,_,_,_,_,_,_,_,_,_,_,_,_,_,_,_,_,rfl,rfl,by omega,by omega,jC (by omega),rfl, ?_,xn _ _ _ rfl _,(Below.refl _ _).alloc (U3 _) _⟩;rw[List.map_cons,xQ];rfl
   ·
    have hdig:qL N=[UInt8.ofNat (48+N%10)]:=by rw[zD (by omega),Nat.mod_eq_of_lt (by omega)]
    have hcv:=run_convert_bytes_arg (P:=Tryz.prog) (w.alloc (.cells #[.int .u8 0, .int .u8 0, .int .u8 0, .int .u8 0, .int .u8 0, .int .u8 0, .int .u8 0, .int .u8 0, .int .u8 0, .int .u8 0, .int .u8 0, .int .u8 0, .int .u8 0, .int .u8 0, .int .u8 0, .int .u8 0, .int .u8 0, .int .u8 0, .int .u8 45, .int .u8 (48+(N:Int)%10)] 188)) 140 5 Tryz.underlying140 Tryz.underlying5 w.heap.size 18 2 2
     ((45::qL N).map (fun c=>(c.toNat:Int))) (by rw[hdig];rfl) (by
      intro j hj;have:=(xn w [0,0,0,0,0,0,0,0,0,0,0,0,0,0,0,0,0,0,45,48+(N:Int)%10] #[.int .u8 0, .int .u8 0, .int .u8 0, .int .u8 0, .int .u8 0, .int .u8 0, .int .u8 0, .int .u8 0, .int .u8 0, .int .u8 0, .int .u8 0, .int .u8 0, .int .u8 0, .int .u8 0, .int .u8 0, .int .u8 0, .int .u8 0, .int .u8 0, .int .u8 45, .int .u8 (48+(N:Int)%10)] rfl 188) (18+j) (by simp;omega);rw[this.1,hdig];simp only[List.map_cons,xQ];match j,hj with|0,_=>rfl|1,_=>rfl) 9 Tryz.underlying9
    rw[yQ,<-HI.out]at hcv;clear hdig;go_wp2;go_step3
    go_wp2;simp only[Exit.jump];go_ret;exact⟨rfl,(Below.refl _ _).alloc (U3 _) _⟩
  ·
   rintro a' w' ⟨i,m,xs,ds,u6,u7,u8,u9,u10,u11,u12,u13,u14,u15,u16,u17,u18,u19,u20,u21,u22,u23,rfl,hi,hm0,hmb,hD,hxs,hdr,hrow,hbel⟩;have h19:=kL N hNb;have hlp:=YX m;rw[hD,U1]at h19;have hi2:2<=i:=by omega
   have HDR:=qA (mV (m:=m) hi (by omega) hxs hdr);have HROW:=qA (hrow.set (i-1) (by omega) (48+(m:Int)%10));obtain⟨hc1,hf1⟩:=hrow (i-1) (by omega);obtain⟨hc2,hf2⟩:=hrow (i-1-1) (by omega);have HD:=qA hD;have HX:=qA hxs;have HII:=qA hi;have hi3:i<=20:=by omega
   clear hD hxs hdr hrow hi h19 hlp;by_cases hm:9<m
   ·
    go_wp2;go_step3
    rw[show(i:Int)-1=((i-1:Nat):Int) by omega,show(m:Int) / 10=((m / 10:Nat):Int) by omega];refine⟨rfl,⟨i-1,m / 10,_,UInt8.ofNat (48+m%10)::ds,_,_,_,_,_,_,_,_,_,_,_,_,_,_,_,_,_,_,rfl,by have:=HII.out;simp;omega,by omega,by omega,by rw[HD.out,jC (by omega)];simp,by rw[List.length_set];exact HX.out,HDR.out,HROW.out,hbel.setCell (U3 _) _⟩, ?_⟩;simp[intOf]
    omega
   ·
    have hsl:=fun W=>Ws w.heap.size ((i:Int)-1-1) (i-1-1) (by omega) (by omega) W
    have HROW2:=qA (HROW.out.set (i-1-1) (by rw[List.length_set,HX.out];omega) 45);have hdig:qL N=UInt8.ofNat (48+m%10)::ds:=by rw[HD.out,zD (by omega),Nat.mod_eq_of_lt (by omega)];rfl
    have hXS:(((xs.set (i-1) (48+(m:Int)%10)).set (i-1-1) 45).drop (i-1-1))=(45::qL N).map (fun c=>(c.toNat:Int)):=by
     rw[Yw (i-1-1) _ (by rw[List.length_set,HX.out];omega),show i-1-1+1=i-1 by omega,HDR.out,hdig];rfl
    have hcv:=run_convert_bytes_arg (P:=Tryz.prog) ((w'.setCell ⟨w.heap.size,i-1,none⟩ (.int .u8 (48+(m:Int)%10))).setCell ⟨w.heap.size,i-1-1,none⟩ (.int .u8 45)) 140 5 Tryz.underlying140 Tryz.underlying5 w.heap.size (i-1-1) (20-(i-1-1)) (20-(i-1-1))
     ((45::qL N).map (fun c=>(c.toNat:Int))) (by rw[<-hXS];simp[HX.out]) (by
      intro j hj;have:=HROW2.out ((i-1-1)+j) (by simp[HX.out];omega);rw[this.1,<-hXS];simp[List.getD]) 9 Tryz.underlying9
    rw[yQ,<-HI.out]at hcv;clear hXS hdig;go_wp2;simp only[Exit.jump];go_ret;exact⟨rfl,(hbel.setCell (U3 _) _).setCell (U3 _) _⟩
 ·
  obtain⟨N,rfl⟩:=Int.eq_ofNat_of_zero_le (show 0<=n by omega);have HI:=qA (show jO (N:Int)=qL N by unfold jO;rw[U5 hn];rfl);have hNb:N<=9223372036854775808:=by omega
  go_enter Tryz.func69,Tryz.ntmps69
  go_wp2;refine wp_scope_jumps 0 (PZ w (N:Int) N) (fun a' _=>(intOf (a'.tmps.getD 5 undef)).toNat) rfl ?_ ?_
  ·
   by_cases hm:9<N
   ·
    go_wp2;go_step3
    go_wp2;go_step3
    refine⟨rfl,19,N / 10,[0,0,0,0,0,0,0,0,0,0,0,0,0,0,0,0,0,0,0,48+(N:Int)%10],[UInt8.ofNat (48+N%10)],_,_,_,_,_,_,_,_,_,_,_,_,_,_,_,_,_,_,rfl,rfl,by omega,by omega,jC (by omega),rfl, ?_,xn _ _ _ rfl _,(Below.refl _ _).alloc (U3 _) _⟩;rw[List.map_cons,xQ];rfl
   ·
    have hdig:qL N=[UInt8.ofNat (48+N%10)]:=by rw[zD (by omega),Nat.mod_eq_of_lt (by omega)]
    have hcv:=run_convert_bytes_arg (P:=Tryz.prog) (w.alloc (.cells #[.int .u8 0, .int .u8 0, .int .u8 0, .int .u8 0, .int .u8 0, .int .u8 0, .int .u8 0, .int .u8 0, .int .u8 0, .int .u8 0, .int .u8 0, .int .u8 0, .int .u8 0, .int .u8 0, .int .u8 0, .int .u8 0, .int .u8 0, .int .u8 0, .int .u8 0, .int .u8 (48+(N:Int)%10)] 188)) 140 5 Tryz.underlying140 Tryz.underlying5 w.heap.size 19 1 1
     ((qL N).map (fun c=>(c.toNat:Int))) (by rw[hdig];rfl) (by
      intro j hj;have:=(xn w [0,0,0,0,0,0,0,0,0,0,0,0,0,0,0,0,0,0,0,48+(N:Int)%10] #[.int .u8 0, .int .u8 0, .int .u8 0, .int .u8 0, .int .u8 0, .int .u8 0, .int .u8 0, .int .u8 0, .int .u8 0, .int .u8 0, .int .u8 0, .int .u8 0, .int .u8 0, .int .u8 0, .int .u8 0, .int .u8 0, .int .u8 0, .int .u8 0, .int .u8 0, .int .u8 (48+(N:Int)%10)] rfl 188) (19+j) (by simp;omega);rw[this.1,hdig];simp only[List.map_cons,xQ];match j,hj with|0,_=>rfl) 9 Tryz.underlying9
    rw[yQ,<-HI.out]at hcv;clear hdig;go_wp2;go_step3
    go_wp2;simp only[Exit.jump];go_ret;exact⟨rfl,(Below.refl _ _).alloc (U3 _) _⟩
  ·
   rintro a' w' ⟨i,m,xs,ds,u6,u7,u8,u9,u10,u11,u12,u13,u14,u15,u16,u17,u18,u19,u20,u21,u22,u23,rfl,hi,hm0,hmb,hD,hxs,hdr,hrow,hbel⟩;have h19:=kL N hNb;have hlp:=YX m;rw[hD,U1]at h19;have hi2:2<=i:=by omega
   have HDR:=qA (mV (m:=m) hi (by omega) hxs hdr);have HROW:=qA (hrow.set (i-1) (by omega) (48+(m:Int)%10));obtain⟨hc1,hf1⟩:=hrow (i-1) (by omega);obtain⟨hc2,hf2⟩:=hrow (i-1-1) (by omega);have HD:=qA hD;have HX:=qA hxs;have HII:=qA hi;have hi3:i<=20:=by omega
   clear hD hxs hdr hrow hi h19 hlp;by_cases hm:9<m
   ·
    go_wp2;go_step3
    rw[show(i:Int)-1=((i-1:Nat):Int) by omega,show(m:Int) / 10=((m / 10:Nat):Int) by omega];refine⟨rfl,⟨i-1,m / 10,_,UInt8.ofNat (48+m%10)::ds,_,_,_,_,_,_,_,_,_,_,_,_,_,_,_,_,_,_,rfl,by have:=HII.out;simp;omega,by omega,by omega,by rw[HD.out,jC (by omega)];simp,by rw[List.length_set];exact HX.out,HDR.out,HROW.out,hbel.setCell (U3 _) _⟩, ?_⟩;simp[intOf]
    omega
   ·
    have hsl:=fun W=>Ws w.heap.size ((i:Int)-1) (i-1) (by omega) (by omega) W
    have HROW2:=qA HROW.out;have hdig:qL N=UInt8.ofNat (48+m%10)::ds:=by rw[HD.out,zD (by omega),Nat.mod_eq_of_lt (by omega)];rfl
    have hXS:((xs.set (i-1) (48+(m:Int)%10)).drop (i-1))=(qL N).map (fun c=>(c.toNat:Int)):=by
     rw[HDR.out,hdig]
    have hcv:=run_convert_bytes_arg (P:=Tryz.prog) (w'.setCell ⟨w.heap.size,i-1,none⟩ (.int .u8 (48+(m:Int)%10))) 140 5 Tryz.underlying140 Tryz.underlying5 w.heap.size (i-1) (20-(i-1)) (20-(i-1))
     ((qL N).map (fun c=>(c.toNat:Int))) (by rw[<-hXS];simp[HX.out]) (by
      intro j hj;have:=HROW2.out ((i-1)+j) (by simp[HX.out];omega);rw[this.1,<-hXS];simp[List.getD]) 9 Tryz.underlying9
    rw[yQ,<-HI.out]at hcv;clear hXS hdig;go_wp2;simp only[Exit.jump];go_ret;exact⟨rfl,hbel.setCell (U3 _) _⟩
theorem XM (c:UInt8) (l:List UInt8):(ByteArray.mk #[c]++ByteArray.mk l.toArray:ByteArray)=⟨(c::l).toArray⟩:=by
 apply ByteArray.ext
 simp
theorem Af (k:Nat):(48:UInt8)+UInt8.ofNat k=UInt8.ofNat (48+k):=by
 rw[UInt8.ofNat_add];rfl
theorem iY {a b:ByteArray} (h:a=b):Value.string a=Value.string b:=by rw[h]
theorem oL (n:Int) (h0: -9223372036854775808<=n) (h1:n<=9223372036854775807) (w:World):
  Calls Tryz.prog 84 #[.int .i64 n] w fun e w'=>e= .returned (qP (jO n))/\w=w':=by
 by_cases hn:n<0
 ·
  obtain⟨N,hN⟩: ∃ N:Nat,n= -(N:Int):=⟨n.natAbs,by omega⟩;have HI:=qA (show jO n=45::qL N by unfold jO;rw[U6 hn];congr 2;omega);have HL:=qA (JH N);have HN:=qA hN;clear hN;go_enter Tryz.func84,Tryz.ntmps84
  go_wp2;go_loop [0,3] (fun i s=> ∃ (m:Nat) (x:List UInt8),m<=N/\i= .int .i64 (-(m:Int))/\s=qP x/\Hid (qL N=eY m++x)) (fun i _=>(-(intOf i)).toNat)
  case atStart=>exact⟨N,[],U3 _,by rw[HN.out],rfl,by show _=_;unfold eY;rw[U6 (by have:=HN.out;omega)];simp⟩
  case round=>
   obtain⟨m,x,hm,rfl,rfl,HX⟩:=hrel;have hmb:(m:Int)<=9223372036854775808:=by have:=HN.out;omega
   have hxl:x.length<=1922337203685477581:=by
    have h1:=HL.out;have h2:=HN.out;rw[HX.out,U1]at h1;omega
   by_cases hz:0<m
   ·
    go_wp2_with (go_at_call 157;refine(We _ (by omega) (by omega) _).mono ?_;rintro e w1 ⟨rfl,rfl⟩)
    go_round;case rel=>exact⟨m / 10,UInt8.ofNat (48+m%10)::x,by omega,by go_num,iY (by rw[Af,XM]),by
     show _=_
     rw[HX.out,<-su];unfold eY;rw[U6 hz,vX m];simp⟩
    case measure=>simp[intOf];omega
   ·
    go_wp2;go_ret;exact⟨by
     rw[HI.out,HX.out];unfold eY;rw[U5 hz];exact congrArg (fun b=>Ending.returned (Value.string b)) (XM 45 x),rfl⟩
 ·
  obtain⟨N,rfl⟩:=Int.eq_ofNat_of_zero_le (show 0<=n by omega);have HI:=qA (show jO (N:Int)=qL N by unfold jO;rw[U5 hn];rfl);have HL:=qA (JH N);go_enter Tryz.func84,Tryz.ntmps84
  have hmod:(((N:Int)%10).toNat)=N%10:=by omega
  go_wp2_with (go_at_call 157;refine(We _ (by omega) (by omega) _).mono ?_;rintro e w1 ⟨rfl,rfl⟩)
  go_loop [0,4] (fun i s=> ∃ (m:Nat) (x:List UInt8),m<=N/\i= .int .i64 (m:Int)/\s=qP x/\Hid (qL N=Jq m++x)) (fun i _=>(intOf i).toNat)
  case atStart=>exact⟨N,[UInt8.ofNat (48+N%10)],U3 _,rfl,iY (by simp),vX N⟩
  case round=>
   obtain⟨m,x,hm,rfl,rfl,HX⟩:=hrel;have hxl:x.length<=1922337203685477581:=by
    have h1:=HL.out;rw[HX.out,U1]at h1;omega
   by_cases hz:9<m
   ·
    go_wp2_with (go_at_call 157;refine(We _ (by omega) (by omega) _).mono ?_;rintro e w1 ⟨rfl,rfl⟩)
    go_round;case rel=>exact⟨m / 10,UInt8.ofNat (48+m / 10%10)::x,by omega,by go_num,iY (by rw[Af,XM]),by
     show _=_
     rw[HX.out];unfold Jq;rw[U6 hz];have:=vX (m / 10);unfold Jq at this;rw[this];simp⟩
    case measure=>simp[intOf];omega
   ·
    go_wp2;go_ret;exact⟨by
     rw[HI.out,HX.out];unfold Jq;rw[U5 hz];rfl,rfl⟩
theorem VK {a b:ByteArray} {x:Value} (h:a=b):Ending.returned (.tuple #[.string a,x])= .returned (.tuple #[.string b,x]):=by rw[h]
theorem Ph {W w1:World} (hb:Below W.heap.size W w1):(∀ b o,b<W.heap.size->w1.cell? ⟨b,o,none⟩=W.cell? ⟨b,o,none⟩)/\(∀ b o,b<W.heap.size->w1.frozen? ⟨b,o,none⟩=W.frozen? ⟨b,o,none⟩):=
 ⟨fun b o h=>hb.cell (p:=⟨b,o,none⟩) h,fun b o h=>hb.frozen (p:=⟨b,o,none⟩) h⟩
theorem lV (W:World) (b:Nat) (x y:Int) (h0:W.cell? ⟨b,0,none⟩=some (.int .u8 x)) (h1:W.cell? ⟨b,1,none⟩=some (.int .u8 y)):
  (convert 140 9 (.slice (some ⟨b,0,none⟩) 2 2)).run Tryz.prog W= .ok (.string ⟨#[UInt8.ofNat x.toNat,UInt8.ofNat y.toNat]⟩) W:=
 run_convert_bytes_arg W 140 5 Tryz.underlying140 Tryz.underlying5 b 0 2 2 [x,y] rfl (by
  intro i hi
  match i,hi with
  |0,_=>simpa using h0
  |1,_=>simpa using h1) 9 Tryz.underlying9
theorem Dn (c:Int) (t:List UInt8) (e:Int) (H:Hid (qW c=(t,e))) (w:World):
  Calls Tryz.prog 161 #[.int .i64 c] w fun r w'=>r= .returned (.tuple #[qP t, .int .i64 e])/\w=w':=by
 have H':=H.out;unfold qW at H';clear H;by_cases h0:c<0
 ·
  rw[U6 (.inl h0),qAF]at H';obtain⟨rfl,rfl⟩:=H';go_enter Tryz.func161,Tryz.ntmps161
  go_wp2;go_ret2;exact⟨rfl,rfl⟩
 by_cases h1:1000000<c
 ·
  rw[U6 (.inr h1),qAF]at H';obtain⟨rfl,rfl⟩:=H';go_enter Tryz.func161,Tryz.ntmps161
  go_wp2;go_ret2;exact⟨rfl,rfl⟩
 rw[U5 (fun k=>k.elim h0 h1),qAF]at H';obtain⟨rfl,rfl⟩:=H';obtain⟨N,rfl⟩:=Int.eq_ofNat_of_zero_le (show 0<=c by omega);have hl:=kL (N / 100) (by omega);have HT:=qA (show jO ((N:Int) / 100)=qL (N / 100) by unfold jO;rw[U5 (by omega)];congr 1);go_enter Tryz.func161,Tryz.ntmps161
 go_wp2_with (first
  |(go_at_call 84;refine(oL _ (by omega) (by omega) _).mono ?_;rintro e w1 ⟨rfl,rfl⟩;rw[HT.out])
  |(go_at_call 157;refine(We _ (by omega) (by omega) _).mono ?_;rintro e w1 ⟨rfl,rfl⟩))
 go_ret2;exact⟨VK (by
  apply ByteArray.ext
  have e8:UInt8.ofNat ((N:Int) / 10%10).toNat=UInt8.ofNat (N / 10%10):=by congr 1
  have e9:UInt8.ofNat ((N:Int)%10).toNat=UInt8.ofNat (N%10):=by congr 1
  simp[JL]),rfl⟩
theorem az (c:Int) (t:List UInt8) (e:Int) (H:Hid (qW c=(t,e))) (w:World):
  Calls Tryz.prog 152 #[.int .i64 c] w fun r w'=>r= .returned (.tuple #[qP t, .int .i64 e])/\Below w.heap.size w w':=by
 have H':=H.out;unfold qW at H';clear H;by_cases h0:c<0
 ·
  rw[U6 (.inl h0),qAF]at H';obtain⟨rfl,rfl⟩:=H';go_enter Tryz.func152,Tryz.ntmps152
  go_wp2;go_ret2;exact⟨rfl,Below.refl _ _⟩
 by_cases h1:1000000<c
 ·
  rw[U6 (.inr h1),qAF]at H';obtain⟨rfl,rfl⟩:=H';go_enter Tryz.func152,Tryz.ntmps152
  go_wp2;go_ret2;exact⟨rfl,Below.refl _ _⟩
 rw[U5 (fun k=>k.elim h0 h1),qAF]at H';obtain⟨rfl,rfl⟩:=H';obtain⟨N,rfl⟩:=Int.eq_ofNat_of_zero_le (show 0<=c by omega);have hl:=kL (N / 100) (by omega);have HT:=qA (show jO ((N:Int) / 100)=qL (N / 100) by unfold jO;rw[U5 (by omega)];congr 1);have hcv:=lV;have ha1:=fun W=>run_string_add_sum (P:=Tryz.prog) W ⟨(qL (N / 100)).toArray⟩ ⟨#[46]⟩ (by
  show(qL (N / 100)).toArray.size+1<=_
  simp
  omega)
 have ha2:=fun W=>run_string_add_sum (P:=Tryz.prog) W (ByteArray.mk (qL (N / 100)).toArray++⟨#[46]⟩) ⟨#[UInt8.ofNat (48+(N:Int)%100 / 10).toNat,UInt8.ofNat (48+(N:Int)%10).toNat]⟩ (by
  rw[ByteArray.size_append];show(qL (N / 100)).toArray.size+1+2<=_
  simp
  omega)
 have b1: -9223372036854775808<=(N:Int) / 100:=by omega
 have b2:(N:Int) / 100<=9223372036854775807:=by omega
 go_enter Tryz.func152,Tryz.ntmps152
 go_wp2;have e1:IntKind.i64.wrap ((N:Int) / 100)=(N:Int) / 100:=IntWalk.i64_in _ (by omega);have e2:IntKind.i64.wrap (((N:Int)%100).tdiv 10)=(N:Int)%100 / 10:=by rw[Int.tdiv_eq_ediv_of_nonneg (by omega)];exact IntWalk.i64_in _ (by omega)
 have e3:((N:Int)%100).tmod 10=(N:Int)%10:=by rw[Int.tmod_eq_emod_of_nonneg (by omega)];omega
 have e4:IntKind.i64.wrap (48+(N:Int)%100 / 10)=48+(N:Int)%100 / 10:=IntWalk.i64_in _ (by omega);have e5:IntKind.u8.wrap (48+(N:Int)%100 / 10)=48+(N:Int)%100 / 10:=IntWalk.u8_in _ (by omega);have e6:IntKind.i64.wrap (48+(N:Int)%10)=48+(N:Int)%10:=IntWalk.i64_in _ (by omega);have e7:IntKind.u8.wrap (48+(N:Int)%10)=48+(N:Int)%10:=IntWalk.u8_in _ (by omega);go_region_with (go_at_call 69;refine(KA _ b1 b2 _).mono ?_;rintro e w1 ⟨rfl,hb⟩;rw[HT.out];obtain⟨hc,hf⟩:=Ph hb)
 all_goals clear e1 e2 e3 e4 e5 e6 e7
 all_goals go_wp2
 all_goals go_ret2
 all_goals
  refine⟨VK ?_, ?_⟩
  ·
   apply ByteArray.ext
   have e8:UInt8.ofNat (48+(N:Int)%100 / 10).toNat=UInt8.ofNat (48+N / 10%10):=by congr 1;omega
   have e9:UInt8.ofNat (48+(N:Int)%10).toNat=UInt8.ofNat (48+N%10):=by congr 1
   rw[e8,e9];simp[JL]
  · repeat(first|exact qB _|refine qH ?_|refine qE ?_ _|refine qF ?_ hb)
end Go.Proofs.YtakedkcjplfgeaaGreatDoor.Nu
