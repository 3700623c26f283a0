/- Contracts of the feed, proved. Conditions: those of each contract. -/
import Derived.Test.YtakedkcjplfgeaaGreatDoorMPkCkA
set_option maxRecDepth 1000000
set_option maxHeartbeats 32000000
namespace Go.Proofs.YtakedkcjplfgeaaGreatDoor.Ck
open Go.RowKit
open Num Clk
def Jw (w:World) (b:Nat) (xs:List Int):Prop:= ∀ j,j<xs.length->w.cell? ⟨b,j,none⟩=some (.int .u8 (xs.getD j 0))/\w.frozen? ⟨b,j,none⟩=false
theorem Jw.set {w:World} {b:Nat} {xs:List Int} (h:Jw w b xs) (i:Nat) (hi:i<xs.length) (v:Int):Jw (w.setCell ⟨b,i,none⟩ (.int .u8 v)) b (xs.set i v):=by
 intro j hj;simp only[List.length_set]at hj;obtain⟨hc,hf⟩:=h j hj;by_cases e:j=i
 ·
  subst e;refine⟨?_,by rw[World.frozen?_setCell];exact hf⟩;rw[World.cell?_setCell_same (h:=hc)];simp[List.getD,hi]
 ·
  refine⟨?_,by rw[World.frozen?_setCell];exact hf⟩;rw[World.cell?_setCell_other (h:=by intro k;exact e (by simpa using k.symm)),hc];simp[List.getD,Ne.symm e]
theorem Yw (k:Nat) (xs:List Int) (h:k<xs.length) (v:Int):(xs.set k v).drop k=v::xs.drop (k+1):=by
 induction xs generalizing k with
 |nil=>simp at h
 |cons a t ih=>
  cases k with
  |zero=>simp
  |succ k=>simpa using ih k (by simpa using h)
theorem xn (w:World) (xs:List Int) (c:Array Value) (hc:c=(xs.map (Value.int .u8)).toArray) (T:TypeId):Jw (w.alloc (.cells c T)) w.heap.size xs:=by
 intro j hj;subst hc;refine⟨?_, ?_⟩
 ·
  rw[World.cell?_alloc_at (hn:=rfl)];simp[List.getD,hj]
 · simp[go_sem]
theorem yQ (l:List UInt8):strOfNums (l.map (fun c=>(c.toNat:Int)))=⟨l.toArray⟩:=by
 unfold strOfNums;rw[List.map_map];congr 2
 have:((fun n:Int=>UInt8.ofNat n.toNat) ∘ fun c:UInt8=>(c.toNat:Int))=id:=by
  funext c
  simp
 rw[this,List.map_id]
theorem Ws (b:Nat) (z:Int) (k:Nat) (hz:z=(k:Int)) (hk:k<20) (W:World):
  (Instr.sliceAt 188 (.pointer (some ⟨b,0,none⟩)) (some (.int .i64 z)) none none).run Tryz.prog W= .ok (.slice (some ⟨b,k,none⟩) (20-k) (20-k)) W:=by
 subst hz;have h20:Tryz.prog.arrayLen 188=20:=by kernel_rfl
 have hs:(sizeOf (Tryz.prog.elem 188)).run Tryz.prog W= .ok 1 W:=by kernel_rfl
 rw[run_sliceAt_array_l (P:=Tryz.prog) W 188 ⟨b,0,none⟩ (by kernel_rfl) .i64 k (by omega) (by rw[h20];omega),hs,h20];have: ¬ 20=k:=by omega
 simp[Result.andThen,slicedAt,this,Addr.add]
 intro h;omega
theorem xQ (m:Nat):(((UInt8.ofNat (48+m%10)).toNat:Nat):Int)=48+(m:Int)%10:=by
 rw[zi (m%10) (by omega)];omega
theorem Vd (N:Nat) (hN:N<=9223372036854775807) (w:World):Calls Tryz.prog 216 #[.int .i64 N] w fun e w'=>e= .returned (qP (qL N))/\Bl w w':=by
 have HL:=qA (kL N (by omega));go_enter Tryz.func216,Tryz.ntmps216
 go_wp2;go_loopw [0,4] (fun n at_ wr=> ∃ (i m:Nat) (xs:List Int) (ds:List UInt8),at_= .int .i64 i/\n= .int .i64 m/\m<=N/\i+ds.length=20/\Hid (qL N=qL m++ds)/\Hid (xs.length=20)/\Hid (xs.drop i=ds.map (fun c=>(c.toNat:Int)))/\Hid (Jw wr w.heap.size xs)/\Bl w wr) (fun n _ _=>(intOf n).toNat)
 case atStart=>exact⟨20,N,List.replicate 20 0,[],rfl,rfl,Nat.le_refl _,rfl,by show _=_;simp,rfl,rfl,xn w _ _ rfl _,qE (qB _) _⟩
 case round=>
  obtain⟨i,m,xs,ds,rfl,rfl,hm,hi,HD,HX,HDR,HROW,hb⟩:=hrel;have hi1:1<=i:=by
   have h1:=HL.out;have h2:=YX m;rw[HD.out,List.length_append]at h1;omega
  have hi2:i<=20:=by omega
  obtain⟨hc1,hf1⟩:=HROW.out (i-1) (by rw[HX.out];omega);have HROW1:=qA (HROW.out.set (i-1) (by rw[HX.out];omega) (48+(m:Int)%10));have HDR1:=qA (show(xs.set (i-1) (48+(m:Int)%10)).drop (i-1)=(UInt8.ofNat (48+m%10)::ds).map (fun c=>(c.toNat:Int)) by
   rw[Yw (i-1) xs (by rw[HX.out];omega),show i-1+1=i by omega,HDR.out,List.map_cons,xQ])
  have HII:=qA hi;clear hi;by_cases h9:9<m
  ·
   go_wp2;go_roundw;case rel=>exact⟨i-1,m / 10,_,UInt8.ofNat (48+m%10)::ds,by go_num,by go_num,by omega,by have:=HII.out;simp;omega,by show _=_;rw[HD.out,jC (by omega)];simp,by show _=_;rw[List.length_set];exact HX.out,HDR1,HROW1,zF hb (Nat.le_refl _) _⟩
   case measure=>simp[intOf];omega
  ·
   have hsl:=fun W=>Ws w.heap.size ((i:Int)-1) (i-1) (by omega) (by omega) W
   have hdig:qL N=UInt8.ofNat (48+m%10)::ds:=by rw[HD.out,zD (by omega),Nat.mod_eq_of_lt (by omega)];rfl
   have hcv:=run_convert_bytes_arg (P:=Tryz.prog) (wr.setCell ⟨w.heap.size,i-1,none⟩ (.int .u8 (48+(m:Int)%10))) 140 5 Tryz.underlying140 Tryz.underlying5 w.heap.size (i-1) (20-(i-1)) (20-(i-1))
    ((qL N).map (fun c=>(c.toNat:Int))) (by rw[hdig,<-HDR1.out];simp[HX.out]) (by
     intro j hj;have:=HROW1.out (i-1+j) (by rw[List.length_set,HX.out];omega);rw[this.1,hdig,<-HDR1.out];simp[List.getD]) 9 Tryz.underlying9
   rw[yQ]at hcv;clear hdig;go_wp2;go_ret;exact⟨rfl,zF hb (Nat.le_refl _) _⟩
theorem ZN (N:Nat) (hN:N<=9223372036854775807) (w:World):Calls Tryz.prog 225 #[.int .i64 N] w fun e w'=>e= .returned (qP (qL N))/\Bl w w':=by
 have HL:=qA (kL N (by omega));have hcv:=Na;go_enter Tryz.func225,Tryz.ntmps225
 go_wp2;go_loopw [0,3] (fun n s wr=> ∃ (m:Nat) (x:List UInt8),m<=N/\n= .int .i64 m/\s=qP x/\Hid (qL N=Jq m++x)/\Bl w wr) (fun n _ _=>(intOf n).toNat)
 case atStart=>exact⟨N,[UInt8.ofNat (48+N%10)],Nat.le_refl _,rfl,rfl,vX N,qE (qB _) _⟩
 case round=>
  obtain⟨m,x,hm,rfl,rfl,HX,hb⟩:=hrel;have hxl:x.length<=19:=by
   have h1:=HL.out;rw[HX.out,List.length_append]at h1;omega
  by_cases h9:10<=m
  ·
   go_wp2;go_roundw;case rel=>exact⟨m / 10,UInt8.ofNat (48+m / 10%10)::x,by omega,by go_num,by
    apply congrArg Value.string
    apply ByteArray.ext
    simp,by
    show _=_
    rw[HX.out];unfold Jq;rw[if_pos (by omega)];have:=vX (m / 10);unfold Jq at this;rw[this];simp,qE hb _⟩
   case measure=>simp[intOf];omega
  ·
   have HE:=qA (show qL N=x by rw[HX.out];unfold Jq;rw[if_neg (by omega)];rfl);go_wp2;go_ret;exact⟨VL (by rw[HE.out]),hb⟩
def kJ (n:Nat):List UInt8:=
 if 3600<=n then qL (n / 3600)++104::(ZW (n / 60%60)++109::(ZW (n%60)++[115]))
 else if 60<=n then qL (n / 60)++109::(ZW (n%60)++[115])else qL n++[115]
def gW (n:Int):List UInt8×Int:=if 0<=n/\n<=359999 then(kJ n.toNat,0)else([],2)
theorem fZ (ls:List (List UInt8)):YP (ls.map fun l=>⟨l.toArray⟩)=ls.flatten:=by
 unfold YP;rw[List.map_map];congr 1
 have:((fun s:ByteArray=>s.data.toList) ∘ fun l:List UInt8=>(⟨l.toArray⟩:ByteArray))=id:=by
  funext l
  simp
 rw[this,List.map_id]
theorem BO (n:Nat):(ZW n).length=2:=rfl
theorem OQ (n:Int) (l:List UInt8) (e:Int) (H:Hid (gW n=(l,e))) (w:World):
  Calls Tryz.prog 151 #[.int .i64 n] w fun r w'=>r= .returned (.tuple #[qP l, .int .i64 e])/\Bl w w':=by
 have H':=H.out;unfold gW at H';by_cases h:0<=n/\n<=359999
 ·
  rw[if_pos h,Prod.mk.injEq]at H';obtain⟨rfl,rfl⟩:=H';clear H;obtain⟨h0,h1⟩:=h;obtain⟨N,rfl⟩:=Int.eq_ofNat_of_zero_le h0;rw[Int.toNat_natCast];by_cases hh:(3600:Int)<=(N:Int)
  ·
   have ht:=kL (N / 3600) (by omega);have HT:=qA (show kJ N=[qL (N / 3600),[104],ZW (N / 60%60),[109],ZW (N%60),[115]].flatten by unfold kJ;rw[if_pos (by omega)];simp);go_enter Tryz.func151,Tryz.ntmps151
   go_wp2_with fail;refine(Vd (N / 3600) (by omega) _).mono ?_;rintro e w1 ⟨rfl,b1⟩;go_wp2_with fail;refine(aY _ (by omega) (by omega) _).mono ?_;rintro e w2 ⟨rfl,b2⟩;go_wp2_with fail;refine(aY _ (by omega) (by omega) _).mono ?_;rintro e w3 ⟨rfl,b3⟩;go_wp2_with fail;refine(Yr w3 ([qL (N / 3600),[104],ZW ((N:Int)%3600 / 60).toNat,[109],ZW ((N:Int)%60).toNat,[115]].map fun l=>⟨l.toArray⟩) _ 6 rfl rfl (kJ N) (by
    rw[fZ,HT.out,show((N:Int)%3600 / 60).toNat=N / 60%60 by omega,show((N:Int)%60).toNat=N%60 by omega]) (by rw[HT.out];simp[BO];omega) (by omega)).mono ?_
   rintro e w4 ⟨rfl,b4⟩;go_wp2;go_ret2;exact⟨rfl,qF (qF (qF b1 b2) b3) b4⟩
  by_cases hm:(60:Int)<=(N:Int)
  ·
   have ht:=kL (N / 60) (by omega);have HT:=qA (show kJ N=[qL (N / 60),[109],ZW (N%60),[115]].flatten by unfold kJ;rw[if_neg (by omega),if_pos (by omega)];simp);go_enter Tryz.func151,Tryz.ntmps151
   go_wp2_with fail;refine(Vd (N / 60) (by omega) _).mono ?_;rintro e w1 ⟨rfl,b1⟩;go_wp2_with fail;refine(aY _ (by omega) (by omega) _).mono ?_;rintro e w3 ⟨rfl,b3⟩;go_wp2_with fail;refine(Yr w3 ([qL (N / 60),[109],ZW ((N:Int)%60).toNat,[115]].map fun l=>⟨l.toArray⟩) _ 4 rfl rfl (kJ N) (by
    rw[fZ,HT.out,show((N:Int)%60).toNat=N%60 by omega]) (by rw[HT.out];simp[BO];omega) (by omega)).mono ?_
   rintro e w4 ⟨rfl,b4⟩;go_wp2;go_ret2;exact⟨rfl,qF (qF b1 b3) b4⟩
  ·
   have ht:=kL N (by omega);have HT:=qA (show kJ N=[qL N,[115]].flatten by unfold kJ;rw[if_neg (by omega),if_neg (by omega)];simp);go_enter Tryz.func151,Tryz.ntmps151
   go_wp2_with fail;refine(Vd N (by omega) _).mono ?_;rintro e w1 ⟨rfl,b1⟩;go_wp2_with fail;refine(Yr w1 ([qL N,[115]].map fun l=>⟨l.toArray⟩) _ 2 rfl rfl (kJ N) (by rw[fZ,HT.out]) (by rw[HT.out];simp;omega) (by omega)).mono ?_;rintro e w4 ⟨rfl,b4⟩;go_wp2;go_ret2;exact⟨rfl,qF b1 b4⟩
 ·
  rw[if_neg h,Prod.mk.injEq]at H';obtain⟨rfl,rfl⟩:=H';clear H;by_cases h0:n<0
  ·
   clear h;go_enter Tryz.func151,Tryz.ntmps151
   go_wp2;go_ret2;exact⟨rfl,qB _⟩
  ·
   have h1:359999<n:=by omega
   clear h;go_enter Tryz.func151,Tryz.ntmps151
   go_wp2;go_ret2;exact⟨rfl,qB _⟩
end Go.Proofs.YtakedkcjplfgeaaGreatDoor.Ck
