/-
  PkLw: what the law of feed needs of FedLw, FedArgs. Conditions: those of each lemma.
-/
import Derived.Test.YtakedkcjplfgeaaGreatDoorPkParB
import Derived.Test.YtakedkcjplfgeaaGreatDoorPkPlain
import Derived.Test.YtakedkcjplfgeaaGreatDoorPkRdA
import Derived.Test.YtakedkcjplfgeaaGreatDoorRows
import Derived.MakeChecks
import Derived.ProofKit
import Derived.LaidOnce
import Derived.Carry
set_option maxRecDepth 1000000
set_option maxHeartbeats 32000000
namespace Go.Proofs.YtakedkcjplfgeaaGreatDoor
open Go.RowKit
open Frq Thr Tt Num Clk Dat Fld
theorem drop_at (s:ByteArray) {k:Nat} (hk:k<s.size):s.data.toList.drop k=s[k]::s.data.toList.drop (k+1):=by
 rw[List.drop_eq_getElem_cons (show k<s.data.toList.length by simpa using hk)];rfl
theorem begins_c (s:ByteArray) (hs:s.size≤131072) (n r:Int) (H:Hid (beginsG s.data.toList 0 0 n=r)) (w:World):
  Calls Tryz.prog 17 #[.string s, .int .i64 n] w fun q w'=>q= .returned (.int .i64 r)∧w'=w:=by
 go_enter Tryz.func17,Tryz.ntmps17
 go_wp2_with fail;go_loop [5,6] (fun a i=> ∃ (k j:Nat),k≤s.size∧j≤k∧i= .int .i64 k∧a= .int .i64 j∧Hid (beginsG (s.data.toList.drop k) k j n=r)) (fun _ i=>s.size-(intOf i).toNat)
 case atStart=>exact⟨0,0,Nat.zero_le _,Nat.le_refl _,rfl,rfl,H⟩
 case round=>
  obtain⟨k,j,hk,hj,rfl,rfl,HG⟩:=hrel;by_cases hlt:k<s.size
  ·
   have HD:=Lib.hid (drop_at s hlt);have e7:=fun W=>Nu.idx_c s (k:Int) k rfl hlt W
   have i1:(k:Int)<(s.size:Int):=by omega
   obtain⟨c,hc⟩: ∃ c,s[k]=c:=⟨_,rfl⟩;rw[hc]at e7 HD;clear hc;by_cases hn:(j:Int)=n
   ·
    have HR:Hid ((k:Int)=r):=by
     have:=HG.out;rw[HD.out]at this;rw[←this];exact(if_pos hn).symm
    have f1:((j:Int)==n)=true:=by rw[beq_iff_eq];exact hn
    clear hn;go_wp2;go_ret;exact⟨by rw[←HR.out];rfl,rfl⟩
   ·
    have f1:((j:Int)==n)=false:=by rw[beq_eq_false_iff_ne];exact hn
    have HR:Hid (beginsG (s.data.toList.drop (k+1)) ((k:Int)+1) (if c=10 then(j:Int)+1 else j) n=r):=by
     have:=HG.out;rw[HD.out]at this;rw[←this];exact(if_neg hn).symm
    clear hn;by_cases h10:c=10
    ·
     have HR2:=Lib.hid (show beginsG (s.data.toList.drop (k+1)) ((k+1:Nat):Int) ((j+1:Nat):Int) n=r by rw[←HR.out,if_pos h10];rfl);obtain⟨u1,u2⟩:=u8_is (n:=10) (k:=10) (by omega) rfl h10;clear h10;go_wp2;go_round;case rel=>exact⟨k+1,j+1,by omega,by omega,by go_num,by go_num,HR2⟩
     case measure=>simp[intOf];omega
    ·
     have HR2:=Lib.hid (show beginsG (s.data.toList.drop (k+1)) ((k+1:Nat):Int) ((j:Nat):Int) n=r by rw[←HR.out,if_neg h10];rfl);obtain⟨u1,u2⟩:=u8_not (n:=10) (k:=10) rfl h10;clear h10;go_wp2;go_round;case rel=>exact⟨k+1,j,by omega,by omega,by go_num,rfl,HR2⟩
     case measure=>simp[intOf];omega
  ·
   have hdr:s.data.toList.drop k=[]:=List.drop_eq_nil_of_le (by simp;omega);have HR:=Lib.hid (show(if(j:Int)=n then(k:Int)else -1)=r by rw[←HG.out,hdr];rfl);have hks:k=s.size:=by omega
   clear hdr;by_cases hn:(j:Int)=n
   ·
    have f1:((j:Int)==n)=true:=by rw[beq_iff_eq];exact hn
    have HR2:=Lib.hid (show(s.size:Int)=r by rw[←HR.out,if_pos hn,hks]);clear hn hks;go_wp2;go_ret;exact⟨by rw[←HR2.out];rfl,rfl⟩
   ·
    have f1:((j:Int)==n)=false:=by rw[beq_eq_false_iff_ne];exact hn
    have HR2:=Lib.hid (show(-1:Int)=r by rw[←HR.out,if_neg hn]);clear hn hks;go_wp2;go_ret;exact⟨by rw[←HR2.out];rfl,rfl⟩
def ParsePost (w:World) (t:TtD) (n e:Int) (q:Ending) (w':World):Prop:= ∃ V ts,q= .returned (.tuple #[ttV V t, .int .i64 n, .int .i64 e])∧TtRd w'.heap.size w' V ts t∧TtOk t∧Bl w w'
theorem fparse_p (txt:ByteArray) (hs:txt.size≤4294967280) (m:Int) (t:TtD) (n e:Int) (H:Hid (parseF txt.data.toList=(t,n,e))) (w:World) (env:Env m w):
  Calls Tryz.prog 10 #[.string txt] w fun q w'=>ParsePost w t n e q w':=fparse_c txt hs m t n e H w env
theorem parse_nil:parseF []=(emptyT,0,0):=by decide+kernel
theorem parse_last {s:List UInt8} (h1:s≠[]) (h2:s.getLast?≠some 10) (h3:s.length≤65536):parseF s=(emptyT,0,4):=by
 have:linesS s=([],4):=by
  unfold linesS;rw[if_neg (by omega),if_neg h1,if_neg h2]
 exact parse_torn this (by decide)
theorem last_at (s:ByteArray) (h:0<s.size):s.data.toList.getLast?=some (s[s.size-1]'(by omega)):=by
 rw[List.getLast?_eq_getElem?,List.getElem?_eq_getElem (by simp;omega)];simp
 rfl
end Go.Proofs.YtakedkcjplfgeaaGreatDoor
namespace Go.Proofs.YtakedkcjplfgeaaGreatDoor
open Go.RowKit
open Frq Thr Tt Num Clk Dat Fld
theorem names_at {w:World} (h:laidMetH Tryz.prog [("unicode/utf8.acceptRanges",Rows.laid_unicode_utf8_acceptRanges),("transit/route.names",Rows.laid_transit_route_names),("unicode/utf8.first",Rows.laid_unicode_utf8_first)] w) (i:Nat) (x:List UInt8) (hx:modeWords[i]? =some x):w.cell? ⟨0,i,none⟩=some (str x):=by
 rw[MakeChecks.laidMetH_plain _ _ _ (by kernel_rfl)]at h;obtain⟨ps,⟨_,_,_,_,_,_,-,-,-,-,⟨g,t,cs,fuel,p,q,hg,ht,hv,htr,-,-⟩,-⟩,-⟩:=h;obtain rfl:g=0:=Option.some.inj (hg.symm.trans (by kernel_rfl));obtain rfl:t=190:=Option.some.inj (ht.symm.trans (by kernel_rfl));obtain⟨xs,m,-,hxx,hl,hn,hi⟩:=DataW.trod_array Tryz.underlying190 htr;have hc1:Tryz.prog.cellsOf 9=1:=by kernel_rfl
 have hd:xs.map (·.1)=[.lit (.string [98,117,115]), .lit (.string [116,114,97,109]), .lit (.string [109,101,116,114,111]), .lit (.string [114,97,105,108]), .lit (.string [102,101,114,114,121]), .lit (.string [99,111,97,99,104]), .lit (.string [99,97,98,108,101]), .lit (.string [102,117,110,105,99,117,108,97,114])]:=by
  have:=congrArg Prod.fst hxx;simp only[Rows.laid_transit_route_names,DataW.agg.injEq]at this;exact this.symm
 have hcell: ∀ (i:Nat) (u:Value),cs[i]? =some u→w.cell? ⟨0,i,none⟩=some u:=fun i u hu=>by
  simp only[World.var?,hg,Option.bind_some]at hv;split at hv
  ·
   rename_i c t' fr hb;simp only[Option.some.injEq]at hv;subst hv;rw[cell_of_row w _ i c t' fr hb];exact hu
  · cases hv
 have hxl:xs.length=8:=by have:=congrArg List.length hd;simpa using this
 have hk:i<8:=(List.getElem?_eq_some_iff.1 hx).1;have h1:=hi i hk;rw[hc1,Nat.mul_one]at h1;obtain⟨y,hy⟩: ∃ y,xs[i]? =some y:=⟨_,List.getElem?_eq_getElem (by omega)⟩;rw[hy]at h1;obtain⟨s,hs,hs2,-⟩:=DataW.trod_string Tryz.underlying9 h1;have hk2:cs[i]? =some (.string s):=by
  have:=congrArg (·[0]?) hs;simp only[List.getElem?_take,List.getElem?_drop,List.getElem?_cons_zero]at this;simpa using this
 have hd2:=congrArg (·[i]?) hd;simp only[List.getElem?_map,hy,Option.map_some]at hd2;rw[hcell i _ hk2];rw[hs2]at hd2;have key2:s.data.toList=x→(some (Value.string s):Option Value)=some (str x):=fun e=>by rw[←e]
 refine key2 ?_;obtain rfl|rfl|rfl|rfl|rfl|rfl|rfl|rfl:i=0∨i=1∨i=2∨i=3∨i=4∨i=5∨i=6∨i=7:=by omega
 all_goals
  injection (Option.some.inj hd2)with e1
  injection e1 with e2
  rw[e2];exact Option.some.inj hx
theorem env_at {w:World} {m:Int} (h:laidMetH Tryz.prog [("unicode/utf8.acceptRanges",Rows.laid_unicode_utf8_acceptRanges),("transit/route.names",Rows.laid_transit_route_names),("unicode/utf8.first",Rows.laid_unicode_utf8_first)] w) (hm:w.cell? ⟨1,0,none⟩=some (.int .i64 m)):Env m w:=⟨hm,fun i x hx=>names_at h i x hx⟩
end Go.Proofs.YtakedkcjplfgeaaGreatDoor
