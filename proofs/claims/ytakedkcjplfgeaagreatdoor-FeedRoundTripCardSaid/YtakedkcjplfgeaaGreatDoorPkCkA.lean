/-
  PkCkA: what the law of feed needs of FCkClkBuilder, FCkClkWalksA, FCkClkWalksB, FCkClkWalksC, FCkClkWalksD. Conditions: those of each lemma.
-/
import Derived.Test.YtakedkcjplfgeaaGreatDoorRows
import Derived.Test.YtakedkcjplfgeaaGreatDoorPkShelf
import Derived.Test.YtakedkcjplfgeaaGreatDoorPkBase
import Derived.Test.YtakedkcjplfgeaaGreatDoorPkPlain
import Derived.WalkSpells
import Derived.WalkLawsBesides
import Derived.Laws.BytesArg
import Derived.Lib.Hide
import Derived.Lib.SmallJoins
import Derived.Deep.QuietTactic
import Derived.BigQuiet
import Derived.Lib.IndexBytes
set_option maxRecDepth 1000000
set_option maxHeartbeats 32000000
namespace Go.Proofs.YtakedkcjplfgeaaGreatDoor.Ck
open Go.RowKit
theorem copyCheck_used (b:Nat) (w:World) (h0:w.cell? ⟨b,0,none⟩=some (.pointer (some ⟨b,0,none⟩))):
  Calls Tryz.prog 155 #[.pointer (some ⟨b,0,none⟩)] w fun e w'=>e= .returned (.tuple #[])∧w'=w:=by
 obtain⟨j,hj,_⟩:=Option.map_eq_some_iff.1 Tryz.Builder_Extra_169.sizeBuilder;have hj':Tryz.prog.info? 142=some j:=hj;go_enter Tryz.func155,Tryz.ntmps155
 go_wp2;rw[Lib.run_neq_ptr_same w _ Tryz.underlying139 hj'];go_wp2;go_end0;exact⟨rfl,rfl⟩
theorem copyCheck_fresh (b:Nat) (w:World) (h0:w.cell? ⟨b,0,none⟩=some (.pointer none)) (hsh:w.shape? b=some (142,2)) (hfz:w.frozen? ⟨b,0,none⟩=false):
  Calls Tryz.prog 155 #[.pointer (some ⟨b,0,none⟩)] w fun e w'=>e= .returned (.tuple #[])∧w'=w.setCell ⟨b,0,none⟩ (.pointer (some ⟨b,0,none⟩)):=by
 obtain⟨j,hj,hjs⟩:=Option.map_eq_some_iff.1 Tryz.Builder_Extra_169.sizeBuilder;have hj':Tryz.prog.info? 142=some j:=hj;go_enter Tryz.func155,Tryz.ntmps155
 go_wp2;rw[Lib.run_to_unsafe w ⟨b,0,none⟩ Tryz.underlying139 Tryz.underlying229 hj' (by rw[hjs];decide) hsh (Nat.zero_lt_succ 1)];simp only[Result.andThen];rw[Oper.upon_value];go_wp2;rw[run_callFunc_extern Tryz.func220 (by kernel_rfl) (by kernel_rfl) (by kernel_rfl) (e:=Extern.AbiNoEscape.same) (by kernel_rfl)];rw[Lib.run_noEscape];simp only[Result.andThen];rw[Oper.upon_value];go_wp2;rw[Lib.run_from_unsafe w ⟨b,0,none⟩ Tryz.underlying229 Tryz.underlying139 hj' hsh Tryz.Builder_Extra_169.liesBuilder];simp only[Result.andThen];rw[Oper.upon_value];go_wp2;go_end0;exact⟨rfl,rfl⟩
theorem copyCheck_c (B b:Nat) (bs:List Value) (w:World) (h:Lib.IsBuilder 142 5 B b bs w):
  Calls Tryz.prog 155 #[.pointer (some ⟨b,0,none⟩)] w fun e w'=>e= .returned (.tuple #[])∧(Lib.BuilderAt 142 5 B b (.pointer (some ⟨b,0,none⟩)) bs w'∧Below B w w'):=by
 rcases h with h|h
 ·
  refine(copyCheck_fresh b w h.cell0 h.shape h.frozen0).mono ?_;rintro e w' ⟨rfl,rfl⟩;exact⟨rfl,h.used _,(Below.refl B w).setCell (p:=⟨b,0,none⟩) h.1 _⟩
 ·
  refine(copyCheck_used b w h.cell0).mono ?_;rintro e w' ⟨rfl,rfl⟩;exact⟨rfl,h,Below.refl B _⟩
theorem info_byte:(Tryz.prog.info? 5).map (fun i=>(i.zero,i.size,i.bytes))=some (some (.int .u8 0),1,1):=by kernel_rfl
theorem writeString_c (B b:Nat) (bs:List Value) (s:ByteArray) (w:World) (h:Lib.IsBuilder 142 5 B b bs w) (hlen:bs.length+s.size≤140737488355328) (hBw:B≤w.heap.size):
  Calls Tryz.prog 80 #[.pointer (some ⟨b,0,none⟩), .string s] w fun e w'=>e= .returned (.tuple #[.int .i64 s.size, .nilIface])∧(Lib.BuilderAt 142 5 B b (.pointer (some ⟨b,0,none⟩)) (bs++Lib.strCells s) w'∧Below B w w'):=by
 obtain⟨i0,hi,hz0,hz1,hz2⟩:=info_parts info_byte;go_enter Tryz.func80,Tryz.ntmps80
 go_wp2_with (go_at_call 155;refine(copyCheck_c B b bs _ h).mono ?_)
 rintro e w1 ⟨rfl,h1,hb1⟩;obtain⟨hB,v,hbk,hown,hne⟩:=h1;have c0:w1.cell? ⟨b,0,none⟩=some (.pointer (some ⟨b,0,none⟩)):=by rw[Lib.cell_of_heap hbk];rfl
 have c1:w1.cell? ⟨b,1,none⟩=some v:=by rw[Lib.cell_of_heap hbk];rfl
 go_wp2_with (at_builtin;refine Lib.wpList_append_own_string _ rfl _ _ 140 9 rfl B 5 i0 Tryz.underlying140 Tryz.underlying9 hi hz0 hz1 hz2 _ _ _ rfl hown s rfl ?c3 ?c4 ?c5 ?_)
 case c3=>unfold maxLen;omega
 case c4=>omega
 case c5=>have:=hb1.size;omega
 intro v' w2 hown' hgrow _;have hlt:b<w1.heap.size:=by
  rcases Nat.lt_or_ge b w1.heap.size with h'|h'
  · exact h'
  · simp[Array.getElem?_eq_none h']at hbk
 have hb2:w2.heap[b]? =some (.cells #[.pointer (some ⟨b,0,none⟩),v] 142 (0,0)):=by
  rw[hgrow.block b hlt (fun e=>hne e.symm)];exact hbk
 have d0:w2.cell? ⟨b,0,none⟩=some (.pointer (some ⟨b,0,none⟩)):=by rw[Lib.cell_of_heap hb2];rfl
 have d1:w2.cell? ⟨b,1,none⟩=some v:=by rw[Lib.cell_of_heap hb2];rfl
 have f1:w2.frozen? ⟨b,1,none⟩=false:=Lib.frozen_of_heap hb2 1;obtain⟨ao,n',cap,rfl⟩: ∃ ao n' cap,v'= .slice ao n' cap:=by
  rcases hown'.2 with⟨hv,_⟩|⟨g,cap,cur,hv,_⟩
  · exact⟨_,_,_,hv⟩
  · exact⟨_,_,_,hv⟩
 go_wp2;go_ret2;refine⟨rfl, ?_, ?_⟩
 · exact Lib.BuilderAt.put (T:=142) (e:=5) hB hb2 (bs':=bs++Lib.strCells s) (by simpa[Lib.strCells_length]using hown') (by decide)
 · exact(hb1.grown hgrow (by have:=hb1.size;omega) (fun k hk=>(hown.lt k hk).1)).setCell (p:=⟨b,1,none⟩) hB _
end Go.Proofs.YtakedkcjplfgeaaGreatDoor.Ck
namespace Go.Proofs.YtakedkcjplfgeaaGreatDoor.Ck
open Go.RowKit
open Num Clk
theorem ret_int {k:IntKind} {a b:Int} (h:a=b):Ending.returned (.int k a)= .returned (.int k b):=by rw[h]
theorem ret_bool {a b:Bool} (h:a=b):Ending.returned (.bool a)= .returned (.bool b):=by rw[h]
theorem ret_str {a b:ByteArray} (h:a=b):Ending.returned (.string a)= .returned (.string b):=by rw[h]
theorem ret2_str {a b:ByteArray} {x:Value} (h:a=b):Ending.returned (.tuple #[.string a,x])= .returned (.tuple #[.string b,x]):=by rw[h]
theorem ret2_int {k:IntKind} {a b:Int} {x:Value} (h:a=b):Ending.returned (.tuple #[.int k a,x])= .returned (.tuple #[.int k b,x]):=by rw[h]
abbrev str (l:List UInt8):Value:= .string ⟨l.toArray⟩
theorem conv1 (W:World) (b:Nat) (x:Int) (h0:W.cell? ⟨b,0,none⟩=some (.int .u8 x)):
  (convert 140 9 (.slice (some ⟨b,0,none⟩) 1 1)).run Tryz.prog W= .ok (.string ⟨#[UInt8.ofNat x.toNat]⟩) W:=
 run_convert_bytes_arg W 140 5 Tryz.underlying140 Tryz.underlying5 b 0 1 1 [x] rfl (by
  intro i hi
  match i,hi with
  |0,_=>simpa using h0) 9 Tryz.underlying9
theorem conv2 (W:World) (b:Nat) (x y:Int) (h0:W.cell? ⟨b,0,none⟩=some (.int .u8 x)) (h1:W.cell? ⟨b,1,none⟩=some (.int .u8 y)):
  (convert 140 9 (.slice (some ⟨b,0,none⟩) 2 2)).run Tryz.prog W= .ok (.string ⟨#[UInt8.ofNat x.toNat,UInt8.ofNat y.toNat]⟩) W:=
 run_convert_bytes_arg W 140 5 Tryz.underlying140 Tryz.underlying5 b 0 2 2 [x,y] rfl (by
  intro i hi
  match i,hi with
  |0,_=>simpa using h0
  |1,_=>simpa using h1) 9 Tryz.underlying9
def validB (t:Int):Bool:=decide (0≤t)&&decide (t≤172800)
theorem valid_b (t:Int) (b:Bool) (h:Hid (validB t=b)) (w:World):Calls Tryz.prog 265 #[.int .i64 t] w fun e w'=>e= .returned (.bool b)∧w=w':=by
 by_cases h0:0≤t
 ·
  by_cases h1:t≤172800
  ·
   have HB:=Lib.hid (show b=true by rw[←h.out];simp[validB,h0,h1]);go_enter Tryz.func265,Tryz.ntmps265
   go_wp2;go_ret;exact⟨ret_bool (by rw[HB.out]),rfl⟩
  ·
   have HB:=Lib.hid (show b=false by rw[←h.out];simp[validB,h1]);go_enter Tryz.func265,Tryz.ntmps265
   go_wp2;go_ret;exact⟨ret_bool (by rw[HB.out]),rfl⟩
 ·
  have HB:=Lib.hid (show b=false by rw[←h.out];simp[validB,h0]);go_enter Tryz.func265,Tryz.ntmps265
  go_wp2;go_ret;exact⟨ret_bool (by rw[HB.out]),rfl⟩
theorem valid_yes {t:Int} (h0:0≤t) (h1:t≤172800):Hid (validB t=true):=by show _=_;simp[validB,h0,h1]
theorem valid_no {t:Int} (h: ¬ (0≤t∧t≤172800)):Hid (validB t=false):=by
 show _=_
 by_cases h0:0≤t
 ·
  have: ¬ t≤172800:=fun k=>h ⟨h0,k⟩
  simp[validB,this]
 · simp[validB,h0]
theorem split_yes (t:Int) (h0:0≤t) (h1:t≤172800) (w:World):
  Calls Tryz.prog 213 #[.int .i64 t] w fun e w'=>e= .returned (.tuple #[.int .i64 (t / 3600), .int .i64 (t%3600 / 60), .int .i64 (t%60), .bool true])∧w=w':=by
 go_enter Tryz.func213,Tryz.ntmps213
 go_wp2_with (go_at_call 265;refine(valid_b _ true (valid_yes h0 h1) _).mono ?_;rintro e w1 ⟨rfl,rfl⟩)
 refine bodyPost_ret (v:= .tuple #[.int .i64 (t / 3600), .int .i64 (t%3600 / 60), .int .i64 (t%60), .bool true]) (by simp[results,Tryz.results213,go_sem]) rfl ⟨rfl,rfl⟩
theorem split_no (t:Int) (h: ¬ (0≤t∧t≤172800)) (w:World):
  Calls Tryz.prog 213 #[.int .i64 t] w fun e w'=>e= .returned (.tuple #[.int .i64 0, .int .i64 0, .int .i64 0, .bool false])∧w=w':=by
 have HV:=valid_no h;clear h;go_enter Tryz.func213,Tryz.ntmps213
 go_wp2_with (go_at_call 265;refine(valid_b _ false HV _).mono ?_;rintro e w1 ⟨rfl,rfl⟩)
 refine bodyPost_ret (v:= .tuple #[.int .i64 0, .int .i64 0, .int .i64 0, .bool false]) (by simp[results,Tryz.results213,go_sem]) rfl ⟨rfl,rfl⟩
theorem join_c (h m s n:Int) (ok:Bool) (H:Hid (join h m s=(n,ok))) (w:World):
  Calls Tryz.prog 246 #[.int .i64 h, .int .i64 m, .int .i64 s] w fun e w'=>e= .returned (.tuple #[.int .i64 n, .bool ok])∧w=w':=by
 cases ok with
 |true=>
  obtain⟨⟨⟨a0,a1⟩,⟨b0,b1⟩,⟨c0,c1⟩,hs⟩,hn⟩:=join_yes H.out;have HN:=Lib.hid hn;clear hn;go_enter Tryz.func246,Tryz.ntmps246
  go_wp2_with (go_at_call 265;refine(valid_b _ true (valid_yes (by omega) (by omega)) _).mono ?_;rintro e w1 ⟨rfl,rfl⟩)
  go_ret2;exact⟨ret2_int (by rw[HN.out]),rfl⟩
 |false=>
  obtain⟨rfl,hc⟩:=join_no H.out;rcases(show h<0∨(0≤h∧48<h)∨(0≤h∧h≤48∧m<0)∨(0≤h∧h≤48∧0≤m∧59<m)∨(0≤h∧h≤48∧0≤m∧m≤59∧s<0)∨(0≤h∧h≤48∧0≤m∧m≤59∧0≤s∧59<s)∨(0≤h∧h≤48∧0≤m∧m≤59∧0≤s∧s≤59∧172800<3600*h+60*m+s) by omega)with
   k|⟨k1,k2⟩|⟨k1,k2,k3⟩|⟨k1,k2,k3,k4⟩|⟨k1,k2,k3,k4,k5⟩|⟨k1,k2,k3,k4,k5,k6⟩|⟨k1,k2,k3,k4,k5,k6,k7⟩
  all_goals clear hc
  ·
   go_enter Tryz.func246,Tryz.ntmps246
   go_wp2;go_ret2;exact⟨rfl,rfl⟩
  ·
   go_enter Tryz.func246,Tryz.ntmps246
   go_wp2;go_ret2;exact⟨rfl,rfl⟩
  ·
   go_enter Tryz.func246,Tryz.ntmps246
   go_wp2;go_ret2;exact⟨rfl,rfl⟩
  ·
   go_enter Tryz.func246,Tryz.ntmps246
   go_wp2;go_ret2;exact⟨rfl,rfl⟩
  ·
   go_enter Tryz.func246,Tryz.ntmps246
   go_wp2;go_ret2;exact⟨rfl,rfl⟩
  ·
   go_enter Tryz.func246,Tryz.ntmps246
   go_wp2;go_ret2;exact⟨rfl,rfl⟩
  ·
   go_enter Tryz.func246,Tryz.ntmps246
   go_wp2_with (go_at_call 265;refine(valid_b _ false (valid_no (by omega)) _).mono ?_;rintro e w1 ⟨rfl,rfl⟩)
   go_ret2;exact⟨rfl,rfl⟩
theorem two_c (n:Int) (h0:0≤n) (h1:n≤99) (w:World):Calls Tryz.prog 215 #[.int .i64 n] w fun e w'=>e= .returned (str (two n.toNat))∧Bl w w':=by
 have hcv:=conv2;have HT:Hid ((⟨#[UInt8.ofNat (48+n / 10).toNat,UInt8.ofNat (48+n%10).toNat]⟩:ByteArray)=⟨(two n.toNat).toArray⟩):=by
  show _=_
  unfold two;rw[show(48+n / 10).toNat=48+n.toNat / 10 by omega,show(48+n%10).toNat=48+n.toNat%10 by omega]
 go_enter Tryz.func215,Tryz.ntmps215
 go_wp2;go_ret;exact⟨ret_str HT.out,bl_alloc (bl_refl _) _⟩
end Go.Proofs.YtakedkcjplfgeaaGreatDoor.Ck
namespace Go.Proofs.YtakedkcjplfgeaaGreatDoor.Ck
open Go.RowKit
open Num Clk
def cat (ss:List ByteArray):List UInt8:=(ss.map fun s=>s.data.toList).flatten
theorem cat_snoc (ss:List ByteArray) (k:Nat) (h:k<ss.length):cat (ss.take (k+1))=cat (ss.take k)++(ss.getD k ByteArray.empty).data.toList:=by
 have e:ss.getD k ByteArray.empty=ss[k]:=by simp[List.getD,h]
 unfold cat;rw[e,List.take_succ_eq_append_getElem h,List.map_append,List.flatten_append];simp only[List.map_cons,List.map_nil,List.flatten_cons,List.flatten_nil,List.append_nil]
theorem cat_take_le (ss:List ByteArray) (k:Nat):(cat (ss.take k)).length≤(cat ss).length:=by
 have:cat ss=cat (ss.take k)++cat (ss.drop k):=by
  unfold cat;rw[←List.flatten_append,←List.map_append,List.take_append_drop]
 rw[this,List.length_append];omega
theorem cat_c (b0 k:Nat) (ss:List ByteArray) (hk:ss.length=k) (w:World) (hc: ∀ i,i<k→w.cell? ⟨b0,i,none⟩=some (.string (ss.getD i ByteArray.empty))) (hb0:b0<w.heap.size) (hsz:(cat ss).length≤140737488355328) (hkm:k≤1000):
  Calls Tryz.prog 214 #[.slice (some ⟨b0,0,none⟩) k k] w fun e w'=>e= .returned (str (cat ss))∧Bl w w':=by
 have HC:=Lib.hid hc;have HK:=Lib.hid hk;clear hc hk;go_enter Tryz.func214,Tryz.ntmps214
 go_wp2;go_loopw [8] (fun i wr=> ∃ j:Nat,j≤k∧i= .int .i64 j∧Lib.IsBuilder 142 5 w.heap.size w.heap.size (Lib.byteCells (cat (ss.take j))) wr∧Bl w wr) (fun i _=>k-(intOf i).toNat)
 case atStart=>exact⟨0,Nat.zero_le _,rfl,Lib.fresh_isBuilder _ _ w,bl_alloc (bl_refl _) _⟩
 case round=>
  obtain⟨j,hj,rfl,hI,hb⟩:=hrel;have HI:=Lib.hid hI;clear hI;by_cases hlt:j<k
  ·
   obtain⟨s,hs⟩: ∃ s,s=ss.getD j ByteArray.empty:=⟨_,rfl⟩;have hcx:wr.cell? ⟨b0,j,none⟩=some (.string s):=by
    rw[hb.cell (p:=⟨b0,j,none⟩) hb0,HC.out j hlt,hs]
   have HS:=Lib.hid (cat_snoc ss j (by rw[HK.out];exact hlt));have hle:=cat_take_le ss (j+1);rw[HS.out,←hs,List.length_append]at hle;have hle':(cat (ss.take j)).length+s.size≤140737488355328:=by
    have:s.data.toList.length=s.size:=by simp
    omega
   have HSS:=Lib.hid hs;clear hs;go_wp2_with (go_at_call 80;refine(writeString_c w.heap.size w.heap.size _ s _ HI.out (by rw[Lib.byteCells_length];exact hle') hb.size).mono ?_;rintro e w1 ⟨rfl,h1,b1⟩)
   go_roundw;case rel=>exact⟨j+1,by omega,by go_num, .inr (by rw[HS.out,←HSS.out,Lib.byteCells_append];exact h1),hb.trans b1⟩
   case measure=>simp[intOf];omega
  ·
   have HE:=Lib.hid (show cat (ss.take j)=cat ss by rw[List.take_of_length_le (by rw[HK.out];omega)]);go_wp2_with (go_at_call 82;refine(Tryz.Builder_String_any w.heap.size w.heap.size (cat (ss.take j)) _ HI.out hb.size).mono ?_;rintro e w1 ⟨rfl,b1⟩)
   go_ret;exact⟨ret_str (by rw[HE.out]),hb.trans b1⟩
theorem lit_cells (w:World) (ss:List ByteArray) (c:Array Value) (T:TypeId) (h:c=(ss.map Value.string).toArray): ∀ i,i<ss.length→(w.alloc (.cells c T)).cell? ⟨w.heap.size,i,none⟩=some (.string (ss.getD i ByteArray.empty)):=by
 intro i hi;subst h;rw[World.cell?_alloc_at (hn:=rfl)];simp[List.getD,hi]
theorem catNew_c (w:World) (ss:List ByteArray) (c:Array Value) (k:Nat) (h:c=(ss.map Value.string).toArray) (hk:ss.length=k) (l:List UInt8) (hl:cat ss=l) (hsz:l.length≤1000) (hkm:k≤1000):
  Calls Tryz.prog 214 #[.slice (some ⟨w.heap.size,0,none⟩) k k] (w.alloc (.cells c 9)) fun e w'=>e= .returned (str l)∧Bl w w':=by
 refine(cat_c w.heap.size k ss hk _ (by rw[←hk];exact lit_cells w ss c _ h) (by simp) (by rw[hl];omega) hkm).mono ?_;rintro e w' ⟨rfl,hb⟩;exact⟨by rw[hl],bl_next (bl_alloc (bl_refl _) _) hb⟩
theorem cat5 (a b c d e:List UInt8):cat [⟨a.toArray⟩,⟨b.toArray⟩,⟨c.toArray⟩,⟨d.toArray⟩,⟨e.toArray⟩]=a++(b++(c++(d++e))):=by simp[cat]
theorem fmt_c (t:Int) (l:List UInt8) (e:Int) (H:Hid (fmt t=(l,e))) (w:World):
  Calls Tryz.prog 150 #[.int .i64 t] w fun r w'=>r= .returned (.tuple #[str l, .int .i64 e])∧Bl w w':=by
 have H':=H.out;unfold fmt at H';by_cases h:0≤t∧t≤172800
 ·
  rw[if_pos h,Prod.mk.injEq]at H';obtain⟨rfl,rfl⟩:=H';clear H;obtain⟨h0,h1⟩:=h;go_enter Tryz.func150,Tryz.ntmps150
  go_wp2_with fail;refine(split_yes t h0 h1 _).mono ?_;rintro e w1 ⟨rfl,rfl⟩;go_wp2_with fail;refine(two_c _ (by omega) (by omega) _).mono ?_;rintro e w1 ⟨rfl,b1⟩;go_wp2_with fail;refine(two_c _ (by omega) (by omega) _).mono ?_;rintro e w2 ⟨rfl,b2⟩;go_wp2_with fail;refine(two_c _ (by omega) (by omega) _).mono ?_;rintro e w3 ⟨rfl,b3⟩;go_wp2_with fail;refine(catNew_c w3 [⟨(two (t / 3600).toNat).toArray⟩,⟨[58].toArray⟩,⟨(two (t%3600 / 60).toNat).toArray⟩,⟨[58].toArray⟩,⟨(two (t%60).toNat).toArray⟩] _ 5 rfl rfl (clockText t.toNat) (by
   rw[cat5];unfold clockText;rw[show(t / 3600).toNat=t.toNat / 3600 by omega,show(t%3600 / 60).toNat=t.toNat / 60%60 by omega,show(t%60).toNat=t.toNat%60 by omega];rfl) (by show 8≤1000;omega) (by omega)).mono ?_
  rintro e w4 ⟨rfl,b4⟩;go_wp2;go_ret2;exact⟨rfl,bl_next (bl_next (bl_next b1 b2) b3) b4⟩
 ·
  rw[if_neg h,Prod.mk.injEq]at H';obtain⟨rfl,rfl⟩:=H';clear H;have HN:=Lib.hid h;clear h;go_enter Tryz.func150,Tryz.ntmps150
  go_wp2_with fail;refine(split_no t HN.out _).mono ?_;rintro e w1 ⟨rfl,rfl⟩;go_wp2;go_ret2;exact⟨rfl,bl_refl _⟩
end Go.Proofs.YtakedkcjplfgeaaGreatDoor.Ck
namespace Go.Proofs.YtakedkcjplfgeaaGreatDoor.Ck
open Go.RowKit
open Num Clk
theorem bytes_get (s:ByteArray) (k:Nat) (h:k<s.size):s.data.toList[k]'(by simpa using h)=s[k]'h:=by simp;rfl
theorem not_dig {c:UInt8} (h:isDig c=false):(c.toNat:Int)<48∨57<(c.toNat:Int):=by
 have: ¬ (48≤c.toNat∧c.toNat≤57):=by rw[←isDig_iff,h];simp
 omega
theorem first_bad (q:Nat→UInt8→Bool) (s:ByteArray): ∃ p:Nat,p≤s.size∧(∀ k (h:k<s.size),k<p→q k (s[k]'h)=true)∧ ∀ h:p<s.size,q p (s[p]'h)=false:=by
 suffices H: ∀ n,n≤s.size→(∀ k (h:k<s.size),k<s.size-n→q k (s[k]'h)=true)→ ∃ p:Nat,p≤s.size∧(∀ k (h:k<s.size),k<p→q k (s[k]'h)=true)∧ ∀ h:p<s.size,q p (s[p]'h)=false from
  H s.size (Nat.le_refl _) (fun k h hk=>by omega)
 intro n;induction n with
 |zero=>intro _ h;exact⟨s.size,Nat.le_refl _,fun k hk _=>h k hk (by omega),fun h=>absurd h (by omega)⟩
 |succ n ih=>
  intro hn h;by_cases hd:q (s.size-(n+1)) (s[s.size-(n+1)]'(by omega))=true
  ·
   refine ih (by omega) fun k hk hlt=>?_
   by_cases e:k=s.size-(n+1)
   · subst e;exact hd
   · exact h k hk (by omega)
  · exact⟨s.size-(n+1),by omega,h,fun _=>by simpa using hd⟩
def okAt (i:Nat) (c:UInt8):Bool:=if i=2∨i=5 then c==58 else isDig c
def Shape (s:ByteArray):Prop:=s.size=8∧ ∀ i (h:i<s.size),okAt i (s[i]'h)=true
theorem okAt_dot {i:Nat} {c:UInt8} (h:okAt i c=true) (hi:i=2∨i=5):(c.toNat:Int)=58:=by
 unfold okAt at h;rw[if_pos hi]at h;have:c=58:=by simpa using h
 rw[this];rfl
theorem okAt_dig {i:Nat} {c:UInt8} (h:okAt i c=true) (hi: ¬ (i=2∨i=5)):isDig c=true:=by
 unfold okAt at h;rwa [if_neg hi]at h
theorem badAt_dot {i:Nat} {c:UInt8} (h:okAt i c=false) (hi:i=2∨i=5): ¬ (c.toNat:Int)=58:=by
 unfold okAt at h;rw[if_pos hi]at h;intro k;have:c=58:=UInt8.toNat.inj (by simpa using(by omega:c.toNat=58));rw[this]at h;simp at h
theorem badAt_dig {i:Nat} {c:UInt8} (h:okAt i c=false) (hi: ¬ (i=2∨i=5)):isDig c=false:=by
 unfold okAt at h;rwa [if_neg hi]at h
theorem three (pos:Nat):(((pos:Int)==2)=true∧(pos=2∨pos=5))∨(((pos:Int)==2)=false∧((pos:Int)==5)=true∧(pos=2∨pos=5))∨(((pos:Int)==2)=false∧((pos:Int)==5)=false∧ ¬ (pos=2∨pos=5)):=by
 by_cases h2:pos=2
 ·
  subst h2;exact .inl ⟨rfl, .inl rfl⟩
 ·
  by_cases h5:pos=5
  ·
   subst h5;exact .inr (.inl ⟨rfl,rfl, .inr rfl⟩)
  · exact .inr (.inr ⟨by simp;omega,by simp;omega,by omega⟩)
theorem shaped_b (s:ByteArray) (b:Bool) (H:Hid ((Shape s∧b=true)∨(¬ Shape s∧b=false))) (w:World):
  Calls Tryz.prog 245 #[.string s] w fun e w'=>e= .returned (.bool b)∧Bl w w':=by
 by_cases h8:(s.size:Int)=8
 ·
  obtain⟨p,hp,hd,hn⟩:=first_bad okAt s;have HD:=Lib.hid hd;have HN:=Lib.hid hn;clear hd hn;have hs1:8≤s.size:=by omega
  have hs2:s.size≤8:=by omega
  go_enter Tryz.func245,Tryz.ntmps245
  go_wp2;go_loopw [3,4] (fun _ _ w'=> ∃ pos:Nat,pos≤p∧w'=w.iter s pos) (fun _ _ w'=>s.size-w'.iterPos w.heap.size)
  case atStart=>exact⟨0,Nat.zero_le _,rfl⟩
  case round=>
   obtain⟨pos,hpos,rfl⟩:=hrel;by_cases h1:pos<p
   ·
    have hps:pos<s.size:=by omega
    have hok:=HD.out pos hps h1;rcases three pos with⟨h2,hi⟩|⟨h2,h3,hi⟩|⟨h2,h3,hi⟩
    ·
     have hb:=okAt_dot hok hi;clear hi;have hnx: ∀ ty,(Instr.next (.pointer (some ⟨w.heap.size,0,none⟩)) true ty).run Tryz.prog (w.iter s pos)=_:=fun ty=>run_next_ascii w s pos ty hps (by omega)
     clear hok;go_wp2;go_roundw;case rel=>exact⟨pos+1,by omega,rfl⟩
     case measure=>simp;omega
    ·
     have hb:=okAt_dot hok hi;clear hi;have hnx: ∀ ty,(Instr.next (.pointer (some ⟨w.heap.size,0,none⟩)) true ty).run Tryz.prog (w.iter s pos)=_:=fun ty=>run_next_ascii w s pos ty hps (by omega)
     clear hok;go_wp2;go_roundw;case rel=>exact⟨pos+1,by omega,rfl⟩
     case measure=>simp;omega
    ·
     have hb:=dig_bd (okAt_dig hok hi);clear hi;have hnx: ∀ ty,(Instr.next (.pointer (some ⟨w.heap.size,0,none⟩)) true ty).run Tryz.prog (w.iter s pos)=_:=fun ty=>run_next_ascii w s pos ty hps (by omega)
     clear hok;go_wp2;go_roundw;case rel=>exact⟨pos+1,by omega,rfl⟩
     case measure=>simp;omega
   ·
    obtain rfl:pos=p:=by omega
    by_cases h2:pos<s.size
    ·
     have hbad:=HN.out h2;have HB:Hid (b=false):=by
      rcases H.out with⟨hS,_⟩|⟨_,hb⟩
      ·
       have:=hS.2 pos h2;rw[hbad]at this;simp at this
      · exact hb
     rcases(show(((pos:Int)==2)=true∧ ¬ ((s[pos]'h2).toNat:Int)=58)∨(((pos:Int)==2)=false∧((pos:Int)==5)=true∧ ¬ ((s[pos]'h2).toNat:Int)=58)∨(((pos:Int)==2)=false∧((pos:Int)==5)=false∧(((s[pos]'h2).toNat:Int)<48∨57<((s[pos]'h2).toNat:Int))) by
      rcases three pos with⟨g2,hi⟩|⟨g2,g3,hi⟩|⟨g2,g3,hi⟩
      · exact .inl ⟨g2,badAt_dot hbad hi⟩
      · exact .inr (.inl ⟨g2,g3,badAt_dot hbad hi⟩)
      · exact .inr (.inr ⟨g2,g3,not_dig (badAt_dig hbad hi)⟩))with⟨g2,g4⟩|⟨g2,g3,g4⟩|⟨g2,g3,g4|g4⟩
     all_goals
      clear hbad;by_cases h5:(s[pos]'h2).toNat<128
      ·
       have hnx: ∀ ty,(Instr.next (.pointer (some ⟨w.heap.size,0,none⟩)) true ty).run Tryz.prog (w.iter s pos)=_:=fun ty=>run_next_ascii w s pos ty h2 h5
       go_wp2;go_ret;exact⟨ret_bool HB.out.symm,bl_iter (bl_refl _) _ _⟩
      ·
       have hnx: ∀ ty,(Instr.next (.pointer (some ⟨w.heap.size,0,none⟩)) true ty).run Tryz.prog (w.iter s pos)=_:=fun ty=>run_next_any w s pos ty h2
       have hh:=decode_high s pos h2 (by omega);go_wp2;all_goals
        go_ret;exact⟨ret_bool HB.out.symm,bl_iter (bl_refl _) _ _⟩
    ·
     have hnx: ∀ ty,(Instr.next (.pointer (some ⟨w.heap.size,0,none⟩)) true ty).run Tryz.prog (w.iter s pos)=_:=fun ty=>run_next_end w s pos ty h2
     have HB:Hid (b=true):=by
      rcases H.out with⟨_,hb⟩|⟨hS,_⟩
      · exact hb
      · exact absurd ⟨by omega,fun i hi=>HD.out i hi (by omega)⟩ hS
     go_wp2;go_ret;exact⟨ret_bool HB.out.symm,bl_iter (bl_refl _) _ _⟩
 ·
  have HB:Hid (b=false):=by
   rcases H.out with⟨hS,_⟩|⟨_,hb⟩
   · exact absurd (by rw[hS.1];rfl) h8
   · exact hb
  go_enter Tryz.func245,Tryz.ntmps245
  go_wp2;go_ret;exact⟨ret_bool HB.out.symm,bl_refl _⟩
end Go.Proofs.YtakedkcjplfgeaaGreatDoor.Ck
namespace Go.Proofs.YtakedkcjplfgeaaGreatDoor.Ck
open Go.RowKit
open Num Clk
theorem idx_c (s:ByteArray) (z:Int) (i:Nat) (hz:z=(i:Int)) (hi:i<s.size) (W:World):
  (Instr.index 9 (.string s) (.int .i64 z)).run Tryz.prog W= .ok (.int .u8 ((s[i]'hi).toNat:Int)) W:=by
 subst hz;rw[run_index_string W 9 s .i64 _ Tryz.underlying9,dif_pos ⟨by omega,by omega⟩];rfl
theorem pair_c (s:ByteArray) (a b:UInt8) (hs:Hid (s.data.toList=[a,b])) (ha:isDig a=true) (hb:isDig b=true) (w:World):
  Calls Tryz.prog 247 #[.string s] w fun e w'=>e= .returned (.int .i64 (pair a b))∧ ∃ m,w'=w.drewN m:=by
 have hsz:s.size=2:=by
  have:s.data.toList.length=s.size:=by simp
  rw[hs.out]at this;simpa using this.symm
 have h0:0<s.size:=by omega
 have h1:1<s.size:=by omega
 have e0:s[0]'h0=a:=by
  rw[←bytes_get s 0 h0];simp[hs.out]
 have e1:s[1]'h1=b:=by
  rw[←bytes_get s 1 h1];simp[hs.out]
 have ba:=dig_bd ha;have bb:=dig_bd hb;rw[←e0]at ba;rw[←e1]at bb;have HP:=Lib.hid (show pair a b=(10:Int)*(((s[0]'h0).toNat:Int)-(48:Int))+(((s[1]'h1).toNat:Int)-48) by rw[e0,e1];rfl);clear e0 e1 hsz ha hb;have E1:=Lib.hid (IntWalk.u8_in (((s[0]'h0).toNat:Int)-48) (by omega));have E2:=Lib.hid (IntWalk.i64_in (((s[0]'h0).toNat:Int)-48) (by omega));have E3:=Lib.hid (IntWalk.i64_in ((10:Int)*(((s[0]'h0).toNat:Int)-(48:Int))) (by omega));have E4:=Lib.hid (IntWalk.u8_in (((s[1]'h1).toNat:Int)-48) (by omega));have E5:=Lib.hid (IntWalk.i64_in (((s[1]'h1).toNat:Int)-48) (by omega));have E6:=Lib.hid (IntWalk.i64_in ((10:Int)*(((s[0]'h0).toNat:Int)-(48:Int))+(((s[1]'h1).toNat:Int)-48)) (by omega));go_enter Tryz.func247,Tryz.ntmps247
 go_wp2;have e1:=E1.out;have e2:=E2.out;have e3:=E3.out;have e4:=E4.out;have e5:=E5.out;have e6:=E6.out;have e7:=fun W=>idx_c s 0 0 rfl h0 W
 have e8:=fun W=>idx_c s 1 1 rfl h1 W
 go_quiet (fail)
 clear e1 e2 e3 e4 e5 e6 e7 e8;go_wp2;go_ret;exact⟨ret_int (by rw[HP.out]),nq,rfl⟩
theorem list8 {l:List UInt8} (h:l.length=8): ∃ a b x c d y e f,l=[a,b,x,c,d,y,e,f]:=by
 match l,h with
 |[a,b,x,c,d,y,e,f],_=>exact⟨_,_,_,_,_,_,_,_,rfl⟩
theorem shape_list (s:ByteArray):Shape s↔ ∃ a b c d e f:UInt8,s.data.toList=[a,b,58,c,d,58,e,f]∧isDig a=true∧isDig b=true∧isDig c=true∧isDig d=true∧isDig e=true∧isDig f=true:=by
 have hlen:s.data.toList.length=s.size:=by simp
 constructor
 ·
  rintro⟨h8,h⟩;obtain⟨a,b,x,c,d,y,e,f,hl⟩:=list8 (l:=s.data.toList) (by omega);have g: ∀ i (hi:i<s.size),okAt i (s.data.toList[i]'(by omega))=true:=fun i hi=>by rw[bytes_get s i hi];exact h i hi
  have g0:=g 0 (by omega);have g1:=g 1 (by omega);have g2:=g 2 (by omega);have g3:=g 3 (by omega);have g4:=g 4 (by omega);have g5:=g 5 (by omega);have g6:=g 6 (by omega);have g7:=g 7 (by omega);simp only[hl,List.getElem_cons_zero,List.getElem_cons_succ]at g0 g1 g2 g3 g4 g5 g6 g7;obtain rfl:x=58:=by simpa[okAt]using g2
  obtain rfl:y=58:=by simpa[okAt]using g5
  exact⟨a,b,c,d,e,f,hl,by simpa[okAt]using g0,by simpa[okAt]using g1,by simpa[okAt]using g3,by simpa[okAt]using g4,by simpa[okAt]using g6,by simpa[okAt]using g7⟩
 ·
  rintro⟨a,b,c,d,e,f,hl,ha,hb,hc,hd,he,hf⟩;have h8:s.size=8:=by rw[←hlen,hl];rfl
  refine⟨h8,fun i hi=>?_⟩;rw[←bytes_get s i hi];rw[h8]at hi;simp only[hl];match i,hi with
  |0,_=>simpa[okAt]using ha
  |1,_=>simpa[okAt]using hb
  |2,_=>rfl
  |3,_=>simpa[okAt]using hc
  |4,_=>simpa[okAt]using hd
  |5,_=>rfl
  |6,_=>simpa[okAt]using he
  |7,_=>simpa[okAt]using hf
theorem ext_list (s:ByteArray) (i j:Nat):(s.extract i j).data.toList=(s.data.toList.drop i).take (j-i):=by rw[Lib.extract_data]
theorem parse_c (s:ByteArray) (n e:Int) (H:Time s.data.toList n e) (w:World):
  Calls Tryz.prog 189 #[.string s] w fun r w'=>r= .returned (.tuple #[.int .i64 n, .int .i64 e])∧Bl w w':=by
 generalize hl:s.data.toList=l at H
 have key: ∀ (a b c d e f:UInt8) (n:Int) (ok:Bool),s.data.toList=[a,b,58,c,d,58,e,f]→isDig a=true→isDig b=true→isDig c=true→isDig d=true→isDig e=true→isDig f=true→join (pair a b) (pair c d) (pair e f)=(n,ok)→
   Calls Tryz.prog 189 #[.string s] w fun r w'=>r= .returned (.tuple #[.int .i64 n, .int .i64 (if ok then 0 else 10)])∧Bl w w':=by
  intro a b c d e f n ok hl ha hb hc hd he hf hj;have HS:=Lib.hid ((shape_list s).2 ⟨a,b,c,d,e,f,hl,ha,hb,hc,hd,he,hf⟩);have h8:s.size=8:=HS.out.1;have hs1:8≤s.size:=by omega
  have hs2:s.size≤8:=by omega
  have H1:Hid ((s.extract 0 2).data.toList=[a,b]):=by show _=_;rw[ext_list,hl];rfl
  have H2:Hid ((s.extract 3 5).data.toList=[c,d]):=by show _=_;rw[ext_list,hl];rfl
  have H3:Hid ((s.extract 6 s.size).data.toList=[e,f]):=by show _=_;rw[ext_list,hl,h8];rfl
  have HJ:=Lib.hid hj;have D:=Lib.hid (And.intro ha (And.intro hb (And.intro hc (And.intro hd (And.intro he hf)))));clear hl hj ha hb hc hd he hf h8;cases ok with
  |true=>
   go_enter Tryz.func189,Tryz.ntmps189
   go_wp2_with fail;refine(shaped_b s true (.inl ⟨HS.out,rfl⟩) _).mono ?_;rintro e w1 ⟨rfl,b1⟩;go_wp2;have i2:(2:Int)≤(s.size:Int):=by omega
   have i5:(5:Int)≤(s.size:Int):=by omega
   have i6:(6:Int)≤(s.size:Int):=by omega
   go_quiet ((first
    |(go_at_call 247;with_reducible exact Calls.quiet_of (pair_c _ _ _ H1 D.out.1 D.out.2.1 _))
    |(go_at_call 247;with_reducible exact Calls.quiet_of (pair_c _ _ _ H2 D.out.2.2.1 D.out.2.2.2.1 _))
    |(go_at_call 247;with_reducible exact Calls.quiet_of (pair_c _ _ _ H3 D.out.2.2.2.2.1 D.out.2.2.2.2.2 _))
    |(go_at_call 246;with_reducible exact Calls.quiet_of_same ((join_c _ _ _ _ _ HJ _).mono fun _ _ ⟨he,hw⟩=>⟨he,hw.symm⟩))))
   go_wp2;go_ret2;exact⟨rfl,bl_drewN b1 _⟩
  |false=>
   obtain⟨rfl,_⟩:=join_no HJ.out;go_enter Tryz.func189,Tryz.ntmps189
   go_wp2_with fail;refine(shaped_b s true (.inl ⟨HS.out,rfl⟩) _).mono ?_;rintro e w1 ⟨rfl,b1⟩;go_wp2;have i2:(2:Int)≤(s.size:Int):=by omega
   have i5:(5:Int)≤(s.size:Int):=by omega
   have i6:(6:Int)≤(s.size:Int):=by omega
   go_quiet ((first
    |(go_at_call 247;with_reducible exact Calls.quiet_of (pair_c _ _ _ H1 D.out.1 D.out.2.1 _))
    |(go_at_call 247;with_reducible exact Calls.quiet_of (pair_c _ _ _ H2 D.out.2.2.1 D.out.2.2.2.1 _))
    |(go_at_call 247;with_reducible exact Calls.quiet_of (pair_c _ _ _ H3 D.out.2.2.2.2.1 D.out.2.2.2.2.2 _))
    |(go_at_call 246;with_reducible exact Calls.quiet_of_same ((join_c _ _ _ _ _ HJ _).mono fun _ _ ⟨he,hw⟩=>⟨he,hw.symm⟩))))
   go_wp2;go_ret2;exact⟨rfl,bl_drewN b1 _⟩
 cases H with
 |bad h=>
  have HS:=Lib.hid (show ¬ Shape s by rw[shape_list,hl];exact h);clear h hl key;go_enter Tryz.func189,Tryz.ntmps189
  go_wp2_with fail;refine(shaped_b s false (.inr ⟨HS.out,rfl⟩) _).mono ?_;rintro e w1 ⟨rfl,b1⟩;go_wp2;go_ret2;exact⟨rfl,b1⟩
 |out ha hb hc hd he hf h=>exact key _ _ _ _ _ _ _ _ hl ha hb hc hd he hf h
 |ok _ ha hb hc hd he hf h=>exact key _ _ _ _ _ _ _ _ hl ha hb hc hd he hf h
theorem digit_b (c:UInt8) (b:Bool) (h:Hid (isDig c=b)) (w:World):Calls Tryz.prog 257 #[.int .u8 (c.toNat:Int)] w fun e w'=>e= .returned (.bool b)∧w=w':=by
 cases b with
 |true=>
  obtain⟨h0,h1⟩:=dig_bd h.out;go_enter Tryz.func257,Tryz.ntmps257
  go_wp2;go_ret;exact⟨ret_bool (by simp),rfl⟩
 |false=>
  rcases not_dig h.out with h0|h0
  ·
   go_enter Tryz.func257,Tryz.ntmps257
   go_wp2;go_ret;exact⟨rfl,rfl⟩
  ·
   have h1:(48:Int)≤(c.toNat:Int):=by omega
   go_enter Tryz.func257,Tryz.ntmps257
   go_wp2;go_ret;exact⟨ret_bool (by simp;omega),rfl⟩
end Go.Proofs.YtakedkcjplfgeaaGreatDoor.Ck
