/- Contracts, proved. Conditions: each contract's own. -/
import Derived.Test.YtakedkcjplfgeaaGreatDoorRows
import Derived.Test.YtakedkcjplfgeaaGreatDoorMPkShelf
import Derived.Test.YtakedkcjplfgeaaGreatDoorMPkBase
import Derived.Test.YtakedkcjplfgeaaGreatDoorMPkPlain
import Derived.WalkSpells
import Derived.WalkLawsBesides
import Derived.Lib.SmallJoins
import Derived.BigQuiet
set_option maxRecDepth 1000000
set_option maxHeartbeats 32000000
namespace Go.Proofs.YtakedkcjplfgeaaGreatDoor.Ck
open Go.RowKit
theorem ZJ (b:Nat) (w:World) (h0:w.cell? ⟨b,0,none⟩=some (.pointer (some ⟨b,0,none⟩))):
  Calls Tryz.prog 155 #[.pointer (some ⟨b,0,none⟩)] w fun e w'=>e= .returned (.tuple #[])/\w'=w:=by
 obtain⟨j,hj,_⟩:=Option.map_eq_some_iff.1 Tryz.Builder_Extra_169.sizeBuilder;have hj':Tryz.prog.info? 142=some j:=hj;go_enter Tryz.func155,Tryz.ntmps155
 go_wp2;rw[Lib.run_neq_ptr_same w _ Tryz.underlying139 hj'];go_wp2;go_end0;exact⟨rfl,rfl⟩
theorem Qn (b:Nat) (w:World) (h0:w.cell? ⟨b,0,none⟩=some (.pointer none)) (hsh:w.shape? b=some (142,2)) (hfz:w.frozen? ⟨b,0,none⟩=false):
  Calls Tryz.prog 155 #[.pointer (some ⟨b,0,none⟩)] w fun e w'=>e= .returned (.tuple #[])/\w'=w.setCell ⟨b,0,none⟩ (.pointer (some ⟨b,0,none⟩)):=by
 obtain⟨j,hj,hjs⟩:=Option.map_eq_some_iff.1 Tryz.Builder_Extra_169.sizeBuilder;have hj':Tryz.prog.info? 142=some j:=hj;go_enter Tryz.func155,Tryz.ntmps155
 go_wp2;rw[Lib.run_to_unsafe w ⟨b,0,none⟩ Tryz.underlying139 Tryz.underlying229 hj' (by rw[hjs];decide) hsh (Nat.zero_lt_succ 1)];simp only[Result.andThen];rw[Oper.upon_value];go_wp2;rw[run_callFunc_extern Tryz.func220 (by kernel_rfl) (by kernel_rfl) (by kernel_rfl) (e:=Extern.AbiNoEscape.same) (by kernel_rfl)];rw[Lib.run_noEscape];simp only[Result.andThen];rw[Oper.upon_value];go_wp2;rw[Lib.run_from_unsafe w ⟨b,0,none⟩ Tryz.underlying229 Tryz.underlying139 hj' hsh Tryz.Builder_Extra_169.liesBuilder];simp only[Result.andThen];rw[Oper.upon_value];go_wp2;go_end0;exact⟨rfl,rfl⟩
theorem Zf (B b:Nat) (bs:List Value) (w:World) (h:Lib.IsBuilder 142 5 B b bs w):
  Calls Tryz.prog 155 #[.pointer (some ⟨b,0,none⟩)] w fun e w'=>e= .returned (.tuple #[])/\(Lib.BuilderAt 142 5 B b (.pointer (some ⟨b,0,none⟩)) bs w'/\Below B w w'):=by
 rcases h with h|h
 ·
  refine(Qn b w h.cell0 h.shape h.frozen0).mono ?_;rintro e w' ⟨rfl,rfl⟩;exact⟨rfl,h.used _,(Below.refl B w).setCell (p:=⟨b,0,none⟩) h.1 _⟩
 ·
  refine(ZJ b w h.cell0).mono ?_;rintro e w' ⟨rfl,rfl⟩;exact⟨rfl,h,Below.refl B _⟩
theorem vk:(Tryz.prog.info? 5).map (fun i=>(i.zero,i.size,i.bytes))=some (some (.int .u8 0),1,1):=by kernel_rfl
theorem Z9 (B b:Nat) (bs:List Value) (s:ByteArray) (w:World) (h:Lib.IsBuilder 142 5 B b bs w) (hlen:bs.length+s.size<=140737488355328) (hBw:B<=w.heap.size):
  Calls Tryz.prog 80 #[.pointer (some ⟨b,0,none⟩), .string s] w fun e w'=>e= .returned (.tuple #[.int .i64 s.size, .nilIface])/\(Lib.BuilderAt 142 5 B b (.pointer (some ⟨b,0,none⟩)) (bs++Lib.strCells s) w'/\Below B w w'):=by
 obtain⟨i0,hi,hz0,hz1,hz2⟩:=info_parts vk;go_enter Tryz.func80,Tryz.ntmps80
 go_wp2_with (go_at_call 155;refine(Zf B b bs _ h).mono ?_)
 rintro e w1 ⟨rfl,h1,hb1⟩;obtain⟨hB,v,hbk,hown,hne⟩:=h1;have c0:w1.cell? ⟨b,0,none⟩=some (.pointer (some ⟨b,0,none⟩)):=by rw[Lib.cell_of_heap hbk];rfl
 have c1:w1.cell? ⟨b,1,none⟩=some v:=by rw[Lib.cell_of_heap hbk];rfl
 go_wp2_with (at_builtin;refine Lib.wpList_append_own_string _ rfl _ _ 140 9 rfl B 5 i0 Tryz.underlying140 Tryz.underlying9 hi hz0 hz1 hz2 _ _ _ rfl hown s rfl ?c3 ?c4 ?c5 ?_)
 case c3=>unfold maxLen;omega
 case c4=>omega
 case c5=>have:=hb1.size;omega
 intro v' w2 hown' hgrow _;have hlt:b<w1.heap.size:=by
  rcases Nat.lt_or_ge b w1.heap.size with h'|h'
  · exact h'
  · simp[Array.getElem?_eq_none h']at hbk
 have hb2:w2.heap[b]? =some (.cells #[.pointer (some ⟨b,0,none⟩),v] 142 (0,0)):=by
  rw[hgrow.block b hlt (fun e=>hne e.symm)];exact hbk
 have d0:w2.cell? ⟨b,0,none⟩=some (.pointer (some ⟨b,0,none⟩)):=by rw[Lib.cell_of_heap hb2];rfl
 have d1:w2.cell? ⟨b,1,none⟩=some v:=by rw[Lib.cell_of_heap hb2];rfl
 have f1:w2.frozen? ⟨b,1,none⟩=false:=U8 hb2 1;obtain⟨ao,n',cap,rfl⟩: ∃ ao n' cap,v'= .slice ao n' cap:=by
  rcases hown'.2 with⟨hv,_⟩|⟨g,cap,cur,hv,_⟩
  · exact⟨_,_,_,hv⟩
  · exact⟨_,_,_,hv⟩
 go_wp2;go_ret2;refine⟨rfl, ?_, ?_⟩
 · exact Lib.BuilderAt.put (T:=142) (e:=5) hB hb2 (bs':=bs++Lib.strCells s) (by simpa[Lib.strCells_length]using hown') (by decide)
 · exact(hb1.grown hgrow (by have:=hb1.size;omega) (fun k hk=>(hown.lt k hk).1)).setCell (p:=⟨b,1,none⟩) hB _
open Num Clk
theorem qR {k:IntKind} {a b:Int} (h:a=b):Ending.returned (.int k a)= .returned (.int k b):=by rw[h]
theorem qO {a b:Bool} (h:a=b):Ending.returned (.bool a)= .returned (.bool b):=by rw[h]
theorem VL {a b:ByteArray} (h:a=b):Ending.returned (.string a)= .returned (.string b):=by rw[h]
theorem VK {a b:ByteArray} {x:Value} (h:a=b):Ending.returned (.tuple #[.string a,x])= .returned (.tuple #[.string b,x]):=by rw[h]
theorem wI {k:IntKind} {a b:Int} {x:Value} (h:a=b):Ending.returned (.tuple #[.int k a,x])= .returned (.tuple #[.int k b,x]):=by rw[h]
abbrev qP (l:List UInt8):Value:= .string ⟨l.toArray⟩
theorem Na (W:World) (b:Nat) (x:Int) (h0:W.cell? ⟨b,0,none⟩=some (.int .u8 x)):
  (convert 140 9 (.slice (some ⟨b,0,none⟩) 1 1)).run Tryz.prog W= .ok (.string ⟨#[UInt8.ofNat x.toNat]⟩) W:=
 run_convert_bytes_arg W 140 5 Tryz.underlying140 Tryz.underlying5 b 0 1 1 [x] rfl (by
  intro i hi
  match i,hi with
  |0,_=>simpa using h0) 9 Tryz.underlying9
theorem lV (W:World) (b:Nat) (x y:Int) (h0:W.cell? ⟨b,0,none⟩=some (.int .u8 x)) (h1:W.cell? ⟨b,1,none⟩=some (.int .u8 y)):
  (convert 140 9 (.slice (some ⟨b,0,none⟩) 2 2)).run Tryz.prog W= .ok (.string ⟨#[UInt8.ofNat x.toNat,UInt8.ofNat y.toNat]⟩) W:=
 run_convert_bytes_arg W 140 5 Tryz.underlying140 Tryz.underlying5 b 0 2 2 [x,y] rfl (by
  intro i hi
  match i,hi with
  |0,_=>simpa using h0
  |1,_=>simpa using h1) 9 Tryz.underlying9
def vW (t:Int):Bool:=decide (0<=t)&&decide (t<=172800)
theorem Jn (t:Int) (b:Bool) (h:Hid (vW t=b)) (w:World):Calls Tryz.prog 265 #[.int .i64 t] w fun e w'=>e= .returned (.bool b)/\w=w':=by
 by_cases h0:0<=t
 ·
  by_cases h1:t<=172800
  ·
   have HB:=qA (show b=true by rw[<-h.out];simp[vW,h0,h1]);go_enter Tryz.func265,Tryz.ntmps265
   go_wp2;go_ret;exact⟨qO (by rw[HB.out]),rfl⟩
  ·
   have HB:=qA (show b=false by rw[<-h.out];simp[vW,h1]);go_enter Tryz.func265,Tryz.ntmps265
   go_wp2;go_ret;exact⟨qO (by rw[HB.out]),rfl⟩
 ·
  have HB:=qA (show b=false by rw[<-h.out];simp[vW,h0]);go_enter Tryz.func265,Tryz.ntmps265
  go_wp2;go_ret;exact⟨qO (by rw[HB.out]),rfl⟩
theorem YO {t:Int} (h0:0<=t) (h1:t<=172800):Hid (vW t=true):=by show _=_;simp[vW,h0,h1]
theorem VS {t:Int} (h: ¬ (0<=t/\t<=172800)):Hid (vW t=false):=by
 show _=_
 by_cases h0:0<=t
 ·
  have: ¬ t<=172800:=fun k=>h ⟨h0,k⟩
  simp[vW,this]
 · simp[vW,h0]
theorem fC (t:Int) (h0:0<=t) (h1:t<=172800) (w:World):
  Calls Tryz.prog 213 #[.int .i64 t] w fun e w'=>e= .returned (.tuple #[.int .i64 (t / 3600), .int .i64 (t%3600 / 60), .int .i64 (t%60), .bool true])/\w=w':=by
 go_enter Tryz.func213,Tryz.ntmps213
 go_wp2_with (go_at_call 265;refine(Jn _ true (YO h0 h1) _).mono ?_;rintro e w1 ⟨rfl,rfl⟩)
 refine bodyPost_ret (v:= .tuple #[.int .i64 (t / 3600), .int .i64 (t%3600 / 60), .int .i64 (t%60), .bool true]) (by simp[results,Tryz.results213,go_sem]) rfl ⟨rfl,rfl⟩
theorem oz (t:Int) (h: ¬ (0<=t/\t<=172800)) (w:World):
  Calls Tryz.prog 213 #[.int .i64 t] w fun e w'=>e= .returned (.tuple #[.int .i64 0, .int .i64 0, .int .i64 0, .bool false])/\w=w':=by
 have HV:=VS h;clear h;go_enter Tryz.func213,Tryz.ntmps213
 go_wp2_with (go_at_call 265;refine(Jn _ false HV _).mono ?_;rintro e w1 ⟨rfl,rfl⟩)
 refine bodyPost_ret (v:= .tuple #[.int .i64 0, .int .i64 0, .int .i64 0, .bool false]) (by simp[results,Tryz.results213,go_sem]) rfl ⟨rfl,rfl⟩
theorem gZ (h m s n:Int) (ok:Bool) (H:Hid (join h m s=(n,ok))) (w:World):
  Calls Tryz.prog 246 #[.int .i64 h, .int .i64 m, .int .i64 s] w fun e w'=>e= .returned (.tuple #[.int .i64 n, .bool ok])/\w=w':=by
 cases ok with
 |true=>
  obtain⟨⟨⟨a0,a1⟩,⟨b0,b1⟩,⟨c0,c1⟩,hs⟩,hn⟩:=nH H.out;have HN:=qA hn;clear hn;go_enter Tryz.func246,Tryz.ntmps246
  go_wp2_with (go_at_call 265;refine(Jn _ true (YO (by omega) (by omega)) _).mono ?_;rintro e w1 ⟨rfl,rfl⟩)
  go_ret2;exact⟨wI (by rw[HN.out]),rfl⟩
 |false=>
  obtain⟨rfl,hc⟩:=BM H.out;rcases(show h<0∨(0<=h/\48<h)∨(0<=h/\h<=48/\m<0)∨(0<=h/\h<=48/\0<=m/\59<m)∨(0<=h/\h<=48/\0<=m/\m<=59/\s<0)∨(0<=h/\h<=48/\0<=m/\m<=59/\0<=s/\59<s)∨(0<=h/\h<=48/\0<=m/\m<=59/\0<=s/\s<=59/\172800<3600*h+60*m+s) by omega)with
   k|⟨k1,k2⟩|⟨k1,k2,k3⟩|⟨k1,k2,k3,k4⟩|⟨k1,k2,k3,k4,k5⟩|⟨k1,k2,k3,k4,k5,k6⟩|⟨k1,k2,k3,k4,k5,k6,k7⟩
  all_goals clear hc
  ·
   go_enter Tryz.func246,Tryz.ntmps246
   go_wp2;go_ret2;exact⟨rfl,rfl⟩
  ·
   go_enter Tryz.func246,Tryz.ntmps246
   go_wp2;go_ret2;exact⟨rfl,rfl⟩
  ·
   go_enter Tryz.func246,Tryz.ntmps246
   go_wp2;go_ret2;exact⟨rfl,rfl⟩
  ·
   go_enter Tryz.func246,Tryz.ntmps246
   go_wp2;go_ret2;exact⟨rfl,rfl⟩
  ·
   go_enter Tryz.func246,Tryz.ntmps246
   go_wp2;go_ret2;exact⟨rfl,rfl⟩
  ·
   go_enter Tryz.func246,Tryz.ntmps246
   go_wp2;go_ret2;exact⟨rfl,rfl⟩
  ·
   go_enter Tryz.func246,Tryz.ntmps246
   go_wp2_with (go_at_call 265;refine(Jn _ false (VS (by omega)) _).mono ?_;rintro e w1 ⟨rfl,rfl⟩)
   go_ret2;exact⟨rfl,rfl⟩
theorem aY (n:Int) (h0:0<=n) (h1:n<=99) (w:World):Calls Tryz.prog 215 #[.int .i64 n] w fun e w'=>e= .returned (qP (ZW n.toNat))/\Bl w w':=by
 have hcv:=lV;have HT:Hid ((⟨#[UInt8.ofNat (48+n / 10).toNat,UInt8.ofNat (48+n%10).toNat]⟩:ByteArray)=⟨(ZW n.toNat).toArray⟩):=by
  show _=_
  unfold ZW;rw[show(48+n / 10).toNat=48+n.toNat / 10 by omega,show(48+n%10).toNat=48+n.toNat%10 by omega]
 go_enter Tryz.func215,Tryz.ntmps215
 go_wp2;go_ret;exact⟨VL HT.out,qE (qB _) _⟩
def YP (ss:List ByteArray):List UInt8:=(ss.map fun s=>s.data.toList).flatten
theorem lU (ss:List ByteArray) (k:Nat) (h:k<ss.length):YP (ss.take (k+1))=YP (ss.take k)++(ss.getD k ByteArray.empty).data.toList:=by
 have e:ss.getD k ByteArray.empty=ss[k]:=by simp[List.getD,h]
 unfold YP;rw[e,List.take_succ_eq_append_getElem h,List.map_append,List.flatten_append];simp only[List.map_cons,List.map_nil,List.flatten_cons,List.flatten_nil,List.append_nil]
theorem Vy (ss:List ByteArray) (k:Nat):(YP (ss.take k)).length<=(YP ss).length:=by
 have:YP ss=YP (ss.take k)++YP (ss.drop k):=by
  unfold YP;rw[<-List.flatten_append,<-List.map_append,List.take_append_drop]
 rw[this,U1];omega
theorem Pj (b0 k:Nat) (ss:List ByteArray) (hk:ss.length=k) (w:World) (hc: ∀ i,i<k->w.cell? ⟨b0,i,none⟩=some (.string (ss.getD i ByteArray.empty))) (hb0:b0<w.heap.size) (hsz:(YP ss).length<=140737488355328) (hkm:k<=1000):
  Calls Tryz.prog 214 #[.slice (some ⟨b0,0,none⟩) k k] w fun e w'=>e= .returned (qP (YP ss))/\Bl w w':=by
 have HC:=qA hc;have HK:=qA hk;clear hc hk;go_enter Tryz.func214,Tryz.ntmps214
 go_wp2;go_loopw [8] (fun i wr=> ∃ j:Nat,j<=k/\i= .int .i64 j/\Lib.IsBuilder 142 5 w.heap.size w.heap.size (Lib.byteCells (YP (ss.take j))) wr/\Bl w wr) (fun i _=>k-(intOf i).toNat)
 case atStart=>exact⟨0,qAD _,rfl,Lib.fresh_isBuilder _ _ w,qE (qB _) _⟩
 case round=>
  obtain⟨j,hj,rfl,hI,hb⟩:=hrel;have HI:=qA hI;clear hI;by_cases hlt:j<k
  ·
   obtain⟨s,hs⟩: ∃ s,s=ss.getD j ByteArray.empty:=⟨_,rfl⟩;have hcx:wr.cell? ⟨b0,j,none⟩=some (.string s):=by
    rw[hb.cell (p:=⟨b0,j,none⟩) hb0,HC.out j hlt,hs]
   have HS:=qA (lU ss j (by rw[HK.out];exact hlt));have hle:=Vy ss (j+1);rw[HS.out,<-hs,U1]at hle;have hle':(YP (ss.take j)).length+s.size<=140737488355328:=by
    have:s.data.toList.length=s.size:=by simp
    omega
   have HSS:=qA hs;clear hs;go_wp2_with (go_at_call 80;refine(Z9 w.heap.size w.heap.size _ s _ HI.out (by rw[Lib.byteCells_length];exact hle') hb.size).mono ?_;rintro e w1 ⟨rfl,h1,b1⟩)
   go_roundw;case rel=>exact⟨j+1,by omega,by go_num, .inr (by rw[HS.out,<-HSS.out,Lib.byteCells_append];exact h1),hb.trans b1⟩
   case measure=>simp[intOf];omega
  ·
   have HE:=qA (show YP (ss.take j)=YP ss by rw[U9 (by rw[HK.out];omega)]);go_wp2_with (go_at_call 82;refine(Tryz.Builder_String_any w.heap.size w.heap.size (YP (ss.take j)) _ HI.out hb.size).mono ?_;rintro e w1 ⟨rfl,b1⟩)
   go_ret;exact⟨VL (by rw[HE.out]),hb.trans b1⟩
theorem dY (w:World) (ss:List ByteArray) (c:Array Value) (T:TypeId) (h:c=(ss.map Value.string).toArray): ∀ i,i<ss.length->(w.alloc (.cells c T)).cell? ⟨w.heap.size,i,none⟩=some (.string (ss.getD i ByteArray.empty)):=by
 intro i hi;subst h;rw[Uy (hn:=rfl)];simp[List.getD,hi]
theorem Yr (w:World) (ss:List ByteArray) (c:Array Value) (k:Nat) (h:c=(ss.map Value.string).toArray) (hk:ss.length=k) (l:List UInt8) (hl:YP ss=l) (hsz:l.length<=1000) (hkm:k<=1000):
  Calls Tryz.prog 214 #[.slice (some ⟨w.heap.size,0,none⟩) k k] (w.alloc (.cells c 9)) fun e w'=>e= .returned (qP l)/\Bl w w':=by
 refine(Pj w.heap.size k ss hk _ (by rw[<-hk];exact dY w ss c _ h) (by simp) (by rw[hl];omega) hkm).mono ?_;rintro e w' ⟨rfl,hb⟩;exact⟨by rw[hl],qF (qE (qB _) _) hb⟩
theorem Pi (a b c d e:List UInt8):YP [⟨a.toArray⟩,⟨b.toArray⟩,⟨c.toArray⟩,⟨d.toArray⟩,⟨e.toArray⟩]=a++(b++(c++(d++e))):=by simp[YP]
theorem Px (t:Int) (l:List UInt8) (e:Int) (H:Hid (xU t=(l,e))) (w:World):
  Calls Tryz.prog 150 #[.int .i64 t] w fun r w'=>r= .returned (.tuple #[qP l, .int .i64 e])/\Bl w w':=by
 have H':=H.out;unfold xU at H';by_cases h:0<=t/\t<=172800
 ·
  rw[U6 h,qAF]at H';obtain⟨rfl,rfl⟩:=H';clear H;obtain⟨h0,h1⟩:=h;go_enter Tryz.func150,Tryz.ntmps150
  go_wp2_with fail;refine(fC t h0 h1 _).mono ?_;rintro e w1 ⟨rfl,rfl⟩;go_wp2_with fail;refine(aY _ (by omega) (by omega) _).mono ?_;rintro e w1 ⟨rfl,b1⟩;go_wp2_with fail;refine(aY _ (by omega) (by omega) _).mono ?_;rintro e w2 ⟨rfl,b2⟩;go_wp2_with fail;refine(aY _ (by omega) (by omega) _).mono ?_;rintro e w3 ⟨rfl,b3⟩;go_wp2_with fail;refine(Yr w3 [⟨(ZW (t / 3600).toNat).toArray⟩,⟨[58].toArray⟩,⟨(ZW (t%3600 / 60).toNat).toArray⟩,⟨[58].toArray⟩,⟨(ZW (t%60).toNat).toArray⟩] _ 5 rfl rfl (ZA t.toNat) (by
   rw[Pi];unfold ZA;rw[show(t / 3600).toNat=t.toNat / 3600 by omega,show(t%3600 / 60).toNat=t.toNat / 60%60 by omega,show(t%60).toNat=t.toNat%60 by omega];rfl) (by show 8<=1000;omega) (by omega)).mono ?_
  rintro e w4 ⟨rfl,b4⟩;go_wp2;go_ret2;exact⟨rfl,qF (qF (qF b1 b2) b3) b4⟩
 ·
  rw[U5 h,qAF]at H';obtain⟨rfl,rfl⟩:=H';clear H;have HN:=qA h;clear h;go_enter Tryz.func150,Tryz.ntmps150
  go_wp2_with fail;refine(oz t HN.out _).mono ?_;rintro e w1 ⟨rfl,rfl⟩;go_wp2;go_ret2;exact⟨rfl,qB _⟩
theorem qw (s:ByteArray) (k:Nat) (h:k<s.size):s.data.toList[k]'(by simpa using h)=s[k]'h:=by simp;rfl
theorem VF {c:UInt8} (h:qV c=false):(c.toNat:Int)<48∨57<(c.toNat:Int):=by
 have: ¬ (48<=c.toNat/\c.toNat<=57):=by rw[<-jg,h];simp
 omega
theorem Vh (q:Nat->UInt8->Bool) (s:ByteArray): ∃ p:Nat,p<=s.size/\(∀ k (h:k<s.size),k<p->q k (s[k]'h)=true)/\ ∀ h:p<s.size,q p (s[p]'h)=false:=by
 suffices H: ∀ n,n<=s.size->(∀ k (h:k<s.size),k<s.size-n->q k (s[k]'h)=true)-> ∃ p:Nat,p<=s.size/\(∀ k (h:k<s.size),k<p->q k (s[k]'h)=true)/\ ∀ h:p<s.size,q p (s[p]'h)=false from
  H s.size (U3 _) (fun k h hk=>by omega)
 intro n;induction n with
 |zero=>intro _ h;exact⟨s.size,U3 _,fun k hk _=>h k hk (by omega),fun h=>absurd h (by omega)⟩
 |succ n ih=>
  intro hn h;by_cases hd:q (s.size-(n+1)) (s[s.size-(n+1)]'(by omega))=true
  ·
   refine ih (by omega) fun k hk hlt=>?_
   by_cases e:k=s.size-(n+1)
   · subst e;exact hd
   · exact h k hk (by omega)
  · exact⟨s.size-(n+1),by omega,h,fun _=>by simpa using hd⟩
def Qo (i:Nat) (c:UInt8):Bool:=if i=2∨i=5 then c==58 else qV c
def AV (s:ByteArray):Prop:=s.size=8/\ ∀ i (h:i<s.size),Qo i (s[i]'h)=true
theorem nY {i:Nat} {c:UInt8} (h:Qo i c=true) (hi:i=2∨i=5):(c.toNat:Int)=58:=by
 unfold Qo at h;rw[U6 hi]at h;have:c=58:=by simpa using h
 rw[this];rfl
theorem Gp {i:Nat} {c:UInt8} (h:Qo i c=true) (hi: ¬ (i=2∨i=5)):qV c=true:=by
 unfold Qo at h;rwa [U5 hi]at h
theorem bU {i:Nat} {c:UInt8} (h:Qo i c=false) (hi:i=2∨i=5): ¬ (c.toNat:Int)=58:=by
 unfold Qo at h;rw[U6 hi]at h;intro k;have:c=58:=UInt8.toNat.inj (by simpa using(by omega:c.toNat=58));rw[this]at h;simp at h
theorem Bv {i:Nat} {c:UInt8} (h:Qo i c=false) (hi: ¬ (i=2∨i=5)):qV c=false:=by
 unfold Qo at h;rwa [U5 hi]at h
theorem Nq (pos:Nat):(((pos:Int)==2)=true/\(pos=2∨pos=5))∨(((pos:Int)==2)=false/\((pos:Int)==5)=true/\(pos=2∨pos=5))∨(((pos:Int)==2)=false/\((pos:Int)==5)=false/\ ¬ (pos=2∨pos=5)):=by
 by_cases h2:pos=2
 ·
  subst h2;exact .inl ⟨rfl, .inl rfl⟩
 ·
  by_cases h5:pos=5
  ·
   subst h5;exact .inr (.inl ⟨rfl,rfl, .inr rfl⟩)
  · exact .inr (.inr ⟨by simp;omega,by simp;omega,by omega⟩)
theorem aK (s:ByteArray) (b:Bool) (H:Hid ((AV s/\b=true)∨(¬ AV s/\b=false))) (w:World):
  Calls Tryz.prog 245 #[.string s] w fun e w'=>e= .returned (.bool b)/\Bl w w':=by
 by_cases h8:(s.size:Int)=8
 ·
  obtain⟨p,hp,hd,hn⟩:=Vh Qo s;have HD:=qA hd;have HN:=qA hn;clear hd hn;have hs1:8<=s.size:=by omega
  have hs2:s.size<=8:=by omega
  go_enter Tryz.func245,Tryz.ntmps245
  go_wp2;go_loopw [3,4] (fun _ _ w'=> ∃ pos:Nat,pos<=p/\w'=w.iter s pos) (fun _ _ w'=>s.size-w'.iterPos w.heap.size)
  case atStart=>exact⟨0,qAD _,rfl⟩
  case round=>
   obtain⟨pos,hpos,rfl⟩:=hrel;by_cases h1:pos<p
   ·
    have hps:pos<s.size:=by omega
    have hok:=HD.out pos hps h1;rcases Nq pos with⟨h2,hi⟩|⟨h2,h3,hi⟩|⟨h2,h3,hi⟩
    ·
     have hb:=nY hok hi;clear hi;have hnx: ∀ ty,(Instr.next (.pointer (some ⟨w.heap.size,0,none⟩)) true ty).run Tryz.prog (w.iter s pos)=_:=fun ty=>run_next_ascii w s pos ty hps (by omega)
     clear hok;go_wp2;go_roundw;case rel=>exact⟨pos+1,by omega,rfl⟩
     case measure=>simp;omega
    ·
     have hb:=nY hok hi;clear hi;have hnx: ∀ ty,(Instr.next (.pointer (some ⟨w.heap.size,0,none⟩)) true ty).run Tryz.prog (w.iter s pos)=_:=fun ty=>run_next_ascii w s pos ty hps (by omega)
     clear hok;go_wp2;go_roundw;case rel=>exact⟨pos+1,by omega,rfl⟩
     case measure=>simp;omega
    ·
     have hb:=wV (Gp hok hi);clear hi;have hnx: ∀ ty,(Instr.next (.pointer (some ⟨w.heap.size,0,none⟩)) true ty).run Tryz.prog (w.iter s pos)=_:=fun ty=>run_next_ascii w s pos ty hps (by omega)
     clear hok;go_wp2;go_roundw;case rel=>exact⟨pos+1,by omega,rfl⟩
     case measure=>simp;omega
   ·
    obtain rfl:pos=p:=by omega
    by_cases h2:pos<s.size
    ·
     have hbad:=HN.out h2;have HB:Hid (b=false):=by
      rcases H.out with⟨hS,_⟩|⟨_,hb⟩
      ·
       have:=hS.2 pos h2;rw[hbad]at this;simp at this
      · exact hb
     rcases(show(((pos:Int)==2)=true/\ ¬ ((s[pos]'h2).toNat:Int)=58)∨(((pos:Int)==2)=false/\((pos:Int)==5)=true/\ ¬ ((s[pos]'h2).toNat:Int)=58)∨(((pos:Int)==2)=false/\((pos:Int)==5)=false/\(((s[pos]'h2).toNat:Int)<48∨57<((s[pos]'h2).toNat:Int))) by
      rcases Nq pos with⟨g2,hi⟩|⟨g2,g3,hi⟩|⟨g2,g3,hi⟩
      · exact .inl ⟨g2,bU hbad hi⟩
      · exact .inr (.inl ⟨g2,g3,bU hbad hi⟩)
      · exact .inr (.inr ⟨g2,g3,VF (Bv hbad hi)⟩))with⟨g2,g4⟩|⟨g2,g3,g4⟩|⟨g2,g3,g4|g4⟩
     all_goals
      clear hbad;by_cases h5:(s[pos]'h2).toNat<128
      ·
       have hnx: ∀ ty,(Instr.next (.pointer (some ⟨w.heap.size,0,none⟩)) true ty).run Tryz.prog (w.iter s pos)=_:=fun ty=>run_next_ascii w s pos ty h2 h5
       go_wp2;go_ret;exact⟨qO HB.out.symm,yT (qB _) _ _⟩
      ·
       have hnx: ∀ ty,(Instr.next (.pointer (some ⟨w.heap.size,0,none⟩)) true ty).run Tryz.prog (w.iter s pos)=_:=fun ty=>run_next_any w s pos ty h2
       have hh:=decode_high s pos h2 (by omega);go_wp2;all_goals
        go_ret;exact⟨qO HB.out.symm,yT (qB _) _ _⟩
    ·
     have hnx: ∀ ty,(Instr.next (.pointer (some ⟨w.heap.size,0,none⟩)) true ty).run Tryz.prog (w.iter s pos)=_:=fun ty=>run_next_end w s pos ty h2
     have HB:Hid (b=true):=by
      rcases H.out with⟨_,hb⟩|⟨hS,_⟩
      · exact hb
      · exact absurd ⟨by omega,fun i hi=>HD.out i hi (by omega)⟩ hS
     go_wp2;go_ret;exact⟨qO HB.out.symm,yT (qB _) _ _⟩
 ·
  have HB:Hid (b=false):=by
   rcases H.out with⟨hS,_⟩|⟨_,hb⟩
   · exact absurd (by rw[hS.1];rfl) h8
   · exact hb
  go_enter Tryz.func245,Tryz.ntmps245
  go_wp2;go_ret;exact⟨qO HB.out.symm,qB _⟩
theorem KI (s:ByteArray) (z:Int) (i:Nat) (hz:z=(i:Int)) (hi:i<s.size) (W:World):
  (Instr.index 9 (.string s) (.int .i64 z)).run Tryz.prog W= .ok (.int .u8 ((s[i]'hi).toNat:Int)) W:=by
 subst hz;rw[run_index_string W 9 s .i64 _ Tryz.underlying9,dif_pos ⟨by omega,by omega⟩];rfl
theorem Z5 (s:ByteArray) (a b:UInt8) (hs:Hid (s.data.toList=[a,b])) (ha:qV a=true) (hb:qV b=true) (w:World):
  Calls Tryz.prog 247 #[.string s] w fun e w'=>e= .returned (.int .i64 (wH a b))/\ ∃ m,w'=w.drewN m:=by
 have hsz:s.size=2:=by
  have:s.data.toList.length=s.size:=by simp
  rw[hs.out]at this;simpa using this.symm
 have h0:0<s.size:=by omega
 have h1:1<s.size:=by omega
 have e0:s[0]'h0=a:=by
  rw[<-qw s 0 h0];simp[hs.out]
 have e1:s[1]'h1=b:=by
  rw[<-qw s 1 h1];simp[hs.out]
 have ba:=wV ha;have bb:=wV hb;rw[<-e0]at ba;rw[<-e1]at bb;have HP:=qA (show wH a b=(10:Int)*(((s[0]'h0).toNat:Int)-(48:Int))+(((s[1]'h1).toNat:Int)-48) by rw[e0,e1];rfl);clear e0 e1 hsz ha hb;have E1:=qA (IntWalk.u8_in (((s[0]'h0).toNat:Int)-48) (by omega));have E2:=qA (IntWalk.i64_in (((s[0]'h0).toNat:Int)-48) (by omega));have E3:=qA (IntWalk.i64_in ((10:Int)*(((s[0]'h0).toNat:Int)-(48:Int))) (by omega));have E4:=qA (IntWalk.u8_in (((s[1]'h1).toNat:Int)-48) (by omega));have E5:=qA (IntWalk.i64_in (((s[1]'h1).toNat:Int)-48) (by omega));have E6:=qA (IntWalk.i64_in ((10:Int)*(((s[0]'h0).toNat:Int)-(48:Int))+(((s[1]'h1).toNat:Int)-48)) (by omega));go_enter Tryz.func247,Tryz.ntmps247
 go_wp2;have e1:=E1.out;have e2:=E2.out;have e3:=E3.out;have e4:=E4.out;have e5:=E5.out;have e6:=E6.out;have e7:=fun W=>KI s 0 0 rfl h0 W
 have e8:=fun W=>KI s 1 1 rfl h1 W
 go_quiet (fail)
 clear e1 e2 e3 e4 e5 e6 e7 e8;go_wp2;go_ret;exact⟨qR (by rw[HP.out]),nq,rfl⟩
theorem P5 {l:List UInt8} (h:l.length=8): ∃ a b x c d y e f,l=[a,b,x,c,d,y,e,f]:=by
 match l,h with
 |[a,b,x,c,d,y,e,f],_=>exact⟨_,_,_,_,_,_,_,_,rfl⟩
theorem aJ (s:ByteArray):AV s↔ ∃ a b c d e f:UInt8,s.data.toList=[a,b,58,c,d,58,e,f]/\qV a=true/\qV b=true/\qV c=true/\qV d=true/\qV e=true/\qV f=true:=by
 have hlen:s.data.toList.length=s.size:=by simp
 constructor
 ·
  rintro⟨h8,h⟩;obtain⟨a,b,x,c,d,y,e,f,hl⟩:=P5 (l:=s.data.toList) (by omega);have g: ∀ i (hi:i<s.size),Qo i (s.data.toList[i]'(by omega))=true:=fun i hi=>by rw[qw s i hi];exact h i hi
  have g0:=g 0 (by omega);have g1:=g 1 (by omega);have g2:=g 2 (by omega);have g3:=g 3 (by omega);have g4:=g 4 (by omega);have g5:=g 5 (by omega);have g6:=g 6 (by omega);have g7:=g 7 (by omega);simp only[hl,List.getElem_cons_zero,List.getElem_cons_succ]at g0 g1 g2 g3 g4 g5 g6 g7;obtain rfl:x=58:=by simpa[Qo]using g2
  obtain rfl:y=58:=by simpa[Qo]using g5
  exact⟨a,b,c,d,e,f,hl,by simpa[Qo]using g0,by simpa[Qo]using g1,by simpa[Qo]using g3,by simpa[Qo]using g4,by simpa[Qo]using g6,by simpa[Qo]using g7⟩
 ·
  rintro⟨a,b,c,d,e,f,hl,ha,hb,hc,hd,he,hf⟩;have h8:s.size=8:=by rw[<-hlen,hl];rfl
  refine⟨h8,fun i hi=>?_⟩;rw[<-qw s i hi];rw[h8]at hi;simp only[hl];match i,hi with
  |0,_=>simpa[Qo]using ha
  |1,_=>simpa[Qo]using hb
  |2,_=>rfl
  |3,_=>simpa[Qo]using hc
  |4,_=>simpa[Qo]using hd
  |5,_=>rfl
  |6,_=>simpa[Qo]using he
  |7,_=>simpa[Qo]using hf
theorem yC (s:ByteArray) (i j:Nat):(s.extract i j).data.toList=(s.data.toList.drop i).take (j-i):=by rw[Lib.extract_data]
theorem iC (s:ByteArray) (n e:Int) (H:Time s.data.toList n e) (w:World):
  Calls Tryz.prog 189 #[.string s] w fun r w'=>r= .returned (.tuple #[.int .i64 n, .int .i64 e])/\Bl w w':=by
 generalize hl:s.data.toList=l at H
 have key: ∀ (a b c d e f:UInt8) (n:Int) (ok:Bool),s.data.toList=[a,b,58,c,d,58,e,f]->qV a=true->qV b=true->qV c=true->qV d=true->qV e=true->qV f=true->join (wH a b) (wH c d) (wH e f)=(n,ok)->
   Calls Tryz.prog 189 #[.string s] w fun r w'=>r= .returned (.tuple #[.int .i64 n, .int .i64 (if ok then 0 else 10)])/\Bl w w':=by
  intro a b c d e f n ok hl ha hb hc hd he hf hj;have HS:=qA ((aJ s).2 ⟨a,b,c,d,e,f,hl,ha,hb,hc,hd,he,hf⟩);have h8:s.size=8:=HS.out.1;have hs1:8<=s.size:=by omega
  have hs2:s.size<=8:=by omega
  have H1:Hid ((s.extract 0 2).data.toList=[a,b]):=by show _=_;rw[yC,hl];rfl
  have H2:Hid ((s.extract 3 5).data.toList=[c,d]):=by show _=_;rw[yC,hl];rfl
  have H3:Hid ((s.extract 6 s.size).data.toList=[e,f]):=by show _=_;rw[yC,hl,h8];rfl
  have HJ:=qA hj;have D:=qA (And.intro ha (And.intro hb (And.intro hc (And.intro hd (And.intro he hf)))));clear hl hj ha hb hc hd he hf h8;cases ok with
  |true=>
   go_enter Tryz.func189,Tryz.ntmps189
   go_wp2_with fail;refine(aK s true (.inl ⟨HS.out,rfl⟩) _).mono ?_;rintro e w1 ⟨rfl,b1⟩;go_wp2;have i2:(2:Int)<=(s.size:Int):=by omega
   have i5:(5:Int)<=(s.size:Int):=by omega
   have i6:(6:Int)<=(s.size:Int):=by omega
   go_quiet ((first
    |(go_at_call 247;with_reducible exact Calls.quiet_of (Z5 _ _ _ H1 D.out.1 D.out.2.1 _))
    |(go_at_call 247;with_reducible exact Calls.quiet_of (Z5 _ _ _ H2 D.out.2.2.1 D.out.2.2.2.1 _))
    |(go_at_call 247;with_reducible exact Calls.quiet_of (Z5 _ _ _ H3 D.out.2.2.2.2.1 D.out.2.2.2.2.2 _))
    |(go_at_call 246;with_reducible exact Calls.quiet_of_same ((gZ _ _ _ _ _ HJ _).mono fun _ _ ⟨he,hw⟩=>⟨he,hw.symm⟩))))
   go_wp2;go_ret2;exact⟨rfl,qM b1 _⟩
  |false=>
   obtain⟨rfl,_⟩:=BM HJ.out;go_enter Tryz.func189,Tryz.ntmps189
   go_wp2_with fail;refine(aK s true (.inl ⟨HS.out,rfl⟩) _).mono ?_;rintro e w1 ⟨rfl,b1⟩;go_wp2;have i2:(2:Int)<=(s.size:Int):=by omega
   have i5:(5:Int)<=(s.size:Int):=by omega
   have i6:(6:Int)<=(s.size:Int):=by omega
   go_quiet ((first
    |(go_at_call 247;with_reducible exact Calls.quiet_of (Z5 _ _ _ H1 D.out.1 D.out.2.1 _))
    |(go_at_call 247;with_reducible exact Calls.quiet_of (Z5 _ _ _ H2 D.out.2.2.1 D.out.2.2.2.1 _))
    |(go_at_call 247;with_reducible exact Calls.quiet_of (Z5 _ _ _ H3 D.out.2.2.2.2.1 D.out.2.2.2.2.2 _))
    |(go_at_call 246;with_reducible exact Calls.quiet_of_same ((gZ _ _ _ _ _ HJ _).mono fun _ _ ⟨he,hw⟩=>⟨he,hw.symm⟩))))
   go_wp2;go_ret2;exact⟨rfl,qM b1 _⟩
 cases H with
 |bad h=>
  have HS:=qA (show ¬ AV s by rw[aJ,hl];exact h);clear h hl key;go_enter Tryz.func189,Tryz.ntmps189
  go_wp2_with fail;refine(aK s false (.inr ⟨HS.out,rfl⟩) _).mono ?_;rintro e w1 ⟨rfl,b1⟩;go_wp2;go_ret2;exact⟨rfl,b1⟩
 |out ha hb hc hd he hf h=>exact key _ _ _ _ _ _ _ _ hl ha hb hc hd he hf h
 |ok _ ha hb hc hd he hf h=>exact key _ _ _ _ _ _ _ _ hl ha hb hc hd he hf h
theorem Ag (c:UInt8) (b:Bool) (h:Hid (qV c=b)) (w:World):Calls Tryz.prog 257 #[.int .u8 (c.toNat:Int)] w fun e w'=>e= .returned (.bool b)/\w=w':=by
 cases b with
 |true=>
  obtain⟨h0,h1⟩:=wV h.out;go_enter Tryz.func257,Tryz.ntmps257
  go_wp2;go_ret;exact⟨qO (by simp),rfl⟩
 |false=>
  rcases VF h.out with h0|h0
  ·
   go_enter Tryz.func257,Tryz.ntmps257
   go_wp2;go_ret;exact⟨rfl,rfl⟩
  ·
   have h1:(48:Int)<=(c.toNat:Int):=by omega
   go_enter Tryz.func257,Tryz.ntmps257
   go_wp2;go_ret;exact⟨qO (by simp;omega),rfl⟩
end Go.Proofs.YtakedkcjplfgeaaGreatDoor.Ck
set_option maxRecDepth 1000000
set_option maxHeartbeats 32000000
namespace Go.Proofs.YtakedkcjplfgeaaGreatDoor.Ck
open Go.RowKit
open Num Clk
def Jw (w:World) (b:Nat) (xs:List Int):Prop:= ∀ j,j<xs.length->w.cell? ⟨b,j,none⟩=some (.int .u8 (xs.getD j 0))/\w.frozen? ⟨b,j,none⟩=false
theorem Jw.set {w:World} {b:Nat} {xs:List Int} (h:Jw w b xs) (i:Nat) (hi:i<xs.length) (v:Int):Jw (w.setCell ⟨b,i,none⟩ (.int .u8 v)) b (xs.set i v):=by
 intro j hj;simp only[List.length_set]at hj;obtain⟨hc,hf⟩:=h j hj;by_cases e:j=i
 ·
  subst e;refine⟨?_,by rw[World.frozen?_setCell];exact hf⟩;rw[World.cell?_setCell_same (h:=hc)];simp[List.getD,hi]
 ·
  refine⟨?_,by rw[World.frozen?_setCell];exact hf⟩;rw[World.cell?_setCell_other (h:=by intro k;exact e (by simpa using k.symm)),hc];simp[List.getD,Ne.symm e]
theorem Yw (k:Nat) (xs:List Int) (h:k<xs.length) (v:Int):(xs.set k v).drop k=v::xs.drop (k+1):=by
 induction xs generalizing k with
 |nil=>simp at h
 |cons a t ih=>
  cases k with
  |zero=>simp
  |succ k=>simpa using ih k (by simpa using h)
theorem xn (w:World) (xs:List Int) (c:Array Value) (hc:c=(xs.map (Value.int .u8)).toArray) (T:TypeId):Jw (w.alloc (.cells c T)) w.heap.size xs:=by
 intro j hj;subst hc;refine⟨?_, ?_⟩
 ·
  rw[Uy (hn:=rfl)];simp[List.getD,hj]
 · simp[go_sem]
theorem yQ (l:List UInt8):strOfNums (l.map (fun c=>(c.toNat:Int)))=⟨l.toArray⟩:=by
 unfold strOfNums;rw[List.map_map];congr 2
 have:((fun n:Int=>UInt8.ofNat n.toNat) ∘ fun c:UInt8=>(c.toNat:Int))=id:=by
  funext c
  simp
 rw[this,List.map_id]
theorem Ws (b:Nat) (z:Int) (k:Nat) (hz:z=(k:Int)) (hk:k<20) (W:World):
  (Instr.sliceAt 188 (.pointer (some ⟨b,0,none⟩)) (some (.int .i64 z)) none none).run Tryz.prog W= .ok (.slice (some ⟨b,k,none⟩) (20-k) (20-k)) W:=by
 subst hz;have h20:Tryz.prog.arrayLen 188=20:=by kernel_rfl
 have hs:(sizeOf (Tryz.prog.elem 188)).run Tryz.prog W= .ok 1 W:=by kernel_rfl
 rw[run_sliceAt_array_l (P:=Tryz.prog) W 188 ⟨b,0,none⟩ (by kernel_rfl) .i64 k (by omega) (by rw[h20];omega),hs,h20];have: ¬ 20=k:=by omega
 simp[Result.andThen,slicedAt,this,Addr.add]
 intro h;omega
theorem xQ (m:Nat):(((UInt8.ofNat (48+m%10)).toNat:Nat):Int)=48+(m:Int)%10:=by
 rw[zi (m%10) (by omega)];omega
theorem Vd (N:Nat) (hN:N<=9223372036854775807) (w:World):Calls Tryz.prog 216 #[.int .i64 N] w fun e w'=>e= .returned (qP (qL N))/\Bl w w':=by
 have HL:=qA (kL N (by omega));go_enter Tryz.func216,Tryz.ntmps216
 go_wp2;go_loopw [0,4] (fun n at_ wr=> ∃ (i m:Nat) (xs:List Int) (ds:List UInt8),at_= .int .i64 i/\n= .int .i64 m/\m<=N/\i+ds.length=20/\Hid (qL N=qL m++ds)/\Hid (xs.length=20)/\Hid (xs.drop i=ds.map (fun c=>(c.toNat:Int)))/\Hid (Jw wr w.heap.size xs)/\Bl w wr) (fun n _ _=>(intOf n).toNat)
 case atStart=>exact⟨20,N,List.replicate 20 0,[],rfl,rfl,U3 _,rfl,by show _=_;simp,rfl,rfl,xn w _ _ rfl _,qE (qB _) _⟩
 case round=>
  obtain⟨i,m,xs,ds,rfl,rfl,hm,hi,HD,HX,HDR,HROW,hb⟩:=hrel;have hi1:1<=i:=by
   have h1:=HL.out;have h2:=YX m;rw[HD.out,U1]at h1;omega
  have hi2:i<=20:=by omega
  obtain⟨hc1,hf1⟩:=HROW.out (i-1) (by rw[HX.out];omega);have HROW1:=qA (HROW.out.set (i-1) (by rw[HX.out];omega) (48+(m:Int)%10));have HDR1:=qA (show(xs.set (i-1) (48+(m:Int)%10)).drop (i-1)=(UInt8.ofNat (48+m%10)::ds).map (fun c=>(c.toNat:Int)) by
   rw[Yw (i-1) xs (by rw[HX.out];omega),show i-1+1=i by omega,HDR.out,List.map_cons,xQ])
  have HII:=qA hi;clear hi;by_cases h9:9<m
  ·
   go_wp2;go_roundw;case rel=>exact⟨i-1,m / 10,_,UInt8.ofNat (48+m%10)::ds,by go_num,by go_num,by omega,by have:=HII.out;simp;omega,by show _=_;rw[HD.out,jC (by omega)];simp,by show _=_;rw[List.length_set];exact HX.out,HDR1,HROW1,zF hb (U3 _) _⟩
   case measure=>simp[intOf];omega
  ·
   have hsl:=fun W=>Ws w.heap.size ((i:Int)-1) (i-1) (by omega) (by omega) W
   have hdig:qL N=UInt8.ofNat (48+m%10)::ds:=by rw[HD.out,zD (by omega),Nat.mod_eq_of_lt (by omega)];rfl
   have hcv:=run_convert_bytes_arg (P:=Tryz.prog) (wr.setCell ⟨w.heap.size,i-1,none⟩ (.int .u8 (48+(m:Int)%10))) 140 5 Tryz.underlying140 Tryz.underlying5 w.heap.size (i-1) (20-(i-1)) (20-(i-1))
    ((qL N).map (fun c=>(c.toNat:Int))) (by rw[hdig,<-HDR1.out];simp[HX.out]) (by
     intro j hj;have:=HROW1.out (i-1+j) (by rw[List.length_set,HX.out];omega);rw[this.1,hdig,<-HDR1.out];simp[List.getD]) 9 Tryz.underlying9
   rw[yQ]at hcv;clear hdig;go_wp2;go_ret;exact⟨rfl,zF hb (U3 _) _⟩
theorem ZN (N:Nat) (hN:N<=9223372036854775807) (w:World):Calls Tryz.prog 225 #[.int .i64 N] w fun e w'=>e= .returned (qP (qL N))/\Bl w w':=by
 have HL:=qA (kL N (by omega));have hcv:=Na;go_enter Tryz.func225,Tryz.ntmps225
 go_wp2;go_loopw [0,3] (fun n s wr=> ∃ (m:Nat) (x:List UInt8),m<=N/\n= .int .i64 m/\s=qP x/\Hid (qL N=Jq m++x)/\Bl w wr) (fun n _ _=>(intOf n).toNat)
 case atStart=>exact⟨N,[UInt8.ofNat (48+N%10)],U3 _,rfl,rfl,vX N,qE (qB _) _⟩
 case round=>
  obtain⟨m,x,hm,rfl,rfl,HX,hb⟩:=hrel;have hxl:x.length<=19:=by
   have h1:=HL.out;rw[HX.out,U1]at h1;omega
  by_cases h9:10<=m
  ·
   go_wp2;go_roundw;case rel=>exact⟨m / 10,UInt8.ofNat (48+m / 10%10)::x,by omega,by go_num,by
    apply congrArg Value.string
    apply ByteArray.ext
    simp,by
    show _=_
    rw[HX.out];unfold Jq;rw[U6 (by omega)];have:=vX (m / 10);unfold Jq at this;rw[this];simp,qE hb _⟩
   case measure=>simp[intOf];omega
  ·
   have HE:=qA (show qL N=x by rw[HX.out];unfold Jq;rw[U5 (by omega)];rfl);go_wp2;go_ret;exact⟨VL (by rw[HE.out]),hb⟩
def kJ (n:Nat):List UInt8:=
 if 3600<=n then qL (n / 3600)++104::(ZW (n / 60%60)++109::(ZW (n%60)++[115]))
 else if 60<=n then qL (n / 60)++109::(ZW (n%60)++[115])else qL n++[115]
def gW (n:Int):List UInt8×Int:=if 0<=n/\n<=359999 then(kJ n.toNat,0)else([],2)
theorem fZ (ls:List (List UInt8)):YP (ls.map fun l=>⟨l.toArray⟩)=ls.flatten:=by
 unfold YP;rw[List.map_map];congr 1
 have:((fun s:ByteArray=>s.data.toList) ∘ fun l:List UInt8=>(⟨l.toArray⟩:ByteArray))=id:=by
  funext l
  simp
 rw[this,List.map_id]
theorem BO (n:Nat):(ZW n).length=2:=rfl
theorem OQ (n:Int) (l:List UInt8) (e:Int) (H:Hid (gW n=(l,e))) (w:World):
  Calls Tryz.prog 151 #[.int .i64 n] w fun r w'=>r= .returned (.tuple #[qP l, .int .i64 e])/\Bl w w':=by
 have H':=H.out;unfold gW at H';by_cases h:0<=n/\n<=359999
 ·
  rw[U6 h,qAF]at H';obtain⟨rfl,rfl⟩:=H';clear H;obtain⟨h0,h1⟩:=h;obtain⟨N,rfl⟩:=Int.eq_ofNat_of_zero_le h0;rw[Int.toNat_natCast];by_cases hh:(3600:Int)<=(N:Int)
  ·
   have ht:=kL (N / 3600) (by omega);have HT:=qA (show kJ N=[qL (N / 3600),[104],ZW (N / 60%60),[109],ZW (N%60),[115]].flatten by unfold kJ;rw[U6 (by omega)];simp);go_enter Tryz.func151,Tryz.ntmps151
   go_wp2_with fail;refine(Vd (N / 3600) (by omega) _).mono ?_;rintro e w1 ⟨rfl,b1⟩;go_wp2_with fail;refine(aY _ (by omega) (by omega) _).mono ?_;rintro e w2 ⟨rfl,b2⟩;go_wp2_with fail;refine(aY _ (by omega) (by omega) _).mono ?_;rintro e w3 ⟨rfl,b3⟩;go_wp2_with fail;refine(Yr w3 ([qL (N / 3600),[104],ZW ((N:Int)%3600 / 60).toNat,[109],ZW ((N:Int)%60).toNat,[115]].map fun l=>⟨l.toArray⟩) _ 6 rfl rfl (kJ N) (by
    rw[fZ,HT.out,show((N:Int)%3600 / 60).toNat=N / 60%60 by omega,show((N:Int)%60).toNat=N%60 by omega]) (by rw[HT.out];simp[BO];omega) (by omega)).mono ?_
   rintro e w4 ⟨rfl,b4⟩;go_wp2;go_ret2;exact⟨rfl,qF (qF (qF b1 b2) b3) b4⟩
  by_cases hm:(60:Int)<=(N:Int)
  ·
   have ht:=kL (N / 60) (by omega);have HT:=qA (show kJ N=[qL (N / 60),[109],ZW (N%60),[115]].flatten by unfold kJ;rw[U5 (by omega),U6 (by omega)];simp);go_enter Tryz.func151,Tryz.ntmps151
   go_wp2_with fail;refine(Vd (N / 60) (by omega) _).mono ?_;rintro e w1 ⟨rfl,b1⟩;go_wp2_with fail;refine(aY _ (by omega) (by omega) _).mono ?_;rintro e w3 ⟨rfl,b3⟩;go_wp2_with fail;refine(Yr w3 ([qL (N / 60),[109],ZW ((N:Int)%60).toNat,[115]].map fun l=>⟨l.toArray⟩) _ 4 rfl rfl (kJ N) (by
    rw[fZ,HT.out,show((N:Int)%60).toNat=N%60 by omega]) (by rw[HT.out];simp[BO];omega) (by omega)).mono ?_
   rintro e w4 ⟨rfl,b4⟩;go_wp2;go_ret2;exact⟨rfl,qF (qF b1 b3) b4⟩
  ·
   have ht:=kL N (by omega);have HT:=qA (show kJ N=[qL N,[115]].flatten by unfold kJ;rw[U5 (by omega),U5 (by omega)];simp);go_enter Tryz.func151,Tryz.ntmps151
   go_wp2_with fail;refine(Vd N (by omega) _).mono ?_;rintro e w1 ⟨rfl,b1⟩;go_wp2_with fail;refine(Yr w1 ([qL N,[115]].map fun l=>⟨l.toArray⟩) _ 2 rfl rfl (kJ N) (by rw[fZ,HT.out]) (by rw[HT.out];simp;omega) (by omega)).mono ?_;rintro e w4 ⟨rfl,b4⟩;go_wp2;go_ret2;exact⟨rfl,qF b1 b4⟩
 ·
  rw[U5 h,qAF]at H';obtain⟨rfl,rfl⟩:=H';clear H;by_cases h0:n<0
  ·
   clear h;go_enter Tryz.func151,Tryz.ntmps151
   go_wp2;go_ret2;exact⟨rfl,qB _⟩
  ·
   have h1:359999<n:=by omega
   clear h;go_enter Tryz.func151,Tryz.ntmps151
   go_wp2;go_ret2;exact⟨rfl,qB _⟩
end Go.Proofs.YtakedkcjplfgeaaGreatDoor.Ck
