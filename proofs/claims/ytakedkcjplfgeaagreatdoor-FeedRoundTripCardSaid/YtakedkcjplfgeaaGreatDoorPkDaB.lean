/-
  PkDaB: what the law of feed needs of FDaDatWalksE, FDaDatWalksF, FDaDatWalksG, FDaDatWalksH. Conditions: those of each lemma.
-/
import Derived.Test.YtakedkcjplfgeaaGreatDoorPkDaA
import Derived.Test.YtakedkcjplfgeaaGreatDoorPkPlain
import Derived.Deep.QuietTactic
import Derived.BigQuiet
set_option maxRecDepth 1000000
set_option maxHeartbeats 32000000
namespace Go.Proofs.YtakedkcjplfgeaaGreatDoor.Da
open Go.RowKit
open Num Clk Dat
def OwnB (B:Nat) (v:Value) (l:List UInt8) (w:World):Prop:=w.ownsRow B 5 1 v l.length (Lib.byteCells l)
theorem ownB_nil (B:Nat) (w:World):OwnB B (.slice none 0 0) [] w:=World.ownsRow_nil w B _ 1
theorem ownB_alloc {B:Nat} {v:Value} {l:List UInt8} {w:World} (h:OwnB B v l w) (o:Obj):OwnB B v l (w.alloc o):=World.ownsRow.alloc h o
theorem len_byteCells (l:List UInt8):(Lib.byteCells l).length=l.length:=by simp[Lib.byteCells]
theorem byteCells_app (a b:List UInt8):Lib.byteCells (a++b)=Lib.byteCells a++Lib.byteCells b:=by simp[Lib.byteCells]
theorem ownB_conv {B:Nat} {v:Value} {l:List UInt8} {w:World} (h:OwnB B v l w):(convert 140 9 v).run Tryz.prog w= .ok (str l) w:=by
 have h':=h;rcases h.2 with⟨rfl,h0⟩|⟨g,cap,cur,rfl,hg,hb,hn,hc,hs,ht⟩
 ·
  obtain rfl:l=[]:=List.length_eq_zero_iff.1 h0;exact run_convert_bytes_nil w 140 5 Tryz.underlying140 Tryz.underlying5 0 0 9 Tryz.underlying9
 ·
  refine run_convert_bytes_back w 140 9 5 ⟨g,0,none⟩ cap l Tryz.underlying140 Tryz.underlying5 Tryz.underlying9 ?_;intro j hj;exact World.ownsRow.cells h' rfl j _ (by simp[Lib.byteCells,hj])
theorem slice4 (b:Nat) (k:Nat) (h1:k≤4) (W:World):
  (Instr.sliceAt 247 (.pointer (some ⟨b,0,none⟩)) none (some (.int .i64 (k:Int))) none).run Tryz.prog W= .ok (.slice (some ⟨b,0,none⟩) k 4) W:=by
 have e:Tryz.prog.arrayLen 247=4:=by kernel_rfl
 rw[run_sliceAt_array_h W 247 _ (by kernel_rfl) .i64 (k:Int) (by omega) (by rw[e];omega)];have s:(sizeOf (Tryz.prog.elem 247)).run Tryz.prog W= .ok 1 W:=by kernel_rfl
 rw[s,e];simp[Result.andThen,slicedAt,Addr.add]
theorem digs4_cells (n:Int) (h0:0≤n) (h1:n≤9999):Lib.byteCells (digs n.toNat 4)=[.int .u8 (48+n / 10 / 10 / 10%10), .int .u8 (48+n / 10 / 10%10), .int .u8 (48+n / 10%10), .int .u8 (48+n%10)]:=by
 have a:=toNat_digit (n.toNat / 10 / 10 / 10%10) (by omega);have b:=toNat_digit (n.toNat / 10 / 10%10) (by omega);have c:=toNat_digit (n.toNat / 10%10) (by omega);have d:=toNat_digit (n.toNat%10) (by omega);simp only[digs,List.nil_append,List.cons_append,Lib.byteCells,List.map_cons,List.map_nil,a,b,c,d];rw[show((48+n.toNat / 10 / 10 / 10%10:Nat):Int)=48+n / 10 / 10 / 10%10 by omega,show((48+n.toNat / 10 / 10%10:Nat):Int)=48+n / 10 / 10%10 by omega,show((48+n.toNat / 10%10:Nat):Int)=48+n / 10%10 by omega,show((48+n.toNat%10:Nat):Int)=48+n%10 by omega]
theorem digs2_cells (n:Int) (h0:0≤n) (h1:n≤99):Lib.byteCells (digs n.toNat 2)=[.int .u8 (48+n / 10%10), .int .u8 (48+n%10)]:=by
 have c:=toNat_digit (n.toNat / 10%10) (by omega);have d:=toNat_digit (n.toNat%10) (by omega);simp only[digs,List.nil_append,List.cons_append,Lib.byteCells,List.map_cons,List.map_nil,c,d];rw[show((48+n.toNat / 10%10:Nat):Int)=48+n / 10%10 by omega,show((48+n.toNat%10:Nat):Int)=48+n%10 by omega]
theorem cells_of_lit {w:World} {T:TypeId} {C:Array Value} (news:List Value) (h: ∀ (j:Nat) (u:Value),news[j]? =some u→C[j]? =some u): ∀ (j:Nat) (u:Value),news[j]? =some u→(w.alloc (.cells C T)).cell? ((⟨w.heap.size,0,none⟩:Addr).add j)=some u:=by
 intro j u hj;have:((⟨w.heap.size,0,none⟩:Addr).add j)=⟨w.heap.size,j,none⟩:=by simp[Addr.add];omega
 rw[this,World.cell?_alloc_at (hn:=rfl),h j u hj]
theorem put4_c (B:Nat) (v:Value) (l:List UInt8) (n:Int) (h0:0≤n) (h1:n≤9999) (w:World) (hown:OwnB B v l w) (hB:B≤w.heap.size) (hl:l.length≤100):
  Calls Tryz.prog 212 #[v, .int .i64 n, .int .i64 4] w fun e w'=> ∃ v',e= .returned v'∧OwnB B v' (l++digs n.toNat 4) w'∧Below B w w':=by
 obtain⟨i0,hi,hz0,hz1,hz2⟩:=info_parts info_byte;have hsl:=fun b W=>slice4 b 4 (by omega) W
 have HD:=Lib.hid (digs4_cells n h0 h1);have HOwn:=Lib.hid hown;clear hown;go_enter Tryz.func212,Tryz.ntmps212
 go_wp2_with fail;refine wp_loop_rounds 5 ?_;rw[rounds_succ];go_wp2_with fail;rw[rounds_succ];go_wp2_with fail;rw[rounds_succ];go_wp2_with fail;rw[rounds_succ];go_wp2_with fail;rw[rounds_succ];go_wp2_with (at_builtin;refine wpList_append_own _ rfl _ _ 140 rfl B 5 i0 (.int .u8 0) 1 1 Tryz.underlying140 hi hz0 hz1 hz2 rfl (by decide) _ _ _ rfl (ownB_alloc HOwn.out _) ⟨w.heap.size,0,none⟩ 4 4 [.int .u8 (48+n / 10 / 10 / 10%10), .int .u8 (48+n / 10 / 10%10), .int .u8 (48+n / 10%10), .int .u8 (48+n%10)] rfl rfl ?c1 ?c2 ?c3 ?c4 ?c5 ?_)
 case c1=>exact cells_of_lit _ (fun j u h=>by simpa using h)
 case c2=>simp[Value.oneCell']
 case c3=>unfold maxLen;omega
 case c4=>omega
 case c5=>simp;omega
 intro v' w2 hown' hgrow _;go_wp2;go_ret;refine⟨v',rfl, ?_, ?_⟩
 ·
  have hx:=HD.out;unfold OwnB;rw[byteCells_app,hx,show(l++digs n.toNat 4).length=l.length+4 by simp[digs]];exact hown'
 · exact((Below.refl B w).alloc hB _).grown hgrow (by simp;omega) (fun k hk=>(World.ownsRow.lt HOwn.out k hk).1)
theorem put2_c (B:Nat) (v:Value) (l:List UInt8) (n:Int) (h0:0≤n) (h1:n≤99) (w:World) (hown:OwnB B v l w) (hB:B≤w.heap.size) (hl:l.length≤100):
  Calls Tryz.prog 212 #[v, .int .i64 n, .int .i64 2] w fun e w'=> ∃ v',e= .returned v'∧OwnB B v' (l++digs n.toNat 2) w'∧Below B w w':=by
 obtain⟨i0,hi,hz0,hz1,hz2⟩:=info_parts info_byte;have hsl:=fun b W=>slice4 b 2 (by omega) W
 have HD:=Lib.hid (digs2_cells n h0 h1);have HOwn:=Lib.hid hown;clear hown;go_enter Tryz.func212,Tryz.ntmps212
 go_wp2_with fail;refine wp_loop_rounds 3 ?_;rw[rounds_succ];go_wp2_with fail;rw[rounds_succ];go_wp2_with fail;rw[rounds_succ];go_wp2_with (at_builtin;refine wpList_append_own _ rfl _ _ 140 rfl B 5 i0 (.int .u8 0) 1 1 Tryz.underlying140 hi hz0 hz1 hz2 rfl (by decide) _ _ _ rfl (ownB_alloc HOwn.out _) ⟨w.heap.size,0,none⟩ 2 4 [.int .u8 (48+n / 10%10), .int .u8 (48+n%10)] rfl rfl ?c1 ?c2 ?c3 ?c4 ?c5 ?_)
 case c1=>exact cells_of_lit _ (fun j u h=>by
  match j,h with
  |0,h=>simpa using h
  |1,h=>simpa using h)
 case c2=>simp[Value.oneCell']
 case c3=>unfold maxLen;omega
 case c4=>omega
 case c5=>simp;omega
 intro v' w2 hown' hgrow _;go_wp2;go_ret;refine⟨v',rfl, ?_, ?_⟩
 ·
  have hx:=HD.out;unfold OwnB;rw[byteCells_app,hx,show(l++digs n.toNat 2).length=l.length+2 by simp[digs]];exact hown'
 · exact((Below.refl B w).alloc hB _).grown hgrow (by simp;omega) (fun k hk=>(World.ownsRow.lt HOwn.out k hk).1)
theorem own_form {B:Nat} {v:Value} {l:List UInt8} {w:World} (h:OwnB B v l w): ∃ a n c,v= .slice a n c:=by
 rcases h.2 with⟨rfl,_⟩|⟨g,cap,cur,rfl,_⟩
 · exact⟨_,_,_,rfl⟩
 · exact⟨_,_,_,rfl⟩
theorem dfmt_cases (d:Int):(0≤d∧d≤36524∧dfmt d=(dtext d,0))∨(¬ (0≤d∧d≤36524)∧dfmt d=([],11)):=by
 unfold dfmt;by_cases h:0≤d∧d≤36524
 · exact .inl ⟨h.1,h.2,if_pos h⟩
 · exact .inr ⟨h,if_neg h⟩
theorem dtext_digs (d:Int) (h0:0≤d) (h1:d≤36524):(((([]++digs (yearOf d).toNat 4)++[45])++digs (monthOf d).toNat 2)++[45])++digs (dayOf d).toNat 2=dtext d:=by
 obtain⟨⟨y0,y1⟩,⟨m0,m1⟩,⟨d0,d1⟩⟩:=civil_bd d h0 h1;have hm:=mlen_bd (yearOf d) (monthOf d);unfold dtext;rw[digs_four _ (by omega),digs_two _ (by omega),digs_two _ (by omega)];simp
theorem dFormat_c (d:Int) (l:List UInt8) (e:Int) (H:Hid (dfmt d=(l,e))) (w:World):
  Calls Tryz.prog 149 #[.int .i64 d] w fun r w'=>r= .returned (.tuple #[str l, .int .i64 e])∧Bl w w':=by
 rcases dfmt_cases d with⟨h0,h1,k⟩|⟨h,k⟩
 ·
  obtain⟨e1,rfl⟩:=Prod.mk.inj (k.symm.trans H.out);have HL:=Lib.hid e1;have HT:=Lib.hid (dtext_digs d h0 h1);clear k H e1;obtain⟨⟨y0,y1⟩,⟨m0,m1⟩,⟨d0,d1⟩⟩:=civil_bd d h0 h1;have hm:=(mlen_bd (yearOf d) (monthOf d)).2;have d2:dayOf d≤99:=by omega
  clear d1 hm;obtain⟨i0,hi,hz0,hz1,hz2⟩:=info_parts info_byte;have HC0:=Lib.hid (rfl:CivRes d (.returned (.tuple #[.int .i64 (yearOf d), .int .i64 (monthOf d), .int .i64 (dayOf d), .bool true])));go_enter Tryz.func149,Tryz.ntmps149
  go_wp2_with fail;refine(civil_yes d h0 h1 _).mono ?_;rintro e w1 ⟨he,b1⟩;unfold CivRes at he;subst he;generalize yearOf d=y at*
  generalize monthOf d=m at*
  generalize dayOf d=x at*
  go_wp2_with fail;refine(put4_c w.heap.size _ [] y (by omega) (by omega) _ (ownB_nil _ _) b1.size (by simp)).mono ?_;rintro e w2 ⟨v2,rfl,o2,b2⟩;obtain⟨a2,n2,c2,rfl⟩:=own_form o2;have O2:=Lib.hid o2;clear o2;have b3:=b1.trans b2;go_wp2_with (at_builtin;refine wpList_append_own _ rfl _ _ 140 rfl w.heap.size 5 i0 (.int .u8 0) 1 1 Tryz.underlying140 hi hz0 hz1 hz2 rfl (by decide) _ _ _ rfl (ownB_alloc O2.out _) ⟨w2.heap.size,0,none⟩ 1 1 [.int .u8 45] rfl rfl ?c1 ?c2 ?c3 ?c4 ?c5 ?_)
  case c1=>exact cells_of_lit _ (fun j u h=>by simpa using h)
  case c2=>simp[Value.oneCell']
  case c3=>unfold maxLen;simp[digs]
  case c4=>simp[digs]
  case c5=>have:=b3.size;simp;omega
  intro v3 w3 hown3 hgrow3 _;have O3:Hid (OwnB w.heap.size v3 (([]++digs y.toNat 4)++[45]) w3):=by
   show OwnB _ _ _ _
   unfold OwnB;rw[byteCells_app,List.length_append];exact hown3
  have b4:Bl w w3:=(b3.alloc b3.size _).grown hgrow3 (by have:=b3.size;simp;omega) (fun k hk=>(World.ownsRow.lt O2.out k hk).1);clear hown3 hgrow3;go_wp2_with fail;refine(put2_c w.heap.size v3 (([]++digs y.toNat 4)++[45]) m (by omega) (by omega) _ O3.out b4.size (by simp[digs])).mono ?_;rintro e w5 ⟨v5,rfl,o5,b5⟩;obtain⟨a5,n5,c5,rfl⟩:=own_form o5;have O5:=Lib.hid o5;clear o5;have b6:=b4.trans b5;go_wp2_with (at_builtin;refine wpList_append_own _ rfl _ _ 140 rfl w.heap.size 5 i0 (.int .u8 0) 1 1 Tryz.underlying140 hi hz0 hz1 hz2 rfl (by decide) _ _ _ rfl (ownB_alloc O5.out _) ⟨w5.heap.size,0,none⟩ 1 1 [.int .u8 45] rfl rfl ?c1 ?c2 ?c3 ?c4 ?c5 ?_)
  case c1=>exact cells_of_lit _ (fun j u h=>by simpa using h)
  case c2=>simp[Value.oneCell']
  case c3=>unfold maxLen;simp[digs]
  case c4=>simp[digs]
  case c5=>have:=b6.size;simp;omega
  intro v7 w7 hown7 hgrow7 _;have O7:Hid (OwnB w.heap.size v7 (((([]++digs y.toNat 4)++[45])++digs m.toNat 2)++[45]) w7):=by
   show OwnB _ _ _ _
   unfold OwnB;rw[byteCells_app,List.length_append];exact hown7
  have b8:Bl w w7:=(b6.alloc b6.size _).grown hgrow7 (by have:=b6.size;simp;omega) (fun k hk=>(World.ownsRow.lt O5.out k hk).1);clear hown7 hgrow7;go_wp2_with fail;refine(put2_c w.heap.size v7 (((([]++digs y.toNat 4)++[45])++digs m.toNat 2)++[45]) x (by omega) (by omega) _ O7.out b8.size (by simp[digs])).mono ?_;rintro e w9 ⟨v9,rfl,o9,b9⟩;have hcv:=ownB_conv o9;rw[HT.out,HL.out]at hcv;have b10:=b8.trans b9;clear o9;go_wp2;go_ret2;exact⟨rfl,b10⟩
 ·
  obtain⟨rfl,rfl⟩:=Prod.mk.inj (k.symm.trans H.out);have HN:=Lib.hid h;clear h k H;go_enter Tryz.func149,Tryz.ntmps149
  go_wp2_with fail;refine(civil_no d HN.out _).mono ?_;rintro e w1 ⟨rfl,rfl⟩;go_wp2;go_ret2;exact⟨rfl,bl_refl _⟩
end Go.Proofs.YtakedkcjplfgeaaGreatDoor.Da
namespace Go.Proofs.YtakedkcjplfgeaaGreatDoor.Da
open Go.RowKit
open Num Clk Dat
theorem val_bd {l:List UInt8} (h:allDig l=true) (k:Nat) (hk:l.length≤k):val l<10 ^ k:=by
 induction k generalizing l with
 |zero=>
  obtain rfl:l=[]:=List.length_eq_zero_iff.1 (by omega);simp[val]
 |succ k ih=>
  rcases snoc_cases l with rfl|⟨m,c,rfl⟩
  · rw[val_nil];exact Nat.pow_pos (by decide)
  ·
   rw[allDig_snoc,Bool.and_eq_true]at h;have:=ih h.1 (by simp at hk;omega);have hc:=(isDig_iff c).1 h.2;rw[val_snoc,Nat.pow_succ];omega
theorem ret_ib {k:IntKind} {n x:Int} {b y:Bool} (h1:n=x) (h2:b=y):Ending.returned (.tuple #[.int k x, .bool y])= .returned (.tuple #[.int k n, .bool b]):=by rw[h1,h2]
def numS (l:List UInt8):Int×Bool:=if allDig l=true then((val l:Int),true)else(0,false)
theorem take_snoc' (s:ByteArray) (k:Nat) (h:k<s.size):s.data.toList.take (k+1)=s.data.toList.take k++[s[k]]:=by
 rw[List.take_succ_eq_append_getElem (by simpa using h)];rfl
theorem not_allDig (s:ByteArray) (k:Nat) (h:k<s.size) (hc:isDig s[k]=false):allDig s.data.toList=false:=by
 have:=take_snoc' s k h;have e:s.data.toList=s.data.toList.take (k+1)++s.data.toList.drop (k+1):=(List.take_append_drop _ _).symm;rw[e,this];simp[allDig,hc]
theorem dig_or {c:UInt8}:(isDig c=true∧48≤(c.toNat:Int)∧(c.toNat:Int)≤57)∨(isDig c=false∧((c.toNat:Int)<48∨(48≤(c.toNat:Int)∧57<(c.toNat:Int)))):=by
 cases h:isDig c with
 |true=>exact .inl ⟨rfl,by have:=(isDig_iff c).1 h;omega⟩
 |false=>
  refine .inr ⟨rfl, ?_⟩;have: ¬ (48≤c.toNat∧c.toNat≤57):=fun k=>by rw[(isDig_iff c).2 k]at h;simp at h
  omega
theorem number_c (s:ByteArray) (n:Int) (b:Bool) (H:Hid (numS s.data.toList=(n,b))) (hs:s.size≤4) (w:World):
  Calls Tryz.prog 275 #[.string s] w fun e w'=>e= .returned (.tuple #[.int .i64 n, .bool b])∧w=w':=by
 go_enter Tryz.func275,Tryz.ntmps275
 go_wp2;go_loop [4,5] (fun x i=> ∃ k:Nat,k≤s.size∧i= .int .i64 k∧x= .int .i64 (val (s.data.toList.take k))∧allDig (s.data.toList.take k)=true) (fun _ i=>s.size-(intOf i).toNat)
 case atStart=>exact⟨0,Nat.zero_le _,rfl,rfl,rfl⟩
 case round=>
  obtain⟨k,hk,rfl,rfl,hd⟩:=hrel;have HD:=Lib.hid hd;clear hd;by_cases hlt:k<s.size
  ·
   have hv:=val_bd HD.out 3 (by rw[List.length_take];omega);have e7:=fun W=>idx_c s (k:Int) k rfl hlt W
   have HV:=Lib.hid (take_snoc' s k hlt);have HN:=Lib.hid (fun hc=>not_allDig s k hlt hc);obtain⟨c,hc⟩: ∃ c,s[k]=c:=⟨_,rfl⟩;rw[hc]at e7 HV HN;have hcs:=Lib.hid hc;clear hc;obtain⟨v,hv'⟩: ∃ v,val (s.data.toList.take k)=v:=⟨_,rfl⟩;rw[hv']at hv ⊢;have HVV:=Lib.hid hv';clear hv';rcases dig_or (c:=c)with⟨hdc,c0,c1⟩|⟨hdc,c0|⟨c0,c1⟩⟩
   ·
    have HDC:=Lib.hid hdc;clear hdc;have hv3:(v:Int)≤1000:=by omega
    have E1:=IntWalk.u8_in ((c.toNat:Int)-48) (by omega);go_wp2;go_round;case rel=>exact⟨k+1,by omega,by go_num,by rw[HV.out,val_snoc,HVV.out];exact congrArg _ (by omega),by rw[HV.out,allDig_snoc,HD.out,HDC.out];rfl⟩
    case measure=>simp[intOf];omega
   all_goals
    have HB:Hid (n=0∧b=false):=by
     have:=H.out;unfold numS at this;rw[HN.out hdc]at this;simp at this
     exact⟨this.1.symm,this.2⟩
    clear hdc;go_wp2;go_ret2;exact⟨ret_ib HB.out.1 HB.out.2,rfl⟩
  ·
   have HB:Hid (n=val (s.data.toList.take k)∧b=true):=by
    have:=H.out;have he:=HD.out;rw[List.take_of_length_le (by simp;omega)]at he ⊢;unfold numS at this;rw[if_pos he]at this;exact⟨((Prod.mk.inj this).1).symm,((Prod.mk.inj this).2).symm⟩
   go_wp2;go_ret2;exact⟨ret_ib HB.out.1 HB.out.2,rfl⟩
end Go.Proofs.YtakedkcjplfgeaaGreatDoor.Da
namespace Go.Proofs.YtakedkcjplfgeaaGreatDoor.Da
open Go.RowKit
open Num Clk Dat
theorem idx_l (s:ByteArray) (z:Int) (i:Nat) (hz:z=(i:Int)) (c:UInt8) (hc:s.data.toList[i]? =some c) (W:World):
  (Instr.index 9 (.string s) (.int .i64 z)).run Tryz.prog W= .ok (.int .u8 (c.toNat:Int)) W:=by
 obtain⟨h,e⟩:=List.getElem?_eq_some_iff.1 hc;have hi:i<s.size:=by simpa using h
 rw[idx_c s z i hz hi W,←bytes_get s i hi,e]
theorem ext_list (s:ByteArray) (i j:Nat):(s.extract i j).data.toList=(s.data.toList.drop i).take (j-i):=by rw[Lib.extract_data]
theorem toList_len (s:ByteArray):s.data.toList.length=s.size:=by simp
theorem u8_ne {a b:UInt8} (h:a≠b):(a.toNat:Int)≠(b.toNat:Int):=fun k=>h (UInt8.toNat.inj (by omega))
theorem num4 {a b c e:UInt8} (h1:isDig a=true) (h2:isDig b=true) (h3:isDig c=true) (h4:isDig e=true):numS [a,b,c,e]=(100*pair a b+pair c e,true):=by
 have:=dig_bd h1;have:=dig_bd h2;have:=dig_bd h3;have:=dig_bd h4;unfold numS;rw[if_pos (by simp[allDig, *]),Prod.mk.injEq];refine⟨?_,rfl⟩;unfold pair;simp only[val,List.foldl_cons,List.foldl_nil];omega
theorem num2 {a b:UInt8} (h1:isDig a=true) (h2:isDig b=true):numS [a,b]=(pair a b,true):=by
 have:=dig_bd h1;have:=dig_bd h2;unfold numS;rw[if_pos (by simp[allDig, *]),Prod.mk.injEq];refine⟨?_,rfl⟩;unfold pair;simp only[val,List.foldl_cons,List.foldl_nil];omega
theorem numS_eta (l:List UInt8):numS l=((numS l).1,allDig l):=by unfold numS;split<;>simp_all
theorem df_parts {s:ByteArray} {y m d:Int} (h:DF s.data.toList y m d):s.size=10∧s.data.toList[4]? =some 45∧s.data.toList[7]? =some 45∧
  numS (s.extract 0 4).data.toList=(y,true)∧numS (s.extract 5 7).data.toList=(m,true)∧numS (s.extract 8 s.size).data.toList=(d,true):=by
 have hl:=DF_len h;rw[toList_len]at hl;obtain⟨a,b,c,e,f,g,h,k,e0,⟨h1,h2,h3,h4⟩,⟨h5,h6⟩,⟨h7,h8⟩,rfl,rfl,rfl⟩:=h;rw[ext_list,ext_list,ext_list,e0,hl];exact⟨rfl,rfl,rfl,num4 h1 h2 h3 h4,num2 h5 h6,num2 h7 h8⟩
theorem df_none {s:ByteArray} (h:shapedB s.data.toList pat10=false):s.size≠10∨(s.size=10∧((∃ x,s.data.toList[4]? =some x∧x≠45)∨(s.data.toList[4]? =some 45∧ ∃ x,s.data.toList[7]? =some x∧x≠45)∨
  (s.data.toList[4]? =some 45∧s.data.toList[7]? =some 45∧ ∃ n1 b1 n2 b2 n3 b3,numS (s.extract 0 4).data.toList=(n1,b1)∧numS (s.extract 5 7).data.toList=(n2,b2)∧numS (s.extract 8 s.size).data.toList=(n3,b3)∧
   (b1=false∨(b1=true∧b2=false)∨(b1=true∧b2=true∧b3=false))))):=by
 by_cases hl:s.size=10
 ·
  refine .inr ⟨hl, ?_⟩;obtain⟨a,b,c,d,x,e,f,y,g,k,e0⟩:=list10 (l:=s.data.toList) (by rw[toList_len,hl]);rw[ext_list,ext_list,ext_list,e0,hl];by_cases hx:x=45
  ·
   by_cases hy:y=45
   ·
    subst hx;subst hy;refine .inr (.inr ⟨rfl,rfl,_,_,_,_,_,_,numS_eta _,numS_eta _,numS_eta _, ?_⟩);rw[e0]at h;show allDig [a,b,c,d]=false∨(allDig [a,b,c,d]=true∧allDig [e,f]=false)∨(allDig [a,b,c,d]=true∧allDig [e,f]=true∧allDig [g,k]=false)
    cases h1:allDig [a,b,c,d]with
    |false=>exact .inl rfl
    |true=>
     cases h2:allDig [e,f]with
     |false=>exact .inr (.inl ⟨rfl,rfl⟩)
     |true=>
      cases h3:allDig [g,k]with
      |false=>exact .inr (.inr ⟨rfl,rfl,rfl⟩)
      |true=>
       simp[allDig]at h1 h2 h3
       simp[shapedB,pat10,h1,h2,h3]at h
   ·
    subst hx;exact .inr (.inl ⟨rfl,y,rfl,hy⟩)
  · exact .inl ⟨x,rfl,hx⟩
 · exact .inl hl
def FRes (b:Bool) (e:Ending):Prop:= ∃ y m d:Int,e= .returned (.tuple #[.int .i64 y, .int .i64 m, .int .i64 d, .bool b])
theorem fres {e:Ending} (y m d:Int) (b:Bool) (h:e= .returned (.tuple #[.int .i64 y, .int .i64 m, .int .i64 d, .bool b])):FRes b e:=⟨y,m,d,h⟩
theorem ext_size (s:ByteArray) (i j:Nat) (h:j≤s.size) (hij:i≤j):(s.extract i j).size=j-i:=by simp;omega
theorem fields_yes (s:ByteArray) (y m d:Int) (H:Hid (DF s.data.toList y m d)) (w:World):
  Calls Tryz.prog 243 #[.string s] w fun e w'=>e= .returned (.tuple #[.int .i64 y, .int .i64 m, .int .i64 d, .bool true])∧w=w':=by
 obtain⟨h10,h4,h7,n1,n2,n3⟩:=df_parts H.out;have N1:=Lib.hid n1;have N2:=Lib.hid n2;have N3:=Lib.hid n3;have e4:=fun W=>idx_l s 4 4 rfl 45 h4 W
 have e7:=fun W=>idx_l s 7 7 rfl 45 h7 W
 have hs1:10≤s.size:=by omega
 have hs2:s.size≤10:=by omega
 have q0:((s.size:Int) != 10)=false:=by rw[bne_eq_false_iff_eq];omega
 clear h10 h4 h7 n1 n2 n3;go_enter Tryz.func243,Tryz.ntmps243
 go_wp2_with fail;refine(number_c _ _ _ N1 (by rw[ext_size _ _ _ (by omega) (by omega)];omega) _).mono ?_;rintro e w1 ⟨rfl,rfl⟩;go_wp2_with fail;refine(number_c _ _ _ N2 (by rw[ext_size _ _ _ (by omega) (by omega)];omega) _).mono ?_;rintro e w1 ⟨rfl,rfl⟩;go_wp2_with fail;refine(number_c _ _ _ N3 (by rw[ext_size _ _ _ (by omega) (by omega)];omega) _).mono ?_;rintro e w1 ⟨rfl,rfl⟩;go_wp2;exact bodyPost_ret (v:= .tuple #[.int .i64 y, .int .i64 m, .int .i64 d, .bool true]) (by simp[results,Tryz.results243,go_sem]) rfl ⟨rfl,rfl⟩
theorem fields_no (s:ByteArray) (H:Hid (shapedB s.data.toList pat10=false)) (w:World):
  Calls Tryz.prog 243 #[.string s] w fun e w'=>FRes false e∧w=w':=by
 rcases df_none H.out with h|⟨h10,⟨x,h4,hx⟩|⟨h4,x,h7,hx⟩|⟨h4,h7,n1,b1,n2,b2,n3,b3,k1,k2,k3,hb⟩⟩
 ·
  have q0:((s.size:Int) != 10)=true:=by rw[bne_iff_ne];omega
  clear h;go_enter Tryz.func243,Tryz.ntmps243
  go_wp2;exact bodyPost_ret (v:= .tuple #[.int .i64 0, .int .i64 0, .int .i64 0, .bool false]) (by simp[results,Tryz.results243,go_sem]) rfl ⟨fres _ _ _ _ rfl,rfl⟩
 ·
  have q0:((s.size:Int) != 10)=false:=by rw[bne_eq_false_iff_eq];omega
  have e4:=fun W=>idx_l s 4 4 rfl x h4 W
  have q1:((x.toNat:Int) != 45)=true:=by rw[bne_iff_ne];exact u8_ne (b:=45) hx
  clear h10 h4 hx;go_enter Tryz.func243,Tryz.ntmps243
  go_wp2;exact bodyPost_ret (v:= .tuple #[.int .i64 0, .int .i64 0, .int .i64 0, .bool false]) (by simp[results,Tryz.results243,go_sem]) rfl ⟨fres _ _ _ _ rfl,rfl⟩
 ·
  have q0:((s.size:Int) != 10)=false:=by rw[bne_eq_false_iff_eq];omega
  have e4:=fun W=>idx_l s 4 4 rfl 45 h4 W
  have e7:=fun W=>idx_l s 7 7 rfl x h7 W
  have q1:((x.toNat:Int) != 45)=true:=by rw[bne_iff_ne];exact u8_ne (b:=45) hx
  clear h10 h4 h7 hx;go_enter Tryz.func243,Tryz.ntmps243
  go_wp2;exact bodyPost_ret (v:= .tuple #[.int .i64 0, .int .i64 0, .int .i64 0, .bool false]) (by simp[results,Tryz.results243,go_sem]) rfl ⟨fres _ _ _ _ rfl,rfl⟩
 ·
  have N1:=Lib.hid k1;have N2:=Lib.hid k2;have N3:=Lib.hid k3;have e4:=fun W=>idx_l s 4 4 rfl 45 h4 W
  have e7:=fun W=>idx_l s 7 7 rfl 45 h7 W
  have hs1:10≤s.size:=by omega
  have hs2:s.size≤10:=by omega
  have q0:((s.size:Int) != 10)=false:=by rw[bne_eq_false_iff_eq];omega
  clear h10 h4 h7 k1 k2 k3;rcases hb with rfl|⟨rfl,rfl⟩|⟨rfl,rfl,rfl⟩
  all_goals
   go_enter Tryz.func243,Tryz.ntmps243
   go_wp2_with fail;refine(number_c _ _ _ N1 (by rw[ext_size _ _ _ (by omega) (by omega)];omega) _).mono ?_;rintro e w1 ⟨rfl,rfl⟩;go_wp2_with fail;refine(number_c _ _ _ N2 (by rw[ext_size _ _ _ (by omega) (by omega)];omega) _).mono ?_;rintro e w1 ⟨rfl,rfl⟩;go_wp2_with fail;refine(number_c _ _ _ N3 (by rw[ext_size _ _ _ (by omega) (by omega)];omega) _).mono ?_;rintro e w1 ⟨rfl,rfl⟩;go_wp2;exact bodyPost_ret (v:= .tuple #[.int .i64 n1, .int .i64 n2, .int .i64 n3, .bool false]) (by simp[results,Tryz.results243,go_sem]) rfl ⟨fres _ _ _ _ rfl,rfl⟩
end Go.Proofs.YtakedkcjplfgeaaGreatDoor.Da
namespace Go.Proofs.YtakedkcjplfgeaaGreatDoor.Da
open Go.RowKit
open Num Clk Dat
theorem dParse_c (s:ByteArray) (n e:Int) (H:Day s.data.toList n e) (w:World):
  Calls Tryz.prog 188 #[.string s] w fun r w'=>r= .returned (.tuple #[.int .i64 n, .int .i64 e])∧Bl w w':=by
 generalize hl:s.data.toList=l at H
 cases H with
 |bad h=>
  have HF:Hid (shapedB s.data.toList pat10=false):=by show _=_;rw[hl];exact h
  clear h hl;go_enter Tryz.func188,Tryz.ntmps188
  go_wp2_with fail;refine(fields_no s HF _).mono ?_;rintro e w1 ⟨⟨y,m,d,rfl⟩,rfl⟩;go_wp2;go_ret2;exact⟨rfl,bl_refl _⟩
 |out h k=>
  rename_i y m d;have HF:Hid (DF s.data.toList y m d):=by show DF _ _ _ _;rw[hl];exact h
  have HK:=Lib.hid k;clear h hl k;go_enter Tryz.func188,Tryz.ntmps188
  go_wp2_with fail;refine(fields_yes s _ _ _ HF _).mono ?_;rintro e w1 ⟨rfl,rfl⟩;go_wp2_with fail;refine(from_c _ _ _ _ _ HK _).mono ?_;rintro e w1 ⟨rfl,b1⟩;go_wp2;go_ret2;exact⟨rfl,b1⟩
 |ok _ h k=>
  rename_i y m d;have HF:Hid (DF s.data.toList y m d):=by show DF _ _ _ _;rw[hl];exact h
  have HK:=Lib.hid k;clear h hl k;go_enter Tryz.func188,Tryz.ntmps188
  go_wp2_with fail;refine(fields_yes s _ _ _ HF _).mono ?_;rintro e w1 ⟨rfl,rfl⟩;go_wp2_with fail;refine(from_c _ _ _ _ _ HK _).mono ?_;rintro e w1 ⟨rfl,b1⟩;go_wp2;go_ret2;exact⟨rfl,b1⟩
end Go.Proofs.YtakedkcjplfgeaaGreatDoor.Da
