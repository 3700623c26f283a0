/-
  What the laws of top need of TopFpE, TopFpG, TopFpH. Conditions: those of each lemma.
-/
import Derived.Test.YtncbcmiflffakaaGreatPkFpC
import Derived.Test.YtncbcmiflffakaaGreatPkCkB
import Derived.Shelf.SlSortCmp.NoneTotal
import Derived.Shelf.SlSortCmp.WholeK
import Derived.Shelf.Lay
import Derived.Ground.SlsfProg
import Derived.BigQuiet
set_option maxRecDepth 1000000
set_option maxHeartbeats 32000000
namespace Go.Proofs
shelf_lay_g SlLaysF0.n6 Slsf 6 at Tryz 118 as YtncbcmiflffakaaGreat.sortPath
end Go.Proofs
namespace Go.Proofs.YtncbcmiflffakaaGreat
open Go.RowKit Go.Shelf
open Dj Tt
instance:Inhabited PathD:=⟨⟨0,0,0,false⟩⟩
theorem ltOf_foot (x y:PathD):ltOf footCmp x y=decide (x.frm<y.frm∨(x.frm=y.frm∧(x.to<y.to∨(x.to=y.to∧x.secs<y.secs)))):=by
 unfold ltOf footCmp orI cmpI;rw[decide_eq_decide];(repeat' split)<;>omega
theorem swo_foot:Go.Sort.SWO (ltOf footCmp) where
 irrefl x:=by rw[ltOf_foot];simp
 trans x y z h1 h2:=by rw[ltOf_foot]at*;simp only[decide_eq_true_eq]at*;omega
 ntrans x y z h1 h2:=by rw[ltOf_foot]at*;simp only[decide_eq_false_iff_not]at*;omega
def srt (l:List PathD):List PathD:=(Go.Sort.pdq (ltOf footCmp) l.toArray 0 l.toArray.size (Lib.bitLen l.toArray.size) true true).toList
theorem srt_len (l:List PathD):(srt l).length=l.length:=by
 have h:=(Go.Sort.pdq_sorts (ltOf footCmp) swo_foot l.toArray 0 l.toArray.size (Lib.bitLen l.toArray.size) true true (Nat.zero_le _) (Nat.le_refl _) (Or.inl rfl)).1.1;unfold srt;rw[Array.length_toList,h];simp
theorem below_sorted (w:World) (blk m base:Nat) (d:Array PathD) (os:Array Obj) (h:base≤blk) (hB:base≤w.heap.size):Below base w (sortWorldK pathCells 4 w blk 0 m d os):=by
 refine⟨rfl,rfl,rfl, ?_,fun k hk=>?_⟩
 ·
  unfold sortWorldK Go.Sort.putRowK Go.Sort.putRow Go.Sort.mapBlock Go.Sort.grow Go.Sort.ahead;simp
 ·
  unfold sortWorldK Go.Sort.putRowK Go.Sort.putRow Go.Sort.mapBlock Go.Sort.grow Go.Sort.ahead;simp only;rw[Array.getElem?_append_left (by simp;omega),Array.getElem?_modify,if_neg (by omega)]
theorem holds_row {base g cap:Nat} {T:TypeId} {w:World} {l:List PathD} (hr:w.ownsRow base T 4 (.slice (some ⟨g,0,none⟩) l.length cap) l.length (l.flatMap pathCells)):Go.Sort.HoldsK pathCells 4 w g 0 l.toArray:=by
 intro t ht;rw[Go.Sort.size_flatK]at ht;have hsz:l.toArray.size=l.length:=by simp
 rw[Go.Sort.get_flatK _ _ _ _ ht];rw[hsz]at ht;refine⟨?_,by rw[Nat.zero_add];exact World.ownsRow.frozenAt hr t⟩;rw[Nat.zero_add,World.ownsRow.cellAt hr t (by omega)];have hi:t / 4<l.length:=by omega
 have hx:l[t / 4]? =some l.toArray[t / 4]! :=by
  rw[getElem!_pos l.toArray (t / 4) (by rw[hsz];exact hi),List.getElem?_eq_getElem hi];simp
 have hj:t%4<(pathCells l.toArray[t / 4]!).length:=by
  show t%4<4
  omega
 have hu:(pathCells l.toArray[t / 4]!)[t%4]? =some (pathCells l.toArray[t / 4]!)[t%4]! :=by
  rw[getElem!_pos (pathCells l.toArray[t / 4]!) (t%4) hj,List.getElem?_eq_getElem hj]
 have:=flat_get (cells:=pathCells) (sz:=4) (fun _=>rfl) hx hu;rw[show t / 4*4+t%4=t by omega]at this;exact this
theorem psort:PSort srt:=by
 intro l v base w hl hr hB;have hlen:=srt_len l;by_cases h0:l.length=0
 ·
  obtain rfl:l=[]:=List.length_eq_zero_iff.1 h0;have hs:srt []=[]:=List.length_eq_zero_iff.1 hlen;have hv:SlIn pathCells 4 w.heap.size w v (srt []):=by rw[hs];exact slIn_own (cells:=pathCells) (fun _=>rfl) hr
  obtain⟨a,cap,rfl,-,-⟩:=hv.val;rw[hs]at hv ⊢;exact(AnyF.slices_SortFunc_none sortPath a cap _ w).mono fun e w' ⟨he,hw⟩=>by subst hw;exact⟨he,hv,Below.refl _ _⟩
 ·
  have hv:=slIn_own (cells:=pathCells) (fun _=>rfl) hr;rcases hr.2 with⟨-,q⟩|⟨g,cap,cur,rfl,-⟩
  · exact absurd q h0
  ·
   have hc:=AnyQ.slices_SortFunc_eq sortPath 4 Tryz.isAgg97 Tryz.sizeOf97 pathCells (fun _=>rfl) (fun x v hv=>by simp[pathCells]at hv;rcases hv with rfl|rfl|rfl|rfl<;>rfl) footCmp swo_foot 119 #[] g 0 cap l.toArray w (enters_of Tryz.func119 (by kernel_rfl) rfl) (fun _ _ _ _ x y=>footcmp_c x y _) (holds_row hr) (World.ownsRow.lt hr _ rfl).2 (by simp;omega);change Calls Tryz.prog 118 _ _ _ at hc;have hz:l.toArray.size=l.length:=by simp
   have hd:(Go.Sort.pdq (ltOf footCmp) l.toArray 0 l.toArray.size (Lib.bitLen l.toArray.size) true true).size=l.toArray.size:=(Go.Sort.pdq_sorts (ltOf footCmp) swo_foot l.toArray 0 l.toArray.size (Lib.bitLen l.toArray.size) true true (Nat.zero_le _) (Nat.le_refl _) (Or.inl rfl)).1.1;have hS:srt l=(Go.Sort.pdq (ltOf footCmp) l.toArray 0 l.toArray.size (Lib.bitLen l.toArray.size) true true).toList:=rfl;generalize Go.Sort.pdq (ltOf footCmp) l.toArray 0 l.toArray.size (Lib.bitLen l.toArray.size) true true=dk at hc hd hS
   rw[hz]at hc;refine hc.mono ?_;rintro e w' ⟨rfl,m,os,rfl⟩;have hlt:=(World.ownsRow.lt hr _ rfl);have hH:=holdsK_sortWorldK_c pathCells 4 w g 0 l.toArray dk m os (holds_row hr) hlt.2 hd;have hsz:w.heap.size≤(sortWorldK pathCells 4 w g 0 m dk os).heap.size:=size_sortWorldK_c pathCells 4 w g 0 m dk os;obtain⟨a',cap',e',k1,k2⟩:=hv.val;cases e'
   refine⟨rfl,⟨some ⟨g,0,none⟩,cap,by rw[hlen],by rw[hlen];exact k1,k2,fun _=>⟨g,0,rfl,Nat.lt_of_lt_of_le hlt.2 hsz,fun i x hx j u hu=>?_⟩⟩,below_sorted w g m base dk os hlt.1 hB⟩;rw[hS]at hx;have hi:i<dk.size:=by
    have:=(List.getElem?_eq_some_iff.1 hx).1;simpa using this
   have hxe:dk[i]! =x:=by
    rw[getElem!_pos dk i hi];have:=hx;rw[Array.getElem?_toList,Array.getElem?_eq_getElem hi]at this;exact Option.some.inj this
   have:=HoldsK.cells hH (fun _=>rfl) hi j u (by rw[hxe];exact hu);rw[Addr.add_lit]at this;exact this
theorem closureS_c (vl:Value) (l:List PathD) (n:Nat) (hn:n≤64) (hs:Hid (∀ p∈l,okPath n p)) (hl:l.length≤4096) (B:Nat) (w:World) (hv:SlIn pathCells 4 B w vl l) (hB:B≤w.heap.size):
  Calls Tryz.prog 80 #[vl, .int .i64 n] w fun e w'=> ∃ v' A F,e= .returned v'∧DistM false l n A∧DistM true l n F∧SlIn pathCells 4 w'.heap.size w' v' (srt (cloL A F n n))∧Bl w w':=closure_c srt psort vl l n hn hs hl B w hv hB
end Go.Proofs.YtncbcmiflffakaaGreat
namespace Go.Proofs.YtncbcmiflffakaaGreat
open Go.RowKit
open Frq Thr Tt Num Clk Dat Fld Dj
theorem okPath_of {l:List PathD} {n:Nat} (h:(chk (pathErr n) [] l).2=0): ∀ p∈l,okPath n p:=by
 intro p hp;obtain⟨k,hk,rfl⟩:=List.mem_iff_getElem.1 hp;have:=chk_ok l [] h k l[k] (List.getElem?_eq_getElem hk);unfold pathErr at this;split at this
 · cases this
 ·
  rename_i h1;split at this
  · cases this
  ·
   rename_i h2;simp only[outside,Bool.or_eq_true,decide_eq_true_eq,beq_iff_eq,not_or]at h1 h2;unfold okPath;omega
theorem close_c (vl:Value) (l:List PathD) (n:Nat) (hn:n≤64) (hs:(checkS 512 (pathErr n) l).2=0) (B:Nat) (w:World) (hv:SlIn pathCells 4 B w vl l) (hB:B≤w.heap.size):
  Calls Tryz.prog 46 #[vl, .int .i64 n] w fun e w'=> ∃ v' A F,e= .returned (.tuple #[v', .int .i64 0])∧DistM false l n A∧DistM true l n F∧SlIn pathCells 4 w'.heap.size w' v' (srt (cloL A F n n))∧Bl w w':=by
 have hfew:l.length≤512:=by
  rcases Nat.lt_or_ge 512 l.length with h|h
  ·
   rw[checkS_many h]at hs;cases hs
  · exact h
 have hk:(chk (pathErr n) [] l).2=0:=by
  rw[checkS_few hfew]at hs;exact hs
 have hok:=okPath_of hk;have hr:checkS 512 (pathErr n) l=((checkS 512 (pathErr n) l).1,0):=by rw[←hs]
 obtain⟨r1,hr1⟩: ∃ r,(checkS 512 (pathErr n) l).1=r:=⟨_,rfl⟩;rw[hr1]at hr;have HC:=Lib.hid (paths_c vl l n (r1,0) (Lib.hid hr) (Lib.hid fun x hx=>by obtain⟨⟨a,b⟩,⟨c,d⟩,-⟩:=hok x hx;unfold isInt;omega) B w hv hB);have HCL:=Lib.hid (fun w1 (h:Bl w w1)=>closureS_c vl l n hn (Lib.hid hok) (by omega) B w1 (hv.below (h.mono hB)) (Nat.le_trans hB h.size));have hnI:(n:Int)≤64:=by omega
 have hn0:(0:Int)≤n:=by omega
 clear hr hr1 hs hk hok hv;go_enter Tryz.func46,Tryz.ntmps46
 go_wp2_with fail;go_at_call 34
 refine HC.out.mono ?_;rintro q w1 ⟨rfl,b1⟩;have HD:=Lib.hid (HCL.out w1 b1);have B1:=Lib.hid b1;clear b1 HC HCL;go_wp2_with fail;go_at_call 80
 refine HD.out.mono ?_;rintro q w2 ⟨v',A,F,rfl,dA,dF,s2,b2⟩;have S2:=Lib.hid (And.intro dA (And.intro dF (And.intro s2 b2)));clear dA dF s2 b2;go_wp2_with fail;go_ret2;exact⟨_,A,F,rfl,S2.out.1,S2.out.2.1,S2.out.2.2.1,bl_next B1.out S2.out.2.2.2⟩
end Go.Proofs.YtncbcmiflffakaaGreat
namespace Go.Proofs.YtncbcmiflffakaaGreat
open Go.RowKit
open Frq Thr Tt Num Clk Dat Fld Dj
def ClosedR (n:Nat) (l:List PathD) (b:Bool):Prop:=
 ((chk (pathErr n) [] l).2≠0∧b=false)∨((chk (pathErr n) [] l).2=0∧ ∃ A F,DistM false l n A∧DistM true l n F∧b=decide (srt (cloL A F n n)=l))
theorem ClosedR.unique {n:Nat} {l:List PathD} {b b':Bool} (h:ClosedR n l b) (h':ClosedR n l b'):b=b':=by
 rcases h with⟨h1,h2⟩|⟨h1,A,F,h2,h3,h4⟩
 ·
  rcases h' with⟨k1,k2⟩|⟨k1,-⟩
  · rw[h2,k2]
  · exact absurd k1 h1
 ·
  rcases h' with⟨k1,-⟩|⟨-,A',F',k2,k3,k4⟩
  · exact absurd h1 k1
  · rw[h4,k4,h2.unique k2,h3.unique k3]
theorem path_fields:Tryz.prog.fieldsOf 97= #[⟨"From",3,0,false, "", "",0⟩,⟨"To",3,1,false, "", "",8⟩,⟨"Seconds",3,2,false, "", "",16⟩,⟨"StepFree",4,3,false, "", "",24⟩]:=by kernel_rfl
theorem path_eqIn (x y:PathD) (w:World):(Op.equalIn 10000 97 (.agg (pathCells x).toArray) (.agg (pathCells y).toArray)).run Tryz.prog w= .ok (decide (x=y)) w:=by
 have e:decide (x=y)=(x.frm==y.frm&&(x.to==y.to&&(x.secs==y.secs&&x.free==y.free))):=by
  rw[Bool.eq_iff_iff];simp only[decide_eq_true_eq,Bool.and_eq_true,beq_iff_eq];cases x
  cases y
  simp
 rw[e];unfold pathCells;rw[run_equalIn_agg w 9999 97 _ _ (by kernel_rfl) (by kernel_rfl),path_fields];have u3:Tryz.prog.underlying 3=some (.int .i64):=by kernel_rfl
 have u4:Tryz.prog.underlying 4=some .bool:=by kernel_rfl
 have hi:=fun(a b:Int) (w:World)=>run_equalIn_int (P:=Tryz.prog) w 9998 3 .i64 .i64 a b u3
 have hb:=fun(a b:Bool) (w:World)=>run_equalIn_bool' (P:=Tryz.prog) w 9998 4 a b u4
 go_simp;(repeat' split)<;>simp_all
theorem isclosed_c (vl:Value) (l:List PathD) (n:Nat) (hn:n≤64) (hl:l.length≤4096) (hi:Hid (∀ x∈l,isInt x.frm∧isInt x.to)) (B:Nat) (w:World) (hv:SlIn pathCells 4 B w vl l) (hB:B≤w.heap.size):
  Calls Tryz.prog 126 #[vl, .int .i64 n] w fun e w'=> ∃ b,e= .returned (.bool b)∧ClosedR n l b∧Bl w w':=by
 obtain⟨⟨r1,r2⟩,hr⟩: ∃ r,chk (pathErr n) [] l=r:=⟨_,rfl⟩;have HC:=Lib.hid (psound_c vl l n (r1,r2) (Lib.hid hr) hi B w hv hB);have hnI:(n:Int)≤64:=by omega
 have hn0:(0:Int)≤n:=by omega
 by_cases h0:r2=0
 ·
  subst h0;have hk:(chk (pathErr n) [] l).2=0:=by rw[hr]
  have HK:=Lib.hid hk;have hok:=okPath_of hk;have HCL:=Lib.hid (fun w1 (h:Bl w w1)=>closureS_c vl l n hn (Lib.hid hok) (by omega) B w1 (hv.below (h.mono hB)) (Nat.le_trans hB h.size));have HV:=Lib.hid hv;obtain⟨al,cl,rfl,-,-⟩:=hv.val;clear hr hk hok hv;go_enter Tryz.func126,Tryz.ntmps126
  go_wp2_with fail;go_at_call 60
  refine HC.out.mono ?_;rintro q w1 ⟨rfl,b1⟩;have HD:=Lib.hid (HCL.out w1 b1);have B1:=Lib.hid b1;clear b1 HC HCL;go_wp2_with fail;go_at_call 80
  refine HD.out.mono ?_;rintro q w2 ⟨v',A,F,rfl,dA,dF,s2,b2⟩;obtain⟨ac,cc,rfl,-,-⟩:=s2.val;have S2:=Lib.hid (And.intro dA (And.intro dF (And.intro s2 b2)));clear dA dF s2 b2 HD;generalize hC:srt (cloL A F n n)=C at S2 ⊢
  have HCe:=Lib.hid hC;clear hC;by_cases hlen:C.length=l.length
  ·
   have hlenI:((C.length:Int) != (l.length:Int))=false:=by rw[hlen];simp
   have hClI:(C.length:Int)≤4096:=by omega
   go_wp2_with fail;go_loopw [30] (fun i wr=> ∃ k:Nat,(k≤C.length∧i= .int .i64 k)∧Hid (C.take k=l.take k)∧Hid (Bl w2 wr)) (fun i _=>C.length-(intOf i).toNat)
   case atStart=>exact⟨0,⟨Nat.zero_le _,rfl⟩,Lib.hid rfl,Lib.hid (bl_refl _)⟩
   case round=>
    obtain⟨k,⟨hk,rfl⟩,HT,HBl⟩:=hrel;by_cases hlt:k<C.length
    ·
     have hltI:(k:Int)<(C.length:Int):=by omega
     obtain⟨bc,oc,x,rfl,-,hx,hcx⟩:=SlIn.get S2.out.2.2.1 (k:=k) hlt HBl.out (Nat.le_refl _);obtain⟨bl,ol,y,rfl,-,hy,hcy⟩:=SlIn.get HV.out (k:=k) (by omega) (bl_next (bl_next B1.out S2.out.2.2.2) HBl.out) hB;have d0:wr.cell? ⟨bc,oc+k*4,none⟩=some (.int .i64 x.frm):=hcx 0 _ rfl;have d1:wr.cell? ⟨bc,oc+k*4+1,none⟩=some (.int .i64 x.to):=hcx 1 _ rfl;have d2:wr.cell? ⟨bc,oc+k*4+2,none⟩=some (.int .i64 x.secs):=hcx 2 _ rfl;have d3:wr.cell? ⟨bc,oc+k*4+3,none⟩=some (.bool x.free):=hcx 3 _ rfl;have e0:wr.cell? ⟨bl,ol+k*4,none⟩=some (.int .i64 y.frm):=hcy 0 _ rfl;have e1:wr.cell? ⟨bl,ol+k*4+1,none⟩=some (.int .i64 y.to):=hcy 1 _ rfl;have e2:wr.cell? ⟨bl,ol+k*4+2,none⟩=some (.int .i64 y.secs):=hcy 2 _ rfl;have e3:wr.cell? ⟨bl,ol+k*4+3,none⟩=some (.bool y.free):=hcy 3 _ rfl;have HXY:=Lib.hid (And.intro hx hy);have hne:=fun w=>path_eqIn x y w
     simp only[pathCells]at hne;have hkI:(k:Int)<(l.length:Int):=by omega
     clear hx hy hcx hcy;by_cases hxy:x=y
     ·
      have hd:decide (x=y)=true:=decide_eq_true hxy;rw[hd]at hne;have HXE:=Lib.hid hxy;clear hd hxy;go_wp2_with fail;go_quiet (fail)
      go_wp2_with fail;exact⟨⟨k+1,⟨by omega,by go_num⟩,Lib.hid (by rw[take_snoc_at HXY.out.1,take_snoc_at HXY.out.2,HT.out,HXE.out]),Lib.hid (bl_drewN HBl.out _)⟩,by simp only[intOf];omega⟩
     ·
      have hd:decide (x=y)=false:=decide_eq_false hxy;rw[hd]at hne;have HXE:=Lib.hid hxy;clear hd hxy;go_wp2_with fail;go_quiet (fail)
      go_wp2_with fail;go_ret;refine⟨_,rfl, .inr ⟨HK.out,A,F,S2.out.1,S2.out.2.1, ?_⟩,bl_next (bl_next B1.out S2.out.2.2.2) (bl_drewN HBl.out _)⟩;rw[HCe.out,decide_eq_false (fun e=>HXE.out (by
       have h:=HXY.out;rw[e]at h;exact Option.some.inj (h.1.symm.trans h.2)))]
    ·
     obtain rfl:k=C.length:=by omega
     go_wp2_with fail;go_ret;refine⟨_,rfl, .inr ⟨HK.out,A,F,S2.out.1,S2.out.2.1, ?_⟩,bl_next (bl_next B1.out S2.out.2.2.2) HBl.out⟩;have:=HT.out;rw[List.take_length,hlen,List.take_length]at this;rw[HCe.out,decide_eq_true this]
  ·
   have hlenI:((C.length:Int) != (l.length:Int))=true:=by rw[bne_iff_ne];omega
   go_wp2_with fail;go_ret;exact⟨_,rfl, .inr ⟨HK.out,A,F,S2.out.1,S2.out.2.1,by rw[HCe.out,decide_eq_false (fun e=>hlen (by rw[e]))]⟩,bl_next B1.out S2.out.2.2.2⟩
 ·
  have h0I:(r2 != 0)=true:=by rw[bne_iff_ne];exact h0
  have HK:Hid ((chk (pathErr n) [] l).2≠0):=Lib.hid (by rw[hr];exact h0);clear hr hv;go_enter Tryz.func126,Tryz.ntmps126
  go_wp2_with fail;go_at_call 60
  refine HC.out.mono ?_;rintro q w1 ⟨rfl,b1⟩;have B1:=Lib.hid b1;clear b1 HC;go_wp2_with fail;go_ret;exact⟨_,rfl, .inl ⟨HK.out,rfl⟩,B1.out⟩
end Go.Proofs.YtncbcmiflffakaaGreat
