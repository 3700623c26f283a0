/-
  What the laws of top need of TopKey, TopRnA, TopRnB, TopRnC. Conditions: those of each lemma.
-/
import Derived.Test.YtncbcmiflffakaaGreatPkNm
import Derived.Test.YtncbcmiflffakaaGreatPkPlB
import Derived.Test.YtncbcmiflffakaaGreatPkCkA
import Derived.DeepKeys4
import Derived.BigQuiet
set_option maxRecDepth 1000000
set_option maxHeartbeats 32000000
namespace Go.Proofs.YtncbcmiflffakaaGreat
open Go.RowKit Go.Maps
open Go.Maps (Keyed)
open Frq Thr Tt
theorem str_cells:Tryz.prog.cellsOf 9=1:=by kernel_rfl
theorem size_str {l:List UInt8} (h:l.length≤maxLen):(⟨l.toArray⟩:ByteArray).size≤maxLen:=h
theorem runk_law:Keyed Tryz.prog 202:=Keyed.of_law (deep_law_laid laidOut (m:=5) (by omega) (by decide+kernel) (by kernel_rfl) (by kernel_rfl))
def runkV (x:Int×Int×Int):Value:= .agg #[.int .i64 x.1, .int .i64 x.2.1, .int .i64 x.2.2]
def runkOk (x:Int×Int×Int):Prop:=isInt x.1∧isInt x.2.1∧isInt x.2.2
theorem runk_type:Tryz.prog.keyType 202=true:=by kernel_rfl
theorem runk_cells:Tryz.prog.cellsOf 202=3:=by kernel_rfl
theorem runk_key {x:Int×Int×Int} (h:runkOk x): ∃ kl,keyOf Tryz.prog 202 (runkV x)=some kl:=by
 obtain⟨n,hn⟩:=types_pos;have w0:=wf_int (h.1);have w1:=wf_int (h.2.1);have w2:=wf_int (h.2.2);unfold keyOf runkV;rw[Tryz.underlying202];simp only[runk_type,Value.formed,Tryz.underlying202,runk_cells,hn];simp[Program.keyLits,Tryz.underlying202,Tryz.underlying3,runk_cells,int_cells,w0,w1,w2,Value.cells]
def runkFn (gk:Int×Int×Int→Lit):Prop:= ∀ x,runkOk x→keyOf Tryz.prog 202 (runkV x)=some (gk x)
theorem runkFn_ex: ∃ gk,runkFn gk:=by
 have h: ∀ x:Int×Int×Int,∃ kl,runkOk x→keyOf Tryz.prog 202 (runkV x)=some kl:=fun x=>by
  by_cases hx:runkOk x
  ·
   obtain⟨kl,hk⟩:=runk_key hx;exact⟨kl,fun _=>hk⟩
  · exact⟨.bool false,fun h=>absurd h hx⟩
 exact⟨fun x=>Classical.choose (h x),fun x hx=>Classical.choose_spec (h x) hx⟩
theorem runkFn_inj {gk:Int×Int×Int→Lit} (K:runkFn gk) {x y:Int×Int×Int} (hx:runkOk x) (hy:runkOk y) (h:gk x=gk y):x=y:=by
 have:=runk_law.inj (K x hx) (h ▸ K y hy);obtain⟨x0,x1,x2⟩:=x;obtain⟨y0,y1,y2⟩:=y;simpa[runkV,Prod.ext_iff]using this
theorem netk_law:Keyed Tryz.prog 215:=Keyed.of_law (deep_law_laid laidOut (m:=5) (by omega) (by decide+kernel) (by kernel_rfl) (by kernel_rfl))
def netkV (x:List UInt8×Int×Int):Value:= .agg #[str x.1, .int .i64 x.2.1, .int .i64 x.2.2]
def netkOk (x:List UInt8×Int×Int):Prop:=x.1.length≤maxLen∧isInt x.2.1∧isInt x.2.2
theorem netk_type:Tryz.prog.keyType 215=true:=by kernel_rfl
theorem netk_cells:Tryz.prog.cellsOf 215=3:=by kernel_rfl
theorem netk_key {x:List UInt8×Int×Int} (h:netkOk x): ∃ kl,keyOf Tryz.prog 215 (netkV x)=some kl:=by
 obtain⟨n,hn⟩:=types_pos;have w0:=size_str (h.1);have w1:=wf_int (h.2.1);have w2:=wf_int (h.2.2);unfold keyOf netkV;rw[Tryz.underlying215];simp only[netk_type,Value.formed,Tryz.underlying215,netk_cells,hn];simp[Program.keyLits,Tryz.underlying215,Tryz.underlying3,netk_cells,int_cells,Tryz.underlying9,str_cells,w0,w1,w2,Value.cells]
def netkFn (gk:List UInt8×Int×Int→Lit):Prop:= ∀ x,netkOk x→keyOf Tryz.prog 215 (netkV x)=some (gk x)
theorem netkFn_ex: ∃ gk,netkFn gk:=by
 have h: ∀ x:List UInt8×Int×Int,∃ kl,netkOk x→keyOf Tryz.prog 215 (netkV x)=some kl:=fun x=>by
  by_cases hx:netkOk x
  ·
   obtain⟨kl,hk⟩:=netk_key hx;exact⟨kl,fun _=>hk⟩
  · exact⟨.bool false,fun h=>absurd h hx⟩
 exact⟨fun x=>Classical.choose (h x),fun x hx=>Classical.choose_spec (h x) hx⟩
theorem netkFn_inj {gk:List UInt8×Int×Int→Lit} (K:netkFn gk) {x y:List UInt8×Int×Int} (hx:netkOk x) (hy:netkOk y) (h:gk x=gk y):x=y:=by
 have:=netk_law.inj (K x hx) (h ▸ K y hy);obtain⟨x0,x1,x2⟩:=x;obtain⟨y0,y1,y2⟩:=y;simpa[netkV,Prod.ext_iff]using this
def netkSet (gk:List UInt8×Int×Int→Lit) (l:List (List UInt8×Int×Int)) (S:Lit→Bool):Prop:= ∀ x:List UInt8×Int×Int,netkOk x→S (gk x)=l.any fun y=>y==x
theorem netkSet_snoc {gk:List UInt8×Int×Int→Lit} (K:netkFn gk) {l:List (List UInt8×Int×Int)} {S:Lit→Bool} {x:List UInt8×Int×Int} (h:netkSet gk l S) (hk:netkOk x):netkSet gk (l++[x]) (setPut S (gk x)):=fun y hy=>by
 by_cases e:y=x
 · rw[e,setPut_at _ (netk_law.key (K x hk))];simp
 · rw[setPut_ne (fun e'=>e (netkFn_inj K hy hk e')),h y hy,List.any_append,List.any_cons,List.any_nil,Bool.or_false,show(x==y)=false by rw[beq_eq_false_iff_ne];exact fun e'=>e e'.symm,Bool.or_false]
theorem fpk_law:Keyed Tryz.prog 97:=Keyed.of_law (deep_law_laid laidOut (m:=5) (by omega) (by decide+kernel) (by kernel_rfl) (by kernel_rfl))
def fpkV (x:Int×Int×Bool):Value:= .agg #[.int .i64 x.1, .int .i64 x.2.1, .int .i64 0, .bool x.2.2]
def fpkOk (x:Int×Int×Bool):Prop:=isInt x.1∧isInt x.2.1
theorem fpk_type:Tryz.prog.keyType 97=true:=by kernel_rfl
theorem fpk_cells:Tryz.prog.cellsOf 97=4:=by kernel_rfl
theorem fpk_key {x:Int×Int×Bool} (h:fpkOk x): ∃ kl,keyOf Tryz.prog 97 (fpkV x)=some kl:=by
 obtain⟨n,hn⟩:=types_pos;have w0:=wf_int (h.1);have w1:=wf_int (h.2);have wz:=wf_int (x:=0) (by unfold isInt;omega);unfold keyOf fpkV;rw[Tryz.underlying97];simp only[fpk_type,Value.formed,Tryz.underlying97,fpk_cells,hn];simp[Program.keyLits,Tryz.underlying97,Tryz.underlying3,fpk_cells,int_cells,Tryz.underlying4,bool_cells,w0,w1,wz,Value.cells]
def fpkFn (gk:Int×Int×Bool→Lit):Prop:= ∀ x,fpkOk x→keyOf Tryz.prog 97 (fpkV x)=some (gk x)
theorem fpkFn_ex: ∃ gk,fpkFn gk:=by
 have h: ∀ x:Int×Int×Bool,∃ kl,fpkOk x→keyOf Tryz.prog 97 (fpkV x)=some kl:=fun x=>by
  by_cases hx:fpkOk x
  ·
   obtain⟨kl,hk⟩:=fpk_key hx;exact⟨kl,fun _=>hk⟩
  · exact⟨.bool false,fun h=>absurd h hx⟩
 exact⟨fun x=>Classical.choose (h x),fun x hx=>Classical.choose_spec (h x) hx⟩
theorem fpkFn_inj {gk:Int×Int×Bool→Lit} (K:fpkFn gk) {x y:Int×Int×Bool} (hx:fpkOk x) (hy:fpkOk y) (h:gk x=gk y):x=y:=by
 have:=fpk_law.inj (K x hx) (h ▸ K y hy);obtain⟨x0,x1,x2⟩:=x;obtain⟨y0,y1,y2⟩:=y;simpa[fpkV,Prod.ext_iff]using this
def fpkSet (gk:Int×Int×Bool→Lit) (l:List (Int×Int×Bool)) (S:Lit→Bool):Prop:= ∀ x:Int×Int×Bool,fpkOk x→S (gk x)=l.any fun y=>y==x
theorem fpkSet_snoc {gk:Int×Int×Bool→Lit} (K:fpkFn gk) {l:List (Int×Int×Bool)} {S:Lit→Bool} {x:Int×Int×Bool} (h:fpkSet gk l S) (hk:fpkOk x):fpkSet gk (l++[x]) (setPut S (gk x)):=fun y hy=>by
 by_cases e:y=x
 · rw[e,setPut_at _ (fpk_law.key (K x hk))];simp
 · rw[setPut_ne (fun e'=>e (fpkFn_inj K hy hk e')),h y hy,List.any_append,List.any_cons,List.any_nil,Bool.or_false,show(x==y)=false by rw[beq_eq_false_iff_ne];exact fun e'=>e e'.symm,Bool.or_false]
theorem fourk_law:Keyed Tryz.prog 218:=Keyed.of_law (deep_law_laid laidOut (m:=5) (by omega) (by decide+kernel) (by kernel_rfl) (by kernel_rfl))
def fourkV (x:Int×Int×Int×Int):Value:= .agg #[.int .i64 x.1, .int .i64 x.2.1, .int .i64 x.2.2.1, .int .i64 x.2.2.2]
def fourkOk (x:Int×Int×Int×Int):Prop:=isInt x.1∧isInt x.2.1∧isInt x.2.2.1∧isInt x.2.2.2
theorem fourk_type:Tryz.prog.keyType 218=true:=by kernel_rfl
theorem fourk_cells:Tryz.prog.cellsOf 218=4:=by kernel_rfl
theorem fourk_key {x:Int×Int×Int×Int} (h:fourkOk x): ∃ kl,keyOf Tryz.prog 218 (fourkV x)=some kl:=by
 obtain⟨n,hn⟩:=types_pos;have w0:=wf_int (h.1);have w1:=wf_int (h.2.1);have w2:=wf_int (h.2.2.1);have w3:=wf_int (h.2.2.2);unfold keyOf fourkV;rw[Tryz.underlying218];simp only[fourk_type,Value.formed,Tryz.underlying218,fourk_cells,hn];simp[Program.keyLits,Tryz.underlying218,Tryz.underlying3,fourk_cells,int_cells,show List.range 4=[0,1,2,3] from rfl,w0,w1,w2,w3,Value.cells]
def fourkFn (gk:Int×Int×Int×Int→Lit):Prop:= ∀ x,fourkOk x→keyOf Tryz.prog 218 (fourkV x)=some (gk x)
theorem fourkFn_ex: ∃ gk,fourkFn gk:=by
 have h: ∀ x:Int×Int×Int×Int,∃ kl,fourkOk x→keyOf Tryz.prog 218 (fourkV x)=some kl:=fun x=>by
  by_cases hx:fourkOk x
  ·
   obtain⟨kl,hk⟩:=fourk_key hx;exact⟨kl,fun _=>hk⟩
  · exact⟨.bool false,fun h=>absurd h hx⟩
 exact⟨fun x=>Classical.choose (h x),fun x hx=>Classical.choose_spec (h x) hx⟩
theorem fourkFn_inj {gk:Int×Int×Int×Int→Lit} (K:fourkFn gk) {x y:Int×Int×Int×Int} (hx:fourkOk x) (hy:fourkOk y) (h:gk x=gk y):x=y:=by
 have:=fourk_law.inj (K x hx) (h ▸ K y hy);obtain⟨x0,x1,x2,x3⟩:=x;obtain⟨y0,y1,y2,y3⟩:=y;simpa[fourkV,Prod.ext_iff]using this
def fourkSet (gk:Int×Int×Int×Int→Lit) (l:List (Int×Int×Int×Int)) (S:Lit→Bool):Prop:= ∀ x:Int×Int×Int×Int,fourkOk x→S (gk x)=l.any fun y=>y==x
theorem fourkSet_snoc {gk:Int×Int×Int×Int→Lit} (K:fourkFn gk) {l:List (Int×Int×Int×Int)} {S:Lit→Bool} {x:Int×Int×Int×Int} (h:fourkSet gk l S) (hk:fourkOk x):fourkSet gk (l++[x]) (setPut S (gk x)):=fun y hy=>by
 by_cases e:y=x
 · rw[e,setPut_at _ (fourk_law.key (K x hk))];simp
 · rw[setPut_ne (fun e'=>e (fourkFn_inj K hy hk e')),h y hy,List.any_append,List.any_cons,List.any_nil,Bool.or_false,show(x==y)=false by rw[beq_eq_false_iff_ne];exact fun e'=>e e'.symm,Bool.or_false]
end Go.Proofs.YtncbcmiflffakaaGreat
namespace Go.Proofs.YtncbcmiflffakaaGreat
open Go.RowKit
open Frq Thr Tt Num Clk Dat Fld Da
theorem weekday_c (t:Int) (h:Hid (dvalid t=true)) (w:World):Calls Tryz.prog 163 #[.int .i64 t] w fun e w'=>e= .returned (.tuple #[.int .i64 ((t+5)%7), .bool true])∧w'=w:=by
 have hd:=Lib.hid (dValid_b t true h w);have hb:0≤t∧t≤1000000:=by
  have:=h.out;unfold dvalid at this;simp at this
  omega
 have e1:IntKind.i64.wrap (t+5)=t+5:=by simp[IntKind.wrap,IntKind.bits,IntKind.signed];omega
 have e2:(t+5).tmod 7=(t+5)%7:=by rw[Int.tmod_eq_emod_of_nonneg (by omega)]
 have e3:IntKind.i64.wrap ((t+5)%7)=(t+5)%7:=by simp[IntKind.wrap,IntKind.bits,IntKind.signed];omega
 go_enter Tryz.func163,Tryz.ntmps163
 go_wp2_with (go_at_call 51;refine hd.out.mono ?_;rintro e w' ⟨rfl,rfl⟩)
 go_ret2;exact⟨rfl,rfl⟩
theorem reason_c (vl vx:Value) (l:List CalD) (x:List ExcD) (i:Nat) (c:CalD) (hc:l[i]? =some c) (day:Int) (hd:Hid (dvalid day=true)) (hl:l.length≤100000) (hxl:x.length≤100000) (B:Nat) (w:World)
  (hvl:SlIn calCells 10 B w vl l) (hvx:SlIn excCells 3 B w vx x) (hB:B≤w.heap.size):
  Calls Tryz.prog 145 #[vl,vx, .int .i64 i, .int .i64 day] w fun e w'=>e= .returned (.int .i64 (reasonP c x i day))∧Bl w w':=by
 obtain⟨hlt,-⟩:=List.getElem?_eq_some_iff.1 hc;have HV:=Lib.hid hvx;obtain⟨al,cl,rfl,-,-⟩:=hvl.val;obtain⟨ax,cx,rfl,-,-⟩:=hvx.val;obtain⟨b,o,c',rfl,hb,hx,hcc⟩:=hvl.get (k:=i) hlt (bl_refl w) hB;obtain rfl:c'=c:=Option.some.inj (hx.symm.trans hc);have p0:w.cell? ⟨b,o+i*10,none⟩=some (str c'.id):=hcc 0 _ rfl;have p1:w.cell? ⟨b,o+i*10+1,none⟩=some (.bool c'.week.d0):=hcc 1 _ rfl;have p2:w.cell? ⟨b,o+i*10+2,none⟩=some (.bool c'.week.d1):=hcc 2 _ rfl;have p3:w.cell? ⟨b,o+i*10+3,none⟩=some (.bool c'.week.d2):=hcc 3 _ rfl;have p4:w.cell? ⟨b,o+i*10+4,none⟩=some (.bool c'.week.d3):=hcc 4 _ rfl;have p5:w.cell? ⟨b,o+i*10+5,none⟩=some (.bool c'.week.d4):=hcc 5 _ rfl;have p6:w.cell? ⟨b,o+i*10+6,none⟩=some (.bool c'.week.d5):=hcc 6 _ rfl;have p7:w.cell? ⟨b,o+i*10+7,none⟩=some (.bool c'.week.d6):=hcc 7 _ rfl;have p8:w.cell? ⟨b,o+i*10+8,none⟩=some (.int .i64 c'.frm):=hcc 8 _ rfl;have p9:w.cell? ⟨b,o+i*10+9,none⟩=some (.int .i64 c'.to):=hcc 9 _ rfl;have hltI:(i:Int)<(l.length:Int):=by omega
 have hi0:(0:Int)≤(i:Int):=by omega
 have hlI:(l.length:Int)≤100000:=by omega
 have hxI:(x.length:Int)≤100000:=by omega
 have HD:=Lib.hid (fun w=>dValid_b day true hd w);clear hcc hx hc hvl hvx;go_enter Tryz.func145,Tryz.ntmps145
 go_wp2_with fail;refine wp_scope_straight ?_;go_wp2_with (go_at_call 51;refine(HD.out _).mono ?_;rintro e w' ⟨rfl,rfl⟩)
 refine wp_label ?_;go_wp2_with fail;go_loopw [9,34] (fun r j wr=> ∃ k:Nat,(k≤x.length∧j= .int .i64 k∧r= .int .i64 5)∧Hid (excS (x.take k) i day=none)∧Hid (Bl w wr)∧Hid (wr.heap[w.heap.size]? =some (.cells (calCells c').toArray 114 (0,0)))) (fun _ j _=>x.length-(intOf j).toNat)
 case atStart=>exact⟨0,⟨Nat.zero_le _,rfl,rfl⟩,Lib.hid rfl,Lib.hid (bl_alloc (bl_refl _) _),Lib.hid (heap_alloc_new w _)⟩
 case round=>
  obtain⟨k,⟨hk,rfl,rfl⟩,HN,HBl,HC⟩:=hrel;by_cases hkx:k<x.length
  ·
   have hkxI:(k:Int)<(x.length:Int):=by omega
   obtain⟨be,oe,e,rfl,-,hx,hce⟩:=HV.out.get (k:=k) hkx HBl.out hB;have d0:wr.cell? ⟨be,oe+k*3,none⟩=some (.int .i64 e.cal):=hce 0 _ rfl;have d1:wr.cell? ⟨be,oe+k*3+1,none⟩=some (.int .i64 e.day):=hce 1 _ rfl;have d2:wr.cell? ⟨be,oe+k*3+2,none⟩=some (.bool e.added):=hce 2 _ rfl;have hsn:=excS_snoc (x.take k) e i day HN.out;rw[←take_snoc_at hx]at hsn;have HSN:=Lib.hid hsn;have HX:=Lib.hid hx;have BA:Hid (Bl w (wr.alloc (.cells #[.int .i64 e.cal, .int .i64 e.day, .bool e.added] 120))):=Lib.hid (bl_alloc HBl.out _);have CA:=Lib.hid (blk_bl HC.out (bl_alloc (bl_refl wr) (.cells #[.int .i64 e.cal, .int .i64 e.day, .bool e.added] 120)));clear hsn hx hce;by_cases h1:e.cal=i
   ·
    by_cases h2:e.day=day
    ·
     have q1:(e.cal != (i:Int))=false:=by rw[h1];simp
     have q2:(e.day != day)=false:=by rw[h2];simp
     have h3:excS x i day=some e:=by
      have:=excS_more (x.take (k+1)) (x.drop (k+1)) i day (e:=e) (by rw[HSN.out,if_pos (by simp[h1,h2])]);rwa [List.take_append_drop]at this
     have h4:reasonP c' x i day=if e.added then 2 else 3:=by unfold reasonP;rw[h3]
     clear h1 h2 h3;obtain⟨v,hv⟩: ∃ v,e.added=v:=⟨_,rfl⟩;rw[hv]at d2 BA h4;have H4:=Lib.hid h4;clear hv h4;cases v
     ·
      go_wp2_with fail;first|rw[Exit.noGoto_ret]|skip
      go_ret;exact⟨by rw[H4.out];rfl,BA.out⟩
     ·
      go_wp2_with fail;first|rw[Exit.noGoto_ret]|skip
      go_ret;exact⟨by rw[H4.out];rfl,BA.out⟩
    ·
     have q1:(e.cal != (i:Int))=false:=by rw[h1];simp
     have q2:(e.day != day)=true:=by rw[bne_iff_ne];exact h2
     have h3:Hid (excS (x.take (k+1)) i day=none):=by rw[HSN.out,if_neg (by simp[h2])];rfl
     clear h1 h2;go_wp2_with fail;exact⟨⟨k+1,⟨by omega,by go_num,rfl⟩,h3,BA,CA⟩,by simp only[intOf];omega⟩
   ·
    have q1:(e.cal != (i:Int))=true:=by rw[bne_iff_ne];exact h1
    have h3:Hid (excS (x.take (k+1)) i day=none):=by rw[HSN.out,if_neg (by simp[h1])];rfl
    clear h1;go_wp2_with fail;exact⟨⟨k+1,⟨by omega,by go_num,rfl⟩,h3,BA,CA⟩,by simp only[intOf];omega⟩
  ·
   obtain rfl:k=x.length:=by omega
   have hnone:=HN.out;rw[List.take_length]at hnone;have g0:=fun j u hj=>blk_cell HC.out j u hj
   have r0:wr.cell? ⟨w.heap.size,1,none⟩=some (.bool c'.week.d0):=g0 1 _ rfl;have r1:wr.cell? ⟨w.heap.size,2,none⟩=some (.bool c'.week.d1):=g0 2 _ rfl;have r2:wr.cell? ⟨w.heap.size,3,none⟩=some (.bool c'.week.d2):=g0 3 _ rfl;have r3:wr.cell? ⟨w.heap.size,4,none⟩=some (.bool c'.week.d3):=g0 4 _ rfl;have r4:wr.cell? ⟨w.heap.size,5,none⟩=some (.bool c'.week.d4):=g0 5 _ rfl;have r5:wr.cell? ⟨w.heap.size,6,none⟩=some (.bool c'.week.d5):=g0 6 _ rfl;have r6:wr.cell? ⟨w.heap.size,7,none⟩=some (.bool c'.week.d6):=g0 7 _ rfl;have r8:wr.cell? ⟨w.heap.size,8,none⟩=some (.int .i64 c'.frm):=g0 8 _ rfl;have r9:wr.cell? ⟨w.heap.size,9,none⟩=some (.int .i64 c'.to):=g0 9 _ rfl;clear g0;by_cases h1:day<c'.frm
   ·
    have h4:reasonP c' x i day=5:=by unfold reasonP;rw[hnone];simp only[if_pos (Or.inl h1)]
    have H4:=Lib.hid h4;clear hnone h4;go_wp2_with fail;first|rw[Exit.noGoto_ret]|skip
    go_ret;exact⟨(by rw[H4.out];(try rfl)),HBl.out⟩
   ·
    by_cases h2:c'.to<day
    ·
     have h4:reasonP c' x i day=5:=by unfold reasonP;rw[hnone];simp only[if_pos (Or.inr h2)]
     have H4:=Lib.hid h4;clear hnone h4;go_wp2_with fail;first|rw[Exit.noGoto_ret]|skip
     go_ret;exact⟨(by rw[H4.out];(try rfl)),HBl.out⟩
    ·
     have h4:reasonP c' x i day=if weekAt c' ((day+5)%7).toNat then 1 else 4:=by unfold reasonP;rw[hnone];simp only[if_neg (not_or.2 ⟨h1,h2⟩)]
     obtain⟨k,hk,hkk⟩: ∃ k:Nat,k<7∧(day+5)%7=(k:Int):=⟨((day+5)%7).toNat,by omega,by omega⟩;rw[hkk,Int.toNat_natCast]at h4;have HW:=Lib.hid (fun w=>weekday_c day hd w);rw[hkk]at HW;obtain⟨bw,hbw⟩: ∃ b,weekAt c' k=b:=⟨_,rfl⟩;have rk:wr.cell? ⟨w.heap.size,1+k,none⟩=some (.bool bw):=by
      rw[←hbw];rcases k with _|_|_|_|_|_|_|k
      · exact r0
      · exact r1
      · exact r2
      · exact r3
      · exact r4
      · exact r5
      · exact r6
      · omega
     rw[hbw]at h4;have H4:=Lib.hid h4;have hkI:(k:Int)<7:=by omega
     clear hnone h4 hkk hbw r0 r1 r2 r3 r4 r5 r6;cases bw
     ·
      go_wp2_with fail;refine(HW.out _).mono ?_;rintro e w' ⟨rfl,rfl⟩;go_wp2_with fail;first|rw[Exit.noGoto_ret]|skip
      go_ret;exact⟨(by rw[H4.out];(try rfl)),HBl.out⟩
     ·
      go_wp2_with fail;refine(HW.out _).mono ?_;rintro e w' ⟨rfl,rfl⟩;go_wp2_with fail;first|rw[Exit.noGoto_ret]|skip
      go_ret;exact⟨(by rw[H4.out];(try rfl)),HBl.out⟩
end Go.Proofs.YtncbcmiflffakaaGreat
namespace Go.Proofs.YtncbcmiflffakaaGreat
open Go.RowKit
open Frq Thr Tt Num Clk Dat Fld Da
theorem active_c (vl vx:Value) (l:List CalD) (x:List ExcD) (i:Nat) (c:CalD) (hc:l[i]? =some c) (day:Int) (hd:Hid (dvalid day=true)) (hl:l.length≤100000) (hxl:x.length≤100000) (B:Nat) (w:World)
  (hvl:SlIn calCells 10 B w vl l) (hvx:SlIn excCells 3 B w vx x) (hB:B≤w.heap.size):
  Calls Tryz.prog 131 #[vl,vx, .int .i64 i, .int .i64 day] w fun e w'=>e= .returned (.bool (activeC c x i day))∧Bl w w':=by
 have HC:=Lib.hid (reason_c vl vx l x i c hc day hd hl hxl B w hvl hvx hB);obtain⟨r,hr⟩: ∃ r,reasonP c x i day=r:=⟨_,rfl⟩;have ha:activeC c x i day=(r==1||r==2):=by unfold activeC;rw[hr]
 rw[hr]at HC;have HA:=Lib.hid ha;clear ha hr hc hvl hvx;by_cases h1:r=1
 ·
  subst h1;go_enter Tryz.func131,Tryz.ntmps131
  go_wp2_with fail;refine HC.out.mono ?_;rintro e w1 ⟨rfl,b1⟩;go_wp2_with fail;go_ret;exact⟨by rw[HA.out];rfl,b1⟩
 ·
  have e1:(r==1)=false:=by rw[beq_eq_false_iff_ne];exact h1
  by_cases h2:r=2
  ·
   subst h2;go_enter Tryz.func131,Tryz.ntmps131
   go_wp2_with fail;refine HC.out.mono ?_;rintro e w1 ⟨rfl,b1⟩;go_wp2_with fail;go_ret;exact⟨by rw[HA.out];rfl,b1⟩
  ·
   have e2:(r==2)=false:=by rw[beq_eq_false_iff_ne];exact h2
   rw[e1,e2]at HA;go_enter Tryz.func131,Tryz.ntmps131
   go_wp2_with fail;refine HC.out.mono ?_;rintro e w1 ⟨rfl,b1⟩;go_wp2_with fail;go_ret;exact⟨by rw[HA.out];rfl,b1⟩
theorem slice_of_own {w:World} {base:Nat} {e:TypeId} {sz n:Nat} {v:Value} {xs:List Value} (h:w.ownsRow base e sz v n xs): ∃ a c,v= .slice a n c:=by
 rcases h.2 with⟨q,h0⟩|⟨g',cc,cur,q,-⟩
 · exact⟨none,0,by rw[q,h0]⟩
 · exact⟨_,_,q⟩
def okS (c:CallD):Prop:=0≤c.arrive∧c.arrive≤1000000000000∧0≤c.depart∧c.depart≤1000000000000
theorem shift_c (v:Value) (cs:List CallD) (by':Int) (h0:0≤by') (h1:by'≤1000000000000) (hok:Hid (∀ c∈cs,okS c)) (hlen:cs.length≤1000) (B:Nat) (w:World) (hv:CallsIn B w v cs) (hB:B≤w.heap.size):
  Calls Tryz.prog 132 #[v, .int .i64 by'] w fun e w'=> ∃ v',e= .returned v'∧w'.ownsRow w.heap.size 68 5 v' cs.length ((cs.map (shiftR by')).flatMap callCells)∧Bl w w':=by
 have HV:=Lib.hid hv;obtain⟨a,cap,rfl,h2,h3⟩:=hv.val;obtain⟨i0,hi,hz0,hz1,hz2⟩:=info_parts info_call;have hlI:(cs.length:Int)≤1000:=by omega
 clear hv;go_enter Tryz.func132,Tryz.ntmps132
 go_wp2_with fail;go_loopw [5,10] (fun r j wr=> ∃ (k:Nat) (u:Value),(k≤cs.length∧j= .int .i64 k∧r=u)∧Hid (wr.ownsRow w.heap.size 68 5 u k (((cs.take k).map (shiftR by')).flatMap callCells))∧Hid (Bl w wr)) (fun _ j _=>cs.length-(intOf j).toNat)
 case atStart=>exact⟨0,_,⟨Nat.zero_le _,rfl,rfl⟩,Lib.hid (World.ownsRow_nil _ _ _ _),Lib.hid (bl_refl _)⟩
 case round=>
  obtain⟨k,u,⟨hk,rfl,rfl⟩,HR,HBl⟩:=hrel;by_cases hlt:k<cs.length
  ·
   have hltI:(k:Int)<(cs.length:Int):=by omega
   obtain⟨b,o,x,rfl,-,hx,hcx⟩:=HV.out.get (k:=k) hlt HBl.out hB;have c0:wr.cell? ⟨b,o+k*5,none⟩=some (.int .i64 x.stop):=hcx 0 _ rfl;have c1:wr.cell? ⟨b,o+k*5+1,none⟩=some (.int .i64 x.arrive):=hcx 1 _ rfl;have c2:wr.cell? ⟨b,o+k*5+2,none⟩=some (.int .i64 x.depart):=hcx 2 _ rfl;have c3:wr.cell? ⟨b,o+k*5+3,none⟩=some (.bool x.board):=hcx 3 _ rfl;have c4:wr.cell? ⟨b,o+k*5+4,none⟩=some (.bool x.alight):=hcx 4 _ rfl;obtain⟨o1,o2,o3,o4⟩:=hok.out x (List.mem_of_getElem? hx);have HX:=Lib.hid (take_snoc_at hx);obtain⟨au,cu,rfl⟩:=slice_of_own HR.out;clear hx hcx;go_wp2_with (at_builtin;refine wpList_append_own _ rfl _ _ 46 rfl w.heap.size 68 i0 _ 5 32 Tryz.underlying46 hi hz0 hz1 hz2 rfl (by decide) _ _ _ rfl ((HR.out.alloc _).alloc _) ⟨wr.heap.size+1,0,none⟩ 1 1 (callCells (shiftR by' x)) rfl rfl ?c1 ?c2 ?c3 ?c4 ?c5 ?_)
   case c1=>exact cells_new _ _ (by simp) (fun j u hj=>by rw[List.getElem?_toArray];exact hj)
   case c2=>simp[callCells,Value.oneCell']
   case c3=>unfold maxLen;omega
   case c4=>omega
   case c5=>have:=HBl.out.size;simp;omega
   intro v6 w6 own6 gr6 _;obtain⟨a6,k6,rfl⟩:=slice_of_own own6;have own7:w6.ownsRow w.heap.size 68 5 (.slice a6 (k+1) k6) (k+1) (((cs.take (k+1)).map (shiftR by')).flatMap callCells):=by
    have h:=own6;rw[←List.map_take]at h;rw[HX.out,List.map_append,List.flatMap_append];exact h
   have O7:=Lib.hid own7;have B6:Hid (Bl w w6):=by
    have h1:Bl w ((wr.alloc (.cells #[.int .i64 x.stop, .int .i64 (x.arrive+by'), .int .i64 (x.depart+by'), .bool x.board, .bool x.alight] 68)).alloc (.cells #[.int .i64 x.stop, .int .i64 (x.arrive+by'), .int .i64 (x.depart+by'), .bool x.board, .bool x.alight] 68)):=bl_alloc (bl_alloc HBl.out _) _;exact h1.grown gr6 h1.size (fun q hq=>(World.ownsRow.lt HR.out q hq).1)
   clear own6 own7 gr6;go_wp2_with fail;exact⟨⟨k+1,_,⟨by omega,by go_num,rfl⟩,O7,B6⟩,by simp only[intOf];omega⟩
  ·
   obtain rfl:k=cs.length:=by omega
   have hR:=HR.out;rw[List.take_length]at hR;have HR2:=Lib.hid hR;clear hR HR;go_wp2_with fail;go_ret;exact⟨_,rfl,HR2.out,HBl.out⟩
end Go.Proofs.YtncbcmiflffakaaGreat
namespace Go.Proofs.YtncbcmiflffakaaGreat
open Go.RowKit
open Frq Thr Tt Num Clk Dat Fld Da
theorem info_run:(Tryz.prog.info? 66).map (fun i=>(i.zero,i.size,i.bytes))=some (some (.agg #[.int .i64 0, .int .i64 0, .int .i64 0, .string ByteArray.empty, .int .i64 0, .bool false, .bool false, .slice none 0 0]),8,80):=by kernel_rfl
abbrev runVal (x:RunV):Value:= .agg #[.int .i64 x.r.trip, .int .i64 x.r.day, .int .i64 x.r.inst,str x.r.id, .int .i64 x.r.route, .bool x.r.free, .bool x.r.canc,x.v]
abbrev runBox (x:RunV):Obj:= .cells #[.int .i64 x.r.trip, .int .i64 x.r.day, .int .i64 x.r.inst,str x.r.id, .int .i64 x.r.route, .bool x.r.free, .bool x.r.canc,x.v] 66
def OutR (g:Nat) (xs:List RunV) (o:Option Nat) (w:World):Prop:= ∃ v,w.heap[g]? =some (.cells #[v] 51 (0,0))∧RunsOwn (g+1) w v xs∧v.ownBlock=o
structure Added (g:Nat) (o o':Option Nat) (w w':World):Prop where
 row:o'=o∨ ∃ r,o'=some r∧w.heap.size≤r
 same: ∀ b,b<w.heap.size→b≠g→o≠some b→w'.heap[b]? =w.heap[b]?
theorem RunsOwn.lt {base:Nat} {w:World} {v:Value} {xs:List RunV} (h:RunsOwn base w v xs): ∀ b,v.ownBlock=some b→base≤b∧b<w.heap.size:=fun b hb=>World.ownsRow.lt h.row b hb
theorem call_oneCell (x:RunV) (h: ∃ a n c,x.v= .slice a n c): ∀ u∈runCells x,u.oneCell'=true:=by
 obtain⟨a,n,c,h⟩:=h;intro u hu;simp only[runCells,List.mem_cons,List.not_mem_nil,or_false,h]at hu;rcases hu with rfl|rfl|rfl|rfl|rfl|rfl|rfl|rfl<;>rfl
theorem dadd_c (g:Nat) (xs:List RunV) (x:RunV) (w:World) (o:Option Nat) (hl:xs.length≤1024) (h:OutR g xs o w) (hx:w.ownsRow (g+1) 68 5 x.v x.r.calls.length (x.r.calls.flatMap callCells)):
  Calls Tryz.prog 112 #[runVal x, .pointer (some ⟨g,0,none⟩)] w fun e w'=>e= .returned (.bool (decide (xs.length+1≤1024)))∧ ∃ o',OutR g (xs++[x]) o' w'∧Added g o o' w w'∧Below g w w':=by
 have HX:=Lib.hid hx;obtain⟨v,hb,hr,ho⟩:=h;subst ho;have HB:=Lib.hid hb;have HR:=Lib.hid hr;obtain⟨ax,nx,hvx⟩:=slice_of_own hx;have c0:w.cell? ⟨g,0,none⟩=some v:=blk_cell hb 0 _ rfl;have fz:w.frozen? ⟨g,0,none⟩=false:=Lib.frozen_of_heap hb 0;obtain⟨i0,hi,hz0,hz1,hz2⟩:=info_parts info_run;have hlt:=lt_of_block hb;have hne:v.ownBlock≠some g:=fun e=>by have:=(hr.lt _ e).1;omega
 have h1c:=Lib.hid (call_oneCell x ⟨ax,_,nx,hvx⟩);obtain⟨xr,xv⟩:=x;simp only at hvx hx HX;subst hvx;clear hb hr hx;go_enter Tryz.func112,Tryz.ntmps112
 go_wp2_with (at_builtin;refine wpList_append_own_at _ rfl _ _ 51 rfl (g+1) 66 i0 _ 8 80 Tryz.underlying51 hi hz0 hz1 hz2 rfl (by decide) _ _ _ rfl (((HR.out.row.alloc _).alloc _)) ⟨w.heap.size+1,0,none⟩ 1 1 (runCells ⟨xr, .slice ax xr.calls.length nx⟩) rfl rfl ?c1 ?c2 ?c3 ?c4 ?c5 ?_)
 case c1=>exact cells_new _ _ (by simp) (fun j u hj=>by rw[List.getElem?_toArray];exact hj)
 case c2=>exact h1c.out
 case c3=>unfold maxLen;omega
 case c4=>omega
 case c5=>simp;omega
 intro v6 w6 own6 gr6 _ hat6;have B2:Bl w ((w.alloc (runBox ⟨xr, .slice ax xr.calls.length nx⟩)).alloc (runBox ⟨xr, .slice ax xr.calls.length nx⟩)):=bl_alloc (bl_alloc (bl_refl _) _) _;obtain⟨a6,k6,rfl⟩:=slice_of_own own6;have hb6:=(gr6.block g (by simp;omega) (fun e=>hne e.symm)).trans (blk_bl HB.out B2);have HB6:=Lib.hid hb6;have fz6:w6.frozen? ⟨g,0,none⟩=false:=Lib.frozen_of_heap hb6 0;have hlt6:=lt_of_block hb6;have c6:w6.cell? ⟨g,0,none⟩=some v:=blk_cell hb6 0 _ rfl;have O6:=Lib.hid own6;have hne6:Hid ((Value.slice a6 (xs.length+1) k6).ownBlock≠some g):=Lib.hid fun e=>by have:=(World.ownsRow.lt own6 _ e).1;omega
 have B6:Hid (Below g w w6):=(B2.mono (by omega)).grown gr6 (by have:=B2.size;omega) (fun q hq=>by have:=(HR.out.lt _ hq).1;omega);have hcalls: ∀ y:RunV,w.ownsRow (g+1) 68 5 y.v y.r.calls.length (y.r.calls.flatMap callCells)→(w6.setCell ⟨g,0,none⟩ (.slice a6 (xs.length+1) k6)).ownsRow (g+1) 68 5 y.v y.r.calls.length (y.r.calls.flatMap callCells):=fun y hy=>by
  have k1:=own_kept (own_bl hy B2) gr6 (fun b hb e=>own_apart (by decide) hy HR.out.row hb e);exact own_kept k1 (gr_set g w6 0 _) (fun b hb e=>by have:=(World.ownsRow.lt hy b hb).1;simp only[Option.some.injEq]at e;omega)
 have HC:=Lib.hid hcalls;have hadd:Added g v.ownBlock (Value.slice a6 (xs.length+1) k6).ownBlock w (w6.setCell ⟨g,0,none⟩ (.slice a6 (xs.length+1) k6)):=⟨hat6.imp id fun h=>⟨_,h,by omega⟩,fun b hb hbg hbo=>by
  refine(Below.heap_setCell _ _ _ _ (by simpa using hbg)).trans ((gr6.block b (by simp;omega) (fun e=>hbo e.symm)).trans (B2.block b hb))⟩
 have HAdd:=Lib.hid hadd;have hlI:(xs.length:Int)≤1024:=by omega
 clear hadd own6 gr6 hat6 hb6 hcalls;go_wp2_with fail;go_ret;refine⟨?_,_,⟨_,by have:=blk_set HB6.out 0 (.slice a6 (xs.length+1) k6);simpa using this,⟨?_, ?_⟩,rfl⟩,HAdd.out, ?_⟩
 · exact ret_bool (decide_eq_decide.2 (by omega))
 ·
  rw[List.length_append,List.length_singleton,List.flatMap_append];exact O6.out.kept (gr_set g w6 0 _) (.inr hne6.out)
 ·
  intro y hy;rcases List.mem_append.1 hy with hy|hy
  · exact HC.out y (HR.out.calls y hy)
  ·
   rw[List.mem_singleton.1 hy];exact HC.out _ HX.out
 · exact B6.out.setCell (Nat.le_refl g) _
end Go.Proofs.YtncbcmiflffakaaGreat
