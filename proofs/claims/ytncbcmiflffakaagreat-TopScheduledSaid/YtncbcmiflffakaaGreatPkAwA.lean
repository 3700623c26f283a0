/-
  What the laws of top need of TopBok, TopDel, TopAwP. Conditions: those of each lemma.
-/
import Derived.Test.YtncbcmiflffakaaGreatPkEqC
import Derived.Test.YtncbcmiflffakaaGreatPkIbA
import Derived.Test.YtncbcmiflffakaaGreatPkCkC
set_option maxRecDepth 1000000
set_option maxHeartbeats 32000000
namespace Go.Proofs.YtncbcmiflffakaaGreat
open Go.RowKit
open Frq Thr Tt
theorem addL_mem {l:List PathD} {a b n:Int} {f:Bool} {x:PathD} (h:x∈addL l a b n f):x∈l∨(x.frm=a∧x.to=b):=by
 unfold addL at h;split at h
 ·
  rcases List.mem_append.1 h with h|h
  · exact .inl h
  ·
   rw[List.mem_singleton.1 h];exact .inr ⟨rfl,rfl⟩
 · exact .inl h
theorem stepC_mem {A F:List (List Int)} {a b:Nat} {l:List PathD} {x:PathD} (h:x∈stepC A F a l b):x∈l∨(x.frm=a∧x.to=b):=by
 unfold stepC at h;split at h
 · exact .inl h
 ·
  split at h
  · exact addL_mem h
  ·
   rcases addL_mem h with h|h
   · exact addL_mem h
   · exact .inr h
theorem rowC_mem {A F:List (List Int)} {a:Nat} {l:List PathD} {x:PathD}: ∀ k,x∈rowC A F a l k→x∈l∨(x.frm=a∧ ∃ b:Nat,b<k∧x.to=b)
 |0,h=> .inl h
 |k+1,h=>by
  rw[rowC_succ]at h;rcases stepC_mem h with h|h
  ·
   rcases rowC_mem k h with h|⟨h,b,hb,e⟩
   · exact .inl h
   · exact .inr ⟨h,b,by omega,e⟩
  · exact .inr ⟨h.1,k,by omega,h.2⟩
theorem cloL_mem {A F:List (List Int)} {n:Nat} {x:PathD}: ∀ k,x∈cloL A F n k→ ∃ a b:Nat,a<k∧b<n∧x.frm=a∧x.to=b
 |0,h=>by simp[cloL]at h
 |k+1,h=>by
  rw[cloL_succ]at h;rcases rowC_mem n h with h|⟨h,b,hb,e⟩
  ·
   obtain⟨a,b,h1,h2,h3,h4⟩:=cloL_mem k h;exact⟨a,b,by omega,h2,h3,h4⟩
  · exact⟨k,b,by omega,hb,h,e⟩
theorem srt_mem {l:List PathD} {x:PathD} (h:x∈srt l):x∈l:=by
 have hp:=(Go.Sort.pdq_sorts (ltOf footCmp) swo_foot l.toArray 0 l.toArray.size (Lib.bitLen l.toArray.size) true true (Nat.zero_le _) (Nat.le_refl _) (Or.inl rfl)).1;have h':x∈(Go.Sort.pdq (ltOf footCmp) l.toArray 0 l.toArray.size (Lib.bitLen l.toArray.size) true true).toList:=h;generalize Go.Sort.pdq (ltOf footCmp) l.toArray 0 l.toArray.size (Lib.bitLen l.toArray.size) true true=D at hp h'
 obtain⟨e1,-,e3⟩:=hp;rw[show D.extract 0 l.toArray.size=D by rw[←e1];simp,show l.toArray.extract 0 l.toArray.size=l.toArray by simp]at e3;exact e3.mem_iff.1 h'
theorem bok_of {t:TtD} (hs:SoundT t) (ok:TtOk t) (sm:SmallT t) {frm til:Int} (h0:0≤frm) (h1:frm≤til) (h2:til≤36524) {n:NetD} (h:BuildR t frm til 0 n):NetOk n∧SmallN n:=by
 have key: ∃ A F,(daysR t frm til).2=0∧(linksP t (daysR t frm til).1).2=0∧n=⟨t.stops,t.routes,(daysR t frm til).1,(linksP t (daysR t frm til).1).1,srt (cloL A F t.stops.length t.stops.length),t.fares⟩:=by
  rcases h with⟨a,b,-⟩|⟨-,a,b,-⟩|⟨a,b,-,A,F,-,-,d⟩
  · exact absurd b.symm a
  · exact absurd b.symm a
  · exact⟨A,F,a,b,d⟩
 obtain⟨A,F,e1,e2,rfl⟩:=key;obtain⟨hA,hAl⟩:=daysR_ok e1;have hok:=allRuns_ok hs h0 (by omega) hAl;have hlk:=linksP_few e2;have hst:=sm.stops;have hpl:(srt (cloL A F t.stops.length t.stops.length)).length≤50:=by
  rw[srt_len];have:=cloL_len A F t.stops.length t.stops.length;have:2*t.stops.length*t.stops.length≤2*5*5:=Nat.mul_le_mul (Nat.mul_le_mul (Nat.le_refl _) hst) hst;omega
 have hrt:=sm.routes;have hpr:=sm.prods;have hsm:SmallN ⟨t.stops,t.routes,(daysR t frm til).1,(linksP t (daysR t frm til).1).1,srt (cloL A F t.stops.length t.stops.length),t.fares⟩:=by
  refine⟨?_, ?_, ?_,hlk, ?_, ?_,fun r hr=>?_⟩
  · show t.stops.length≤64;omega
  · show t.routes.length≤64;omega
  · show(daysR t frm til).1.length≤1024;rw[hA];exact hAl
  · show(srt _).length≤4096;omega
  · show t.fares.prods.length≤64;omega
  ·
   change r∈(daysR t frm til).1 at hr;rw[hA]at hr;exact(hok r hr).2
 refine⟨⟨hsm.few,hsm.stops,hsm.paths,fun r hr=>?_,fun x hx=>?_,ok.stops,ok.routes,ok.prods⟩,hsm⟩
 ·
  change r∈(daysR t frm til).1 at hr;rw[hA]at hr;obtain⟨d,k,i,x,cs,-,-,hx,-,-,rfl⟩:=mem_allRuns hr;exact⟨ok.trips x (List.mem_of_getElem? hx),(hok _ hr).1.2.1,(hok _ hr).1.2.2⟩
 ·
  obtain⟨a,b,ha,hb,e3,e4⟩:=cloL_mem _ (srt_mem hx);rw[e3,e4];simp only[isInt];omega
end Go.Proofs.YtncbcmiflffakaaGreat
namespace Go.Proofs.YtncbcmiflffakaaGreat
open Go.RowKit
open Frq Thr Tt
def t0:TtD:=⟨[⟨[65],0,false,0⟩,⟨[66],0,false,0⟩],[⟨[82],0,false⟩],[⟨[68],⟨true,true,true,true,true,true,true⟩,0,100⟩],[],
 [⟨[116],0,0,false,[⟨0,3600,3600,true,false⟩,⟨1,4000,4000,false,true⟩]⟩],[],[],[],[],⟨[],0,0,0⟩⟩
def calls0:List CallD:=[⟨0,3600,3600,true,false⟩,⟨1,4000,4000,false,true⟩]
theorem slIn_blk {α:Type} {cells:α→List Value} {sz:Nat} (hsz: ∀ x,(cells x).length=sz) (xs:List α) {w:World} {g n:Nat} {C:Array Value} {T:TypeId} (h:w.heap[g]? =some (.cells C T (0,0))) (hC:C.toList=xs.flatMap cells) (hn:xs.length=n) (hl:(xs.flatMap cells).length=n*sz) (hm:n≤maxLen):SlIn cells sz w.heap.size w (.slice (some ⟨g,0,none⟩) n n) xs:=by
 subst hn;refine slIn_own (base:=0) (e:=T) hsz ⟨hl, .inr ⟨g,xs.length,C,rfl,Nat.zero_le _,h,Nat.le_refl _,hm, ?_, ?_⟩⟩
 · rw[←hl,←hC,Array.length_toList]
 · rw[hC,List.take_of_length_le (by rw[hl];exact Nat.le_refl _)]
theorem delayed_c (w:World):
  Calls Tryz.prog 16 #[] w fun e w'=> ∃ V ts,e= .returned (ttV V t0)∧TtRd w'.heap.size w' V ts t0∧Bl w w':=by
 have W0:=Lib.hid (And.intro (heap_alloc_new w (.cells #[.slice none 0 0, .slice none 0 0, .slice none 0 0, .slice none 0 0, .slice none 0 0, .slice none 0 0, .slice none 0 0, .slice none 0 0, .slice none 0 0, .slice none 0 0, .int .i64 0, .int .i64 0, .int .i64 0] 35)) (bl_alloc (bl_refl w) (.cells #[.slice none 0 0, .slice none 0 0, .slice none 0 0, .slice none 0 0, .slice none 0 0, .slice none 0 0, .slice none 0 0, .slice none 0 0, .slice none 0 0, .slice none 0 0, .int .i64 0, .int .i64 0, .int .i64 0] 35)));go_enter Tryz.func16,Tryz.ntmps16
 go_upto_region 1 with fail
 change Code.wp _ _ _ _ (w.alloc (.cells #[.slice none 0 0, .slice none 0 0, .slice none 0 0, .slice none 0 0, .slice none 0 0, .slice none 0 0, .slice none 0 0, .slice none 0 0, .slice none 0 0, .slice none 0 0, .int .i64 0, .int .i64 0, .int .i64 0] 35));obtain⟨h1,hb⟩:=W0.out;generalize w.alloc (.cells #[.slice none 0 0, .slice none 0 0, .slice none 0 0, .slice none 0 0, .slice none 0 0, .slice none 0 0, .slice none 0 0, .slice none 0 0, .slice none 0 0, .slice none 0 0, .int .i64 0, .int .i64 0, .int .i64 0] 35)=w1 at h1 hb ⊢
 have HW:=Lib.hid (And.intro h1 hb);clear h1 hb W0;obtain⟨wa,hwa⟩: ∃ x,w1.alloc (.cells #[.string ⟨#[65]⟩, .int .i64 0, .bool false, .int .i64 0, .string ⟨#[66]⟩, .int .i64 0, .bool false, .int .i64 0] 91)=x:=⟨_,rfl⟩;have sa:wa.heap.size=w1.heap.size+1:=by rw[←hwa];simp
 have ba:Bl w1 wa:=by rw[←hwa];exact bl_alloc (bl_refl _) _
 have na:wa.heap[w1.heap.size]? =some (.cells #[.string ⟨#[65]⟩, .int .i64 0, .bool false, .int .i64 0, .string ⟨#[66]⟩, .int .i64 0, .bool false, .int .i64 0] 91 (0,0)):=by rw[←hwa];exact heap_alloc_new w1 _
 obtain⟨wb,hwb⟩: ∃ x,wa.alloc (.cells #[.string ⟨#[82]⟩, .int .i64 0, .bool false] 93)=x:=⟨_,rfl⟩;have sb:wb.heap.size=wa.heap.size+1:=by rw[←hwb];simp
 have bb:Bl wa wb:=by rw[←hwb];exact bl_alloc (bl_refl _) _
 have nb:wb.heap[wa.heap.size]? =some (.cells #[.string ⟨#[82]⟩, .int .i64 0, .bool false] 93 (0,0)):=by rw[←hwb];exact heap_alloc_new wa _
 obtain⟨wc,hwc⟩: ∃ x,wb.alloc (.cells #[.string ⟨#[68]⟩, .bool true, .bool true, .bool true, .bool true, .bool true, .bool true, .bool true, .int .i64 0, .int .i64 100] 114)=x:=⟨_,rfl⟩;have sc:wc.heap.size=wb.heap.size+1:=by rw[←hwc];simp
 have bc:Bl wb wc:=by rw[←hwc];exact bl_alloc (bl_refl _) _
 have nc:wc.heap[wb.heap.size]? =some (.cells #[.string ⟨#[68]⟩, .bool true, .bool true, .bool true, .bool true, .bool true, .bool true, .bool true, .int .i64 0, .int .i64 100] 114 (0,0)):=by rw[←hwc];exact heap_alloc_new wb _
 obtain⟨wd,hwd⟩: ∃ x,wc.alloc (.cells #[.int .i64 0, .int .i64 3600, .int .i64 3600, .bool true, .bool false, .int .i64 1, .int .i64 4000, .int .i64 4000, .bool false, .bool true] 68)=x:=⟨_,rfl⟩;have sd:wd.heap.size=wc.heap.size+1:=by rw[←hwd];simp
 have bd:Bl wc wd:=by rw[←hwd];exact bl_alloc (bl_refl _) _
 have nd:wd.heap[wc.heap.size]? =some (.cells #[.int .i64 0, .int .i64 3600, .int .i64 3600, .bool true, .bool false, .int .i64 1, .int .i64 4000, .int .i64 4000, .bool false, .bool true] 68 (0,0)):=by rw[←hwd];exact heap_alloc_new wc _
 obtain⟨we,hwe⟩: ∃ x,wd.alloc (.cells #[.string ⟨#[116]⟩, .int .i64 0, .int .i64 0, .bool false, .slice (some ⟨w1.heap.size+1+1+1,0,none⟩) 2 2] 63)=x:=⟨_,rfl⟩;have se:we.heap.size=wd.heap.size+1:=by rw[←hwe];simp
 have be:Bl wd we:=by rw[←hwe];exact bl_alloc (bl_refl _) _
 have ne:we.heap[wd.heap.size]? =some (.cells #[.string ⟨#[116]⟩, .int .i64 0, .int .i64 0, .bool false, .slice (some ⟨w1.heap.size+1+1+1,0,none⟩) 2 2] 63 (0,0)):=by rw[←hwe];exact heap_alloc_new wd _
 have hl:=lt_of_block HW.out.1;have he:=blk_bl HW.out.1 (bl_next ba (bl_next bb (bl_next bc (bl_next bd be))));have z0:we.cell? ⟨w.heap.size,0,none⟩=some (.slice none 0 0):=blk_cell he 0 _ rfl;have g0:we.frozen? ⟨w.heap.size,0,none⟩=false:=Lib.frozen_of_heap he 0;have z1:we.cell? ⟨w.heap.size,1,none⟩=some (.slice none 0 0):=blk_cell he 1 _ rfl;have g1:we.frozen? ⟨w.heap.size,1,none⟩=false:=Lib.frozen_of_heap he 1;have z2:we.cell? ⟨w.heap.size,2,none⟩=some (.slice none 0 0):=blk_cell he 2 _ rfl;have g2:we.frozen? ⟨w.heap.size,2,none⟩=false:=Lib.frozen_of_heap he 2;have z3:we.cell? ⟨w.heap.size,3,none⟩=some (.slice none 0 0):=blk_cell he 3 _ rfl;have g3:we.frozen? ⟨w.heap.size,3,none⟩=false:=Lib.frozen_of_heap he 3;have z4:we.cell? ⟨w.heap.size,4,none⟩=some (.slice none 0 0):=blk_cell he 4 _ rfl;have g4:we.frozen? ⟨w.heap.size,4,none⟩=false:=Lib.frozen_of_heap he 4;have z5:we.cell? ⟨w.heap.size,5,none⟩=some (.slice none 0 0):=blk_cell he 5 _ rfl;have g5:we.frozen? ⟨w.heap.size,5,none⟩=false:=Lib.frozen_of_heap he 5;have z6:we.cell? ⟨w.heap.size,6,none⟩=some (.slice none 0 0):=blk_cell he 6 _ rfl;have g6:we.frozen? ⟨w.heap.size,6,none⟩=false:=Lib.frozen_of_heap he 6;have z7:we.cell? ⟨w.heap.size,7,none⟩=some (.slice none 0 0):=blk_cell he 7 _ rfl;have g7:we.frozen? ⟨w.heap.size,7,none⟩=false:=Lib.frozen_of_heap he 7;have z8:we.cell? ⟨w.heap.size,8,none⟩=some (.slice none 0 0):=blk_cell he 8 _ rfl;have g8:we.frozen? ⟨w.heap.size,8,none⟩=false:=Lib.frozen_of_heap he 8;have z9:we.cell? ⟨w.heap.size,9,none⟩=some (.slice none 0 0):=blk_cell he 9 _ rfl;have g9:we.frozen? ⟨w.heap.size,9,none⟩=false:=Lib.frozen_of_heap he 9;have z10:we.cell? ⟨w.heap.size,10,none⟩=some (.int .i64 0):=blk_cell he 10 _ rfl;have g10:we.frozen? ⟨w.heap.size,10,none⟩=false:=Lib.frozen_of_heap he 10;have z11:we.cell? ⟨w.heap.size,11,none⟩=some (.int .i64 0):=blk_cell he 11 _ rfl;have g11:we.frozen? ⟨w.heap.size,11,none⟩=false:=Lib.frozen_of_heap he 11;have z12:we.cell? ⟨w.heap.size,12,none⟩=some (.int .i64 0):=blk_cell he 12 _ rfl;have g12:we.frozen? ⟨w.heap.size,12,none⟩=false:=Lib.frozen_of_heap he 12;have HS:=Lib.hid (And.intro (blk_bl na (bl_next bb (bl_next bc (bl_next bd be)))) (And.intro (blk_bl nb (bl_next bc (bl_next bd be))) (And.intro (blk_bl nc (bl_next bd be)) (And.intro (blk_bl nd be) ne))));have HB:=Lib.hid (bl_next HW.out.2 (bl_next ba (bl_next bb (bl_next bc (bl_next bd be)))));have HE:=Lib.hid he;have HZ:=Lib.hid (And.intro sa (And.intro sb (And.intro sc (And.intro sd se))));clear na nb nc nd ne ba bb bc bd be he;go_wp2_with fail;obtain⟨P13,G13⟩:=put13 HE.out (.slice (some ⟨w1.heap.size,0,none⟩) 2 2) (.slice (some ⟨w1.heap.size+1,0,none⟩) 1 1) (.slice (some ⟨w1.heap.size+1+1,0,none⟩) 1 1) (.slice none 0 0) (.slice (some ⟨w1.heap.size+1+1+1+1,0,none⟩) 1 1) (.slice none 0 0) (.slice none 0 0) (.slice none 0 0) (.slice none 0 0) (.slice none 0 0) (.int .i64 0) (.int .i64 0) (.int .i64 0);generalize ((((((((((((we.setCell ⟨w.heap.size,0,none⟩ (.slice (some ⟨w1.heap.size,0,none⟩) 2 2)).setCell ⟨w.heap.size,1,none⟩ (.slice (some ⟨w1.heap.size+1,0,none⟩) 1 1)).setCell ⟨w.heap.size,2,none⟩ (.slice (some ⟨w1.heap.size+1+1,0,none⟩) 1 1)).setCell ⟨w.heap.size,3,none⟩ (.slice none 0 0)).setCell ⟨w.heap.size,4,none⟩ (.slice (some ⟨w1.heap.size+1+1+1+1,0,none⟩) 1 1)).setCell ⟨w.heap.size,5,none⟩ (.slice none 0 0)).setCell ⟨w.heap.size,6,none⟩ (.slice none 0 0)).setCell ⟨w.heap.size,7,none⟩ (.slice none 0 0)).setCell ⟨w.heap.size,8,none⟩ (.slice none 0 0)).setCell ⟨w.heap.size,9,none⟩ (.slice none 0 0)).setCell ⟨w.heap.size,10,none⟩ (.int .i64 0)).setCell ⟨w.heap.size,11,none⟩ (.int .i64 0)).setCell ⟨w.heap.size,12,none⟩ (.int .i64 0)=W at P13 G13 ⊢
 obtain⟨n0,n1,n2,n3,n4⟩:=HS.out;obtain⟨sa,sb,sc,sd,se⟩:=HZ.out;have key: ∀ {k:Nat} {o:Obj},we.heap[k]? =some o→w.heap.size≠k→W.heap[k]? =some o:=fun{k o} ho hk=>(G13.block k (lt_of_block ho) (fun e=>hk (Option.some.inj e).symm)).trans ho
 replace n0:=key n0 (by omega)
 replace n1:=key n1 (by omega)
 replace n2:=key n2 (by omega)
 replace n3:=key n3 (by omega)
 replace n4:=key n4 (by omega)
 rw[sa]at n1;rw[sb,sa]at n2;rw[sc,sb,sa]at n3;rw[sd,sc,sb,sa]at n4;have i3:=slIn_blk callCells_len calls0 n3 rfl (n:=2) rfl rfl (by unfold maxLen;omega);refine bodyPost_ret (results_cell_row rfl _ _ w.heap.size 35 _ (0,0) _ rfl P13 Tryz.underlying35 rfl (by kernel_rfl)) rfl ?_;refine⟨⟨.slice (some ⟨w1.heap.size,0,none⟩) 2 2, .slice (some ⟨w1.heap.size+1,0,none⟩) 1 1, .slice (some ⟨w1.heap.size+1+1,0,none⟩) 1 1, .slice none 0 0, .slice (some ⟨w1.heap.size+1+1+1+1,0,none⟩) 1 1, .slice none 0 0, .slice none 0 0, .slice none 0 0, .slice none 0 0, .slice none 0 0⟩,[⟨⟨#[116]⟩,0,0,false, .slice (some ⟨w1.heap.size+1+1+1,0,none⟩) 2 2,calls0⟩],rfl, ?_,HB.out.grown G13 HB.out.size (fun q hq=>by have:=Option.some.inj hq;omega)⟩;exact⟨slIn_blk stopCells_len t0.stops n0 rfl rfl rfl (by unfold maxLen;omega),slIn_blk routeCells_len t0.routes n1 rfl rfl rfl (by unfold maxLen;omega),slIn_blk calCells_len t0.cals n2 rfl rfl rfl (by unfold maxLen;omega),slIn_nil,
  ⟨slIn_blk tripCells_len [⟨⟨#[116]⟩,0,0,false, .slice (some ⟨w1.heap.size+1+1+1,0,none⟩) 2 2,calls0⟩] n4 rfl rfl rfl (by unfold maxLen;omega),fun x hx=>by
   rw[List.mem_singleton.1 hx];exact⟨i3,fun c hc=>by
    simp only[calls0,List.mem_cons,List.not_mem_nil,or_false]at hc;rcases hc with rfl|rfl<;>(unfold okT isInt;simp)⟩⟩,rfl,slIn_nil,slIn_nil,slIn_nil,slIn_nil,slIn_nil⟩
end Go.Proofs.YtncbcmiflffakaaGreat
namespace Go.Proofs.YtncbcmiflffakaaGreat
open Go.RowKit
open Frq Thr Tt Dj
theorem t0_chk:ttChk t0=(0,0,0):=by decide+kernel
theorem t0_small:SmallT t0:=⟨by decide,by decide,by decide,by decide,by decide,by decide,by decide,by decide,by decide,by decide,by decide⟩
theorem t0_ok:TtOk t0:=⟨by decide,by decide,by decide,by decide,by decide,by simp[t0],by simp[t0],by simp[t0],by simp[t0]⟩
theorem t0_sound:SoundT t0:=sound_of (by rw[t0_chk])
def n0:NetD:=⟨t0.stops,t0.routes,[⟨0,1,0,[116],0,false,false,[⟨0,90000,90000,true,false⟩,⟨1,90400,90400,false,true⟩]⟩],[],[],⟨[],0,0,0⟩⟩
theorem t0_days:daysR t0 1 1=(n0.runs,0):=by decide+kernel
theorem t0_links:linksP t0 n0.runs=([],0):=by decide+kernel
theorem walk_none {E:List EdgeD} (hE: ∀ e,e∉E) {s v d:Int} (h:Walk E s v d):d=0:=by
 induction h with
 |nil=>rfl
 |snoc _ he _ _=>exact absurd he (hE _)
theorem dist_none {f:Bool} {s t d:Int} (h:DistP f [] s t d):d≤0:=by
 obtain⟨E,hE,hd⟩:=h;have hn: ∀ e,e∉E:=fun e he=>by
  have:=(hE e).1 he;simp[bestP]at this
 rcases hd with⟨hw,-⟩|⟨rfl,-⟩
 ·
  rw[walk_none hn hw];exact Int.le_refl _
 · omega
theorem get2_none {f:Bool} {n a b:Nat} {M:List (List Int)} (h:DistM f [] n M):get2 M a b≤0:=by
 unfold get2;cases hr:M[a]? with
 |none=>exact Int.le_refl _
 |some r=>
  show(r[b]?).getD 0≤0
  cases hx:r[b]? with
  |none=>exact Int.le_refl _
  |some x=>exact dist_none ((h.2 a r hr).2 b x hx)
theorem addL_none {l:List PathD} {a b n:Int} {f:Bool} (h:n≤0):addL l a b n f=l:=by
 unfold addL;rw[if_neg (by omega)]
theorem clo_none {n:Nat} {A F:List (List Int)} (hA:DistM false [] n A) (hF:DistM true [] n F): ∀ k,cloL A F n k=[]
 |0=>rfl
 |k+1=>by
  rw[cloL_succ,clo_none hA hF k];have: ∀ j,rowC A F k [] j=[]:=by
   intro j;induction j with
   |zero=>rfl
   |succ j ih=>
    rw[rowC_succ,ih];unfold stepC;split
    · rfl
    ·
     split
     · exact addL_none (get2_none hA)
     · rw[addL_none (get2_none hA),addL_none (get2_none hF)]
  exact this n
theorem build0 {er:Int} {n:NetD} (h:BuildR t0 1 1 er n):er=0∧n=n0:=by
 rcases h with⟨a,-⟩|⟨-,a,-⟩|⟨-,-,e,A,F,hA,hF,d⟩
 · rw[t0_days]at a;exact absurd rfl a
 · rw[t0_days]at a;rw[t0_links]at a;exact absurd rfl a
 ·
  refine⟨e, ?_⟩;rw[d,t0_days,t0_links,clo_none hA hF];have:srt []=[]:=List.eq_nil_of_length_eq_zero (srt_len []);rw[this];rfl
def m0:MsgD:={ src:=0,seq:=1,iss:=0,exp:=200000,kind:=1,trip:=[116],day:=1,inst:=0,call:=0,secs:=60,route:=0,step:=false,calls:=[] }
theorem m0_recv:(recvP (box0 1 300) m0 0).2=0:=by decide+kernel
theorem m0_active:activeP (recvP (box0 1 300) m0 0).1 0=[m0]:=by decide+kernel
def r1:RunD:=⟨0,1,0,[116],0,false,false,[⟨0,90060,90060,true,false⟩,⟨1,90460,90460,false,true⟩]⟩
theorem n0_late:allP 0 n0 [m0]={ n0 with runs:=[r1] }:=by decide+kernel
theorem srt_nil:srt []=[]:=List.eq_nil_of_length_eq_zero (srt_len [])
theorem n0_net {er:Int} (h:NetR n0 er):er=0:=by
 obtain⟨pe,h1,rfl⟩:=h;have hp:partsOk n0:=by unfold partsOk;decide+kernel
 have hc:(chk (pathErr n0.stops.length) [] n0.paths).2=0:=by decide+kernel
 have h0:pe=0:=by
  rcases h1 hp with⟨a,-⟩|⟨-,b,hb,e⟩
  · exact absurd hc a
  ·
   rcases hb with⟨a,-⟩|⟨-,A,F,hA,hF,d⟩
   · exact absurd hc a
   ·
    have hC:cloL A F n0.stops.length n0.stops.length=[]:=clo_none hA hF _;rw[hC,srt_nil]at d;have hb:b=true:=by rw[d];rfl
    rw[e,hb];rfl
 rw[h0];decide+kernel
end Go.Proofs.YtncbcmiflffakaaGreat
