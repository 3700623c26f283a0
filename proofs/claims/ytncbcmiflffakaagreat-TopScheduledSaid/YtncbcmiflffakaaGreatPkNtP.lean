/-
  What the laws of top need of TopNtP, TopBe. Conditions: those of each lemma.
-/
import Derived.Test.YtncbcmiflffakaaGreatPkPlB
import Derived.Test.YtncbcmiflffakaaGreatPkFpE
import Derived.Test.YtncbcmiflffakaaGreatPkRnI
set_option maxRecDepth 1000000
set_option maxHeartbeats 32000000
namespace Go.Proofs.YtncbcmiflffakaaGreat
open Go.RowKit
open Frq Thr Tt
theorem length_flat_le {α β:Type} {f:α→List β} {l:List α} {a:α} (h:a∈l):(f a).length≤(l.flatMap f).length:=by
 induction l with
 |nil=>simp at h
 |cons y l ih=>
  rw[List.flatMap_cons,List.length_append];rcases List.mem_cons.1 h with rfl|h
  · omega
  · have:=ih h;omega
theorem mem_expandP {t:TtD} {k:Nat} {day:Int} {r:RunD} (h:r∈expandP t k day): ∃ x i cs,t.trips[k]? =some x∧i<(expandP t k day).length∧cs.length≤x.calls.length∧r=runOf x k day i cs:=by
 cases hx:t.trips[k]? with
 |none=>unfold expandP at h;rw[hx]at h;simp at h
 |some x=>
  have he:expandP t k day=if activeT t x.cal day then
    if repS (t.freqs.map freqOf) k then(Fq.fold (Fq.allS (t.freqs.map freqOf) k)).mapIdx fun i s=>runOf x k day i (callsS x.calls s).1
    else[runOf x k day 0 x.calls]
   else[]:=by unfold expandP;rw[hx]
  obtain⟨i,hi,hr⟩:=List.mem_iff_getElem.1 h;rw[he]at h;split at h
  ·
   rename_i h1;split at h
   ·
    rename_i h2;rw[if_pos h1,if_pos h2]at he;have hi':=hi;simp only[he]at hr hi';rw[List.getElem_mapIdx]at hr;exact⟨x,i,_,rfl,hi,callsS_len _ _,hr.symm⟩
   ·
    rename_i h2;obtain rfl:=List.mem_singleton.1 h;exact⟨x,0,x.calls,rfl,by omega,Nat.le_refl _,rfl⟩
  · simp at h
theorem mem_allRuns {t:TtD} {frm:Int} {n:Nat} {r:RunD} (h:r∈allRuns t frm n): ∃ (d k i:Nat) (x:TripX) (cs:List CallD),d<n∧k<t.trips.length∧t.trips[k]? =some x∧i<(allRuns t frm n).length∧cs.length≤x.calls.length∧r=runOf x k (frm+d) i cs:=by
 have hA:allRuns t frm n=(List.range n).flatMap fun d:Nat=>dayRuns t (frm+d) t.trips.length:=rfl
 have h':=h;rw[hA]at h';obtain⟨d,hd,h1⟩:=List.mem_flatMap.1 h';have hD:dayRuns t (frm+d) t.trips.length=(List.range t.trips.length).flatMap fun k=>expandP t k (frm+d):=rfl
 have h1':=h1;rw[hD]at h1';obtain⟨k,hk,h2⟩:=List.mem_flatMap.1 h1';obtain⟨x,i,cs,hx,hi,hc,hr⟩:=mem_expandP h2;refine⟨d,k,i,x,cs,List.mem_range.1 hd,List.mem_range.1 hk,hx, ?_,hc,hr⟩;have e1:=length_flat_le (f:=fun d:Nat=>dayRuns t (frm+d) t.trips.length) hd;have e2:=length_flat_le (f:=fun k=>expandP t k (frm+d)) hk;rw[hA];rw[←hD]at e2;omega
theorem allRuns_ok {t:TtD} (hs:SoundT t) {frm:Int} {n:Nat} (h0:0≤frm) (h1:frm+n≤100000) (hl:(allRuns t frm n).length≤1024): ∀ r∈allRuns t frm n,keyOkR r∧r.calls.length≤32:=by
 intro r hr;obtain⟨d,k,i,x,cs,hd,hk,hx,hi,hc,rfl⟩:=mem_allRuns hr;have hT:=hs.lens.2.2.2.1;have hX:=(hs.trip hx).len.2;refine⟨⟨?_, ?_, ?_⟩, ?_⟩
 · simp only[runOf,isInt];omega
 · simp only[runOf,isInt];omega
 · simp only[runOf,isInt];omega
 · simp only[runOf,List.length_map];omega
def zeroN:NetD:=⟨[],[],[],[],[],⟨[],0,0,0⟩⟩
def BuildR (t:TtD) (frm til:Int) (e:Int) (n:NetD):Prop:=
 ((daysR t frm til).2≠0∧e=(daysR t frm til).2∧n=zeroN)∨
 ((daysR t frm til).2=0∧(linksP t (daysR t frm til).1).2≠0∧e=(linksP t (daysR t frm til).1).2∧n=zeroN)∨
 ((daysR t frm til).2=0∧(linksP t (daysR t frm til).1).2=0∧e=0∧
  ∃ A F,DistM false t.paths t.stops.length A∧DistM true t.paths t.stops.length F∧
   n=⟨t.stops,t.routes,(daysR t frm til).1,(linksP t (daysR t frm til).1).1,srt (cloL A F t.stops.length t.stops.length),t.fares⟩)
theorem BuildR.unique {t:TtD} {frm til e e':Int} {n n':NetD} (h:BuildR t frm til e n) (h':BuildR t frm til e' n'):e=e'∧n=n':=by
 rcases h with⟨a,b,c⟩|⟨a,b,c,d⟩|⟨a,b,c,A,F,hA,hF,d⟩<;>rcases h' with⟨a',b',c'⟩|⟨a',b',c',d'⟩|⟨a',b',c',A',F',hA',hF',d'⟩
 all_goals first
  |exact absurd a a'
  |exact absurd a' a
  |exact absurd b b'
  |exact absurd b' b
  |exact⟨b.trans b'.symm,c.trans c'.symm⟩
  |exact⟨c.trans c'.symm,d.trans d'.symm⟩
  |(rw[hA.unique hA',hF.unique hF']at d;exact⟨c.trans c'.symm,d.trans d'.symm⟩)
end Go.Proofs.YtncbcmiflffakaaGreat
namespace Go.Proofs.YtncbcmiflffakaaGreat
open Go.RowKit
open Frq Thr Tt
theorem chk_zero {α:Type} {err:List α→α→Int}: ∀ (rest pre:List α),(∀ (k:Nat) (x:α),rest[k]? =some x→err (pre++rest.take k) x=0)→(chk err pre rest).2=0
 |[],_,_=>rfl
 |g::rest,pre,h=>by
  unfold chk;rw[if_pos (by have:=h 0 g rfl;simpa using this)];exact chk_zero rest (pre++[g]) fun k x hx=>by
   have:=h (k+1) x hx;rw[List.take_succ_cons]at this;rw[List.append_assoc];exact this
abbrev KApart (l:List RunD):Prop:=l.Pairwise fun a b=>keyOfR a≠keyOfR b
theorem expandP_key {t:TtD} {k:Nat} {day:Int}:(∀ r∈expandP t k day,r.trip=k∧r.day=day∧k<t.trips.length)∧KApart (expandP t k day):=by
 cases hx:t.trips[k]? with
 |none=>
  have he:expandP t k day=[]:=by unfold expandP;rw[hx]
  rw[he];exact⟨by simp,List.Pairwise.nil⟩
 |some x=>
  have hk:=(List.getElem?_eq_some_iff.1 hx).1;have he:expandP t k day=if activeT t x.cal day then
    if repS (t.freqs.map freqOf) k then(Fq.fold (Fq.allS (t.freqs.map freqOf) k)).mapIdx fun i s=>runOf x k day i (callsS x.calls s).1
    else[runOf x k day 0 x.calls]
   else[]:=by unfold expandP;rw[hx]
  rw[he];split
  ·
   split
   ·
    constructor
    ·
     intro r hr;obtain⟨i,hi,rfl⟩:=List.mem_iff_getElem.1 hr;rw[List.getElem_mapIdx];exact⟨rfl,rfl,hk⟩
    ·
     rw[KApart,List.pairwise_iff_getElem];intro i j hi hj hij;rw[List.getElem_mapIdx,List.getElem_mapIdx];intro e;have:=congrArg (fun q:Int×Int×Int=>q.2.2) e;simp only[keyOfR,runOf]at this;omega
   ·
    constructor
    ·
     intro r hr;rw[List.mem_singleton.1 hr];exact⟨rfl,rfl,hk⟩
    · exact List.pairwise_singleton _ _
  · exact⟨by simp,List.Pairwise.nil⟩
theorem allRuns_apart (t:TtD) (frm:Int) (n:Nat):KApart (allRuns t frm n):=by
 have hA:allRuns t frm n=(List.range n).flatMap fun d:Nat=>(List.range t.trips.length).flatMap fun k=>expandP t k (frm+d):=rfl
 rw[hA,KApart,List.pairwise_flatMap];refine⟨fun d _=>?_,List.Pairwise.imp (fun{d d'} (hd:d<d') x hx y hy e=>?_) List.pairwise_lt_range⟩
 ·
  rw[List.pairwise_flatMap];refine⟨fun k _=>expandP_key.2,List.Pairwise.imp (fun{k k'} (hk:k<k') x hx y hy e=>?_) List.pairwise_lt_range⟩;have h1:=(expandP_key.1 x hx).1;have h2:=(expandP_key.1 y hy).1;have:=congrArg (fun q:Int×Int×Int=>q.1) e;simp only[keyOfR]at this;omega
 ·
  obtain⟨k,-,hx⟩:=List.mem_flatMap.1 hx;obtain⟨k',-,hy⟩:=List.mem_flatMap.1 hy;have h1:=(expandP_key.1 x hx).2.1;have h2:=(expandP_key.1 y hy).2.1;have:=congrArg (fun q:Int×Int×Int=>q.2.1) e;simp only[keyOfR]at this;omega
theorem allRuns_op {t:TtD} {frm:Int} {n:Nat} (h0:0≤frm) (h1:frm+n≤36525) {r:RunD} (h:r∈allRuns t frm n):operatesP t r=true:=by
 have hA:allRuns t frm n=(List.range n).flatMap fun d:Nat=>(List.range t.trips.length).flatMap fun k=>expandP t k (frm+d):=rfl
 rw[hA]at h;obtain⟨d,hd,h⟩:=List.mem_flatMap.1 h;obtain⟨k,hk,h⟩:=List.mem_flatMap.1 h;have hd:=List.mem_range.1 hd;have hk:=List.mem_range.1 hk;obtain⟨e1,e2,-⟩:=expandP_key.1 r h;have hD:dayB r.day=true:=by
  unfold dayB;rw[e2];simp
  omega
 unfold operatesP;rw[hD,e1,Int.toNat_natCast,e2];have:(expandP t k (frm+d)).any (fun x=>decide (x=r))=true:=List.any_eq_true.2 ⟨r,h,by simp⟩;rw[this];simp
 omega
theorem index_zero {t:TtD} {frm:Int} {n:Nat} (h0:0≤frm) (h1:frm+n≤36525):(chk (indexErr t) [] (allRuns t frm n)).2=0:=by
 refine chk_zero _ _ fun k r hr=>?_
 rw[List.nil_append];unfold indexErr;rw[allRuns_op h0 h1 (List.mem_of_getElem? hr)];have hno:((allRuns t frm n).take k).any (keyB (keyOfR r))=false:=by
  rw[List.any_eq_false];intro x hx hk;obtain⟨i,hi⟩:=List.getElem?_of_mem hx;have hil:i<((allRuns t frm n).take k).length:=(List.getElem?_eq_some_iff.1 hi).1;rw[List.length_take]at hil;rw[List.getElem?_take_of_lt (by omega)]at hi;obtain⟨h1,e1⟩:=List.getElem?_eq_some_iff.1 hi;obtain⟨h2,e2⟩:=List.getElem?_eq_some_iff.1 hr;have:=List.pairwise_iff_getElem.1 (allRuns_apart t frm n) i k h1 h2 (by omega);rw[e1,e2]at this;unfold keyB keyOfR at hk;simp only[Bool.and_eq_true,beq_iff_eq]at hk;exact this (by unfold keyOfR;rw[hk.1,hk.2.1,hk.2.2])
 rw[hno];simp
theorem build_err {t:TtD} {frm til:Int} (h0:0≤frm) (h1:frm≤til) (h2:til≤36524) {e:Int} {n:NetD} (h:BuildR t frm til e n):e=0∨e=5:=by
 have hd:(daysR t frm til).2=0∨(daysR t frm til).2=5:=by
  unfold daysR;split
  · exact .inr rfl
  · exact .inl rfl
 have hl:(daysR t frm til).2=0→(linksP t (daysR t frm til).1).2=0∨(linksP t (daysR t frm til).1).2=5:=by
  intro hz;have hr:(daysR t frm til).1=allRuns t frm (til-frm+1).toNat:=by
   unfold daysR at hz ⊢;split
   · rename_i q;rw[if_pos q]at hz;cases hz
   · rfl
  rw[hr];unfold linksP;rw[index_zero h0 (by omega)];split
  · exact .inr rfl
  ·
   rw[if_neg (fun q=>q rfl)];split
   · exact .inr rfl
   · exact .inl rfl
 rcases h with⟨a,b,-⟩|⟨a,b,c,-⟩|⟨-,-,c,-⟩
 · rw[b];exact hd
 · rw[c];exact hl a
 · exact .inl c
end Go.Proofs.YtncbcmiflffakaaGreat
