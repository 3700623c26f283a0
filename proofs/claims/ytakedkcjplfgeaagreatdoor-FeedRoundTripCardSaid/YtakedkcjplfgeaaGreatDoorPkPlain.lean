/-
  PkPlain: what the law of feed needs of FrqPlain, ThrPlain, ThrPlain2, NumPlain, NumPlain2, NumPlain3, ClkPlain, DatPlain, DatPlain2, DatText, ClkDur, TtPlain, FldPlain, FldPlain2, FldPlain3, FldPlain4, FldPlain5, FedPlain, FedPlain2, FedPlain3, FedScan, FedLines, FedEnd, FedDur, FedMode, FedBack, FedBack2, FedBack3, FedBack4, FedIgn, FedModT. Conditions: those of each lemma.
-/
import GoSem.Op.String
import Derived.Lib.IndexMore
import Derived.Lib.SplitLaws
set_option maxRecDepth 1000000
set_option maxHeartbeats 32000000
namespace Go.Proofs.YtakedkcjplfgeaaGreatDoor.Frq
structure FreqD where
 trip:Int
 frm:Int
 to:Int
 every:Int
structure CallD where
 stop:Int
 arrive:Int
 depart:Int
 board:Bool
 alight:Bool
 deriving DecidableEq
def sound (f:FreqD):Prop:=0≤f.frm∧f.frm<f.to∧f.to≤172800∧1≤f.every∧f.every≤86400
instance (f:FreqD):Decidable (sound f):=by unfold sound;infer_instance
def soundB (f:FreqD):Bool:=decide (sound f)
theorem sound_cases (f:FreqD):(sound f∧soundB f=true)∨
  ((f.frm<0∨(0≤f.frm∧f.to≤f.frm)∨(0≤f.frm∧f.frm<f.to∧172800<f.to)∨(0≤f.frm∧f.frm<f.to∧f.to≤172800∧f.every<1)∨(0≤f.frm∧f.frm<f.to∧f.to≤172800∧1≤f.every∧86400<f.every))∧soundB f=false):=by
 unfold soundB;by_cases h:sound f
 · exact .inl ⟨h,decide_eq_true h⟩
 ·
  refine .inr ⟨?_,decide_eq_false h⟩;unfold sound at h;omega
def cnt (f:FreqD):Int:=(f.to-f.frm-1) / f.every+1
theorem cnt_eq (f:FreqD) (h:sound f):(f.to-f.frm+f.every-1) / f.every=cnt f:=by
 obtain⟨h1,h2,h3,h4,h5⟩:=h;unfold cnt;rw[show f.to-f.frm+f.every-1=(f.to-f.frm-1)+1*f.every by omega,Int.add_mul_ediv_right _ _ (by omega)]
theorem cnt_bd (f:FreqD) (h:sound f):1≤cnt f∧cnt f≤172800:=by
 obtain⟨h1,h2,h3,h4,h5⟩:=h;unfold cnt;have a:=Int.ediv_nonneg (a:=f.to-f.frm-1) (b:=f.every) (by omega) (by omega);have b:=Int.ediv_le_self (a:=f.to-f.frm-1) f.every (by omega);omega
theorem cnt_lt (f:FreqD) (h:sound f) (k:Nat):f.frm+k*f.every<f.to↔(k:Int)<cnt f:=by
 obtain⟨h1,h2,h3,h4,h5⟩:=h;unfold cnt;have key:(k:Int)≤(f.to-f.frm-1) / f.every↔(k:Int)*f.every≤f.to-f.frm-1:=Int.le_ediv_iff_mul_le (by omega);omega
def near (t first start:Int):Bool:=decide (0≤t-first+start)&&decide (t-first+start≤172800)
def shiftC (first start:Int) (c:CallD):CallD:={ c with arrive:=c.arrive-first+start,depart:=c.depart-first+start }
def okC (first start:Int) (c:CallD):Bool:=near c.arrive first start&&near c.depart first start
def callsS (cs:List CallD) (start:Int):List CallD×Int:=
 match cs with
 |[]=>([],16)
 |c::_=>if cs.all (okC c.depart start)then(cs.map (shiftC c.depart start),0)else([],10)
theorem callsS_nil (start:Int):callsS [] start=([],16):=rfl
theorem callsS_yes {cs:List CallD} {x0:CallD} {start:Int} (h0:cs[0]? =some x0) (h:cs.all (okC x0.depart start)=true):callsS cs start=(cs.map (shiftC x0.depart start),0):=by
 cases cs with
 |nil=>simp at h0
 |cons c t=>
  simp only[List.getElem?_cons_zero,Option.some.injEq]at h0;subst h0;simp only[callsS];rw[if_pos h]
theorem callsS_no {cs:List CallD} {x0 x:CallD} {start:Int} (h0:cs[0]? =some x0) (hx:x∈cs) (h:okC x0.depart start x=false):callsS cs start=([],10):=by
 cases cs with
 |nil=>simp at h0
 |cons c t=>
  simp only[List.getElem?_cons_zero,Option.some.injEq]at h0;subst h0;simp only[callsS];rw[if_neg];intro k;rw[List.all_eq_true]at k;rw[k x hx]at h;simp at h
end Go.Proofs.YtakedkcjplfgeaaGreatDoor.Frq
namespace Go.Proofs.YtakedkcjplfgeaaGreatDoor.Thr
structure ThrD where
 frm:Int
 to:Int
def nextS (l:List ThrD) (t:Int):Option ThrD:=l.find? fun x=>x.frm==t
def nextN (l:List ThrD) (t:Int):Int:=match nextS l t with
 |some x=>x.to
 |none=>0
def nextB (l:List ThrD) (t:Int):Bool:=(nextS l t).isSome
theorem next_none {l:List ThrD} {t:Int} (h:nextS l t=none):nextN l t=0∧nextB l t=false:=by unfold nextN nextB;rw[h];exact⟨rfl,rfl⟩
theorem next_some {l:List ThrD} {t:Int} {x:ThrD} (h:nextS l t=some x):nextN l t=x.to∧nextB l t=true:=by unfold nextN nextB;rw[h];exact⟨rfl,rfl⟩
def lastI (out:List Int):Int:=out.getLastD 0
theorem lastI_at {out:List Int} {k:Nat} (h:out.length=k+1):out[k]? =some (lastI out):=by
 unfold lastI;cases out with
 |nil=>simp at h
 |cons x r=>
  have:k=(x::r).length-1:=by omega
  rw[this,←List.getLast?_eq_getElem?];rfl
def stepC (l:List ThrD) (out:List Int):Option Int:=match nextS l (lastI out)with
 |none=>none
 |some x=>if out.contains x.to then none else some x.to
theorem stepC_none {l:List ThrD} {out:List Int} (h:nextS l (lastI out)=none):stepC l out=none:=by unfold stepC;rw[h]
theorem stepC_used {l:List ThrD} {out:List Int} {x:ThrD} (h:nextS l (lastI out)=some x) (hc:out.contains x.to=true):stepC l out=none:=by unfold stepC;rw[h];simp only[hc,if_true]
theorem stepC_go {l:List ThrD} {out:List Int} {x:ThrD} (h:nextS l (lastI out)=some x) (hc:out.contains x.to=false):stepC l out=some x.to:=by unfold stepC;rw[h];simp only[hc];rfl
def chainN (l:List ThrD):Nat→List Int→List Int
 |0,out=>out
 |f+1,out=>match stepC l out with
  |none=>out
  |some n=>chainN l f (out++[n])
def chainS (l:List ThrD) (trip:Int):List Int:=chainN l l.length [trip]
theorem chainN_stop {l:List ThrD} {out:List Int} (h:stepC l out=none): ∀ f,chainN l f out=out
 |0=>rfl
 |f+1=>by simp only[chainN,h]
theorem chainN_go {l:List ThrD} {out:List Int} {n:Int} {f:Nat} (h:stepC l out=some n):chainN l (f+1) out=chainN l f (out++[n]):=by simp only[chainN,h]
theorem stepC_mem {l:List ThrD} {out:List Int} {n:Int} (h:stepC l out=some n):n∉out∧ ∃ x,nextS l (lastI out)=some x∧x.to=n∧x∈l:=by
 unfold stepC at h;split at h
 · cases h
 ·
  rename_i x hx;split at h
  · cases h
  ·
   rename_i hc;cases h
   exact⟨fun hm=>hc (by simpa using hm),x,hx,rfl,List.mem_of_find?_eq_some hx⟩
theorem nodup_le {a:List Int}: ∀ {b:List Int},a.Nodup→(∀ x∈a,x∈b)→a.length≤b.length:=by
 induction a with
 |nil=>intro b _ _;exact Nat.zero_le _
 |cons y a ih=>
  intro b hn hs;have hy:y∈b:=hs y (List.mem_cons_self ..);have h1:=ih (b:=b.erase y) (List.nodup_cons.1 hn).2 fun x hx=>by
   have hxy:x≠y:=fun e=>(List.nodup_cons.1 hn).1 (e ▸ hx)
   exact(List.mem_erase_of_ne hxy).2 (hs x (List.mem_cons_of_mem _ hx))
  rw[List.length_erase_of_mem hy]at h1;have:=List.length_pos_of_mem hy;rw[List.length_cons];omega
structure Making (l:List ThrD) (trip:Int) (out:List Int):Prop where
 head:out[0]? =some trip
 nodup:out.Nodup
 rest: ∀ n∈out.tail,n∈l.map ThrD.to
 link: ∀ (j:Nat) (a b:Int),out[j]? =some a→out[j+1]? =some b→ ∃ x,nextS l a=some x∧x.to=b
theorem making_one (l:List ThrD) (trip:Int):Making l trip [trip] where
 head:=rfl
 nodup:=by simp
 rest:=by simp
 link:=by intro j a b _ h;simp at h
theorem Making.pos {l:List ThrD} {trip:Int} {out:List Int} (h:Making l trip out):0<out.length:=(List.getElem?_eq_some_iff.1 h.head).1
theorem Making.step {l:List ThrD} {trip:Int} {out:List Int} (h:Making l trip out) {n:Int} (hs:stepC l out=some n):Making l trip (out++[n]):=by
 obtain⟨hno,x,hx,hxt,hxl⟩:=stepC_mem hs;have hp:=h.pos;obtain⟨m,hm⟩: ∃ m,out.length=m+1:=⟨out.length-1,by omega⟩;refine⟨?_, ?_, ?_, ?_⟩
 · rw[List.getElem?_append_left hp];exact h.head
 ·
  rw[List.nodup_append];exact⟨h.nodup,by simp,fun a ha b hb e=>hno (by rw[List.mem_singleton]at hb;rw[←hb,←e];exact ha)⟩
 ·
  intro y hy;rw[List.tail_append_of_ne_nil (by intro e;rw[e]at hp;simp at hp)]at hy;rcases List.mem_append.1 hy with hy|hy
  · exact h.rest y hy
  ·
   rw[List.mem_singleton]at hy;rw[hy,←hxt];exact List.mem_map_of_mem hxl
 ·
  intro j a b ha hb;by_cases hj:j+1<out.length
  ·
   rw[List.getElem?_append_left (by omega)]at ha;rw[List.getElem?_append_left hj]at hb;exact h.link j a b ha hb
  ·
   have hjl:j+1<(out++[n]).length:=(List.getElem?_eq_some_iff.1 hb).1;rw[List.length_append,List.length_singleton]at hjl;have hjm:j=m:=by omega
   subst hjm;rw[List.getElem?_append_left (by omega),lastI_at hm]at ha;rw[List.getElem?_append_right (by omega),hm,Nat.sub_self]at hb;simp at ha hb
   subst ha hb;exact⟨x,hx,hxt⟩
theorem Making.len {l:List ThrD} {trip:Int} {out:List Int} (h:Making l trip out):out.length≤l.length+1:=by
 have h1:=nodup_le (a:=out.tail) (b:=l.map ThrD.to) (h.nodup.sublist (List.tail_sublist _)) h.rest;rw[List.length_tail,List.length_map]at h1;omega
theorem Making.full {l:List ThrD} {trip:Int} {out:List Int} (h:Making l trip out) (hl:out.length=l.length+1):stepC l out=none:=by
 cases hs:stepC l out with
 |none=>rfl
 |some n=>
  have:=(h.step hs).len;rw[List.length_append,List.length_singleton]at this;omega
theorem making_chain {l:List ThrD} {trip:Int}: ∀ (f:Nat) (out:List Int),Making l trip out→Making l trip (chainN l f out)
 |0,out,h=>h
 |f+1,out,h=>by
  cases hs:stepC l out with
  |none=>rw[chainN_stop hs];exact h
  |some n=>rw[chainN_go hs];exact making_chain f _ (h.step hs)
theorem chainS_making (l:List ThrD) (trip:Int):Making l trip (chainS l trip):=making_chain _ _ (making_one l trip)
end Go.Proofs.YtakedkcjplfgeaaGreatDoor.Thr
namespace Go.Proofs.YtakedkcjplfgeaaGreatDoor.Thr
open Frq
def findI {α:Type} (p:Nat→α→Bool) (l:List α):Option Nat:=(List.range l.length).find? fun i=>match l[i]? with
 |some c=>p i c
 |none=>false
theorem findI_some {α:Type} {p:Nat→α→Bool} {l:List α} {k:Nat} {c:α} (h0: ∀ i x,i<k→l[i]? =some x→p i x=false) (hk:l[k]? =some c) (hp:p k c=true):findI p l=some k:=by
 unfold findI;rw[List.find?_range_eq_some];have hl:k<l.length:=(List.getElem?_eq_some_iff.1 hk).1;refine⟨?_,by simpa using hl,fun j hj=>?_⟩
 · rw[hk];exact hp
 ·
  obtain⟨x,hx⟩: ∃ x,l[j]? =some x:=⟨_,List.getElem?_eq_getElem (by omega)⟩;simp only[hx,h0 j x hj hx,Bool.not_false]
theorem findI_none {α:Type} {p:Nat→α→Bool} {l:List α} (h0: ∀ i x,l[i]? =some x→p i x=false):findI p l=none:=by
 unfold findI;rw[List.find?_eq_none];intro i hi;rw[List.mem_range]at hi;obtain⟨x,hx⟩: ∃ x,l[i]? =some x:=⟨_,List.getElem?_eq_getElem hi⟩;simp only[hx,h0 i x hx];decide
theorem findI_of {α:Type} {p:Nat→α→Bool} {l:List α} {k:Nat} (h:findI p l=some k): ∃ c,l[k]? =some c∧p k c=true∧ ∀ i x,i<k→l[i]? =some x→p i x=false:=by
 unfold findI at h;rw[List.find?_range_eq_some]at h;obtain⟨h1,h2,h3⟩:=h;split at h1
 ·
  rename_i c hc;refine⟨c,hc,h1,fun i x hi hx=>?_⟩;have:=h3 i hi;simp only[hx]at this;simpa using this
 · cases h1
def alightP (stop:Int) (i:Nat) (c:CallD):Bool:=decide (0<i)&&((c.stop==stop)&&c.alight)
def boardP (n:Nat) (stop:Int) (i:Nat) (c:CallD):Bool:=decide (i+1<n)&&((c.stop==stop)&&c.board)
def alightS (l:List CallD) (stop:Int):Option Nat:=findI (alightP stop) l
def boardS (l:List CallD) (stop:Int):Option Nat:=findI (boardP l.length stop) l
def optI (o:Option Nat):Int:=match o with
 |some k=>k
 |none=> -1
def meetsS (a b:List CallD) (stop:Int):Int×Int×Bool:=
 match alightS a stop,boardS b stop with
 |some i,some k=>match a[i]?,b[k]? with
  |some x,some y=>if y.depart<x.arrive then(0,0,false)else(i,k,true)
  |_,_=>(0,0,false)
 |_,_=>(0,0,false)
theorem meetsS_a {a b:List CallD} {stop:Int} (h:alightS a stop=none):meetsS a b stop=(0,0,false):=by unfold meetsS;rw[h]
theorem meetsS_b {a b:List CallD} {stop:Int} (h:boardS b stop=none):meetsS a b stop=(0,0,false):=by unfold meetsS;rw[h];cases alightS a stop<;>rfl
theorem meetsS_no {a b:List CallD} {stop:Int} {i k:Nat} {x y:CallD} (h1:alightS a stop=some i) (h2:boardS b stop=some k) (hx:a[i]? =some x) (hy:b[k]? =some y) (h:y.depart<x.arrive):meetsS a b stop=(0,0,false):=by
 unfold meetsS;rw[h1,h2];simp only[hx,hy];rw[if_pos h]
theorem meetsS_yes {a b:List CallD} {stop:Int} {i k:Nat} {x y:CallD} (h1:alightS a stop=some i) (h2:boardS b stop=some k) (hx:a[i]? =some x) (hy:b[k]? =some y) (h:x.arrive≤y.depart):meetsS a b stop=((i:Int),(k:Int),true):=by
 unfold meetsS;rw[h1,h2];simp only[hx,hy];rw[if_neg (by omega)]
def chk {α:Type} (err:List α→α→Int) (pre:List α):List α→Int×Int
 |[]=>(0,0)
 |x::rest=>if err pre x=0 then chk err (pre++[x]) rest else(pre.length,err pre x)
def checkS {α:Type} (most:Nat) (err:List α→α→Int) (l:List α):Int×Int:=if most<l.length then(0,5)else chk err [] l
section
variable {α:Type} {err:List α→α→Int}
theorem take_snoc' {l:List α} {k:Nat} {x:α} (h:l[k]? =some x):l.take (k+1)=l.take k++[x]:=by
 obtain⟨hk,rfl⟩:=List.getElem?_eq_some_iff.1 h;rw[List.take_succ_eq_append_getElem hk]
theorem chk_end {l:List α} {k:Nat} (h:l.length≤k):chk err (l.take k) (l.drop k)=(0,0):=by
 rw[List.drop_of_length_le h];rfl
theorem chk_bad {l:List α} {k:Nat} {x:α} {e:Int} (hx:l[k]? =some x) (he:err (l.take k) x=e) (hne:e≠0):chk err (l.take k) (l.drop k)=((k:Int),e):=by
 obtain⟨hk,rfl⟩:=List.getElem?_eq_some_iff.1 hx;rw[List.drop_eq_getElem_cons hk];show(if _ then _ else _)=_
 rw[he,if_neg hne,List.length_take,Nat.min_eq_left (by omega)]
theorem chk_good {l:List α} {k:Nat} {x:α} (hx:l[k]? =some x) (he:err (l.take k) x=0):chk err (l.take k) (l.drop k)=chk err (l.take (k+1)) (l.drop (k+1)):=by
 obtain⟨hk,rfl⟩:=List.getElem?_eq_some_iff.1 hx;rw[List.drop_eq_getElem_cons hk];show(if _ then _ else _)=_
 rw[he,if_pos rfl,take_snoc' hx]
theorem chk_ok: ∀ (rest pre:List α),(chk err pre rest).2=0→ ∀ (k:Nat) (x:α),rest[k]? =some x→err (pre++rest.take k) x=0
 |[],_,_,k,f,hk=>by simp at hk
 |g::rest,pre,h,k,f,hk=>by
  unfold chk at h;split at h
  ·
   rename_i h0;cases k with
   |zero=>
    simp only[List.getElem?_cons_zero,Option.some.injEq]at hk;subst hk;rw[List.take_zero,List.append_nil];exact h0
   |succ k=>
    rw[List.getElem?_cons_succ]at hk;have:=chk_ok rest (pre++[g]) h k f hk;rw[List.append_assoc]at this;exact this
  ·
   rename_i h0;exact absurd h h0
theorem check_ok {most:Nat} {l:List α} (h:(checkS most err l).2=0):l.length≤most∧ ∀ {k:Nat} {x:α},l[k]? =some x→err (l.take k) x=0:=by
 unfold checkS at h;split at h
 · simp at h
 ·
  rename_i hl;refine⟨by omega,fun{k x} hk=>?_⟩;have:=chk_ok l [] h k x hk;rw[List.nil_append]at this;exact this
end
structure TrpD where
 cal:Int
 calls:List CallD
structure GuaD where
 frm:Int
 to:Int
 stop:Int
 deriving DecidableEq
def inB (n lim:Int):Bool:=decide (0≤n)&&decide (n<lim)
def followS (a b:TrpD):Int:=
 if a.cal≠b.cal then 15 else
 match a.calls.getLast?,b.calls.head? with
 |some x,some y=>if x.stop≠y.stop then 13 else if y.depart<x.arrive then 10 else 0
 |_,_=>13
def repS (fs:List FreqD) (t:Int):Bool:=fs.any fun f=>f.trip==t
def pairB (n:Nat) (frm to:Int):Bool:=inB frm n&&(inB to n&& !(frm==to))
def atT (ts:List TrpD) (i:Int):TrpD:=(ts[i.toNat]?).getD ⟨0,[]⟩
def thrErr (ts:List TrpD) (fs:List FreqD) (pre:List ThrD) (x:ThrD):Int:=
 if pairB ts.length x.frm x.to=false then 9 else
 if(repS fs x.frm||repS fs x.to)=true then 17 else
 if followS (atT ts x.frm) (atT ts x.to)≠0 then followS (atT ts x.frm) (atT ts x.to)else
 if(pre.any fun y=>y.frm==x.frm||y.to==x.to)=true then 6 else
 if(chainS pre x.to).contains x.frm=true then 19 else 0
def guaErr (ts:List TrpD) (fs:List FreqD) (stops:Int) (pre:List GuaD) (x:GuaD):Int:=
 if pairB ts.length x.frm x.to=false then 9 else
 if inB x.stop stops=false then 9 else
 if(repS fs x.frm||repS fs x.to)=true then 17 else
 if(meetsS (atT ts x.frm).calls (atT ts x.to).calls x.stop).2.2=false then 19 else
 if pre.contains x=true then 6 else 0
theorem thrErr_zero {ts:List TrpD} {fs:List FreqD} {pre:List ThrD} {x:ThrD} (h:thrErr ts fs pre x=0):
  pairB ts.length x.frm x.to=true∧followS (atT ts x.frm) (atT ts x.to)=0∧(pre.any fun y=>y.frm==x.frm||y.to==x.to)=false∧(chainS pre x.to).contains x.frm=false:=by
 unfold thrErr at h;split at h
 · simp at h
 ·
  split at h
  · simp at h
  ·
   split at h
   · rename_i hf;exact absurd h hf
   ·
    split at h
    · simp at h
    ·
     split at h
     · simp at h
     ·
      rename_i h1 _ h3 h4 h5;refine⟨by simpa using h1,by simpa using h3,by simpa using h4,by simpa using h5⟩
theorem pairB_in {n:Nat} {a b:Int} (h:pairB n a b=true):(0≤a∧a<n)∧(0≤b∧b<n):=by
 unfold pairB inB at h;simp only[Bool.and_eq_true,decide_eq_true_eq]at h;exact⟨h.1,h.2.1⟩
end Go.Proofs.YtakedkcjplfgeaaGreatDoor.Thr
namespace Go.Proofs.YtakedkcjplfgeaaGreatDoor.Num
def decDigits (u:Nat):List UInt8:=
 if h:u<10 then[UInt8.ofNat (48+u)]else decDigits (u / 10)++[UInt8.ofNat (48+u%10)]
termination_by u
decreasing_by omega
def itoa (n:Int):List UInt8:=if n<0 then 45::decDigits n.natAbs else decDigits n.toNat
def isDig (c:UInt8):Bool:=decide (48≤c.toNat)&&decide (c.toNat≤57)
def allDig (l:List UInt8):Bool:=l.all isDig
def canon (l:List UInt8):Bool:=allDig l&& !l.isEmpty&&(l.head? != some 48||l.length==1)
def val (l:List UInt8):Nat:=l.foldl (fun m c=>10*m+(c.toNat-48)) 0
def big:Nat:=9223372036854775807
theorem val_nil:val []=0:=rfl
theorem val_snoc (l:List UInt8) (c:UInt8):val (l++[c])=10*val l+(c.toNat-48):=by
 simp[val,List.foldl_append]
theorem isDig_iff (c:UInt8):isDig c=true↔48≤c.toNat∧c.toNat≤57:=by simp[isDig]
theorem allDig_snoc (l:List UInt8) (c:UInt8):allDig (l++[c])=(allDig l&&isDig c):=by simp[allDig]
theorem canon_one (c:UInt8):canon [c]=isDig c:=by simp[canon,allDig]
theorem snoc_cases (l:List UInt8):l=[]∨ ∃ k c,l=k++[c]:=by
 by_cases h:l=[]
 · exact .inl h
 · exact .inr ⟨l.dropLast,l.getLast h,(List.dropLast_concat_getLast h).symm⟩
theorem canon_snoc {l:List UInt8} {c:UInt8} (h:canon (l++[c])=true):isDig c=true∧(l=[]∨(canon l=true∧l≠[48])):=by
 cases l with
 |nil=>exact⟨by simpa[canon_one]using h, .inl rfl⟩
 |cons a t=>
  simp[canon,allDig]at h
  obtain⟨⟨ha,ht,hc⟩,hh⟩:=h;refine⟨hc, .inr ⟨?_, ?_⟩⟩
  ·
   simp[canon,allDig,ha,hh]
   exact ht
  ·
   intro e;cases e
   exact hh rfl
theorem val_pos {l:List UInt8} (h:canon l=true) (h0:l≠[48]):0<val l:=by
 generalize hn:l.length=n
 induction n using Nat.strongRecOn generalizing l with
 |_ n ih=>
  rcases snoc_cases l with rfl|⟨k,c,rfl⟩
  · simp[canon]at h
  ·
   obtain⟨hc,hk⟩:=canon_snoc h;rw[val_snoc];rw[isDig_iff]at hc;rcases hk with rfl|⟨hk,hk0⟩
   ·
    have:c.toNat≠48:=by
     intro e;apply h0
     have:c=48:=UInt8.toNat.inj (by simpa using e);subst this;rfl
    omega
   ·
    have:=ih k.length (by rw[←hn];simp) hk hk0 rfl;omega
theorem decDigits_small {u:Nat} (h:u<10):decDigits u=[UInt8.ofNat (48+u)]:=by rw[decDigits,dif_pos h]
theorem decDigits_big {u:Nat} (h: ¬ u<10):decDigits u=decDigits (u / 10)++[UInt8.ofNat (48+u%10)]:=by rw[decDigits,dif_neg h]
theorem toNat_digit (d:Nat) (h:d<10):(UInt8.ofNat (48+d)).toNat=48+d:=by
 simp
 omega
theorem decDigits_ne (u:Nat):decDigits u≠[]:=by
 by_cases h:u<10
 · rw[decDigits_small h];simp
 · rw[decDigits_big h];simp
def parse (l:List UInt8):Int×Int:=
 if l.head?=some 45 then
  if canon l.tail=true∧l.tail≠[48]then(if val l.tail≤big+1 then(-(val l.tail:Int),0)else(0,2))else(0,3)
 else if canon l=true then(if val l≤big then((val l:Int),0)else(0,2))else(0,3)
theorem val_append (a b:List UInt8):val a*10 ^ b.length≤val (a++b):=by
 generalize hn:b.length=n
 induction n generalizing b with
 |zero=>
  obtain rfl:b=[]:=List.length_eq_zero_iff.1 hn;simp
 |succ n ih=>
  rcases snoc_cases b with rfl|⟨k,c,rfl⟩
  · simp at hn
  ·
   have:=ih k (by simp at hn;omega);rw[←List.append_assoc,val_snoc,Nat.pow_succ];have e:val a*(10 ^ n*10)=10*(val a*10 ^ n):=by
    rw[←Nat.mul_assoc,Nat.mul_comm]
   omega
theorem val_take_le (l:List UInt8) (k:Nat):val (l.take k)≤val l:=by
 have h:=val_append (l.take k) (l.drop k);rw[List.take_append_drop]at h;exact Nat.le_trans (Nat.le_mul_of_pos_right _ (Nat.pow_pos (by decide))) h
end Go.Proofs.YtakedkcjplfgeaaGreatDoor.Num
namespace Go.Proofs.YtakedkcjplfgeaaGreatDoor.Num
theorem length_decDigits (u:Nat):(decDigits u).length≤u / 10+1:=by
 induction u using Nat.strongRecOn with
 |_ u ih=>
  by_cases h:u<10
  · rw[decDigits_small h];simp
  ·
   rw[decDigits_big h];have:=ih (u / 10) (by omega);simp only[List.length_append,List.length_cons,List.length_nil];omega
theorem length_lt_pow (k u:Nat) (h:u<10 ^ (k+1)):(decDigits u).length≤k+1:=by
 induction k generalizing u with
 |zero=>rw[decDigits_small (by simpa using h)];simp
 |succ k ih=>
  by_cases hs:u<10
  · rw[decDigits_small hs];simp
  ·
   rw[decDigits_big hs];have:=ih (u / 10) (by rw[Nat.pow_succ]at h;omega);simp only[List.length_append,List.length_cons,List.length_nil];omega
theorem length_19 (u:Nat) (h:u≤9223372036854775808):(decDigits u).length≤19:=by
 refine length_lt_pow 18 u ?_;have:(10:Nat) ^ (18+1)=10000000000000000000:=by decide
 omega
theorem length_pos (u:Nat):0<(decDigits u).length:=by
 have:=decDigits_ne u;cases h:decDigits u with
 |nil=>exact absurd h this
 |cons a t=>simp
def front (m:Nat):List UInt8:=if 9<m then decDigits (m / 10)else[]
theorem decDigits_front (m:Nat):decDigits m=front m++[UInt8.ofNat (48+m%10)]:=by
 unfold front;by_cases h:9<m
 · rw[if_pos h,decDigits_big (by omega)]
 ·
  rw[if_neg h,decDigits_small (by omega),Nat.mod_eq_of_lt (by omega)];rfl
def some0 (m:Nat):List UInt8:=if 0<m then decDigits m else[]
theorem front_some (m:Nat):front m=some0 (m / 10):=by
 unfold front some0;by_cases h:9<m
 · rw[if_pos h,if_pos (by omega)]
 · rw[if_neg h,if_neg (by omega)]
end Go.Proofs.YtakedkcjplfgeaaGreatDoor.Num
namespace Go.Proofs.YtakedkcjplfgeaaGreatDoor.Num
def priceText (N:Nat):List UInt8:=decDigits (N / 100)++[46,UInt8.ofNat (48+N / 10%10),UInt8.ofNat (48+N%10)]
def fmtPrice (c:Int):List UInt8×Int:=if c<0∨1000000<c then([],2)else(priceText c.toNat,0)
def shaped (l:List UInt8):Prop:= ∃ (a:List UInt8) (x y:UInt8),l=a++[46,x,y]∧canon a=true∧isDig x=true∧isDig y=true
inductive Price:List UInt8→Int→Int→Prop
 |bad {l:List UInt8} (h: ¬ shaped l):Price l 0 3
 |big {a:List UInt8} {x y:UInt8} (ha:canon a=true) (hx:isDig x=true) (hy:isDig y=true) (h:10000<val a∨1000000<100*val a+10*(x.toNat-48)+(y.toNat-48)):Price (a++[46,x,y]) 0 2
 |
  ok {a:List UInt8} {x y:UInt8} (ha:canon a=true) (hx:isDig x=true) (hy:isDig y=true) (hv:val a≤10000) (h:100*val a+10*(x.toNat-48)+(y.toNat-48)≤1000000):
   Price (a++[46,x,y]) (100*val a+10*(x.toNat-48)+(y.toNat-48):Nat) 0
theorem shaped_tail {l:List UInt8} {a:List UInt8} {x y:UInt8} (h:l=a++[46,x,y]):a=l.take (l.length-3):=by
 subst h;simp
theorem canon_49 (l:List UInt8):canon (49::l)=allDig l:=by
 have:isDig 49=true:=by decide
 simp[canon,allDig,this]
end Go.Proofs.YtakedkcjplfgeaaGreatDoor.Num
namespace Go.Proofs.YtakedkcjplfgeaaGreatDoor.Clk
open Num
def two (n:Nat):List UInt8:=[UInt8.ofNat (48+n / 10),UInt8.ofNat (48+n%10)]
def clockText (t:Nat):List UInt8:=two (t / 3600)++58::(two (t / 60%60)++58::two (t%60))
def fmt (t:Int):List UInt8×Int:=if 0≤t∧t≤172800 then(clockText t.toNat,0)else([],10)
def join (h m s:Int):Int×Bool:=if(0≤h∧h≤48)∧(0≤m∧m≤59)∧(0≤s∧s≤59)∧3600*h+60*m+s≤172800 then(3600*h+60*m+s,true)else(0,false)
def pair (a b:UInt8):Int:=10*((a.toNat:Int)-48)+((b.toNat:Int)-48)
inductive Time:List UInt8→Int→Int→Prop
 |bad {l:List UInt8} (h: ¬ ∃ a b c d e f:UInt8,l=[a,b,58,c,d,58,e,f]∧isDig a=true∧isDig b=true∧isDig c=true∧isDig d=true∧isDig e=true∧isDig f=true):Time l 0 3
 |
  out {a b c d e f:UInt8} (ha:isDig a=true) (hb:isDig b=true) (hc:isDig c=true) (hd:isDig d=true) (he:isDig e=true) (hf:isDig f=true) (h:join (pair a b) (pair c d) (pair e f)=(0,false)):
   Time [a,b,58,c,d,58,e,f] 0 10
 |
  ok {a b c d e f:UInt8} (n:Int) (ha:isDig a=true) (hb:isDig b=true) (hc:isDig c=true) (hd:isDig d=true) (he:isDig e=true) (hf:isDig f=true) (h:join (pair a b) (pair c d) (pair e f)=(n,true)):
   Time [a,b,58,c,d,58,e,f] n 0
theorem join_cases (h m s:Int):join h m s=(0,false)∨ ∃ n,join h m s=(n,true):=by
 unfold join;split
 · exact .inr ⟨_,rfl⟩
 · exact .inl rfl
theorem join_yes {h m s n:Int} (k:join h m s=(n,true)):((0≤h∧h≤48)∧(0≤m∧m≤59)∧(0≤s∧s≤59)∧3600*h+60*m+s≤172800)∧n=3600*h+60*m+s:=by
 unfold join at k;split at k
 ·
  rename_i hc;rw[Prod.mk.injEq]at k;exact⟨hc,k.1.symm⟩
 · simp at k
theorem join_no {h m s n:Int} (k:join h m s=(n,false)):n=0∧ ¬ ((0≤h∧h≤48)∧(0≤m∧m≤59)∧(0≤s∧s≤59)∧3600*h+60*m+s≤172800):=by
 unfold join at k;split at k
 · simp at k
 ·
  rename_i hc;rw[Prod.mk.injEq]at k;exact⟨k.1.symm,hc⟩
theorem dig_bd {c:UInt8} (h:isDig c=true):48≤(c.toNat:Int)∧(c.toNat:Int)≤57:=by
 rw[isDig_iff]at h;omega
theorem time_bd {l:List UInt8} {n e:Int} (h:Time l n e):0≤n∧n≤172800∧(e≠0→n=0):=by
 cases h with
 |bad=>exact⟨by omega,by omega,fun _=>rfl⟩
 |out=>exact⟨by omega,by omega,fun _=>rfl⟩
 |ok _ _ _ _ _ _ _ h=>
  obtain⟨h1,rfl⟩:=join_yes h;exact⟨by omega,by omega,fun k=>absurd rfl k⟩
end Go.Proofs.YtakedkcjplfgeaaGreatDoor.Clk
namespace Go.Proofs.YtakedkcjplfgeaaGreatDoor.Dat
open Num Clk
def leapB (y:Int):Bool:=(decide (2000≤y)&&decide (y≤2099))&&decide (y%4=0)
def mlen (y m:Int):Int:=if m=2 then(if y%4=0 then 29 else 28)else if m=4∨m=6∨m=9∨m=11 then 30 else 31
def days (y m:Int):Int×Bool:=if(2000≤y∧y≤2099)∧(1≤m∧m≤12)then(mlen y m,true)else(0,false)
def cum:Nat→Int
 |0=>0
 |i+1=>cum i+mlen (2000+(i:Int) / 12) (1+(i:Int)%12)
def fromCivil (y m d:Int):Int×Bool:=
 if(2000≤y∧y≤2099)∧(1≤m∧m≤12)∧(1≤d∧d≤mlen y m)then(cum (12*(y-2000)+m-1).toNat+d-1,true)else(0,false)
theorem mlen_bd (y m:Int):28≤mlen y m∧mlen y m≤31:=by
 unfold mlen;split
 · split<;>omega
 · split<;>omega
theorem cum_succ (i:Nat):cum (i+1)=cum i+mlen (2000+(i:Int) / 12) (1+(i:Int)%12):=rfl
theorem cum_mono (i k:Nat):cum i+28*(k:Int)≤cum (i+k):=by
 induction k with
 |zero=>simp
 |succ k ih=>
  have:=mlen_bd (2000+((i+k:Nat):Int) / 12) (1+((i+k:Nat):Int)%12);rw[←Nat.add_assoc,cum_succ];omega
theorem cum_le {i j:Nat} (h:i≤j):cum i+28*((j:Int)-(i:Int))≤cum j:=by
 have:=cum_mono i (j-i);rw[show i+(j-i)=j by omega]at this;omega
theorem cum_nonneg (i:Nat):28*(i:Int)≤cum i:=by
 have:=cum_le (Nat.zero_le i);simp[cum]at this
 omega
theorem cum_month (k j:Nat) (h:j<12):cum (12*k+j+1)=cum (12*k+j)+mlen (2000+(k:Int)) (1+(j:Int)):=by
 rw[cum_succ];rw[show((12*k+j:Nat):Int) / 12=k by omega,show((12*k+j:Nat):Int)%12=j by omega]
def cj (lp:Int):Nat→Int
 |0=>0
 |1=>31
 |2=>59+lp
 |3=>90+lp
 |4=>120+lp
 |5=>151+lp
 |6=>181+lp
 |7=>212+lp
 |8=>243+lp
 |9=>273+lp
 |10=>304+lp
 |11=>334+lp
 |_=>365+lp
def lpI (y:Int):Int:=if y%4=0 then 1 else 0
theorem lpI_cases (y:Int):(y%4=0∧lpI y=1)∨(y%4≠0∧lpI y=0):=by
 unfold lpI;by_cases h:y%4=0
 · exact .inl ⟨h,if_pos h⟩
 · exact .inr ⟨h,if_neg h⟩
theorem cj_succ (y:Int) (j:Nat) (h:j<12):cj (lpI y) (j+1)=cj (lpI y) j+mlen y (1+(j:Int)):=by
 have h2:mlen y 2=28+lpI y:=by
  unfold mlen lpI;split<;>split<;>simp_all
 match j,h with
 |0,_=>simp[cj,mlen]
 |1,_=>show 59+lpI y=31+mlen y 2;rw[h2];omega
 |2,_=>show 90+lpI y=59+lpI y+mlen y 3;simp[mlen];omega
 |3,_=>show 120+lpI y=90+lpI y+mlen y 4;simp[mlen];omega
 |4,_=>show 151+lpI y=120+lpI y+mlen y 5;simp[mlen];omega
 |5,_=>show 181+lpI y=151+lpI y+mlen y 6;simp[mlen];omega
 |6,_=>show 212+lpI y=181+lpI y+mlen y 7;simp[mlen];omega
 |7,_=>show 243+lpI y=212+lpI y+mlen y 8;simp[mlen];omega
 |8,_=>show 273+lpI y=243+lpI y+mlen y 9;simp[mlen];omega
 |9,_=>show 304+lpI y=273+lpI y+mlen y 10;simp[mlen];omega
 |10,_=>show 334+lpI y=304+lpI y+mlen y 11;simp[mlen];omega
 |11,_=>show 365+lpI y=334+lpI y+mlen y 12;simp[mlen];omega
theorem cum_year_month (k j:Nat) (h:j≤12):cum (12*k+j)=cum (12*k)+cj (lpI (2000+(k:Int))) j:=by
 induction j with
 |zero=>simp[cj]
 |succ j ih=>
  rw[←Nat.add_assoc,cum_month k j (by omega),ih (by omega),cj_succ _ j (by omega)];omega
theorem cum_year (k:Nat):cum (12*k)=365*(k:Int)+((k:Int)+3) / 4:=by
 induction k with
 |zero=>rfl
 |succ k ih=>
  rw[show 12*(k+1)=12*k+12 by omega,cum_year_month k 12 (Nat.le_refl _),ih];show _+(365+lpI (2000+(k:Int)))=_
  rcases lpI_cases (2000+(k:Int))with⟨h,e⟩|⟨h,e⟩<;>rw[e]<;>omega
theorem cum_at (k j:Nat) (h:j≤12):cum (12*k+j)=365*(k:Int)+((k:Int)+3) / 4+cj (lpI (2000+(k:Int))) j:=by
 rw[cum_year_month k j h,cum_year]
theorem cum_all:cum 1200=36525:=by
 have:=cum_year 100;simpa using this
def monF (d:Int):Nat→Nat→Nat
 |0,i=>i
 |f+1,i=>if d<cum (i+1)then i else monF d f (i+1)
def mon (d:Int):Nat:=monF d 1200 0
theorem monF_spec (d:Int) (f i:Nat) (h0:cum i≤d) (h1:d<cum (i+f)):i≤monF d f i∧monF d f i<i+f∧cum (monF d f i)≤d∧d<cum (monF d f i+1):=by
 induction f generalizing i with
 |zero=>simp at h1;omega
 |succ f ih=>
  unfold monF;by_cases h:d<cum (i+1)
  · rw[if_pos h];exact⟨Nat.le_refl _,by omega,h0,h⟩
  ·
   rw[if_neg h];have:=ih (i+1) (by omega) (by rw[show i+1+f=i+(f+1) by omega];exact h1);omega
theorem mon_spec (d:Int) (h0:0≤d) (h1:d≤36524):mon d<1200∧cum (mon d)≤d∧d<cum (mon d+1):=by
 have:=monF_spec d 1200 0 (by simpa[cum]using h0) (by rw[Nat.zero_add,cum_all];omega);unfold mon;omega
theorem mon_uniq {d:Int} {i j:Nat} (hi:cum i≤d∧d<cum (i+1)) (hj:cum j≤d∧d<cum (j+1)):i=j:=by
 rcases Nat.lt_trichotomy i j with h|h|h
 · have:=cum_le (show i+1≤j by omega);omega
 · exact h
 · have:=cum_le (show j+1≤i by omega);omega
theorem mon_eq {d:Int} {i:Nat} (h:i<1200) (hi:cum i≤d∧d<cum (i+1)):mon d=i:=by
 have h0:=cum_nonneg i;have h1:=cum_le (show i+1≤1200 by omega);rw[cum_all]at h1;have:=mon_spec d (by omega) (by omega);exact mon_uniq ⟨this.2.1,this.2.2⟩ hi
def yearOf (d:Int):Int:=2000+(mon d:Int) / 12
def monthOf (d:Int):Int:=1+(mon d:Int)%12
def dayOf (d:Int):Int:=d-cum (mon d)+1
theorem civil_bd (d:Int) (h0:0≤d) (h1:d≤36524):(2000≤yearOf d∧yearOf d≤2099)∧(1≤monthOf d∧monthOf d≤12)∧(1≤dayOf d∧dayOf d≤mlen (yearOf d) (monthOf d)):=by
 obtain⟨a,b,c⟩:=mon_spec d h0 h1;rw[cum_succ]at c;unfold yearOf monthOf dayOf;omega
theorem fromCivil_yes {y m d n:Int} (h:fromCivil y m d=(n,true)):(2000≤y∧y≤2099)∧(1≤m∧m≤12)∧(1≤d∧d≤mlen y m)∧n=cum (12*(y-2000)+m-1).toNat+d-1:=by
 unfold fromCivil at h;split at h
 ·
  rename_i hc;rw[Prod.mk.injEq]at h;exact⟨hc.1,hc.2.1,hc.2.2,h.1.symm⟩
 · simp at h
theorem civil_from {y m d n:Int} (h:fromCivil y m d=(n,true)):(0≤n∧n≤36524)∧yearOf n=y∧monthOf n=m∧dayOf n=d:=by
 obtain⟨hy,hm,hd,rfl⟩:=fromCivil_yes h;obtain⟨i,hi⟩: ∃ i:Nat,i=(12*(y-2000)+m-1).toNat:=⟨_,rfl⟩;have hi1:(i:Int)=12*(y-2000)+m-1:=by omega
 rw[←hi];have e1:2000+(i:Int) / 12=y:=by omega
 have e2:1+(i:Int)%12=m:=by omega
 have hs:=cum_succ i;rw[e1,e2]at hs;have hme:mon (cum i+d-1)=i:=mon_eq (by omega) ⟨by omega,by omega⟩;have h0:=cum_nonneg i;have h1:=cum_le (show i+1≤1200 by omega);rw[cum_all]at h1;unfold yearOf monthOf dayOf;rw[hme];exact⟨⟨by omega,by omega⟩,e1,e2,by omega⟩
end Go.Proofs.YtakedkcjplfgeaaGreatDoor.Dat
namespace Go.Proofs.YtakedkcjplfgeaaGreatDoor.Dat
open Num Clk
theorem civ_found {d y r:Int} {k:Nat} (hy:2000≤y∧y≤2099) (hd:d=365*(y-2000)+(y-2000+3) / 4+r) (hk:k<12) (h0:cj (lpI y) k≤r) (h1:r<cj (lpI y) k+mlen y (1+(k:Int))):
  yearOf d=y∧monthOf d=(k:Int)+1∧dayOf d=r-cj (lpI y) k+1:=by
 obtain⟨n,rfl⟩: ∃ n:Nat,y=2000+(n:Int):=⟨(y-2000).toNat,by omega⟩;have hc:=cum_at n k (by omega);have hm:=cum_month n k hk;have e:mon d=12*n+k:=mon_eq (by omega) ⟨by omega,by omega⟩;unfold yearOf monthOf dayOf;rw[e];omega
theorem days_at (i:Nat) (h:i<1200):days (2000+(i:Int) / 12) (1+(i:Int)%12)=(mlen (2000+(i:Int) / 12) (1+(i:Int)%12),true):=by
 unfold days;rw[if_pos (by omega)]
theorem cum_bd (i:Nat) (h:i≤1200):0≤cum i∧cum i≤36525:=by
 have h0:=cum_nonneg i;have h1:=cum_le h;rw[cum_all]at h1;omega
theorem from_sum {y m d:Int} (hy:2000≤y∧y≤2099) (hm:1≤m∧m≤12) (k:Nat) (hk:(k:Int)=m-1):
  365*(y-2000)+(y-2000+3) / 4+d-1+cj (lpI y) k=cum (12*(y-2000)+m-1).toNat+d-1:=by
 obtain⟨n,rfl⟩: ∃ n:Nat,y=2000+(n:Int):=⟨(y-2000).toNat,by omega⟩;have hc:=cum_at n k (by omega);rw[show(12*(2000+(n:Int)-2000)+m-1).toNat=12*n+k by omega];omega
theorem cj_bd (y:Int) (k:Nat) (h:k≤12):0≤cj (lpI y) k∧cj (lpI y) k≤366:=by
 have:=lpI_cases y;match k,h with
 |0,_=>simp[cj]
 |1,_=>simp[cj]
 |2,_=>simp[cj];omega
 |3,_=>simp[cj];omega
 |4,_=>simp[cj];omega
 |5,_=>simp[cj];omega
 |6,_=>simp[cj];omega
 |7,_=>simp[cj];omega
 |8,_=>simp[cj];omega
 |9,_=>simp[cj];omega
 |10,_=>simp[cj];omega
 |11,_=>simp[cj];omega
 |12,_=>simp[cj];omega
theorem cj_all (y:Int):cj (lpI y) 12=365+lpI y:=rfl
theorem split_low {d:Int} (h0:0≤d) (h1:d≤36524) (h:d%1461<366):
  (2000≤2000+d / 1461*4∧2000+d / 1461*4≤2099)∧d=365*(2000+d / 1461*4-2000)+(2000+d / 1461*4-2000+3) / 4+d%1461∧d%1461<365+lpI (2000+d / 1461*4):=by
 have:lpI (2000+d / 1461*4)=1:=by unfold lpI;rw[if_pos (by omega)]
 omega
theorem split_high {d:Int} (h0:0≤d) (h1:d≤36524) (h:366≤d%1461):
  (2000≤2000+d / 1461*4+(1+(d%1461-366) / 365)∧2000+d / 1461*4+(1+(d%1461-366) / 365)≤2099)∧
  d=365*(2000+d / 1461*4+(1+(d%1461-366) / 365)-2000)+(2000+d / 1461*4+(1+(d%1461-366) / 365)-2000+3) / 4+(d%1461-366)%365∧
  (d%1461-366)%365<365+lpI (2000+d / 1461*4+(1+(d%1461-366) / 365)):=by
 have:=lpI_cases (2000+d / 1461*4+(1+(d%1461-366) / 365));omega
end Go.Proofs.YtakedkcjplfgeaaGreatDoor.Dat
namespace Go.Proofs.YtakedkcjplfgeaaGreatDoor.Dat
open Num Clk
theorem u8_lt {a b:Nat} (ha:a<100) (hb:b<100):(decide (UInt8.ofNat (48+a)<UInt8.ofNat (48+b))=decide (a<b))∧((UInt8.ofNat (48+a)==UInt8.ofNat (48+b))=decide (a=b)):=by
 have h1:(UInt8.ofNat (48+a)).toNat=48+a:=by rw[UInt8.toNat_ofNat'];omega
 have h2:(UInt8.ofNat (48+b)).toNat=48+b:=by rw[UInt8.toNat_ofNat'];omega
 constructor
 · rw[decide_eq_decide,UInt8.lt_iff_toNat_lt,h1,h2];omega
 ·
  rw[Bool.eq_iff_iff,beq_iff_eq,decide_eq_true_iff];constructor
  ·
   intro k;have:=congrArg UInt8.toNat k;omega
  · rintro rfl;rfl
def digs (n:Nat):Nat→List UInt8
 |0=>[]
 |k+1=>digs (n / 10) k++[UInt8.ofNat (48+n%10)]
theorem digs_two (n:Nat) (h:n<100):digs n 2=two n:=by
 simp only[digs,two,List.nil_append,List.cons_append];rw[show n / 10%10=n / 10 by omega]
theorem digs_four (n:Nat) (h:n<10000):digs n 4=two (n / 100)++two (n%100):=by
 simp only[digs,two,List.nil_append,List.cons_append];rw[show n / 10 / 10 / 10%10=n / 100 / 10 by omega,show n / 10 / 10%10=n / 100%10 by omega,show n / 10%10=n%100 / 10 by omega,show n%10=n%100%10 by omega]
def dtext (d:Int):List UInt8:=two ((yearOf d).toNat / 100)++(two ((yearOf d).toNat%100)++45::(two (monthOf d).toNat++45::two (dayOf d).toNat))
def dfmt (d:Int):List UInt8×Int:=if 0≤d∧d≤36524 then(dtext d,0)else([],11)
def mtext (a:Int):List UInt8:=dtext (a / 86400)++84::clockText (a%86400).toNat
def shapedB:List UInt8→List UInt8→Bool
 |[],[]=>true
 |c::l,q::p=>(if q==48 then isDig c else c==q)&&shapedB l p
 |_,_=>false
theorem shaped_len {l p:List UInt8} (h:shapedB l p=true):l.length=p.length:=by
 induction l generalizing p with
 |nil=>cases p<;>simp_all [shapedB]
 |cons c l ih=>
  cases p with
  |nil=>simp[shapedB]at h
  |cons q p=>
   simp only[shapedB,Bool.and_eq_true]at h;simp[ih h.2]
def pat10:List UInt8:=[48,48,48,48,45,48,48,45,48,48]
theorem list10 {l:List UInt8} (h:l.length=10): ∃ a b c d x e f y g k,l=[a,b,c,d,x,e,f,y,g,k]:=by
 match l,h with
 |[a,b,c,d,x,e,f,y,g,k],_=>exact⟨_,_,_,_,_,_,_,_,_,_,rfl⟩
def DF (l:List UInt8) (y m d:Int):Prop:=
 ∃ a b c e f g h k:UInt8,l=[a,b,c,e,45,f,g,45,h,k]∧(isDig a=true∧isDig b=true∧isDig c=true∧isDig e=true)∧(isDig f=true∧isDig g=true)∧(isDig h=true∧isDig k=true)∧
  y=100*pair a b+pair c e∧m=pair f g∧d=pair h k
theorem shaped10 {l:List UInt8} (h:shapedB l pat10=true): ∃ y m d,DF l y m d:=by
 obtain⟨a,b,c,d,x,e,f,y,g,k,rfl⟩:=list10 (shaped_len h);simp[shapedB,pat10]at h
 obtain⟨h1,h2,h3,h4,rfl,h5,h6,rfl,h7,h8⟩:=h;exact⟨_,_,_,a,b,c,d,e,f,g,k,rfl,⟨h1,h2,h3,h4⟩,⟨h5,h6⟩,⟨h7,h8⟩,rfl,rfl,rfl⟩
theorem DF_len {l:List UInt8} {y m d:Int} (h:DF l y m d):l.length=10:=by
 obtain⟨a,b,c,e,f,g,h,k,rfl,_⟩:=h;rfl
inductive Day:List UInt8→Int→Int→Prop
 |bad {l:List UInt8} (h:shapedB l pat10=false):Day l 0 3
 |out {l:List UInt8} {y m d:Int} (h:DF l y m d) (k:fromCivil y m d=(0,false)):Day l 0 11
 |ok {l:List UInt8} {y m d:Int} (n:Int) (h:DF l y m d) (k:fromCivil y m d=(n,true)):Day l n 0
theorem fromCivil_cases (y m d:Int):fromCivil y m d=(0,false)∨ ∃ n,fromCivil y m d=(n,true):=by
 unfold fromCivil;split
 · exact .inr ⟨_,rfl⟩
 · exact .inl rfl
end Go.Proofs.YtakedkcjplfgeaaGreatDoor.Dat
namespace Go.Proofs.YtakedkcjplfgeaaGreatDoor
open Num Clk
def leadS (l:List UInt8):Int×Bool:=if canon l=true then(((min 1000000 (val l):Nat):Int),true)else(0,false)
def follS (l:List UInt8):Int×Bool:=match l with|[x,y]=>if isDig x=true∧isDig y=true∧x.toNat<54 then(pair x y,true)else(0,false)|_=>(0,false)
def partsS (l:List UInt8):Option (List (List UInt8)):=
 if Lib.hasSuffix l [115]=true then
  (if(Lib.cut (Lib.trimSuffix l [115]) [109]).2.2=true then
   (if(Lib.cut (Lib.cut (Lib.trimSuffix l [115]) [109]).1 [104]).2.2=true then
    some [(Lib.cut (Lib.cut (Lib.trimSuffix l [115]) [109]).1 [104]).1,(Lib.cut (Lib.cut (Lib.trimSuffix l [115]) [109]).1 [104]).2.1,(Lib.cut (Lib.trimSuffix l [115]) [109]).2.1]
   else some [(Lib.cut (Lib.trimSuffix l [115]) [109]).1,(Lib.cut (Lib.trimSuffix l [115]) [109]).2.1])
  else some [Lib.trimSuffix l [115]])
 else none
def sumS:List (List UInt8)→Int×Int
 |[a]=>if(leadS a).2=true∧(leadS a).1≤59 then((leadS a).1,0)else(0,3)
 |[a,b]=>if(leadS a).2=true∧(leadS a).1≤59∧ ¬ (leadS a).1=0∧(follS b).2=true then(60*(leadS a).1+(follS b).1,0)else(0,3)
 |[a,b,c]=>if(leadS a).2=true∧ ¬ (leadS a).1=0∧(follS b).2=true∧(follS c).2=true then
   (if 60*(60*(leadS a).1+(follS b).1)+(follS c).1≤359999 then(60*(60*(leadS a).1+(follS b).1)+(follS c).1,0)else(0,2))else(0,3)
 |_=>(0,3)
def pdur (l:List UInt8):Int×Int:=match partsS l with|some ls=>sumS ls|none=>(0,3)
theorem partsS_cases (l:List UInt8):partsS l=none∨(∃ a,partsS l=some [a])∨(∃ a b,partsS l=some [a,b])∨ ∃ a b c,partsS l=some [a,b,c]:=by
 unfold partsS;split
 ·
  split
  ·
   split
   · exact .inr (.inr (.inr ⟨_,_,_,rfl⟩))
   · exact .inr (.inr (.inl ⟨_,_,rfl⟩))
  · exact .inr (.inl ⟨_,rfl⟩)
 · exact .inl rfl
end Go.Proofs.YtakedkcjplfgeaaGreatDoor
namespace Go.Proofs.YtakedkcjplfgeaaGreatDoor.Tt
open Num Clk Dat Frq Thr
structure StopD where
 id:List UInt8
 zone:Int
 free:Bool
 change:Int
 deriving DecidableEq
structure RouteD where
 id:List UInt8
 mode:Int
 bikes:Bool
 deriving DecidableEq
structure WeekD where
 d0:Bool
 d1:Bool
 d2:Bool
 d3:Bool
 d4:Bool
 d5:Bool
 d6:Bool
 deriving DecidableEq
structure CalD where
 id:List UInt8
 week:WeekD
 frm:Int
 to:Int
 deriving DecidableEq
structure ExcD where
 cal:Int
 day:Int
 added:Bool
 deriving DecidableEq
structure TripX where
 id:List UInt8
 route:Int
 cal:Int
 free:Bool
 calls:List CallD
 deriving DecidableEq
structure FreqX where
 trip:Int
 frm:Int
 to:Int
 every:Int
 deriving DecidableEq
structure ThruX where
 frm:Int
 to:Int
 deriving DecidableEq
structure PathD where
 frm:Int
 to:Int
 secs:Int
 free:Bool
 deriving DecidableEq
structure ProdD where
 id:List UInt8
 price:Int
 rides:Int
 zones:Int
 secs:Int
 modes:Int
 deriving DecidableEq
structure FareD where
 prods:List ProdD
 disc:Int
 within:Int
 cap:Int
 deriving DecidableEq
structure TtD where
 stops:List StopD
 routes:List RouteD
 cals:List CalD
 excs:List ExcD
 trips:List TripX
 freqs:List FreqX
 thrus:List ThruX
 guars:List GuaD
 paths:List PathD
 fares:FareD
 deriving DecidableEq
def emptyT:TtD:=⟨[],[],[],[],[],[],[],[],[],⟨[],0,0,0⟩⟩
def nameCh (b:UInt8):Bool:=(decide (97≤b.toNat)&&decide (b.toNat≤122))||((decide (65≤b.toNat)&&decide (b.toNat≤90))||((decide (48≤b.toNat)&&decide (b.toNat≤57))||(b.toNat==45||(b.toNat==95||b.toNat==46))))
def nameB (l:List UInt8):Bool:=l.all nameCh&&(decide (1≤l.length)&&decide (l.length≤32))
def early (prev:Option CallD) (c:CallD):Bool:=match prev with
 |some p=>decide (c.arrive<p.depart)
 |none=>false
def callErr (stops lo hi:Int) (prev:Option CallD) (c:CallD):Int:=
 if c.stop<0∨stops≤c.stop then 9
 else if(prev.map (·.stop))=some c.stop then 13
 else if c.arrive<lo∨c.depart<c.arrive∨hi<c.depart∨early prev c=true then 10 else 0
def callsF (stops lo hi:Int):Option CallD→List CallD→Int
 |_,[]=>0
 |p,c::r=>if callErr stops lo hi p c=0 then callsF stops lo hi (some c) r else callErr stops lo hi p c
def callsErr (stops lo hi:Int) (l:List CallD):Int:=if l.length<2∨32<l.length then 5 else callsF stops lo hi none l
def outside (n lo hi:Int):Bool:=decide (n<lo)||decide (hi<n)
def dayB (d:Int):Bool:=decide (0≤d)&&decide (d≤36524)
def stopErr (pre:List StopD) (x:StopD):Int:=
 if nameB x.id=false then 12 else if(pre.any fun y=>y.id==x.id)=true then 6
 else if outside x.zone 0 15||outside x.change 0 3600 then 2 else 0
def routeErr (pre:List RouteD) (x:RouteD):Int:=
 if nameB x.id=false then 12 else if(pre.any fun y=>y.id==x.id)=true then 6
 else if outside x.mode 0 7 then 2 else 0
def calErr (pre:List CalD) (x:CalD):Int:=
 if nameB x.id=false then 12 else if(pre.any fun y=>y.id==x.id)=true then 6
 else if !dayB x.frm||(!dayB x.to||decide (x.to<x.frm))then 11 else 0
def excErr (cals:Int) (pre:List ExcD) (x:ExcD):Int:=
 if outside x.cal 0 (cals-1)then 9 else if dayB x.day=false then 11
 else if(pre.any fun y=>y.cal==x.cal&&y.day==x.day)=true then 6 else 0
def tripErr (stops routes cals:Int) (pre:List TripX) (x:TripX):Int:=
 if nameB x.id=false then 12 else if(pre.any fun y=>y.id==x.id)=true then 6
 else if outside x.route 0 (routes-1)||outside x.cal 0 (cals-1)then 9
 else callsErr stops 0 172800 x.calls
def freqOf (f:FreqX):FreqD:=⟨f.trip,f.frm,f.to,f.every⟩
def lastX (f:FreqD):Int:=f.frm+(cnt f-1)*f.every
def fitsX (cs:List CallD) (f:FreqD):Bool:=cs.isEmpty||((callsS cs f.frm).2==0&&(callsS cs (lastX f)).2==0)
def fitAtX (tc:List (List CallD)) (f:FreqD):Bool:=match tc[f.trip.toNat]? with
 |some cs=>fitsX cs f
 |none=>false
def oneX (f g:FreqD):Int:=if g.trip==f.trip then cnt g else 0
def meetX (f g:FreqD):Bool:=(g.trip==f.trip)&&(decide (g.frm<f.to)&&decide (f.frm<g.to))
def freqErr (tc:List (List CallD)) (pre:List FreqD) (f:FreqD):Int:=
 if f.trip<0∨(tc.length:Int)≤f.trip then 9 else
 if soundB f&&fitAtX tc f then(if 256<cnt f+(pre.map (oneX f)).sum then 17 else if pre.any (meetX f)then 8 else 0)else 10
def thruOf (x:ThruX):ThrD:=⟨x.frm,x.to⟩
def trpX (t:TripX):TrpD:=⟨t.cal,t.calls⟩
def pathErr (stops:Int) (pre:List PathD) (x:PathD):Int:=
 if outside x.frm 0 (stops-1)||(outside x.to 0 (stops-1)||x.frm==x.to)then 9
 else if outside x.secs 1 14400 then 2
 else if(pre.any fun y=>y.frm==x.frm&&(y.to==x.to&&y.free==x.free))=true then 6 else 0
def prodErr (pre:List ProdD) (x:ProdD):Int:=
 if nameB x.id=false then 12 else if(pre.any fun y=>y.id==x.id)=true then 6
 else if outside x.price 0 1000000||(outside x.rides 1 8||(outside x.zones 1 16||(outside x.secs 0 86400||outside x.modes 1 255)))then 2 else 0
def fareChk (f:FareD):Int×Int:=
 if outside f.disc 0 1000000||(outside f.within 0 86400||outside f.cap 0 1000000)then(-1,2)else checkS 16 prodErr f.prods
def partChk (t:TtD):Nat→Int×Int
 |0=>checkS 64 stopErr t.stops
 |1=>checkS 64 routeErr t.routes
 |2=>checkS 64 calErr t.cals
 |3=>checkS 256 (excErr t.cals.length) t.excs
 |4=>checkS 256 (tripErr t.stops.length t.routes.length t.cals.length) t.trips
 |5=>checkS 64 (freqErr (t.trips.map (·.calls))) (t.freqs.map freqOf)
 |6=>checkS 128 (thrErr (t.trips.map trpX) (t.freqs.map freqOf)) (t.thrus.map thruOf)
 |7=>checkS 128 (guaErr (t.trips.map trpX) (t.freqs.map freqOf) t.stops.length) t.guars
 |8=>checkS 512 (pathErr t.stops.length) t.paths
 |_=>fareChk t.fares
def ttFrom (t:TtD):Nat→Nat→Int×Int×Int
 |0,_=>(0,0,0)
 |n+1,p=>if(partChk t p).2=0 then ttFrom t n (p+1)else(p,(partChk t p).1,(partChk t p).2)
def ttChk (t:TtD):Int×Int×Int:=ttFrom t 10 0
end Go.Proofs.YtakedkcjplfgeaaGreatDoor.Tt
namespace Go.Proofs.YtakedkcjplfgeaaGreatDoor.Fld
def ctl (b:UInt8):Bool:=decide (b.toNat<32)||b.toNat==127
def specB (b:UInt8):Bool:=b.toNat==44||(b.toNat==34||(b.toNat==92||ctl b))
def plainS (l:List UInt8):Bool:= !l.any specB&&(!l.isEmpty&&(!(l.head?==some 32)&& !(l.getLast?==some 32)))
def hexd (n:Nat):UInt8:=if n<10 then UInt8.ofNat (48+n)else UInt8.ofNat (87+n)
def escB (b:UInt8):List UInt8:=if b.toNat==34||b.toNat==92 then[92,b]else if ctl b then[92,120,hexd (b.toNat / 16),hexd (b.toNat%16)]else[b]
def inner (l:List UInt8):List UInt8:=l.flatMap escB
def quoteS (l:List UInt8):List UInt8:=if plainS l then l else 34::(inner l++[34])
def digV (b:UInt8):Nat:=if 48≤b.toNat∧b.toNat≤57 then b.toNat-48 else if 97≤b.toNat∧b.toNat≤102 then b.toNat-87 else 16
def oneS:List UInt8→Option (UInt8×Nat)
 |[]=>none
 |c::r=>if c.toNat==92 then(match r with
   |[]=>none
   |d::r'=>if d.toNat==34||d.toNat==92 then some (d,2)else if d.toNat==120 then(match r' with
     |x::y::_=>if decide (digV x<16)&&decide (digV y<16)then some (UInt8.ofNat (16*digV x+digV y),4)else none
     |_=>none)else none)else some (c,1)
def decN:Nat→List UInt8→Option (List UInt8)
 |_,[]=>some []
 |0,_::_=>none
 |f+1,c::r=>match oneS (c::r)with
   |none=>none
   |some (b,k)=>(decN f ((c::r).drop k)).map (b:: ·)
def decS (s:List UInt8):Option (List UInt8):=decN s.length s
theorem oneS_pos {s:List UInt8} {b:UInt8} {k:Nat} (h:oneS s=some (b,k)):1≤k∧k≤s.length:=by
 cases s with
 |nil=>simp[oneS]at h
 |cons c r=>
  simp only[oneS]at h;split at h
  ·
   split at h
   · cases h
   ·
    rename_i d r';split at h
    · cases h;simp
    ·
     split at h
     ·
      split at h
      ·
       split at h
       · cases h;simp
       · cases h
      · cases h
     · cases h
  · cases h;simp
theorem decN_fuel: ∀ (f:Nat) (s:List UInt8),s.length≤f→decN f s=decN s.length s
 |f,[],_=>by cases f<;>rfl
 |0,c::r,h=>by simp at h
 |f+1,c::r,h=>by
  rw[List.length_cons];simp only[decN];split
  · rfl
  ·
   rename_i b k hk;obtain⟨h1,h2⟩:=oneS_pos hk;have hl:((c::r).drop k).length≤r.length:=by rw[List.length_drop,List.length_cons];omega
   rw[List.length_cons]at h;rw[decN_fuel f _ (by omega),decN_fuel r.length _ hl]
theorem decS_nil:decS []=some []:=rfl
theorem decS_bad {s:List UInt8} (hs:s≠[]) (h:oneS s=none):decS s=none:=by
 cases s with
 |nil=>exact absurd rfl hs
 |cons c r=>
  unfold decS;rw[List.length_cons];simp only[decN,h]
theorem decS_step {s:List UInt8} {b:UInt8} {k:Nat} (h:oneS s=some (b,k)):decS s=(decS (s.drop k)).map (b:: ·):=by
 cases s with
 |nil=>simp[oneS]at h
 |cons c r=>
  obtain⟨h1,h2⟩:=oneS_pos h;unfold decS;rw[List.length_cons];simp only[decN,h];rw[decN_fuel r.length _ (by rw[List.length_drop,List.length_cons];omega)]
def unquoteS (s:List UInt8):Option (List UInt8):=
 if plainS s then some s else
 if decide (s.length<2)||(!(s.head?==some 34)|| !(s.getLast?==some 34))then none else
 match decS (s.drop 1).dropLast with
 |none=>none
 |some o=>if quoteS o=s then some o else none
theorem u8_lt (b:UInt8):b.toNat<256:=b.toNat_lt
theorem hexd_val {n:Nat} (h:n<16):(hexd n).toNat=if n<10 then 48+n else 87+n:=by
 unfold hexd;split
 · rw[UInt8.toNat_ofNat',Nat.mod_eq_of_lt (by omega)]
 · rw[UInt8.toNat_ofNat',Nat.mod_eq_of_lt (by omega)]
theorem digV_hexd {n:Nat} (h:n<16):digV (hexd n)=n:=by
 unfold digV;rw[hexd_val h];split<;>rename_i h1<;>split<;>rename_i h2<;>(try split)<;>omega
theorem u8_of (b:UInt8) (n:Nat) (h:n=b.toNat):UInt8.ofNat n=b:=by
 rw[h];exact UInt8.ofNat_toNat
theorem oneS_esc (b:UInt8) (rest:List UInt8):oneS (escB b++rest)=some (b,(escB b).length):=by
 unfold escB;split
 ·
  rename_i h;show oneS (92::b::rest)=_
  simp only[oneS];rw[if_pos (by decide),if_pos h];rfl
 ·
  rename_i h;split
  ·
   have hb:=u8_lt b;have h1:b.toNat / 16<16:=by omega
   have h2:b.toNat%16<16:=by omega
   show oneS (92::120::hexd (b.toNat / 16)::hexd (b.toNat%16)::rest)=_
   simp only[oneS];rw[if_pos (by decide),if_neg (by decide),if_pos (by decide)];rw[digV_hexd h1,digV_hexd h2,decide_eq_true h1,decide_eq_true h2];simp only[Bool.and_self,if_true];rw[u8_of b _ (by omega)];rfl
  ·
   rename_i hc;show oneS (b::rest)=_
   simp only[oneS];rw[if_neg]
   · rfl
   ·
    intro h92;rw[Bool.or_eq_true]at h;exact h (.inr h92)
theorem dec_inner: ∀ l:List UInt8,decS (inner l)=some l
 |[]=>rfl
 |b::l=>by
  have e:inner (b::l)=escB b++inner l:=by simp[inner]
  rw[e,decS_step (oneS_esc b _),List.drop_left,dec_inner l];rfl
theorem quote_plain {l:List UInt8} (h:plainS l=true):quoteS l=l:=by unfold quoteS;rw[if_pos h]
theorem quote_not {l:List UInt8} (h:plainS l=false):quoteS l=34::(inner l++[34]):=by unfold quoteS;rw[if_neg (by rw[h];decide)]
theorem unq_inv {s o:List UInt8} (h:unquoteS s=some o):quoteS o=s:=by
 unfold unquoteS at h;split at h
 ·
  rename_i hp;cases h
  exact quote_plain hp
 ·
  split at h
  · cases h
  ·
   split at h
   · cases h
   ·
    split at h
    ·
     rename_i hq;cases h
     exact hq
    · cases h
theorem escB_len (b:UInt8):1≤(escB b).length∧(escB b).length≤4:=by
 unfold escB;split
 · simp
 · split<;>simp
theorem inner_len: ∀ l:List UInt8,l.length≤(inner l).length∧(inner l).length≤4*l.length
 |[]=>by simp[inner]
 |b::l=>by
  have e:inner (b::l)=escB b++inner l:=by simp[inner]
  have h1:=escB_len b;have h2:=inner_len l;rw[e,List.length_append,List.length_cons];omega
theorem quote_len (l:List UInt8):l.length≤(quoteS l).length∧(quoteS l).length≤4*l.length+2:=by
 unfold quoteS;split
 · omega
 ·
  have:=inner_len l;rw[List.length_cons,List.length_append,List.length_singleton];omega
end Go.Proofs.YtakedkcjplfgeaaGreatDoor.Fld
namespace Go.Proofs.YtakedkcjplfgeaaGreatDoor.Fld
def joinS:List (List UInt8)→List UInt8
 |[]=>[]
 |[x]=>quoteS x
 |x::y::r=>quoteS x++44::joinS (y::r)
theorem joinS_cons (x:List UInt8) {r:List (List UInt8)} (h:r≠[]):joinS (x::r)=quoteS x++44::joinS r:=by
 cases r with
 |nil=>exact absurd rfl h
 |cons y r=>rfl
theorem joinS_snoc: ∀ (l:List (List UInt8)) (x:List UInt8),l≠[]→joinS (l++[x])=joinS l++44::quoteS x
 |[],x,h=>absurd rfl h
 |[y],x,_=>rfl
 |y::z::r,x,_=>by
  rw[List.cons_append,joinS_cons y (by simp),joinS_snoc (z::r) x (by simp),joinS_cons y (by simp)];simp
theorem joinS_append: ∀ (a b:List (List UInt8)),a≠[]→b≠[]→joinS (a++b)=joinS a++44::joinS b
 |[],b,h,_=>absurd rfl h
 |[y],b,_,hb=>by rw[List.singleton_append,joinS_cons y hb];rfl
 |y::z::r,b,_,hb=>by
  rw[List.cons_append,joinS_cons y (by simp),joinS_append (z::r) b (by simp) hb,joinS_cons y (by simp)];simp
theorem joinS_take_le (l:List (List UInt8)): ∀ k,(joinS (l.take k)).length≤(joinS l).length:=fun k=>by
 by_cases h0:l.take k=[]
 · rw[h0];exact Nat.zero_le _
 by_cases h1:l.drop k=[]
 ·
  have:l.take k=l:=by
   have:=List.take_append_drop k l;rw[h1,List.append_nil]at this;exact this
  rw[this];exact Nat.le_refl _
 ·
  have:=joinS_append _ _ h0 h1;rw[List.take_append_drop]at this;rw[this,List.length_append];omega
def joinR (l:List (List UInt8)):List UInt8×Int:=if 64<l.length then([],5)else if 65536<(joinS l).length then([],5)else(joinS l,0)
def scanQ:List UInt8→Nat
 |[]=>0
 |c::r=>if c.toNat==34 then 1 else if c.toNat==92 then(match r with
   |[]=>1
   |_::r'=>2+scanQ r')else 1+scanQ r
def scanC:List UInt8→Nat
 |[]=>0
 |c::r=>if c.toNat==44 then 0 else 1+scanC r
def extS (s:List UInt8):Nat:=match s with
 |[]=>0
 |c::r=>if c.toNat==34 then 1+scanQ r else scanC (c::r)
theorem scanQ_le: ∀ s:List UInt8,scanQ s≤s.length
 |[]=>Nat.le_refl _
 |c::r=>by
  unfold scanQ;split
  · simp
  ·
   split
   ·
    split
    · simp
    ·
     rename_i d r';have:=scanQ_le r';simp only[List.length_cons];omega
   ·
    have:=scanQ_le r;rw[List.length_cons];omega
theorem scanC_le: ∀ s:List UInt8,scanC s≤s.length
 |[]=>Nat.le_refl _
 |c::r=>by
  unfold scanC;split
  · simp
  ·
   have:=scanC_le r;rw[List.length_cons];omega
theorem extS_le (s:List UInt8):extS s≤s.length:=by
 unfold extS;split
 · simp
 ·
  split
  ·
   have:=scanQ_le (by assumption);rw[List.length_cons];omega
  · exact scanC_le _
theorem scanQ_skip (c:UInt8) (r:List UInt8) (h1:(c.toNat==34)=false) (h2:(c.toNat==92)=false):scanQ (c::r)=1+scanQ r:=by
 cases r with
 |nil=>
  simp only[scanQ];rw[if_neg (by rw[h1];decide),if_neg (by rw[h2];decide)]
 |cons d r=>
  rw[scanQ.eq_def];simp only;rw[if_neg (by rw[h1];decide),if_neg (by rw[h2];decide)]
theorem scanQ_esc (d:UInt8) (r:List UInt8):scanQ (92::d::r)=2+scanQ r:=by
 simp only[scanQ];rw[if_neg (by decide),if_pos (by decide)]
def splitF:Nat→List UInt8→List (List UInt8)×Int
 |0,_=>([],5)
 |n+1,s=>match unquoteS (s.take (extS s))with
  |none=>([],3)
  |some f=>match s.drop (extS s)with
   |[]=>([f],0)
   |c::r=>if c.toNat==44 then(if(splitF n r).2=0 then(f::(splitF n r).1,0)else splitF n r)else([],3)
def splitS (line:List UInt8):List (List UInt8)×Int:=if 65536<line.length then([],5)else if line=[]then([],0)else splitF 64 line
theorem splitF_inv: ∀ (n:Nat) (s:List UInt8) (l:List (List UInt8)),splitF n s=(l,0)→l≠[]∧l.length≤n∧joinS l=s
 |0,s,l,h=>by
  have h':(([],5):List (List UInt8)×Int)=(l,0):=h;rw[Prod.mk.injEq]at h';exact absurd h'.2 (by decide)
 |n+1,s,l,h=>by
  simp only[splitF]at h;split at h
  ·
   rw[Prod.mk.injEq]at h;exact absurd h.2 (by decide)
  ·
   rename_i f hf;have hq:=unq_inv hf;split at h
   ·
    rename_i hd;rw[Prod.mk.injEq]at h;obtain⟨rfl,-⟩:=h;refine⟨by simp,by simp, ?_⟩;have:=List.take_append_drop (extS s) s;rw[hd,List.append_nil]at this;show quoteS f=s
    rw[hq,this]
   ·
    rename_i c r hd;split at h
    ·
     rename_i hc;split at h
     ·
      rename_i h0;rw[Prod.mk.injEq]at h;obtain⟨rfl,-⟩:=h;obtain⟨i1,i2,i3⟩:=splitF_inv n r (splitF n r).1 (by rw[←h0]);refine⟨by simp,by simpa using i2, ?_⟩;rw[joinS_cons f i1,i3,hq];have hc':c=44:=by
       have:c.toNat=(44:UInt8).toNat:=by simpa using hc
       exact UInt8.toNat_inj.1 this
      rw[←hc',←hd,List.take_append_drop]
     ·
      rename_i h0;rw[h]at h0;exact absurd rfl h0
    ·
     rw[Prod.mk.injEq]at h;exact absurd h.2 (by decide)
theorem join_split {l:List (List UInt8)} {s:List UInt8} (h:splitS s=(l,0)):joinR l=(s,0):=by
 unfold splitS at h;split at h
 · rw[Prod.mk.injEq]at h;exact absurd h.2 (by decide)
 ·
  rename_i h1;split at h
  ·
   rename_i h2;rw[Prod.mk.injEq]at h;obtain⟨rfl,-⟩:=h;rw[h2];rfl
  ·
   obtain⟨i1,i2,i3⟩:=splitF_inv 64 s l h;unfold joinR;rw[if_neg (by omega),i3,if_neg h1]
end Go.Proofs.YtakedkcjplfgeaaGreatDoor.Fld
namespace Go.Proofs.YtakedkcjplfgeaaGreatDoor.Fld
def splitL (c:UInt8):List UInt8→List (List UInt8)
 |[]=>[[]]
 |b::r=>if b=c then[]::splitL c r else match splitL c r with
  |[]=>[[b]]
  |h::t=>(b::h)::t
theorem splitL_ne (c:UInt8): ∀ s,splitL c s≠[]
 |[]=>by simp[splitL]
 |b::r=>by
  unfold splitL;split
  · simp
  · split<;>simp
theorem splitL_sep (c:UInt8) (r:List UInt8):splitL c (c::r)=[]::splitL c r:=by
 rw[splitL];rw[if_pos rfl]
theorem splitL_other {c b:UInt8} (h:b≠c) {r h':List UInt8} {t:List (List UInt8)} (hr:splitL c r=h'::t):splitL c (b::r)=(b::h')::t:=by
 rw[splitL];rw[if_neg h,hr]
theorem splitL_app {c:UInt8} (r:List UInt8): ∀ (l:List UInt8),c∉l→splitL c (l++c::r)=l::splitL c r
 |[],_=>splitL_sep c r
 |b::l,h=>by
  rw[List.cons_append];exact splitL_other (fun e:b=c=>h (by rw[e];exact List.mem_cons_self ..)) (splitL_app r l fun e=>h (List.mem_cons_of_mem _ e))
def linesS (t:List UInt8):List (List UInt8)×Int:=if 65536<t.length then([],5)else if t=[]then([],0)else if t.getLast?=some 10 then(splitL 10 t.dropLast,0)else([],4)
def textL (ls:List (List UInt8)):List UInt8:=ls.flatMap fun l=>l++[10]
def noLf (ls:List (List UInt8)):Bool:=ls.all fun l=> !l.contains 10
def textS (ls:List (List UInt8)):List UInt8×Int:=if noLf ls=false then([],3)else if 65536<(textL ls).length then([],5)else(textL ls,0)
end Go.Proofs.YtakedkcjplfgeaaGreatDoor.Fld
namespace Go.Proofs.YtakedkcjplfgeaaGreatDoor.Fld
open Go
theorem index_eq0 (c:UInt8) (l:List UInt8):Lib.index (c::l) [c]=0:=by rw[Lib.index];simp[List.isPrefixOf]
theorem index_ne (b c:UInt8) (l:List UInt8) (h:b≠c):Lib.index (b::l) [c]=if Lib.index l [c]== -1 then -1 else Lib.index l [c]+1:=by
 have hp:([c]:List UInt8).isPrefixOf (b::l)=false:=by simp[List.isPrefixOf,Ne.symm h]
 rw[Lib.index,hp];simp
theorem splitK_L (c:UInt8): ∀ s:List UInt8,Lib.splitK [c] 0 (Lib.count s [c]) s=splitL c s
 |[]=>by
  rw[Lib.count_miss (by simp[Lib.index])];rfl
 |b::l=>by
  have ih:=splitK_L c l;by_cases h:b=c
  ·
   subst h;rw[Lib.count_cons_eq,splitL_sep,Nat.add_comm,Lib.splitK,index_eq0];simp[ih]
  ·
   rw[Lib.count_cons_ne b c l h];by_cases hm:Lib.index l [c]= -1
   ·
    have hm':Lib.index (b::l) [c]= -1:=by rw[index_ne b c l h,if_pos (beq_iff_eq.2 hm)]
    rw[Lib.count_miss hm]at ih ⊢;have ih':[l]=splitL c l:=ih;exact(splitL_other h ih'.symm).symm
   ·
    have hge:=Lib.index_ge l [c];obtain⟨j,hj⟩: ∃ j:Nat,Lib.index l [c]=j:=⟨(Lib.index l [c]).toNat,by omega⟩;have hj':Lib.index (b::l) [c]=((j+1:Nat):Int):=by rw[index_ne b c l h,if_neg (fun e=>hm (beq_iff_eq.1 e)),hj];omega
    rw[Lib.count_hit (by simp) hj,Nat.add_comm,Lib.splitK,hj,if_neg (by rw[beq_iff_eq];omega)]at ih;rw[Lib.count_hit (by simp) hj,Nat.add_comm,Lib.splitK,hj',if_neg (by rw[beq_iff_eq];omega)];rw[splitL_other h ih.symm];simp
end Go.Proofs.YtakedkcjplfgeaaGreatDoor.Fld
namespace Go.Proofs.YtakedkcjplfgeaaGreatDoor.Fld
theorem decN_len': ∀ (f:Nat) (s o:List UInt8),decN f s=some o→o.length≤s.length
 |0,[],o,h=>by cases h;exact Nat.le_refl _
 |f+1,[],o,h=>by cases h;exact Nat.le_refl _
 |0,_::_,o,h=>by cases h
 |f+1,c::r,o,h=>by
  simp only[decN]at h;split at h
  · cases h
  ·
   rename_i b k hk;obtain⟨h1,h2⟩:=oneS_pos hk;obtain⟨o',ho',rfl⟩:=Option.map_eq_some_iff.1 h;have:=decN_len' f _ o' ho';rw[List.length_drop]at this;rw[List.length_cons];omega
theorem unq_len {s o:List UInt8} (h:unquoteS s=some o):o.length≤s.length:=by
 unfold unquoteS at h;split at h
 · cases h;exact Nat.le_refl _
 ·
  split at h
  · cases h
  ·
   split at h
   · cases h
   ·
    rename_i o' hd;split at h
    ·
     cases h
     have:=decN_len' _ _ _ hd;rw[List.length_dropLast,List.length_drop]at this;omega
    · cases h
theorem splitF_len: ∀ (n:Nat) (s:List UInt8),∀ f∈(splitF n s).1,f.length≤s.length
 |0,s,f,h=>by simp[splitF]at h
 |n+1,s,f,h=>by
  simp only[splitF]at h;split at h
  · simp at h
  ·
   rename_i g hg;have hgl:=unq_len hg;rw[List.length_take]at hgl;split at h
   ·
    rw[List.mem_singleton]at h;subst h;omega
   ·
    rename_i c r hd;have hdl:=congrArg List.length hd;rw[List.length_drop,List.length_cons]at hdl;split at h
    ·
     split at h
     ·
      rcases List.mem_cons.1 h with rfl|h
      · omega
      ·
       have:=splitF_len n r f h;omega
     ·
      have:=splitF_len n r f h;omega
    · simp at h
theorem splitS_len {s:List UInt8} {l:List (List UInt8)} {e:Int} (h:splitS s=(l,e)): ∀ f∈l,f.length≤s.length:=by
 unfold splitS at h;split at h
 · rw[Prod.mk.injEq]at h;rw[←h.1];simp
 ·
  split at h
  · rw[Prod.mk.injEq]at h;rw[←h.1];simp
  ·
   have:=splitF_len 64 s;rw[h]at this;exact this
theorem joinR_len {l:List (List UInt8)} {o:List UInt8} {e:Int} (h:joinR l=(o,e)):o.length≤65536:=by
 unfold joinR at h;split at h
 · rw[Prod.mk.injEq]at h;rw[←h.1];exact Nat.zero_le _
 ·
  split at h
  · rw[Prod.mk.injEq]at h;rw[←h.1];exact Nat.zero_le _
  · rw[Prod.mk.injEq]at h;rw[←h.1];omega
end Go.Proofs.YtakedkcjplfgeaaGreatDoor.Fld
namespace Go.Proofs.YtakedkcjplfgeaaGreatDoor.Tt
open Num Clk Dat Frq Thr Fld
def kindWords:List (List UInt8):=[[115,116,111,112],[114,111,117,116,101],[99,97,108,101,110,100,97,114],[101,120,99,101,112,116,105,111,110],[116,114,105,112],[102,114,101,113,117,101,110,99,121],[116,104,114,111,117,103,104],[103,117,97,114,97,110,116,101,101],[112,97,116,104],[112,114,111,100,117,99,116],[99,97,108,108],[102,97,114,101,115]]
def modeWords:List (List UInt8):=[[98,117,115],[116,114,97,109],[109,101,116,114,111],[114,97,105,108],[102,101,114,114,121],[99,111,97,99,104],[99,97,98,108,101],[102,117,110,105,99,117,108,97,114]]
def wYes:List UInt8:=[121,101,115]
def wNo:List UInt8:=[110,111]
def wAdded:List UInt8:=[97,100,100,101,100]
def wRemoved:List UInt8:=[114,101,109,111,118,101,100]
def wBoth:List UInt8:=[98,111,116,104]
def wBoard:List UInt8:=[98,111,97,114,100]
def wAlight:List UInt8:=[97,108,105,103,104,116]
def wNone:List UInt8:=[110,111,110,101]
def idxOf (s:List UInt8):List (List UInt8)→Option Nat
 |[]=>none
 |x::r=>if x=s then some 0 else(idxOf s r).map (· +1)
def kindOf (s:List UInt8):Option Nat:=idxOf s kindWords
def countOf (k:Nat):Nat:=[5,4,5,4,5,5,3,4,5,7,5,4].getD k 0
def priceR (l:List UInt8):Int×Int:=match l.drop (l.length-3)with
  |[p,x,y]=>if p=46∧canon (l.take (l.length-3))=true∧isDig x=true∧isDig y=true then
      (if 10000<val (l.take (l.length-3))∨1000000<100*val (l.take (l.length-3))+10*(x.toNat-48)+(y.toNat-48)then(0,2)
       else(((100*val (l.take (l.length-3))+10*(x.toNat-48)+(y.toNat-48):Nat):Int),0))else(0,3)
  |_=>(0,3)
def timeR (l:List UInt8):Int×Int:=match l with
 |[a,b,p,c,d,q,e,f]=>if p=58∧q=58∧isDig a=true∧isDig b=true∧isDig c=true∧isDig d=true∧isDig e=true∧isDig f=true then
   (match join (pair a b) (pair c d) (pair e f)with
   |(n,true)=>(n,0)
   |(_,false)=>(0,10))else(0,3)
 |_=>(0,3)
def dayR (l:List UInt8):Int×Int:=if shapedB l pat10 then(match l with
 |[a,b,c,e,_,f,g,_,h,k]=>(match fromCivil (100*pair a b+pair c e) (pair f g) (pair h k)with
  |(n,true)=>(n,0)
  |(_,false)=>(0,11))
 |_=>(0,3))else(0,3)
def modeR (s:List UInt8):Int×Int:=match idxOf s modeWords with
 |some i=>(i,0)
 |none=>(0,3)
def modesF:Nat→List (List UInt8)→Option Nat
 |acc,[]=>some acc
 |acc,p::r=>match idxOf p modeWords with
  |some m=>if acc>>>m=0 then modesF (acc|||1<<<m) r else none
  |none=>none
def modesR (s:List UInt8):Int×Int:=if s=wNone then(0,0)else match modesF 0 (splitL 43 s)with
 |some m=>((m:Int),0)
 |none=>(0,3)
def eitherR (yes no s:List UInt8):Bool×Int:=(s==yes,if s=yes∨s=no then 0 else 3)
def flagR (s:List UInt8):Bool×Int:=eitherR wYes wNo s
def weekR (s:List UInt8):WeekD×Int:=match s with
 |[a,b,c,d,e,f,g]=>(⟨a==49,b==49,c==49,d==49,e==49,f==49,g==49⟩,if s.all (fun x=>x==48||x==49)=true then 0 else 3)
 |_=>(⟨false,false,false,false,false,false,false⟩,3)
def permR (s:List UInt8):(Bool×Bool)×Int:=if s=wBoth then((true,true),0)else if s=wBoard then((true,false),0)else if s=wAlight then((false,true),0)else if s=wNone then((false,false),0)else((false,false),3)
def refR (ids:List (List UInt8)) (s:List UInt8):Int×Int:=match idxOf s ids with
 |some i=>(i,0)
 |none=>(0,9)
def firstE:List Int→Int
 |[]=>0
 |e::r=>if e=0 then firstE r else e
def fld (f:List (List UInt8)) (i:Nat):List UInt8:=f.getD i []
structure St where
 t:TtD
 lines:List (List Int)
 rules:Int
 opened:Bool
def start:St:=⟨emptyT,[[],[],[],[],[],[],[],[],[],[]],0,false⟩
def noteL (s:St) (k:Nat) (n:Int):List (List Int):=s.lines.modify k (· ++[n])
def addCall (l:List TripX) (c:CallD):List TripX:=match l.getLast? with
 |some x=>l.dropLast++[{ x with calls:=x.calls++[c] }]
 |none=>l
def recordF (s:St) (k:Nat) (f:List (List UInt8)) (n:Int):St×Int:=
 let t:=s.t
 let sr:=refR (t.stops.map (·.id))
 let rr:=refR (t.routes.map (·.id))
 let cr:=refR (t.cals.map (·.id))
 let tr:=refR (t.trips.map (·.id))
 let o:Bool:=k==4||k==10
 match k with
 |0=>(⟨{ t with stops:=t.stops++[⟨fld f 1,(parse (fld f 2)).1,(flagR (fld f 3)).1,(parse (fld f 4)).1⟩] },noteL s 0 n,s.rules,o⟩,firstE [(parse (fld f 2)).2,(flagR (fld f 3)).2,(parse (fld f 4)).2])
 |1=>(⟨{ t with routes:=t.routes++[⟨fld f 1,(modeR (fld f 2)).1,(flagR (fld f 3)).1⟩] },noteL s 1 n,s.rules,o⟩,firstE [(modeR (fld f 2)).2,(flagR (fld f 3)).2])
 |2=>(⟨{ t with cals:=t.cals++[⟨fld f 1,(weekR (fld f 2)).1,(dayR (fld f 3)).1,(dayR (fld f 4)).1⟩] },noteL s 2 n,s.rules,o⟩,firstE [(weekR (fld f 2)).2,(dayR (fld f 3)).2,(dayR (fld f 4)).2])
 |3=>(⟨{ t with excs:=t.excs++[⟨(cr (fld f 1)).1,(dayR (fld f 2)).1,(eitherR wAdded wRemoved (fld f 3)).1⟩] },noteL s 3 n,s.rules,o⟩,firstE [(cr (fld f 1)).2,(dayR (fld f 2)).2,(eitherR wAdded wRemoved (fld f 3)).2])
 |4=>(⟨{ t with trips:=t.trips++[⟨fld f 1,(rr (fld f 2)).1,(cr (fld f 3)).1,(flagR (fld f 4)).1,[]⟩] },noteL s 4 n,s.rules,o⟩,firstE [(rr (fld f 2)).2,(cr (fld f 3)).2,(flagR (fld f 4)).2])
 |5=>(⟨{ t with freqs:=t.freqs++[⟨(tr (fld f 1)).1,(timeR (fld f 2)).1,(timeR (fld f 3)).1,(pdur (fld f 4)).1⟩] },noteL s 5 n,s.rules,o⟩,firstE [(tr (fld f 1)).2,(timeR (fld f 2)).2,(timeR (fld f 3)).2,(pdur (fld f 4)).2])
 |6=>(⟨{ t with thrus:=t.thrus++[⟨(tr (fld f 1)).1,(tr (fld f 2)).1⟩] },noteL s 6 n,s.rules,o⟩,firstE [(tr (fld f 1)).2,(tr (fld f 2)).2])
 |7=>(⟨{ t with guars:=t.guars++[⟨(tr (fld f 1)).1,(tr (fld f 2)).1,(sr (fld f 3)).1⟩] },noteL s 7 n,s.rules,o⟩,firstE [(tr (fld f 1)).2,(tr (fld f 2)).2,(sr (fld f 3)).2])
 |8=>(⟨{ t with paths:=t.paths++[⟨(sr (fld f 1)).1,(sr (fld f 2)).1,(pdur (fld f 3)).1,(flagR (fld f 4)).1⟩] },noteL s 8 n,s.rules,o⟩,firstE [(sr (fld f 1)).2,(sr (fld f 2)).2,(pdur (fld f 3)).2,(flagR (fld f 4)).2])
 |9=>(⟨{ t with fares:={ t.fares with prods:=t.fares.prods++[⟨fld f 1,(priceR (fld f 2)).1,(parse (fld f 3)).1,(parse (fld f 4)).1,(pdur (fld f 5)).1,(modesR (fld f 6)).1⟩] } },noteL s 9 n,s.rules,o⟩,firstE [(priceR (fld f 2)).2,(parse (fld f 3)).2,(parse (fld f 4)).2,(pdur (fld f 5)).2,(modesR (fld f 6)).2])
 |10=>(⟨{ t with trips:=addCall t.trips ⟨(sr (fld f 1)).1,(timeR (fld f 2)).1,(timeR (fld f 3)).1,(permR (fld f 4)).1.1,(permR (fld f 4)).1.2⟩ },s.lines,s.rules,o⟩,firstE [(sr (fld f 1)).2,(timeR (fld f 2)).2,(timeR (fld f 3)).2,(permR (fld f 4)).2])
 |_=>(⟨{ t with fares:=⟨t.fares.prods,(priceR (fld f 1)).1,(pdur (fld f 2)).1,(priceR (fld f 3)).1⟩ },s.lines,n,o⟩,firstE [(priceR (fld f 1)).2,(pdur (fld f 2)).2,(priceR (fld f 3)).2])
def lineF (s:St) (l:List UInt8) (n:Int):St×Int:=
 if l=[]∨l.head?=some 35 then(s,0)
 else if(splitS l).2≠0 then(s,(splitS l).2)
 else match kindOf (fld (splitS l).1 0)with
  |none=>(s,41)
  |some k=>if(splitS l).1.length≠countOf k then(s,1)
   else if k=10∧s.opened=false then(s,8)
   else if k=11∧0<s.rules then(s,6)
   else recordF s k (splitS l).1 n
def linesF (s:St) (n:Int):List (List UInt8)→St×Int×Int
 |[]=>(s,0,0)
 |l::r=>if(lineF s l n).2=0 then linesF (lineF s l n).1 (n+1) r else(s,n,(lineF s l n).2)
def parseF (text:List UInt8):TtD×Int×Int:=
 if(linesS text).2≠0 then(emptyT,0,(linesS text).2)
 else if(linesF start 1 (linesS text).1).2.2≠0 then(emptyT,(linesF start 1 (linesS text).1).2.1,(linesF start 1 (linesS text).1).2.2)
 else
  let s:=(linesF start 1 (linesS text).1).1
  let c:=ttChk s.t
  if c.2.2=0 then(s.t,0,0)else if c.2.1<0 then(emptyT,s.rules,c.2.2)else(emptyT,(s.lines.getD c.1.toNat []).getD c.2.1.toNat 0,c.2.2)
end Go.Proofs.YtakedkcjplfgeaaGreatDoor.Tt
namespace Go.Proofs.YtakedkcjplfgeaaGreatDoor.Tt
open Num Clk Dat Frq Thr Fld
def yesT (v:Bool):List UInt8:=if v then wYes else wNo
def bitT (v:Bool):UInt8:=if v then 49 else 48
def weekT (w:WeekD):List UInt8:=[bitT w.d0,bitT w.d1,bitT w.d2,bitT w.d3,bitT w.d4,bitT w.d5,bitT w.d6]
def permT (c:CallD):List UInt8:=if c.board&&c.alight then wBoth else if c.board then wBoard else if c.alight then wAlight else wNone
def durText (n:Nat):List UInt8:=
 if 3600≤n then decDigits (n / 3600)++104::(two (n / 60%60)++109::(two (n%60)++[115]))
 else if 60≤n then decDigits (n / 60)++109::(two (n%60)++[115])else decDigits n++[115]
def durT (n:Int):List UInt8:=if 0≤n∧n≤359999 then durText n.toNat else[]
def modeT (m:Int):List UInt8:=if 0≤m∧m≤7 then modeWords.getD m.toNat []else[]
def bitsOf (m:Nat):List Nat:=(List.range 8).filter fun i=>m>>>i%2=1
def modesT (m:Int):List UInt8:=if m<0∨255<m then[]else if m=0 then wNone else((bitsOf m.toNat).map fun i=>modeWords.getD i []).intersperse [43] |>.flatten
def idAt (ids:List (List UInt8)) (i:Int):List UInt8:=ids.getD i.toNat []
def rowT (f:List (List UInt8)):List UInt8:=(joinR f).1
def kw (k:Nat):List UInt8:=kindWords.getD k []
def callRow (t:TtD) (c:CallD):List UInt8:=rowT [kw 10,idAt (t.stops.map (·.id)) c.stop,(fmt c.arrive).1,(fmt c.depart).1,permT c]
def rowsF (t:TtD):List (List UInt8):=
 (t.stops.map fun x=>rowT [kw 0,x.id,itoa x.zone,yesT x.free,itoa x.change])
 ++((t.routes.map fun x=>rowT [kw 1,x.id,modeT x.mode,yesT x.bikes])
 ++((t.cals.map fun x=>rowT [kw 2,x.id,weekT x.week,(dfmt x.frm).1,(dfmt x.to).1])
 ++((t.excs.map fun x=>rowT [kw 3,idAt (t.cals.map (·.id)) x.cal,(dfmt x.day).1,if x.added then wAdded else wRemoved])
 ++((t.trips.flatMap fun x=>rowT [kw 4,x.id,idAt (t.routes.map (·.id)) x.route,idAt (t.cals.map (·.id)) x.cal,yesT x.free]::x.calls.map (callRow t))
 ++((t.freqs.map fun x=>rowT [kw 5,idAt (t.trips.map (·.id)) x.trip,(fmt x.frm).1,(fmt x.to).1,durT x.every])
 ++((t.thrus.map fun x=>rowT [kw 6,idAt (t.trips.map (·.id)) x.frm,idAt (t.trips.map (·.id)) x.to])
 ++((t.guars.map fun x=>rowT [kw 7,idAt (t.trips.map (·.id)) x.frm,idAt (t.trips.map (·.id)) x.to,idAt (t.stops.map (·.id)) x.stop])
 ++((t.paths.map fun x=>rowT [kw 8,idAt (t.stops.map (·.id)) x.frm,idAt (t.stops.map (·.id)) x.to,durT x.secs,yesT x.free])
 ++((if t.fares.disc=0∧t.fares.within=0∧t.fares.cap=0 then[]else[rowT [kw 11,(fmtPrice t.fares.disc).1,durT t.fares.within,(fmtPrice t.fares.cap).1]])
 ++(t.fares.prods.map fun x=>rowT [kw 9,x.id,(fmtPrice x.price).1,itoa x.rides,itoa x.zones,durT x.secs,modesT x.modes]))))))))))
def formatF (t:TtD):List UInt8×Int:=if(ttChk t).2.2≠0 then([],(ttChk t).2.2)else textS (rowsF t)
def exText:List UInt8:=[115,116,111,112,44,65,44,48,44,121,101,115,44,48,10,115,116,111,112,44,66,44,49,44,110,111,44,49,50,48,10,114,111,117,116,101,44,82,44,98,117,115,44,110,111,10,99,97,108,101,110,100,97,114,44,67,44,49,49,49,49,49,48,48,44,50,48,50,53,45,48,49,45,48,49,44,50,48,50,53,45,49,50,45,51,49,10,116,114,105,112,44,84,44,82,44,67,44,121,101,115,10,99,97,108,108,44,65,44,48,56,58,48,48,58,48,48,44,48,56,58,48,48,58,48,48,44,98,111,97,114,100,10,99,97,108,108,44,66,44,48,56,58,51,48,58,48,48,44,48,56,58,51,49,58,48,48,44,97,108,105,103,104,116,10,112,97,116,104,44,65,44,66,44,49,48,109,48,48,115,44,110,111,10,112,114,111,100,117,99,116,44,115,105,110,103,108,101,44,50,46,53,48,44,49,44,49,54,44,48,115,44,98,117,115,43,116,114,97,109,10]
def exT:TtD:=⟨[⟨[65],0,true,0⟩,⟨[66],1,false,120⟩],[⟨[82],0,false⟩],[⟨[67],⟨true,true,true,true,true,false,false⟩,9132,9496⟩],[],[⟨[84],0,0,true,[⟨0,28800,28800,true,false⟩,⟨1,30600,30660,false,true⟩]⟩],[],[],[],[⟨0,1,600,false⟩],⟨[⟨[115,105,110,103,108,101],250,1,16,0,3⟩],0,0,0⟩⟩
def exText2:List UInt8:=[115,116,111,112,44,65,44,48,44,121,101,115,44,48,10,115,116,111,112,44,66,44,49,44,110,111,44,49,50,48,10,99,97,108,101,110,100,97,114,44,67,44,49,49,49,49,49,48,48,44,50,48,50,53,45,48,49,45,48,49,44,50,48,50,53,45,49,50,45,51,49,10,116,114,105,112,44,84,44,82,44,67,44,121,101,115,10]
def exText3:List UInt8:=[115,116,111,112,44,65,44,48,44,121,101,115,44,48,10,115,116,111,112,44,65,44,49,44,110,111,44,49,50,48,10]
def exText4:List UInt8:=[35,32,110,111,32,115,116,111,112,115,10,10,99,97,108,108,44,65,44,48,56,58,48,48,58,48,48,44,48,56,58,48,48,58,48,48,44,98,111,97,114,100,10]
def exText5:List UInt8:=[115,116,111,112,44,65,44,48,44,121,101,115,44,48]
theorem ex1:parseF exText=(exT,0,0):=by decide+kernel
theorem ex2:parseF exText2=(emptyT,4,9):=by decide+kernel
theorem ex3:parseF exText3=(emptyT,2,6):=by decide+kernel
theorem ex4:parseF exText4=(emptyT,3,8):=by decide+kernel
theorem ex5:parseF exText5=(emptyT,0,4):=by decide+kernel
theorem ex6:formatF exT=(exText,0):=by decide+kernel
end Go.Proofs.YtakedkcjplfgeaaGreatDoor.Tt
namespace Go.Proofs.YtakedkcjplfgeaaGreatDoor.Tt
open Num Clk Dat Frq Thr Fld
theorem timeR_time (l:List UInt8):Time l (timeR l).1 (timeR l).2:=by
 unfold timeR;split
 ·
  rename_i a b p c d q e f;split
  ·
   rename_i h;obtain⟨rfl,rfl,ha,hb,hc,hd,he,hf⟩:=h;rcases join_cases (pair a b) (pair c d) (pair e f)with hj|⟨n,hj⟩
   · rw[hj];exact .out ha hb hc hd he hf hj
   · rw[hj];exact .ok n ha hb hc hd he hf hj
  ·
   rename_i h;refine .bad fun⟨a',b',c',d',e',f',hl,h1,h2,h3,h4,h5,h6⟩=>?_
   simp only[List.cons.injEq,and_true]at hl;obtain⟨rfl,rfl,rfl,rfl,rfl,rfl,rfl,rfl⟩:=hl;exact h ⟨rfl,rfl,h1,h2,h3,h4,h5,h6⟩
 ·
  rename_i h;refine .bad fun⟨a',b',c',d',e',f',hl,_⟩=>?_
  exact h _ _ _ _ _ _ _ _ hl
theorem priceR_price (l:List UInt8):Price l (priceR l).1 (priceR l).2:=by
 have hs: ∀ {x y:UInt8},l.drop (l.length-3)=[46,x,y]→l=l.take (l.length-3)++[46,x,y]:=fun{x y} h=>by
  rw[←h,List.take_append_drop]
 have hb: ¬ (∃ x y,l.drop (l.length-3)=[46,x,y]∧canon (l.take (l.length-3))=true∧isDig x=true∧isDig y=true)→ ¬ shaped l:=fun hn ⟨a,x,y,hl,ha,hx,hy⟩=>by
  have ht:=shaped_tail hl;refine hn ⟨x,y, ?_,by rw[←ht];exact ha,hx,hy⟩;have:=List.take_append_drop (l.length-3) l;rw[←ht]at this;have h2:a++l.drop (l.length-3)=a++[46,x,y]:=this.trans hl;exact List.append_cancel_left h2
 unfold priceR;split
 ·
  rename_i p x y hd;split
  ·
   rename_i h;obtain⟨rfl,hc,hx,hy⟩:=h;have hl:=hs hd;generalize l.take (l.length-3)=a at*
   subst hl;split
   ·
    rename_i h2;exact .big hc hx hy h2
   ·
    rename_i h2;exact .ok hc hx hy (by omega) (by omega)
  ·
   rename_i h;refine .bad (hb fun⟨x',y',h1,h2,h3,h4⟩=>?_);rw[hd]at h1;simp only[List.cons.injEq,and_true]at h1;obtain⟨rfl,rfl,rfl⟩:=h1;exact h ⟨rfl,h2,h3,h4⟩
 ·
  rename_i h;exact .bad (hb fun⟨x',y',h1,_⟩=>h _ _ _ h1)
end Go.Proofs.YtakedkcjplfgeaaGreatDoor.Tt
namespace Go.Proofs.YtakedkcjplfgeaaGreatDoor.Tt
open Num Clk Dat Frq Thr Fld
def letB (b:UInt8):Bool:=b.toNat==43||(decide (97≤b.toNat)&&decide (b.toNat≤122))
theorem idxOf_none: ∀ {ids:List (List UInt8)} {x:List UInt8},x∉ids→idxOf x ids=none
 |[],_,_=>rfl
 |y::r,x,h=>by
  unfold idxOf;rw[if_neg (fun e=>h (by rw[e];exact List.mem_cons_self ..)),idxOf_none (fun hm=>h (List.mem_cons_of_mem _ hm))];rfl
theorem idxOf_some: ∀ {ids:List (List UInt8)} {x:List UInt8} {i:Nat},idxOf x ids=some i→ids[i]? =some x
 |[],x,i,h=>by cases h
 |y::r,x,i,h=>by
  unfold idxOf at h;split at h
  ·
   rename_i e;obtain rfl:=Option.some.inj h;rw[e];rfl
  ·
   cases hr:idxOf x r with
   |none=>rw[hr]at h;cases h
   |some j=>
    rw[hr]at h;obtain rfl:=Option.some.inj h;rw[List.getElem?_cons_succ];exact idxOf_some hr
theorem mode_letters: ∀ y∈modeWords,∀ b∈y,letB b=true:=by decide
theorem modeWords_lt {x:List UInt8} {i:Nat} (h:idxOf x modeWords=some i):i<8:=(List.getElem?_eq_some_iff.1 (idxOf_some h)).1
theorem splitL_mid {c b:UInt8} (hb:b≠c) (r:List UInt8): ∀ p:List UInt8,c∉p→ ∃ h t,splitL c (p++b::r)=(p++b::h)::t
 |[],_=>by
  obtain⟨h',t,hr⟩: ∃ h' t,splitL c r=h'::t:=by
   cases hs:splitL c r with
   |nil=>exact absurd hs (splitL_ne c r)
   |cons x y=>exact⟨x,y,rfl⟩
  exact⟨h',t,splitL_other hb hr⟩
 |x::p,hp=>by
  obtain⟨h,t,hr⟩:=splitL_mid hb r p (fun hm=>hp (List.mem_cons_of_mem _ hm));exact⟨h,t,splitL_other (fun e=>hp (by rw[e];exact List.mem_cons_self ..)) hr⟩
theorem splitL_one {c:UInt8}: ∀ p:List UInt8,c∉p→splitL c p=[p]
 |[],_=>rfl
 |x::p,hp=>splitL_other (fun e=>hp (by rw[e];exact List.mem_cons_self ..)) (splitL_one p (fun hm=>hp (List.mem_cons_of_mem _ hm)))
theorem modesF_bad {acc:Nat} {p r:List UInt8} {b:UInt8} (hp:(43:UInt8)∉p) (hb:letB b=false):modesF acc (splitL 43 (p++b::r))=none:=by
 have h43:b≠43:=fun e=>by rw[e]at hb;exact absurd hb (by decide)
 obtain⟨h,t,e⟩:=splitL_mid h43 r p hp;rw[e];have:idxOf (p++b::h) modeWords=none:=idxOf_none (fun hm=>by
  have:=mode_letters _ hm b (by simp);rw[hb]at this;cases this)
 simp only[modesF];rw[this]
theorem modesF_no {acc:Nat} {p:List UInt8} {r:List (List UInt8)} (h:idxOf p modeWords=none):modesF acc (p::r)=none:=by
 simp only[modesF];rw[h]
theorem modesF_yes {acc m:Nat} {p:List UInt8} {r:List (List UInt8)} (h:idxOf p modeWords=some m) (h2:acc>>>m=0):modesF acc (p::r)=modesF (acc|||1<<<m) r:=by
 simp only[modesF];rw[h];simp only;rw[if_pos h2]
theorem modesF_old {acc m:Nat} {p:List UInt8} {r:List (List UInt8)} (h:idxOf p modeWords=some m) (h2: ¬ acc>>>m=0):modesF acc (p::r)=none:=by
 simp only[modesF];rw[h];simp only;rw[if_neg h2]
theorem or_bit {acc m:Nat} (ha:acc<256) (hm:m<8):acc|||1<<<m<256:=by
 have:(1:Nat)<<<m<2 ^ 8:=by
  rw[Nat.one_shiftLeft];exact Nat.pow_lt_pow_right (by omega) hm
 exact Nat.or_lt_two_pow (n:=8) ha this
def modesO (o:Option Nat):Int×Int:=match o with
 |some m=>((m:Int),0)
 |none=>(0,3)
theorem modesR_other {s:List UInt8} (h: ¬ s=wNone):modesR s=modesO (modesF 0 (splitL 43 s)):=by
 unfold modesR modesO;rw[if_neg h];try(cases modesF 0 (splitL 43 s)<;>rfl)
end Go.Proofs.YtakedkcjplfgeaaGreatDoor.Tt
namespace Go.Proofs.YtakedkcjplfgeaaGreatDoor.Tt
open Num Clk Dat Frq Thr Fld
def partLen (t:TtD):Nat→Nat
 |0=>t.stops.length
 |1=>t.routes.length
 |2=>t.cals.length
 |3=>t.excs.length
 |4=>t.trips.length
 |5=>t.freqs.length
 |6=>t.thrus.length
 |7=>t.guars.length
 |8=>t.paths.length
 |_=>t.fares.prods.length
def countsL (l:List UInt8):Prop:=l≠[]∧l.head?≠some 35
structure Kept (P:Int→Prop) (s:St):Prop where
 ten:s.lines.length=10
 len: ∀ k,k<10→(s.lines.getD k []).length=partLen s.t k
 good: ∀ k,k<10→ ∀ m∈s.lines.getD k [],P m
 rule:s.rules=0∧s.t.fares.disc=0∧s.t.fares.within=0∧s.t.fares.cap=0∨0<s.rules∧P s.rules
theorem kept_start (P:Int→Prop):Kept P start:=by
 refine⟨rfl,fun k hk=>?_,fun k hk m hm=>?_, .inl ⟨rfl,rfl,rfl,rfl⟩⟩
 ·
  have:k=0∨k=1∨k=2∨k=3∨k=4∨k=5∨k=6∨k=7∨k=8∨k=9:=by omega
  rcases this with rfl|rfl|rfl|rfl|rfl|rfl|rfl|rfl|rfl|rfl<;>rfl
 ·
  have:k=0∨k=1∨k=2∨k=3∨k=4∨k=5∨k=6∨k=7∨k=8∨k=9:=by omega
  rcases this with rfl|rfl|rfl|rfl|rfl|rfl|rfl|rfl|rfl|rfl<;>exact absurd hm (by simp[start])
theorem noteL_at (s:St) (h:s.lines.length=10) (j:Nat) (n:Int) (k:Nat) (hk:k<10):(noteL s j n).getD k []=if j=k then s.lines.getD k []++[n]else s.lines.getD k []:=by
 unfold noteL;rw[List.getD_eq_getElem?_getD,List.getD_eq_getElem?_getD,List.getElem?_modify];rw[List.getElem?_eq_getElem (by omega)];split<;>simp
theorem addCall_len (l:List TripX) (c:CallD):(addCall l c).length=l.length:=by
 unfold addCall;cases h:l.getLast? with
 |none=>rfl
 |some x=>
  have:l≠[]:=fun e=>by rw[e]at h;simp at h
  have:=List.length_pos_iff.2 this;simp
  omega
theorem kept_note {P:Int→Prop} {s:St} (h:Kept P s) (j:Nat) (n:Int) (hn:P n) (t:TtD) (o:Bool) (ht: ∀ k,k<10→partLen t k=partLen s.t k+if j=k then 1 else 0) (hf:t.fares.disc=s.t.fares.disc∧t.fares.within=s.t.fares.within∧t.fares.cap=s.t.fares.cap):Kept P ⟨t,noteL s j n,s.rules,o⟩:=by
 refine⟨by show(noteL s j n).length=10;unfold noteL;rw[List.length_modify];exact h.ten,fun k hk=>?_,fun k hk m hm=>?_, ?_⟩
 ·
  show((noteL s j n).getD k []).length=partLen t k
  rw[noteL_at s h.ten j n k hk,ht k hk];split
  · rw[List.length_append,h.len k hk];rfl
  · rw[h.len k hk];rfl
 ·
  have hm':m∈(noteL s j n).getD k []:=hm;rw[noteL_at s h.ten j n k hk]at hm';split at hm'
  ·
   rcases List.mem_append.1 hm' with h1|h1
   · exact h.good k hk m h1
   · rw[List.mem_singleton.1 h1];exact hn
  · exact h.good k hk m hm'
 ·
  show s.rules=0∧t.fares.disc=0∧t.fares.within=0∧t.fares.cap=0∨0<s.rules∧P s.rules
  rw[hf.1,hf.2.1,hf.2.2];exact h.rule
theorem parts10 {k:Nat} (hk:k<10):k=0∨k=1∨k=2∨k=3∨k=4∨k=5∨k=6∨k=7∨k=8∨k=9:=by omega
theorem kept_record {P:Int→Prop} {s:St} (h:Kept P s) (k:Nat) (f:List (List UInt8)) (n:Int) (h0:0<n) (hn:P n):Kept P (recordF s k f n).1:=by
 unfold recordF;split
 case h_11=>
  refine⟨h.ten,fun q hq=>?_,h.good,h.rule⟩;rw[show partLen _ q=partLen s.t q from by
   rcases parts10 hq with rfl|rfl|rfl|rfl|rfl|rfl|rfl|rfl|rfl|rfl<;>first|rfl|exact addCall_len _ _]
  exact h.len q hq
 case h_12=>
  refine⟨h.ten,fun q hq=>?_,h.good, .inr ⟨h0,hn⟩⟩;rw[show partLen _ q=partLen s.t q from by
   rcases parts10 hq with rfl|rfl|rfl|rfl|rfl|rfl|rfl|rfl|rfl|rfl<;>rfl]
  exact h.len q hq
 all_goals
  refine kept_note h _ n hn _ _ (fun q hq=>?_) ⟨rfl,rfl,rfl⟩;rcases parts10 hq with rfl|rfl|rfl|rfl|rfl|rfl|rfl|rfl|rfl|rfl<;>simp[partLen]
theorem kept_line {P:Int→Prop} {s:St} (h:Kept P s) (l:List UInt8) (n:Int) (h0:0<n) (hn:countsL l→P n):Kept P (lineF s l n).1:=by
 unfold lineF;split
 · exact h
 ·
  rename_i hl;have hc:countsL l:=⟨fun e=>hl (.inl e),fun e=>hl (.inr e)⟩;split
  · exact h
  ·
   split
   · exact h
   ·
    split
    · exact h
    ·
     split
     · exact h
     ·
      split
      · exact h
      · exact kept_record h _ _ n h0 (hn hc)
theorem kept_lines {P:Int→Prop}: ∀ (ls:List (List UInt8)) (s:St) (n:Int),Kept P s→0<n→(∀ (i:Nat) (l:List UInt8),ls[i]? =some l→countsL l→P (n+i))→Kept P (linesF s n ls).1
 |[],s,n,h,_,_=>h
 |l::r,s,n,h,h0,hP=>by
  unfold linesF;split
  ·
   refine kept_lines r _ _ (kept_line h l n h0 (fun hc=>by have:=hP 0 l rfl hc;simpa using this)) (by omega) (fun i x hx hc=>?_);have:=hP (i+1) x (by simpa using hx) hc;rw[show n+1+(i:Int)=n+((i+1:Nat):Int) by omega];exact this
  · exact h
theorem line_err {s:St} {l:List UInt8} {n:Int} (h:(lineF s l n).2≠0):countsL l:=by
 unfold lineF at h;split at h
 · exact absurd rfl h
 ·
  rename_i hl;exact⟨fun e=>hl (.inl e),fun e=>hl (.inr e)⟩
theorem lines_err: ∀ (ls:List (List UInt8)) (s:St) (n:Int),(linesF s n ls).2.2≠0→ ∃ (i:Nat) (l:List UInt8),ls[i]? =some l∧countsL l∧(linesF s n ls).2.1=n+i
 |[],s,n,h=>absurd rfl h
 |l::r,s,n,h=>by
  unfold linesF at h ⊢;split
  ·
   rename_i h0;rw[if_pos h0]at h;obtain⟨i,x,hx,hc,he⟩:=lines_err r _ _ h;exact⟨i+1,x,by simpa using hx,hc,by rw[he];omega⟩
  ·
   rename_i h0;exact⟨0,l,rfl,line_err h0,by simp⟩
theorem chk_idx {α:Type} {err:List α→α→Int}: ∀ (r pre:List α),(chk err pre r).2≠0→ ∃ i:Nat,(chk err pre r).1=i∧i<pre.length+r.length
 |[],pre,h=>absurd rfl h
 |x::r,pre,h=>by
  unfold chk at h ⊢;split
  ·
   rename_i h0;rw[if_pos h0]at h;obtain⟨i,h1,h2⟩:=chk_idx r (pre++[x]) h;exact⟨i,h1,by simp at h2 ⊢;omega⟩
  · exact⟨pre.length,rfl,by simp⟩
theorem checkS_idx {α:Type} {most:Nat} {err:List α→α→Int} {l:List α} (h:(checkS most err l).2≠0): ∃ i:Nat,(checkS most err l).1=i∧i<l.length:=by
 unfold checkS at h ⊢;split
 ·
  rename_i hm;exact⟨0,rfl,by omega⟩
 ·
  rename_i hm;rw[if_neg hm]at h;obtain⟨i,h1,h2⟩:=chk_idx l [] h;exact⟨i,h1,by simpa using h2⟩
theorem part_idx {t:TtD} {p:Nat} (hp:p<10) (h:(partChk t p).2≠0):(∃ i:Nat,(partChk t p).1=i∧i<partLen t p)∨(partChk t p).1= -1∧ ¬ (t.fares.disc=0∧t.fares.within=0∧t.fares.cap=0):=by
 rcases parts10 hp with rfl|rfl|rfl|rfl|rfl|rfl|rfl|rfl|rfl|rfl
 · exact .inl (checkS_idx h)
 · exact .inl (checkS_idx h)
 · exact .inl (checkS_idx h)
 · exact .inl (checkS_idx h)
 · exact .inl (checkS_idx h)
 ·
  obtain⟨i,h1,h2⟩:=checkS_idx (show(checkS 64 (freqErr (t.trips.map (·.calls))) (t.freqs.map freqOf)).2≠0 from h);exact .inl ⟨i,h1,by rw[List.length_map]at h2;exact h2⟩
 ·
  obtain⟨i,h1,h2⟩:=checkS_idx (show(checkS 128 (thrErr (t.trips.map trpX) (t.freqs.map freqOf)) (t.thrus.map thruOf)).2≠0 from h);exact .inl ⟨i,h1,by rw[List.length_map]at h2;exact h2⟩
 · exact .inl (checkS_idx h)
 · exact .inl (checkS_idx h)
 ·
  show(∃ i:Nat,(fareChk t.fares).1=i∧i<t.fares.prods.length)∨(fareChk t.fares).1= -1∧_
  have h':(fareChk t.fares).2≠0:=h;unfold fareChk at h' ⊢;split
  ·
   rename_i hb;refine .inr ⟨rfl,fun⟨e1,e2,e3⟩=>?_⟩;rw[e1,e2,e3]at hb;exact absurd hb (by decide)
  ·
   rename_i hb;rw[if_neg hb]at h';exact .inl (checkS_idx h')
theorem ttFrom_at (t:TtD): ∀ (n p:Nat),(ttFrom t n p).2.2≠0→ ∃ q:Nat,p≤q∧q<p+n∧ttFrom t n p=((q:Int),(partChk t q).1,(partChk t q).2)
 |0,p,h=>absurd rfl h
 |n+1,p,h=>by
  unfold ttFrom at h ⊢;split
  ·
   rename_i h0;rw[if_pos h0]at h;obtain⟨q,h1,h2,h3⟩:=ttFrom_at t n (p+1) h;exact⟨q,by omega,by omega,h3⟩
  · exact⟨p,Nat.le_refl _,by omega,rfl⟩
theorem getD_mem {α:Type} {l:List α} {i:Nat} {d:α} (h:i<l.length):l.getD i d∈l:=by
 rw[List.getD_eq_getElem?_getD,List.getElem?_eq_getElem h];exact List.getElem_mem _
theorem parse_line {text:List UInt8} {t:TtD} {n e:Int} (h:parseF text=(t,n,e)) (he:e≠0) (hl:(linesS text).2=0): ∃ (i:Nat) (l:List UInt8),(linesS text).1[i]? =some l∧countsL l∧n=1+i:=by
 have hP:=kept_lines (P:=fun m=> ∃ (i:Nat) (l:List UInt8),(linesS text).1[i]? =some l∧countsL l∧m=1+i) (linesS text).1 start 1 (kept_start _) (by decide) (fun i l hx hc=>⟨i,l,hx,hc,rfl⟩);unfold parseF at h;rw[if_neg (by rw[hl];simp)]at h;split at h
 ·
  rename_i h1;obtain⟨i,l,hx,hc,hn⟩:=lines_err _ _ _ h1;obtain⟨-,h2⟩:=Prod.mk.inj h;obtain⟨h3,-⟩:=Prod.mk.inj h2;exact⟨i,l,hx,hc,by rw[←h3,hn]⟩
 ·
  simp only at h;split at h
  ·
   obtain⟨-,h2⟩:=Prod.mk.inj h;obtain⟨-,h3⟩:=Prod.mk.inj h2;exact absurd h3.symm he
  ·
   rename_i hz;obtain⟨q,-,hq,hqe⟩:=ttFrom_at _ 10 0 hz;have hq10:q<10:=by omega
   have hne:(partChk (linesF start 1 (linesS text).1).1.t q).2≠0:=by
    intro k;apply hz
    show(ttFrom _ 10 0).2.2=0
    rw[hqe];exact k
   have hk:ttChk (linesF start 1 (linesS text).1).1.t=((q:Int),(partChk (linesF start 1 (linesS text).1).1.t q).1,(partChk (linesF start 1 (linesS text).1).1.t q).2):=hqe;rw[hk]at h;rcases part_idx hq10 hne with⟨i,h1,h2⟩|⟨h1,h2⟩
   ·
    rw[h1]at h;rw[if_neg (by simp)]at h;obtain⟨-,h3⟩:=Prod.mk.inj h;obtain⟨h4,-⟩:=Prod.mk.inj h3;rw[←h4];simp only[Int.toNat_natCast];have hlen:=hP.len q hq10;exact hP.good q hq10 _ (getD_mem (by omega))
   ·
    rw[h1]at h;rw[if_pos (by decide)]at h;obtain⟨-,h3⟩:=Prod.mk.inj h;obtain⟨h4,-⟩:=Prod.mk.inj h3;rw[←h4];rcases hP.rule with⟨-,r⟩|⟨-,r⟩
    · exact absurd r h2
    · exact r
def beginsG:List UInt8→Int→Int→Int→Int
 |[],i,a,n=>if a=n then i else -1
 |c::r,i,a,n=>if a=n then i else beginsG r (i+1) (if c=10 then a+1 else a) n
theorem begins_line: ∀ (l:List UInt8) (_:(10:UInt8)∉l) (r:List UInt8) (i a n:Int),a≠n→beginsG (l++10::r) i a n=beginsG r (i+l.length+1) (a+1) n
 |[],_,r,i,a,n,ha=>by
  show(if a=n then i else beginsG r (i+1) (if(10:UInt8)=10 then a+1 else a) n)=_
  rw[if_neg ha,if_pos rfl];simp
 |c::l,h,r,i,a,n,ha=>by
  have hc:c≠10:=fun e=>h (by rw[e];exact List.mem_cons_self ..)
  show(if a=n then i else beginsG (l++10::r) (i+1) (if c=10 then a+1 else a) n)=_
  rw[if_neg ha,if_neg hc,begins_line l (fun k=>h (List.mem_cons_of_mem _ k)) r (i+1) a n ha];rw[List.length_cons,show i+1+(l.length:Int)+1=i+((l.length+1:Nat):Int)+1 by omega]
theorem begins_at: ∀ (ls:List (List UInt8)) (_: ∀ l∈ls,(10:UInt8)∉l) (i a:Int) (k:Nat),k≤ls.length→beginsG (textL ls) i a (a+k)=i+(textL (ls.take k)).length
 |ls,h,i,a,0,_=>by
  rw[List.take_zero];cases hx:textL ls with
  |nil=>simp[beginsG,textL]
  |cons c r=>simp[beginsG,textL]
 |[],h,i,a,k+1,hk=>by simp at hk
 |l::ls,h,i,a,k+1,hk=>by
  have e:textL (l::ls)=l++10::textL ls:=by simp[textL]
  rw[e,begins_line l (h l (List.mem_cons_self ..)) (textL ls) i a _ (by omega)];rw[show a+((k+1:Nat):Int)=a+1+(k:Int) by omega,begins_at ls (fun x hx=>h x (List.mem_cons_of_mem _ hx)) _ _ k (by simpa using hk)];rw[List.take_succ_cons,show textL (l::ls.take k)=l++10::textL (ls.take k) by simp[textL],List.length_append,List.length_cons];omega
theorem textL_split (ls:List (List UInt8)) (k:Nat):textL ls=textL (ls.take k)++textL (ls.drop k):=by
 unfold textL;rw[←List.flatMap_append,List.take_append_drop]
theorem splitL_parts: ∀ (s:List UInt8),(∀ l∈splitL 10 s,(10:UInt8)∉l)∧textL (splitL 10 s)=s++[10]
 |[]=>⟨fun l hl=>by simp[splitL]at hl;simp[hl],rfl⟩
 |b::s=>by
  obtain⟨h1,h2⟩:=splitL_parts s;by_cases hb:b=10
  ·
   subst hb;rw[splitL_sep];refine⟨fun l hl=>?_,by rw[show textL ([]::splitL 10 s)=10::textL (splitL 10 s) by simp[textL],h2];rfl⟩;rcases List.mem_cons.1 hl with rfl|h
   · simp
   · exact h1 l h
  ·
   cases hs:splitL 10 s with
   |nil=>rw[hs]at h2;simp[textL]at h2
   |cons x r=>
    rw[splitL_other hb hs];rw[hs]at h1 h2;refine⟨fun l hl=>?_, ?_⟩
    ·
     rcases List.mem_cons.1 hl with rfl|h
     ·
      intro k;rcases List.mem_cons.1 k with k|k
      · exact hb k.symm
      · exact h1 x (List.mem_cons_self ..) k
     · exact h1 l (List.mem_cons_of_mem _ h)
    ·
     rw[show textL ((b::x)::r)=b::textL (x::r) by simp[textL],h2];rfl
theorem line_law {text:List UInt8} {t:TtD} {n e:Int} (h:parseF text=(t,n,e)) (he:e≠0) (hlen:text.length≤65536) (hlast:text.getLast?=some 10):
  1≤n∧ ∃ (i:Nat) (c:UInt8),beginsG text 0 0 (n-1)=i∧text[i]? =some c∧c≠10∧c≠35:=by
 have hne:text≠[]:=fun k=>by rw[k]at hlast;simp at hlast
 have hls:linesS text=(splitL 10 text.dropLast,0):=by
  unfold linesS;rw[if_neg (by omega),if_neg hne,if_pos hlast]
 obtain⟨i,l,hi,hc,rfl⟩:=parse_line h he (by rw[hls]);rw[hls]at hi;have hno: ∀ l∈splitL 10 text.dropLast,(10:UInt8)∉l:=(splitL_parts _).1;have htext:textL (splitL 10 text.dropLast)=text:=by
  rw[(splitL_parts _).2];obtain⟨g,hg⟩:=List.getLast?_eq_some_iff.1 hlast;rw[hg,List.dropLast_concat]
 refine⟨by omega,(textL ((splitL 10 text.dropLast).take i)).length, ?_⟩;obtain⟨hk,hkl⟩:=List.getElem?_eq_some_iff.1 hi;have hb:=begins_at (splitL 10 text.dropLast) hno 0 0 i (Nat.le_of_lt hk);rw[htext]at hb;obtain⟨c,r,rfl⟩: ∃ c r,l=c::r:=by
  cases l with
  |nil=>exact absurd rfl hc.1
  |cons c r=>exact⟨c,r,rfl⟩
 refine⟨c,by rw[show 1+(i:Int)-1=0+(i:Int) by omega,hb];omega, ?_,fun k=>hno _ (List.mem_of_getElem? hi) (by rw[k];exact List.mem_cons_self ..),fun k=>hc.2 (by rw[k];rfl)⟩;generalize splitL 10 text.dropLast=ls at*
 have hk':i<ls.length:=hk;have hkl':ls[i]=c::r:=hkl;rw[←htext,textL_split ls i,List.getElem?_append_right (Nat.le_refl _),Nat.sub_self,List.drop_eq_getElem_cons hk',hkl'];simp[textL]
end Go.Proofs.YtakedkcjplfgeaaGreatDoor.Tt
namespace Go.Proofs.YtakedkcjplfgeaaGreatDoor.Tt
open Num Clk Dat Frq Thr Fld
abbrev KeptT (s:St):Prop:=Kept (fun _=>True) s
theorem keptT_line {s:St} (h:KeptT s) (l:List UInt8) {n:Int} (h0:0<n):KeptT (lineF s l n).1:=kept_line h l n h0 (fun _=>trivial)
theorem linesF_next {s:St} {n:Int} {ls:List (List UInt8)} {k:Nat} {x:List UInt8} (hx:ls[k]? =some x) (h:(lineF s x n).2=0):linesF s n (ls.drop k)=linesF (lineF s x n).1 (n+1) (ls.drop (k+1)):=by
 obtain⟨hk,rfl⟩:=List.getElem?_eq_some_iff.1 hx;rw[List.drop_eq_getElem_cons hk];show(if _ then _ else _)=_
 rw[if_pos h]
theorem linesF_stop {s:St} {n:Int} {ls:List (List UInt8)} {k:Nat} {x:List UInt8} (hx:ls[k]? =some x) (h:(lineF s x n).2≠0):linesF s n (ls.drop k)=(s,n,(lineF s x n).2):=by
 obtain⟨hk,rfl⟩:=List.getElem?_eq_some_iff.1 hx;rw[List.drop_eq_getElem_cons hk];show(if _ then _ else _)=_
 rw[if_neg h]
theorem end_at {s:St} (h:KeptT s) {p i e:Int} (hc:ttChk s.t=(p,i,e)) (he:e≠0):i<0∨ ∃ q j:Nat,p=q∧q<10∧i=j∧j<(s.lines.getD q []).length:=by
 obtain⟨q,-,hq,hqe⟩:=ttFrom_at s.t 10 0 (by show(ttChk s.t).2.2≠0;rw[hc];exact he);have hq10:q<10:=by omega
 have hk:ttChk s.t=((q:Int),(partChk s.t q).1,(partChk s.t q).2):=hqe;rw[hc]at hk;obtain⟨h1,h2⟩:=Prod.mk.inj hk;obtain⟨h3,h4⟩:=Prod.mk.inj h2;rcases part_idx hq10 (by rw[←h4];exact he)with⟨j,k1,k2⟩|⟨k1,-⟩
 · exact .inr ⟨q,j,h1,hq10,by rw[h3,k1],by rw[h.len q hq10];exact k2⟩
 · exact .inl (by rw[h3,k1];decide)
theorem parse_read {text:List UInt8} {ls:List (List UInt8)} {s:St} {n0:Int} (hl:linesS text=(ls,0)) (hs:linesF start 1 ls=(s,n0,0)) {p i e:Int} (hc:ttChk s.t=(p,i,e)):parseF text=if e=0 then(s.t,0,0)else if i<0 then(emptyT,s.rules,e)else(emptyT,(s.lines.getD p.toNat []).getD i.toNat 0,e):=by
 unfold parseF;rw[hl,if_neg (by simp),hs,if_neg (by simp)];simp only[hc]
theorem parse_stop {text:List UInt8} {ls:List (List UInt8)} {s:St} {n e:Int} (hl:linesS text=(ls,0)) (hs:linesF start 1 ls=(s,n,e)) (he:e≠0):parseF text=(emptyT,n,e):=by
 unfold parseF;rw[hl,if_neg (by simp),hs,if_pos he]
theorem parse_torn {text:List UInt8} {ls:List (List UInt8)} {e:Int} (hl:linesS text=(ls,e)) (he:e≠0):parseF text=(emptyT,0,e):=by
 unfold parseF;rw[hl,if_pos he]
theorem splitL_size (c:UInt8): ∀ (s:List UInt8),(splitL c s).length≤s.length+1∧ ∀ l∈splitL c s,l.length≤s.length
 |[]=>by simp[splitL]
 |b::s=>by
  obtain⟨h1,h2⟩:=splitL_size c s;unfold splitL;split
  ·
   refine⟨by simp;omega,fun l hl=>?_⟩;rcases List.mem_cons.1 hl with rfl|hl
   · simp
   · have:=h2 l hl;simp;omega
  ·
   cases hq:splitL c s with
   |nil=>exact⟨by simp,fun l hl=>by simp at hl;subst hl;simp⟩
   |cons a r=>
    rw[hq]at h1 h2;refine⟨by simpa using Nat.le_succ_of_le h1,fun l hl=>?_⟩;rcases List.mem_cons.1 hl with rfl|hl
    · have:=h2 a (by simp);simp;omega
    · have:=h2 l (List.mem_cons_of_mem _ hl);simp;omega
theorem lines_size {text:List UInt8} {ls:List (List UInt8)} (h:linesS text=(ls,0)):ls.length≤65537∧ ∀ l∈ls,l.length≤65536:=by
 unfold linesS at h;split at h
 · exact absurd (Prod.mk.inj h).2 (by decide)
 ·
  rename_i h0;split at h
  ·
   obtain⟨rfl,-⟩:=Prod.mk.inj h;exact⟨by simp,fun l hl=>by cases hl⟩
  ·
   split at h
   ·
    obtain⟨rfl,-⟩:=Prod.mk.inj h;obtain⟨k1,k2⟩:=splitL_size 10 text.dropLast;rw[List.length_dropLast]at k1 k2;exact⟨by omega,fun l hl=>by have:=k2 l hl;omega⟩
   · exact absurd (Prod.mk.inj h).2 (by decide)
end Go.Proofs.YtakedkcjplfgeaaGreatDoor.Tt
namespace Go.Proofs.YtakedkcjplfgeaaGreatDoor.Tt
open Num Clk Dat Frq Thr Fld
theorem inner_len (l:List UInt8):(inner l).length≤4*l.length:=by
 induction l with
 |nil=>simp[inner]
 |cons b r ih=>
  have e:inner (b::r)=escB b++inner r:=by simp[inner]
  have h:(escB b).length≤4:=by
   unfold escB;split
   · simp
   · split<;>simp
  rw[e,List.length_append,List.length_cons];omega
theorem quote_len (x:List UInt8):(quoteS x).length≤4*x.length+2:=by
 unfold quoteS;split
 · omega
 ·
  have:=inner_len x;simp
  omega
abbrev isI (n:Int):Prop:= -9223372036854775808≤n∧n≤9223372036854775807
theorem itoa_len {n:Int} (h:isI n):(itoa n).length≤100:=by
 have hd: ∀ u:Nat,u≤9223372036854775808→(decDigits u).length≤19:=fun u hu=>length_19 u hu
 unfold itoa;split
 ·
  have:=hd n.natAbs (by omega);simp
  omega
 ·
  have:=hd n.toNat (by omega);omega
end Go.Proofs.YtakedkcjplfgeaaGreatDoor.Tt
namespace Go.Proofs.YtakedkcjplfgeaaGreatDoor.Tt
open Num Clk Dat Frq Thr Fld
theorem dur_len {n:Int}:(durT n).length≤100:=by
 unfold durT;split
 ·
  rename_i h;have h1:=length_19 (n.toNat / 3600) (by omega);have h2:=length_19 (n.toNat / 60) (by omega);have h3:=length_19 n.toNat (by omega);unfold durText;split
  · simp[two];omega
  ·
   split
   · simp[two];omega
   · simp;omega
 · simp
theorem price_len {c:Int}:(fmtPrice c).1.length≤100:=by
 unfold fmtPrice;split
 · simp
 ·
  rename_i h;have h1:=length_19 (c.toNat / 100) (by omega);unfold priceText;simp
  omega
theorem fmt_len {t:Int}:(fmt t).1.length≤100:=by
 unfold fmt;split
 · simp[clockText,two]
 · simp
theorem dfmt_len {d:Int}:(dfmt d).1.length≤100:=by
 unfold dfmt;split
 · simp[dtext,two]
 · simp
theorem yes_len (b:Bool):(yesT b).length≤100:=by cases b<;>decide
theorem week_len (w:WeekD):(weekT w).length≤100:=by simp[weekT]
theorem mode_len {m:Int} (h:0≤m∧m≤7):(modeT m).length≤100:=by
 have:m=0∨m=1∨m=2∨m=3∨m=4∨m=5∨m=6∨m=7:=by omega
 rcases this with rfl|rfl|rfl|rfl|rfl|rfl|rfl|rfl<;>decide
theorem modes_len_all: ∀ m:Fin 256,(modesT (m.val:Int)).length≤100:=by decide+kernel
theorem modes_len {m:Int} (h:0≤m∧m≤255):(modesT m).length≤100:=by
 have:=modes_len_all ⟨m.toNat,by omega⟩;simpa[Int.toNat_of_nonneg h.1]using this
end Go.Proofs.YtakedkcjplfgeaaGreatDoor.Tt
namespace Go.Proofs.YtakedkcjplfgeaaGreatDoor.Tt
open Num Clk Dat Frq Thr Fld
theorem perm_len (c:CallD):(permT c).length≤100:=by
 unfold permT;split
 · decide
 ·
  split
  · decide
  · split<;>decide
end Go.Proofs.YtakedkcjplfgeaaGreatDoor.Tt
namespace Go.Proofs.YtakedkcjplfgeaaGreatDoor.Tt
open Num Clk Dat Frq Thr Fld
theorem ttFrom_zero (t:TtD): ∀ (n p:Nat),(ttFrom t n p).2.2=0→ ∀ k,p≤k→k<p+n→(partChk t k).2=0
 |0,p,_,k,h1,h2=>by omega
 |n+1,p,h,k,h1,h2=>by
  unfold ttFrom at h;split at h
  ·
   rename_i h0;by_cases hk:k=p
   · rw[hk];exact h0
   · exact ttFrom_zero t n (p+1) h k (by omega) (by omega)
  ·
   rename_i h0;exact absurd h h0
theorem out_false {n lo hi:Int} (h:outside n lo hi=false):lo≤n∧n≤hi:=by
 unfold outside at h;rw[Bool.or_eq_false_iff]at h;have h1:=of_decide_eq_false h.1;have h2:=of_decide_eq_false h.2;omega
theorem day_true {d:Int} (h:dayB d=true):0≤d∧d≤36524:=by
 unfold dayB at h;rw[Bool.and_eq_true]at h;exact⟨of_decide_eq_true h.1,of_decide_eq_true h.2⟩
theorem name_len {l:List UInt8} (h:nameB l=true):l.length≤32:=by
 unfold nameB at h;rw[Bool.and_eq_true,Bool.and_eq_true]at h;exact of_decide_eq_true h.2.2
theorem ite_zero {p:Prop} [Decidable p] {a b:Int} (ha:a≠0) (h:(if p then a else b)=0): ¬ p∧b=0:=by
 split at h
 · exact absurd h ha
 · exact⟨by assumption,h⟩
theorem nodup_of {α:Type} (f:α→List UInt8): ∀ (l pre:List α),(pre.map f).Nodup→(∀ (k:Nat) (x:α),l[k]? =some x→((pre++l.take k).any fun y=>f y==f x)=false)→((pre++l).map f).Nodup
 |[],pre,hp,_=>by rw[List.append_nil];exact hp
 |x::l,pre,hp,h=>by
  have h0:=h 0 x rfl;rw[List.take_zero,List.append_nil]at h0;have hx:(pre++[x]).map f |>.Nodup:=by
   rw[List.map_append,List.nodup_append];refine⟨hp,by simp,fun a ha b hb=>?_⟩;rw[List.map_singleton,List.mem_singleton]at hb;obtain⟨y,hy,rfl⟩:=List.mem_map.1 ha;have:=List.any_eq_false.1 h0 y hy;rw[hb];simpa using this
  have:=nodup_of f l (pre++[x]) hx (fun k z hz=>by
   have:=h (k+1) z hz;rw[List.take_succ_cons]at this;rw[List.append_assoc];exact this)
  rw[List.append_assoc]at this;exact this
theorem nodup_map {α:Type} (f:α→List UInt8) (l:List α) (h: ∀ (k:Nat) (x:α),l[k]? =some x→((l.take k).any fun y=>f y==f x)=false):(l.map f).Nodup:=by
 have:=nodup_of f l [] (by simp) (by simpa using h);simpa using this
theorem callsF_mem {stops lo hi:Int}: ∀ {l:List CallD} {p:Option CallD},callsF stops lo hi p l=0→ ∀ c∈l,(0≤c.stop∧c.stop<stops)∧lo≤c.arrive∧c.arrive≤c.depart∧c.depart≤hi
 |[],_,_,c,hc=>by cases hc
 |x::r,p,h,c,hc=>by
  unfold callsF at h;split at h
  ·
   rename_i h0;rcases List.mem_cons.1 hc with rfl|hc
   ·
    unfold callErr at h0;obtain⟨a1,h0⟩:=ite_zero (by decide) h0;obtain⟨-,h0⟩:=ite_zero (by decide) h0;obtain⟨a3,-⟩:=ite_zero (by decide) h0;rw[not_or]at a1;rw[not_or,not_or,not_or]at a3;omega
   · exact callsF_mem h c hc
  ·
   rename_i h0;exact absurd h h0
theorem calls_mem {stops lo hi:Int} {l:List CallD} (h:callsErr stops lo hi l=0): ∀ c∈l,(0≤c.stop∧c.stop<stops)∧lo≤c.arrive∧c.arrive≤c.depart∧c.depart≤hi:=by
 unfold callsErr at h;exact callsF_mem (ite_zero (by decide) h).2
theorem gua_in {ts:List TrpD} {fs:List FreqD} {stops:Int} {pre:List GuaD} {x:GuaD} (h:guaErr ts fs stops pre x=0):(0≤x.frm∧x.frm<ts.length)∧(0≤x.to∧x.to<ts.length)∧(0≤x.stop∧x.stop<stops):=by
 unfold guaErr at h;obtain⟨a1,h⟩:=ite_zero (by decide) h;obtain⟨a2,-⟩:=ite_zero (by decide) h;have b1:pairB ts.length x.frm x.to=true:=by simpa using a1
 have b2:inB x.stop stops=true:=by simpa using a2
 obtain⟨c1,c2⟩:=pairB_in b1;unfold inB at b2;rw[Bool.and_eq_true]at b2;exact⟨c1,c2,of_decide_eq_true b2.1,of_decide_eq_true b2.2⟩
structure Valid (t:TtD):Prop where
 stops: ∀ x∈t.stops,x.id.length≤32∧isI x.zone∧isI x.change
 nstops:(t.stops.map (·.id)).Nodup
 routes: ∀ x∈t.routes,x.id.length≤32∧(0≤x.mode∧x.mode≤7)
 nroutes:(t.routes.map (·.id)).Nodup
 cals: ∀ x∈t.cals,x.id.length≤32∧(0≤x.frm∧x.frm≤36524)∧(0≤x.to∧x.to≤36524)
 ncals:(t.cals.map (·.id)).Nodup
 excs: ∀ x∈t.excs,(0≤x.cal∧x.cal<t.cals.length)∧(0≤x.day∧x.day≤36524)
 trips: ∀ x∈t.trips,x.id.length≤32∧(0≤x.route∧x.route<t.routes.length)∧(0≤x.cal∧x.cal<t.cals.length)∧ ∀ c∈x.calls,(0≤c.stop∧c.stop<t.stops.length)∧(0≤c.arrive∧c.arrive≤172800)∧(0≤c.depart∧c.depart≤172800)
 ntrips:(t.trips.map (·.id)).Nodup
 freqs: ∀ x∈t.freqs,(0≤x.trip∧x.trip<t.trips.length)∧(0≤x.frm∧x.frm≤172800)∧(0≤x.to∧x.to≤172800)∧(0≤x.every∧x.every≤359999)
 thrus: ∀ x∈t.thrus,(0≤x.frm∧x.frm<t.trips.length)∧(0≤x.to∧x.to<t.trips.length)
 guars: ∀ x∈t.guars,(0≤x.frm∧x.frm<t.trips.length)∧(0≤x.to∧x.to<t.trips.length)∧(0≤x.stop∧x.stop<t.stops.length)
 paths: ∀ x∈t.paths,(0≤x.frm∧x.frm<t.stops.length)∧(0≤x.to∧x.to<t.stops.length)∧(0≤x.secs∧x.secs≤359999)
 fares:(0≤t.fares.disc∧t.fares.disc≤1000000)∧(0≤t.fares.within∧t.fares.within≤359999)∧(0≤t.fares.cap∧t.fares.cap≤1000000)
 prods: ∀ x∈t.fares.prods,x.id.length≤32∧(0≤x.price∧x.price≤1000000)∧isI x.rides∧isI x.zones∧(0≤x.secs∧x.secs≤359999)∧(0≤x.modes∧x.modes≤255)
theorem check_at {α:Type} {err:List α→α→Int} {most:Nat} {l:List α} (h:(checkS most err l).2=0) (k:Nat) (x:α) (hk:l[k]? =some x):err (l.take k) x=0:=(check_ok h).2 hk
theorem valid_of {t:TtD} (h:(ttChk t).2.2=0):Valid t:=by
 have hp: ∀ k,k<10→(partChk t k).2=0:=fun k hk=>ttFrom_zero t 10 0 h k (Nat.zero_le _) (by omega)
 have h0:=check_at (hp 0 (by decide));have h1:=check_at (hp 1 (by decide));have h2:=check_at (hp 2 (by decide));have h3:=check_at (hp 3 (by decide));have h4:=check_at (hp 4 (by decide));have h5:=check_at (hp 5 (by decide));have h6:=check_at (hp 6 (by decide));have h7:=check_at (hp 7 (by decide));have h8:=check_at (hp 8 (by decide));have h9:(fareChk t.fares).2=0:=hp 9 (by decide);clear hp h;have nameF: ∀ {b:Bool},¬ b=false→b=true:=fun{b} h=>by cases b<;>simp_all
 have anyF: ∀ {b:Bool},¬ b=true→b=false:=fun{b} h=>by cases b<;>simp_all
 refine⟨?_, ?_, ?_, ?_, ?_, ?_, ?_, ?_, ?_, ?_, ?_, ?_, ?_, ?_, ?_⟩
 ·
  intro x hx;obtain⟨k,hk⟩:=List.getElem?_of_mem hx;have e:=h0 k x hk;unfold stopErr at e;obtain⟨a1,e⟩:=ite_zero (by decide) e;obtain⟨-,e⟩:=ite_zero (by decide) e;obtain⟨a3,-⟩:=ite_zero (by decide) e;have a3:=anyF a3;rw[Bool.or_eq_false_iff]at a3;have b1:=out_false a3.1;have b2:=out_false a3.2;exact⟨name_len (nameF a1),⟨by omega,by omega⟩,⟨by omega,by omega⟩⟩
 ·
  refine nodup_map _ _ fun k x hk=>?_
  have e:=h0 k x hk;unfold stopErr at e;obtain⟨a1,e⟩:=ite_zero (by decide) e;exact anyF (ite_zero (by decide) e).1
 ·
  intro x hx;obtain⟨k,hk⟩:=List.getElem?_of_mem hx;have e:=h1 k x hk;unfold routeErr at e;obtain⟨a1,e⟩:=ite_zero (by decide) e;obtain⟨-,e⟩:=ite_zero (by decide) e;obtain⟨a3,-⟩:=ite_zero (by decide) e;exact⟨name_len (nameF a1),out_false (anyF a3)⟩
 ·
  refine nodup_map _ _ fun k x hk=>?_
  have e:=h1 k x hk;unfold routeErr at e;obtain⟨a1,e⟩:=ite_zero (by decide) e;exact anyF (ite_zero (by decide) e).1
 ·
  intro x hx;obtain⟨k,hk⟩:=List.getElem?_of_mem hx;have e:=h2 k x hk;unfold calErr at e;obtain⟨a1,e⟩:=ite_zero (by decide) e;obtain⟨-,e⟩:=ite_zero (by decide) e;obtain⟨a3,-⟩:=ite_zero (by decide) e;have a3:=anyF a3;rw[Bool.or_eq_false_iff,Bool.or_eq_false_iff]at a3;exact⟨name_len (nameF a1),day_true (by simpa using a3.1),day_true (by simpa using a3.2.1)⟩
 ·
  refine nodup_map _ _ fun k x hk=>?_
  have e:=h2 k x hk;unfold calErr at e;obtain⟨a1,e⟩:=ite_zero (by decide) e;exact anyF (ite_zero (by decide) e).1
 ·
  intro x hx;obtain⟨k,hk⟩:=List.getElem?_of_mem hx;have e:=h3 k x hk;unfold excErr at e;obtain⟨a1,e⟩:=ite_zero (by decide) e;obtain⟨a2,e⟩:=ite_zero (by decide) e;have b1:=out_false (anyF a1);exact⟨⟨by omega,by omega⟩,day_true (nameF a2)⟩
 ·
  intro x hx;obtain⟨k,hk⟩:=List.getElem?_of_mem hx;have e:=h4 k x hk;unfold tripErr at e;obtain⟨a1,e⟩:=ite_zero (by decide) e;obtain⟨-,e⟩:=ite_zero (by decide) e;obtain⟨a3,e⟩:=ite_zero (by decide) e;have a3:=anyF a3;rw[Bool.or_eq_false_iff]at a3;have b1:=out_false a3.1;have b2:=out_false a3.2;refine⟨name_len (nameF a1),⟨by omega,by omega⟩,⟨by omega,by omega⟩,fun c hc=>?_⟩;have:=calls_mem e c hc;omega
 ·
  refine nodup_map _ _ fun k x hk=>?_
  have e:=h4 k x hk;unfold tripErr at e;obtain⟨a1,e⟩:=ite_zero (by decide) e;exact anyF (ite_zero (by decide) e).1
 ·
  intro x hx;obtain⟨k,hk⟩:=List.getElem?_of_mem hx;have e:=h5 k (freqOf x) (by rw[List.getElem?_map,hk];rfl);unfold freqErr at e;obtain⟨a1,e⟩:=ite_zero (by decide) e;rw[not_or,List.length_map]at a1;have a1: ¬ x.trip<0∧ ¬ (t.trips.length:Int)≤x.trip:=a1;split at e
  ·
   rename_i hs;rw[Bool.and_eq_true]at hs;have:sound (freqOf x):=of_decide_eq_true hs.1;obtain⟨s1,s2,s3,s4,s5⟩:0≤x.frm∧x.frm<x.to∧x.to≤172800∧1≤x.every∧x.every≤86400:=this;omega
  · exact absurd e (by decide)
 ·
  intro x hx;obtain⟨k,hk⟩:=List.getElem?_of_mem hx;have e:=h6 k (thruOf x) (by rw[List.getElem?_map,hk];rfl);have:=pairB_in (thrErr_zero e).1;rw[List.length_map]at this;exact this
 ·
  intro x hx;obtain⟨k,hk⟩:=List.getElem?_of_mem hx;have e:=h7 k x hk;have:=gua_in e;rw[List.length_map]at this;exact this
 ·
  intro x hx;obtain⟨k,hk⟩:=List.getElem?_of_mem hx;have e:=h8 k x hk;unfold pathErr at e;obtain⟨a1,e⟩:=ite_zero (by decide) e;obtain⟨a2,e⟩:=ite_zero (by decide) e;have a1:=anyF a1;rw[Bool.or_eq_false_iff,Bool.or_eq_false_iff]at a1;have b1:=out_false a1.1;have b2:=out_false a1.2.1;have b3:=out_false (anyF a2);omega
 ·
  unfold fareChk at h9;split at h9
  · exact absurd h9 (by decide)
  ·
   rename_i a;have a:=anyF a;rw[Bool.or_eq_false_iff,Bool.or_eq_false_iff]at a;have b1:=out_false a.1;have b2:=out_false a.2.1;have b3:=out_false a.2.2;omega
 ·
  unfold fareChk at h9;split at h9
  · exact absurd h9 (by decide)
  ·
   intro x hx;obtain⟨k,hk⟩:=List.getElem?_of_mem hx;have e:=(check_ok h9).2 hk;unfold prodErr at e;obtain⟨a1,e⟩:=ite_zero (by decide) e;obtain⟨-,e⟩:=ite_zero (by decide) e;obtain⟨a3,-⟩:=ite_zero (by decide) e;have a3:=anyF a3;rw[Bool.or_eq_false_iff,Bool.or_eq_false_iff,Bool.or_eq_false_iff,Bool.or_eq_false_iff]at a3;have b1:=out_false a3.1;have b2:=out_false a3.2.1;have b3:=out_false a3.2.2.1;have b4:=out_false a3.2.2.2.1;have b5:=out_false a3.2.2.2.2;exact⟨name_len (nameF a1),b1,⟨by omega,by omega⟩,⟨by omega,by omega⟩,by omega,by omega⟩
theorem parse_valid {s:List UInt8} {t:TtD} {k:Int} (h:parseF s=(t,k,0)):(ttChk t).2.2=0∧k=0:=by
 unfold parseF at h;split at h
 ·
  rename_i h0;simp only[Prod.mk.injEq]at h;exact absurd h.2.2 h0
 ·
  split at h
  ·
   rename_i h0;simp only[Prod.mk.injEq]at h;exact absurd h.2.2 h0
  ·
   simp only at h;split at h
   ·
    rename_i h0;simp only[Prod.mk.injEq]at h;rw[←h.1];exact⟨h0,h.2.1.symm⟩
   ·
    rename_i h0;split at h
    ·
     simp only[Prod.mk.injEq]at h;exact absurd h.2.2 h0
    ·
     simp only[Prod.mk.injEq]at h;exact absurd h.2.2 h0
end Go.Proofs.YtakedkcjplfgeaaGreatDoor.Tt
namespace Go.Proofs.YtakedkcjplfgeaaGreatDoor.Tt
def bitsTo (n k:Nat):List Nat:=(List.range k).filter fun i=>n>>>i%2=1
theorem bitsTo_yes {n k:Nat} (h:n>>>k%2=1):bitsTo n (k+1)=bitsTo n k++[k]:=by
 unfold bitsTo;rw[List.range_succ,List.filter_append,List.filter_cons_of_pos (p:=fun i=>decide (n>>>i%2=1)) (decide_eq_true h)];rfl
theorem bitsTo_no {n k:Nat} (h: ¬ n>>>k%2=1):bitsTo n (k+1)=bitsTo n k:=by
 unfold bitsTo;rw[List.range_succ,List.filter_append,List.filter_cons_of_neg (p:=fun i=>decide (n>>>i%2=1)) (by rw[decide_eq_false h];decide)];simp
theorem shift_zero {n k:Nat} (h:n<256) (hk:8≤k):n>>>k=0:=by
 rw[Nat.shiftRight_eq_div_pow];exact Nat.div_eq_of_lt (Nat.lt_of_lt_of_le h (Nat.pow_le_pow_right (by omega) hk:2 ^ 8≤2 ^ k))
theorem bitsTo_far {n:Nat} (h:n<256): ∀ j,bitsTo n (8+j)=bitsOf n
 |0=>rfl
 |j+1=>by
  rw[←Nat.add_assoc,bitsTo_no (by rw[shift_zero h (by omega)];decide)];exact bitsTo_far h j
theorem bitsTo_lt {n k i:Nat} (h:n<256) (hi:i∈bitsTo n k):i<8:=by
 unfold bitsTo at hi;rw[List.mem_filter]at hi;rcases Nat.lt_or_ge i 8 with h8|h8
 · exact h8
 ·
  have:=hi.2;rw[shift_zero h h8]at this;exact absurd this (by decide)
theorem bitsTo_len (n k:Nat):(bitsTo n k).length≤k:=by
 unfold bitsTo;exact Nat.le_trans (List.length_filter_le _ _) (by simp)
def mword (i:Nat):List UInt8:=modeWords.getD i []
def mtext (l:List Nat):List UInt8:=((l.map mword).intersperse [43]).flatten
theorem intersperse_snoc {α:Type} (s x:α): ∀ (l:List α),l≠[]→(l++[x]).intersperse s=l.intersperse s++[s,x]
 |[],h=>absurd rfl h
 |[a],_=>rfl
 |a::b::r,_=>by
  have ih:=intersperse_snoc s x (b::r) (by simp);show a::s::((b::r)++[x]).intersperse s=a::s::(b::r).intersperse s++[s,x]
  rw[ih];rfl
theorem mword_ne {i:Nat} (h:i<8):mword i≠[]:=by
 rcases i with _|_|_|_|_|_|_|_|i
 all_goals first
  |decide
  |omega
theorem mtext_ne {l:List Nat} (h: ∀ i∈l,i<8) (hl:l≠[]):mtext l≠[]:=by
 cases l with
 |nil=>exact absurd rfl hl
 |cons a r=>
  have ha:=mword_ne (h a (by simp));cases r with
  |nil=>simpa[mtext]using ha
  |cons b r=>
   intro e;have:mword a++([43]++((b::r).map mword |>.intersperse [43]).flatten)=[]:=e;exact ha (List.append_eq_nil_iff.1 this).1
theorem mtext_snoc {l:List Nat} (h: ∀ i∈l,i<8) (i:Nat):mtext (l++[i])=if mtext l=[]then mword i else mtext l++[43]++mword i:=by
 by_cases hl:l=[]
 ·
  subst hl;simp[mtext]
 ·
  rw[if_neg (mtext_ne h hl)];unfold mtext;rw[List.map_append,List.map_cons,List.map_nil,intersperse_snoc _ _ _ (by simpa using hl)];simp
theorem mword_len {i:Nat} (h:i<8):(mword i).length≤9:=by
 rcases i with _|_|_|_|_|_|_|_|i
 all_goals first
  |decide
  |omega
theorem mtext_len: ∀ {l:List Nat},(∀ i∈l,i<8)→(mtext l).length≤10*l.length
 |[],_=>by simp[mtext]
 |[a],h=>by
  have:=mword_len (h a (by simp));simp[mtext]
  omega
 |a::b::r,h=>by
  have ih:=mtext_len (l:=b::r) (fun i hi=>h i (List.mem_cons_of_mem _ hi));have ha:=mword_len (h a (by simp));have:mtext (a::b::r)=mword a++([43]++mtext (b::r)):=rfl;rw[this];simp only[List.length_append,List.length_cons,List.length_nil]at ih ⊢;omega
theorem modesT_in {m:Int} (h0:1≤m) (h1:m≤255):modesT m=mtext (bitsTo m.toNat 64):=by
 unfold modesT;rw[if_neg (by omega),if_neg (by omega)];have:=bitsTo_far (n:=m.toNat) (by omega) 56;rw[this];rfl
end Go.Proofs.YtakedkcjplfgeaaGreatDoor.Tt
