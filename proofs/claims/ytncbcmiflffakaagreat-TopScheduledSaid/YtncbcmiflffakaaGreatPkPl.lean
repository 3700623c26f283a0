/-
  What the laws of top need of TPlain. Conditions: those of each lemma.
-/

set_option maxRecDepth 1000000
set_option maxHeartbeats 32000000
namespace Go.Proofs.YtncbcmiflffakaaGreat.Thr
structure ThrD where
 frm:Int
 to:Int
def nextS (l:List ThrD) (t:Int):Option ThrD:=l.find? fun x=>x.frm==t
def nextN (l:List ThrD) (t:Int):Int:=match nextS l t with
 |some x=>x.to
 |none=>0
def nextB (l:List ThrD) (t:Int):Bool:=(nextS l t).isSome
theorem next_none {l:List ThrD} {t:Int} (h:nextS l t=none):nextN l t=0∧nextB l t=false:=by unfold nextN nextB;rw[h];exact⟨rfl,rfl⟩
theorem next_some {l:List ThrD} {t:Int} {x:ThrD} (h:nextS l t=some x):nextN l t=x.to∧nextB l t=true:=by unfold nextN nextB;rw[h];exact⟨rfl,rfl⟩
def lastI (out:List Int):Int:=out.getLastD 0
theorem lastI_at {out:List Int} {k:Nat} (h:out.length=k+1):out[k]? =some (lastI out):=by
 unfold lastI;cases out with
 |nil=>simp at h
 |cons x r=>
  have:k=(x::r).length-1:=by omega
  rw[this,←List.getLast?_eq_getElem?];rfl
def stepC (l:List ThrD) (out:List Int):Option Int:=match nextS l (lastI out)with
 |none=>none
 |some x=>if out.contains x.to then none else some x.to
theorem stepC_none {l:List ThrD} {out:List Int} (h:nextS l (lastI out)=none):stepC l out=none:=by unfold stepC;rw[h]
theorem stepC_used {l:List ThrD} {out:List Int} {x:ThrD} (h:nextS l (lastI out)=some x) (hc:out.contains x.to=true):stepC l out=none:=by unfold stepC;rw[h];simp only[hc,if_true]
theorem stepC_go {l:List ThrD} {out:List Int} {x:ThrD} (h:nextS l (lastI out)=some x) (hc:out.contains x.to=false):stepC l out=some x.to:=by unfold stepC;rw[h];simp only[hc];rfl
def chainN (l:List ThrD):Nat→List Int→List Int
 |0,out=>out
 |f+1,out=>match stepC l out with
  |none=>out
  |some n=>chainN l f (out++[n])
def chainS (l:List ThrD) (trip:Int):List Int:=chainN l l.length [trip]
theorem chainN_stop {l:List ThrD} {out:List Int} (h:stepC l out=none): ∀ f,chainN l f out=out
 |0=>rfl
 |f+1=>by simp only[chainN,h]
theorem chainN_go {l:List ThrD} {out:List Int} {n:Int} {f:Nat} (h:stepC l out=some n):chainN l (f+1) out=chainN l f (out++[n]):=by simp only[chainN,h]
theorem stepC_mem {l:List ThrD} {out:List Int} {n:Int} (h:stepC l out=some n):n∉out∧ ∃ x,nextS l (lastI out)=some x∧x.to=n∧x∈l:=by
 unfold stepC at h;split at h
 · cases h
 ·
  rename_i x hx;split at h
  · cases h
  ·
   rename_i hc;cases h
   exact⟨fun hm=>hc (by simpa using hm),x,hx,rfl,List.mem_of_find?_eq_some hx⟩
theorem nodup_le {a:List Int}: ∀ {b:List Int},a.Nodup→(∀ x∈a,x∈b)→a.length≤b.length:=by
 induction a with
 |nil=>intro b _ _;exact Nat.zero_le _
 |cons y a ih=>
  intro b hn hs;have hy:y∈b:=hs y (List.mem_cons_self ..);have h1:=ih (b:=b.erase y) (List.nodup_cons.1 hn).2 fun x hx=>by
   have hxy:x≠y:=fun e=>(List.nodup_cons.1 hn).1 (e ▸ hx)
   exact(List.mem_erase_of_ne hxy).2 (hs x (List.mem_cons_of_mem _ hx))
  rw[List.length_erase_of_mem hy]at h1;have:=List.length_pos_of_mem hy;rw[List.length_cons];omega
structure Making (l:List ThrD) (trip:Int) (out:List Int):Prop where
 head:out[0]? =some trip
 nodup:out.Nodup
 rest: ∀ n∈out.tail,n∈l.map ThrD.to
 link: ∀ (j:Nat) (a b:Int),out[j]? =some a→out[j+1]? =some b→ ∃ x,nextS l a=some x∧x.to=b
theorem making_one (l:List ThrD) (trip:Int):Making l trip [trip] where
 head:=rfl
 nodup:=by simp
 rest:=by simp
 link:=by intro j a b _ h;simp at h
theorem Making.pos {l:List ThrD} {trip:Int} {out:List Int} (h:Making l trip out):0<out.length:=(List.getElem?_eq_some_iff.1 h.head).1
theorem Making.step {l:List ThrD} {trip:Int} {out:List Int} (h:Making l trip out) {n:Int} (hs:stepC l out=some n):Making l trip (out++[n]):=by
 obtain⟨hno,x,hx,hxt,hxl⟩:=stepC_mem hs;have hp:=h.pos;obtain⟨m,hm⟩: ∃ m,out.length=m+1:=⟨out.length-1,by omega⟩;refine⟨?_, ?_, ?_, ?_⟩
 · rw[List.getElem?_append_left hp];exact h.head
 ·
  rw[List.nodup_append];exact⟨h.nodup,by simp,fun a ha b hb e=>hno (by rw[List.mem_singleton]at hb;rw[←hb,←e];exact ha)⟩
 ·
  intro y hy;rw[List.tail_append_of_ne_nil (by intro e;rw[e]at hp;simp at hp)]at hy;rcases List.mem_append.1 hy with hy|hy
  · exact h.rest y hy
  ·
   rw[List.mem_singleton]at hy;rw[hy,←hxt];exact List.mem_map_of_mem hxl
 ·
  intro j a b ha hb;by_cases hj:j+1<out.length
  ·
   rw[List.getElem?_append_left (by omega)]at ha;rw[List.getElem?_append_left hj]at hb;exact h.link j a b ha hb
  ·
   have hjl:j+1<(out++[n]).length:=(List.getElem?_eq_some_iff.1 hb).1;rw[List.length_append,List.length_singleton]at hjl;have hjm:j=m:=by omega
   subst hjm;rw[List.getElem?_append_left (by omega),lastI_at hm]at ha;rw[List.getElem?_append_right (by omega),hm,Nat.sub_self]at hb;simp at ha hb
   subst ha hb;exact⟨x,hx,hxt⟩
theorem Making.len {l:List ThrD} {trip:Int} {out:List Int} (h:Making l trip out):out.length≤l.length+1:=by
 have h1:=nodup_le (a:=out.tail) (b:=l.map ThrD.to) (h.nodup.sublist (List.tail_sublist _)) h.rest;rw[List.length_tail,List.length_map]at h1;omega
theorem Making.full {l:List ThrD} {trip:Int} {out:List Int} (h:Making l trip out) (hl:out.length=l.length+1):stepC l out=none:=by
 cases hs:stepC l out with
 |none=>rfl
 |some n=>
  have:=(h.step hs).len;rw[List.length_append,List.length_singleton]at this;omega
theorem making_chain {l:List ThrD} {trip:Int}: ∀ (f:Nat) (out:List Int),Making l trip out→Making l trip (chainN l f out)
 |0,out,h=>h
 |f+1,out,h=>by
  cases hs:stepC l out with
  |none=>rw[chainN_stop hs];exact h
  |some n=>rw[chainN_go hs];exact making_chain f _ (h.step hs)
theorem chainS_making (l:List ThrD) (trip:Int):Making l trip (chainS l trip):=making_chain _ _ (making_one l trip)
inductive EndsN (l:List ThrD):Nat→Int→Prop
 |stop {t:Int}:nextS l t=none→EndsN l 0 t
 |step {k:Nat} {t:Int} {x:ThrD}:nextS l t=some x→EndsN l k x.to→EndsN l (k+1) t
theorem EndsN.one {l:List ThrD} {k:Nat} {t:Int} (h:EndsN l k t): ∀ {k':Nat},EndsN l k' t→k=k':=by
 induction h with
 |stop h0=>
  intro k' h';cases h' with
  |stop=>rfl
  |step h1 _=>rw[h0]at h1;cases h1
 |step h0 _ ih=>
  intro k' h';cases h' with
  |stop h1=>rw[h0]at h1;cases h1
  |step h1 h2=>
   rw[h0]at h1;cases h1
   rw[ih h2]
end Go.Proofs.YtncbcmiflffakaaGreat.Thr
namespace Go.Proofs.YtncbcmiflffakaaGreat.Frq
structure FreqD where
 trip:Int
 frm:Int
 to:Int
 every:Int
structure CallD where
 stop:Int
 arrive:Int
 depart:Int
 board:Bool
 alight:Bool
 deriving DecidableEq
def sound (f:FreqD):Prop:=0≤f.frm∧f.frm<f.to∧f.to≤172800∧1≤f.every∧f.every≤86400
instance (f:FreqD):Decidable (sound f):=by unfold sound;infer_instance
def soundB (f:FreqD):Bool:=decide (sound f)
theorem sound_cases (f:FreqD):(sound f∧soundB f=true)∨
  ((f.frm<0∨(0≤f.frm∧f.to≤f.frm)∨(0≤f.frm∧f.frm<f.to∧172800<f.to)∨(0≤f.frm∧f.frm<f.to∧f.to≤172800∧f.every<1)∨(0≤f.frm∧f.frm<f.to∧f.to≤172800∧1≤f.every∧86400<f.every))∧soundB f=false):=by
 unfold soundB;by_cases h:sound f
 · exact .inl ⟨h,decide_eq_true h⟩
 ·
  refine .inr ⟨?_,decide_eq_false h⟩;unfold sound at h;omega
def cnt (f:FreqD):Int:=(f.to-f.frm-1) / f.every+1
theorem cnt_eq (f:FreqD) (h:sound f):(f.to-f.frm+f.every-1) / f.every=cnt f:=by
 obtain⟨h1,h2,h3,h4,h5⟩:=h;unfold cnt;rw[show f.to-f.frm+f.every-1=(f.to-f.frm-1)+1*f.every by omega,Int.add_mul_ediv_right _ _ (by omega)]
theorem cnt_bd (f:FreqD) (h:sound f):1≤cnt f∧cnt f≤172800:=by
 obtain⟨h1,h2,h3,h4,h5⟩:=h;unfold cnt;have a:=Int.ediv_nonneg (a:=f.to-f.frm-1) (b:=f.every) (by omega) (by omega);have b:=Int.ediv_le_self (a:=f.to-f.frm-1) f.every (by omega);omega
theorem cnt_lt (f:FreqD) (h:sound f) (k:Nat):f.frm+k*f.every<f.to↔(k:Int)<cnt f:=by
 obtain⟨h1,h2,h3,h4,h5⟩:=h;unfold cnt;have key:(k:Int)≤(f.to-f.frm-1) / f.every↔(k:Int)*f.every≤f.to-f.frm-1:=Int.le_ediv_iff_mul_le (by omega);omega
def startsN (f:FreqD) (n:Nat):List Int:=(List.range n).map fun k:Nat=>f.frm+k*f.every
def starts (f:FreqD):List Int:=if sound f then startsN f (cnt f).toNat else[]
theorem startsN_succ (f:FreqD) (n:Nat):startsN f (n+1)=startsN f n++[f.frm+n*f.every]:=by simp[startsN,List.range_succ]
theorem startsN_len (f:FreqD) (n:Nat):(startsN f n).length=n:=by simp[startsN]
theorem starts_len (f:FreqD):(starts f).length≤172800:=by
 unfold starts;split
 ·
  rename_i h;have:=cnt_bd f h;rw[startsN_len];omega
 · simp
theorem start_bd (f:FreqD) (h:sound f) (k:Nat) (hk:(k:Int)<cnt f):0≤f.frm+k*f.every∧f.frm+k*f.every≤172799:=by
 have:=(cnt_lt f h k).2 hk;obtain⟨h1,h2,h3,h4,h5⟩:=h;have:=Int.mul_nonneg (a:=(k:Int)) (b:=f.every) (by omega) (by omega);omega
theorem mul_succ' (k:Nat) (e:Int):(((k+1:Nat):Int))*e=k*e+e:=by
 rw[show((k+1:Nat):Int)=(k:Int)+1 by omega,Int.add_mul,Int.one_mul]
def near (t first start:Int):Bool:=decide (0≤t-first+start)&&decide (t-first+start≤172800)
def shiftC (first start:Int) (c:CallD):CallD:={ c with arrive:=c.arrive-first+start,depart:=c.depart-first+start }
def okC (first start:Int) (c:CallD):Bool:=near c.arrive first start&&near c.depart first start
def callsS (cs:List CallD) (start:Int):List CallD×Int:=
 match cs with
 |[]=>([],16)
 |c::_=>if cs.all (okC c.depart start)then(cs.map (shiftC c.depart start),0)else([],10)
theorem callsS_nil (start:Int):callsS [] start=([],16):=rfl
theorem callsS_yes {cs:List CallD} {x0:CallD} {start:Int} (h0:cs[0]? =some x0) (h:cs.all (okC x0.depart start)=true):callsS cs start=(cs.map (shiftC x0.depart start),0):=by
 cases cs with
 |nil=>simp at h0
 |cons c t=>
  simp only[List.getElem?_cons_zero,Option.some.injEq]at h0;subst h0;simp only[callsS];rw[if_pos h]
theorem callsS_no {cs:List CallD} {x0 x:CallD} {start:Int} (h0:cs[0]? =some x0) (hx:x∈cs) (h:okC x0.depart start x=false):callsS cs start=([],10):=by
 cases cs with
 |nil=>simp at h0
 |cons c t=>
  simp only[List.getElem?_cons_zero,Option.some.injEq]at h0;subst h0;simp only[callsS];rw[if_neg];intro k;rw[List.all_eq_true]at k;rw[k x hx]at h;simp at h
end Go.Proofs.YtncbcmiflffakaaGreat.Frq
namespace Go.Proofs.YtncbcmiflffakaaGreat.Thr
open Frq
def findI {α:Type} (p:Nat→α→Bool) (l:List α):Option Nat:=(List.range l.length).find? fun i=>match l[i]? with
 |some c=>p i c
 |none=>false
theorem findI_some {α:Type} {p:Nat→α→Bool} {l:List α} {k:Nat} {c:α} (h0: ∀ i x,i<k→l[i]? =some x→p i x=false) (hk:l[k]? =some c) (hp:p k c=true):findI p l=some k:=by
 unfold findI;rw[List.find?_range_eq_some];have hl:k<l.length:=(List.getElem?_eq_some_iff.1 hk).1;refine⟨?_,by simpa using hl,fun j hj=>?_⟩
 · rw[hk];exact hp
 ·
  obtain⟨x,hx⟩: ∃ x,l[j]? =some x:=⟨_,List.getElem?_eq_getElem (by omega)⟩;simp only[hx,h0 j x hj hx,Bool.not_false]
theorem findI_none {α:Type} {p:Nat→α→Bool} {l:List α} (h0: ∀ i x,l[i]? =some x→p i x=false):findI p l=none:=by
 unfold findI;rw[List.find?_eq_none];intro i hi;rw[List.mem_range]at hi;obtain⟨x,hx⟩: ∃ x,l[i]? =some x:=⟨_,List.getElem?_eq_getElem hi⟩;simp only[hx,h0 i x hx];decide
theorem findI_of {α:Type} {p:Nat→α→Bool} {l:List α} {k:Nat} (h:findI p l=some k): ∃ c,l[k]? =some c∧p k c=true∧ ∀ i x,i<k→l[i]? =some x→p i x=false:=by
 unfold findI at h;rw[List.find?_range_eq_some]at h;obtain⟨h1,h2,h3⟩:=h;split at h1
 ·
  rename_i c hc;refine⟨c,hc,h1,fun i x hi hx=>?_⟩;have:=h3 i hi;simp only[hx]at this;simpa using this
 · cases h1
def alightP (stop:Int) (i:Nat) (c:CallD):Bool:=decide (0<i)&&((c.stop==stop)&&c.alight)
def boardP (n:Nat) (stop:Int) (i:Nat) (c:CallD):Bool:=decide (i+1<n)&&((c.stop==stop)&&c.board)
def alightS (l:List CallD) (stop:Int):Option Nat:=findI (alightP stop) l
def boardS (l:List CallD) (stop:Int):Option Nat:=findI (boardP l.length stop) l
def optI (o:Option Nat):Int:=match o with
 |some k=>k
 |none=> -1
def meetsS (a b:List CallD) (stop:Int):Int×Int×Bool:=
 match alightS a stop,boardS b stop with
 |some i,some k=>match a[i]?,b[k]? with
  |some x,some y=>if y.depart<x.arrive then(0,0,false)else(i,k,true)
  |_,_=>(0,0,false)
 |_,_=>(0,0,false)
theorem meetsS_a {a b:List CallD} {stop:Int} (h:alightS a stop=none):meetsS a b stop=(0,0,false):=by unfold meetsS;rw[h]
theorem meetsS_b {a b:List CallD} {stop:Int} (h:boardS b stop=none):meetsS a b stop=(0,0,false):=by unfold meetsS;rw[h];cases alightS a stop<;>rfl
theorem meetsS_no {a b:List CallD} {stop:Int} {i k:Nat} {x y:CallD} (h1:alightS a stop=some i) (h2:boardS b stop=some k) (hx:a[i]? =some x) (hy:b[k]? =some y) (h:y.depart<x.arrive):meetsS a b stop=(0,0,false):=by
 unfold meetsS;rw[h1,h2];simp only[hx,hy];rw[if_pos h]
theorem meetsS_yes {a b:List CallD} {stop:Int} {i k:Nat} {x y:CallD} (h1:alightS a stop=some i) (h2:boardS b stop=some k) (hx:a[i]? =some x) (hy:b[k]? =some y) (h:x.arrive≤y.depart):meetsS a b stop=((i:Int),(k:Int),true):=by
 unfold meetsS;rw[h1,h2];simp only[hx,hy];rw[if_neg (by omega)]
def chk {α:Type} (err:List α→α→Int) (pre:List α):List α→Int×Int
 |[]=>(0,0)
 |x::rest=>if err pre x=0 then chk err (pre++[x]) rest else(pre.length,err pre x)
def checkS {α:Type} (most:Nat) (err:List α→α→Int) (l:List α):Int×Int:=if most<l.length then(0,5)else chk err [] l
section
variable {α:Type} {err:List α→α→Int}
theorem take_snoc' {l:List α} {k:Nat} {x:α} (h:l[k]? =some x):l.take (k+1)=l.take k++[x]:=by
 obtain⟨hk,rfl⟩:=List.getElem?_eq_some_iff.1 h;rw[List.take_succ_eq_append_getElem hk]
theorem chk_end {l:List α} {k:Nat} (h:l.length≤k):chk err (l.take k) (l.drop k)=(0,0):=by
 rw[List.drop_of_length_le h];rfl
theorem chk_bad {l:List α} {k:Nat} {x:α} {e:Int} (hx:l[k]? =some x) (he:err (l.take k) x=e) (hne:e≠0):chk err (l.take k) (l.drop k)=((k:Int),e):=by
 obtain⟨hk,rfl⟩:=List.getElem?_eq_some_iff.1 hx;rw[List.drop_eq_getElem_cons hk];show(if _ then _ else _)=_
 rw[he,if_neg hne,List.length_take,Nat.min_eq_left (by omega)]
theorem chk_good {l:List α} {k:Nat} {x:α} (hx:l[k]? =some x) (he:err (l.take k) x=0):chk err (l.take k) (l.drop k)=chk err (l.take (k+1)) (l.drop (k+1)):=by
 obtain⟨hk,rfl⟩:=List.getElem?_eq_some_iff.1 hx;rw[List.drop_eq_getElem_cons hk];show(if _ then _ else _)=_
 rw[he,if_pos rfl,take_snoc' hx]
theorem chk_ok: ∀ (rest pre:List α),(chk err pre rest).2=0→ ∀ (k:Nat) (x:α),rest[k]? =some x→err (pre++rest.take k) x=0
 |[],_,_,k,f,hk=>by simp at hk
 |g::rest,pre,h,k,f,hk=>by
  unfold chk at h;split at h
  ·
   rename_i h0;cases k with
   |zero=>
    simp only[List.getElem?_cons_zero,Option.some.injEq]at hk;subst hk;rw[List.take_zero,List.append_nil];exact h0
   |succ k=>
    rw[List.getElem?_cons_succ]at hk;have:=chk_ok rest (pre++[g]) h k f hk;rw[List.append_assoc]at this;exact this
  ·
   rename_i h0;exact absurd h h0
theorem check_ok {most:Nat} {l:List α} (h:(checkS most err l).2=0):l.length≤most∧ ∀ {k:Nat} {x:α},l[k]? =some x→err (l.take k) x=0:=by
 unfold checkS at h;split at h
 · simp at h
 ·
  rename_i hl;refine⟨by omega,fun{k x} hk=>?_⟩;have:=chk_ok l [] h k x hk;rw[List.nil_append]at this;exact this
end
structure TrpD where
 cal:Int
 calls:List CallD
structure GuaD where
 frm:Int
 to:Int
 stop:Int
 deriving DecidableEq
def inB (n lim:Int):Bool:=decide (0≤n)&&decide (n<lim)
def followS (a b:TrpD):Int:=
 if a.cal≠b.cal then 15 else
 match a.calls.getLast?,b.calls.head? with
 |some x,some y=>if x.stop≠y.stop then 13 else if y.depart<x.arrive then 10 else 0
 |_,_=>13
def repS (fs:List FreqD) (t:Int):Bool:=fs.any fun f=>f.trip==t
def pairB (n:Nat) (frm to:Int):Bool:=inB frm n&&(inB to n&& !(frm==to))
def atT (ts:List TrpD) (i:Int):TrpD:=(ts[i.toNat]?).getD ⟨0,[]⟩
def thrErr (ts:List TrpD) (fs:List FreqD) (pre:List ThrD) (x:ThrD):Int:=
 if pairB ts.length x.frm x.to=false then 9 else
 if(repS fs x.frm||repS fs x.to)=true then 17 else
 if followS (atT ts x.frm) (atT ts x.to)≠0 then followS (atT ts x.frm) (atT ts x.to)else
 if(pre.any fun y=>y.frm==x.frm||y.to==x.to)=true then 6 else
 if(chainS pre x.to).contains x.frm=true then 19 else 0
def guaErr (ts:List TrpD) (fs:List FreqD) (stops:Int) (pre:List GuaD) (x:GuaD):Int:=
 if pairB ts.length x.frm x.to=false then 9 else
 if inB x.stop stops=false then 9 else
 if(repS fs x.frm||repS fs x.to)=true then 17 else
 if(meetsS (atT ts x.frm).calls (atT ts x.to).calls x.stop).2.2=false then 19 else
 if pre.contains x=true then 6 else 0
theorem pairB_in {n:Nat} {a b:Int} (h:pairB n a b=true):(0≤a∧a<n)∧(0≤b∧b<n):=by
 unfold pairB inB at h;simp only[Bool.and_eq_true,decide_eq_true_eq]at h;exact⟨h.1,h.2.1⟩
end Go.Proofs.YtncbcmiflffakaaGreat.Thr
namespace Go.Proofs.YtncbcmiflffakaaGreat.Num
def val (l:List UInt8):Nat:=l.foldl (fun m c=>10*m+(c.toNat-48)) 0
end Go.Proofs.YtncbcmiflffakaaGreat.Num
namespace Go.Proofs.YtncbcmiflffakaaGreat.Num
end Go.Proofs.YtncbcmiflffakaaGreat.Num
namespace Go.Proofs.YtncbcmiflffakaaGreat.Clk
open Num
def pair (a b:UInt8):Int:=10*((a.toNat:Int)-48)+((b.toNat:Int)-48)
end Go.Proofs.YtncbcmiflffakaaGreat.Clk
namespace Go.Proofs.YtncbcmiflffakaaGreat.Dat
end Go.Proofs.YtncbcmiflffakaaGreat.Dat
namespace Go.Proofs.YtncbcmiflffakaaGreat.Dat
end Go.Proofs.YtncbcmiflffakaaGreat.Dat
namespace Go.Proofs.YtncbcmiflffakaaGreat.Dat
end Go.Proofs.YtncbcmiflffakaaGreat.Dat
namespace Go.Proofs.YtncbcmiflffakaaGreat.Tt
open Num Clk Dat Frq Thr
structure StopD where
 id:List UInt8
 zone:Int
 free:Bool
 change:Int
 deriving DecidableEq
structure RouteD where
 id:List UInt8
 mode:Int
 bikes:Bool
 deriving DecidableEq
structure WeekD where
 d0:Bool
 d1:Bool
 d2:Bool
 d3:Bool
 d4:Bool
 d5:Bool
 d6:Bool
 deriving DecidableEq
structure CalD where
 id:List UInt8
 week:WeekD
 frm:Int
 to:Int
 deriving DecidableEq
structure ExcD where
 cal:Int
 day:Int
 added:Bool
 deriving DecidableEq
structure TripX where
 id:List UInt8
 route:Int
 cal:Int
 free:Bool
 calls:List CallD
 deriving DecidableEq
structure FreqX where
 trip:Int
 frm:Int
 to:Int
 every:Int
 deriving DecidableEq
structure ThruX where
 frm:Int
 to:Int
 deriving DecidableEq
structure PathD where
 frm:Int
 to:Int
 secs:Int
 free:Bool
 deriving DecidableEq
structure ProdD where
 id:List UInt8
 price:Int
 rides:Int
 zones:Int
 secs:Int
 modes:Int
 deriving DecidableEq
structure FareD where
 prods:List ProdD
 disc:Int
 within:Int
 cap:Int
 deriving DecidableEq
structure TtD where
 stops:List StopD
 routes:List RouteD
 cals:List CalD
 excs:List ExcD
 trips:List TripX
 freqs:List FreqX
 thrus:List ThruX
 guars:List GuaD
 paths:List PathD
 fares:FareD
 deriving DecidableEq
def emptyT:TtD:=⟨[],[],[],[],[],[],[],[],[],⟨[],0,0,0⟩⟩
def nameCh (b:UInt8):Bool:=(decide (97≤b.toNat)&&decide (b.toNat≤122))||((decide (65≤b.toNat)&&decide (b.toNat≤90))||((decide (48≤b.toNat)&&decide (b.toNat≤57))||(b.toNat==45||(b.toNat==95||b.toNat==46))))
def nameB (l:List UInt8):Bool:=l.all nameCh&&(decide (1≤l.length)&&decide (l.length≤32))
def early (prev:Option CallD) (c:CallD):Bool:=match prev with
 |some p=>decide (c.arrive<p.depart)
 |none=>false
def callErr (stops lo hi:Int) (prev:Option CallD) (c:CallD):Int:=
 if c.stop<0∨stops≤c.stop then 9
 else if(prev.map (·.stop))=some c.stop then 13
 else if c.arrive<lo∨c.depart<c.arrive∨hi<c.depart∨early prev c=true then 10 else 0
def callsF (stops lo hi:Int):Option CallD→List CallD→Int
 |_,[]=>0
 |p,c::r=>if callErr stops lo hi p c=0 then callsF stops lo hi (some c) r else callErr stops lo hi p c
def callsErr (stops lo hi:Int) (l:List CallD):Int:=if l.length<2∨32<l.length then 5 else callsF stops lo hi none l
def outside (n lo hi:Int):Bool:=decide (n<lo)||decide (hi<n)
def dayB (d:Int):Bool:=decide (0≤d)&&decide (d≤36524)
def stopErr (pre:List StopD) (x:StopD):Int:=
 if nameB x.id=false then 12 else if(pre.any fun y=>y.id==x.id)=true then 6
 else if outside x.zone 0 15||outside x.change 0 3600 then 2 else 0
def routeErr (pre:List RouteD) (x:RouteD):Int:=
 if nameB x.id=false then 12 else if(pre.any fun y=>y.id==x.id)=true then 6
 else if outside x.mode 0 7 then 2 else 0
def calErr (pre:List CalD) (x:CalD):Int:=
 if nameB x.id=false then 12 else if(pre.any fun y=>y.id==x.id)=true then 6
 else if !dayB x.frm||(!dayB x.to||decide (x.to<x.frm))then 11 else 0
def excErr (cals:Int) (pre:List ExcD) (x:ExcD):Int:=
 if outside x.cal 0 (cals-1)then 9 else if dayB x.day=false then 11
 else if(pre.any fun y=>y.cal==x.cal&&y.day==x.day)=true then 6 else 0
def tripErr (stops routes cals:Int) (pre:List TripX) (x:TripX):Int:=
 if nameB x.id=false then 12 else if(pre.any fun y=>y.id==x.id)=true then 6
 else if outside x.route 0 (routes-1)||outside x.cal 0 (cals-1)then 9
 else callsErr stops 0 172800 x.calls
def freqOf (f:FreqX):FreqD:=⟨f.trip,f.frm,f.to,f.every⟩
def lastX (f:FreqD):Int:=f.frm+(cnt f-1)*f.every
def fitsX (cs:List CallD) (f:FreqD):Bool:=cs.isEmpty||((callsS cs f.frm).2==0&&(callsS cs (lastX f)).2==0)
def fitAtX (tc:List (List CallD)) (f:FreqD):Bool:=match tc[f.trip.toNat]? with
 |some cs=>fitsX cs f
 |none=>false
def oneX (f g:FreqD):Int:=if g.trip==f.trip then cnt g else 0
def meetX (f g:FreqD):Bool:=(g.trip==f.trip)&&(decide (g.frm<f.to)&&decide (f.frm<g.to))
def freqErr (tc:List (List CallD)) (pre:List FreqD) (f:FreqD):Int:=
 if f.trip<0∨(tc.length:Int)≤f.trip then 9 else
 if soundB f&&fitAtX tc f then(if 256<cnt f+(pre.map (oneX f)).sum then 17 else if pre.any (meetX f)then 8 else 0)else 10
def thruOf (x:ThruX):ThrD:=⟨x.frm,x.to⟩
def trpX (t:TripX):TrpD:=⟨t.cal,t.calls⟩
def pathErr (stops:Int) (pre:List PathD) (x:PathD):Int:=
 if outside x.frm 0 (stops-1)||(outside x.to 0 (stops-1)||x.frm==x.to)then 9
 else if outside x.secs 1 14400 then 2
 else if(pre.any fun y=>y.frm==x.frm&&(y.to==x.to&&y.free==x.free))=true then 6 else 0
def prodErr (pre:List ProdD) (x:ProdD):Int:=
 if nameB x.id=false then 12 else if(pre.any fun y=>y.id==x.id)=true then 6
 else if outside x.price 0 1000000||(outside x.rides 1 8||(outside x.zones 1 16||(outside x.secs 0 86400||outside x.modes 1 255)))then 2 else 0
def fareChk (f:FareD):Int×Int:=
 if outside f.disc 0 1000000||(outside f.within 0 86400||outside f.cap 0 1000000)then(-1,2)else checkS 16 prodErr f.prods
def partChk (t:TtD):Nat→Int×Int
 |0=>checkS 64 stopErr t.stops
 |1=>checkS 64 routeErr t.routes
 |2=>checkS 64 calErr t.cals
 |3=>checkS 256 (excErr t.cals.length) t.excs
 |4=>checkS 256 (tripErr t.stops.length t.routes.length t.cals.length) t.trips
 |5=>checkS 64 (freqErr (t.trips.map (·.calls))) (t.freqs.map freqOf)
 |6=>checkS 128 (thrErr (t.trips.map trpX) (t.freqs.map freqOf)) (t.thrus.map thruOf)
 |7=>checkS 128 (guaErr (t.trips.map trpX) (t.freqs.map freqOf) t.stops.length) t.guars
 |8=>checkS 512 (pathErr t.stops.length) t.paths
 |_=>fareChk t.fares
def ttFrom (t:TtD):Nat→Nat→Int×Int×Int
 |0,_=>(0,0,0)
 |n+1,p=>if(partChk t p).2=0 then ttFrom t n (p+1)else(p,(partChk t p).1,(partChk t p).2)
def ttChk (t:TtD):Int×Int×Int:=ttFrom t 10 0
end Go.Proofs.YtncbcmiflffakaaGreat.Tt
namespace Go.Proofs.YtncbcmiflffakaaGreat.Num
end Go.Proofs.YtncbcmiflffakaaGreat.Num
namespace Go.Proofs.YtncbcmiflffakaaGreat.Fld
end Go.Proofs.YtncbcmiflffakaaGreat.Fld
namespace Go.Proofs.YtncbcmiflffakaaGreat.Fld
end Go.Proofs.YtncbcmiflffakaaGreat.Fld
namespace Go.Proofs.YtncbcmiflffakaaGreat.Fld
end Go.Proofs.YtncbcmiflffakaaGreat.Fld
namespace Go.Proofs.YtncbcmiflffakaaGreat.Tt
open Num Clk Dat Frq Thr Fld
def idxOf (s:List UInt8):List (List UInt8)→Option Nat
 |[]=>none
 |x::r=>if x=s then some 0 else(idxOf s r).map (· +1)
structure St where
 t:TtD
 lines:List (List Int)
 rules:Int
 opened:Bool
def St.ids (s:St):List (List UInt8):=s.t.stops.map (·.id)
def start:St:=⟨emptyT,[[],[],[],[],[],[],[],[],[],[]],0,false⟩
end Go.Proofs.YtncbcmiflffakaaGreat.Tt
namespace Go.Proofs.YtncbcmiflffakaaGreat.Tt
end Go.Proofs.YtncbcmiflffakaaGreat.Tt
