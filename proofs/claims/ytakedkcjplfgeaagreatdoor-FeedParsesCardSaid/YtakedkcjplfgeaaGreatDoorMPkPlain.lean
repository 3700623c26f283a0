/- Contracts, proved. Conditions: theirs. -/
import Derived.Lib.SplitLaws
set_option maxRecDepth 1000000
set_option maxHeartbeats 32000000
namespace Go.Proofs.YtakedkcjplfgeaaGreatDoor
abbrev Ψ:=List UInt8
abbrev Φ:=ByteArray
theorem ω{p:Prop}(h:p:=by omega):p:=h
theorem δ{p:Prop}(h:p:=by decide):p:=h
theorem σ{p:Prop}(h:p:=by simp):p:=h
theorem τ{p:Prop}(h:p:=by simp;omega):p:=h
theorem η{p:Prop}(h:p:=by simpa using h):p:=h
theorem ξ{p:Prop}(h:p:=by decide+kernel):p:=h
theorem ρ{p:Prop}(h:p:=by rfl):p:=h
end Go.Proofs.YtakedkcjplfgeaaGreatDoor
namespace Go.Proofs.YtakedkcjplfgeaaGreatDoor.Frq
structure FreqD where
 trip:Int
 frm:Int
 to:Int
 every:Int
structure CallD where
 stop:Int
 arrive:Int
 depart:Int
 board:Bool
 alight:Bool
 deriving DecidableEq
def kz (f:FreqD):Prop:=0<=f.frm/\f.frm<f.to/\f.to<=172800/\1<=f.every/\f.every<=86400
instance (f:FreqD):Decidable (kz f):=by unfold kz;infer_instance
def QH (f:FreqD):Bool:=decide (kz f)
theorem Zr (f:FreqD):(kz f/\QH f=true)∨
  ((f.frm<0∨(0<=f.frm/\f.to<=f.frm)∨(0<=f.frm/\f.frm<f.to/\172800<f.to)∨(0<=f.frm/\f.frm<f.to/\f.to<=172800/\f.every<1)∨(0<=f.frm/\f.frm<f.to/\f.to<=172800/\1<=f.every/\86400<f.every))/\QH f=false):=by
 unfold QH;by_cases h:kz f
 · exact .inl ⟨h,decide_eq_true h⟩
 refine .inr ⟨?_,decide_eq_false h⟩;unfold kz at h;omega
def Ze (f:FreqD):Int:=(f.to-f.frm-1) / f.every+1
theorem Ew (f:FreqD) (h:kz f):(f.to-f.frm+f.every-1) / f.every=Ze f:=by
 obtain⟨h1,h2,h3,h4,h5⟩:=h;unfold Ze;rw[show f.to-f.frm+f.every-1=(f.to-f.frm-1)+1*f.every by omega,Int.add_mul_ediv_right _ _ ω]
theorem QE (f:FreqD) (h:kz f):1<=Ze f/\Ze f<=172800:=by
 obtain⟨h1,h2,h3,h4,h5⟩:=h;unfold Ze;have a:=Int.ediv_nonneg (a:=f.to-f.frm-1) (b:=f.every) ω ω;have b:=Int.ediv_le_self (a:=f.to-f.frm-1) f.every ω;omega
theorem ru (f:FreqD) (h:kz f) (k:Nat):f.frm+k*f.every<f.to↔(k:Int)<Ze f:=by
 obtain⟨h1,h2,h3,h4,h5⟩:=h;unfold Ze;have key:(k:Int)<=(f.to-f.frm-1) / f.every↔(k:Int)*f.every<=f.to-f.frm-1:=Int.le_ediv_iff_mul_le ω;omega
def Z4 (t first start:Int):Bool:=decide (0<=t-first+start)&&decide (t-first+start<=172800)
def QT (first start:Int) (c:CallD):CallD:={ c with arrive:=c.arrive-first+start,depart:=c.depart-first+start }
def rO (first start:Int) (c:CallD):Bool:=Z4 c.arrive first start&&Z4 c.depart first start
def jo (cs:List CallD) (start:Int):List CallD×Int:=
 match cs with
 |[]=>([],16)
 |c::_=>if cs.all (rO c.depart start)then(cs.map (QT c.depart start),0)else([],10)
theorem XI (start:Int):jo [] start=([],16):=rfl
theorem XJ {cs:List CallD} {x0:CallD} {start:Int} (h0:cs[0]? =some x0) (h:cs.all (rO x0.depart start)=true):jo cs start=(cs.map (QT x0.depart start),0):=by
 cases cs with
 |nil=>simp at h0
 |cons c t=>
  simp only[List.getElem?_cons_zero,Option.some.injEq]at h0;subst h0;simp only[jo];rw[if_pos h]
theorem VY {cs:List CallD} {x0 x:CallD} {start:Int} (h0:cs[0]? =some x0) (hx:x∈cs) (h:rO x0.depart start x=false):jo cs start=([],10):=by
 cases cs with
 |nil=>simp at h0
 |cons c t=>
  simp only[List.getElem?_cons_zero,Option.some.injEq]at h0;subst h0;simp only[jo];rw[if_neg];intro k;rw[List.all_eq_true]at k;rw[k x hx]at h;simp at h
end Go.Proofs.YtakedkcjplfgeaaGreatDoor.Frq
namespace Go.Proofs.YtakedkcjplfgeaaGreatDoor.Thr
structure ThrD where
 frm:Int
 to:Int
def xh (l:List ThrD) (t:Int):Option ThrD:=l.find? λx=>x.frm==t
def eG (l:List ThrD) (t:Int):Int:=match xh l t with
 |some x=>x.to
 |none=>0
def dw (l:List ThrD) (t:Int):Bool:=(xh l t).isSome
theorem YD {l:List ThrD} {t:Int} (h:xh l t=none):eG l t=0/\dw l t=false:=by unfold eG dw;rw[h];exact⟨rfl,rfl⟩
theorem YE {l:List ThrD} {t:Int} {x:ThrD} (h:xh l t=some x):eG l t=x.to/\dw l t=true:=by unfold eG dw;rw[h];exact⟨rfl,rfl⟩
def Jr (out:List Int):Int:=out.getLastD 0
theorem nK {out:List Int} {k:Nat} (h:out.length=k+1):out[k]? =some (Jr out):=by
 unfold Jr;cases out with
 |nil=>simp at h
 |cons x r=>
  have:k=(x::r).length-1:=ω
  rw[this,<-List.getLast?_eq_getElem?];rfl
def ZV (l:List ThrD) (out:List Int):Option Int:=match xh l (Jr out)with
 |none=>none
 |some x=>if out.contains x.to then none else some x.to
theorem aT {l:List ThrD} {out:List Int} (h:xh l (Jr out)=none):ZV l out=none:=by unfold ZV;rw[h]
theorem aU {l:List ThrD} {out:List Int} {x:ThrD} (h:xh l (Jr out)=some x) (hc:out.contains x.to=true):ZV l out=none:=by unfold ZV;rw[h];simp only[hc,if_true]
theorem pU {l:List ThrD} {out:List Int} {x:ThrD} (h:xh l (Jr out)=some x) (hc:out.contains x.to=false):ZV l out=some x.to:=by unfold ZV;rw[h];simp only[hc];rfl
def Zx (l:List ThrD):Nat->List Int->List Int
 |0,out=>out
 |f+1,out=>match ZV l out with
  |none=>out
  |some n=>Zx l f (out++[n])
def QC (l:List ThrD) (trip:Int):List Int:=Zx l l.length [trip]
theorem Qb {l:List ThrD} {out:List Int} (h:ZV l out=none): ∀ f,Zx l f out=out
 |0=>rfl
 |f+1=>by simp only[Zx,h]
theorem VZ {l:List ThrD} {out:List Int} {n:Int} {f:Nat} (h:ZV l out=some n):Zx l (f+1) out=Zx l f (out++[n]):=by simp only[Zx,h]
theorem EL {l:List ThrD} {out:List Int} {n:Int} (h:ZV l out=some n):n∉out/\ ∃ x,xh l (Jr out)=some x/\x.to=n/\x∈l:=by
 unfold ZV at h;split at h
 · cases h
 rename_i x hx;split at h
 · cases h
 rename_i hc;cases h
 exact⟨λhm=>hc (by simpa using hm),x,hx,rfl,List.mem_of_find?_eq_some hx⟩
theorem Gn {a:List Int}: ∀ {b:List Int},a.Nodup->(∀ x∈a,x∈b)->a.length<=b.length:=by
 induction a with
 |nil=>intro b _ _;exact Nat.zero_le _
 |cons y a ih=>
  intro b hn hs;have hy:y∈b:=hs y (List.mem_cons_self ..);have h1:=ih (b:=b.erase y) (List.nodup_cons.1 hn).2 λx hx=>by
   have hxy:x≠y:=λe=>(List.nodup_cons.1 hn).1 (e ▸ hx)
   exact(List.mem_erase_of_ne hxy).2 (hs x (List.mem_cons_of_mem _ hx))
  rw[List.length_erase_of_mem hy]at h1;have:=List.length_pos_of_mem hy;rw[List.length_cons];omega
structure xN (l:List ThrD) (trip:Int) (out:List Int):Prop where
 head:out[0]? =some trip
 nodup:out.Nodup
 rest: ∀ n∈out.tail,n∈l.map ThrD.to
 link: ∀ (j:Nat) (a b:Int),out[j]? =some a->out[j+1]? =some b-> ∃ x,xh l a=some x/\x.to=b
theorem YY (l:List ThrD) (trip:Int):xN l trip [trip] where
 head:=rfl
 nodup:=σ
 rest:=σ
 link:=by intro j a b _ h;simp at h
theorem xN.pos {l:List ThrD} {trip:Int} {out:List Int} (h:xN l trip out):0<out.length:=(List.getElem?_eq_some_iff.1 h.head).1
theorem xN.step {l:List ThrD} {trip:Int} {out:List Int} (h:xN l trip out) {n:Int} (hs:ZV l out=some n):xN l trip (out++[n]):=by
 obtain⟨hno,x,hx,hxt,hxl⟩:=EL hs;have hp:=h.pos;obtain⟨m,hm⟩: ∃ m,out.length=m+1:=⟨out.length-1,ω⟩;refine⟨?_, ?_, ?_, ?_⟩
 · rw[List.getElem?_append_left hp];exact h.head
 ·
  rw[List.nodup_append];exact⟨h.nodup,σ,λa ha b hb e=>hno (by rw[List.mem_singleton]at hb;rw[<-hb,<-e];exact ha)⟩
 ·
  intro y hy;rw[List.tail_append_of_ne_nil (by intro e;rw[e]at hp;simp at hp)]at hy;rcases List.mem_append.1 hy with hy|hy
  · exact h.rest y hy
  rw[List.mem_singleton]at hy;rw[hy,<-hxt];exact List.mem_map_of_mem hxl
 intro j a b ha hb;by_cases hj:j+1<out.length
 ·
  rw[List.getElem?_append_left ω]at ha;rw[List.getElem?_append_left hj]at hb;exact h.link j a b ha hb
 have hjl:j+1<(out++[n]).length:=(List.getElem?_eq_some_iff.1 hb).1;rw[List.length_append,List.length_singleton]at hjl;have hjm:j=m:=ω
 subst hjm;rw[List.getElem?_append_left ω,nK hm]at ha;rw[List.getElem?_append_right ω,hm,Nat.sub_self]at hb;simp at ha hb
 subst ha hb;exact⟨x,hx,hxt⟩
theorem xN.len {l:List ThrD} {trip:Int} {out:List Int} (h:xN l trip out):out.length<=l.length+1:=by
 have h1:=Gn (a:=out.tail) (b:=l.map ThrD.to) (h.nodup.sublist (List.tail_sublist _)) h.rest;rw[List.length_tail,List.length_map]at h1;omega
theorem xN.full {l:List ThrD} {trip:Int} {out:List Int} (h:xN l trip out) (hl:out.length=l.length+1):ZV l out=none:=by
 cases hs:ZV l out with
 |none=>rfl
 |some n=>
  have:=(h.step hs).len;rw[List.length_append,List.length_singleton]at this;omega
theorem Y9 {l:List ThrD} {trip:Int}: ∀ (f:Nat) (out:List Int),xN l trip out->xN l trip (Zx l f out)
 |0,out,h=>h
 |f+1,out,h=>by
  cases hs:ZV l out with
  |none=>rw[Qb hs];exact h
  |some n=>rw[VZ hs];exact Y9 f _ (h.step hs)
theorem ak (l:List ThrD) (trip:Int):xN l trip (QC l trip):=Y9 _ _ (YY l trip)
open Frq
def Y2 {α:Type} (p:Nat->α->Bool) (l:List α):Option Nat:=(List.range l.length).find? λi=>match l[i]? with
 |some c=>p i c
 |none=>false
theorem Ja {α:Type} {p:Nat->α->Bool} {l:List α} {k:Nat} {c:α} (h0: ∀ i x,i<k->l[i]? =some x->p i x=false) (hk:l[k]? =some c) (hp:p k c=true):Y2 p l=some k:=by
 unfold Y2;rw[List.find?_range_eq_some];have hl:k<l.length:=(List.getElem?_eq_some_iff.1 hk).1;refine⟨?_,by simpa using hl,λj hj=>?_⟩
 · rw[hk];exact hp
 obtain⟨x,hx⟩: ∃ x,l[j]? =some x:=⟨_,List.getElem?_eq_getElem ω⟩;simp only[hx,h0 j x hj hx,Bool.not_false]
theorem XX {α:Type} {p:Nat->α->Bool} {l:List α} (h0: ∀ i x,l[i]? =some x->p i x=false):Y2 p l=none:=by
 unfold Y2;rw[List.find?_eq_none];intro i hi;rw[List.mem_range]at hi;obtain⟨x,hx⟩: ∃ x,l[i]? =some x:=⟨_,List.getElem?_eq_getElem hi⟩;simp only[hx,h0 i x hx];decide
theorem mO {α:Type} {p:Nat->α->Bool} {l:List α} {k:Nat} (h:Y2 p l=some k): ∃ c,l[k]? =some c/\p k c=true/\ ∀ i x,i<k->l[i]? =some x->p i x=false:=by
 unfold Y2 at h;rw[List.find?_range_eq_some]at h;obtain⟨h1,h2,h3⟩:=h;split at h1
 ·
  rename_i c hc;refine⟨c,hc,h1,λi x hi hx=>?_⟩;have:=h3 i hi;simp only[hx]at this;simpa using this
 cases h1
def xH (stop:Int) (i:Nat) (c:CallD):Bool:=decide (0<i)&&((c.stop==stop)&&c.alight)
def ZI (n:Nat) (stop:Int) (i:Nat) (c:CallD):Bool:=decide (i+1<n)&&((c.stop==stop)&&c.board)
def QA (l:List CallD) (stop:Int):Option Nat:=Y2 (xH stop) l
def JW (l:List CallD) (stop:Int):Option Nat:=Y2 (ZI l.length stop) l
def bI (o:Option Nat):Int:=match o with
 |some k=>k
 |none=> -1
def vI (a b:List CallD) (stop:Int):Int×Int×Bool:=
 match QA a stop,JW b stop with
 |some i,some k=>match a[i]?,b[k]? with
  |some x,some y=>if y.depart<x.arrive then(0,0,false)else(i,k,true)
  |_,_=>(0,0,false)
 |_,_=>(0,0,false)
theorem nO {a b:List CallD} {stop:Int} (h:QA a stop=none):vI a b stop=(0,0,false):=by unfold vI;rw[h]
theorem nP {a b:List CallD} {stop:Int} (h:JW b stop=none):vI a b stop=(0,0,false):=by unfold vI;rw[h];cases QA a stop<;>rfl
theorem dZ {a b:List CallD} {stop:Int} {i k:Nat} {x y:CallD} (h1:QA a stop=some i) (h2:JW b stop=some k) (hx:a[i]? =some x) (hy:b[k]? =some y) (h:y.depart<x.arrive):vI a b stop=(0,0,false):=by
 unfold vI;rw[h1,h2];simp only[hx,hy];rw[if_pos h]
theorem Xp {a b:List CallD} {stop:Int} {i k:Nat} {x y:CallD} (h1:QA a stop=some i) (h2:JW b stop=some k) (hx:a[i]? =some x) (hy:b[k]? =some y) (h:x.arrive<=y.depart):vI a b stop=((i:Int),(k:Int),true):=by
 unfold vI;rw[h1,h2];simp only[hx,hy];rw[if_neg ω]
def wU {α:Type} (err:List α->α->Int) (pre:List α):List α->Int×Int
 |[]=>(0,0)
 |x::rest=>if err pre x=0 then wU err (pre++[x]) rest else(pre.length,err pre x)
def qZ {α:Type} (most:Nat) (err:List α->α->Int) (l:List α):Int×Int:=if most<l.length then(0,5)else wU err [] l
section
variable {α:Type} {err:List α->α->Int}
theorem Ji {l:List α} {k:Nat} {x:α} (h:l[k]? =some x):l.take (k+1)=l.take k++[x]:=by
 obtain⟨hk,rfl⟩:=List.getElem?_eq_some_iff.1 h;rw[List.take_succ_eq_append_getElem hk]
theorem jy {l:List α} {k:Nat} (h:l.length<=k):wU err (l.take k) (l.drop k)=(0,0):=by
 rw[List.drop_of_length_le h];rfl
theorem qU {l:List α} {k:Nat} {x:α} {e:Int} (hx:l[k]? =some x) (he:err (l.take k) x=e) (hne:e≠0):wU err (l.take k) (l.drop k)=((k:Int),e):=by
 obtain⟨hk,rfl⟩:=List.getElem?_eq_some_iff.1 hx;rw[List.drop_eq_getElem_cons hk];show(if _ then _ else _)=_
 rw[he,if_neg hne,List.length_take,Nat.min_eq_left ω]
theorem jS {l:List α} {k:Nat} {x:α} (hx:l[k]? =some x) (he:err (l.take k) x=0):wU err (l.take k) (l.drop k)=wU err (l.take (k+1)) (l.drop (k+1)):=by
 obtain⟨hk,rfl⟩:=List.getElem?_eq_some_iff.1 hx;rw[List.drop_eq_getElem_cons hk];show(if _ then _ else _)=_
 rw[he,if_pos rfl,Ji hx]
theorem Ep: ∀ (rest pre:List α),(wU err pre rest).2=0-> ∀ (k:Nat) (x:α),rest[k]? =some x->err (pre++rest.take k) x=0
 |[],_,_,k,f,hk=>by simp at hk
 |g::rest,pre,h,k,f,hk=>by
  unfold wU at h;split at h
  ·
   rename_i h0;cases k with
   |zero=>
    simp only[List.getElem?_cons_zero,Option.some.injEq]at hk;subst hk;rw[List.take_zero,List.append_nil];exact h0
   |succ k=>
    rw[List.getElem?_cons_succ]at hk;have:=Ep rest (pre++[g]) h k f hk;rw[List.append_assoc]at this;exact this
  rename_i h0;exact absurd h h0
theorem yV {most:Nat} {l:List α} (h:(qZ most err l).2=0):l.length<=most/\ ∀ {k:Nat} {x:α},l[k]? =some x->err (l.take k) x=0:=by
 unfold qZ at h;split at h
 · simp at h
 rename_i hl;refine⟨ω,fun{k x} hk=>?_⟩;have:=Ep l [] h k x hk;rw[List.nil_append]at this;exact this
end
structure TrpD where
 cal:Int
 calls:List CallD
structure wL where
 frm:Int
 to:Int
 stop:Int
 deriving DecidableEq
def Yi (n lim:Int):Bool:=decide (0<=n)&&decide (n<lim)
def jk (a b:TrpD):Int:=
 if a.cal≠b.cal then 15 else
 match a.calls.getLast?,b.calls.head? with
 |some x,some y=>if x.stop≠y.stop then 13 else if y.depart<x.arrive then 10 else 0
 |_,_=>13
def vM (fs:List FreqD) (t:Int):Bool:=fs.any λf=>f.trip==t
def yZ (n:Nat) (frm to:Int):Bool:=Yi frm n&&(Yi to n&& !(frm==to))
def Zc (ts:List TrpD) (i:Int):TrpD:=(ts[i.toNat]?).getD ⟨0,[]⟩
def zU (ts:List TrpD) (fs:List FreqD) (pre:List ThrD) (x:ThrD):Int:=
 if yZ ts.length x.frm x.to=false then 9 else
 if(vM fs x.frm||vM fs x.to)=true then 17 else
 if jk (Zc ts x.frm) (Zc ts x.to)≠0 then jk (Zc ts x.frm) (Zc ts x.to)else
 if(pre.any λy=>y.frm==x.frm||y.to==x.to)=true then 6 else
 if(QC pre x.to).contains x.frm=true then 19 else 0
def zk (ts:List TrpD) (fs:List FreqD) (stops:Int) (pre:List wL) (x:wL):Int:=
 if yZ ts.length x.frm x.to=false then 9 else
 if Yi x.stop stops=false then 9 else
 if(vM fs x.frm||vM fs x.to)=true then 17 else
 if(vI (Zc ts x.frm).calls (Zc ts x.to).calls x.stop).2.2=false then 19 else
 if pre.contains x=true then 6 else 0
theorem pg {ts:List TrpD} {fs:List FreqD} {pre:List ThrD} {x:ThrD} (h:zU ts fs pre x=0):
  yZ ts.length x.frm x.to=true/\jk (Zc ts x.frm) (Zc ts x.to)=0/\(pre.any λy=>y.frm==x.frm||y.to==x.to)=false/\(QC pre x.to).contains x.frm=false:=by
 unfold zU at h;split at h
 · simp at h
 split at h
 · simp at h
 split at h
 · rename_i hf;exact absurd h hf
 split at h
 · simp at h
 split at h
 · simp at h
 rename_i h1 _ h3 h4 h5;refine⟨by simpa using h1,by simpa using h3,by simpa using h4,by simpa using h5⟩
theorem JK {n:Nat} {a b:Int} (h:yZ n a b=true):(0<=a/\a<n)/\(0<=b/\b<n):=by
 unfold yZ Yi at h;simp only[Bool.and_eq_true,decide_eq_true_eq]at h;exact⟨h.1,h.2.1⟩
end Go.Proofs.YtakedkcjplfgeaaGreatDoor.Thr
namespace Go.Proofs.YtakedkcjplfgeaaGreatDoor.Num
def qL (u:Nat):Ψ:=
 if h:u<10 then[UInt8.ofNat (48+u)]else qL (u / 10)++[UInt8.ofNat (48+u%10)]
termination_by u
decreasing_by omega
def jO (n:Int):Ψ:=if n<0 then 45::qL n.natAbs else qL n.toNat
def qV (c:UInt8):Bool:=decide (48<=c.toNat)&&decide (c.toNat<=57)
def zC (l:Ψ):Bool:=l.all qV
def zN (l:Ψ):Bool:=zC l&& !l.isEmpty&&(l.head? != some 48||l.length==1)
def val (l:Ψ):Nat:=l.foldl (λm c=>10*m+(c.toNat-48)) 0
def big:Nat:=9223372036854775807
theorem NP:val []=0:=rfl
theorem ZY (l:Ψ) (c:UInt8):val (l++[c])=10*val l+(c.toNat-48):=by
 simp[val,List.foldl_append]
theorem jg (c:UInt8):qV c=true↔48<=c.toNat/\c.toNat<=57:=by simp[qV]
theorem Jy (l:Ψ) (c:UInt8):zC (l++[c])=(zC l&&qV c):=by simp[zC]
theorem CG (c:UInt8):zN [c]=qV c:=by simp[zN,zC]
theorem Yd (l:Ψ):l=[]∨ ∃ k c,l=k++[c]:=by
 by_cases h:l=[]
 · exact .inl h
 exact .inr ⟨l.dropLast,l.getLast h,(List.dropLast_concat_getLast h).symm⟩
theorem rZ {l:Ψ} {c:UInt8} (h:zN (l++[c])=true):qV c=true/\(l=[]∨(zN l=true/\l≠[48])):=by
 cases l with
 |nil=>exact⟨by simpa[CG]using h, .inl rfl⟩
 |cons a t=>
  simp[zN,zC]at h
  obtain⟨⟨ha,ht,hc⟩,hh⟩:=h;refine⟨hc, .inr ⟨?_, ?_⟩⟩
  ·
   simp[zN,zC,ha,hh]
   exact ht
  intro e;cases e
  exact hh rfl
theorem NQ {l:Ψ} (h:zN l=true) (h0:l≠[48]):0<val l:=by
 generalize hn:l.length=n
 induction n using Nat.strongRecOn generalizing l with
 |_ n ih=>
  rcases Yd l with rfl|⟨k,c,rfl⟩
  · simp[zN]at h
  obtain⟨hc,hk⟩:=rZ h;rw[ZY];rw[jg]at hc;rcases hk with rfl|⟨hk,hk0⟩
  ·
   have:c.toNat≠48:=by
    intro e;apply h0
    have:c=48:=UInt8.toNat.inj (by simpa using e);subst this;rfl
   omega
  have:=ih k.length (by rw[<-hn];simp) hk hk0 rfl;omega
theorem zD {u:Nat} (h:u<10):qL u=[UInt8.ofNat (48+u)]:=by rw[qL,dif_pos h]
theorem jC {u:Nat} (h: ¬ u<10):qL u=qL (u / 10)++[UInt8.ofNat (48+u%10)]:=by rw[qL,dif_neg h]
theorem zi (d:Nat) (h:d<10):(UInt8.ofNat (48+d)).toNat=48+d:=by
 simp
 omega
theorem JX (u:Nat):qL u≠[]:=by
 by_cases h:u<10
 · rw[zD h];simp
 rw[jC h];simp
def kF (l:Ψ):Int×Int:=
 if l.head?=some 45 then
  if zN l.tail=true/\l.tail≠[48]then(if val l.tail<=big+1 then(-(val l.tail:Int),0)else(0,2))else(0,3)
 else if zN l=true then(if val l<=big then((val l:Int),0)else(0,2))else(0,3)
theorem AO (a b:Ψ):val a*10 ^ b.length<=val (a++b):=by
 generalize hn:b.length=n
 induction n generalizing b with
 |zero=>
  obtain rfl:b=[]:=List.length_eq_zero_iff.1 hn;simp
 |succ n ih=>
  rcases Yd b with rfl|⟨k,c,rfl⟩
  · simp at hn
  have:=ih k (by simp at hn;omega);rw[<-List.append_assoc,ZY,Nat.pow_succ];have e:val a*(10 ^ n*10)=10*(val a*10 ^ n):=by
   rw[<-Nat.mul_assoc,Nat.mul_comm]
  omega
theorem rF (l:Ψ) (k:Nat):val (l.take k)<=val l:=by
 have h:=AO (l.take k) (l.drop k);rw[List.take_append_drop]at h;exact Nat.le_trans (Nat.le_mul_of_pos_right _ (Nat.pow_pos δ)) h
theorem bG (k u:Nat) (h:u<10 ^ (k+1)):(qL u).length<=k+1:=by
 induction k generalizing u with
 |zero=>rw[zD η];simp
 |succ k ih=>
  by_cases hs:u<10
  · rw[zD hs];simp
  rw[jC hs];have:=ih (u / 10) (by rw[Nat.pow_succ]at h;omega);simp only[List.length_append,List.length_cons,List.length_nil];omega
theorem kL (u:Nat) (h:u<=9223372036854775808):(qL u).length<=19:=by
 refine bG 18 u ?_;have:(10:Nat) ^ (18+1)=10000000000000000000:=δ
 omega
theorem YX (u:Nat):0<(qL u).length:=by
 have:=JX u;cases h:qL u with
 |nil=>exact absurd h this
 |cons a t=>simp
def Jq (m:Nat):Ψ:=if 9<m then qL (m / 10)else[]
theorem vX (m:Nat):qL m=Jq m++[UInt8.ofNat (48+m%10)]:=by
 unfold Jq;by_cases h:9<m
 · rw[if_pos h,jC ω]
 rw[if_neg h,zD ω,Nat.mod_eq_of_lt ω];rfl
def JL (N:Nat):Ψ:=qL (N / 100)++[46,UInt8.ofNat (48+N / 10%10),UInt8.ofNat (48+N%10)]
def qW (c:Int):Ψ×Int:=if c<0∨1000000<c then([],2)else(JL c.toNat,0)
def iL (l:Ψ):Prop:= ∃ (a:Ψ) (x y:UInt8),l=a++[46,x,y]/\zN a=true/\qV x=true/\qV y=true
inductive Price:Ψ->Int->Int->Prop
 |bad {l:Ψ} (h: ¬ iL l):Price l 0 3
 |big {a:Ψ} {x y:UInt8} (ha:zN a=true) (hx:qV x=true) (hy:qV y=true) (h:10000<val a∨1000000<100*val a+10*(x.toNat-48)+(y.toNat-48)):Price (a++[46,x,y]) 0 2
 |
  ok {a:Ψ} {x y:UInt8} (ha:zN a=true) (hx:qV x=true) (hy:qV y=true) (hv:val a<=10000) (h:100*val a+10*(x.toNat-48)+(y.toNat-48)<=1000000):
   Price (a++[46,x,y]) (100*val a+10*(x.toNat-48)+(y.toNat-48):Nat) 0
theorem oV {l:Ψ} {a:Ψ} {x y:UInt8} (h:l=a++[46,x,y]):a=l.take (l.length-3):=by
 subst h;simp
theorem lS (l:Ψ):zN (49::l)=zC l:=by
 have:qV 49=true:=δ
 simp[zN,zC,this]
end Go.Proofs.YtakedkcjplfgeaaGreatDoor.Num
namespace Go.Proofs.YtakedkcjplfgeaaGreatDoor.Clk
open Num
def ZW (n:Nat):Ψ:=[UInt8.ofNat (48+n / 10),UInt8.ofNat (48+n%10)]
def ZA (t:Nat):Ψ:=ZW (t / 3600)++58::(ZW (t / 60%60)++58::ZW (t%60))
def xU (t:Int):Ψ×Int:=if 0<=t/\t<=172800 then(ZA t.toNat,0)else([],10)
def join (h m s:Int):Int×Bool:=if(0<=h/\h<=48)/\(0<=m/\m<=59)/\(0<=s/\s<=59)/\3600*h+60*m+s<=172800 then(3600*h+60*m+s,true)else(0,false)
def wH (a b:UInt8):Int:=10*((a.toNat:Int)-48)+((b.toNat:Int)-48)
inductive Time:Ψ->Int->Int->Prop
 |bad {l:Ψ} (h: ¬ ∃ a b c d e f:UInt8,l=[a,b,58,c,d,58,e,f]/\qV a=true/\qV b=true/\qV c=true/\qV d=true/\qV e=true/\qV f=true):Time l 0 3
 |
  out {a b c d e f:UInt8} (ha:qV a=true) (hb:qV b=true) (hc:qV c=true) (hd:qV d=true) (he:qV e=true) (hf:qV f=true) (h:join (wH a b) (wH c d) (wH e f)=(0,false)):
   Time [a,b,58,c,d,58,e,f] 0 10
 |
  ok {a b c d e f:UInt8} (n:Int) (ha:qV a=true) (hb:qV b=true) (hc:qV c=true) (hd:qV d=true) (he:qV e=true) (hf:qV f=true) (h:join (wH a b) (wH c d) (wH e f)=(n,true)):
   Time [a,b,58,c,d,58,e,f] n 0
theorem tN (h m s:Int):join h m s=(0,false)∨ ∃ n,join h m s=(n,true):=by
 unfold join;split
 · exact .inr ⟨_,rfl⟩
 exact .inl rfl
theorem nH {h m s n:Int} (k:join h m s=(n,true)):((0<=h/\h<=48)/\(0<=m/\m<=59)/\(0<=s/\s<=59)/\3600*h+60*m+s<=172800)/\n=3600*h+60*m+s:=by
 unfold join at k;split at k
 ·
  rename_i hc;rw[Prod.mk.injEq]at k;exact⟨hc,k.1.symm⟩
 simp at k
theorem BM {h m s n:Int} (k:join h m s=(n,false)):n=0/\ ¬ ((0<=h/\h<=48)/\(0<=m/\m<=59)/\(0<=s/\s<=59)/\3600*h+60*m+s<=172800):=by
 unfold join at k;split at k
 · simp at k
 rename_i hc;rw[Prod.mk.injEq]at k;exact⟨k.1.symm,hc⟩
theorem wV {c:UInt8} (h:qV c=true):48<=(c.toNat:Int)/\(c.toNat:Int)<=57:=by
 rw[jg]at h;omega
theorem Bo {l:Ψ} {n e:Int} (h:Time l n e):0<=n/\n<=172800/\(e≠0->n=0):=by
 cases h with
 |bad=>exact⟨ω,ω,λ_=>rfl⟩
 |out=>exact⟨ω,ω,λ_=>rfl⟩
 |ok _ _ _ _ _ _ _ h=>
  obtain⟨h1,rfl⟩:=nH h;exact⟨ω,ω,λk=>absurd rfl k⟩
end Go.Proofs.YtakedkcjplfgeaaGreatDoor.Clk
namespace Go.Proofs.YtakedkcjplfgeaaGreatDoor.Dat
open Num Clk
def Js (y:Int):Bool:=(decide (2000<=y)&&decide (y<=2099))&&decide (y%4=0)
def jB (y m:Int):Int:=if m=2 then(if y%4=0 then 29 else 28)else if m=4∨m=6∨m=9∨m=11 then 30 else 31
def Zz (y m:Int):Int×Bool:=if(2000<=y/\y<=2099)/\(1<=m/\m<=12)then(jB y m,true)else(0,false)
def Zy:Nat->Int
 |0=>0
 |i+1=>Zy i+jB (2000+(i:Int) / 12) (1+(i:Int)%12)
def jV (y m d:Int):Int×Bool:=
 if(2000<=y/\y<=2099)/\(1<=m/\m<=12)/\(1<=d/\d<=jB y m)then(Zy (12*(y-2000)+m-1).toNat+d-1,true)else(0,false)
theorem QX (y m:Int):28<=jB y m/\jB y m<=31:=by
 unfold jB;split
 · split<;>omega
 split<;>omega
theorem J5 (i:Nat):Zy (i+1)=Zy i+jB (2000+(i:Int) / 12) (1+(i:Int)%12):=rfl
theorem FB (i k:Nat):Zy i+28*(k:Int)<=Zy (i+k):=by
 induction k with
 |zero=>simp
 |succ k ih=>
  have:=QX (2000+((i+k:Nat):Int) / 12) (1+((i+k:Nat):Int)%12);rw[<-Nat.add_assoc,J5];omega
theorem Va {i j:Nat} (h:i<=j):Zy i+28*((j:Int)-(i:Int))<=Zy j:=by
 have:=FB i (j-i);rw[show i+(j-i)=j by omega]at this;omega
theorem YT (i:Nat):28*(i:Int)<=Zy i:=by
 have:=Va (Nat.zero_le i);simp[Zy]at this
 omega
theorem dB (k j:Nat) (h:j<12):Zy (12*k+j+1)=Zy (12*k+j)+jB (2000+(k:Int)) (1+(j:Int)):=by
 rw[J5];rw[show((12*k+j:Nat):Int) / 12=k by omega,show((12*k+j:Nat):Int)%12=j by omega]
def cj (lp:Int):Nat->Int
 |0=>0
 |1=>31
 |2=>59+lp
 |3=>90+lp
 |4=>120+lp
 |5=>151+lp
 |6=>181+lp
 |7=>212+lp
 |8=>243+lp
 |9=>273+lp
 |10=>304+lp
 |11=>334+lp
 |_=>365+lp
def QQ (y:Int):Int:=if y%4=0 then 1 else 0
theorem Vl (y:Int):(y%4=0/\QQ y=1)∨(y%4≠0/\QQ y=0):=by
 unfold QQ;by_cases h:y%4=0
 · exact .inl ⟨h,if_pos h⟩
 exact .inr ⟨h,if_neg h⟩
theorem WY (y:Int) (j:Nat) (h:j<12):cj (QQ y) (j+1)=cj (QQ y) j+jB y (1+(j:Int)):=by
 have h2:jB y 2=28+QQ y:=by
  unfold jB QQ;split<;>split<;>simp_all
 match j,h with
 |0,_=>simp[cj,jB]
 |1,_=>show 59+QQ y=31+jB y 2;rw[h2];omega
 |2,_=>show 90+QQ y=59+QQ y+jB y 3;simp[jB];omega
 |3,_=>show 120+QQ y=90+QQ y+jB y 4;simp[jB];omega
 |4,_=>show 151+QQ y=120+QQ y+jB y 5;simp[jB];omega
 |5,_=>show 181+QQ y=151+QQ y+jB y 6;simp[jB];omega
 |6,_=>show 212+QQ y=181+QQ y+jB y 7;simp[jB];omega
 |7,_=>show 243+QQ y=212+QQ y+jB y 8;simp[jB];omega
 |8,_=>show 273+QQ y=243+QQ y+jB y 9;simp[jB];omega
 |9,_=>show 304+QQ y=273+QQ y+jB y 10;simp[jB];omega
 |10,_=>show 334+QQ y=304+QQ y+jB y 11;simp[jB];omega
 |11,_=>show 365+QQ y=334+QQ y+jB y 12;simp[jB];omega
theorem J6 (k j:Nat) (h:j<=12):Zy (12*k+j)=Zy (12*k)+cj (QQ (2000+(k:Int))) j:=by
 induction j with
 |zero=>simp[cj]
 |succ j ih=>
  rw[<-Nat.add_assoc,dB k j ω,ih ω,WY _ j ω];omega
theorem lX (k:Nat):Zy (12*k)=365*(k:Int)+((k:Int)+3) / 4:=by
 induction k with
 |zero=>rfl
 |succ k ih=>
  rw[show 12*(k+1)=12*k+12 by omega,J6 k 12 (Nat.le_refl _),ih];show _+(365+QQ (2000+(k:Int)))=_
  rcases Vl (2000+(k:Int))with⟨h,e⟩|⟨h,e⟩<;>rw[e]<;>omega
theorem Ez (k j:Nat) (h:j<=12):Zy (12*k+j)=365*(k:Int)+((k:Int)+3) / 4+cj (QQ (2000+(k:Int))) j:=by
 rw[J6 k j h,lX]
theorem WZ:Zy 1200=36525:=by
 have:=lX 100;simpa using this
def uH (d:Int):Nat->Nat->Nat
 |0,i=>i
 |f+1,i=>if d<Zy (i+1)then i else uH d f (i+1)
def Gf (d:Int):Nat:=uH d 1200 0
theorem DR (d:Int) (f i:Nat) (h0:Zy i<=d) (h1:d<Zy (i+f)):i<=uH d f i/\uH d f i<i+f/\Zy (uH d f i)<=d/\d<Zy (uH d f i+1):=by
 induction f generalizing i with
 |zero=>simp at h1;omega
 |succ f ih=>
  unfold uH;by_cases h:d<Zy (i+1)
  · rw[if_pos h];exact⟨Nat.le_refl _,ω,h0,h⟩
  rw[if_neg h];have:=ih (i+1) ω (by rw[show i+1+f=i+(f+1) by omega];exact h1);omega
theorem nS (d:Int) (h0:0<=d) (h1:d<=36524):Gf d<1200/\Zy (Gf d)<=d/\d<Zy (Gf d+1):=by
 have:=DR d 1200 0 (by simpa[Zy]using h0) (by rw[Nat.zero_add,WZ];omega);unfold Gf;omega
theorem Gi {d:Int} {i j:Nat} (hi:Zy i<=d/\d<Zy (i+1)) (hj:Zy j<=d/\d<Zy (j+1)):i=j:=by
 rcases Nat.lt_trichotomy i j with h|h|h
 · have:=Va (show i+1<=j by omega);omega
 · exact h
 have:=Va (show j+1<=i by omega);omega
theorem Gh {d:Int} {i:Nat} (h:i<1200) (hi:Zy i<=d/\d<Zy (i+1)):Gf d=i:=by
 have h0:=YT i;have h1:=Va (show i+1<=1200 by omega);rw[WZ]at h1;have:=nS d ω ω;exact Gi ⟨this.2.1,this.2.2⟩ hi
def kZ (d:Int):Int:=2000+(Gf d:Int) / 12
def jl (d:Int):Int:=1+(Gf d:Int)%12
def QJ (d:Int):Int:=d-Zy (Gf d)+1
theorem Yt (d:Int) (h0:0<=d) (h1:d<=36524):(2000<=kZ d/\kZ d<=2099)/\(1<=jl d/\jl d<=12)/\(1<=QJ d/\QJ d<=jB (kZ d) (jl d)):=by
 obtain⟨a,b,c⟩:=nS d h0 h1;rw[J5]at c;unfold kZ jl QJ;omega
theorem bD {y m d n:Int} (h:jV y m d=(n,true)):(2000<=y/\y<=2099)/\(1<=m/\m<=12)/\(1<=d/\d<=jB y m)/\n=Zy (12*(y-2000)+m-1).toNat+d-1:=by
 unfold jV at h;split at h
 ·
  rename_i hc;rw[Prod.mk.injEq]at h;exact⟨hc.1,hc.2.1,hc.2.2,h.1.symm⟩
 simp at h
theorem rq {y m d n:Int} (h:jV y m d=(n,true)):(0<=n/\n<=36524)/\kZ n=y/\jl n=m/\QJ n=d:=by
 obtain⟨hy,hm,hd,rfl⟩:=bD h;obtain⟨i,hi⟩: ∃ i:Nat,i=(12*(y-2000)+m-1).toNat:=⟨_,rfl⟩;have hi1:(i:Int)=12*(y-2000)+m-1:=ω
 rw[<-hi];have e1:2000+(i:Int) / 12=y:=ω
 have e2:1+(i:Int)%12=m:=ω
 have hs:=J5 i;rw[e1,e2]at hs;have hme:Gf (Zy i+d-1)=i:=Gh ω ⟨ω,ω⟩;have h0:=YT i;have h1:=Va (show i+1<=1200 by omega);rw[WZ]at h1;unfold kZ jl QJ;rw[hme];exact⟨⟨ω,ω⟩,e1,e2,ω⟩
theorem dA {d y r:Int} {k:Nat} (hy:2000<=y/\y<=2099) (hd:d=365*(y-2000)+(y-2000+3) / 4+r) (hk:k<12) (h0:cj (QQ y) k<=r) (h1:r<cj (QQ y) k+jB y (1+(k:Int))):
  kZ d=y/\jl d=(k:Int)+1/\QJ d=r-cj (QQ y) k+1:=by
 obtain⟨n,rfl⟩: ∃ n:Nat,y=2000+(n:Int):=⟨(y-2000).toNat,ω⟩;have hc:=Ez n k ω;have hm:=dB n k hk;have e:Gf d=12*n+k:=Gh ω ⟨ω,ω⟩;unfold kZ jl QJ;rw[e];omega
theorem Ir (i:Nat) (h:i<1200):Zz (2000+(i:Int) / 12) (1+(i:Int)%12)=(jB (2000+(i:Int) / 12) (1+(i:Int)%12),true):=by
 unfold Zz;rw[if_pos ω]
theorem OB (i:Nat) (h:i<=1200):0<=Zy i/\Zy i<=36525:=by
 have h0:=YT i;have h1:=Va h;rw[WZ]at h1;omega
theorem Fp {y m d:Int} (hy:2000<=y/\y<=2099) (hm:1<=m/\m<=12) (k:Nat) (hk:(k:Int)=m-1):
  365*(y-2000)+(y-2000+3) / 4+d-1+cj (QQ y) k=Zy (12*(y-2000)+m-1).toNat+d-1:=by
 obtain⟨n,rfl⟩: ∃ n:Nat,y=2000+(n:Int):=⟨(y-2000).toNat,ω⟩;have hc:=Ez n k ω;rw[show(12*(2000+(n:Int)-2000)+m-1).toNat=12*n+k by omega];omega
theorem Eu (y:Int) (k:Nat) (h:k<=12):0<=cj (QQ y) k/\cj (QQ y) k<=366:=by
 have:=Vl y;match k,h with
 |0,_=>simp[cj]
 |1,_=>simp[cj]
 |2,_=>simp[cj];omega
 |3,_=>simp[cj];omega
 |4,_=>simp[cj];omega
 |5,_=>simp[cj];omega
 |6,_=>simp[cj];omega
 |7,_=>simp[cj];omega
 |8,_=>simp[cj];omega
 |9,_=>simp[cj];omega
 |10,_=>simp[cj];omega
 |11,_=>simp[cj];omega
 |12,_=>simp[cj];omega
theorem Et (y:Int):cj (QQ y) 12=365+QQ y:=rfl
theorem D7 {d:Int} (h0:0<=d) (h1:d<=36524) (h:d%1461<366):
  (2000<=2000+d / 1461*4/\2000+d / 1461*4<=2099)/\d=365*(2000+d / 1461*4-2000)+(2000+d / 1461*4-2000+3) / 4+d%1461/\d%1461<365+QQ (2000+d / 1461*4):=by
 have:QQ (2000+d / 1461*4)=1:=by unfold QQ;rw[if_pos ω]
 omega
theorem uq {d:Int} (h0:0<=d) (h1:d<=36524) (h:366<=d%1461):
  (2000<=2000+d / 1461*4+(1+(d%1461-366) / 365)/\2000+d / 1461*4+(1+(d%1461-366) / 365)<=2099)/\
  d=365*(2000+d / 1461*4+(1+(d%1461-366) / 365)-2000)+(2000+d / 1461*4+(1+(d%1461-366) / 365)-2000+3) / 4+(d%1461-366)%365/\
  (d%1461-366)%365<365+QQ (2000+d / 1461*4+(1+(d%1461-366) / 365)):=by
 have:=Vl (2000+d / 1461*4+(1+(d%1461-366) / 365));omega
theorem rD {a b:Nat} (ha:a<100) (hb:b<100):(decide (UInt8.ofNat (48+a)<UInt8.ofNat (48+b))=decide (a<b))/\((UInt8.ofNat (48+a)==UInt8.ofNat (48+b))=decide (a=b)):=by
 have h1:(UInt8.ofNat (48+a)).toNat=48+a:=by rw[UInt8.toNat_ofNat'];omega
 have h2:(UInt8.ofNat (48+b)).toNat=48+b:=by rw[UInt8.toNat_ofNat'];omega
 constructor
 · rw[decide_eq_decide,UInt8.lt_iff_toNat_lt,h1,h2];omega
 rw[Bool.eq_iff_iff,beq_iff_eq,decide_eq_true_iff];constructor
 ·
  intro k;have:=congrArg UInt8.toNat k;omega
 rintro rfl;rfl
def xx (n:Nat):Nat->Ψ
 |0=>[]
 |k+1=>xx (n / 10) k++[UInt8.ofNat (48+n%10)]
theorem mF (n:Nat) (h:n<100):xx n 2=ZW n:=by
 simp only[xx,ZW,List.nil_append,List.cons_append];rw[show n / 10%10=n / 10 by omega]
theorem CQ (n:Nat) (h:n<10000):xx n 4=ZW (n / 100)++ZW (n%100):=by
 simp only[xx,ZW,List.nil_append,List.cons_append];rw[show n / 10 / 10 / 10%10=n / 100 / 10 by omega,show n / 10 / 10%10=n / 100%10 by omega,show n / 10%10=n%100 / 10 by omega,show n%10=n%100%10 by omega]
def V4 (d:Int):Ψ:=ZW ((kZ d).toNat / 100)++(ZW ((kZ d).toNat%100)++45::(ZW (jl d).toNat++45::ZW (QJ d).toNat))
def jb (d:Int):Ψ×Int:=if 0<=d/\d<=36524 then(V4 d,0)else([],11)
def Qg (a:Int):Ψ:=V4 (a / 86400)++84::ZA (a%86400).toNat
def vG:Ψ->Ψ->Bool
 |[],[]=>true
 |c::l,q::p=>(if q==48 then qV c else c==q)&&vG l p
 |_,_=>false
theorem um {l p:Ψ} (h:vG l p=true):l.length=p.length:=by
 induction l generalizing p with
 |nil=>cases p<;>simp_all [vG]
 |cons c l ih=>
  cases p with
  |nil=>simp[vG]at h
  |cons q p=>
   simp only[vG,Bool.and_eq_true]at h;simp[ih h.2]
def pat10:Ψ:=[48,48,48,48,45,48,48,45,48,48]
theorem GV {l:Ψ} (h:l.length=10): ∃ a b c d x e f y g k,l=[a,b,c,d,x,e,f,y,g,k]:=by
 match l,h with
 |[a,b,c,d,x,e,f,y,g,k],_=>exact⟨_,_,_,_,_,_,_,_,_,_,rfl⟩
def DF (l:Ψ) (y m d:Int):Prop:=
 ∃ a b c e f g h k:UInt8,l=[a,b,c,e,45,f,g,45,h,k]/\(qV a=true/\qV b=true/\qV c=true/\qV e=true)/\(qV f=true/\qV g=true)/\(qV h=true/\qV k=true)/\
  y=100*wH a b+wH c e/\m=wH f g/\d=wH h k
theorem IJ {l:Ψ} (h:vG l pat10=true): ∃ y m d,DF l y m d:=by
 obtain⟨a,b,c,d,x,e,f,y,g,k,rfl⟩:=GV (um h);simp[vG,pat10]at h
 obtain⟨h1,h2,h3,h4,rfl,h5,h6,rfl,h7,h8⟩:=h;exact⟨_,_,_,a,b,c,d,e,f,g,k,rfl,⟨h1,h2,h3,h4⟩,⟨h5,h6⟩,⟨h7,h8⟩,rfl,rfl,rfl⟩
theorem Ny {l:Ψ} {y m d:Int} (h:DF l y m d):l.length=10:=by
 obtain⟨a,b,c,e,f,g,h,k,rfl,_⟩:=h;rfl
inductive Day:Ψ->Int->Int->Prop
 |bad {l:Ψ} (h:vG l pat10=false):Day l 0 3
 |out {l:Ψ} {y m d:Int} (h:DF l y m d) (k:jV y m d=(0,false)):Day l 0 11
 |ok {l:Ψ} {y m d:Int} (n:Int) (h:DF l y m d) (k:jV y m d=(n,true)):Day l n 0
theorem WU (y m d:Int):jV y m d=(0,false)∨ ∃ n,jV y m d=(n,true):=by
 unfold jV;split
 · exact .inr ⟨_,rfl⟩
 exact .inl rfl
end Go.Proofs.YtakedkcjplfgeaaGreatDoor.Dat
namespace Go.Proofs.YtakedkcjplfgeaaGreatDoor
open Num Clk
def xB (l:Ψ):Int×Bool:=if zN l=true then(((min 1000000 (val l):Nat):Int),true)else(0,false)
def wF (l:Ψ):Int×Bool:=match l with|[x,y]=>if qV x=true/\qV y=true/\x.toNat<54 then(wH x y,true)else(0,false)|_=>(0,false)
def yL (l:Ψ):Option (List Ψ):=
 if Lib.hasSuffix l [115]=true then
  (if(Lib.cut (Lib.trimSuffix l [115]) [109]).2.2=true then
   (if(Lib.cut (Lib.cut (Lib.trimSuffix l [115]) [109]).1 [104]).2.2=true then
    some [(Lib.cut (Lib.cut (Lib.trimSuffix l [115]) [109]).1 [104]).1,(Lib.cut (Lib.cut (Lib.trimSuffix l [115]) [109]).1 [104]).2.1,(Lib.cut (Lib.trimSuffix l [115]) [109]).2.1]
   else some [(Lib.cut (Lib.trimSuffix l [115]) [109]).1,(Lib.cut (Lib.trimSuffix l [115]) [109]).2.1])
  else some [Lib.trimSuffix l [115]])
 else none
def bQ:List Ψ->Int×Int
 |[a]=>if(xB a).2=true/\(xB a).1<=59 then((xB a).1,0)else(0,3)
 |[a,b]=>if(xB a).2=true/\(xB a).1<=59/\ ¬ (xB a).1=0/\(wF b).2=true then(60*(xB a).1+(wF b).1,0)else(0,3)
 |[a,b,c]=>if(xB a).2=true/\ ¬ (xB a).1=0/\(wF b).2=true/\(wF c).2=true then
   (if 60*(60*(xB a).1+(wF b).1)+(wF c).1<=359999 then(60*(60*(xB a).1+(wF b).1)+(wF c).1,0)else(0,2))else(0,3)
 |_=>(0,3)
def wE (l:Ψ):Int×Int:=match yL l with|some ls=>bQ ls|none=>(0,3)
theorem iD (l:Ψ):yL l=none∨(∃ a,yL l=some [a])∨(∃ a b,yL l=some [a,b])∨ ∃ a b c,yL l=some [a,b,c]:=by
 unfold yL;split
 ·
  split
  ·
   split
   · exact .inr (.inr (.inr ⟨_,_,_,rfl⟩))
   exact .inr (.inr (.inl ⟨_,_,rfl⟩))
  exact .inr (.inl ⟨_,rfl⟩)
 exact .inl rfl
end Go.Proofs.YtakedkcjplfgeaaGreatDoor
namespace Go.Proofs.YtakedkcjplfgeaaGreatDoor.Tt
open Num Clk Dat Frq Thr
structure ZH where
 id:Ψ
 zone:Int
 free:Bool
 change:Int
 deriving DecidableEq
structure xy where
 id:Ψ
 mode:Int
 bikes:Bool
 deriving DecidableEq
structure Vw where
 d0:Bool
 d1:Bool
 d2:Bool
 d3:Bool
 d4:Bool
 d5:Bool
 d6:Bool
 deriving DecidableEq
structure Yj where
 id:Ψ
 week:Vw
 frm:Int
 to:Int
 deriving DecidableEq
structure Yk where
 cal:Int
 day:Int
 added:Bool
 deriving DecidableEq
structure TripX where
 id:Ψ
 route:Int
 cal:Int
 free:Bool
 calls:List CallD
 deriving DecidableEq
structure Yl where
 trip:Int
 frm:Int
 to:Int
 every:Int
 deriving DecidableEq
structure Yo where
 frm:Int
 to:Int
 deriving DecidableEq
structure Qq where
 frm:Int
 to:Int
 secs:Int
 free:Bool
 deriving DecidableEq
structure JA where
 id:Ψ
 price:Int
 rides:Int
 zones:Int
 secs:Int
 modes:Int
 deriving DecidableEq
structure Jp where
 prods:List JA
 disc:Int
 within:Int
 cap:Int
 deriving DecidableEq
structure TtD where
 stops:List ZH
 routes:List xy
 cals:List Yj
 excs:List Yk
 trips:List TripX
 freqs:List Yl
 thrus:List Yo
 guars:List wL
 paths:List Qq
 fares:Jp
 deriving DecidableEq
def emptyT:TtD:=⟨[],[],[],[],[],[],[],[],[],⟨[],0,0,0⟩⟩
def wW (b:UInt8):Bool:=(decide (97<=b.toNat)&&decide (b.toNat<=122))||((decide (65<=b.toNat)&&decide (b.toNat<=90))||((decide (48<=b.toNat)&&decide (b.toNat<=57))||(b.toNat==45||(b.toNat==95||b.toNat==46))))
def jU (l:Ψ):Bool:=l.all wW&&(decide (1<=l.length)&&decide (l.length<=32))
def FT (prev:Option CallD) (c:CallD):Bool:=match prev with
 |some p=>decide (c.arrive<p.depart)
 |none=>false
def jT (stops lo hi:Int) (prev:Option CallD) (c:CallD):Int:=
 if c.stop<0∨stops<=c.stop then 9
 else if(prev.map (·.stop))=some c.stop then 13
 else if c.arrive<lo∨c.depart<c.arrive∨hi<c.depart∨FT prev c=true then 10 else 0
def QB (stops lo hi:Int):Option CallD->List CallD->Int
 |_,[]=>0
 |p,c::r=>if jT stops lo hi p c=0 then QB stops lo hi (some c) r else jT stops lo hi p c
def yU (stops lo hi:Int) (l:List CallD):Int:=if l.length<2∨32<l.length then 5 else QB stops lo hi none l
def qK (n lo hi:Int):Bool:=decide (n<lo)||decide (hi<n)
def Yv (d:Int):Bool:=decide (0<=d)&&decide (d<=36524)
def zI (pre:List ZH) (x:ZH):Int:=
 if jU x.id=false then 12 else if(pre.any λy=>y.id==x.id)=true then 6
 else if qK x.zone 0 15||qK x.change 0 3600 then 2 else 0
def zA (pre:List xy) (x:xy):Int:=
 if jU x.id=false then 12 else if(pre.any λy=>y.id==x.id)=true then 6
 else if qK x.mode 0 7 then 2 else 0
def zZ (pre:List Yj) (x:Yj):Int:=
 if jU x.id=false then 12 else if(pre.any λy=>y.id==x.id)=true then 6
 else if !Yv x.frm||(!Yv x.to||decide (x.to<x.frm))then 11 else 0
def jd (cals:Int) (pre:List Yk) (x:Yk):Int:=
 if qK x.cal 0 (cals-1)then 9 else if Yv x.day=false then 11
 else if(pre.any λy=>y.cal==x.cal&&y.day==x.day)=true then 6 else 0
def zG (stops routes cals:Int) (pre:List TripX) (x:TripX):Int:=
 if jU x.id=false then 12 else if(pre.any λy=>y.id==x.id)=true then 6
 else if qK x.route 0 (routes-1)||qK x.cal 0 (cals-1)then 9
 else yU stops 0 172800 x.calls
def zS (f:Yl):FreqD:=⟨f.trip,f.frm,f.to,f.every⟩
def Pz (f:FreqD):Int:=f.frm+(Ze f-1)*f.every
def Pv (cs:List CallD) (f:FreqD):Bool:=cs.isEmpty||((jo cs f.frm).2==0&&(jo cs (Pz f)).2==0)
def sU (tc:List (List CallD)) (f:FreqD):Bool:=match tc[f.trip.toNat]? with
 |some cs=>Pv cs f
 |none=>false
def Rt (f g:FreqD):Int:=if g.trip==f.trip then Ze g else 0
def P6 (f g:FreqD):Bool:=(g.trip==f.trip)&&(decide (g.frm<f.to)&&decide (f.frm<g.to))
def Zk (tc:List (List CallD)) (pre:List FreqD) (f:FreqD):Int:=
 if f.trip<0∨(tc.length:Int)<=f.trip then 9 else
 if QH f&&sU tc f then(if 256<Ze f+(pre.map (Rt f)).sum then 17 else if pre.any (P6 f)then 8 else 0)else 10
def ja (x:Yo):ThrD:=⟨x.frm,x.to⟩
def IV (t:TripX):TrpD:=⟨t.cal,t.calls⟩
def zO (stops:Int) (pre:List Qq) (x:Qq):Int:=
 if qK x.frm 0 (stops-1)||(qK x.to 0 (stops-1)||x.frm==x.to)then 9
 else if qK x.secs 1 14400 then 2
 else if(pre.any λy=>y.frm==x.frm&&(y.to==x.to&&y.free==x.free))=true then 6 else 0
def zQ (pre:List JA) (x:JA):Int:=
 if jU x.id=false then 12 else if(pre.any λy=>y.id==x.id)=true then 6
 else if qK x.price 0 1000000||(qK x.rides 1 8||(qK x.zones 1 16||(qK x.secs 0 86400||qK x.modes 1 255)))then 2 else 0
def vF (f:Jp):Int×Int:=
 if qK f.disc 0 1000000||(qK f.within 0 86400||qK f.cap 0 1000000)then(-1,2)else qZ 16 zQ f.prods
def zV (t:TtD):Nat->Int×Int
 |0=>qZ 64 zI t.stops
 |1=>qZ 64 zA t.routes
 |2=>qZ 64 zZ t.cals
 |3=>qZ 256 (jd t.cals.length) t.excs
 |4=>qZ 256 (zG t.stops.length t.routes.length t.cals.length) t.trips
 |5=>qZ 64 (Zk (t.trips.map (·.calls))) (t.freqs.map zS)
 |6=>qZ 128 (zU (t.trips.map IV) (t.freqs.map zS)) (t.thrus.map ja)
 |7=>qZ 128 (zk (t.trips.map IV) (t.freqs.map zS) t.stops.length) t.guars
 |8=>qZ 512 (zO t.stops.length) t.paths
 |_=>vF t.fares
def wZ (t:TtD):Nat->Nat->Int×Int×Int
 |0,_=>(0,0,0)
 |n+1,p=>if(zV t p).2=0 then wZ t n (p+1)else(p,(zV t p).1,(zV t p).2)
def Qj (t:TtD):Int×Int×Int:=wZ t 10 0
end Go.Proofs.YtakedkcjplfgeaaGreatDoor.Tt
namespace Go.Proofs.YtakedkcjplfgeaaGreatDoor.Fld
def Ey (b:UInt8):Bool:=decide (b.toNat<32)||b.toNat==127
def Qi (b:UInt8):Bool:=b.toNat==44||(b.toNat==34||(b.toNat==92||Ey b))
def jq (l:Ψ):Bool:= !l.any Qi&&(!l.isEmpty&&(!(l.head?==some 32)&& !(l.getLast?==some 32)))
def KE (n:Nat):UInt8:=if n<10 then UInt8.ofNat (48+n)else UInt8.ofNat (87+n)
def xR (b:UInt8):Ψ:=if b.toNat==34||b.toNat==92 then[92,b]else if Ey b then[92,120,KE (b.toNat / 16),KE (b.toNat%16)]else[b]
def jR (l:Ψ):Ψ:=l.flatMap xR
def zg (l:Ψ):Ψ:=if jq l then l else 34::(jR l++[34])
def vS (b:UInt8):Nat:=if 48<=b.toNat/\b.toNat<=57 then b.toNat-48 else if 97<=b.toNat/\b.toNat<=102 then b.toNat-87 else 16
def wP:Ψ->Option (UInt8×Nat)
 |[]=>none
 |c::r=>if c.toNat==92 then(match r with
   |[]=>none
   |d::r'=>if d.toNat==34||d.toNat==92 then some (d,2)else if d.toNat==120 then(match r' with
     |x::y::_=>if decide (vS x<16)&&decide (vS y<16)then some (UInt8.ofNat (16*vS x+vS y),4)else none
     |_=>none)else none)else some (c,1)
def XP:Nat->Ψ->Option Ψ
 |_,[]=>some []
 |0,_::_=>none
 |f+1,c::r=>match wP (c::r)with
   |none=>none
   |some (b,k)=>(XP f ((c::r).drop k)).map (b:: ·)
def ZK (s:Ψ):Option Ψ:=XP s.length s
theorem JJ {s:Ψ} {b:UInt8} {k:Nat} (h:wP s=some (b,k)):1<=k/\k<=s.length:=by
 cases s with
 |nil=>simp[wP]at h
 |cons c r=>
  simp only[wP]at h;split at h
  ·
   split at h
   · cases h
   rename_i d r';split at h
   · cases h;simp
   split at h
   ·
    split at h
    ·
     split at h
     · cases h;simp
     cases h
    cases h
   cases h
  cases h;simp
theorem Vb: ∀ (f:Nat) (s:Ψ),s.length<=f->XP f s=XP s.length s
 |f,[],_=>by cases f<;>rfl
 |0,c::r,h=>by simp at h
 |f+1,c::r,h=>by
  rw[List.length_cons];simp only[XP];split
  · rfl
  rename_i b k hk;obtain⟨h1,h2⟩:=JJ hk;have hl:((c::r).drop k).length<=r.length:=by rw[List.length_drop,List.length_cons];omega
  rw[List.length_cons]at h;rw[Vb f _ ω,Vb r.length _ hl]
theorem FN:ZK []=some []:=rfl
theorem FK {s:Ψ} (hs:s≠[]) (h:wP s=none):ZK s=none:=by
 cases s with
 |nil=>exact absurd rfl hs
 |cons c r=>
  unfold ZK;rw[List.length_cons];simp only[XP,h]
theorem dD {s:Ψ} {b:UInt8} {k:Nat} (h:wP s=some (b,k)):ZK s=(ZK (s.drop k)).map (b:: ·):=by
 cases s with
 |nil=>simp[wP]at h
 |cons c r=>
  obtain⟨h1,h2⟩:=JJ h;unfold ZK;rw[List.length_cons];simp only[XP,h];rw[Vb r.length _ (by rw[List.length_drop,List.length_cons];omega)]
def jJ (s:Ψ):Option Ψ:=
 if jq s then some s else
 if decide (s.length<2)||(!(s.head?==some 34)|| !(s.getLast?==some 34))then none else
 match ZK (s.drop 1).dropLast with
 |none=>none
 |some o=>if zg o=s then some o else none
theorem rD (b:UInt8):b.toNat<256:=b.toNat_lt
theorem Xe {n:Nat} (h:n<16):(KE n).toNat=if n<10 then 48+n else 87+n:=by
 unfold KE;split
 · rw[UInt8.toNat_ofNat',Nat.mod_eq_of_lt ω]
 rw[UInt8.toNat_ofNat',Nat.mod_eq_of_lt ω]
theorem dF {n:Nat} (h:n<16):vS (KE n)=n:=by
 unfold vS;rw[Xe h];split<;>rename_i h1<;>split<;>rename_i h2<;>(try split)<;>omega
theorem xm {l:Ψ} (h:jq l=true):zg l=l:=by unfold zg;rw[if_pos h]
theorem JM {l:Ψ} (h:jq l=false):zg l=34::(jR l++[34]):=by unfold zg;rw[if_neg (by rw[h];decide)]
theorem NK {s o:Ψ} (h:jJ s=some o):zg o=s:=by
 unfold jJ at h;split at h
 ·
  rename_i hp;cases h
  exact xm hp
 split at h
 · cases h
 split at h
 · cases h
 split at h
 ·
  rename_i hq;cases h
  exact hq
 cases h
theorem XR (b:UInt8):1<=(xR b).length/\(xR b).length<=4:=by
 unfold xR;split
 · simp
 split<;>simp
theorem xe: ∀ l:Ψ,l.length<=(jR l).length/\(jR l).length<=4*l.length
 |[]=>by simp[jR]
 |b::l=>by
  have e:jR (b::l)=xR b++jR l:=by simp[jR]
  have h1:=XR b;have h2:=xe l;rw[e,List.length_append,List.length_cons];omega
theorem YJ (l:Ψ):l.length<=(zg l).length/\(zg l).length<=4*l.length+2:=by
 unfold zg;split
 · omega
 have:=xe l;rw[List.length_cons,List.length_append,List.length_singleton];omega
def kK:List Ψ->Ψ
 |[]=>[]
 |[x]=>zg x
 |x::y::r=>zg x++44::kK (y::r)
theorem yx (x:Ψ) {r:List Ψ} (h:r≠[]):kK (x::r)=zg x++44::kK r:=by
 cases r with
 |nil=>exact absurd rfl h
 |cons y r=>rfl
theorem Xj: ∀ (l:List Ψ) (x:Ψ),l≠[]->kK (l++[x])=kK l++44::zg x
 |[],x,h=>absurd rfl h
 |[y],x,_=>rfl
 |y::z::r,x,_=>by
  rw[List.cons_append,yx y σ,Xj (z::r) x σ,yx y σ];simp
theorem Y8: ∀ (a b:List Ψ),a≠[]->b≠[]->kK (a++b)=kK a++44::kK b
 |[],b,h,_=>absurd rfl h
 |[y],b,_,hb=>by rw[List.singleton_append,yx y hb];rfl
 |y::z::r,b,_,hb=>by
  rw[List.cons_append,yx y σ,Y8 (z::r) b σ hb,yx y σ];simp
theorem bF (l:List Ψ): ∀ k,(kK (l.take k)).length<=(kK l).length:=λk=>by
 by_cases h0:l.take k=[]
 · rw[h0];exact Nat.zero_le _
 by_cases h1:l.drop k=[]
 ·
  have:l.take k=l:=by
   have:=List.take_append_drop k l;rw[h1,List.append_nil]at this;exact this
  rw[this];exact Nat.le_refl _
 have:=Y8 _ _ h0 h1;rw[List.take_append_drop]at this;rw[this,List.length_append];omega
def zL (l:List Ψ):Ψ×Int:=if 64<l.length then([],5)else if 65536<(kK l).length then([],5)else(kK l,0)
def yg:Ψ->Nat
 |[]=>0
 |c::r=>if c.toNat==34 then 1 else if c.toNat==92 then(match r with
   |[]=>1
   |_::r'=>2+yg r')else 1+yg r
def wS:Ψ->Nat
 |[]=>0
 |c::r=>if c.toNat==44 then 0 else 1+wS r
def Qc (s:Ψ):Nat:=match s with
 |[]=>0
 |c::r=>if c.toNat==34 then 1+yg r else wS (c::r)
theorem VN: ∀ s:Ψ,yg s<=s.length
 |[]=>Nat.le_refl _
 |c::r=>by
  unfold yg;split
  · simp
  split
  ·
   split
   · simp
   rename_i d r';have:=VN r';simp only[List.length_cons];omega
  have:=VN r;rw[List.length_cons];omega
theorem VM: ∀ s:Ψ,wS s<=s.length
 |[]=>Nat.le_refl _
 |c::r=>by
  unfold wS;split
  · simp
  have:=VM r;rw[List.length_cons];omega
theorem I5 (s:Ψ):Qc s<=s.length:=by
 unfold Qc;split
 · simp
 split
 ·
  have:=VN (by assumption);rw[List.length_cons];omega
 exact VM _
theorem Jg (c:UInt8) (r:Ψ) (h1:(c.toNat==34)=false) (h2:(c.toNat==92)=false):yg (c::r)=1+yg r:=by
 cases r with
 |nil=>
  simp only[yg];rw[if_neg (by rw[h1];decide),if_neg (by rw[h2];decide)]
 |cons d r=>
  rw[yg.eq_def];simp only;rw[if_neg (by rw[h1];decide),if_neg (by rw[h2];decide)]
theorem Vr (d:UInt8) (r:Ψ):yg (92::d::r)=2+yg r:=by
 simp only[yg];rw[if_neg δ,if_pos δ]
def kS:Nat->Ψ->List Ψ×Int
 |0,_=>([],5)
 |n+1,s=>match jJ (s.take (Qc s))with
  |none=>([],3)
  |some f=>match s.drop (Qc s)with
   |[]=>([f],0)
   |c::r=>if c.toNat==44 then(if(kS n r).2=0 then(f::(kS n r).1,0)else kS n r)else([],3)
def yM (line:Ψ):List Ψ×Int:=if 65536<line.length then([],5)else if line=[]then([],0)else kS 64 line
theorem aO: ∀ (n:Nat) (s:Ψ) (l:List Ψ),kS n s=(l,0)->l≠[]/\l.length<=n/\kK l=s
 |0,s,l,h=>by
  have h':(([],5):List Ψ×Int)=(l,0):=h;rw[Prod.mk.injEq]at h';exact absurd h'.2 δ
 |n+1,s,l,h=>by
  simp only[kS]at h;split at h
  ·
   rw[Prod.mk.injEq]at h;exact absurd h.2 δ
  rename_i f hf;have hq:=NK hf;split at h
  ·
   rename_i hd;rw[Prod.mk.injEq]at h;obtain⟨rfl,-⟩:=h;refine⟨σ,σ, ?_⟩;have:=List.take_append_drop (Qc s) s;rw[hd,List.append_nil]at this;show zg f=s
   rw[hq,this]
  rename_i c r hd;split at h
  ·
   rename_i hc;split at h
   ·
    rename_i h0;rw[Prod.mk.injEq]at h;obtain⟨rfl,-⟩:=h;obtain⟨i1,i2,i3⟩:=aO n r (kS n r).1 (by rw[<-h0]);refine⟨σ,by simpa using i2, ?_⟩;rw[yx f i1,i3,hq];have hc':c=44:=by
     have:c.toNat=(44:UInt8).toNat:=by simpa using hc
     exact UInt8.toNat_inj.1 this
    rw[<-hc',<-hd,List.take_append_drop]
   rename_i h0;rw[h]at h0;exact absurd rfl h0
  rw[Prod.mk.injEq]at h;exact absurd h.2 δ
theorem tX {l:List Ψ} {s:Ψ} (h:yM s=(l,0)):zL l=(s,0):=by
 unfold yM at h;split at h
 · rw[Prod.mk.injEq]at h;exact absurd h.2 δ
 rename_i h1;split at h
 ·
  rename_i h2;rw[Prod.mk.injEq]at h;obtain⟨rfl,-⟩:=h;rw[h2];rfl
 obtain⟨i1,i2,i3⟩:=aO 64 s l h;unfold zL;rw[if_neg ω,i3,if_neg h1]
def zK (c:UInt8):Ψ->List Ψ
 |[]=>[[]]
 |b::r=>if b=c then[]::zK c r else match zK c r with
  |[]=>[[b]]
  |h::t=>(b::h)::t
theorem fB (c:UInt8): ∀ s,zK c s≠[]
 |[]=>by simp[zK]
 |b::r=>by
  unfold zK;split
  · simp
  split<;>simp
theorem ZT (c:UInt8) (r:Ψ):zK c (c::r)=[]::zK c r:=by
 rw[zK];rw[if_pos rfl]
theorem yh {c b:UInt8} (h:b≠c) {r h':Ψ} {t:List Ψ} (hr:zK c r=h'::t):zK c (b::r)=(b::h')::t:=by
 rw[zK];rw[if_neg h,hr]
theorem Yf {c:UInt8} (r:Ψ): ∀ (l:Ψ),c∉l->zK c (l++c::r)=l::zK c r
 |[],_=>ZT c r
 |b::l,h=>by
  rw[List.cons_append];exact yh (λe:b=c=>h (by rw[e];exact List.mem_cons_self ..)) (Yf r l λe=>h (List.mem_cons_of_mem _ e))
def vT (t:Ψ):List Ψ×Int:=if 65536<t.length then([],5)else if t=[]then([],0)else if t.getLast?=some 10 then(zK 10 t.dropLast,0)else([],4)
def vK (ls:List Ψ):Ψ:=ls.flatMap λl=>l++[10]
def VD (ls:List Ψ):Bool:=ls.all λl=> !l.contains 10
def Zu (ls:List Ψ):Ψ×Int:=if VD ls=false then([],3)else if 65536<(vK ls).length then([],5)else(vK ls,0)
open Go
theorem Cj (c:UInt8) (l:Ψ):Lib.index (c::l) [c]=0:=by rw[Lib.index];simp[List.isPrefixOf]
theorem nC (b c:UInt8) (l:Ψ) (h:b≠c):Lib.index (b::l) [c]=if Lib.index l [c]== -1 then -1 else Lib.index l [c]+1:=by
 have hp:([c]:Ψ).isPrefixOf (b::l)=false:=by simp[List.isPrefixOf,Ne.symm h]
 rw[Lib.index,hp];simp
theorem oh (c:UInt8): ∀ s:Ψ,Lib.splitK [c] 0 (Lib.count s [c]) s=zK c s
 |[]=>by
  rw[Lib.count_miss (by simp[Lib.index])];rfl
 |b::l=>by
  have ih:=oh c l;by_cases h:b=c
  ·
   subst h;rw[Lib.count_cons_eq,ZT,Nat.add_comm,Lib.splitK,Cj];simp[ih]
  rw[Lib.count_cons_ne b c l h];by_cases hm:Lib.index l [c]= -1
  ·
   have hm':Lib.index (b::l) [c]= -1:=by rw[nC b c l h,if_pos (beq_iff_eq.2 hm)]
   rw[Lib.count_miss hm]at ih ⊢;have ih':[l]=zK c l:=ih;exact(yh h ih'.symm).symm
  have hge:=Lib.index_ge l [c];obtain⟨j,hj⟩: ∃ j:Nat,Lib.index l [c]=j:=⟨(Lib.index l [c]).toNat,ω⟩;have hj':Lib.index (b::l) [c]=((j+1:Nat):Int):=by rw[nC b c l h,if_neg (λe=>hm (beq_iff_eq.1 e)),hj];omega
  rw[Lib.count_hit σ hj,Nat.add_comm,Lib.splitK,hj,if_neg (by rw[beq_iff_eq];omega)]at ih;rw[Lib.count_hit σ hj,Nat.add_comm,Lib.splitK,hj',if_neg (by rw[beq_iff_eq];omega)];rw[yh h ih.symm];simp
end Go.Proofs.YtakedkcjplfgeaaGreatDoor.Fld
namespace Go.Proofs.YtakedkcjplfgeaaGreatDoor.Fld
theorem dC: ∀ (f:Nat) (s o:Ψ),XP f s=some o->o.length<=s.length
 |0,[],o,h=>by cases h;exact Nat.le_refl _
 |f+1,[],o,h=>by cases h;exact Nat.le_refl _
 |0,_::_,o,h=>by cases h
 |f+1,c::r,o,h=>by
  simp only[XP]at h;split at h
  · cases h
  rename_i b k hk;obtain⟨h1,h2⟩:=JJ hk;obtain⟨o',ho',rfl⟩:=Option.map_eq_some_iff.1 h;have:=dC f _ o' ho';rw[List.length_drop]at this;rw[List.length_cons];omega
theorem NL {s o:Ψ} (h:jJ s=some o):o.length<=s.length:=by
 unfold jJ at h;split at h
 · cases h;exact Nat.le_refl _
 split at h
 · cases h
 split at h
 · cases h
 rename_i o' hd;split at h
 ·
  cases h
  have:=dC _ _ _ hd;rw[List.length_dropLast,List.length_drop]at this;omega
 cases h
theorem Ye: ∀ (n:Nat) (s:Ψ),∀ f∈(kS n s).1,f.length<=s.length
 |0,s,f,h=>by simp[kS]at h
 |n+1,s,f,h=>by
  simp only[kS]at h;split at h
  · simp at h
  rename_i g hg;have hgl:=NL hg;rw[List.length_take]at hgl;split at h
  ·
   rw[List.mem_singleton]at h;subst h;omega
  rename_i c r hd;have hdl:=congrArg List.length hd;rw[List.length_drop,List.length_cons]at hdl;split at h
  ·
   split at h
   ·
    rcases List.mem_cons.1 h with rfl|h
    · omega
    have:=Ye n r f h;omega
   have:=Ye n r f h;omega
  simp at h
theorem ZU {s:Ψ} {l:List Ψ} {e:Int} (h:yM s=(l,e)): ∀ f∈l,f.length<=s.length:=by
 unfold yM at h;split at h
 · rw[Prod.mk.injEq]at h;rw[<-h.1];simp
 split at h
 · rw[Prod.mk.injEq]at h;rw[<-h.1];simp
 have:=Ye 64 s;rw[h]at this;exact this
theorem C9 {l:List Ψ} {o:Ψ} {e:Int} (h:zL l=(o,e)):o.length<=65536:=by
 unfold zL at h;split at h
 · rw[Prod.mk.injEq]at h;rw[<-h.1];exact Nat.zero_le _
 split at h
 · rw[Prod.mk.injEq]at h;rw[<-h.1];exact Nat.zero_le _
 rw[Prod.mk.injEq]at h;rw[<-h.1];omega
end Go.Proofs.YtakedkcjplfgeaaGreatDoor.Fld
namespace Go.Proofs.YtakedkcjplfgeaaGreatDoor.Tt
open Num Clk Dat Frq Thr Fld
def Vj:List Ψ:=[[115,116,111,112],[114,111,117,116,101],[99,97,108,101,110,100,97,114],[101,120,99,101,112,116,105,111,110],[116,114,105,112],[102,114,101,113,117,101,110,99,121],[116,104,114,111,117,103,104],[103,117,97,114,97,110,116,101,101],[112,97,116,104],[112,114,111,100,117,99,116],[99,97,108,108],[102,97,114,101,115]]
def modeWords:List Ψ:=[[98,117,115],[116,114,97,109],[109,101,116,114,111],[114,97,105,108],[102,101,114,114,121],[99,111,97,99,104],[99,97,98,108,101],[102,117,110,105,99,117,108,97,114]]
def Rf:Ψ:=[121,101,115]
def Rz:Ψ:=[110,111]
def yN:Ψ:=[97,100,100,101,100]
def jM:Ψ:=[114,101,109,111,118,101,100]
def Ia:Ψ:=[98,111,116,104]
def AP:Ψ:=[98,111,97,114,100]
def lC:Ψ:=[97,108,105,103,104,116]
def ae:Ψ:=[110,111,110,101]
def qm (s:Ψ):List Ψ->Option Nat
 |[]=>none
 |x::r=>if x=s then some 0 else(qm s r).map (· +1)
def ZM (s:Ψ):Option Nat:=qm s Vj
def wM (k:Nat):Nat:=[5,4,5,4,5,5,3,4,5,7,5,4].getD k 0
def jr (l:Ψ):Int×Int:=match l.drop (l.length-3)with
  |[p,x,y]=>if p=46/\zN (l.take (l.length-3))=true/\qV x=true/\qV y=true then
      (if 10000<val (l.take (l.length-3))∨1000000<100*val (l.take (l.length-3))+10*(x.toNat-48)+(y.toNat-48)then(0,2)
       else(((100*val (l.take (l.length-3))+10*(x.toNat-48)+(y.toNat-48):Nat):Int),0))else(0,3)
  |_=>(0,3)
def jw (l:Ψ):Int×Int:=match l with
 |[a,b,p,c,d,q,e,f]=>if p=58/\q=58/\qV a=true/\qV b=true/\qV c=true/\qV d=true/\qV e=true/\qV f=true then
   (match join (wH a b) (wH c d) (wH e f)with
   |(n,true)=>(n,0)
   |(_,false)=>(0,10))else(0,3)
 |_=>(0,3)
def wB (l:Ψ):Int×Int:=if vG l pat10 then(match l with
 |[a,b,c,e,_,f,g,_,h,k]=>(match jV (100*wH a b+wH c e) (wH f g) (wH h k)with
  |(n,true)=>(n,0)
  |(_,false)=>(0,11))
 |_=>(0,3))else(0,3)
def KL (s:Ψ):Int×Int:=match qm s modeWords with
 |some i=>(i,0)
 |none=>(0,3)
def wG:Nat->List Ψ->Option Nat
 |acc,[]=>some acc
 |acc,p::r=>match qm p modeWords with
  |some m=>if acc>>>m=0 then wG (acc|||1<<<m) r else none
  |none=>none
def QR (s:Ψ):Int×Int:=if s=ae then(0,0)else match wG 0 (zK 43 s)with
 |some m=>((m:Int),0)
 |none=>(0,3)
def Qu (yes no s:Ψ):Bool×Int:=(s==yes,if s=yes∨s=no then 0 else 3)
def yI (s:Ψ):Bool×Int:=Qu Rf Rz s
def JR (s:Ψ):Vw×Int:=match s with
 |[a,b,c,d,e,f,g]=>(⟨a==49,b==49,c==49,d==49,e==49,f==49,g==49⟩,if s.all (λx=>x==48||x==49)=true then 0 else 3)
 |_=>(⟨false,false,false,false,false,false,false⟩,3)
def Zp (s:Ψ):(Bool×Bool)×Int:=if s=Ia then((true,true),0)else if s=AP then((true,false),0)else if s=lC then((false,true),0)else if s=ae then((false,false),0)else((false,false),3)
def zW (ids:List Ψ) (s:Ψ):Int×Int:=match qm s ids with
 |some i=>(i,0)
 |none=>(0,9)
def zT:List Int->Int
 |[]=>0
 |e::r=>if e=0 then zT r else e
def yK (f:List Ψ) (i:Nat):Ψ:=f.getD i []
structure St where
 t:TtD
 lines:List (List Int)
 rules:Int
 opened:Bool
def start:St:=⟨emptyT,[[],[],[],[],[],[],[],[],[],[]],0,false⟩
def jm (s:St) (k:Nat) (n:Int):List (List Int):=s.lines.modify k (· ++[n])
def kH (l:List TripX) (c:CallD):List TripX:=match l.getLast? with
 |some x=>l.dropLast++[{ x with calls:=x.calls++[c] }]
 |none=>l
def qy (s:St) (k:Nat) (f:List Ψ) (n:Int):St×Int:=
 let t:=s.t
 let sr:=zW (t.stops.map (·.id))
 let rr:=zW (t.routes.map (·.id))
 let cr:=zW (t.cals.map (·.id))
 let tr:=zW (t.trips.map (·.id))
 let o:Bool:=k==4||k==10
 match k with
 |0=>(⟨{ t with stops:=t.stops++[⟨yK f 1,(kF (yK f 2)).1,(yI (yK f 3)).1,(kF (yK f 4)).1⟩] },jm s 0 n,s.rules,o⟩,zT [(kF (yK f 2)).2,(yI (yK f 3)).2,(kF (yK f 4)).2])
 |1=>(⟨{ t with routes:=t.routes++[⟨yK f 1,(KL (yK f 2)).1,(yI (yK f 3)).1⟩] },jm s 1 n,s.rules,o⟩,zT [(KL (yK f 2)).2,(yI (yK f 3)).2])
 |2=>(⟨{ t with cals:=t.cals++[⟨yK f 1,(JR (yK f 2)).1,(wB (yK f 3)).1,(wB (yK f 4)).1⟩] },jm s 2 n,s.rules,o⟩,zT [(JR (yK f 2)).2,(wB (yK f 3)).2,(wB (yK f 4)).2])
 |3=>(⟨{ t with excs:=t.excs++[⟨(cr (yK f 1)).1,(wB (yK f 2)).1,(Qu yN jM (yK f 3)).1⟩] },jm s 3 n,s.rules,o⟩,zT [(cr (yK f 1)).2,(wB (yK f 2)).2,(Qu yN jM (yK f 3)).2])
 |4=>(⟨{ t with trips:=t.trips++[⟨yK f 1,(rr (yK f 2)).1,(cr (yK f 3)).1,(yI (yK f 4)).1,[]⟩] },jm s 4 n,s.rules,o⟩,zT [(rr (yK f 2)).2,(cr (yK f 3)).2,(yI (yK f 4)).2])
 |5=>(⟨{ t with freqs:=t.freqs++[⟨(tr (yK f 1)).1,(jw (yK f 2)).1,(jw (yK f 3)).1,(wE (yK f 4)).1⟩] },jm s 5 n,s.rules,o⟩,zT [(tr (yK f 1)).2,(jw (yK f 2)).2,(jw (yK f 3)).2,(wE (yK f 4)).2])
 |6=>(⟨{ t with thrus:=t.thrus++[⟨(tr (yK f 1)).1,(tr (yK f 2)).1⟩] },jm s 6 n,s.rules,o⟩,zT [(tr (yK f 1)).2,(tr (yK f 2)).2])
 |7=>(⟨{ t with guars:=t.guars++[⟨(tr (yK f 1)).1,(tr (yK f 2)).1,(sr (yK f 3)).1⟩] },jm s 7 n,s.rules,o⟩,zT [(tr (yK f 1)).2,(tr (yK f 2)).2,(sr (yK f 3)).2])
 |8=>(⟨{ t with paths:=t.paths++[⟨(sr (yK f 1)).1,(sr (yK f 2)).1,(wE (yK f 3)).1,(yI (yK f 4)).1⟩] },jm s 8 n,s.rules,o⟩,zT [(sr (yK f 1)).2,(sr (yK f 2)).2,(wE (yK f 3)).2,(yI (yK f 4)).2])
 |9=>(⟨{ t with fares:={ t.fares with prods:=t.fares.prods++[⟨yK f 1,(jr (yK f 2)).1,(kF (yK f 3)).1,(kF (yK f 4)).1,(wE (yK f 5)).1,(QR (yK f 6)).1⟩] } },jm s 9 n,s.rules,o⟩,zT [(jr (yK f 2)).2,(kF (yK f 3)).2,(kF (yK f 4)).2,(wE (yK f 5)).2,(QR (yK f 6)).2])
 |10=>(⟨{ t with trips:=kH t.trips ⟨(sr (yK f 1)).1,(jw (yK f 2)).1,(jw (yK f 3)).1,(Zp (yK f 4)).1.1,(Zp (yK f 4)).1.2⟩ },s.lines,s.rules,o⟩,zT [(sr (yK f 1)).2,(jw (yK f 2)).2,(jw (yK f 3)).2,(Zp (yK f 4)).2])
 |_=>(⟨{ t with fares:=⟨t.fares.prods,(jr (yK f 1)).1,(wE (yK f 2)).1,(jr (yK f 3)).1⟩ },s.lines,n,o⟩,zT [(jr (yK f 1)).2,(wE (yK f 2)).2,(jr (yK f 3)).2])
def vN (s:St) (l:Ψ) (n:Int):St×Int:=
 if l=[]∨l.head?=some 35 then(s,0)
 else if(yM l).2≠0 then(s,(yM l).2)
 else match ZM (yK (yM l).1 0)with
  |none=>(s,41)
  |some k=>if(yM l).1.length≠wM k then(s,1)
   else if k=10/\s.opened=false then(s,8)
   else if k=11/\0<s.rules then(s,6)
   else qy s k (yM l).1 n
def yz (s:St) (n:Int):List Ψ->St×Int×Int
 |[]=>(s,0,0)
 |l::r=>if(vN s l n).2=0 then yz (vN s l n).1 (n+1) r else(s,n,(vN s l n).2)
def vC (text:Ψ):TtD×Int×Int:=
 if(vT text).2≠0 then(emptyT,0,(vT text).2)
 else if(yz start 1 (vT text).1).2.2≠0 then(emptyT,(yz start 1 (vT text).1).2.1,(yz start 1 (vT text).1).2.2)
 else
  let s:=(yz start 1 (vT text).1).1
  let c:=Qj s.t
  if c.2.2=0 then(s.t,0,0)else if c.2.1<0 then(emptyT,s.rules,c.2.2)else(emptyT,(s.lines.getD c.1.toNat []).getD c.2.1.toNat 0,c.2.2)
def kG (v:Bool):Ψ:=if v then Rf else Rz
def ai (v:Bool):UInt8:=if v then 49 else 48
def Qk (w:Vw):Ψ:=[ai w.d0,ai w.d1,ai w.d2,ai w.d3,ai w.d4,ai w.d5,ai w.d6]
def Qh (c:CallD):Ψ:=if c.board&&c.alight then Ia else if c.board then AP else if c.alight then lC else ae
def kJ (n:Nat):Ψ:=
 if 3600<=n then qL (n / 3600)++104::(ZW (n / 60%60)++109::(ZW (n%60)++[115]))
 else if 60<=n then qL (n / 60)++109::(ZW (n%60)++[115])else qL n++[115]
def jc (n:Int):Ψ:=if 0<=n/\n<=359999 then kJ n.toNat else[]
def Qe (m:Int):Ψ:=if 0<=m/\m<=7 then modeWords.getD m.toNat []else[]
def Ei (m:Nat):List Nat:=(List.range 8).filter λi=>m>>>i%2=1
def vU (m:Int):Ψ:=if m<0∨255<m then[]else if m=0 then ae else((Ei m.toNat).map λi=>modeWords.getD i []).intersperse [43] |>.flatten
def jF (ids:List Ψ) (i:Int):Ψ:=ids.getD i.toNat []
def jZ (f:List Ψ):Ψ:=(zL f).1
def kw (k:Nat):Ψ:=Vj.getD k []
def Qs (t:TtD) (c:CallD):Ψ:=jZ [kw 10,jF (t.stops.map (·.id)) c.stop,(xU c.arrive).1,(xU c.depart).1,Qh c]
def JO (t:TtD):List Ψ:=
 (t.stops.map λx=>jZ [kw 0,x.id,jO x.zone,kG x.free,jO x.change])
 ++((t.routes.map λx=>jZ [kw 1,x.id,Qe x.mode,kG x.bikes])
 ++((t.cals.map λx=>jZ [kw 2,x.id,Qk x.week,(jb x.frm).1,(jb x.to).1])
 ++((t.excs.map λx=>jZ [kw 3,jF (t.cals.map (·.id)) x.cal,(jb x.day).1,if x.added then yN else jM])
 ++((t.trips.flatMap λx=>jZ [kw 4,x.id,jF (t.routes.map (·.id)) x.route,jF (t.cals.map (·.id)) x.cal,kG x.free]::x.calls.map (Qs t))
 ++((t.freqs.map λx=>jZ [kw 5,jF (t.trips.map (·.id)) x.trip,(xU x.frm).1,(xU x.to).1,jc x.every])
 ++((t.thrus.map λx=>jZ [kw 6,jF (t.trips.map (·.id)) x.frm,jF (t.trips.map (·.id)) x.to])
 ++((t.guars.map λx=>jZ [kw 7,jF (t.trips.map (·.id)) x.frm,jF (t.trips.map (·.id)) x.to,jF (t.stops.map (·.id)) x.stop])
 ++((t.paths.map λx=>jZ [kw 8,jF (t.stops.map (·.id)) x.frm,jF (t.stops.map (·.id)) x.to,jc x.secs,kG x.free])
 ++((if t.fares.disc=0/\t.fares.within=0/\t.fares.cap=0 then[]else[jZ [kw 11,(qW t.fares.disc).1,jc t.fares.within,(qW t.fares.cap).1]])
 ++(t.fares.prods.map λx=>jZ [kw 9,x.id,(qW x.price).1,jO x.rides,jO x.zones,jc x.secs,vU x.modes]))))))))))
def xI (t:TtD):Ψ×Int:=if(Qj t).2.2≠0 then([],(Qj t).2.2)else Zu (JO t)
def XT:Ψ:=[115,116,111,112,44,65,44,48,44,121,101,115,44,48,10,115,116,111,112,44,66,44,49,44,110,111,44,49,50,48,10,114,111,117,116,101,44,82,44,98,117,115,44,110,111,10,99,97,108,101,110,100,97,114,44,67,44,49,49,49,49,49,48,48,44,50,48,50,53,45,48,49,45,48,49,44,50,48,50,53,45,49,50,45,51,49,10,116,114,105,112,44,84,44,82,44,67,44,121,101,115,10,99,97,108,108,44,65,44,48,56,58,48,48,58,48,48,44,48,56,58,48,48,58,48,48,44,98,111,97,114,100,10,99,97,108,108,44,66,44,48,56,58,51,48,58,48,48,44,48,56,58,51,49,58,48,48,44,97,108,105,103,104,116,10,112,97,116,104,44,65,44,66,44,49,48,109,48,48,115,44,110,111,10,112,114,111,100,117,99,116,44,115,105,110,103,108,101,44,50,46,53,48,44,49,44,49,54,44,48,115,44,98,117,115,43,116,114,97,109,10]
def PU:TtD:=⟨[⟨[65],0,true,0⟩,⟨[66],1,false,120⟩],[⟨[82],0,false⟩],[⟨[67],⟨true,true,true,true,true,false,false⟩,9132,9496⟩],[],[⟨[84],0,0,true,[⟨0,28800,28800,true,false⟩,⟨1,30600,30660,false,true⟩]⟩],[],[],[],[⟨0,1,600,false⟩],⟨[⟨[115,105,110,103,108,101],250,1,16,0,3⟩],0,0,0⟩⟩
def Aq:Ψ:=[115,116,111,112,44,65,44,48,44,121,101,115,44,48,10,115,116,111,112,44,66,44,49,44,110,111,44,49,50,48,10,99,97,108,101,110,100,97,114,44,67,44,49,49,49,49,49,48,48,44,50,48,50,53,45,48,49,45,48,49,44,50,48,50,53,45,49,50,45,51,49,10,116,114,105,112,44,84,44,82,44,67,44,121,101,115,10]
def Au:Ψ:=[115,116,111,112,44,65,44,48,44,121,101,115,44,48,10,115,116,111,112,44,65,44,49,44,110,111,44,49,50,48,10]
def Aw:Ψ:=[35,32,110,111,32,115,116,111,112,115,10,10,99,97,108,108,44,65,44,48,56,58,48,48,58,48,48,44,48,56,58,48,48,58,48,48,44,98,111,97,114,100,10]
def Az:Ψ:=[115,116,111,112,44,65,44,48,44,121,101,115,44,48]
theorem SB:vC XT=(PU,0,0):=ξ
theorem SC:vC Aq=(emptyT,4,9):=ξ
theorem SE:vC Au=(emptyT,2,6):=ξ
theorem SI:vC Aw=(emptyT,3,8):=ξ
theorem SK:vC Az=(emptyT,0,4):=ξ
theorem SN:xI PU=(XT,0):=ξ
theorem Yh (l:Ψ):Time l (jw l).1 (jw l).2:=by
 unfold jw;split
 ·
  rename_i a b p c d q e f;split
  ·
   rename_i h;obtain⟨rfl,rfl,ha,hb,hc,hd,he,hf⟩:=h;rcases tN (wH a b) (wH c d) (wH e f)with hj|⟨n,hj⟩
   · rw[hj];exact .out ha hb hc hd he hf hj
   rw[hj];exact .ok n ha hb hc hd he hf hj
  rename_i h;refine .bad fun⟨a',b',c',d',e',f',hl,h1,h2,h3,h4,h5,h6⟩=>?_
  simp only[List.cons.injEq,and_true]at hl;obtain⟨rfl,rfl,rfl,rfl,rfl,rfl,rfl,rfl⟩:=hl;exact h ⟨rfl,rfl,h1,h2,h3,h4,h5,h6⟩
 rename_i h;refine .bad fun⟨a',b',c',d',e',f',hl,_⟩=>?_
 exact h _ _ _ _ _ _ _ _ hl
theorem iF (l:Ψ):Price l (jr l).1 (jr l).2:=by
 have hs: ∀ {x y:UInt8},l.drop (l.length-3)=[46,x,y]->l=l.take (l.length-3)++[46,x,y]:=fun{x y} h=>by
  rw[<-h,List.take_append_drop]
 have hb: ¬ (∃ x y,l.drop (l.length-3)=[46,x,y]/\zN (l.take (l.length-3))=true/\qV x=true/\qV y=true)-> ¬ iL l:=λhn ⟨a,x,y,hl,ha,hx,hy⟩=>by
  have ht:=oV hl;refine hn ⟨x,y, ?_,by rw[<-ht];exact ha,hx,hy⟩;have:=List.take_append_drop (l.length-3) l;rw[<-ht]at this;have h2:a++l.drop (l.length-3)=a++[46,x,y]:=this.trans hl;exact List.append_cancel_left h2
 unfold jr;split
 ·
  rename_i p x y hd;split
  ·
   rename_i h;obtain⟨rfl,hc,hx,hy⟩:=h;have hl:=hs hd;generalize l.take (l.length-3)=a at*
   subst hl;split
   ·
    rename_i h2;exact .big hc hx hy h2
   rename_i h2;exact .ok hc hx hy ω ω
  rename_i h;refine .bad (hb fun⟨x',y',h1,h2,h3,h4⟩=>?_);rw[hd]at h1;simp only[List.cons.injEq,and_true]at h1;obtain⟨rfl,rfl,rfl⟩:=h1;exact h ⟨rfl,h2,h3,h4⟩
 rename_i h;exact .bad (hb fun⟨x',y',h1,_⟩=>h _ _ _ h1)
def GU (b:UInt8):Bool:=b.toNat==43||(decide (97<=b.toNat)&&decide (b.toNat<=122))
theorem Xg: ∀ {ids:List Ψ} {x:Ψ},x∉ids->qm x ids=none
 |[],_,_=>rfl
 |y::r,x,h=>by
  unfold qm;rw[if_neg (λe=>h (by rw[e];exact List.mem_cons_self ..)),Xg (λhm=>h (List.mem_cons_of_mem _ hm))];rfl
theorem yw: ∀ {ids:List Ψ} {x:Ψ} {i:Nat},qm x ids=some i->ids[i]? =some x
 |[],x,i,h=>by cases h
 |y::r,x,i,h=>by
  unfold qm at h;split at h
  ·
   rename_i e;obtain rfl:=Option.some.inj h;rw[e];rfl
  cases hr:qm x r with
  |none=>rw[hr]at h;cases h
  |some j=>
   rw[hr]at h;obtain rfl:=Option.some.inj h;rw[List.getElem?_cons_succ];exact yw hr
theorem gq: ∀ y∈modeWords,∀ b∈y,GU b=true:=δ
theorem VA {x:Ψ} {i:Nat} (h:qm x modeWords=some i):i<8:=(List.getElem?_eq_some_iff.1 (yw h)).1
theorem aP {c b:UInt8} (hb:b≠c) (r:Ψ): ∀ p:Ψ,c∉p-> ∃ h t,zK c (p++b::r)=(p++b::h)::t
 |[],_=>by
  obtain⟨h',t,hr⟩: ∃ h' t,zK c r=h'::t:=by
   cases hs:zK c r with
   |nil=>exact absurd hs (fB c r)
   |cons x y=>exact⟨x,y,rfl⟩
  exact⟨h',t,yh hb hr⟩
 |x::p,hp=>by
  obtain⟨h,t,hr⟩:=aP hb r p (λhm=>hp (List.mem_cons_of_mem _ hm));exact⟨h,t,yh (λe=>hp (by rw[e];exact List.mem_cons_self ..)) hr⟩
theorem aQ {c:UInt8}: ∀ p:Ψ,c∉p->zK c p=[p]
 |[],_=>rfl
 |x::p,hp=>yh (λe=>hp (by rw[e];exact List.mem_cons_self ..)) (aQ p (λhm=>hp (List.mem_cons_of_mem _ hm)))
theorem uF {acc:Nat} {p r:Ψ} {b:UInt8} (hp:(43:UInt8)∉p) (hb:GU b=false):wG acc (zK 43 (p++b::r))=none:=by
 have h43:b≠43:=λe=>by rw[e]at hb;exact absurd hb δ
 obtain⟨h,t,e⟩:=aP h43 r p hp;rw[e];have:qm (p++b::h) modeWords=none:=Xg (λhm=>by
  have:=gq _ hm b σ;rw[hb]at this;cases this)
 simp only[wG];rw[this]
theorem di {acc:Nat} {p:Ψ} {r:List Ψ} (h:qm p modeWords=none):wG acc (p::r)=none:=by
 simp only[wG];rw[h]
theorem Xr {acc m:Nat} {p:Ψ} {r:List Ψ} (h:qm p modeWords=some m) (h2:acc>>>m=0):wG acc (p::r)=wG (acc|||1<<<m) r:=by
 simp only[wG];rw[h];simp only;rw[if_pos h2]
theorem Xq {acc m:Nat} {p:Ψ} {r:List Ψ} (h:qm p modeWords=some m) (h2: ¬ acc>>>m=0):wG acc (p::r)=none:=by
 simp only[wG];rw[h];simp only;rw[if_neg h2]
theorem Gu {acc m:Nat} (ha:acc<256) (hm:m<8):acc|||1<<<m<256:=by
 have:(1:Nat)<<<m<2 ^ 8:=by
  rw[Nat.one_shiftLeft];exact Nat.pow_lt_pow_right ω hm
 exact Nat.or_lt_two_pow (n:=8) ha this
def uG (o:Option Nat):Int×Int:=match o with
 |some m=>((m:Int),0)
 |none=>(0,3)
theorem gu {s:Ψ} (h: ¬ s=ae):QR s=uG (wG 0 (zK 43 s)):=by
 unfold QR uG;rw[if_neg h];try(cases wG 0 (zK 43 s)<;>rfl)
def QY (t:TtD):Nat->Nat
 |0=>t.stops.length
 |1=>t.routes.length
 |2=>t.cals.length
 |3=>t.excs.length
 |4=>t.trips.length
 |5=>t.freqs.length
 |6=>t.thrus.length
 |7=>t.guars.length
 |8=>t.paths.length
 |_=>t.fares.prods.length
def Ac (l:Ψ):Prop:=l≠[]/\l.head?≠some 35
structure lH (P:Int->Prop) (s:St):Prop where
 ten:s.lines.length=10
 len: ∀ k,k<10->(s.lines.getD k []).length=QY s.t k
 good: ∀ k,k<10-> ∀ m∈s.lines.getD k [],P m
 rule:s.rules=0/\s.t.fares.disc=0/\s.t.fares.within=0/\s.t.fares.cap=0∨0<s.rules/\P s.rules
theorem tZ (P:Int->Prop):lH P start:=by
 refine⟨rfl,λk hk=>?_,λk hk m hm=>?_, .inl ⟨rfl,rfl,rfl,rfl⟩⟩
 ·
  have:k=0∨k=1∨k=2∨k=3∨k=4∨k=5∨k=6∨k=7∨k=8∨k=9:=ω
  rcases this with rfl|rfl|rfl|rfl|rfl|rfl|rfl|rfl|rfl|rfl<;>rfl
 have:k=0∨k=1∨k=2∨k=3∨k=4∨k=5∨k=6∨k=7∨k=8∨k=9:=ω
 rcases this with rfl|rfl|rfl|rfl|rfl|rfl|rfl|rfl|rfl|rfl<;>exact absurd hm (by simp[start])
theorem nX (s:St) (h:s.lines.length=10) (j:Nat) (n:Int) (k:Nat) (hk:k<10):(jm s j n).getD k []=if j=k then s.lines.getD k []++[n]else s.lines.getD k []:=by
 unfold jm;rw[List.getD_eq_getElem?_getD,List.getD_eq_getElem?_getD,List.getElem?_modify];rw[List.getElem?_eq_getElem ω];split<;>simp
theorem Za (l:List TripX) (c:CallD):(kH l c).length=l.length:=by
 unfold kH;cases h:l.getLast? with
 |none=>rfl
 |some x=>
  have:l≠[]:=λe=>by rw[e]at h;simp at h
  have:=List.length_pos_iff.2 this;simp
  omega
theorem DI {P:Int->Prop} {s:St} (h:lH P s) (j:Nat) (n:Int) (hn:P n) (t:TtD) (o:Bool) (ht: ∀ k,k<10->QY t k=QY s.t k+if j=k then 1 else 0) (hf:t.fares.disc=s.t.fares.disc/\t.fares.within=s.t.fares.within/\t.fares.cap=s.t.fares.cap):lH P ⟨t,jm s j n,s.rules,o⟩:=by
 refine⟨by show(jm s j n).length=10;unfold jm;rw[List.length_modify];exact h.ten,λk hk=>?_,λk hk m hm=>?_, ?_⟩
 ·
  show((jm s j n).getD k []).length=QY t k
  rw[nX s h.ten j n k hk,ht k hk];split
  · rw[List.length_append,h.len k hk];rfl
  rw[h.len k hk];rfl
 ·
  have hm':m∈(jm s j n).getD k []:=hm;rw[nX s h.ten j n k hk]at hm';split at hm'
  ·
   rcases List.mem_append.1 hm' with h1|h1
   · exact h.good k hk m h1
   rw[List.mem_singleton.1 h1];exact hn
  exact h.good k hk m hm'
 show s.rules=0/\t.fares.disc=0/\t.fares.within=0/\t.fares.cap=0∨0<s.rules/\P s.rules
 rw[hf.1,hf.2.1,hf.2.2];exact h.rule
theorem Wq {k:Nat} (hk:k<10):k=0∨k=1∨k=2∨k=3∨k=4∨k=5∨k=6∨k=7∨k=8∨k=9:=ω
theorem nI {P:Int->Prop} {s:St} (h:lH P s) (k:Nat) (f:List Ψ) (n:Int) (h0:0<n) (hn:P n):lH P (qy s k f n).1:=by
 unfold qy;split
 case h_11=>
  refine⟨h.ten,λq hq=>?_,h.good,h.rule⟩;rw[show QY _ q=QY s.t q from by
   rcases Wq hq with rfl|rfl|rfl|rfl|rfl|rfl|rfl|rfl|rfl|rfl<;>first|rfl|exact Za _ _]
  exact h.len q hq
 case h_12=>
  refine⟨h.ten,λq hq=>?_,h.good, .inr ⟨h0,hn⟩⟩;rw[show QY _ q=QY s.t q from by
   rcases Wq hq with rfl|rfl|rfl|rfl|rfl|rfl|rfl|rfl|rfl|rfl<;>rfl]
  exact h.len q hq
 all_goals
  refine DI h _ n hn _ _ (λq hq=>?_) ⟨rfl,rfl,rfl⟩;rcases Wq hq with rfl|rfl|rfl|rfl|rfl|rfl|rfl|rfl|rfl|rfl<;>simp[QY]
theorem DD {P:Int->Prop} {s:St} (h:lH P s) (l:Ψ) (n:Int) (h0:0<n) (hn:Ac l->P n):lH P (vN s l n).1:=by
 unfold vN;split
 · exact h
 rename_i hl;have hc:Ac l:=⟨λe=>hl (.inl e),λe=>hl (.inr e)⟩;split
 · exact h
 split
 · exact h
 split
 · exact h
 split
 · exact h
 split
 · exact h
 exact nI h _ _ n h0 (hn hc)
theorem Aa {α:Type} {err:List α->α->Int}: ∀ (r pre:List α),(wU err pre r).2≠0-> ∃ i:Nat,(wU err pre r).1=i/\i<pre.length+r.length
 |[],pre,h=>absurd rfl h
 |x::r,pre,h=>by
  unfold wU at h ⊢;split
  ·
   rename_i h0;rw[if_pos h0]at h;obtain⟨i,h1,h2⟩:=Aa r (pre++[x]) h;exact⟨i,h1,by simp at h2 ⊢;omega⟩
  exact⟨pre.length,rfl,σ⟩
theorem yu {α:Type} {most:Nat} {err:List α->α->Int} {l:List α} (h:(qZ most err l).2≠0): ∃ i:Nat,(qZ most err l).1=i/\i<l.length:=by
 unfold qZ at h ⊢;split
 ·
  rename_i hm;exact⟨0,rfl,ω⟩
 rename_i hm;rw[if_neg hm]at h;obtain⟨i,h1,h2⟩:=Aa l [] h;exact⟨i,h1,by simpa using h2⟩
theorem Gz {t:TtD} {p:Nat} (hp:p<10) (h:(zV t p).2≠0):(∃ i:Nat,(zV t p).1=i/\i<QY t p)∨(zV t p).1= -1/\ ¬ (t.fares.disc=0/\t.fares.within=0/\t.fares.cap=0):=by
 rcases Wq hp with rfl|rfl|rfl|rfl|rfl|rfl|rfl|rfl|rfl|rfl
 · exact .inl (yu h)
 · exact .inl (yu h)
 · exact .inl (yu h)
 · exact .inl (yu h)
 · exact .inl (yu h)
 ·
  obtain⟨i,h1,h2⟩:=yu (show(qZ 64 (Zk (t.trips.map (·.calls))) (t.freqs.map zS)).2≠0 from h);exact .inl ⟨i,h1,by rw[List.length_map]at h2;exact h2⟩
 ·
  obtain⟨i,h1,h2⟩:=yu (show(qZ 128 (zU (t.trips.map IV) (t.freqs.map zS)) (t.thrus.map ja)).2≠0 from h);exact .inl ⟨i,h1,by rw[List.length_map]at h2;exact h2⟩
 · exact .inl (yu h)
 · exact .inl (yu h)
 show(∃ i:Nat,(vF t.fares).1=i/\i<t.fares.prods.length)∨(vF t.fares).1= -1/\_
 have h':(vF t.fares).2≠0:=h;unfold vF at h' ⊢;split
 ·
  rename_i hb;refine .inr ⟨rfl,fun⟨e1,e2,e3⟩=>?_⟩;rw[e1,e2,e3]at hb;exact absurd hb δ
 rename_i hb;rw[if_neg hb]at h';exact .inl (yu h')
theorem fF (t:TtD): ∀ (n p:Nat),(wZ t n p).2.2≠0-> ∃ q:Nat,p<=q/\q<p+n/\wZ t n p=((q:Int),(zV t q).1,(zV t q).2)
 |0,p,h=>absurd rfl h
 |n+1,p,h=>by
  unfold wZ at h ⊢;split
  ·
   rename_i h0;rw[if_pos h0]at h;obtain⟨q,h1,h2,h3⟩:=fF t n (p+1) h;exact⟨q,ω,ω,h3⟩
  exact⟨p,Nat.le_refl _,ω,rfl⟩
abbrev AU (s:St):Prop:=lH (λ_=>True) s
theorem tY {s:St} (h:AU s) (l:Ψ) {n:Int} (h0:0<n):AU (vN s l n).1:=DD h l n h0 (λ_=>trivial)
theorem nM {s:St} {n:Int} {ls:List Ψ} {k:Nat} {x:Ψ} (hx:ls[k]? =some x) (h:(vN s x n).2=0):yz s n (ls.drop k)=yz (vN s x n).1 (n+1) (ls.drop (k+1)):=by
 obtain⟨hk,rfl⟩:=List.getElem?_eq_some_iff.1 hx;rw[List.drop_eq_getElem_cons hk];show(if _ then _ else _)=_
 rw[if_pos h]
theorem nN {s:St} {n:Int} {ls:List Ψ} {k:Nat} {x:Ψ} (hx:ls[k]? =some x) (h:(vN s x n).2≠0):yz s n (ls.drop k)=(s,n,(vN s x n).2):=by
 obtain⟨hk,rfl⟩:=List.getElem?_eq_some_iff.1 hx;rw[List.drop_eq_getElem_cons hk];show(if _ then _ else _)=_
 rw[if_neg h]
theorem OE {s:St} (h:AU s) {p i e:Int} (hc:Qj s.t=(p,i,e)) (he:e≠0):i<0∨ ∃ q j:Nat,p=q/\q<10/\i=j/\j<(s.lines.getD q []).length:=by
 obtain⟨q,-,hq,hqe⟩:=fF s.t 10 0 (by show(Qj s.t).2.2≠0;rw[hc];exact he);have hq10:q<10:=ω
 have hk:Qj s.t=((q:Int),(zV s.t q).1,(zV s.t q).2):=hqe;rw[hc]at hk;obtain⟨h1,h2⟩:=Prod.mk.inj hk;obtain⟨h3,h4⟩:=Prod.mk.inj h2;rcases Gz hq10 (by rw[<-h4];exact he)with⟨j,k1,k2⟩|⟨k1,-⟩
 · exact .inr ⟨q,j,h1,hq10,by rw[h3,k1],by rw[h.len q hq10];exact k2⟩
 exact .inl (by rw[h3,k1];decide)
theorem uP {text:Ψ} {ls:List Ψ} {s:St} {n0:Int} (hl:vT text=(ls,0)) (hs:yz start 1 ls=(s,n0,0)) {p i e:Int} (hc:Qj s.t=(p,i,e)):vC text=if e=0 then(s.t,0,0)else if i<0 then(emptyT,s.rules,e)else(emptyT,(s.lines.getD p.toNat []).getD i.toNat 0,e):=by
 unfold vC;rw[hl,if_neg σ,hs,if_neg σ];simp only[hc]
theorem uQ {text:Ψ} {ls:List Ψ} {s:St} {n e:Int} (hl:vT text=(ls,0)) (hs:yz start 1 ls=(s,n,e)) (he:e≠0):vC text=(emptyT,n,e):=by
 unfold vC;rw[hl,if_neg σ,hs,if_pos he]
theorem uS {text:Ψ} {ls:List Ψ} {e:Int} (hl:vT text=(ls,e)) (he:e≠0):vC text=(emptyT,0,e):=by
 unfold vC;rw[hl,if_pos he]
theorem WO (c:UInt8): ∀ (s:Ψ),(zK c s).length<=s.length+1/\ ∀ l∈zK c s,l.length<=s.length
 |[]=>by simp[zK]
 |b::s=>by
  obtain⟨h1,h2⟩:=WO c s;unfold zK;split
  ·
   refine⟨τ,λl hl=>?_⟩;rcases List.mem_cons.1 hl with rfl|hl
   · simp
   have:=h2 l hl;simp;omega
  cases hq:zK c s with
  |nil=>exact⟨σ,λl hl=>by simp at hl;subst hl;simp⟩
  |cons a r=>
   rw[hq]at h1 h2;refine⟨by simpa using Nat.le_succ_of_le h1,λl hl=>?_⟩;rcases List.mem_cons.1 hl with rfl|hl
   · have:=h2 a σ;simp;omega
   have:=h2 l (List.mem_cons_of_mem _ hl);simp;omega
theorem uA {text:Ψ} {ls:List Ψ} (h:vT text=(ls,0)):ls.length<=65537/\ ∀ l∈ls,l.length<=65536:=by
 unfold vT at h;split at h
 · exact absurd (Prod.mk.inj h).2 δ
 rename_i h0;split at h
 ·
  obtain⟨rfl,-⟩:=Prod.mk.inj h;exact⟨σ,λl hl=>by cases hl⟩
 split at h
 ·
  obtain⟨rfl,-⟩:=Prod.mk.inj h;obtain⟨k1,k2⟩:=WO 10 text.dropLast;rw[List.length_dropLast]at k1 k2;exact⟨ω,λl hl=>by have:=k2 l hl;omega⟩
 exact absurd (Prod.mk.inj h).2 δ
theorem xe (l:Ψ):(jR l).length<=4*l.length:=by
 induction l with
 |nil=>simp[jR]
 |cons b r ih=>
  have e:jR (b::r)=xR b++jR r:=by simp[jR]
  have h:(xR b).length<=4:=by
   unfold xR;split
   · simp
   split<;>simp
  rw[e,List.length_append,List.length_cons];omega
theorem YJ (x:Ψ):(zg x).length<=4*x.length+2:=by
 unfold zg;split
 · omega
 have:=xe x;simp
 omega
abbrev Ii (n:Int):Prop:= -9223372036854775808<=n/\n<=9223372036854775807
theorem Qd {n:Int} (h:Ii n):(jO n).length<=100:=by
 have hd: ∀ u:Nat,u<=9223372036854775808->(qL u).length<=19:=λu hu=>kL u hu
 unfold jO;split
 ·
  have:=hd n.natAbs ω;simp
  omega
 have:=hd n.toNat ω;omega
theorem Zh {n:Int}:(jc n).length<=100:=by
 unfold jc;split
 ·
  rename_i h;have h1:=kL (n.toNat / 3600) ω;have h2:=kL (n.toNat / 60) ω;have h3:=kL n.toNat ω;unfold kJ;split
  · simp[ZW];omega
  split
  · simp[ZW];omega
  simp;omega
 simp
theorem ZG {c:Int}:(qW c).1.length<=100:=by
 unfold qW;split
 · simp
 rename_i h;have h1:=kL (c.toNat / 100) ω;unfold JL;simp
 omega
theorem Zj {t:Int}:(xU t).1.length<=100:=by
 unfold xU;split
 · simp[ZA,ZW]
 simp
theorem ZL {d:Int}:(jb d).1.length<=100:=by
 unfold jb;split
 · simp[V4,ZW]
 simp
theorem Jo (b:Bool):(kG b).length<=100:=by cases b<;>decide
theorem rH (w:Vw):(Qk w).length<=100:=by simp[Qk]
theorem nR {m:Int} (h:0<=m/\m<=7):(Qe m).length<=100:=by
 have:m=0∨m=1∨m=2∨m=3∨m=4∨m=5∨m=6∨m=7:=ω
 rcases this with rfl|rfl|rfl|rfl|rfl|rfl|rfl|rfl<;>decide
theorem bH: ∀ m:Fin 256,(vU (m.val:Int)).length<=100:=ξ
theorem dm {m:Int} (h:0<=m/\m<=255):(vU m).length<=100:=by
 have:=bH ⟨m.toNat,ω⟩;simpa[Int.toNat_of_nonneg h.1]using this
theorem oG (c:CallD):(Qh c).length<=100:=by
 unfold Qh;split
 · decide
 split
 · decide
 split<;>decide
theorem Ko (t:TtD): ∀ (n p:Nat),(wZ t n p).2.2=0-> ∀ k,p<=k->k<p+n->(zV t k).2=0
 |0,p,_,k,h1,h2=>by omega
 |n+1,p,h,k,h1,h2=>by
  unfold wZ at h;split at h
  ·
   rename_i h0;by_cases hk:k=p
   · rw[hk];exact h0
   exact Ko t n (p+1) h k ω ω
  rename_i h0;exact absurd h h0
theorem jX {n lo hi:Int} (h:qK n lo hi=false):lo<=n/\n<=hi:=by
 unfold qK at h;rw[Bool.or_eq_false_iff]at h;have h1:=of_decide_eq_false h.1;have h2:=of_decide_eq_false h.2;omega
theorem XN {d:Int} (h:Yv d=true):0<=d/\d<=36524:=by
 unfold Yv at h;rw[Bool.and_eq_true]at h;exact⟨of_decide_eq_true h.1,of_decide_eq_true h.2⟩
theorem KN {l:Ψ} (h:jU l=true):l.length<=32:=by
 unfold jU at h;rw[Bool.and_eq_true,Bool.and_eq_true]at h;exact of_decide_eq_true h.2.2
theorem qp {p:Prop} [Decidable p] {a b:Int} (ha:a≠0) (h:(if p then a else b)=0): ¬ p/\b=0:=by
 split at h
 · exact absurd h ha
 exact⟨by assumption,h⟩
theorem nV {α:Type} (f:α->Ψ): ∀ (l pre:List α),(pre.map f).Nodup->(∀ (k:Nat) (x:α),l[k]? =some x->((pre++l.take k).any λy=>f y==f x)=false)->((pre++l).map f).Nodup
 |[],pre,hp,_=>by rw[List.append_nil];exact hp
 |x::l,pre,hp,h=>by
  have h0:=h 0 x rfl;rw[List.take_zero,List.append_nil]at h0;have hx:(pre++[x]).map f |>.Nodup:=by
   rw[List.map_append,List.nodup_append];refine⟨hp,σ,λa ha b hb=>?_⟩;rw[List.map_singleton,List.mem_singleton]at hb;obtain⟨y,hy,rfl⟩:=List.mem_map.1 ha;have:=List.any_eq_false.1 h0 y hy;rw[hb];simpa using this
  have:=nV f l (pre++[x]) hx (λk z hz=>by
   have:=h (k+1) z hz;rw[List.take_succ_cons]at this;rw[List.append_assoc];exact this)
  rw[List.append_assoc]at this;exact this
theorem YF {α:Type} (f:α->Ψ) (l:List α) (h: ∀ (k:Nat) (x:α),l[k]? =some x->((l.take k).any λy=>f y==f x)=false):(l.map f).Nodup:=by
 have:=nV f l [] σ η;simpa using this
theorem XH {stops lo hi:Int}: ∀ {l:List CallD} {p:Option CallD},QB stops lo hi p l=0-> ∀ c∈l,(0<=c.stop/\c.stop<stops)/\lo<=c.arrive/\c.arrive<=c.depart/\c.depart<=hi
 |[],_,_,c,hc=>by cases hc
 |x::r,p,h,c,hc=>by
  unfold QB at h;split at h
  ·
   rename_i h0;rcases List.mem_cons.1 hc with rfl|hc
   ·
    unfold jT at h0;obtain⟨a1,h0⟩:=qp δ h0;obtain⟨-,h0⟩:=qp δ h0;obtain⟨a3,-⟩:=qp δ h0;rw[not_or]at a1;rw[not_or,not_or,not_or]at a3;omega
   exact XH h c hc
  rename_i h0;exact absurd h h0
theorem CB {stops lo hi:Int} {l:List CallD} (h:yU stops lo hi l=0): ∀ c∈l,(0<=c.stop/\c.stop<stops)/\lo<=c.arrive/\c.arrive<=c.depart/\c.depart<=hi:=by
 unfold yU at h;exact XH (qp δ h).2
theorem OU {ts:List TrpD} {fs:List FreqD} {stops:Int} {pre:List wL} {x:wL} (h:zk ts fs stops pre x=0):(0<=x.frm/\x.frm<ts.length)/\(0<=x.to/\x.to<ts.length)/\(0<=x.stop/\x.stop<stops):=by
 unfold zk at h;obtain⟨a1,h⟩:=qp δ h;obtain⟨a2,-⟩:=qp δ h;have b1:yZ ts.length x.frm x.to=true:=by simpa using a1
 have b2:Yi x.stop stops=true:=by simpa using a2
 obtain⟨c1,c2⟩:=JK b1;unfold Yi at b2;rw[Bool.and_eq_true]at b2;exact⟨c1,c2,of_decide_eq_true b2.1,of_decide_eq_true b2.2⟩
structure AY (t:TtD):Prop where
 stops: ∀ x∈t.stops,x.id.length<=32/\Ii x.zone/\Ii x.change
 nstops:(t.stops.map (·.id)).Nodup
 routes: ∀ x∈t.routes,x.id.length<=32/\(0<=x.mode/\x.mode<=7)
 nroutes:(t.routes.map (·.id)).Nodup
 cals: ∀ x∈t.cals,x.id.length<=32/\(0<=x.frm/\x.frm<=36524)/\(0<=x.to/\x.to<=36524)
 ncals:(t.cals.map (·.id)).Nodup
 excs: ∀ x∈t.excs,(0<=x.cal/\x.cal<t.cals.length)/\(0<=x.day/\x.day<=36524)
 trips: ∀ x∈t.trips,x.id.length<=32/\(0<=x.route/\x.route<t.routes.length)/\(0<=x.cal/\x.cal<t.cals.length)/\ ∀ c∈x.calls,(0<=c.stop/\c.stop<t.stops.length)/\(0<=c.arrive/\c.arrive<=172800)/\(0<=c.depart/\c.depart<=172800)
 ntrips:(t.trips.map (·.id)).Nodup
 freqs: ∀ x∈t.freqs,(0<=x.trip/\x.trip<t.trips.length)/\(0<=x.frm/\x.frm<=172800)/\(0<=x.to/\x.to<=172800)/\(0<=x.every/\x.every<=359999)
 thrus: ∀ x∈t.thrus,(0<=x.frm/\x.frm<t.trips.length)/\(0<=x.to/\x.to<t.trips.length)
 guars: ∀ x∈t.guars,(0<=x.frm/\x.frm<t.trips.length)/\(0<=x.to/\x.to<t.trips.length)/\(0<=x.stop/\x.stop<t.stops.length)
 paths: ∀ x∈t.paths,(0<=x.frm/\x.frm<t.stops.length)/\(0<=x.to/\x.to<t.stops.length)/\(0<=x.secs/\x.secs<=359999)
 fares:(0<=t.fares.disc/\t.fares.disc<=1000000)/\(0<=t.fares.within/\t.fares.within<=359999)/\(0<=t.fares.cap/\t.fares.cap<=1000000)
 prods: ∀ x∈t.fares.prods,x.id.length<=32/\(0<=x.price/\x.price<=1000000)/\Ii x.rides/\Ii x.zones/\(0<=x.secs/\x.secs<=359999)/\(0<=x.modes/\x.modes<=255)
theorem QD {α:Type} {err:List α->α->Int} {most:Nat} {l:List α} (h:(qZ most err l).2=0) (k:Nat) (x:α) (hk:l[k]? =some x):err (l.take k) x=0:=(yV h).2 hk
theorem rG {t:TtD} (h:(Qj t).2.2=0):AY t:=by
 have hp: ∀ k,k<10->(zV t k).2=0:=λk hk=>Ko t 10 0 h k (Nat.zero_le _) ω
 have h0:=QD (hp 0 δ);have h1:=QD (hp 1 δ);have h2:=QD (hp 2 δ);have h3:=QD (hp 3 δ);have h4:=QD (hp 4 δ);have h5:=QD (hp 5 δ);have h6:=QD (hp 6 δ);have h7:=QD (hp 7 δ);have h8:=QD (hp 8 δ);have h9:(vF t.fares).2=0:=hp 9 δ;clear hp h;have nameF: ∀ {b:Bool},¬ b=false->b=true:=fun{b} h=>by cases b<;>simp_all
 have anyF: ∀ {b:Bool},¬ b=true->b=false:=fun{b} h=>by cases b<;>simp_all
 refine⟨?_, ?_, ?_, ?_, ?_, ?_, ?_, ?_, ?_, ?_, ?_, ?_, ?_, ?_, ?_⟩
 ·
  intro x hx;obtain⟨k,hk⟩:=List.getElem?_of_mem hx;have e:=h0 k x hk;unfold zI at e;obtain⟨a1,e⟩:=qp δ e;obtain⟨-,e⟩:=qp δ e;obtain⟨a3,-⟩:=qp δ e;have a3:=anyF a3;rw[Bool.or_eq_false_iff]at a3;have b1:=jX a3.1;have b2:=jX a3.2;exact⟨KN (nameF a1),⟨ω,ω⟩,⟨ω,ω⟩⟩
 ·
  refine YF _ _ λk x hk=>?_
  have e:=h0 k x hk;unfold zI at e;obtain⟨a1,e⟩:=qp δ e;exact anyF (qp δ e).1
 ·
  intro x hx;obtain⟨k,hk⟩:=List.getElem?_of_mem hx;have e:=h1 k x hk;unfold zA at e;obtain⟨a1,e⟩:=qp δ e;obtain⟨-,e⟩:=qp δ e;obtain⟨a3,-⟩:=qp δ e;exact⟨KN (nameF a1),jX (anyF a3)⟩
 ·
  refine YF _ _ λk x hk=>?_
  have e:=h1 k x hk;unfold zA at e;obtain⟨a1,e⟩:=qp δ e;exact anyF (qp δ e).1
 ·
  intro x hx;obtain⟨k,hk⟩:=List.getElem?_of_mem hx;have e:=h2 k x hk;unfold zZ at e;obtain⟨a1,e⟩:=qp δ e;obtain⟨-,e⟩:=qp δ e;obtain⟨a3,-⟩:=qp δ e;have a3:=anyF a3;rw[Bool.or_eq_false_iff,Bool.or_eq_false_iff]at a3;exact⟨KN (nameF a1),XN (by simpa using a3.1),XN (by simpa using a3.2.1)⟩
 ·
  refine YF _ _ λk x hk=>?_
  have e:=h2 k x hk;unfold zZ at e;obtain⟨a1,e⟩:=qp δ e;exact anyF (qp δ e).1
 ·
  intro x hx;obtain⟨k,hk⟩:=List.getElem?_of_mem hx;have e:=h3 k x hk;unfold jd at e;obtain⟨a1,e⟩:=qp δ e;obtain⟨a2,e⟩:=qp δ e;have b1:=jX (anyF a1);exact⟨⟨ω,ω⟩,XN (nameF a2)⟩
 ·
  intro x hx;obtain⟨k,hk⟩:=List.getElem?_of_mem hx;have e:=h4 k x hk;unfold zG at e;obtain⟨a1,e⟩:=qp δ e;obtain⟨-,e⟩:=qp δ e;obtain⟨a3,e⟩:=qp δ e;have a3:=anyF a3;rw[Bool.or_eq_false_iff]at a3;have b1:=jX a3.1;have b2:=jX a3.2;refine⟨KN (nameF a1),⟨ω,ω⟩,⟨ω,ω⟩,λc hc=>?_⟩;have:=CB e c hc;omega
 ·
  refine YF _ _ λk x hk=>?_
  have e:=h4 k x hk;unfold zG at e;obtain⟨a1,e⟩:=qp δ e;exact anyF (qp δ e).1
 ·
  intro x hx;obtain⟨k,hk⟩:=List.getElem?_of_mem hx;have e:=h5 k (zS x) (by rw[List.getElem?_map,hk];rfl);unfold Zk at e;obtain⟨a1,e⟩:=qp δ e;rw[not_or,List.length_map]at a1;have a1: ¬ x.trip<0/\ ¬ (t.trips.length:Int)<=x.trip:=a1;split at e
  ·
   rename_i hs;rw[Bool.and_eq_true]at hs;have:kz (zS x):=of_decide_eq_true hs.1;obtain⟨s1,s2,s3,s4,s5⟩:0<=x.frm/\x.frm<x.to/\x.to<=172800/\1<=x.every/\x.every<=86400:=this;omega
  exact absurd e δ
 ·
  intro x hx;obtain⟨k,hk⟩:=List.getElem?_of_mem hx;have e:=h6 k (ja x) (by rw[List.getElem?_map,hk];rfl);have:=JK (pg e).1;rw[List.length_map]at this;exact this
 ·
  intro x hx;obtain⟨k,hk⟩:=List.getElem?_of_mem hx;have e:=h7 k x hk;have:=OU e;rw[List.length_map]at this;exact this
 ·
  intro x hx;obtain⟨k,hk⟩:=List.getElem?_of_mem hx;have e:=h8 k x hk;unfold zO at e;obtain⟨a1,e⟩:=qp δ e;obtain⟨a2,e⟩:=qp δ e;have a1:=anyF a1;rw[Bool.or_eq_false_iff,Bool.or_eq_false_iff]at a1;have b1:=jX a1.1;have b2:=jX a1.2.1;have b3:=jX (anyF a2);omega
 ·
  unfold vF at h9;split at h9
  · exact absurd h9 δ
  rename_i a;have a:=anyF a;rw[Bool.or_eq_false_iff,Bool.or_eq_false_iff]at a;have b1:=jX a.1;have b2:=jX a.2.1;have b3:=jX a.2.2;omega
 unfold vF at h9;split at h9
 · exact absurd h9 δ
 intro x hx;obtain⟨k,hk⟩:=List.getElem?_of_mem hx;have e:=(yV h9).2 hk;unfold zQ at e;obtain⟨a1,e⟩:=qp δ e;obtain⟨-,e⟩:=qp δ e;obtain⟨a3,-⟩:=qp δ e;have a3:=anyF a3;rw[Bool.or_eq_false_iff,Bool.or_eq_false_iff,Bool.or_eq_false_iff,Bool.or_eq_false_iff]at a3;have b1:=jX a3.1;have b2:=jX a3.2.1;have b3:=jX a3.2.2.1;have b4:=jX a3.2.2.2.1;have b5:=jX a3.2.2.2.2;exact⟨KN (nameF a1),b1,⟨ω,ω⟩,⟨ω,ω⟩,ω,ω⟩
end Go.Proofs.YtakedkcjplfgeaaGreatDoor.Tt
namespace Go.Proofs.YtakedkcjplfgeaaGreatDoor.Tt
def vz (n k:Nat):List Nat:=(List.range k).filter λi=>n>>>i%2=1
theorem rV {n k:Nat} (h:n>>>k%2=1):vz n (k+1)=vz n k++[k]:=by
 unfold vz;rw[List.range_succ,List.filter_append,List.filter_cons_of_pos (p:=λi=>decide (n>>>i%2=1)) (decide_eq_true h)];rfl
theorem bV {n k:Nat} (h: ¬ n>>>k%2=1):vz n (k+1)=vz n k:=by
 unfold vz;rw[List.range_succ,List.filter_append,List.filter_cons_of_neg (p:=λi=>decide (n>>>i%2=1)) (by rw[decide_eq_false h];decide)];simp
theorem aN {n k:Nat} (h:n<256) (hk:8<=k):n>>>k=0:=by
 rw[Nat.shiftRight_eq_div_pow];exact Nat.div_eq_of_lt (Nat.lt_of_lt_of_le h (Nat.pow_le_pow_right ω hk:2 ^ 8<=2 ^ k))
theorem XG {n:Nat} (h:n<256): ∀ j,vz n (8+j)=Ei n
 |0=>rfl
 |j+1=>by
  rw[<-Nat.add_assoc,bV (by rw[aN h ω];decide)];exact XG h j
theorem Bz {n k i:Nat} (h:n<256) (hi:i∈vz n k):i<8:=by
 unfold vz at hi;rw[List.mem_filter]at hi;rcases Nat.lt_or_ge i 8 with h8|h8
 · exact h8
 have:=hi.2;rw[aN h h8]at this;exact absurd this δ
theorem rU (n k:Nat):(vz n k).length<=k:=by
 unfold vz;exact Nat.le_trans (List.length_filter_le _ _) σ
def Jt (i:Nat):Ψ:=modeWords.getD i []
def Qg (l:List Nat):Ψ:=((l.map Jt).intersperse [43]).flatten
theorem JF {α:Type} (s x:α): ∀ (l:List α),l≠[]->(l++[x]).intersperse s=l.intersperse s++[s,x]
 |[],h=>absurd rfl h
 |[a],_=>rfl
 |a::b::r,_=>by
  have ih:=JF s x (b::r) σ;show a::s::((b::r)++[x]).intersperse s=a::s::(b::r).intersperse s++[s,x]
  rw[ih];rfl
theorem Gl {i:Nat} (h:i<8):Jt i≠[]:=by
 rcases i with _|_|_|_|_|_|_|_|i
 all_goals first
  |decide
  |omega
theorem Gj {l:List Nat} (h: ∀ i∈l,i<8) (hl:l≠[]):Qg l≠[]:=by
 cases l with
 |nil=>exact absurd rfl hl
 |cons a r=>
  have ha:=Gl (h a σ);cases r with
  |nil=>simpa[Qg]using ha
  |cons b r=>
   intro e;have:Jt a++([43]++((b::r).map Jt |>.intersperse [43]).flatten)=[]:=e;exact ha (List.append_eq_nil_iff.1 this).1
theorem uI {l:List Nat} (h: ∀ i∈l,i<8) (i:Nat):Qg (l++[i])=if Qg l=[]then Jt i else Qg l++[43]++Jt i:=by
 by_cases hl:l=[]
 ·
  subst hl;simp[Qg]
 rw[if_neg (Gj h hl)];unfold Qg;rw[List.map_append,List.map_cons,List.map_nil,JF _ _ _ (by simpa using hl)];simp
theorem Vm {i:Nat} (h:i<8):(Jt i).length<=9:=by
 rcases i with _|_|_|_|_|_|_|_|i
 all_goals first
  |decide
  |omega
theorem dn: ∀ {l:List Nat},(∀ i∈l,i<8)->(Qg l).length<=10*l.length
 |[],_=>by simp[Qg]
 |[a],h=>by
  have:=Vm (h a σ);simp[Qg]
  omega
 |a::b::r,h=>by
  have ih:=dn (l:=b::r) (λi hi=>h i (List.mem_cons_of_mem _ hi));have ha:=Vm (h a σ);have:Qg (a::b::r)=Jt a++([43]++Qg (b::r)):=rfl;rw[this];simp only[List.length_append,List.length_cons,List.length_nil]at ih ⊢;omega
theorem DL {m:Int} (h0:1<=m) (h1:m<=255):vU m=Qg (vz m.toNat 64):=by
 unfold vU;rw[if_neg ω,if_neg ω];have:=XG (n:=m.toNat) ω 56;rw[this];rfl
