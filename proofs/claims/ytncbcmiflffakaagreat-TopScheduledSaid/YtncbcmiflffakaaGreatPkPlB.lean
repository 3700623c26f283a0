/-
  What the laws of top need of TopNetP, TopSnd, TopOrdP, TopNtE. Conditions: those of each lemma.
-/
import Derived.Test.YtncbcmiflffakaaGreatPkPlA
import Derived.Test.YtncbcmiflffakaaGreatPkFqI
set_option maxRecDepth 1000000
set_option maxHeartbeats 32000000
namespace Go.Proofs.YtncbcmiflffakaaGreat.Tt
open Go.RowKit
open Num Clk Dat Frq Thr
structure RunD where
 trip:Int
 day:Int
 inst:Int
 id:List UInt8
 route:Int
 free:Bool
 canc:Bool
 calls:List CallD
 deriving DecidableEq
structure LinkD where
 frm:Int
 frmC:Int
 dst:Int
 dstC:Int
 stay:Bool
 deriving DecidableEq
structure NetD where
 stops:List StopD
 routes:List RouteD
 runs:List RunD
 links:List LinkD
 paths:List PathD
 fares:FareD
 deriving DecidableEq
def excS (x:List ExcD) (i day:Int):Option ExcD:=x.find? fun e=>e.cal==i&&e.day==day
def weekAt (c:CalD) (k:Nat):Bool:=[c.week.d0,c.week.d1,c.week.d2,c.week.d3,c.week.d4,c.week.d5,c.week.d6].getD k false
def reasonP (c:CalD) (x:List ExcD) (i day:Int):Int:=match excS x i day with
 |some e=>if e.added then 2 else 3
 |none=>if day<c.frm∨c.to<day then 5 else if weekAt c ((day+5)%7).toNat then 1 else 4
theorem excS_snoc (l:List ExcD) (e:ExcD) (i day:Int) (h:excS l i day=none):excS (l++[e]) i day=if e.cal==i&&e.day==day then some e else none:=by
 unfold excS at h ⊢;rw[List.find?_append,h];simp only[Option.none_or,List.find?_cons,List.find?_nil];split<;>simp_all
theorem excS_more (l m:List ExcD) (i day:Int) {e:ExcD} (h:excS l i day=some e):excS (l++m) i day=some e:=by
 unfold excS at h ⊢;rw[List.find?_append,h];rfl
def activeC (c:CalD) (x:List ExcD) (i day:Int):Bool:=reasonP c x i day==1||reasonP c x i day==2
def activeT (t:TtD) (k day:Int):Bool:=match t.cals[k.toNat]? with
 |some c=>activeC c t.excs k day
 |none=>false
def shiftR (by':Int) (c:CallD):CallD:={ c with arrive:=c.arrive+by',depart:=c.depart+by' }
def runOf (x:TripX) (k:Nat) (day:Int) (i:Nat) (cs:List CallD):RunD:=⟨k,day,i,x.id,x.route,x.free,false,cs.map (shiftR (day*86400))⟩
def expandP (t:TtD) (k:Nat) (day:Int):List RunD:=match t.trips[k]? with
 |none=>[]
 |some x=>if activeT t x.cal day then
   if repS (t.freqs.map freqOf) k then(Fq.fold (Fq.allS (t.freqs.map freqOf) k)).mapIdx fun i s=>runOf x k day i (callsS x.calls s).1
   else[runOf x k day 0 x.calls]
  else[]
def dayRuns (t:TtD) (day:Int) (n:Nat):List RunD:=(List.range n).flatMap fun k=>expandP t k day
def allRuns (t:TtD) (frm:Int) (n:Nat):List RunD:=(List.range n).flatMap fun d:Nat=>dayRuns t (frm+d) t.trips.length
def daysR (t:TtD) (frm til:Int):List RunD×Int:=if 1024<(allRuns t frm (til-frm+1).toNat).length then([],5)else(allRuns t frm (til-frm+1).toNat,0)
theorem dayRuns_succ (t:TtD) (day:Int) (n:Nat):dayRuns t day (n+1)=dayRuns t day n++expandP t n day:=by simp[dayRuns,List.range_succ]
theorem allRuns_succ (t:TtD) (frm:Int) (n:Nat):allRuns t frm (n+1)=allRuns t frm n++dayRuns t (frm+n) t.trips.length:=by simp[allRuns,List.range_succ]
def operatesP (t:TtD) (r:RunD):Bool:=decide (0≤r.trip)&&(decide (r.trip<t.trips.length)&&(dayB r.day&&(expandP t r.trip.toNat r.day).any fun x=>decide (x=r)))
def keyB (k:Int×Int×Int) (r:RunD):Bool:=r.trip==k.1&&(r.day==k.2.1&&r.inst==k.2.2)
def keyOfR (r:RunD):Int×Int×Int:=(r.trip,r.day,r.inst)
def indexErr (t:TtD) (pre:List RunD) (r:RunD):Int:=if operatesP t r=false then 9 else if pre.any (keyB (keyOfR r))=true then 6 else 0
def atP (l:List RunD) (k:Int×Int×Int):Option Nat:=l.findIdx? (keyB k)
def stayP (t:TtD) (l:List RunD) (a:Nat) (r:RunD):Option LinkD:=match nextS (t.thrus.map thruOf) r.trip with
 |none=>none
 |some x=>match atP l (x.to,r.day,0)with
  |none=>none
  |some b=>some ⟨a,(r.calls.length:Int)-1,b,0,true⟩
def guarP (t:TtD) (l:List RunD) (a:Nat) (r:RunD) (g:GuaD):Option LinkD:=match atP l (g.to,r.day,0)with
 |none=>none
 |some b=>if g.frm=r.trip then match l[b]? with
   |none=>none
   |some s=>match meetsS r.calls s.calls g.stop with
    |(i,k,ok)=>if ok then(if stayP t l a r=some ⟨a,i,b,k,true⟩then none else some ⟨a,i,b,k,false⟩)else none
  else none
def linksOf (t:TtD) (l:List RunD) (a:Nat):List LinkD:=match l[a]? with
 |none=>[]
 |some r=>(stayP t l a r).toList++t.guars.filterMap (guarP t l a r)
def linksN (t:TtD) (l:List RunD) (n:Nat):List LinkD:=(List.range n).flatMap (linksOf t l)
theorem linksN_succ (t:TtD) (l:List RunD) (n:Nat):linksN t l (n+1)=linksN t l n++linksOf t l n:=by simp[linksN,List.range_succ]
def linksP (t:TtD) (l:List RunD):List LinkD×Int:=if 1024<l.length then([],5)
 else if(chk (indexErr t) [] l).2≠0 then([],(chk (indexErr t) [] l).2)
 else if 1024<(linksN t l l.length).length then([],5)else(linksN t l l.length,0)
def idB (r s:RunD):Bool:=s.id==r.id&&(s.day==r.day&&s.inst==r.inst)
def runErr (stops routes:Int) (pre:List RunD) (r:RunD):Int:=
 if nameB r.id=false then 12 else if r.trip< -1∨r.inst<0 then 2 else if r.day<0∨36524<r.day then 11
 else if r.route<0∨routes≤r.route then 9 else if callsErr stops 0 3155932800 r.calls≠0 then callsErr stops 0 3155932800 r.calls
 else if(pre.any (idB r))=true then 6 else 0
def netwithin (i:Int) (n:Nat):Bool:=decide (0≤i)&&decide (i<n)
def nextL (pre:List LinkD) (r:Int):Option Int:=(pre.find? fun l=>l.stay&&l.frm==r).map (·.dst)
def leadsN (pre:List LinkD) (goal:Int):Nat→Int→Bool
 |0,_=>false
 |n+1,a=>match nextL pre a with
  |none=>false
  |some b=>b==goal||leadsN pre goal n b
def linkErr (runs:List RunD) (pre:List LinkD) (l:LinkD):Int:=
 if(netwithin l.frm runs.length&&(netwithin l.dst runs.length&& !(l.frm==l.dst)))=false then 9 else
 match runs[l.frm.toNat]?,runs[l.dst.toNat]? with
 |some a,some b=>if(netwithin l.frmC a.calls.length&&netwithin l.dstC b.calls.length)=false then 9 else
  match a.calls[l.frmC.toNat]?,b.calls[l.dstC.toNat]? with
  |some x,some y=>if x.stop≠y.stop then 13
   else if l.stay∧(l.frmC+1≠a.calls.length∨l.dstC≠0∨(nextL pre l.frm).isSome=true∨(pre.any fun k=>k.stay&&k.dst==l.dst)=true∨leadsN pre l.frm (2 ^ pre.length) l.dst=true)then 19
   else if(pre.any fun k=>k.frm==l.frm&&(k.frmC==l.frmC&&(k.dst==l.dst&&k.dstC==l.dstC)))=true then 6 else 0
  |_,_=>9
 |_,_=>9
def targetP (l:List RunD) (m:MsgD):Option Nat:=l.findIdx? fun r=>r.id==m.trip&&(r.day==m.day&&r.inst==m.inst)
def addedR (m:MsgD):RunD:=⟨-1,m.day,m.inst,m.trip,m.route,m.step,false,m.calls⟩
def addP (n:NetD) (m:MsgD) (there:Bool):NetD×Int:=
 if there then(n,6)else if m.route<0∨(n.routes.length:Int)≤m.route then(n,14)
 else if callsErr n.stops.length 0 3155932800 m.calls≠0 then(n,callsErr n.stops.length 0 3155932800 m.calls)
 else if 1024≤n.runs.length then(n,5)else({ n with runs:=n.runs++[addedR m] },0)
def setR (n:NetD) (i:Nat) (f:RunD→RunD):NetD:={ n with runs:=n.runs.modify i f }
def rerouteP (n:NetD) (m:MsgD) (i:Nat):NetD×Int:=
 if callsErr n.stops.length 0 3155932800 m.calls≠0 then(n,callsErr n.stops.length 0 3155932800 m.calls)
 else({ setR n i (fun r=>{ r with calls:=m.calls })with links:=n.links.filter fun l=> !(l.frm==(i:Int)||l.dst==(i:Int)) },0)
def orderedF:Int→List CallD→Bool
 |_,[]=>true
 |last,c::r=> !(decide (c.arrive<last)||(decide (c.depart<c.arrive)||decide (3155932800<c.depart)))&&orderedF c.depart r
def dwellP (c:CallD):Int:=min (c.depart-c.arrive) 30
def lateF:Int→List CallD→Option (List CallD)
 |_,[]=>some []
 |a,c::r=>if 3155932800<max c.depart (a+dwellP c)then none else
  match lateF ((match r with|[]=>a|d::_=>d.arrive+max c.depart (a+dwellP c)-c.depart)) r with
  |none=>none
  |some l=>some ({ c with arrive:=a,depart:=max c.depart (a+dwellP c) }::l)
def propagateP (l:List CallD) (at' secs:Int):List CallD×Int:=
 if at'<0∨(l.length:Int)≤at' then([],1)else if secs< -43200∨43200<secs then([],2)else if orderedF 0 l=false then([],10)else
 match l[at'.toNat]? with
 |none=>([],1)
 |some c=>match lateF (max (c.arrive+secs) (match at'.toNat with|0=>0|k+1=>((l[k]?).map (·.depart)).getD 0)) (l.drop at'.toNat)with
  |none=>([],10)
  |some r=>(l.take at'.toNat++r,0)
def shiftP (n:NetD) (m:MsgD) (i:Nat) (r:RunD):NetD×Int:=
 match propagateP r.calls m.call m.secs with
 |(l,e)=>if e=0 then(setR n i (fun r=>{ r with calls:=l }),0)else(n,e)
def skipC (c:CallD):CallD:={ c with board:=false,alight:=false }
def changeP (n:NetD) (m:MsgD):NetD×Int:=
 if m.kind=5 then addP n m (targetP n.runs m).isSome else
 match targetP n.runs m with
 |none=>(n,16)
 |some i=>match n.runs[i]? with
  |none=>(n,16)
  |some r=>if(m.kind=1∨m.kind=3)∧(m.call<0∨(r.calls.length:Int)≤m.call)then(n,9)
   else if m.kind=1 then shiftP n m i r
   else if m.kind=2 then(setR n i (fun r=>{ r with canc:=true }),0)
   else if m.kind=3 then(setR n i (fun r=>{ r with calls:=r.calls.modify m.call.toNat skipC }),0)
   else if m.kind=4 then rerouteP n m i else(n,0)
def applyP (e:Int) (n:NetD) (m:MsgD):NetD:=if e=0∧checkM m=0 then(changeP n m).1 else n
def allP (e:Int) (n:NetD) (l:List MsgD):NetD:=l.foldl (applyP e) n
structure SrcD where
 ever:Bool
 last:Int
 got:Bool
 seq:Int
 deriving DecidableEq
structure BoxD where
 srcs:List SrcD
 pat:Int
 kept:List MsgD
 deriving DecidableEq
def hearP (s:SrcD) (now:Int):SrcD:=if s.ever=false∨s.last<now then{ s with ever:=true,last:=now }else s
def silentP (s:SrcD) (now pat:Int):Bool:= !s.ever||(decide (s.last<now)&&decide (pat<now-s.last))
def refuseP (b:BoxD) (m:MsgD) (now:Int):Int:=
 if now<0∨3155932800<now then 10 else if checkM m≠0 then checkM m else match b.srcs[m.src.toNat]? with
 |none=>36
 |some s=>if(s.got=true∧m.seq≤s.seq)∨m.exp≤now then 37 else 0
def staysB (m:MsgD) (now:Int) (o:MsgD):Bool:= !superB m o&&decide (now<o.exp)
def recvP (b:BoxD) (m:MsgD) (now:Int):BoxD×Int:=
 if refuseP b m now≠0 then(b,refuseP b m now)else
 if 256≤(b.kept.filter (staysB m now)).length then(b,5)else
 ({ b with kept:=b.kept.filter (staysB m now)++[m],srcs:=b.srcs.modify m.src.toNat fun s=>{ hearP s now with got:=true,seq:=m.seq } },0)
def failedP (b:BoxD) (s now:Int):Bool:=match (if 0≤s then b.srcs[s.toNat]? else none)with
 |none=>false
 |some x=>silentP x now b.pat
def currentB (b:BoxD) (now:Int) (m:MsgD):Bool:=decide (m.iss≤now)&&(decide (now<m.exp)&& !failedP b m.src now)
def currentP (b:BoxD) (now:Int):List MsgD:=b.kept.filter (currentB b now)
def overB (l:List MsgD) (m:MsgD):Bool:=l.any fun o=>decide (o.src<m.src)&&sameT o m
end Go.Proofs.YtncbcmiflffakaaGreat.Tt
namespace Go.Proofs.YtncbcmiflffakaaGreat.Tt
open Go.RowKit
open Num Clk Dat Frq Thr
def SoundT (t:TtD):Prop:= ∀ p,p<10→(partChk t p).2=0
theorem sound_from {t:TtD}: ∀ (n p:Nat),(ttFrom t n p).2.2=0→ ∀ q,p≤q→q<p+n→(partChk t q).2=0
 |0,p,_,q,h1,h2=>by omega
 |n+1,p,h,q,h1,h2=>by
  unfold ttFrom at h;split at h
  ·
   rename_i h0;by_cases e:q=p
   · rw[e];exact h0
   · exact sound_from n (p+1) h q (by omega) (by omega)
  ·
   rename_i h0;exact absurd h h0
theorem sound_of {t:TtD} (h:(ttChk t).2.2=0):SoundT t:=fun p hp=>sound_from 10 0 h p (Nat.zero_le _) (by omega)
structure SmallT (t:TtD):Prop where
 stops:t.stops.length≤5
 routes:t.routes.length≤8
 cals:t.cals.length≤8
 excs:t.excs.length≤20
 trips:t.trips.length≤7
 freqs:t.freqs.length≤8
 thrus:t.thrus.length≤20
 guars:t.guars.length≤40
 paths:t.paths.length≤40
 prods:t.fares.prods.length≤16
 calls: ∀ x∈t.trips,x.calls.length≤6
theorem callsF_ok {stops lo hi:Int}: ∀ (l:List CallD) (p:Option CallD),callsF stops lo hi p l=0→ ∀ c∈l,0≤c.stop∧c.stop<stops∧lo≤c.arrive∧c.arrive≤c.depart∧c.depart≤hi
 |[],_,_,c,hc=>by simp at hc
 |x::l,p,h,c,hc=>by
  unfold callsF at h;split at h
  ·
   rename_i h0;rcases List.mem_cons.1 hc with rfl|hc
   ·
    unfold callErr at h0;split at h0
    · cases h0
    ·
     split at h0
     · cases h0
     ·
      split at h0
      · cases h0
      ·
       rename_i h1 h2 h3;simp only[not_or]at h1 h3;omega
   · exact callsF_ok l _ h c hc
  ·
   rename_i h0;exact absurd h h0
theorem callsErr_ok {stops lo hi:Int} {l:List CallD} (h:callsErr stops lo hi l=0):2≤l.length∧l.length≤32∧ ∀ c∈l,0≤c.stop∧c.stop<stops∧lo≤c.arrive∧c.arrive≤c.depart∧c.depart≤hi:=by
 unfold callsErr at h;split at h
 · cases h
 ·
  rename_i h0;exact⟨by omega,by omega,callsF_ok l none h⟩
structure TripOk (t:TtD) (x:TripX):Prop where
 name:nameB x.id=true
 cal0:0≤x.cal
 cal1:x.cal<t.cals.length
 len:2≤x.calls.length∧x.calls.length≤32
 calls: ∀ c∈x.calls,0≤c.arrive∧c.arrive≤172800∧0≤c.depart∧c.depart≤172800
theorem SoundT.trip {t:TtD} (h:SoundT t) {k:Nat} {x:TripX} (hx:t.trips[k]? =some x):TripOk t x:=by
 have h4:=(check_ok (h 4 (by decide))).2 hx;unfold tripErr at h4;split at h4
 · cases h4
 ·
  rename_i h1;split at h4
  · cases h4
  ·
   split at h4
   · cases h4
   ·
    rename_i h3;simp only[outside,Bool.or_eq_true,decide_eq_true_eq,not_or]at h3;obtain⟨c1,c2,c3⟩:=callsErr_ok h4;exact⟨by simpa using h1,by omega,by omega,⟨c1,c2⟩,fun c hc=>by have:=c3 c hc;omega⟩
theorem SoundT.lens {t:TtD} (h:SoundT t):t.stops.length≤64∧t.cals.length≤64∧t.excs.length≤256∧t.trips.length≤256∧t.freqs.length≤64∧t.thrus.length≤128∧t.guars.length≤128∧t.paths.length≤512:=by
 refine⟨(check_ok (h 0 (by decide))).1,(check_ok (h 2 (by decide))).1,(check_ok (h 3 (by decide))).1,(check_ok (h 4 (by decide))).1, ?_, ?_,(check_ok (h 7 (by decide))).1,(check_ok (h 8 (by decide))).1⟩
 ·
  have:=(check_ok (h 5 (by decide))).1;simpa using this
 ·
  have:=(check_ok (h 6 (by decide))).1;simpa using this
theorem SoundT.cal {t:TtD} (h:SoundT t) {k:Nat} {x:TripX} (hx:t.trips[k]? =some x): ∃ c,t.cals[x.cal.toNat]? =some c∧((x.cal.toNat:Nat):Int)=x.cal:=by
 have ht:=h.trip hx;have h1:=ht.cal0;have h2:=ht.cal1;exact⟨t.cals[x.cal.toNat]'(by omega),List.getElem?_eq_getElem (by omega),by omega⟩
theorem start_mem {fs:List FreqD} {k s:Int} (h:s∈Fq.fold (Fq.allS fs k)):0≤s∧s≤172799:=by
 have hp: ∀ (l acc:List Int),∀ s∈l.foldl Fq.ins acc,s∈acc∨s∈l:=by
  intro l;induction l with
  |nil=>intro acc s hs;exact .inl hs
  |cons x l ih=>
   intro acc s hs;rcases ih (Fq.ins acc x) s hs with h|h
   ·
    unfold Fq.ins Fq.rowK at h;rcases List.mem_append.1 h with h|h
    · exact .inl (List.mem_of_mem_take h)
    ·
     rcases List.mem_cons.1 h with h|h
     · exact .inr (h ▸ List.mem_cons_self ..)
     · exact .inl (List.mem_of_mem_drop h)
   · exact .inr (List.mem_cons_of_mem _ h)
 rcases hp _ _ s h with h|h
 · cases h
 ·
  unfold Fq.allS at h;obtain⟨f,-,hf⟩:=List.mem_flatMap.1 h;unfold starts at hf;split at hf
  ·
   rename_i hs;unfold startsN at hf;obtain⟨j,hj,rfl⟩:=List.mem_map.1 hf;rw[List.mem_range]at hj;have:=cnt_bd f hs;exact start_bd f hs j (by omega)
  · cases hf
theorem callsS_bd {cs:List CallD} {s:Int}: ∀ c∈(callsS cs s).1,0≤c.arrive∧c.arrive≤172800∧0≤c.depart∧c.depart≤172800:=by
 intro c hc;cases cs with
 |nil=>simp[callsS]at hc
 |cons c0 l=>
  unfold callsS at hc;simp only at hc;split at hc
  ·
   rename_i h;obtain⟨x,hx,rfl⟩:=List.mem_map.1 hc;have:=List.all_eq_true.1 h x hx;unfold okC near at this;simp only[Bool.and_eq_true,decide_eq_true_eq]at this;unfold shiftC;exact⟨this.1.1,this.1.2,this.2.1,this.2.2⟩
  · simp at hc
theorem callsS_len (cs:List CallD) (s:Int):(callsS cs s).1.length≤cs.length:=by
 cases cs with
 |nil=>simp[callsS]
 |cons c0 l=>
  unfold callsS;simp only;split<;>simp
end Go.Proofs.YtncbcmiflffakaaGreat.Tt
namespace Go.Proofs.YtncbcmiflffakaaGreat.Tt
open Go.RowKit
open Num Clk Dat Frq Thr
theorem less_asymm: ∀ (a b:List UInt8),Op.bytesLess a b=true→Op.bytesLess b a=false
 |_,[],h=>by simp[Op.bytesLess]at h
 |[],_::_,_=>by simp[Op.bytesLess]
 |x::a,y::b,h=>by
  simp only[Op.bytesLess,Bool.or_eq_true,decide_eq_true_eq,Bool.and_eq_true,beq_iff_eq]at h;simp only[Op.bytesLess,Bool.or_eq_false_iff,decide_eq_false_iff_not,Bool.and_eq_false_iff,beq_eq_false_iff_ne];rw[UInt8.lt_iff_toNat_lt]at h ⊢;rcases h with h|⟨rfl,h⟩
  · exact⟨by omega, .inl fun e=>by rw[e]at h;omega⟩
  · exact⟨by omega, .inr (less_asymm a b h)⟩
theorem less_trans: ∀ (a b c:List UInt8),Op.bytesLess a b=true→Op.bytesLess b c=true→Op.bytesLess a c=true
 |_,[],_,h,_=>by simp[Op.bytesLess]at h
 |_,_::_,[],_,h=>by simp[Op.bytesLess]at h
 |[],_::_,_::_,_,_=>by simp[Op.bytesLess]
 |x::a,y::b,z::c,h,k=>by
  simp only[Op.bytesLess,Bool.or_eq_true,decide_eq_true_eq,Bool.and_eq_true,beq_iff_eq]at h k ⊢;rw[UInt8.lt_iff_toNat_lt]at h k ⊢;rcases h with h|⟨rfl,h⟩
  ·
   rcases k with k|⟨rfl,k⟩
   · exact .inl (by omega)
   · exact .inl h
  ·
   rcases k with k|⟨rfl,k⟩
   · exact .inl k
   · exact .inr ⟨rfl,less_trans a b c h k⟩
theorem less_total: ∀ (a b:List UInt8),a≠b→Op.bytesLess a b=true∨Op.bytesLess b a=true
 |[],[],h=>absurd rfl h
 |[],_::_,_=>by simp[Op.bytesLess]
 |_::_,[],_=>by simp[Op.bytesLess]
 |x::a,y::b,h=>by
  simp only[Op.bytesLess,Bool.or_eq_true,decide_eq_true_eq,Bool.and_eq_true,beq_iff_eq];rw[UInt8.lt_iff_toNat_lt,UInt8.lt_iff_toNat_lt];by_cases e:x=y
  ·
   subst e;rcases less_total a b (fun e=>h (by rw[e]))with k|k
   · exact .inl (.inr ⟨rfl,k⟩)
   · exact .inr (.inr ⟨rfl,k⟩)
  ·
   have:x.toNat≠y.toNat:=fun q=>e (UInt8.toNat_inj.1 q)
   omega
def befP (a b:MsgD):Bool:=if a.trip≠b.trip then Op.bytesLess a.trip b.trip else if a.day≠b.day then decide (a.day<b.day)else if a.inst≠b.inst then decide (a.inst<b.inst)else decide (a.seq<b.seq)
def keyM (m:MsgD):List UInt8×Int×Int×Int:=(m.trip,m.day,m.inst,m.seq)
theorem keyM_ne {a b:MsgD} (h:keyM a≠keyM b):a.trip≠b.trip∨a.day≠b.day∨a.inst≠b.inst∨a.seq≠b.seq:=by
 unfold keyM at h;by_cases h1:a.trip=b.trip
 ·
  by_cases h2:a.day=b.day
  ·
   by_cases h3:a.inst=b.inst
   ·
    by_cases h4:a.seq=b.seq
    · exact absurd (by rw[h1,h2,h3,h4]) h
    · exact .inr (.inr (.inr h4))
   · exact .inr (.inr (.inl h3))
  · exact .inr (.inl h2)
 · exact .inl h1
theorem bef_asymm {a b:MsgD} (h:befP a b=true):befP b a=false:=by
 unfold befP at h ⊢;by_cases h1:a.trip=b.trip
 ·
  rw[if_neg (by simpa using h1)]at h;rw[if_neg (by simpa using h1.symm)];by_cases h2:a.day=b.day
  ·
   rw[if_neg (by simpa using h2)]at h;rw[if_neg (by simpa using h2.symm)];by_cases h3:a.inst=b.inst
   ·
    rw[if_neg (by simpa using h3)]at h;rw[if_neg (by simpa using h3.symm)];simp only[decide_eq_true_eq]at h;simp only[decide_eq_false_iff_not];omega
   ·
    rw[if_pos h3]at h;rw[if_pos (Ne.symm h3)];simp only[decide_eq_true_eq]at h;simp only[decide_eq_false_iff_not];omega
  ·
   rw[if_pos h2]at h;rw[if_pos (Ne.symm h2)];simp only[decide_eq_true_eq]at h;simp only[decide_eq_false_iff_not];omega
 ·
  rw[if_pos h1]at h;rw[if_pos (Ne.symm h1)];exact less_asymm _ _ h
theorem bef_iff (a b:MsgD):befP a b=true↔(Op.bytesLess a.trip b.trip=true∨(a.trip=b.trip∧(a.day<b.day∨(a.day=b.day∧(a.inst<b.inst∨(a.inst=b.inst∧a.seq<b.seq)))))):=by
 have hir: ∀ l,Op.bytesLess l l=true→False:=fun l h=>by have:=less_asymm l l h;rw[h]at this;cases this
 unfold befP;by_cases h1:a.trip=b.trip
 ·
  rw[if_neg (by simpa using h1)];by_cases h2:a.day=b.day
  ·
   rw[if_neg (by simpa using h2)];by_cases h3:a.inst=b.inst
   ·
    rw[if_neg (by simpa using h3),decide_eq_true_eq];exact⟨fun h=> .inr ⟨h1, .inr ⟨h2, .inr ⟨h3,h⟩⟩⟩,fun h=>by
     rcases h with h|⟨_,h⟩
     · rw[h1]at h;exact(hir _ h).elim
     · omega⟩
   ·
    rw[if_pos h3,decide_eq_true_eq];exact⟨fun h=> .inr ⟨h1, .inr ⟨h2, .inl h⟩⟩,fun h=>by
     rcases h with h|⟨_,h⟩
     · rw[h1]at h;exact(hir _ h).elim
     · omega⟩
  ·
   rw[if_pos h2,decide_eq_true_eq];exact⟨fun h=> .inr ⟨h1, .inl h⟩,fun h=>by
    rcases h with h|⟨_,h⟩
    · rw[h1]at h;exact(hir _ h).elim
    · omega⟩
 ·
  rw[if_pos h1];exact⟨.inl,fun h=>h.elim id fun h=>absurd h.1 h1⟩
theorem bef_trans {a b c:MsgD} (h:befP a b=true) (k:befP b c=true):befP a c=true:=by
 rw[bef_iff]at h k ⊢;rcases h with h|⟨e,h⟩
 ·
  rcases k with k|⟨f,k⟩
  · exact .inl (less_trans _ _ _ h k)
  · exact .inl (f ▸ h)
 ·
  rcases k with k|⟨f,k⟩
  · exact .inl (e ▸ k)
  · exact .inr ⟨e.trans f,by omega⟩
theorem bef_total {a b:MsgD} (h:keyM a≠keyM b):befP a b=true∨befP b a=true:=by
 rw[bef_iff,bef_iff];by_cases h1:a.trip=b.trip
 ·
  have:=keyM_ne h;have h1':=h1.symm;by_cases h2:a.day=b.day∧a.inst=b.inst
  ·
   have h4:a.seq≠b.seq:=by
    rcases this with q|q|q|q
    · exact absurd h1 q
    · exact absurd h2.1 q
    · exact absurd h2.2 q
    · exact q
   rcases Int.lt_or_gt_of_ne h4 with q|q
   · exact .inl (.inr ⟨h1,by omega⟩)
   · exact .inr (.inr ⟨h1',by omega⟩)
  ·
   by_cases h5:a.day<b.day∨(a.day=b.day∧a.inst<b.inst)
   · exact .inl (.inr ⟨h1,by omega⟩)
   · exact .inr (.inr ⟨h1',by omega⟩)
 ·
  rcases less_total _ _ h1 with q|q
  · exact .inl (.inl q)
  · exact .inr (.inl q)
def goM (L:List MsgD) (t:MsgD):Nat→Nat
 |0=>0
 |k+1=>if(match L[k]? with|some x=>befP t x|none=>false)then goM L t k else k+1
def insM (L:List MsgD) (t:MsgD):List MsgD:=L.take (goM L t L.length)++t::L.drop (goM L t L.length)
theorem goM_gt {L:List MsgD} {t x:MsgD} {k:Nat} (h:L[k]? =some x) (h1:befP t x=true):goM L t (k+1)=goM L t k:=by
 show(if _ then _ else _)=_
 rw[h];simp only[h1,if_true]
theorem goM_le {L:List MsgD} {t x:MsgD} {k:Nat} (h:L[k]? =some x) (h1:befP t x=false):goM L t (k+1)=k+1:=by
 show(if _ then _ else _)=_
 rw[h];simp only[h1,Bool.false_eq_true,if_false]
theorem goM_bd (L:List MsgD) (t:MsgD): ∀ k,goM L t k≤k
 |0=>Nat.le_refl _
 |k+1=>by
  have ih:=goM_bd L t k;cases hx:L[k]? with
  |none=>
   show(if(match L[k]? with|some x=>befP t x|none=>false)then goM L t k else k+1)≤k+1
   rw[hx];exact Nat.le_refl _
  |some x=>
   cases hb:befP t x with
   |true=>rw[goM_gt hx hb];omega
   |false=>rw[goM_le hx hb];exact Nat.le_refl _
theorem insM_perm (L:List MsgD) (t:MsgD):(insM L t).Perm (t::L):=by
 unfold insM;refine List.perm_middle.trans ?_;rw[List.take_append_drop]
theorem insM_len (L:List MsgD) (t:MsgD):(insM L t).length=L.length+1:=by rw[(insM_perm L t).length_eq];rfl
def sortM (l:List MsgD):List MsgD:=l.foldl insM []
theorem sortM_snoc (l:List MsgD) (m:MsgD):sortM (l++[m])=insM (sortM l) m:=by simp[sortM]
theorem sortM_perm (l:List MsgD):(sortM l).Perm l:=by
 have: ∀ (l acc:List MsgD),(l.foldl insM acc).Perm (acc++l):=by
  intro l;induction l with
  |nil=>intro acc;simp
  |cons x l ih=>
   intro acc;rw[List.foldl_cons];refine(ih (insM acc x)).trans ?_;refine((insM_perm acc x).append_right l).trans ?_;rw[List.cons_append];exact List.perm_middle.symm
 have h:=this l [];rw[List.nil_append]at h;exact h
abbrev SortedM (l:List MsgD):Prop:=l.Pairwise fun a b=>befP a b=true
theorem goM_spec (L:List MsgD) (t:MsgD): ∀ k,k≤L.length→(∀ i x,goM L t k≤i→i<k→L[i]? =some x→befP t x=true)∧(∀ x,L[goM L t k-1]? =some x→0<goM L t k→befP t x=false)
 |0,_=>⟨fun i x h1 h2=>by omega,fun x _ h=>absurd h (by show ¬ 0<0;omega)⟩
 |k+1,hk=>by
  obtain⟨y,hy⟩: ∃ y,L[k]? =some y:=⟨_,List.getElem?_eq_getElem (by omega)⟩;cases h:befP t y with
  |true=>
   rw[goM_gt hy h];obtain⟨h1,h2⟩:=goM_spec L t k (by omega);refine⟨fun i x hi1 hi2 hx=>?_,h2⟩;by_cases hik:i=k
   ·
    subst hik;rw[hy]at hx;cases hx
    exact h
   · exact h1 i x hi1 (by omega) hx
  |false=>
   rw[goM_le hy h];refine⟨fun i x h1 h2=>by omega,fun x hx _=>?_⟩;rw[show k+1-1=k by omega,hy]at hx;cases hx
   exact h
theorem insM_sorted {L:List MsgD} {t:MsgD} (h:SortedM L) (hd: ∀ x∈L,keyM x≠keyM t):SortedM (insM L t):=by
 obtain⟨s1,s2⟩:=goM_spec L t L.length (Nat.le_refl _);have hb:=goM_bd L t L.length;unfold insM;generalize goM L t L.length=k at s1 s2 hb
 rw[SortedM,List.pairwise_append,List.pairwise_cons];have ht: ∀ a∈L.take k,befP a t=true:=by
  intro a ha;obtain⟨i,hi⟩:=List.getElem?_of_mem ha;have hil:i<(L.take k).length:=(List.getElem?_eq_some_iff.1 hi).1;rw[List.length_take]at hil;rw[List.getElem?_take_of_lt (by omega)]at hi;obtain⟨z,hz⟩: ∃ z,L[k-1]? =some z:=⟨_,List.getElem?_eq_getElem (by omega)⟩;have hzt:=s2 z hz (by omega);have hzb:befP z t=true:=(bef_total (hd z (List.mem_of_getElem? hz))).resolve_right (by rw[hzt];decide);by_cases hik:i=k-1
  · rw[hik,hz]at hi;cases hi;exact hzb
  ·
   obtain⟨h1,e1⟩:=List.getElem?_eq_some_iff.1 hi;obtain⟨h2,e2⟩:=List.getElem?_eq_some_iff.1 hz;have:=List.pairwise_iff_getElem.1 h i (k-1) h1 h2 (by omega);rw[e1,e2]at this;exact bef_trans this hzb
 have hdr: ∀ b∈L.drop k,befP t b=true:=by
  intro b hb';obtain⟨i,hi⟩:=List.getElem?_of_mem hb';rw[List.getElem?_drop]at hi;have:=(List.getElem?_eq_some_iff.1 hi).1;exact s1 (k+i) b (by omega) this hi
 refine⟨List.Pairwise.sublist (List.take_sublist ..) h,⟨hdr,List.Pairwise.sublist (List.drop_sublist ..) h⟩,fun a ha b hb'=>?_⟩;rcases List.mem_cons.1 hb' with rfl|hb'
 · exact ht a ha
 · exact bef_trans (ht a ha) (hdr b hb')
abbrev ApartM (l:List MsgD):Prop:=l.Pairwise fun a b=>keyM a≠keyM b
theorem sortM_sorted {l:List MsgD} (h:ApartM l):SortedM (sortM l):=by
 have: ∀ (n:Nat),n≤l.length→SortedM (sortM (l.take n)):=by
  intro n;induction n with
  |zero=>intro _;exact List.Pairwise.nil
  |succ n ih=>
   intro hn;have hx:l[n]? =some l[n]:=List.getElem?_eq_getElem (by omega);rw[take_snoc' hx,sortM_snoc];refine insM_sorted (ih (by omega)) fun x hx'=>?_
   have hx2:=(sortM_perm _).mem_iff.1 hx';obtain⟨i,hi⟩:=List.getElem?_of_mem hx2;have hil:i<(l.take n).length:=(List.getElem?_eq_some_iff.1 hi).1;rw[List.length_take]at hil;rw[List.getElem?_take_of_lt (by omega)]at hi;obtain⟨h1,e1⟩:=List.getElem?_eq_some_iff.1 hi;have:=List.pairwise_iff_getElem.1 h i n h1 (by omega) (by omega);rw[e1]at this;exact this
 have:=this l.length (Nat.le_refl _);rwa [List.take_length]at this
theorem sorted_unique: ∀ (l l':List MsgD),SortedM l→SortedM l'→l.Perm l'→l=l'
 |[],l',_,_,h=>(List.Perm.nil_eq h)
 |a::l,[],_,_,h=>absurd h.length_eq (by simp)
 |a::l,b::l',h1,h2,h=>by
  rw[SortedM,List.pairwise_cons]at h1 h2;have hab:a=b:=by
   apply Classical.byContradiction
   intro hne;have ha:a∈b::l':=h.mem_iff.1 (List.mem_cons_self ..);have hb:b∈a::l:=h.mem_iff.2 (List.mem_cons_self ..);rcases List.mem_cons.1 ha with e|ha
   · exact hne e
   ·
    rcases List.mem_cons.1 hb with e|hb
    · exact hne e.symm
    ·
     have k1:=h2.1 a ha;have k2:=h1.1 b hb;rw[bef_asymm k1]at k2;cases k2
  subst hab;rw[sorted_unique l l' h1.2 h2.2 (List.Perm.cons_inv h)]
theorem sortM_perm_eq {l l':List MsgD} (h:ApartM l) (hp:l.Perm l'):sortM l=sortM l':=by
 have h':ApartM l':=(hp.pairwise_iff fun{x y} (q:keyM x≠keyM y)=>Ne.symm q).1 h;exact sorted_unique _ _ (sortM_sorted h) (sortM_sorted h') ((sortM_perm l).trans (hp.trans (sortM_perm l').symm))
def activeP (b:BoxD) (now:Int):List MsgD:=sortM ((currentP b now).filter fun m=> !overB (currentP b now) m)
theorem overB_perm {l l':List MsgD} (h:l.Perm l') (m:MsgD):overB l m=overB l' m:=by
 unfold overB;rw[Bool.eq_iff_iff,List.any_eq_true,List.any_eq_true];exact⟨fun⟨x,hx,hp⟩=>⟨x,h.mem_iff.1 hx,hp⟩,fun⟨x,hx,hp⟩=>⟨x,h.mem_iff.2 hx,hp⟩⟩
theorem modify_set {α:Type} {l:List α} {i:Nat} {x:α} (f:α→α) (h:l[i]? =some x):l.modify i f=l.set i (f x):=by
 obtain⟨hi,rfl⟩:=List.getElem?_eq_some_iff.1 h;apply List.ext_getElem?
 intro j;rw[List.getElem?_modify,List.getElem?_set];by_cases e:i=j
 ·
  subst e;rw[if_pos rfl,if_pos hi,h];simp
 ·
  rw[if_neg e];simp[e]
def oneP (now:Int) (s:SrcD) (K:List MsgD) (m:MsgD):SrcD×List MsgD:=
 if(now<0∨3155932800<now)∨checkM m≠0∨(s.got=true∧m.seq≤s.seq)∨m.exp≤now then(s,K)else({ hearP s now with got:=true,seq:=m.seq },K.filter (staysB m now)++[m])
def manyP (now:Int) (s:SrcD) (K:List MsgD) (l:List MsgD):SrcD×List MsgD:=l.foldl (fun q m=>oneP now q.1 q.2 m) (s,K)
def recvAll (now:Int) (b:BoxD) (l:List MsgD):BoxD:=l.foldl (fun b m=>(recvP b m now).1) b
structure KeptOk (now:Int) (i:Int) (s:SrcD) (K:List MsgD) (n:Nat):Prop where
 src: ∀ m∈K,m.src=i
 live: ∀ m∈K,now<m.exp
 got:K≠[]→s.got=true
 seq: ∀ m∈K,m.seq≤s.seq
 ord:K.Pairwise fun a b=>a.seq<b.seq
 len:K.length≤n
theorem keptOk_nil (now i:Int) (s:SrcD) (n:Nat):KeptOk now i s [] n:=⟨by simp,by simp,by simp,by simp,List.Pairwise.nil,Nat.zero_le _⟩
theorem KeptOk.step {now i:Int} {s:SrcD} {K:List MsgD} {n:Nat} (h:KeptOk now i s K n) {m:MsgD} (hm:m.src=i):KeptOk now i (oneP now s K m).1 (oneP now s K m).2 (n+1):=by
 unfold oneP;split
 · exact⟨h.src,h.live,h.got,h.seq,h.ord,Nat.le_succ_of_le h.len⟩
 ·
  rename_i hno;simp only[not_or]at hno;obtain⟨-,-,h3,h4⟩:=hno;have hlt: ∀ o∈K,o.seq<m.seq:=fun o ho=>by
   have hg:s.got=true:=h.got (fun e=>by rw[e]at ho;simp at ho);have:=h.seq o ho;have: ¬ m.seq≤s.seq:=fun q=>h3 ⟨hg,q⟩
   omega
  refine⟨?_, ?_,fun _=>rfl, ?_, ?_, ?_⟩
  ·
   intro o ho;rcases List.mem_append.1 ho with ho|ho
   · exact h.src o (List.mem_filter.1 ho).1
   · rw[List.mem_singleton.1 ho];exact hm
  ·
   intro o ho;rcases List.mem_append.1 ho with ho|ho
   · exact h.live o (List.mem_filter.1 ho).1
   · rw[List.mem_singleton.1 ho];omega
  ·
   intro o ho;show o.seq≤m.seq
   rcases List.mem_append.1 ho with ho|ho
   · exact Int.le_of_lt (hlt o (List.mem_filter.1 ho).1)
   · rw[List.mem_singleton.1 ho];exact Int.le_refl _
  ·
   rw[List.pairwise_append];refine⟨List.Pairwise.sublist List.filter_sublist h.ord,by simp,fun a ha b hb=>?_⟩;rw[List.mem_singleton.1 hb];exact hlt a (List.mem_filter.1 ha).1
  ·
   rw[List.length_append,List.length_singleton];have:=List.length_filter_le (staysB m now) K;have:=h.len;omega
theorem KeptOk.many {now i:Int}: ∀ (l:List MsgD) {s:SrcD} {K:List MsgD} {n:Nat},KeptOk now i s K n→(∀ m∈l,m.src=i)→KeptOk now i (manyP now s K l).1 (manyP now s K l).2 (n+l.length)
 |[],_,_,_,h,_=>h
 |m::l,s,K,n,h,hm=>by
  have:=KeptOk.many l (h.step (hm m (List.mem_cons_self ..))) fun x hx=>hm x (List.mem_cons_of_mem _ hx)
  rw[List.length_cons,show n+(l.length+1)=n+1+l.length by omega];exact this
theorem stays_other {m:MsgD} {now:Int} {P:List MsgD} (h: ∀ o∈P,o.src≠m.src∧now<o.exp):P.filter (staysB m now)=P:=by
 rw[List.filter_eq_self];intro o ho;obtain⟨h1,h2⟩:=h o ho;unfold staysB superB;rw[show(m.src==o.src)=false from by rw[beq_eq_false_iff_ne];exact Ne.symm h1];simp[h2]
theorem recv_one {now:Int} {srcs:List SrcD} {pat:Int} {P K:List MsgD} {m:MsgD} {s:SrcD} (hs:srcs[m.src.toNat]? =some s) (hP: ∀ o∈P,o.src≠m.src∧now<o.exp) (hl:P.length+K.length<256):
  (recvP ⟨srcs,pat,P++K⟩ m now).1=⟨srcs.set m.src.toNat (oneP now s K m).1,pat,P++(oneP now s K m).2⟩:=by
 have hset:srcs.set m.src.toNat s=srcs:=by
  obtain⟨h1,h2⟩:=List.getElem?_eq_some_iff.1 hs;rw[←h2,List.set_getElem_self]
 have hbad: ∀ e,refuseP ⟨srcs,pat,P++K⟩ m now=e→e≠0→oneP now s K m=(s,K)→(recvP ⟨srcs,pat,P++K⟩ m now).1=⟨srcs.set m.src.toNat (oneP now s K m).1,pat,P++(oneP now s K m).2⟩:=fun e he hne ho=>by
  unfold recvP;rw[he,if_pos hne,ho,hset]
 by_cases h1:now<0∨3155932800<now
 · exact hbad 10 (by unfold refuseP;rw[if_pos h1]) (by decide) (by unfold oneP;rw[if_pos (.inl h1)])
 by_cases h2:checkM m=0
 ·
  by_cases h3:(s.got=true∧m.seq≤s.seq)∨m.exp≤now
  · exact hbad 37 (by unfold refuseP;rw[if_neg h1,if_neg (fun q=>q h2)];simp only[hs];rw[if_pos h3]) (by decide) (by unfold oneP;rw[if_pos (.inr (.inr h3))])
  ·
   have hr:refuseP ⟨srcs,pat,P++K⟩ m now=0:=by unfold refuseP;rw[if_neg h1,if_neg (fun q=>q h2)];simp only[hs];rw[if_neg h3]
   have ho:oneP now s K m=({ hearP s now with got:=true,seq:=m.seq },K.filter (staysB m now)++[m]):=by
    unfold oneP;rw[if_neg (show ¬ ((now<0∨3155932800<now)∨checkM m≠0∨(s.got=true∧m.seq≤s.seq)∨m.exp≤now) from fun q=>q.elim h1 fun q=>q.elim (fun q=>q h2) h3)]
   have hf:(P++K).filter (staysB m now)=P++K.filter (staysB m now):=by rw[List.filter_append,stays_other hP]
   have:=List.length_filter_le (staysB m now) K;unfold recvP;rw[hr,if_neg (fun q=>q rfl),ho];simp only[hf];rw[if_neg (by rw[List.length_append];omega),List.append_assoc];simp only[modify_set _ hs]
 · exact hbad (checkM m) (by unfold refuseP;rw[if_neg h1,if_pos h2]) h2 (by unfold oneP;rw[if_pos (.inr (.inl h2))])
theorem recv_many {now pat:Int} {i:Nat}: ∀ (l:List MsgD) {srcs:List SrcD} {P K:List MsgD} {s:SrcD} {n:Nat},(∀ m∈l,m.src=i)→srcs[i]? =some s→(∀ o∈P,o.src≠i∧now<o.exp)→KeptOk now i s K n→P.length+n+l.length<256→
  recvAll now ⟨srcs,pat,P++K⟩ l=⟨srcs.set i (manyP now s K l).1,pat,P++(manyP now s K l).2⟩
 |[],srcs,P,K,s,n,_,hs,_,_,_=>by
  obtain⟨h1,h2⟩:=List.getElem?_eq_some_iff.1 hs;show(⟨srcs,pat,P++K⟩:BoxD)=⟨srcs.set i s,pat,P++K⟩
  rw[←h2,List.set_getElem_self]
 |m::l,srcs,P,K,s,n,hm,hs,hP,hK,hl=>by
  have hmi:m.src=i:=hm m (List.mem_cons_self ..);have hmn:m.src.toNat=i:=by omega
  have h1:=recv_one (pat:=pat) (m:=m) (s:=s) (K:=K) (P:=P) (by rw[hmn];exact hs) (fun o ho=>by rw[hmi];exact hP o ho) (by have:=hK.len;simp only[List.length_cons]at hl;omega);show recvAll now (recvP ⟨srcs,pat,P++K⟩ m now).1 l=_
  rw[h1,hmn];have h2:=recv_many (now:=now) (pat:=pat) (i:=i) l (srcs:=srcs.set i (oneP now s K m).1) (P:=P) (K:=(oneP now s K m).2) (s:=(oneP now s K m).1) (n:=n+1) (fun x hx=>hm x (List.mem_cons_of_mem _ hx))
   (by rw[List.getElem?_set_self (List.getElem?_eq_some_iff.1 hs).1]) hP (hK.step hmi) (by simp only[List.length_cons]at hl;omega)
  rw[h2,List.set_set];rfl
theorem pairwise_seq_apart {K:List MsgD} (h:K.Pairwise fun a b=>a.seq<b.seq):ApartM K:=
 List.Pairwise.imp (fun{a b} (q:a.seq<b.seq) e=>by unfold keyM at e;simp only[Prod.mk.injEq]at e;omega) h
def box0 (n:Nat) (pat:Int):BoxD:=⟨List.replicate n ⟨false,0,false,0⟩,pat,[]⟩
theorem order_plain (now pat:Int) (a b:List MsgD) (ha: ∀ m∈a,m.src=0) (hb: ∀ m∈b,m.src=1) (hla:a.length≤8) (hlb:b.length≤8):
  activeP (recvAll now (recvAll now (box0 2 pat) a) b) now=activeP (recvAll now (recvAll now (box0 2 pat) b) a) now:=by
 have hz:(box0 2 pat)=⟨[⟨false,0,false,0⟩,⟨false,0,false,0⟩],pat,[]++[]⟩:=rfl;have ka:=KeptOk.many a (keptOk_nil now 0 ⟨false,0,false,0⟩ 0) ha;have kb:=KeptOk.many b (keptOk_nil now 1 ⟨false,0,false,0⟩ 0) hb;have x1:=recv_many (now:=now) (pat:=pat) (i:=0) a (srcs:=[⟨false,0,false,0⟩,⟨false,0,false,0⟩]) (P:=[]) (K:=[]) ha rfl (by simp) (keptOk_nil now 0 ⟨false,0,false,0⟩ 0) (by simp;omega);have y1:=recv_many (now:=now) (pat:=pat) (i:=1) b (srcs:=[⟨false,0,false,0⟩,⟨false,0,false,0⟩]) (P:=[]) (K:=[]) hb rfl (by simp) (keptOk_nil now 1 ⟨false,0,false,0⟩ 0) (by simp;omega);rw[hz,x1,y1];generalize hA:manyP now ⟨false,0,false,0⟩ [] a=A at ka
 generalize hB:manyP now ⟨false,0,false,0⟩ [] b=B at kb
 obtain⟨sa,Ka⟩:=A;obtain⟨sb,Kb⟩:=B;simp only[Nat.zero_add]at ka kb;have la:=ka.len;have lb:=kb.len;have x2:=recv_many (now:=now) (pat:=pat) (i:=1) b (srcs:=[sa,⟨false,0,false,0⟩]) (P:=Ka) (K:=[]) hb rfl (fun o ho=>⟨by rw[ka.src o ho];decide,ka.live o ho⟩) (keptOk_nil now 1 ⟨false,0,false,0⟩ 0) (by omega);have y2:=recv_many (now:=now) (pat:=pat) (i:=0) a (srcs:=[⟨false,0,false,0⟩,sb]) (P:=Kb) (K:=[]) ha rfl (fun o ho=>⟨by rw[kb.src o ho];decide,kb.live o ho⟩) (keptOk_nil now 0 ⟨false,0,false,0⟩ 0) (by omega);rw[List.append_nil]at x2 y2;simp only[List.nil_append,List.set_cons_zero,List.set_cons_succ];rw[x2,y2,hA,hB];simp only[List.set_cons_zero,List.set_cons_succ];unfold activeP currentP;have hc:currentB ⟨[sa,sb],pat,Ka++Kb⟩ now=currentB ⟨[sa,sb],pat,Kb++Ka⟩ now:=rfl;rw[hc];generalize currentB ⟨[sa,sb],pat,Kb++Ka⟩ now=c
 have hp:((Ka++Kb).filter c).Perm ((Kb++Ka).filter c):=List.perm_append_comm.filter c;have ho:(fun m=> !overB ((Ka++Kb).filter c) m)=fun m=> !overB ((Kb++Ka).filter c) m:=by
  funext m
  rw[overB_perm hp]
 rw[←ho];refine sortM_perm_eq ?_ (hp.filter _);rw[List.filter_append,List.filter_append,ApartM,List.pairwise_append];refine⟨List.Pairwise.sublist List.filter_sublist (List.Pairwise.sublist List.filter_sublist (pairwise_seq_apart ka.ord)),List.Pairwise.sublist List.filter_sublist (List.Pairwise.sublist List.filter_sublist (pairwise_seq_apart kb.ord)),fun x hx y hy e=>?_⟩;obtain⟨hx1,-⟩:=List.mem_filter.1 hx;obtain⟨hy1,hy2⟩:=List.mem_filter.1 hy;have sx:=ka.src x (List.mem_filter.1 hx1).1;have sy:=kb.src y (List.mem_filter.1 hy1).1;simp only[Bool.not_eq_true']at hy2;have:overB (Ka.filter c++Kb.filter c) y=true:=by
  unfold overB;rw[List.any_eq_true];refine⟨x,List.mem_append_left _ hx1, ?_⟩;unfold keyM at e;simp only[Prod.mk.injEq]at e;unfold sameT;simp[sx,sy,e.1,e.2.1,e.2.2.1]
 rw[this]at hy2;cases hy2
theorem checkM_exp {m:MsgD} (h:checkM m=0):m.exp≤3155932800:=by
 unfold checkM at h;split at h
 · cases h
 ·
  split at h
  · cases h
  ·
   split at h
   · cases h
   ·
    rename_i h3;simp only[outside,Bool.or_eq_true,decide_eq_true_eq,not_or]at h3;omega
theorem refuse_check {b:BoxD} {m:MsgD} {now:Int} (h:refuseP b m now=0):checkM m=0:=by
 unfold refuseP at h;split at h
 · cases h
 ·
  split at h
  ·
   rename_i h1 h2;exact absurd h h2
  ·
   rename_i h1 h2;simpa using h2
theorem recv_kept {b:BoxD} {m:MsgD} {now:Int}: ∀ x∈(recvP b m now).1.kept,x∈b.kept∨(x=m∧checkM m=0):=by
 intro x hx;unfold recvP at hx;split at hx
 · exact .inl hx
 ·
  rename_i h0;split at hx
  · exact .inl hx
  ·
   rcases List.mem_append.1 hx with hx|hx
   · exact .inl (List.mem_filter.1 hx).1
   · exact .inr ⟨List.mem_singleton.1 hx,refuse_check (by simpa using h0)⟩
theorem recvAll_kept (now:Int): ∀ (l:List MsgD) (b:BoxD),∀ x∈(recvAll now b l).kept,x∈b.kept∨(x∈l∧checkM x=0)
 |[],_,x,hx=> .inl hx
 |m::l,b,x,hx=>by
  rcases recvAll_kept now l (recvP b m now).1 x hx with h|⟨h,h2⟩
  ·
   rcases recv_kept x h with h|⟨rfl,h⟩
   · exact .inl h
   · exact .inr ⟨List.mem_cons_self ..,h⟩
  · exact .inr ⟨List.mem_cons_of_mem _ h,h2⟩
def lastP (l:List MsgD):Int:=l.foldl (fun a m=>max a (min m.exp 3155932800)) 0
theorem lastP_snoc (l:List MsgD) (m:MsgD):lastP (l++[m])=max (lastP l) (min m.exp 3155932800):=by simp[lastP]
theorem last_fold: ∀ (l:List MsgD) (a:Int),a≤l.foldl (fun a m=>max a (min m.exp 3155932800)) a∧(∀ m∈l,min m.exp 3155932800≤l.foldl (fun a m=>max a (min m.exp 3155932800)) a)∧(a≤3155932800→l.foldl (fun a m=>max a (min m.exp 3155932800)) a≤3155932800)
 |[],a=>⟨Int.le_refl _,by simp,fun h=>h⟩
 |m::l,a=>by
  obtain⟨h1,h2,h3⟩:=last_fold l (max a (min m.exp 3155932800));rw[List.foldl_cons];refine⟨by omega,fun x hx=>?_,fun h=>h3 (by omega)⟩;rcases List.mem_cons.1 hx with rfl|hx
  · omega
  · exact h2 x hx
theorem lastP_bd (l:List MsgD):0≤lastP l∧lastP l≤3155932800:=⟨(last_fold l 0).1,(last_fold l 0).2.2 (by omega)⟩
theorem active_none (n:Nat) (pat:Int) (l:List MsgD):activeP (recvAll 0 (box0 n pat) l) (lastP l)=[]:=by
 have h:currentP (recvAll 0 (box0 n pat) l) (lastP l)=[]:=by
  unfold currentP;rw[List.filter_eq_nil_iff];intro m hm;rcases recvAll_kept 0 l _ m hm with h|⟨h,hc⟩
  · cases h
  ·
   have h1:=(last_fold l 0).2.1 m h;have h2:=checkM_exp hc;have: ¬ lastP l<m.exp:=by unfold lastP;omega
   unfold currentB;simp[this]
 unfold activeP;rw[h];rfl
end Go.Proofs.YtncbcmiflffakaaGreat.Tt
namespace Go.Proofs.YtncbcmiflffakaaGreat.Tt
open Go.RowKit
open Num Clk Dat Frq Thr
theorem nextL_snoc (pre:List LinkD) (l:LinkD) (a:Int):nextL (pre++[l]) a=match nextL pre a with
  |some b=>some b
  |none=>if l.stay&&l.frm==a then some l.dst else none:=by
 unfold nextL;rw[List.find?_append];cases hf:pre.find? fun l=>l.stay&&l.frm==a with
 |some x=>rfl
 |none=>
  rw[Option.none_or,List.find?_cons,List.find?_nil];cases hq:(l.stay&&l.frm==a)with
  |true=>rfl
  |false=>rfl
structure Ranked (pre:List LinkD) (N:Nat) (len:Int→Nat):Prop where
 down: ∀ a b,nextL pre a=some b→len b<len a
 few: ∀ a,len a<N
theorem Ranked.same {pre:List LinkD} {N:Nat} {len:Int→Nat} (h:Ranked pre N len) (g:Int): ∀ (n m:Nat) (a:Int),len a<n→len a<m→leadsN pre g n a=leadsN pre g m a
 |0,_,a,h1,_=>absurd h1 (Nat.not_lt_zero _)
 |_,0,a,_,h1=>absurd h1 (Nat.not_lt_zero _)
 |n+1,m+1,a,h1,h2=>by
  unfold leadsN;cases hx:nextL pre a with
  |none=>rfl
  |some b=>
   have hd:=h.down a b hx;simp only;rw[h.same g n m b (by omega) (by omega)]
theorem Ranked.endS {pre:List LinkD} {N:Nat} {len:Int→Nat} (h:Ranked pre N len) (g:Int) {a:Int} (hx:nextL pre a=none):leadsN pre g N a=false:=by
 have:=h.few a;cases N with
 |zero=>omega
 |succ k=>unfold leadsN;rw[hx]
theorem Ranked.moreS {pre:List LinkD} {N:Nat} {len:Int→Nat} (h:Ranked pre N len) (g:Int) {a b:Int} (hx:nextL pre a=some b):leadsN pre g N a=(b==g||leadsN pre g N b):=by
 have h0:=h.few a;have h1:=h.down a b hx;cases N with
 |zero=>omega
 |succ k=>
  rw[h.same g (k+1) k b (by omega) (by omega)];conv=>lhs;unfold leadsN
  rw[hx]
theorem ranked_nil:Ranked [] 1 (fun _=>0):=⟨fun a b h=>by simp[nextL]at h,fun _=>Nat.one_pos⟩
theorem Ranked.plain {pre:List LinkD} {N:Nat} {len:Int→Nat} (h:Ranked pre N len) {l:LinkD} (hs:l.stay=false):Ranked (pre++[l]) (2*N) len:=
 ⟨fun a b hx=>by
  rw[nextL_snoc,hs]at hx;cases hn:nextL pre a with
  |none=>rw[hn]at hx;simp at hx
  |some c=>rw[hn]at hx;simp only[Option.some.injEq]at hx;exact hx ▸ h.down a c hn,fun a=>by have:=h.few a;omega⟩
theorem Ranked.snoc {pre:List LinkD} {N:Nat} {len:Int→Nat} (h:Ranked pre N len) {l:LinkD} (hf:nextL pre l.frm=none) (hne:l.frm≠l.dst) (hl:leadsN pre l.frm N l.dst=false): ∃ len',Ranked (pre++[l]) (2*N) len':=by
 refine⟨fun a=>if a=l.frm∨leadsN pre l.frm N a=true then len a+len l.dst+1 else len a,fun a b hx=>?_,fun a=>?_⟩
 ·
  rw[nextL_snoc]at hx;cases hn:nextL pre a with
  |some c=>
   rw[hn]at hx;simp only[Option.some.injEq]at hx;subst hx;have hd:=h.down a c hn;have hs:=h.moreS l.frm hn;have ha: ¬ a=l.frm:=fun e=>by rw[e,hf]at hn;cases hn
   by_cases hc:c=l.frm∨leadsN pre l.frm N c=true
   ·
    have hat:leadsN pre l.frm N a=true:=by
     rw[hs];rcases hc with hc|hc
     · rw[hc];simp
     · rw[hc];simp
    rw[if_pos hc,if_pos (.inr hat)];omega
   ·
    rw[if_neg hc];split<;>omega
  |none=>
   rw[hn]at hx;simp only at hx;split at hx
   ·
    rename_i hq;simp only[Option.some.injEq]at hx;subst hx;simp only[Bool.and_eq_true,beq_iff_eq]at hq;obtain⟨-,rfl⟩:=hq;rw[if_neg (show ¬ (l.dst=l.frm∨leadsN pre l.frm N l.dst=true) from fun q=>q.elim (fun e=>hne e.symm) (fun e=>by rw[hl]at e;cases e)),if_pos (.inl rfl)];omega
   · cases hx
 ·
  have h1:=h.few a;have h2:=h.few l.dst;split<;>omega
end Go.Proofs.YtncbcmiflffakaaGreat.Tt
