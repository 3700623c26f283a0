/- Contracts, proved. Conditions: each contract's own. -/
import Derived.Test.YtakedkcjplfgeaaGreatDoorMPkRdB
set_option maxRecDepth 1000000
set_option maxHeartbeats 32000000
namespace Go.Proofs.YtakedkcjplfgeaaGreatDoor
open Go.RowKit
open Frq Thr Tt Num Clk Dat Fld
theorem yD:(Tryz.prog.info? 3).map (fun i=>(i.zero,i.size,i.bytes))=some (some (.int .i64 0),1,8):=by kernel_rfl
def Hm (w:World) (b:Nat):Nat->List Value->World
 |_,[]=>w
 |i,v::r=>Hm (w.setCell ⟨b,i,none⟩ v) b (i+1) r
def O4 (C:Array Value):Nat->List Value->Array Value
 |_,[]=>C
 |i,v::r=>O4 (C.setIfInBounds i v) (i+1) r
theorem Jd {g rb b:Nat} {m e:Int} {X:PX} {l:List (List UInt8)} {T:TypeId} {w0:World} (hb:w0.heap.size<=b) (hg:g<w0.heap.size) (hr:rb<w0.heap.size) (h1:1<w0.heap.size) (h2:0<w0.heap.size): ∀ (L:List Value) (i:Nat) {w:World} {C:Array Value},wR g rb m e X l w->Gr g w0 w->w.heap[b]? =some (.cells C T (0,0))->
  wR g rb m e X l (Hm w b i L)/\Gr g w0 (Hm w b i L)/\(Hm w b i L).heap[b]? =some (.cells (O4 C i L) T (0,0))
 |[],_,_,_,h,k,q=>⟨h,k,q⟩
 |v::L,i,w,C,h,k,q=>Jd hb hg hr h1 h2 L (i+1) (h.far (p:=⟨b,i,none⟩) v (by dsimp only;omega) (by dsimp only;omega) (by dsimp only;omega) (by dsimp only;omega)) (zX k hb i v) (qQ q i v)
section
variable {B g rb:Nat} {m e:Int} {vs:Nat->Value} {ts:List TripD} {mb own:Nat->Nat} {s:St} {ids:Nat->List (List UInt8)} {o:Bool} {l:List (List UInt8)} {w w':World} {gg cap:Nat}
def RH (s:St) (x:ZH):St:=⟨{ s.t with stops:=s.t.stops++[x] },s.lines,s.rules,s.opened⟩
theorem o7 (s:St) (x:ZH) (ts:List TripD):jf (RH s x) ts 0=⟨120,4,s.t.stops.length+1,s.t.stops.flatMap jY++jY x⟩:=by
 show(⟨120,4,(s.t.stops++[x]).length,_⟩:Yn)=_
 have e:(s.t.stops++[x]).flatMap jY=s.t.stops.flatMap jY++jY x:=by rw[List.flatMap_append];rw[List.flatMap_cons,List.flatMap_nil,List.append_nil]
 have e2:(s.t.stops++[x]).length=s.t.stops.length+1:=by rw[U1];rfl
 rw[e2,<-e];rfl
theorem D8 (s:St) (x:ZH) (ts:List TripD): ∀ i,i<20->i≠0->jf (RH s x) ts i=jf s ts i:=fun i hi hne=>by
 rcases i with _|_|_|_|_|_|_|_|_|_|_|_|_|_|_|_|_|_|_|_|i
 all_goals first
  |exact absurd rfl hne
  |rfl
  |omega
theorem kN.push0 (h:kN B g rb m e vs ts mb own s ids o l w) {x:ZH} (hg:w.grownBy w' (vs 0).ownBlock)
  (ho:w'.ownsRow B 120 4 (.slice (some ⟨gg,0,none⟩) (s.t.stops.length+1) cap) (s.t.stops.length+1) (s.t.stops.flatMap jY++jY x)) (hgg:(vs 0).ownBlock=some gg∨gg=w.heap.size):
  ∃ vs' own',kN B g rb m e vs' ts mb own' (RH s x) ids o l (w'.setCell ⟨g,2,none⟩ (.slice (some ⟨gg,0,none⟩) (s.t.stops.length+1) cap))/\Mv own w own' (w'.setCell ⟨g,2,none⟩ (.slice (some ⟨gg,0,none⟩) (s.t.stops.length+1) cap)):=
 ⟨_,_,h.push (k:=0) (s':=RH s x) (by omega) hg (by rw[o7]) (by rw[o7];exact ho) hgg rfl h.parts.lines (D8 s x ts) ⟨rfl,rfl,rfl⟩ rfl⟩
def RI (s:St) (x:xy):St:=⟨{ s.t with routes:=s.t.routes++[x] },s.lines,s.rules,s.opened⟩
theorem o8 (s:St) (x:xy) (ts:List TripD):jf (RI s x) ts 1=⟨122,3,s.t.routes.length+1,s.t.routes.flatMap jP++jP x⟩:=by
 show(⟨122,3,(s.t.routes++[x]).length,_⟩:Yn)=_
 have e:(s.t.routes++[x]).flatMap jP=s.t.routes.flatMap jP++jP x:=by rw[List.flatMap_append];rw[List.flatMap_cons,List.flatMap_nil,List.append_nil]
 have e2:(s.t.routes++[x]).length=s.t.routes.length+1:=by rw[U1];rfl
 rw[e2,<-e];rfl
theorem EC (s:St) (x:xy) (ts:List TripD): ∀ i,i<20->i≠1->jf (RI s x) ts i=jf s ts i:=fun i hi hne=>by
 rcases i with _|_|_|_|_|_|_|_|_|_|_|_|_|_|_|_|_|_|_|_|i
 all_goals first
  |exact absurd rfl hne
  |rfl
  |omega
theorem kN.push1 (h:kN B g rb m e vs ts mb own s ids o l w) {x:xy} (hg:w.grownBy w' (vs 1).ownBlock)
  (ho:w'.ownsRow B 122 3 (.slice (some ⟨gg,0,none⟩) (s.t.routes.length+1) cap) (s.t.routes.length+1) (s.t.routes.flatMap jP++jP x)) (hgg:(vs 1).ownBlock=some gg∨gg=w.heap.size):
  ∃ vs' own',kN B g rb m e vs' ts mb own' (RI s x) ids o l (w'.setCell ⟨g,3,none⟩ (.slice (some ⟨gg,0,none⟩) (s.t.routes.length+1) cap))/\Mv own w own' (w'.setCell ⟨g,3,none⟩ (.slice (some ⟨gg,0,none⟩) (s.t.routes.length+1) cap)):=
 ⟨_,_,h.push (k:=1) (s':=RI s x) (by omega) hg (by rw[o8]) (by rw[o8];exact ho) hgg rfl h.parts.lines (EC s x ts) ⟨rfl,rfl,rfl⟩ rfl⟩
def RJ (s:St) (x:Yj):St:=⟨{ s.t with cals:=s.t.cals++[x] },s.lines,s.rules,s.opened⟩
theorem pF (s:St) (x:Yj) (ts:List TripD):jf (RJ s x) ts 2=⟨61,10,s.t.cals.length+1,s.t.cals.flatMap kD++kD x⟩:=by
 show(⟨61,10,(s.t.cals++[x]).length,_⟩:Yn)=_
 have e:(s.t.cals++[x]).flatMap kD=s.t.cals.flatMap kD++kD x:=by rw[List.flatMap_append];rw[List.flatMap_cons,List.flatMap_nil,List.append_nil]
 have e2:(s.t.cals++[x]).length=s.t.cals.length+1:=by rw[U1];rfl
 rw[e2,<-e];rfl
theorem ED (s:St) (x:Yj) (ts:List TripD): ∀ i,i<20->i≠2->jf (RJ s x) ts i=jf s ts i:=fun i hi hne=>by
 rcases i with _|_|_|_|_|_|_|_|_|_|_|_|_|_|_|_|_|_|_|_|i
 all_goals first
  |exact absurd rfl hne
  |rfl
  |omega
theorem kN.push2 (h:kN B g rb m e vs ts mb own s ids o l w) {x:Yj} (hg:w.grownBy w' (vs 2).ownBlock)
  (ho:w'.ownsRow B 61 10 (.slice (some ⟨gg,0,none⟩) (s.t.cals.length+1) cap) (s.t.cals.length+1) (s.t.cals.flatMap kD++kD x)) (hgg:(vs 2).ownBlock=some gg∨gg=w.heap.size):
  ∃ vs' own',kN B g rb m e vs' ts mb own' (RJ s x) ids o l (w'.setCell ⟨g,4,none⟩ (.slice (some ⟨gg,0,none⟩) (s.t.cals.length+1) cap))/\Mv own w own' (w'.setCell ⟨g,4,none⟩ (.slice (some ⟨gg,0,none⟩) (s.t.cals.length+1) cap)):=
 ⟨_,_,h.push (k:=2) (s':=RJ s x) (by omega) hg (by rw[pF]) (by rw[pF];exact ho) hgg rfl h.parts.lines (ED s x ts) ⟨rfl,rfl,rfl⟩ rfl⟩
def RU (s:St) (x:Qq):St:=⟨{ s.t with paths:=s.t.paths++[x] },s.lines,s.rules,s.opened⟩
theorem pM (s:St) (x:Qq) (ts:List TripD):jf (RU s x) ts 8=⟨63,4,s.t.paths.length+1,s.t.paths.flatMap zt++zt x⟩:=by
 show(⟨63,4,(s.t.paths++[x]).length,_⟩:Yn)=_
 have e:(s.t.paths++[x]).flatMap zt=s.t.paths.flatMap zt++zt x:=by rw[List.flatMap_append];rw[List.flatMap_cons,List.flatMap_nil,List.append_nil]
 have e2:(s.t.paths++[x]).length=s.t.paths.length+1:=by rw[U1];rfl
 rw[e2,<-e];rfl
theorem EJ (s:St) (x:Qq) (ts:List TripD): ∀ i,i<20->i≠8->jf (RU s x) ts i=jf s ts i:=fun i hi hne=>by
 rcases i with _|_|_|_|_|_|_|_|_|_|_|_|_|_|_|_|_|_|_|_|i
 all_goals first
  |exact absurd rfl hne
  |rfl
  |omega
theorem kN.push8 (h:kN B g rb m e vs ts mb own s ids o l w) {x:Qq} (hg:w.grownBy w' (vs 8).ownBlock)
  (ho:w'.ownsRow B 63 4 (.slice (some ⟨gg,0,none⟩) (s.t.paths.length+1) cap) (s.t.paths.length+1) (s.t.paths.flatMap zt++zt x)) (hgg:(vs 8).ownBlock=some gg∨gg=w.heap.size):
  ∃ vs' own',kN B g rb m e vs' ts mb own' (RU s x) ids o l (w'.setCell ⟨g,10,none⟩ (.slice (some ⟨gg,0,none⟩) (s.t.paths.length+1) cap))/\Mv own w own' (w'.setCell ⟨g,10,none⟩ (.slice (some ⟨gg,0,none⟩) (s.t.paths.length+1) cap)):=
 ⟨_,_,h.push (k:=8) (s':=RU s x) (by omega) hg (by rw[pM]) (by rw[pM];exact ho) hgg rfl h.parts.lines (EJ s x ts) ⟨rfl,rfl,rfl⟩ rfl⟩
def RV (s:St) (x:JA):St:=⟨{ s.t with fares:={ s.t.fares with prods:=s.t.fares.prods++[x] } },s.lines,s.rules,s.opened⟩
theorem pO (s:St) (x:JA) (ts:List TripD):jf (RV s x) ts 9=⟨65,6,s.t.fares.prods.length+1,s.t.fares.prods.flatMap zu++zu x⟩:=by
 show(⟨65,6,(s.t.fares.prods++[x]).length,_⟩:Yn)=_
 have e:(s.t.fares.prods++[x]).flatMap zu=s.t.fares.prods.flatMap zu++zu x:=by rw[List.flatMap_append];rw[List.flatMap_cons,List.flatMap_nil,List.append_nil]
 have e2:(s.t.fares.prods++[x]).length=s.t.fares.prods.length+1:=by rw[U1];rfl
 rw[e2,<-e];rfl
theorem EK (s:St) (x:JA) (ts:List TripD): ∀ i,i<20->i≠9->jf (RV s x) ts i=jf s ts i:=fun i hi hne=>by
 rcases i with _|_|_|_|_|_|_|_|_|_|_|_|_|_|_|_|_|_|_|_|i
 all_goals first
  |exact absurd rfl hne
  |rfl
  |omega
theorem kN.push9 (h:kN B g rb m e vs ts mb own s ids o l w) {x:JA} (hg:w.grownBy w' (vs 9).ownBlock)
  (ho:w'.ownsRow B 65 6 (.slice (some ⟨gg,0,none⟩) (s.t.fares.prods.length+1) cap) (s.t.fares.prods.length+1) (s.t.fares.prods.flatMap zu++zu x)) (hgg:(vs 9).ownBlock=some gg∨gg=w.heap.size):
  ∃ vs' own',kN B g rb m e vs' ts mb own' (RV s x) ids o l (w'.setCell ⟨g,11,none⟩ (.slice (some ⟨gg,0,none⟩) (s.t.fares.prods.length+1) cap))/\Mv own w own' (w'.setCell ⟨g,11,none⟩ (.slice (some ⟨gg,0,none⟩) (s.t.fares.prods.length+1) cap)):=
 ⟨_,_,h.push (k:=9) (s':=RV s x) (by omega) hg (by rw[pO]) (by rw[pO];exact ho) hgg rfl h.parts.lines (EK s x ts) ⟨rfl,rfl,rfl⟩ rfl⟩
def PV (f1:List UInt8) (n2 n3:Int) (n4:Bool):TripD:=⟨⟨f1.toArray⟩,n2,n3,n4, .slice none 0 0,[]⟩
def Ri (s:St) (x:TripX):St:=⟨{ s.t with trips:=s.t.trips++[x] },s.lines,s.rules,s.opened⟩
theorem EF (s:St) (x:TripX) (ts:List TripD) (y:TripD): ∀ i,i<20->i≠4->jf (Ri s x) (ts++[y]) i=jf s ts i:=fun i hi hne=>by
 rcases i with _|_|_|_|_|_|_|_|_|_|_|_|_|_|_|_|_|_|_|_|i
 all_goals first
  |exact absurd rfl hne
  |rfl
  |omega
theorem kN.push4 (h:kN B g rb m e vs ts mb own s ids o l w) {f1:List UInt8} {n2 n3:Int} {n4:Bool} (hg:w.grownBy w' (vs 4).ownBlock)
  (ho:w'.ownsRow B 56 5 (.slice (some ⟨gg,0,none⟩) (ts.length+1) cap) (ts.length+1) (ts.flatMap tripCells++tripCells (PV f1 n2 n3 n4))) (hgg:(vs 4).ownBlock=some gg∨gg=w.heap.size):
  ∃ vs' own',kN B g rb m e vs' (ts++[PV f1 n2 n3 n4]) mb own' (Ri s ⟨f1,n2,n3,n4,[]⟩) ids o l (w'.setCell ⟨g,6,none⟩ (.slice (some ⟨gg,0,none⟩) (ts.length+1) cap))/\Mv own w own' (w'.setCell ⟨g,6,none⟩ (.slice (some ⟨gg,0,none⟩) (ts.length+1) cap)):=by
 have hlab: ∀ b,b<w.heap.size->wO own gg 4 b=own b:=fun b hb=>vw hgg (h.parts.lab 4 (by omega)) hb
 have p1:=h.parts.trip (x:=PV f1 n2 n3 n4) (s':=Ri s ⟨f1,n2,n3,n4,[]⟩) rfl rfl hg rfl ho hgg (by show s.t.trips++_=_;rw[h.parts.same,List.map_append];rfl) h.parts.lines (EF s _ ts _);have r1:=h.rat.row hg (h.far (by omega) (.inr (.inr h.lg))) (h.far (by omega) (.inr (.inl h.lrb))) (h.far (by omega) (.inl h.l1)) (h.far (by omega) (.inl h.l2));have lg':wO own gg 4 g=99:=(hlab g h.glt).trans h.lg;have gs:=zH g w' 6 (.slice (some ⟨gg,0,none⟩) (ts.length+1) cap);obtain⟨u,q1,q2⟩:=r1.at';refine⟨_,_,⟨r1.turn gs ⟨u, ?_,q2⟩,p1.kept gs (fun b hb=>by simp only[qAA]at hb;rw[<-hb,lg'];omega),lg',(hlab rb h.rat.lt).trans h.lrb,(hlab _ h.rat.env.lt.1).trans h.l1,(hlab _ h.rat.env.lt.2).trans h.l2⟩, ?_⟩
 ·
  have:=qQ q1 (KR 4) (.slice (some ⟨gg,0,none⟩) (ts.length+1) cap);rw[Gy u e vs _ mb _ o (by omega) _]at this;exact this
 ·
  have m1:Mv own w (wO own gg 4) w':=by
   refine⟨hg.os,hg.tape,hg.output,hg.size,hlab,fun b hb hl=>hg.block b hb (fun e2=>?_)⟩;have:=h.parts.lab 4 (by omega) b e2.symm;omega
  exact m1.trans (QK gs lg')
theorem kN.line' (h:kN B g rb m e vs ts mb own s ids o l w) {k:Nat} {n:Int} {s':St} (hk:k<10) (hg:w.grownBy w' (vs (k+10)).ownBlock)
  (ho:w'.ownsRow B 3 1 (.slice (some ⟨gg,0,none⟩) ((qN s k).length+1) cap) ((qN s k).length+1) ((qN s k).flatMap qi++[.int .i64 n])) (hgg:(vs (k+10)).ownBlock=some gg∨gg=w.heap.size) (ht:s'.t=s.t) (hl:s'.lines=jm s k n) (hr:s'.rules=s.rules):
  ∃ vs' own',kN B g rb m e vs' ts mb own' s' ids o l (w'.setCell ⟨g,k+19,none⟩ (.slice (some ⟨gg,0,none⟩) ((qN s k).length+1) cap))/\Mv own w own' (w'.setCell ⟨g,k+19,none⟩ (.slice (some ⟨gg,0,none⟩) ((qN s k).length+1) cap)):=⟨_,_,h.lined hk hg ho hgg ht hl hr⟩
end
theorem Xo (b:UInt8) (v:Bool) (H:Hid (GU b=v)) (w:World):
  Calls Tryz.prog 280 #[.int .u8 b.toNat] w fun q w'=>q= .returned (.bool v)/\w'=w:=by
 have hb:((b.toNat:Int)=43∨(97<=(b.toNat:Int)/\(b.toNat:Int)<=122))↔v=true:=by
  rw[<-H.out];unfold GU;simp only[Bool.or_eq_true,beq_iff_eq,Bool.and_eq_true,decide_eq_true_eq];omega
 clear H;generalize (b.toNat:Int)=z at hb ⊢
 by_cases h43:z=43
 ·
  obtain rfl:true=v:=(hb.1 (.inl h43)).symm;subst h43;clear hb;go_enter Tryz.func280,Tryz.ntmps280
  go_wp2;go_ret;exact⟨rfl,rfl⟩
 ·
  have n43:(z==43)=false:=by rw[U0];exact h43
  by_cases h97:97<=z
  ·
   by_cases h122:z<=122
   ·
    obtain rfl:true=v:=(hb.1 (.inr ⟨h97,h122⟩)).symm;clear hb;go_enter Tryz.func280,Tryz.ntmps280
    go_wp2;go_ret;exact⟨rfl,rfl⟩
   ·
    obtain rfl:false=v:=by cases v with
     |false=>rfl
     |true=>exfalso;have:=hb.2 rfl;omega
    clear hb;go_enter Tryz.func280,Tryz.ntmps280
    go_wp2;go_ret;exact⟨rfl,rfl⟩
  ·
   obtain rfl:false=v:=by cases v with
    |false=>rfl
    |true=>exfalso;have:=hb.2 rfl;omega
   clear hb;go_enter Tryz.func280,Tryz.ntmps280
   go_wp2;go_ret;exact⟨rfl,rfl⟩
def jD (b:UInt8):Int:=if b=48∨b=49 then 0 else 3
theorem Ef (l:List UInt8):zT (l.map jD)=if l.all (fun x=>x==48||x==49)=true then 0 else 3:=by
 induction l with
 |nil=>rfl
 |cons x r ih=>
  show(if jD x=0 then zT (r.map jD)else jD x)=_
  unfold jD at ih ⊢;by_cases h:x=48∨x=49
  ·
   rw[U6 h,U6 rfl,ih,List.all_cons];rcases h with h|h<;>simp[h]
  ·
   rw[U5 h,U5 (by decide),List.all_cons];rw[not_or]at h;have h1:(x==48)=false:=by rw[U0];exact h.1
   have h2:(x==49)=false:=by rw[U0];exact h.2
   rw[h1,h2];rfl
def NS (a b c d e1 f h:UInt8):Nat->Array Value
 |0=> #[.bool false, .bool false, .bool false, .bool false, .bool false, .bool false, .bool false]
 |1=> #[.bool (a==49), .bool false, .bool false, .bool false, .bool false, .bool false, .bool false]
 |2=> #[.bool (a==49), .bool (b==49), .bool false, .bool false, .bool false, .bool false, .bool false]
 |3=> #[.bool (a==49), .bool (b==49), .bool (c==49), .bool false, .bool false, .bool false, .bool false]
 |4=> #[.bool (a==49), .bool (b==49), .bool (c==49), .bool (d==49), .bool false, .bool false, .bool false]
 |5=> #[.bool (a==49), .bool (b==49), .bool (c==49), .bool (d==49), .bool (e1==49), .bool false, .bool false]
 |6=> #[.bool (a==49), .bool (b==49), .bool (c==49), .bool (d==49), .bool (e1==49), .bool (f==49), .bool false]
 |_=> #[.bool (a==49), .bool (b==49), .bool (c==49), .bool (d==49), .bool (e1==49), .bool (f==49), .bool (h==49)]
theorem ZX {a:UInt8} {n:Nat} {k:Int} (hn:n<256) (hk:(n:Int)=k) (h:a=UInt8.ofNat n):((a.toNat:Int)==k)=true/\((a.toNat:Int) != k)=false:=by
 have:a.toNat=n:=by rw[h,UInt8.toNat_ofNat'];omega
 rw[this,hk];simp
theorem xY {a:UInt8} {n:Nat} {k:Int} (hk:(n:Int)=k) (h: ¬ a=UInt8.ofNat n):((a.toNat:Int)==k)=false/\((a.toNat:Int) != k)=true:=by
 have: ¬ a.toNat=n:=fun e=>h (by rw[<-e];simp)
 have h1: ¬ (a.toNat:Int)=k:=by omega
 exact⟨by rw[U0];exact h1,by rw[bne_iff_ne];exact h1⟩
theorem Fz (g rb:Nat) (m e E:Int) (X:PX) (a b c d e1 f h:UInt8) (r:List (List UInt8)) (H:Hid (fe e (if[a,b,c,d,e1,f,h].all (fun x=>x==48||x==49)=true then 0 else 3)=E)) (w:World) (hr:wR g rb m e X ([a,b,c,d,e1,f,h]::r) w):
  Calls Tryz.prog 112 #[.pointer (some ⟨g,0,none⟩)] w fun q w'=>q= .returned (.agg (NS a b c d e1 f h 7))/\wR g rb m E X r w'/\Gr g w w':=by
 have HR:=qA hr;have hg:=hr.glt;clear hr;have HE:Hid (([a,b,c,d,e1,f,h].map jD).foldl fe e=E):=by
  show _=_
  rw[BA,Ef,<-H.out];unfold fe;rfl
 clear H;have y0: ∀ w:World,(Instr.index 9 (qP [a,b,c,d,e1,f,h]) (.int .i64 0)).run Tryz.prog w= .ok (.int .u8 (a.toNat:Int)) w:=fun _=>by kernel_rfl
 have y1: ∀ w:World,(Instr.index 9 (qP [a,b,c,d,e1,f,h]) (.int .i64 1)).run Tryz.prog w= .ok (.int .u8 (b.toNat:Int)) w:=fun _=>by kernel_rfl
 have y2: ∀ w:World,(Instr.index 9 (qP [a,b,c,d,e1,f,h]) (.int .i64 2)).run Tryz.prog w= .ok (.int .u8 (c.toNat:Int)) w:=fun _=>by kernel_rfl
 have y3: ∀ w:World,(Instr.index 9 (qP [a,b,c,d,e1,f,h]) (.int .i64 3)).run Tryz.prog w= .ok (.int .u8 (d.toNat:Int)) w:=fun _=>by kernel_rfl
 have y4: ∀ w:World,(Instr.index 9 (qP [a,b,c,d,e1,f,h]) (.int .i64 4)).run Tryz.prog w= .ok (.int .u8 (e1.toNat:Int)) w:=fun _=>by kernel_rfl
 have y5: ∀ w:World,(Instr.index 9 (qP [a,b,c,d,e1,f,h]) (.int .i64 5)).run Tryz.prog w= .ok (.int .u8 (f.toNat:Int)) w:=fun _=>by kernel_rfl
 have y6: ∀ w:World,(Instr.index 9 (qP [a,b,c,d,e1,f,h]) (.int .i64 6)).run Tryz.prog w= .ok (.int .u8 (h.toNat:Int)) w:=fun _=>by kernel_rfl
 obtain⟨wz,hwz⟩: ∃ wz,(w.alloc (.cells #[.bool false, .bool false, .bool false, .bool false, .bool false, .bool false, .bool false] 59)).alloc (.cells #[.bool false, .bool false, .bool false, .bool false, .bool false, .bool false, .bool false] 59)=wz:=⟨_,rfl⟩;have bz:Bl w wz:=by rw[<-hwz];exact qE (qE (qB _) _) _
 have Z0:Hid (wz.heap[w.heap.size]? =some (.cells #[.bool false, .bool false, .bool false, .bool false, .bool false, .bool false, .bool false] 59 (0,0))):=by rw[<-hwz];exact qX (heap_alloc_new w _) (qE (qB _) _)
 have Z1:Hid (wz.heap[w.heap.size+1]? =some (.cells #[.bool false, .bool false, .bool false, .bool false, .bool false, .bool false, .bool false] 59 (0,0))):=by rw[<-hwz];have:=heap_alloc_new (w.alloc (.cells #[.bool false, .bool false, .bool false, .bool false, .bool false, .bool false, .bool false] 59)) (.cells #[.bool false, .bool false, .bool false, .bool false, .bool false, .bool false, .bool false] 59);simp only[World.size_alloc]at this;exact this
 have RZ:=qA (HR.out.bl bz);have GZ:Hid (Gr g w wz):=jH bz;have sz:w.heap.size+2<=wz.heap.size:=by rw[<-hwz];simp
 go_enter Tryz.func112,Tryz.ntmps112
 go_wp2_with (go_at_call 107;refine(zy g rb m e X [a,b,c,d,e1,f,h] r wz RZ.out).mono ?_)
 rintro y0 w0 ⟨rfl,r0,g0⟩;have R0:=qA r0;have G0:=qA (qJ GZ.out g0);have C0:=qA ((qg g0 (by omega) (by omega)).trans Z0.out);have C1:=qA ((qg g0 (by omega) (by omega)).trans Z1.out);have s0:w.heap.size+2<=w0.heap.size:=Ux sz g0.size;clear r0 g0 Z0 Z1 RZ GZ hwz bz;go_wp2_with fail;go_loopw [14] (fun i wr=> ∃ (k:Nat) (e':Int),(k<=7/\i= .int .i64 k)/\Hid (wR g rb m e' X r wr)/\Hid (Gr g w wr)/\Hid ((([a,b,c,d,e1,f,h].take k).map jD).foldl fe e=e')/\Hid (wr.heap[w.heap.size]? =some (.cells #[.bool false, .bool false, .bool false, .bool false, .bool false, .bool false, .bool false] 59 (0,0)))/\Hid (wr.heap[w.heap.size+1]? =some (.cells (NS a b c d e1 f h k) 59 (0,0)))) (fun i _=>7-(intOf i).toNat)
 case atStart=>exact⟨0,e,⟨by omega,rfl⟩,R0,G0,rfl,C0,C1⟩
 case round=>
  obtain⟨k,e',⟨hk,rfl⟩,HRr,HGr,HEr,HC0,HC1⟩:=hrel;clear R0 G0 C0 C1;by_cases hlt:k<7
  ·
   obtain rfl|rfl|rfl|rfl|rfl|rfl|rfl:k=0∨k=1∨k=2∨k=3∨k=4∨k=5∨k=6:=by omega
   ·
    have q0:=qC HC1.out 0 _ rfl;have fr:=U8 HC1.out 0;have S1:Hid ((wr.setCell ⟨w.heap.size+1,0,none⟩ (.bool (a==49))).heap[w.heap.size+1]? =some (.cells (NS a b c d e1 f h 1) 59 (0,0))):=qQ HC1.out 0 _;have S0:Hid ((wr.setCell ⟨w.heap.size+1,0,none⟩ (.bool (a==49))).heap[w.heap.size]? =some (.cells #[.bool false, .bool false, .bool false, .bool false, .bool false, .bool false, .bool false] 59 (0,0))):=(Below.heap_setCell _ _ _ w.heap.size (by simp)).trans HC0.out;have SR:=qA (HRr.out.far (p:=⟨w.heap.size+1,0,none⟩) (.bool (a==49)) (by show w.heap.size+1≠g;omega) (by show w.heap.size+1≠rb;have:=HR.out.lt;omega) (by show w.heap.size+1≠_;have:=HR.out.env.lt.1;omega) (by show w.heap.size+1≠_;have:=HR.out.env.lt.2;omega));have SG:Hid (Gr g w (wr.setCell ⟨w.heap.size+1,0,none⟩ (.bool (a==49)))):=zX HGr.out (by omega) 0 _;by_cases h49:a=49
    ·
     obtain⟨u1,u2⟩:=ZX (n:=49) (k:=49) (by omega) rfl h49;have HB:=qA (show jD a=0 by unfold jD;rw[U6 (.inr h49)]);have hv:(a==49)=true:=by rw[beq_iff_eq];exact h49
     rw[hv]at S0 S1 SR SG;clear HC0 HC1 HRr HGr h49;go_wp2;go_roundw;case rel=>exact⟨1,_,⟨by omega,rfl⟩,SR,SG,by show _=_;rw[<-HEr.out];show fe _ (jD a)=_;rw[HB.out,ji];rfl,S0,S1⟩
     case measure=>simp[intOf]
    ·
     obtain⟨u1,u2⟩:=xY (n:=49) (k:=49) rfl h49;have hv:(a==49)=false:=by rw[U0];exact h49
     rw[hv]at S0 S1 SR SG;by_cases h48:a=48
     ·
      obtain⟨u3,u4⟩:=ZX (n:=48) (k:=48) (by omega) rfl h48;have HB:=qA (show jD a=0 by unfold jD;rw[U6 (.inl h48)]);clear HC0 HC1 HRr HGr h49 h48;go_wp2;go_roundw;case rel=>exact⟨1,_,⟨by omega,rfl⟩,SR,SG,by show _=_;rw[<-HEr.out];show fe _ (jD a)=_;rw[HB.out,ji];rfl,S0,S1⟩
      case measure=>simp[intOf]
     ·
      obtain⟨u3,u4⟩:=xY (n:=48) (k:=48) rfl h48;have HB:=qA (show jD a=3 by unfold jD;rw[U5 (by rintro(q|q)<;>contradiction)]);clear HC0 HC1 HRr HGr h49 h48;go_wp2_with (go_at_call 186;refine(yH g rb m e' 3 (fe e' 3) rfl X r _ SR.out).mono ?_)
      rintro y2 w2 ⟨rfl,r2,g2⟩;have R2:=qA r2;have G2:=qA (qJ SG.out g2);have D0:=qA ((qg g2 (lt_of_block S0.out) (by omega)).trans S0.out);have D1:=qA ((qg g2 (lt_of_block S1.out) (by omega)).trans S1.out);clear r2 g2 S0 S1 SR SG;go_wp2;go_roundw;case rel=>exact⟨1,_,⟨by omega,rfl⟩,R2,G2,by show _=_;rw[<-HEr.out];show fe _ (jD a)=_;rw[HB.out];rfl,D0,D1⟩
      case measure=>simp[intOf]
   ·
    have q0:=qC HC1.out 1 _ rfl;have fr:=U8 HC1.out 1;have S1:Hid ((wr.setCell ⟨w.heap.size+1,1,none⟩ (.bool (b==49))).heap[w.heap.size+1]? =some (.cells (NS a b c d e1 f h 2) 59 (0,0))):=qQ HC1.out 1 _;have S0:Hid ((wr.setCell ⟨w.heap.size+1,1,none⟩ (.bool (b==49))).heap[w.heap.size]? =some (.cells #[.bool false, .bool false, .bool false, .bool false, .bool false, .bool false, .bool false] 59 (0,0))):=(Below.heap_setCell _ _ _ w.heap.size (by simp)).trans HC0.out;have SR:=qA (HRr.out.far (p:=⟨w.heap.size+1,1,none⟩) (.bool (b==49)) (by show w.heap.size+1≠g;omega) (by show w.heap.size+1≠rb;have:=HR.out.lt;omega) (by show w.heap.size+1≠_;have:=HR.out.env.lt.1;omega) (by show w.heap.size+1≠_;have:=HR.out.env.lt.2;omega));have SG:Hid (Gr g w (wr.setCell ⟨w.heap.size+1,1,none⟩ (.bool (b==49)))):=zX HGr.out (by omega) 1 _;by_cases h49:b=49
    ·
     obtain⟨u1,u2⟩:=ZX (n:=49) (k:=49) (by omega) rfl h49;have HB:=qA (show jD b=0 by unfold jD;rw[U6 (.inr h49)]);have hv:(b==49)=true:=by rw[beq_iff_eq];exact h49
     rw[hv]at S0 S1 SR SG;clear HC0 HC1 HRr HGr h49;go_wp2;go_roundw;case rel=>exact⟨2,_,⟨by omega,rfl⟩,SR,SG,by show _=_;rw[<-HEr.out];show fe _ (jD b)=_;rw[HB.out,ji];rfl,S0,S1⟩
     case measure=>simp[intOf]
    ·
     obtain⟨u1,u2⟩:=xY (n:=49) (k:=49) rfl h49;have hv:(b==49)=false:=by rw[U0];exact h49
     rw[hv]at S0 S1 SR SG;by_cases h48:b=48
     ·
      obtain⟨u3,u4⟩:=ZX (n:=48) (k:=48) (by omega) rfl h48;have HB:=qA (show jD b=0 by unfold jD;rw[U6 (.inl h48)]);clear HC0 HC1 HRr HGr h49 h48;go_wp2;go_roundw;case rel=>exact⟨2,_,⟨by omega,rfl⟩,SR,SG,by show _=_;rw[<-HEr.out];show fe _ (jD b)=_;rw[HB.out,ji];rfl,S0,S1⟩
      case measure=>simp[intOf]
     ·
      obtain⟨u3,u4⟩:=xY (n:=48) (k:=48) rfl h48;have HB:=qA (show jD b=3 by unfold jD;rw[U5 (by rintro(q|q)<;>contradiction)]);clear HC0 HC1 HRr HGr h49 h48;go_wp2_with (go_at_call 186;refine(yH g rb m e' 3 (fe e' 3) rfl X r _ SR.out).mono ?_)
      rintro y2 w2 ⟨rfl,r2,g2⟩;have R2:=qA r2;have G2:=qA (qJ SG.out g2);have D0:=qA ((qg g2 (lt_of_block S0.out) (by omega)).trans S0.out);have D1:=qA ((qg g2 (lt_of_block S1.out) (by omega)).trans S1.out);clear r2 g2 S0 S1 SR SG;go_wp2;go_roundw;case rel=>exact⟨2,_,⟨by omega,rfl⟩,R2,G2,by show _=_;rw[<-HEr.out];show fe _ (jD b)=_;rw[HB.out];rfl,D0,D1⟩
      case measure=>simp[intOf]
   ·
    have q0:=qC HC1.out 2 _ rfl;have fr:=U8 HC1.out 2;have S1:Hid ((wr.setCell ⟨w.heap.size+1,2,none⟩ (.bool (c==49))).heap[w.heap.size+1]? =some (.cells (NS a b c d e1 f h 3) 59 (0,0))):=qQ HC1.out 2 _;have S0:Hid ((wr.setCell ⟨w.heap.size+1,2,none⟩ (.bool (c==49))).heap[w.heap.size]? =some (.cells #[.bool false, .bool false, .bool false, .bool false, .bool false, .bool false, .bool false] 59 (0,0))):=(Below.heap_setCell _ _ _ w.heap.size (by simp)).trans HC0.out;have SR:=qA (HRr.out.far (p:=⟨w.heap.size+1,2,none⟩) (.bool (c==49)) (by show w.heap.size+1≠g;omega) (by show w.heap.size+1≠rb;have:=HR.out.lt;omega) (by show w.heap.size+1≠_;have:=HR.out.env.lt.1;omega) (by show w.heap.size+1≠_;have:=HR.out.env.lt.2;omega));have SG:Hid (Gr g w (wr.setCell ⟨w.heap.size+1,2,none⟩ (.bool (c==49)))):=zX HGr.out (by omega) 2 _;by_cases h49:c=49
    ·
     obtain⟨u1,u2⟩:=ZX (n:=49) (k:=49) (by omega) rfl h49;have HB:=qA (show jD c=0 by unfold jD;rw[U6 (.inr h49)]);have hv:(c==49)=true:=by rw[beq_iff_eq];exact h49
     rw[hv]at S0 S1 SR SG;clear HC0 HC1 HRr HGr h49;go_wp2;go_roundw;case rel=>exact⟨3,_,⟨by omega,rfl⟩,SR,SG,by show _=_;rw[<-HEr.out];show fe _ (jD c)=_;rw[HB.out,ji];rfl,S0,S1⟩
     case measure=>simp[intOf]
    ·
     obtain⟨u1,u2⟩:=xY (n:=49) (k:=49) rfl h49;have hv:(c==49)=false:=by rw[U0];exact h49
     rw[hv]at S0 S1 SR SG;by_cases h48:c=48
     ·
      obtain⟨u3,u4⟩:=ZX (n:=48) (k:=48) (by omega) rfl h48;have HB:=qA (show jD c=0 by unfold jD;rw[U6 (.inl h48)]);clear HC0 HC1 HRr HGr h49 h48;go_wp2;go_roundw;case rel=>exact⟨3,_,⟨by omega,rfl⟩,SR,SG,by show _=_;rw[<-HEr.out];show fe _ (jD c)=_;rw[HB.out,ji];rfl,S0,S1⟩
      case measure=>simp[intOf]
     ·
      obtain⟨u3,u4⟩:=xY (n:=48) (k:=48) rfl h48;have HB:=qA (show jD c=3 by unfold jD;rw[U5 (by rintro(q|q)<;>contradiction)]);clear HC0 HC1 HRr HGr h49 h48;go_wp2_with (go_at_call 186;refine(yH g rb m e' 3 (fe e' 3) rfl X r _ SR.out).mono ?_)
      rintro y2 w2 ⟨rfl,r2,g2⟩;have R2:=qA r2;have G2:=qA (qJ SG.out g2);have D0:=qA ((qg g2 (lt_of_block S0.out) (by omega)).trans S0.out);have D1:=qA ((qg g2 (lt_of_block S1.out) (by omega)).trans S1.out);clear r2 g2 S0 S1 SR SG;go_wp2;go_roundw;case rel=>exact⟨3,_,⟨by omega,rfl⟩,R2,G2,by show _=_;rw[<-HEr.out];show fe _ (jD c)=_;rw[HB.out];rfl,D0,D1⟩
      case measure=>simp[intOf]
   ·
    have q0:=qC HC1.out 3 _ rfl;have fr:=U8 HC1.out 3;have S1:Hid ((wr.setCell ⟨w.heap.size+1,3,none⟩ (.bool (d==49))).heap[w.heap.size+1]? =some (.cells (NS a b c d e1 f h 4) 59 (0,0))):=qQ HC1.out 3 _;have S0:Hid ((wr.setCell ⟨w.heap.size+1,3,none⟩ (.bool (d==49))).heap[w.heap.size]? =some (.cells #[.bool false, .bool false, .bool false, .bool false, .bool false, .bool false, .bool false] 59 (0,0))):=(Below.heap_setCell _ _ _ w.heap.size (by simp)).trans HC0.out;have SR:=qA (HRr.out.far (p:=⟨w.heap.size+1,3,none⟩) (.bool (d==49)) (by show w.heap.size+1≠g;omega) (by show w.heap.size+1≠rb;have:=HR.out.lt;omega) (by show w.heap.size+1≠_;have:=HR.out.env.lt.1;omega) (by show w.heap.size+1≠_;have:=HR.out.env.lt.2;omega));have SG:Hid (Gr g w (wr.setCell ⟨w.heap.size+1,3,none⟩ (.bool (d==49)))):=zX HGr.out (by omega) 3 _;by_cases h49:d=49
    ·
     obtain⟨u1,u2⟩:=ZX (n:=49) (k:=49) (by omega) rfl h49;have HB:=qA (show jD d=0 by unfold jD;rw[U6 (.inr h49)]);have hv:(d==49)=true:=by rw[beq_iff_eq];exact h49
     rw[hv]at S0 S1 SR SG;clear HC0 HC1 HRr HGr h49;go_wp2;go_roundw;case rel=>exact⟨4,_,⟨by omega,rfl⟩,SR,SG,by show _=_;rw[<-HEr.out];show fe _ (jD d)=_;rw[HB.out,ji];rfl,S0,S1⟩
     case measure=>simp[intOf]
    ·
     obtain⟨u1,u2⟩:=xY (n:=49) (k:=49) rfl h49;have hv:(d==49)=false:=by rw[U0];exact h49
     rw[hv]at S0 S1 SR SG;by_cases h48:d=48
     ·
      obtain⟨u3,u4⟩:=ZX (n:=48) (k:=48) (by omega) rfl h48;have HB:=qA (show jD d=0 by unfold jD;rw[U6 (.inl h48)]);clear HC0 HC1 HRr HGr h49 h48;go_wp2;go_roundw;case rel=>exact⟨4,_,⟨by omega,rfl⟩,SR,SG,by show _=_;rw[<-HEr.out];show fe _ (jD d)=_;rw[HB.out,ji];rfl,S0,S1⟩
      case measure=>simp[intOf]
     ·
      obtain⟨u3,u4⟩:=xY (n:=48) (k:=48) rfl h48;have HB:=qA (show jD d=3 by unfold jD;rw[U5 (by rintro(q|q)<;>contradiction)]);clear HC0 HC1 HRr HGr h49 h48;go_wp2_with (go_at_call 186;refine(yH g rb m e' 3 (fe e' 3) rfl X r _ SR.out).mono ?_)
      rintro y2 w2 ⟨rfl,r2,g2⟩;have R2:=qA r2;have G2:=qA (qJ SG.out g2);have D0:=qA ((qg g2 (lt_of_block S0.out) (by omega)).trans S0.out);have D1:=qA ((qg g2 (lt_of_block S1.out) (by omega)).trans S1.out);clear r2 g2 S0 S1 SR SG;go_wp2;go_roundw;case rel=>exact⟨4,_,⟨by omega,rfl⟩,R2,G2,by show _=_;rw[<-HEr.out];show fe _ (jD d)=_;rw[HB.out];rfl,D0,D1⟩
      case measure=>simp[intOf]
   ·
    have q0:=qC HC1.out 4 _ rfl;have fr:=U8 HC1.out 4;have S1:Hid ((wr.setCell ⟨w.heap.size+1,4,none⟩ (.bool (e1==49))).heap[w.heap.size+1]? =some (.cells (NS a b c d e1 f h 5) 59 (0,0))):=qQ HC1.out 4 _;have S0:Hid ((wr.setCell ⟨w.heap.size+1,4,none⟩ (.bool (e1==49))).heap[w.heap.size]? =some (.cells #[.bool false, .bool false, .bool false, .bool false, .bool false, .bool false, .bool false] 59 (0,0))):=(Below.heap_setCell _ _ _ w.heap.size (by simp)).trans HC0.out;have SR:=qA (HRr.out.far (p:=⟨w.heap.size+1,4,none⟩) (.bool (e1==49)) (by show w.heap.size+1≠g;omega) (by show w.heap.size+1≠rb;have:=HR.out.lt;omega) (by show w.heap.size+1≠_;have:=HR.out.env.lt.1;omega) (by show w.heap.size+1≠_;have:=HR.out.env.lt.2;omega));have SG:Hid (Gr g w (wr.setCell ⟨w.heap.size+1,4,none⟩ (.bool (e1==49)))):=zX HGr.out (by omega) 4 _;by_cases h49:e1=49
    ·
     obtain⟨u1,u2⟩:=ZX (n:=49) (k:=49) (by omega) rfl h49;have HB:=qA (show jD e1=0 by unfold jD;rw[U6 (.inr h49)]);have hv:(e1==49)=true:=by rw[beq_iff_eq];exact h49
     rw[hv]at S0 S1 SR SG;clear HC0 HC1 HRr HGr h49;go_wp2;go_roundw;case rel=>exact⟨5,_,⟨by omega,rfl⟩,SR,SG,by show _=_;rw[<-HEr.out];show fe _ (jD e1)=_;rw[HB.out,ji];rfl,S0,S1⟩
     case measure=>simp[intOf]
    ·
     obtain⟨u1,u2⟩:=xY (n:=49) (k:=49) rfl h49;have hv:(e1==49)=false:=by rw[U0];exact h49
     rw[hv]at S0 S1 SR SG;by_cases h48:e1=48
     ·
      obtain⟨u3,u4⟩:=ZX (n:=48) (k:=48) (by omega) rfl h48;have HB:=qA (show jD e1=0 by unfold jD;rw[U6 (.inl h48)]);clear HC0 HC1 HRr HGr h49 h48;go_wp2;go_roundw;case rel=>exact⟨5,_,⟨by omega,rfl⟩,SR,SG,by show _=_;rw[<-HEr.out];show fe _ (jD e1)=_;rw[HB.out,ji];rfl,S0,S1⟩
      case measure=>simp[intOf]
     ·
      obtain⟨u3,u4⟩:=xY (n:=48) (k:=48) rfl h48;have HB:=qA (show jD e1=3 by unfold jD;rw[U5 (by rintro(q|q)<;>contradiction)]);clear HC0 HC1 HRr HGr h49 h48;go_wp2_with (go_at_call 186;refine(yH g rb m e' 3 (fe e' 3) rfl X r _ SR.out).mono ?_)
      rintro y2 w2 ⟨rfl,r2,g2⟩;have R2:=qA r2;have G2:=qA (qJ SG.out g2);have D0:=qA ((qg g2 (lt_of_block S0.out) (by omega)).trans S0.out);have D1:=qA ((qg g2 (lt_of_block S1.out) (by omega)).trans S1.out);clear r2 g2 S0 S1 SR SG;go_wp2;go_roundw;case rel=>exact⟨5,_,⟨by omega,rfl⟩,R2,G2,by show _=_;rw[<-HEr.out];show fe _ (jD e1)=_;rw[HB.out];rfl,D0,D1⟩
      case measure=>simp[intOf]
   ·
    have q0:=qC HC1.out 5 _ rfl;have fr:=U8 HC1.out 5;have S1:Hid ((wr.setCell ⟨w.heap.size+1,5,none⟩ (.bool (f==49))).heap[w.heap.size+1]? =some (.cells (NS a b c d e1 f h 6) 59 (0,0))):=qQ HC1.out 5 _;have S0:Hid ((wr.setCell ⟨w.heap.size+1,5,none⟩ (.bool (f==49))).heap[w.heap.size]? =some (.cells #[.bool false, .bool false, .bool false, .bool false, .bool false, .bool false, .bool false] 59 (0,0))):=(Below.heap_setCell _ _ _ w.heap.size (by simp)).trans HC0.out;have SR:=qA (HRr.out.far (p:=⟨w.heap.size+1,5,none⟩) (.bool (f==49)) (by show w.heap.size+1≠g;omega) (by show w.heap.size+1≠rb;have:=HR.out.lt;omega) (by show w.heap.size+1≠_;have:=HR.out.env.lt.1;omega) (by show w.heap.size+1≠_;have:=HR.out.env.lt.2;omega));have SG:Hid (Gr g w (wr.setCell ⟨w.heap.size+1,5,none⟩ (.bool (f==49)))):=zX HGr.out (by omega) 5 _;by_cases h49:f=49
    ·
     obtain⟨u1,u2⟩:=ZX (n:=49) (k:=49) (by omega) rfl h49;have HB:=qA (show jD f=0 by unfold jD;rw[U6 (.inr h49)]);have hv:(f==49)=true:=by rw[beq_iff_eq];exact h49
     rw[hv]at S0 S1 SR SG;clear HC0 HC1 HRr HGr h49;go_wp2;go_roundw;case rel=>exact⟨6,_,⟨by omega,rfl⟩,SR,SG,by show _=_;rw[<-HEr.out];show fe _ (jD f)=_;rw[HB.out,ji];rfl,S0,S1⟩
     case measure=>simp[intOf]
    ·
     obtain⟨u1,u2⟩:=xY (n:=49) (k:=49) rfl h49;have hv:(f==49)=false:=by rw[U0];exact h49
     rw[hv]at S0 S1 SR SG;by_cases h48:f=48
     ·
      obtain⟨u3,u4⟩:=ZX (n:=48) (k:=48) (by omega) rfl h48;have HB:=qA (show jD f=0 by unfold jD;rw[U6 (.inl h48)]);clear HC0 HC1 HRr HGr h49 h48;go_wp2;go_roundw;case rel=>exact⟨6,_,⟨by omega,rfl⟩,SR,SG,by show _=_;rw[<-HEr.out];show fe _ (jD f)=_;rw[HB.out,ji];rfl,S0,S1⟩
      case measure=>simp[intOf]
     ·
      obtain⟨u3,u4⟩:=xY (n:=48) (k:=48) rfl h48;have HB:=qA (show jD f=3 by unfold jD;rw[U5 (by rintro(q|q)<;>contradiction)]);clear HC0 HC1 HRr HGr h49 h48;go_wp2_with (go_at_call 186;refine(yH g rb m e' 3 (fe e' 3) rfl X r _ SR.out).mono ?_)
      rintro y2 w2 ⟨rfl,r2,g2⟩;have R2:=qA r2;have G2:=qA (qJ SG.out g2);have D0:=qA ((qg g2 (lt_of_block S0.out) (by omega)).trans S0.out);have D1:=qA ((qg g2 (lt_of_block S1.out) (by omega)).trans S1.out);clear r2 g2 S0 S1 SR SG;go_wp2;go_roundw;case rel=>exact⟨6,_,⟨by omega,rfl⟩,R2,G2,by show _=_;rw[<-HEr.out];show fe _ (jD f)=_;rw[HB.out];rfl,D0,D1⟩
      case measure=>simp[intOf]
   ·
    have q0:=qC HC1.out 6 _ rfl;have fr:=U8 HC1.out 6;have S1:Hid ((wr.setCell ⟨w.heap.size+1,6,none⟩ (.bool (h==49))).heap[w.heap.size+1]? =some (.cells (NS a b c d e1 f h 7) 59 (0,0))):=qQ HC1.out 6 _;have S0:Hid ((wr.setCell ⟨w.heap.size+1,6,none⟩ (.bool (h==49))).heap[w.heap.size]? =some (.cells #[.bool false, .bool false, .bool false, .bool false, .bool false, .bool false, .bool false] 59 (0,0))):=(Below.heap_setCell _ _ _ w.heap.size (by simp)).trans HC0.out;have SR:=qA (HRr.out.far (p:=⟨w.heap.size+1,6,none⟩) (.bool (h==49)) (by show w.heap.size+1≠g;omega) (by show w.heap.size+1≠rb;have:=HR.out.lt;omega) (by show w.heap.size+1≠_;have:=HR.out.env.lt.1;omega) (by show w.heap.size+1≠_;have:=HR.out.env.lt.2;omega));have SG:Hid (Gr g w (wr.setCell ⟨w.heap.size+1,6,none⟩ (.bool (h==49)))):=zX HGr.out (by omega) 6 _;by_cases h49:h=49
    ·
     obtain⟨u1,u2⟩:=ZX (n:=49) (k:=49) (by omega) rfl h49;have HB:=qA (show jD h=0 by unfold jD;rw[U6 (.inr h49)]);have hv:(h==49)=true:=by rw[beq_iff_eq];exact h49
     rw[hv]at S0 S1 SR SG;clear HC0 HC1 HRr HGr h49;go_wp2;go_roundw;case rel=>exact⟨7,_,⟨by omega,rfl⟩,SR,SG,by show _=_;rw[<-HEr.out];show fe _ (jD h)=_;rw[HB.out,ji];rfl,S0,S1⟩
     case measure=>simp[intOf]
    ·
     obtain⟨u1,u2⟩:=xY (n:=49) (k:=49) rfl h49;have hv:(h==49)=false:=by rw[U0];exact h49
     rw[hv]at S0 S1 SR SG;by_cases h48:h=48
     ·
      obtain⟨u3,u4⟩:=ZX (n:=48) (k:=48) (by omega) rfl h48;have HB:=qA (show jD h=0 by unfold jD;rw[U6 (.inl h48)]);clear HC0 HC1 HRr HGr h49 h48;go_wp2;go_roundw;case rel=>exact⟨7,_,⟨by omega,rfl⟩,SR,SG,by show _=_;rw[<-HEr.out];show fe _ (jD h)=_;rw[HB.out,ji];rfl,S0,S1⟩
      case measure=>simp[intOf]
     ·
      obtain⟨u3,u4⟩:=xY (n:=48) (k:=48) rfl h48;have HB:=qA (show jD h=3 by unfold jD;rw[U5 (by rintro(q|q)<;>contradiction)]);clear HC0 HC1 HRr HGr h49 h48;go_wp2_with (go_at_call 186;refine(yH g rb m e' 3 (fe e' 3) rfl X r _ SR.out).mono ?_)
      rintro y2 w2 ⟨rfl,r2,g2⟩;have R2:=qA r2;have G2:=qA (qJ SG.out g2);have D0:=qA ((qg g2 (lt_of_block S0.out) (by omega)).trans S0.out);have D1:=qA ((qg g2 (lt_of_block S1.out) (by omega)).trans S1.out);clear r2 g2 S0 S1 SR SG;go_wp2;go_roundw;case rel=>exact⟨7,_,⟨by omega,rfl⟩,R2,G2,by show _=_;rw[<-HEr.out];show fe _ (jD h)=_;rw[HB.out];rfl,D0,D1⟩
      case measure=>simp[intOf]
  ·
   obtain rfl:k=7:=by omega
   have HF:=qA (show e'=E by rw[<-HEr.out,<-HE.out];rfl);have q0:wr.cell? ⟨w.heap.size+1,0,none⟩=some (.bool (a==49)):=qC HC1.out 0 _ rfl;have p0:wr.cell? ⟨w.heap.size,0,none⟩=some (.bool false):=qC HC0.out 0 _ rfl;have fr0:=U8 HC0.out 0;have q1:wr.cell? ⟨w.heap.size+1,1,none⟩=some (.bool (b==49)):=qC HC1.out 1 _ rfl;have p1:wr.cell? ⟨w.heap.size,1,none⟩=some (.bool false):=qC HC0.out 1 _ rfl;have fr1:=U8 HC0.out 1;have q2:wr.cell? ⟨w.heap.size+1,2,none⟩=some (.bool (c==49)):=qC HC1.out 2 _ rfl;have p2:wr.cell? ⟨w.heap.size,2,none⟩=some (.bool false):=qC HC0.out 2 _ rfl;have fr2:=U8 HC0.out 2;have q3:wr.cell? ⟨w.heap.size+1,3,none⟩=some (.bool (d==49)):=qC HC1.out 3 _ rfl;have p3:wr.cell? ⟨w.heap.size,3,none⟩=some (.bool false):=qC HC0.out 3 _ rfl;have fr3:=U8 HC0.out 3;have q4:wr.cell? ⟨w.heap.size+1,4,none⟩=some (.bool (e1==49)):=qC HC1.out 4 _ rfl;have p4:wr.cell? ⟨w.heap.size,4,none⟩=some (.bool false):=qC HC0.out 4 _ rfl;have fr4:=U8 HC0.out 4;have q5:wr.cell? ⟨w.heap.size+1,5,none⟩=some (.bool (f==49)):=qC HC1.out 5 _ rfl;have p5:wr.cell? ⟨w.heap.size,5,none⟩=some (.bool false):=qC HC0.out 5 _ rfl;have fr5:=U8 HC0.out 5;have q6:wr.cell? ⟨w.heap.size+1,6,none⟩=some (.bool (h==49)):=qC HC1.out 6 _ rfl;have p6:wr.cell? ⟨w.heap.size,6,none⟩=some (.bool false):=qC HC0.out 6 _ rfl;have fr6:=U8 HC0.out 6;have d1:w.heap.size≠g:=by omega
   have d2:w.heap.size≠rb:=by have:=HR.out.lt;omega
   have d3:w.heap.size≠1:=by have:=HR.out.env.lt.1;omega
   have d4:w.heap.size≠0:=by have:=HR.out.env.lt.2;omega
   go_wp2;rw[<-HF.out];refine bodyPost_ret (results_cell_row rfl _ _ w.heap.size 59 #[.bool (a==49), .bool (b==49), .bool (c==49), .bool (d==49), .bool (e1==49), .bool (f==49), .bool (h==49)] (0,0) _ rfl (qQ (qQ (qQ (qQ (qQ (qQ (qQ HC0.out 0 _) 1 _) 2 _) 3 _) 4 _) 5 _) 6 _) Tryz.underlying59 rfl (by kernel_rfl)) rfl ?_;exact⟨rfl,(((((((HRr.out.far (p:=⟨w.heap.size,0,none⟩) _ d1 d2 d3 d4).far (p:=⟨w.heap.size,1,none⟩) _ d1 d2 d3 d4).far (p:=⟨w.heap.size,2,none⟩) _ d1 d2 d3 d4).far (p:=⟨w.heap.size,3,none⟩) _ d1 d2 d3 d4).far (p:=⟨w.heap.size,4,none⟩) _ d1 d2 d3 d4).far (p:=⟨w.heap.size,5,none⟩) _ d1 d2 d3 d4).far (p:=⟨w.heap.size,6,none⟩) _ d1 d2 d3 d4),(zX (zX (zX (zX (zX (zX (zX HGr.out (U3 _) 0 _) (U3 _) 1 _) (U3 _) 2 _) (U3 _) 3 _) (U3 _) 4 _) (U3 _) 5 _) (U3 _) 6 _)⟩
theorem F5 (g rb:Nat) (m e E:Int) (X:PX) (x:List UInt8) (hx:x.length≠7) (r:List (List UInt8)) (H:Hid (fe e 3=E)) (w:World) (hr:wR g rb m e X (x::r) w):
  Calls Tryz.prog 112 #[.pointer (some ⟨g,0,none⟩)] w fun q w'=>q= .returned (.agg #[.bool false, .bool false, .bool false, .bool false, .bool false, .bool false, .bool false])/\wR g rb m E X r w'/\Gr g w w':=by
 have HR:=qA hr;have hg:=hr.glt;clear hr;have hxi:((x.length:Int) != 7)=true:=by rw[bne_iff_ne];omega
 obtain⟨wz,hwz⟩: ∃ wz,(w.alloc (.cells #[.bool false, .bool false, .bool false, .bool false, .bool false, .bool false, .bool false] 59)).alloc (.cells #[.bool false, .bool false, .bool false, .bool false, .bool false, .bool false, .bool false] 59)=wz:=⟨_,rfl⟩;have bz:Bl w wz:=by rw[<-hwz];exact qE (qE (qB _) _) _
 have Z0:Hid (wz.heap[w.heap.size]? =some (.cells #[.bool false, .bool false, .bool false, .bool false, .bool false, .bool false, .bool false] 59 (0,0))):=by rw[<-hwz];exact qX (heap_alloc_new w _) (qE (qB _) _)
 have Z1:Hid (wz.heap[w.heap.size+1]? =some (.cells #[.bool false, .bool false, .bool false, .bool false, .bool false, .bool false, .bool false] 59 (0,0))):=by rw[<-hwz];have:=heap_alloc_new (w.alloc (.cells #[.bool false, .bool false, .bool false, .bool false, .bool false, .bool false, .bool false] 59)) (.cells #[.bool false, .bool false, .bool false, .bool false, .bool false, .bool false, .bool false] 59);simp only[World.size_alloc]at this;exact this
 have RZ:=qA (HR.out.bl bz);have GZ:Hid (Gr g w wz):=jH bz;have sz:w.heap.size+2<=wz.heap.size:=by rw[<-hwz];simp
 go_enter Tryz.func112,Tryz.ntmps112
 go_wp2_with (go_at_call 107;refine(zy g rb m e X x r wz RZ.out).mono ?_)
 rintro y0 w0 ⟨rfl,r0,g0⟩;have R0:=qA r0;have G0:=qA (qJ GZ.out g0);have C0:=qA ((qg g0 (by omega) (by omega)).trans Z0.out);have C1:=qA ((qg g0 (by omega) (by omega)).trans Z1.out);have s0:w.heap.size+2<=w0.heap.size:=Ux sz g0.size;clear r0 g0 Z0 Z1 RZ GZ hwz bz;go_wp2_with (go_at_call 186;refine(yH g rb m e 3 E H X r w0 R0.out).mono ?_)
 rintro y2 w2 ⟨rfl,r2,g2⟩;have R2:=qA r2;have G2:=qA (qJ G0.out g2);have D0:=qA ((qg g2 (by omega) (by omega)).trans C0.out);have D1:=qA ((qg g2 (by omega) (by omega)).trans C1.out);clear r2 g2 C0 C1 R0 G0;have q0:w2.cell? ⟨w.heap.size+1,0,none⟩=some (.bool false):=qC D1.out 0 _ rfl;have p0:w2.cell? ⟨w.heap.size,0,none⟩=some (.bool false):=qC D0.out 0 _ rfl;have fr0:=U8 D0.out 0;have q1:w2.cell? ⟨w.heap.size+1,1,none⟩=some (.bool false):=qC D1.out 1 _ rfl;have p1:w2.cell? ⟨w.heap.size,1,none⟩=some (.bool false):=qC D0.out 1 _ rfl;have fr1:=U8 D0.out 1;have q2:w2.cell? ⟨w.heap.size+1,2,none⟩=some (.bool false):=qC D1.out 2 _ rfl;have p2:w2.cell? ⟨w.heap.size,2,none⟩=some (.bool false):=qC D0.out 2 _ rfl;have fr2:=U8 D0.out 2;have q3:w2.cell? ⟨w.heap.size+1,3,none⟩=some (.bool false):=qC D1.out 3 _ rfl;have p3:w2.cell? ⟨w.heap.size,3,none⟩=some (.bool false):=qC D0.out 3 _ rfl;have fr3:=U8 D0.out 3;have q4:w2.cell? ⟨w.heap.size+1,4,none⟩=some (.bool false):=qC D1.out 4 _ rfl;have p4:w2.cell? ⟨w.heap.size,4,none⟩=some (.bool false):=qC D0.out 4 _ rfl;have fr4:=U8 D0.out 4;have q5:w2.cell? ⟨w.heap.size+1,5,none⟩=some (.bool false):=qC D1.out 5 _ rfl;have p5:w2.cell? ⟨w.heap.size,5,none⟩=some (.bool false):=qC D0.out 5 _ rfl;have fr5:=U8 D0.out 5;have q6:w2.cell? ⟨w.heap.size+1,6,none⟩=some (.bool false):=qC D1.out 6 _ rfl;have p6:w2.cell? ⟨w.heap.size,6,none⟩=some (.bool false):=qC D0.out 6 _ rfl;have fr6:=U8 D0.out 6;have d1:w.heap.size≠g:=by omega
 have d2:w.heap.size≠rb:=by have:=HR.out.lt;omega
 have d3:w.heap.size≠1:=by have:=HR.out.env.lt.1;omega
 have d4:w.heap.size≠0:=by have:=HR.out.env.lt.2;omega
 go_wp2;refine bodyPost_ret (results_cell_row rfl _ _ w.heap.size 59 #[.bool false, .bool false, .bool false, .bool false, .bool false, .bool false, .bool false] (0,0) _ rfl (qQ (qQ (qQ (qQ (qQ (qQ (qQ D0.out 0 _) 1 _) 2 _) 3 _) 4 _) 5 _) 6 _) Tryz.underlying59 rfl (by kernel_rfl)) rfl ?_;exact⟨rfl,(((((((R2.out.far (p:=⟨w.heap.size,0,none⟩) _ d1 d2 d3 d4).far (p:=⟨w.heap.size,1,none⟩) _ d1 d2 d3 d4).far (p:=⟨w.heap.size,2,none⟩) _ d1 d2 d3 d4).far (p:=⟨w.heap.size,3,none⟩) _ d1 d2 d3 d4).far (p:=⟨w.heap.size,4,none⟩) _ d1 d2 d3 d4).far (p:=⟨w.heap.size,5,none⟩) _ d1 d2 d3 d4).far (p:=⟨w.heap.size,6,none⟩) _ d1 d2 d3 d4),(zX (zX (zX (zX (zX (zX (zX G2.out (U3 _) 0 _) (U3 _) 1 _) (U3 _) 2 _) (U3 _) 3 _) (U3 _) 4 _) (U3 _) 5 _) (U3 _) 6 _)⟩
theorem BD (g rb:Nat) (m e e2 E:Int) (wk:Vw) (X:PX) (x:List UInt8) (r:List (List UInt8)) (HX:Hid (JR x=(wk,e2))) (H:Hid (fe e e2=E)) (w:World) (hr:wR g rb m e X (x::r) w):
  Calls Tryz.prog 112 #[.pointer (some ⟨g,0,none⟩)] w fun q w'=>q= .returned (.agg #[.bool wk.d0, .bool wk.d1, .bool wk.d2, .bool wk.d3, .bool wk.d4, .bool wk.d5, .bool wk.d6])/\wR g rb m E X r w'/\Gr g w w':=by
 by_cases h7:x.length=7
 ·
  obtain⟨a,b,c,d,e1,f,h,rfl⟩: ∃ a b c d e1 f h,x=[a,b,c,d,e1,f,h]:=by
   match x,h7 with
   |[a,b,c,d,e1,f,h],_=>exact⟨a,b,c,d,e1,f,h,rfl⟩
  have h1:=HX.out;unfold JR at h1;simp only[qAF]at h1;obtain⟨rfl,rfl⟩:=h1;exact Fz g rb m e E X a b c d e1 f h r H w hr
 ·
  have h1:JR x=(⟨false,false,false,false,false,false,false⟩,3):=by
   unfold JR;split
   · exact absurd rfl h7
   · rfl
  rw[h1]at HX;obtain⟨rfl,rfl⟩:=qAE HX.out;exact F5 g rb m e E X x h7 r H w hr
theorem mM (s:ByteArray) (i j:Nat):(s.extract i j).data.toList=(s.data.toList.drop i).take (j-i):=yC s i j
theorem sJ (l:List UInt8) {a k:Nat} (h1:a<=k) (h2:k<l.length):l.drop a=(l.drop a).take (k-a)++l[k]::l.drop (k+1):=by
 have e:=List.take_append_drop (k-a) (l.drop a);rw[List.drop_drop,show a+(k-a)=k by omega,List.drop_eq_getElem_cons h2]at e;exact e.symm
theorem IP (l:List UInt8) {a k:Nat} (h2:k=l.length):(l.drop a).take (k-a)=l.drop a:=U9 (by rw[List.length_drop];omega)
theorem EQ (l:List UInt8) {a k:Nat} (h1:a<=k) (h2:k<l.length):(l.drop a).take (k+1-a)=(l.drop a).take (k-a)++[l[k]]:=by
 rw[show k+1-a=(k-a)+1 by omega,List.take_add_one,List.getElem?_drop,show a+(k-a)=k by omega,U2 h2];rfl
def W9 (l:List UInt8) (R:Option Nat) (acc a k:Nat):Prop:=
 acc<256/\((a<=k/\k<=l.length/\(43:UInt8)∉(l.drop a).take (k-a)/\wG acc (zK 43 (l.drop a))=R)∨(k=l.length+1/\a=l.length+1/\R=some acc))
theorem Ou: ∀ a:Fin 256,∀ m:Fin 8,bits .or .i64 ((a.val:Nat):Int) ((2:Int) ^ m.val)=((a.val|||1<<<m.val:Nat):Int):=by decide+kernel
theorem Nk {a m:Nat} (ha:a<256) (hm:m<8):bits .or .i64 (a:Int) ((2:Int) ^ m)=((a|||1<<<m:Nat):Int):=Ou ⟨a,ha⟩ ⟨m,hm⟩
theorem rJ: ∀ m:Fin 8,IntKind.i64.wrap ((2:Int) ^ m.val)=(2:Int) ^ m.val:=by decide+kernel
theorem WQ (s:ByteArray):s.toList=s.data.toList:=by rw[ByteArray.toList_eq]
theorem He (s:ByteArray) (hs:s.size<=131072) (n e:Int) (H:Hid (QR s.data.toList=(n,e))) (w:World) (nm:yS w):
  Calls Tryz.prog 250 #[.string s] w fun q w'=>q= .returned (.tuple #[.int .i64 n, .int .i64 e])/\w'=w:=by
 by_cases h0:s.toList=[110,111,110,101]
 ·
  have hb0:(s.toList==[110,111,110,101])=true:=by rw[beq_iff_eq];exact h0
  have HF:=qA (show((0:Int),(0:Int))=(n,e) by rw[<-H.out,show s.data.toList=ae from(WQ s).symm.trans h0];rfl);obtain⟨e1,e2⟩:=qAE HF.out;clear H HF h0;subst e1 e2;go_enter Tryz.func250,Tryz.ntmps250
  go_wp2;go_step3
  go_wp2;rw[Exit.noGoto_ret];go_ret2;exact⟨rfl,rfl⟩
 ·
  have hb0:(s.toList==[110,111,110,101])=false:=by rw[U0];exact h0
  have hl:=yB s;obtain⟨R,hR⟩: ∃ R,wG 0 (zK 43 s.data.toList)=R:=⟨_,rfl⟩;have HR:Hid (uG R=(n,e)):=by
   show _=_
   rw[<-hR,<-gu (fun k=>h0 ((WQ s).trans k))];exact H.out
  have HS:Hid (W9 s.data.toList R 0 0 0):=⟨by omega, .inl ⟨U3 _,qAD _,by simp,hR⟩⟩;have NM:=qA nm;clear H hR h0 nm;go_enter Tryz.func250,Tryz.ntmps250
  go_wp2_with fail;go_step3
  go_wp2_with fail;go_step3
  go_wp2_with fail;go_loop [4,5,6] (fun sm sa si=> ∃ acc a k:Nat,sm= .int .i64 acc/\sa= .int .i64 a/\si= .int .i64 k/\k<=s.size+1/\Hid (W9 s.data.toList R acc a k)) (fun _ _ i=>s.size+2-(intOf i).toNat)
  case atStart=>exact⟨0,0,0,rfl,rfl,rfl,by omega,HS⟩
  case round=>
   obtain⟨acc,a,k,rfl,rfl,rfl,hk,HK⟩:=hrel;rcases HK.out with⟨h256,⟨hak,hks,hno,hmf⟩|⟨hk1,ha1,hRR⟩⟩
   ·
    by_cases hlt:k<s.size
    ·
     have hb:s.data.toList[k]'(by omega)=s[k]'hlt:=qw s k hlt;have HSP:=qA (sJ s.data.toList hak (by omega:k<s.data.toList.length));obtain⟨v,hv⟩: ∃ v,GU (s[k]'hlt)=v:=⟨_,rfl⟩;have HV:=qA hv;have HNO:=qA hno;have HMF:=qA hmf;have HB:=qA hb;have haS:a<=s.size:=by omega
     clear hno hmf hv hb hks;cases v with
     |false=>
      have HRN:=qA (show R=none by rw[<-HMF.out,HSP.out];exact uF HNO.out (by rw[HB.out];exact HV.out));have HE:Hid (((0:Int),(3:Int))=(n,e)):=by show _=_;rw[<-HR.out,HRN.out];rfl
      obtain⟨e1,e2⟩:=qAE HE.out;clear HE HR;subst e1 e2;go_wp2_with (go_at_call 280;refine(Xo _ false HV _).mono ?_;rintro y w2 ⟨rfl,rfl⟩)
      rw[Exit.noGoto_ret];go_ret2;exact⟨rfl,rfl⟩
     |true=>
      by_cases h43:((s[k]'hlt).toNat:Int)=43
      ·
       have hb43:s.data.toList[k]'(by omega)=43:=by
        rw[HB.out];have h:(s[k]'hlt).toNat=43:=by omega
        exact UInt8.toNat.inj h
       have HSPL:=qA (show zK 43 (s.data.toList.drop a)=(s.extract a k).data.toList::zK 43 (s.data.toList.drop (k+1)) by rw[HSP.out,hb43,Yf _ _ HNO.out,mM]);have HNEXT:Hid (∀ mm,qm (s.extract a k).data.toList qh=some mm->acc>>>mm=0->(k+1<=k+1/\k+1<=s.data.toList.length/\(43:UInt8)∉(s.data.toList.drop (k+1)).take (k+1-(k+1))/\wG (acc|||1<<<mm) (zK 43 (s.data.toList.drop (k+1)))=R)∨(k+1=s.data.toList.length+1/\k+1=s.data.toList.length+1/\R=some (acc|||1<<<mm))):=fun mm h1 h2=> .inl ⟨U3 _,by omega,by simp,by rw[<-HMF.out,HSPL.out,Xr h1 h2]⟩
       clear HSP hb43 HB;have hl43: ∀ w,Calls Tryz.prog 280 #[.int .u8 43] w fun q w'=>q= .returned (.bool true)/\w'=w:=fun w=>Xo 43 true rfl w
       clear HV;obtain⟨q,hq⟩: ∃ q,qm (s.extract a k).data.toList qh=q:=⟨_,rfl⟩;have HQ:=qA hq;have NM2:=NM;cases q with
       |none=>
        have hpm:Calls Tryz.prog 187 #[.string (s.extract a k)] w fun q w'=>q= .returned (.tuple #[.int .i64 0, .bool false])/\w'=w:=VH (s.extract a k).data.toList 0 false (by show _=_;rw[HQ.out];rfl) w NM.out
        have HRN:=qA (show R=none by rw[<-HMF.out,HSPL.out];exact di HQ.out);have HE:Hid (((0:Int),(3:Int))=(n,e)):=by show _=_;rw[<-HR.out,HRN.out];rfl
        obtain⟨e1,e2⟩:=qAE HE.out;clear HE HR hq;subst e1 e2;go_wp2_with (first
         |(go_at_call 280;refine(hl43 _).mono ?_;rintro y w2 ⟨rfl,rfl⟩)
         |(go_at_call 187;refine hpm.mono ?_;rintro y5 w5 ⟨rfl,rfl⟩))
        rw[Exit.noGoto_ret];go_ret2;exact⟨rfl,rfl⟩
       |some mm=>
        have hmm:=VA hq;have hpm:Calls Tryz.prog 187 #[.string (s.extract a k)] w fun q w'=>q= .returned (.tuple #[.int .i64 mm, .bool true])/\w'=w:=VH (s.extract a k).data.toList mm true (by show _=_;rw[HQ.out];rfl) w NM.out
        clear hq;by_cases hsh:acc>>>mm=0
        ·
         have HNX:=qA (show W9 s.data.toList R (acc|||1<<<mm) (k+1) (k+1) from⟨Gu h256 hmm,HNEXT.out mm HQ.out hsh⟩);have HD:=qA hsh;have hsh2:(((acc:Int) / 2 ^ mm) != 0)=false:=by
          have e:((acc / 2 ^ mm:Nat):Int)=0:=by rw[<-Nat.shiftRight_eq_div_pow,hsh];rfl
          rw[show(acc:Int) / 2 ^ mm=((acc / 2 ^ mm:Nat):Int) by push_cast;rfl,e];rfl
         have hwr:=rJ ⟨mm,hmm⟩;have hor:=Nk h256 hmm;go_wp2_with (first
           |(go_at_call 280;refine(hl43 _).mono ?_;rintro y w2 ⟨rfl,rfl⟩)
           |(go_at_call 187;refine hpm.mono ?_;rintro y5 w5 ⟨rfl,rfl⟩))
         exact⟨⟨_,_,_,rfl,by go_num,by go_num,by omega,HNX⟩,by first|(simp[intOf];done)|(simp[intOf];omega)⟩
        ·
         have HRN:=qA (show R=none by rw[<-HMF.out,HSPL.out];exact Xq HQ.out hsh);have HE:Hid (((0:Int),(3:Int))=(n,e)):=by show _=_;rw[<-HR.out,HRN.out];rfl
         obtain⟨e1,e2⟩:=qAE HE.out;clear HE HR HNEXT;subst e1 e2;have hsh2:(((acc:Int) / 2 ^ mm) != 0)=true:=by
          rw[Nat.shiftRight_eq_div_pow]at hsh;rw[bne_iff_ne,show(acc:Int) / 2 ^ mm=((acc / 2 ^ mm:Nat):Int) by push_cast;rfl];omega
         go_wp2_with (first
           |(go_at_call 280;refine(hl43 _).mono ?_;rintro y w2 ⟨rfl,rfl⟩)
           |(go_at_call 187;refine hpm.mono ?_;rintro y5 w5 ⟨rfl,rfl⟩))
         rw[Exit.noGoto_ret];go_ret2;exact⟨rfl,rfl⟩
      ·
       have n43:(((s[k]'hlt).toNat:Int) != 43)=true:=by rw[bne_iff_ne];exact h43
       have hb43: ¬ s.data.toList[k]'(by omega)=43:=fun e=>h43 (by rw[<-HB.out,e];rfl)
       have HNX:=qA (show W9 s.data.toList R acc a (k+1) from⟨h256, .inl ⟨by omega,by omega,by
        rw[EQ s.data.toList hak (by omega)];intro hm;rcases List.mem_append.1 hm with hm|hm
        · exact HNO.out hm
        · exact hb43 (List.mem_singleton.1 hm).symm,HMF.out⟩⟩)
       clear hb43 HSP HNO HMF HB;go_wp2_with (go_at_call 280;refine(Xo _ true HV _).mono ?_;rintro y w2 ⟨rfl,rfl⟩)
       exact⟨⟨_,_,_,rfl,rfl,by go_num,by omega,HNX⟩,by first|(simp[intOf];done)|(simp[intOf];omega)⟩
    ·
     obtain rfl:k=s.size:=by omega
     have HNO:=qA hno;have HMF:=qA hmf;have HSPL:=qA (show zK 43 (s.data.toList.drop a)=[(s.extract a s.size).data.toList] by
      have e:=IP s.data.toList (a:=a) hl.symm;rw[mM,e];exact aQ _ (by rw[<-e];exact HNO.out))
     have HNEXT:Hid (∀ mm,qm (s.extract a s.size).data.toList qh=some mm->acc>>>mm=0->(s.size+1<=s.size+1/\s.size+1<=s.data.toList.length/\(43:UInt8)∉(s.data.toList.drop (s.size+1)).take (s.size+1-(s.size+1))/\wG (acc|||1<<<mm) (zK 43 (s.data.toList.drop (s.size+1)))=R)∨(s.size+1=s.data.toList.length+1/\s.size+1=s.data.toList.length+1/\R=some (acc|||1<<<mm))):=fun mm h1 h2=> .inr ⟨by omega,by omega,by rw[<-HMF.out,HSPL.out,Xr h1 h2];rfl⟩
     clear hno hmf;obtain⟨q,hq⟩: ∃ q,qm (s.extract a s.size).data.toList qh=q:=⟨_,rfl⟩;have HQ:=qA hq;have NM2:=NM;cases q with
     |none=>
      have hpm:Calls Tryz.prog 187 #[.string (s.extract a s.size)] w fun q w'=>q= .returned (.tuple #[.int .i64 0, .bool false])/\w'=w:=VH (s.extract a s.size).data.toList 0 false (by show _=_;rw[HQ.out];rfl) w NM.out
      have HRN:=qA (show R=none by rw[<-HMF.out,HSPL.out];exact di HQ.out);have HE:Hid (((0:Int),(3:Int))=(n,e)):=by show _=_;rw[<-HR.out,HRN.out];rfl
      obtain⟨e1,e2⟩:=qAE HE.out;clear HE HR hq;subst e1 e2;go_wp2_with (go_at_call 187;refine hpm.mono ?_;rintro y5 w5 ⟨rfl,rfl⟩)
      rw[Exit.noGoto_ret];go_ret2;exact⟨rfl,rfl⟩
     |some mm=>
      have hmm:=VA hq;have hpm:Calls Tryz.prog 187 #[.string (s.extract a s.size)] w fun q w'=>q= .returned (.tuple #[.int .i64 mm, .bool true])/\w'=w:=VH (s.extract a s.size).data.toList mm true (by show _=_;rw[HQ.out];rfl) w NM.out
      clear hq;by_cases hsh:acc>>>mm=0
      ·
       have HNX:=qA (show W9 s.data.toList R (acc|||1<<<mm) (s.size+1) (s.size+1) from⟨Gu h256 hmm,HNEXT.out mm HQ.out hsh⟩);have HD:=qA hsh;have hsh2:(((acc:Int) / 2 ^ mm) != 0)=false:=by
        have e:((acc / 2 ^ mm:Nat):Int)=0:=by rw[<-Nat.shiftRight_eq_div_pow,hsh];rfl
        rw[show(acc:Int) / 2 ^ mm=((acc / 2 ^ mm:Nat):Int) by push_cast;rfl,e];rfl
       have hwr:=rJ ⟨mm,hmm⟩;have hor:=Nk h256 hmm;go_wp2_with (go_at_call 187;refine hpm.mono ?_;rintro y5 w5 ⟨rfl,rfl⟩)
       exact⟨⟨_,_,_,rfl,by go_num,by go_num,by omega,HNX⟩,by first|(simp[intOf];done)|(simp[intOf];omega)⟩
      ·
       have HRN:=qA (show R=none by rw[<-HMF.out,HSPL.out];exact Xq HQ.out hsh);have HE:Hid (((0:Int),(3:Int))=(n,e)):=by show _=_;rw[<-HR.out,HRN.out];rfl
       obtain⟨e1,e2⟩:=qAE HE.out;clear HE HR HNEXT;subst e1 e2;have hsh2:(((acc:Int) / 2 ^ mm) != 0)=true:=by
        rw[Nat.shiftRight_eq_div_pow]at hsh;rw[bne_iff_ne,show(acc:Int) / 2 ^ mm=((acc / 2 ^ mm:Nat):Int) by push_cast;rfl];omega
       go_wp2_with (go_at_call 187;refine hpm.mono ?_;rintro y5 w5 ⟨rfl,rfl⟩)
       rw[Exit.noGoto_ret];go_ret2;exact⟨rfl,rfl⟩
   ·
    subst hk1 ha1;have HE:Hid (((acc:Int),(0:Int))=(n,e)):=by show _=_;rw[<-HR.out,hRR];rfl
    obtain⟨e1,e2⟩:=qAE HE.out;clear HE HR;subst e1 e2;go_wp2;go_ret2;exact⟨rfl,rfl⟩
theorem mQ (g rb:Nat) (m e e2 E n:Int) (X:PX) (x:List UInt8) (r:List (List UInt8)) (HX:Hid (QR x=(n,e2))) (hx:x.length<=131072) (H:Hid (fe e e2=E)) (w:World) (h:wR g rb m e X (x::r) w):
  Calls Tryz.prog 192 #[.pointer (some ⟨g,0,none⟩)] w fun q w'=>q= .returned (.int .i64 n)/\wR g rb m E X r w'/\Gr g w w':=by
 have HR:=qA h;clear h;have hp:=fun w hw=>He ⟨x.toArray⟩ (VO x hx) n e2 HX w hw
 go_enter Tryz.func192,Tryz.ntmps192
 go_wp2_with (first
  |(go_at_call 107;refine(zy g rb m e X x r w HR.out).mono ?_;rintro y0 w0 ⟨rfl,r0,g0⟩;have nm0:=r0.env.nm)
  |(go_at_call 250;refine(hp _ nm0).mono ?_;rintro y1 w1 ⟨rfl,rfl⟩)
  |(go_at_call 186;refine(yH g rb m e e2 E H X r _ r0).mono ?_;rintro y2 w2 ⟨rfl,r2,g2⟩))
 go_ret;exact⟨rfl,r2,qJ g0 g2⟩
end Go.Proofs.YtakedkcjplfgeaaGreatDoor
