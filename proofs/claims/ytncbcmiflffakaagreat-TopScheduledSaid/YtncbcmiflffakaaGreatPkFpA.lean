/-
  What the laws of top need of TopFpA, TopFpB. Conditions: those of each lemma.
-/
import Derived.Test.YtncbcmiflffakaaGreatPkSh
import Derived.Test.YtncbcmiflffakaaGreatPkCkB
import Derived.Maps.RangeWalk
set_option maxRecDepth 1000000
set_option maxHeartbeats 32000000
namespace Go.Proofs.YtncbcmiflffakaaGreat
open Go.RowKit Go.Maps
open Dj Tt
def bestStep (free:Bool) (m:Int×Int→Option Int) (p:PathD):Int×Int→Option Int:=fun q=>
 if free&& !p.free then m q else if q=(p.frm,p.to)then(match m q with
  |none=>some p.secs
  |some s=>if p.secs<s then some p.secs else some s)else m q
def bestP (free:Bool) (l:List PathD):Int×Int→Option Int:=l.foldl (bestStep free) (fun _=>none)
theorem bestP_snoc (free:Bool) (l:List PathD) (p:PathD):bestP free (l++[p])=bestStep free (bestP free l) p:=by
 unfold bestP;rw[List.foldl_append];rfl
theorem bestP_from (free:Bool): ∀ (l:List PathD) (q:Int×Int) (s:Int),bestP free l q=some s→ ∃ p∈l,p.frm=q.1∧p.to=q.2∧p.secs=s:=by
 have key: ∀ (l:List PathD) (m:Int×Int→Option Int) (q:Int×Int) (s:Int),l.foldl (bestStep free) m q=some s→m q=some s∨ ∃ p∈l,p.frm=q.1∧p.to=q.2∧p.secs=s:=by
  intro l;induction l with
  |nil=>intro m q s h;exact .inl h
  |cons p l ih=>
   intro m q s h;rcases ih _ q s h with h|⟨p',hp,h⟩
   ·
    have hh:m q=some s∨(q=(p.frm,p.to)∧p.secs=s):=by
     unfold bestStep at h;split at h
     · exact .inl h
     ·
      split at h
      ·
       rename_i e;split at h
       · exact .inr ⟨e,Option.some.inj h⟩
       ·
        split at h
        · exact .inr ⟨e,Option.some.inj h⟩
        ·
         rename_i hm _;exact .inl (hm.trans h)
      · exact .inl h
    rcases hh with h|⟨e,h⟩
    · exact .inl h
    · exact .inr ⟨p, .head _,by rw[e],by rw[e],h⟩
   · exact .inr ⟨p', .tail _ hp,h⟩
 intro l q s h;rcases key l _ q s h with h|h
 · cases h
 · exact h
def EdgeSet (free:Bool) (l:List PathD) (E:List EdgeD):Prop:= ∀ e:EdgeD,e∈E↔bestP free l (e.frm,e.to)=some e.wt
def DistP (free:Bool) (l:List PathD) (s t d:Int):Prop:= ∃ E,EdgeSet free l E∧IsDist E s t d
theorem DistP.unique {free:Bool} {l:List PathD} {s t d d':Int} (h:DistP free l s t d) (h':DistP free l s t d'):d=d':=by
 obtain⟨E,h1,h2⟩:=h;obtain⟨E',h1',h2'⟩:=h';exact(h2.same fun e=>(h1 e).trans (h1' e).symm).unique h2'
def DistM (free:Bool) (l:List PathD) (n:Nat) (M:List (List Int)):Prop:=M.length=n∧ ∀ (i:Nat) (r:List Int),M[i]? =some r→r.length=n∧ ∀ (t:Nat) (x:Int),r[t]? =some x→DistP free l i t x
theorem DistM.unique {free:Bool} {l:List PathD} {n:Nat} {M M':List (List Int)} (h:DistM free l n M) (h':DistM free l n M'):M=M':=by
 refine List.ext_getElem? fun i=>?_
 by_cases hi:i<n
 ·
  have e1:=List.getElem?_eq_getElem (l:=M) (i:=i) (by rw[h.1];exact hi);have e2:=List.getElem?_eq_getElem (l:=M') (i:=i) (by rw[h'.1];exact hi);obtain⟨a1,a2⟩:=h.2 i _ e1;obtain⟨b1,b2⟩:=h'.2 i _ e2;rw[e1,e2];congr 1
  refine List.ext_getElem? fun t=>?_
  by_cases ht:t<n
  ·
   have f1:=List.getElem?_eq_getElem (l:=M[i]'(by rw[h.1];exact hi)) (i:=t) (by rw[a1];exact ht);have f2:=List.getElem?_eq_getElem (l:=M'[i]'(by rw[h'.1];exact hi)) (i:=t) (by rw[b1];exact ht);rw[f1,f2];congr 1
   exact(a2 t _ f1).unique (b2 t _ f2)
  · rw[List.getElem?_eq_none (by rw[a1];omega),List.getElem?_eq_none (by rw[b1];omega)]
 · rw[List.getElem?_eq_none (by rw[h.1];omega),List.getElem?_eq_none (by rw[h'.1];omega)]
def BestG (gk:Int×Int×Bool→Lit) (m:Int×Int→Option Int) (G:Lit→Option Value):Prop:=
 (∀ a b,isInt a→isInt b→G (gk (a,b,false))=(m (a,b)).map (Value.int .i64))∧(∀ kl v,G kl=some v→ ∃ a b,isInt a∧isInt b∧kl=gk (a,b,false))
theorem bestG_nil (gk:Int×Int×Bool→Lit):BestG gk (fun _=>none) (fun _=>none):=⟨fun _ _ _ _=>rfl,fun _ _ h=>by cases h⟩
theorem BestG.put {gk:Int×Int×Bool→Lit} (K:pathkFn gk) {m:Int×Int→Option Int} {G:Lit→Option Value} (h:BestG gk m G) {a b s:Int} (ha:isInt a) (hb:isInt b) {m':Int×Int→Option Int} (h1:m' (a,b)=some s) (h2: ∀ q,q≠(a,b)→m' q=m q):
  BestG gk m' (putV G (gk (a,b,false)) (.int .i64 s)):=by
 have hk:WideAt.IsKeyLit (gk (a,b,false)):=pathk_law.key (K (a,b,false) ⟨ha,hb⟩);refine⟨fun c d hc hd=>?_,fun kl v hv=>?_⟩
 ·
  by_cases e:(c,d)=(a,b)
  ·
   cases e
   rw[putV_at G hk,h1];rfl
  ·
   have hne:gk (c,d,false)≠gk (a,b,false):=fun q=>e (by
    have:=pathkFn_inj K (x:=(c,d,false)) (y:=(a,b,false)) ⟨hc,hd⟩ ⟨ha,hb⟩ q;simp only[Prod.mk.injEq,and_true]at this;rw[this.1,this.2])
   rw[putV_ne hne,h2 _ e];exact h.1 c d hc hd
 ·
  by_cases e:kl=gk (a,b,false)
  · exact⟨a,b,ha,hb,e⟩
  ·
   rw[putV_ne e]at hv;exact h.2 kl v hv
end Go.Proofs.YtncbcmiflffakaaGreat
namespace Go.Proofs.YtncbcmiflffakaaGreat
open Go.RowKit Go.Maps
open Dj Tt
theorem two_alloc (w:World) (A C:Array Value) (T T':TypeId):((w.alloc (.cells A T)).alloc (.cells C T')).heap[w.heap.size]? =some (.cells A T (0,0))∧((w.alloc (.cells A T)).alloc (.cells C T')).heap[w.heap.size+1]? =some (.cells C T' (0,0))∧Bl w ((w.alloc (.cells A T)).alloc (.cells C T')):=by
 refine⟨blk_bl (heap_alloc_new w _) (bl_alloc (bl_refl _) _), ?_,bl_alloc (bl_alloc (bl_refl _) _) _⟩;have:=heap_alloc_new (w.alloc (.cells A T)) (.cells C T');rw[World.size_alloc]at this;exact this
theorem row_not_iter {P:Program} {base sz n:Nat} {T:TypeId} {w:World} {v:Value} {xs:List Value} (h:w.ownsRow base T sz v n xs) {k:TypeId} {R:Value→Option (DataW Value×List MemPlace)} {b r m:Nat} {D:DataW Value} {left:Lit→Bool} {cnt:Nat} (hr:w.ranges P k R b r m D left cnt):v.ownBlock≠some r∧v.ownBlock≠some b:=by
 obtain⟨es,clock,since,seen,c0,hb,-,-,-,hi,-⟩:=hr;refine⟨fun e=>?_,fun e=>row_not_map h hb e⟩;rcases h.2 with⟨rfl,-⟩|⟨g,cap,cur,rfl,-,h3,-⟩
 · simp[Value.ownBlock]at e
 ·
  obtain rfl:g=r:=by simpa[Value.ownBlock]using e
  rw[hi]at h3;cases h3
theorem entry_is {gk:Int×Int×Bool→Lit} (K:pathkFn gk) {m:Int×Int→Option Int} {G:Lit→Option Value} (hG:BestG gk m G) {D:DataW Value} (hD:ValD D G) {key v:Value} {kl:Lit} {y:DataW Value×List MemPlace}
  (hkey:keyOf Tryz.prog 183 key=some kl) (hv:rawElem v=some y) (hat: ∀ zd,D.atKey kl zd=y.1): ∃ a b s,isInt a∧isInt b∧kl=gk (a,b,false)∧key= .agg #[.int .i64 a, .int .i64 b, .bool false]∧v= .int .i64 s∧m (a,b)=some s:=by
 simp only[rawElem,Option.some.injEq]at hv;subst hv;have e:=hD.at' kl (pathk_law.key hkey) .nil;rw[hat]at e;cases hg:G kl with
 |none=>rw[hg]at e;cases e
 |some u=>
  rw[hg]at e;simp only[DataW.held.injEq]at e;subst e;obtain⟨a,b,ha,hb,rfl⟩:=hG.2 kl v hg;have h1:=hG.1 a b ha hb;rw[hg]at h1;cases hm:m (a,b)with
  |none=>rw[hm]at h1;cases h1
  |some s=>
   rw[hm]at h1;simp only[Option.map_some,Option.some.injEq]at h1;exact⟨a,b,s,ha,hb,rfl,pathk_law.inj hkey (K (a,b,false) ⟨ha,hb⟩),h1,hm⟩
def okPath (n:Nat) (p:PathD):Prop:=(0≤p.frm∧p.frm<n)∧(0≤p.to∧p.to<n)∧(1≤p.secs∧p.secs≤14400)
def SeenAt (gk:Int×Int×Bool→Lit) (m:Int×Int→Option Int) (left:Lit→Bool) (E:List EdgeD):Prop:=
 (∀ e∈E,m (e.frm,e.to)=some e.wt)∧(∀ a b s,m (a,b)=some s→(⟨a,b,s⟩:EdgeD)∈E∨left (gk (a,b,false))=true)
theorem SeenAt.step {gk:Int×Int×Bool→Lit} (K:pathkFn gk) {m:Int×Int→Option Int} {left:Lit→Bool} {E:List EdgeD} (h:SeenAt gk m left E) {a b s:Int} (ha:isInt a) (hb:isInt b) (hm:m (a,b)=some s)
  (hi: ∀ a b s,m (a,b)=some s→isInt a∧isInt b):SeenAt gk m (fun z=>left z&& !z.sameKey (gk (a,b,false))) (E++[⟨a,b,s⟩]):=by
 refine⟨fun e he=>?_,fun c d t ht=>?_⟩
 ·
  rcases List.mem_append.1 he with he|he
  · exact h.1 e he
  ·
   rw[List.mem_singleton]at he;subst he;exact hm
 ·
  by_cases e:(c,d)=(a,b)
  ·
   cases e
   rw[hm]at ht;cases ht
   exact .inl (List.mem_append.2 (.inr (.head _)))
  ·
   rcases h.2 c d t ht with q|q
   · exact .inl (List.mem_append.2 (.inl q))
   ·
    obtain⟨hc,hd⟩:=hi c d t ht;have hne:gk (c,d,false)≠gk (a,b,false):=fun q=>e (by
     have:=pathkFn_inj K (x:=(c,d,false)) (y:=(a,b,false)) ⟨hc,hd⟩ ⟨ha,hb⟩ q;simp only[Prod.mk.injEq,and_true]at this;rw[this.1,this.2])
    refine .inr ?_;show(left (gk (c,d,false))&& !(gk (c,d,false)).sameKey (gk (a,b,false)))=true
    rw[q,Maps.sameKey_ne hne];rfl
theorem distances_c (vl:Value) (l:List PathD) (n:Nat) (free:Bool) (hn:n≤64) (hs:Hid (∀ p∈l,okPath n p)) (hl:l.length≤4096) (B:Nat) (w:World) (hv:SlIn pathCells 4 B w vl l) (hB:B≤w.heap.size):
  Calls Tryz.prog 116 #[vl, .int .i64 n, .bool free] w fun e w'=> ∃ v' M,e= .returned v'∧MatIn w'.heap.size w' v' M∧DistM free l n M∧Bl w w':=by
 obtain⟨gk,K⟩:=pathkFn_ex;obtain⟨i0,hi,hz0,hz1,hz2⟩:=info_parts info_edge;have HV:=Lib.hid hv;obtain⟨a,cap,rfl,h1,h2⟩:=hv.val;have HK:=Lib.hid K;clear hv K;have hlI:(l.length:Int)≤4096:=by omega
 have hmm:= @run_makeMap Tryz.prog;go_enter Tryz.func116,Tryz.ntmps116
 go_wp2_with fail;clear hmm;go_loopw [21] (fun i wr=> ∃ (k:Nat) (G:Lit→Option Value),(k≤l.length∧i= .int .i64 k)∧Hid (OwnsVal wr Tryz.prog 183 w.heap.size k G)∧Hid (BestG gk (bestP free (l.take k)) G)∧Hid (Bl w wr)) (fun i _=>l.length-(intOf i).toNat)
 case atStart=>exact⟨0,fun _=>none,⟨Nat.zero_le _,rfl⟩,Lib.hid (ownsVal_made w _ _),Lib.hid (bestG_nil gk),Lib.hid (bl_alloc (bl_refl _) _)⟩
 case round=>
  obtain⟨k,G,⟨hk,rfl⟩,HO,HG,HBl⟩:=hrel;by_cases hlt:k<l.length
  ·
   have hltI:(k:Int)<(l.length:Int):=by omega
   obtain⟨b,o,p,rfl,hb,hx,hc⟩:=HV.out.get (k:=k) hlt HBl.out hB;have d0:wr.cell? ⟨b,o+k*4,none⟩=some (.int .i64 p.frm):=hc 0 _ rfl;have d1:wr.cell? ⟨b,o+k*4+1,none⟩=some (.int .i64 p.to):=hc 1 _ rfl;have d2:wr.cell? ⟨b,o+k*4+2,none⟩=some (.int .i64 p.secs):=hc 2 _ rfl;have d3:wr.cell? ⟨b,o+k*4+3,none⟩=some (.bool p.free):=hc 3 _ rfl;have HX:=Lib.hid hx;have HT:=Lib.hid (take_snoc_at hx);obtain⟨⟨f0,f1⟩,⟨t0,t1⟩,⟨s0,s1⟩⟩:=hs.out p (List.mem_of_getElem? hx);have hif:isInt p.frm:=by unfold isInt;omega
   have hit:isInt p.to:=by unfold isInt;omega
   have hkey:=HK.out (p.frm,p.to,false) ⟨hif,hit⟩;have HKEY:=Lib.hid hkey;have HIF:=Lib.hid (And.intro hif hit);clear hx hc hkey hif hit;by_cases hskip:(free&& !p.free)=true
   ·
    have hstep:bestP free (l.take (k+1))=bestP free (l.take k):=by
     rw[HT.out,bestP_snoc];funext q
     unfold bestStep;rw[if_pos hskip]
    have HS:=Lib.hid hstep;clear hstep;simp only[Bool.and_eq_true,Bool.not_eq_true']at hskip;obtain⟨rfl,hpf⟩:=hskip;rw[hpf]at d3;go_wp2;exact⟨⟨k+1,G,⟨by omega,by go_num⟩,Lib.hid ((HO.out.bl (bl_alloc (bl_refl _) _)).mono (by omega)),by rw[HS.out];exact HG,Lib.hid (bl_alloc HBl.out _)⟩,by simp only[intOf];omega⟩
   ·
    obtain⟨pf,hpf⟩: ∃ x,p.free=x:=⟨_,rfl⟩;rw[hpf]at d3 hskip;have hstep:bestP free (l.take (k+1))=fun q=>if q=(p.frm,p.to)then(match bestP free (l.take k) q with
      |none=>some p.secs
      |some s=>if p.secs<s then some p.secs else some s)else bestP free (l.take k) q:=by
     rw[HT.out,bestP_snoc];funext q
     unfold bestStep;rw[hpf,if_neg hskip];all_goals rfl
    have HST:=Lib.hid hstep;have hfr:free=false∨(free=true∧pf=true):=by
     cases free
     · exact .inl rfl
     ·
      cases pf
      · exact absurd rfl hskip
      · exact .inr ⟨rfl,rfl⟩
    obtain⟨m0,hm0⟩: ∃ m,bestP free (l.take k)=m:=⟨_,rfl⟩;obtain⟨m1,hm1⟩: ∃ m,bestP free (l.take (k+1))=m:=⟨_,rfl⟩;rw[hm0]at HG HST;rw[hm1]at HST;have HM1:=Lib.hid hm1;clear hstep hskip hpf hm0 hm1;rcases hfr with rfl|⟨rfl,rfl⟩
    all_goals
     go_upto_region 7 with fail
     first
      |(have F:=Lib.hid (two_alloc wr #[.int .i64 p.frm, .int .i64 p.to, .int .i64 p.secs, .bool pf] #[.int .i64 p.frm, .int .i64 p.to, .bool false] 97 183);generalize (wr.alloc (.cells #[.int .i64 p.frm, .int .i64 p.to, .int .i64 p.secs, .bool pf] 97)).alloc (.cells #[.int .i64 p.frm, .int .i64 p.to, .bool false] 183)=wb at F ⊢)
      |(have F:=Lib.hid (two_alloc wr #[.int .i64 p.frm, .int .i64 p.to, .int .i64 p.secs, .bool true] #[.int .i64 p.frm, .int .i64 p.to, .bool false] 97 183);generalize (wr.alloc (.cells #[.int .i64 p.frm, .int .i64 p.to, .int .i64 p.secs, .bool true] 97)).alloc (.cells #[.int .i64 p.frm, .int .i64 p.to, .bool false] 183)=wb at F ⊢)
     have g0:wb.cell? ⟨wr.heap.size+1,0,none⟩=some (.int .i64 p.frm):=blk_cell F.out.2.1 0 _ rfl;have g1:wb.cell? ⟨wr.heap.size+1,1,none⟩=some (.int .i64 p.to):=blk_cell F.out.2.1 1 _ rfl;have g2:wb.cell? ⟨wr.heap.size+1,2,none⟩=some (.bool false):=blk_cell F.out.2.1 2 _ rfl;have g3:wb.cell? ⟨wr.heap.size,2,none⟩=some (.int .i64 p.secs):=blk_cell F.out.1 2 _ rfl;have BW:Hid (Bl w wb):=bl_next HBl.out F.out.2.2;have OB:=Lib.hid (HO.out.bl F.out.2.2);have hlk:=OB.out.look_ok pathk_law Tryz.underlying229 (z:= .int .i64 0) (by kernel_rfl) HKEY.out;rw[HG.out.1 p.frm p.to HIF.out.1 HIF.out.2]at hlk;obtain⟨wp,hrun,OP,gp⟩:=OB.out.put pathk_law Tryz.underlying229 (by unfold maxLen;omega) HKEY.out (.int .i64 p.secs);have OP':=Lib.hid OP;have BP:Hid (Bl w wp):=bl_new BW.out gp (Nat.le_refl _);change(Instr.lookup 229 (.map (some w.heap.size)) (.agg #[.int .i64 p.frm, .int .i64 p.to, .bool false]) true).run Tryz.prog wb=_ at hlk;change(Instr.mapUpdate 229 (.map (some w.heap.size)) (.agg #[.int .i64 p.frm, .int .i64 p.to, .bool false]) (.int .i64 p.secs)).run Tryz.prog wb=_ at hrun;have HPUT:=Lib.hid (fun m' q1 q2=>HG.out.put (m':=m') (s:=p.secs) HK.out HIF.out.1 HIF.out.2 q1 q2);clear OP gp d0 d1 d2 d3;rcases hm:m0 (p.frm,p.to)with _|s
     ·
      rw[hm]at hlk;have HG1:Hid (BestG gk (m1) (putV G (gk (p.frm,p.to,false)) (.int .i64 p.secs))):=HPUT.out _ (by rw[HST.out];simp only[hm,if_true]) (fun q hq=>by rw[HST.out];simp only[if_neg hq]);simp only[Option.map_none,Option.getD_none,Option.isSome_none]at hlk;clear hm;go_wp2;first|exact⟨⟨k+1,_,⟨by omega,by go_num⟩,OP',by rw[HM1.out];exact HG1,BP⟩,by simp only[intOf];omega⟩|(refine⟨?_,by simp[intOf];omega⟩;repeat apply Exists.intro;exact⟨⟨k+1,_,⟨by omega,by go_num⟩,OP',by rw[HM1.out];exact HG1,BP⟩,rfl⟩)
     ·
      rw[hm]at hlk;simp only[Option.map_some,Option.getD_some,Option.isSome_some]at hlk;by_cases hlt2:p.secs<s
      ·
       have HG1:Hid (BestG gk (m1) (putV G (gk (p.frm,p.to,false)) (.int .i64 p.secs))):=HPUT.out _ (by rw[HST.out];simp only[hm,if_true,if_pos hlt2]) (fun q hq=>by rw[HST.out];simp only[if_neg hq]);clear hm;go_wp2;first|exact⟨⟨k+1,_,⟨by omega,by go_num⟩,OP',by rw[HM1.out];exact HG1,BP⟩,by simp only[intOf];omega⟩|(refine⟨?_,by simp[intOf];omega⟩;repeat apply Exists.intro;exact⟨⟨k+1,_,⟨by omega,by go_num⟩,OP',by rw[HM1.out];exact HG1,BP⟩,rfl⟩)
      ·
       have hlt3:decide (p.secs<s)=false:=decide_eq_false hlt2;have hsame:m1=m0:=by
        rw[HST.out];funext q
        by_cases hq:q=(p.frm,p.to)
        ·
         rw[if_pos hq,hq,hm];simp only[if_neg hlt2]
        · rw[if_neg hq]
       have HG1:Hid (BestG gk (m1) G):=by rw[hsame];exact HG
       have OB1:=Lib.hid (OB.out.mono (show k≤k+1 by omega));clear hm hsame;go_wp2;first|exact⟨⟨k+1,_,⟨by omega,by go_num⟩,OB1,by rw[HM1.out];exact HG1,BW⟩,by simp only[intOf];omega⟩|(refine⟨?_,by simp[intOf];omega⟩;repeat apply Exists.intro;exact⟨⟨k+1,_,⟨by omega,by go_num⟩,OB1,by rw[HM1.out];exact HG1,BW⟩,rfl⟩)
  ·
   obtain rfl:k=l.length:=by omega
   rw[List.take_length]at HG;obtain⟨D,hD,hV⟩:=HO.out;have HD:=Lib.hid hD;have HVD:=Lib.hid hV;have hsz:=hD.size_le;have hszI:(Maps.size D:Int)≤4096:=by omega
   have hln:=fun ty=>hD.len Tryz.underlying229 ty
   have hlt2:=hD.lt;clear hD hV;go_wp2_with (refine wpList_make_own _ rfl _ _ 230 rfl w.heap.size 232 i0 (.agg #[.int .i64 0, .int .i64 0, .int .i64 0]) 3 Tryz.underlying230 hi hz0 hz1 .i64 .i64 _ (Maps.size D) rfl rfl rfl ?c1 ?c2 ?c3 ?_)
   case c1=>rw[hz2];omega
   case c2=>unfold maxLen;omega
   case c3=>exact HBl.out.size
   intro w5 own5 gr5;have O5:=Lib.hid own5;have B5:Hid (Bl wr w5):=(bl_refl wr).grown gr5 (Nat.le_refl _) (fun q hq=>by cases hq);have HD5:Hid (w5.ownsMap Tryz.prog 183 rawElem w.heap.size l.length D):=HD.out.kept gr5 (by simp);clear own5 gr5 hln;go_wp2_with (at_range;refine wpList_range_own _ rfl _ 229 rfl 183 3 pathk_law Tryz.underlying229 rawElem w.heap.size l.length D rfl HD5.out ?_;intro w6 hrg6 hg6 hs6)
   go_frame
   have HR6:=Lib.hid hrg6;have B6:Hid (Bl w5 w6):=(bl_refl w5).grown hg6 (Nat.le_refl _) (fun q hq=>by cases hq);have O6:Hid (w6.ownsRow w.heap.size 232 3 (.slice (some ⟨wr.heap.size,0,none⟩) 0 (Maps.size D)) 0 []):=ownsRow_bl O5.out B6.out;clear hrg6 hg6 hs6;have B06:Hid (Bl w w6):=bl_next (bl_next HBl.out B5.out) B6.out;have HSEEN:Hid (SeenAt gk (bestP free l) (Maps.has D) []):=⟨fun e he=>(by cases he),fun a b s hm=> .inr (by
    obtain⟨p,hp,e1,e2,-⟩:=bestP_from free l (a,b) s hm;simp only at e1 e2;obtain⟨⟨f0,f1⟩,⟨t0,t1⟩,-⟩:=hs.out p hp;have ha:isInt a:=by unfold isInt;omega
    have hb:isInt b:=by unfold isInt;omega
    rw[HVD.out.has (pathk_law.key (HK.out (a,b,false) ⟨ha,hb⟩)),HG.out.1 a b ha hb,hm];rfl)⟩
   have hz5:Hid (w.heap.size≤w5.heap.size):=Lib.hid (bl_next HBl.out B5.out).size;go_loopw [13] (fun se wx=> ∃ (E:List EdgeD) (left:Lit→Bool) (cnt:Nat),Hid (wx.ranges Tryz.prog 183 rawElem w.heap.size w5.heap.size l.length D left cnt∧E.length+cnt≤Maps.size D)∧Hid (SeenAt gk (bestP free l) left E)∧Hid (wx.ownsRow w.heap.size 232 3 se E.length (E.flatMap edgeCells))∧Hid (Bl w wx)) (fun _ wx=>wx.rangeLeft w.heap.size w5.heap.size)
   case atStart=>exact⟨[],Maps.has D,Maps.size D,Lib.hid ⟨HR6.out,by simp⟩,HSEEN,O6,B06⟩
   case round=>
    clear HR6 O6 B06 HSEEN;obtain⟨E,left,cnt,HR,HS,HO2,HBx⟩:=hrel;go_wp2_with (at_next;refine wpList_next_ranges _ rfl _ rfl _ pathk_law rawElem (fun x:Value=>x) (fun x:Value=>x) (fun key _ _=>⟨key,rfl⟩) (fun v _ _=>⟨v,rfl⟩) _ _ _ D left cnt rfl HR.out.1 ?done ?more)
    case done=>
     intro h0 hl0;have HSET:Hid (EdgeSet free l E):=Lib.hid fun e=>⟨fun he=>HS.out.1 e he,fun he=>by
      rcases HS.out.2 _ _ _ he with q|q
      · exact q
      ·
       rw[hl0]at q;cases q⟩
     have HEE:Hid (∀ e∈E,(0≤e.frm∧e.frm<n)∧(0≤e.to∧e.to<n)∧(0≤e.wt∧e.wt≤1073741824)):=Lib.hid fun e he=>by
      obtain⟨p,hp,e1,e2,e3⟩:=bestP_from free l _ _ (HS.out.1 e he);obtain⟨q1,q2,q3⟩:=hs.out p hp;simp only at e1 e2;rw[←e1,←e2,←e3];exact⟨q1,q2,by omega,by omega⟩
     have hlE:E.length≤4096:=by have:=HR.out.2;omega
     have HA:=Lib.hid (sall_c n hn u13 E HEE hlE wr.heap.size wr (slIn_own edgeCells_len HO2.out) (Nat.le_refl _));go_wp2_with (go_at_call 136;refine HA.out.mono ?_;rintro q w8 ⟨v8,M8,rfl,i8,l8,d8,b8⟩;have I8:=Lib.hid i8;have D8:=Lib.hid (And.intro l8 d8);have B8:=Lib.hid (bl_next HBx.out b8);clear i8 l8 d8 b8)
     go_ret;exact⟨_,M8,rfl,I8.out,⟨D8.out.1,fun i r hr=>⟨(D8.out.2 i r hr).1,fun t x hx=>⟨E,HSET.out,(D8.out.2 i r hr).2 t x hx⟩⟩⟩,B8.out⟩
    case more=>
     intro key v kl yd yp w7 cnt7 hkey hlk hv hat hrg7 hlt7 hg7 hs7 hen;obtain⟨a,b,s,ha,hb,rfl,rfl,rfl,hm⟩:=entry_is HK.out HG.out HVD.out hkey hv hat;have R7:=Lib.hid (HO2.out.kept hg7 (.inr (row_not_iter HO2.out HR.out.1).1));have B7:Hid (Bl w w7):=HBx.out.grown hg7 HBx.out.size (fun q hq=>by cases hq;exact hz5.out);have HR7:=Lib.hid hrg7;have HE:=Lib.hid (And.intro ha (And.intro hb hm));have hcnt:E.length+cnt7+1≤Maps.size D:=by have:=HR.out.2;omega
     have NI:=Lib.hid (row_not_iter HO2.out HR.out.1);have HLT:=Lib.hid (World.ranges.left_eq hrg7);have HLO:=Lib.hid (World.ranges.left_eq HR.out.1);clear hkey hlk hv hat hrg7 hg7 hs7;go_wp2_with (at_builtin;refine wpList_append_own_at _ rfl _ _ 230 rfl w.heap.size 232 i0 (.agg #[.int .i64 0, .int .i64 0, .int .i64 0]) 3 24 Tryz.underlying230 hi hz0 hz1 hz2 rfl (by decide) _ _ _ rfl ((R7.out.alloc _).alloc _) ⟨w7.heap.size+1,0,none⟩ 1 1 [.int .i64 a, .int .i64 b, .int .i64 s] rfl rfl ?c1 ?c2 ?c3 ?c4 ?c5 ?_)
     case c1=>exact World.news_of_block (cs:= #[.int .i64 a, .int .i64 b, .int .i64 s]) ((two_alloc w7 _ _ _ _).2.1)
     case c2=>simp[Value.oneCell']
     case c3=>unfold maxLen;omega
     case c4=>omega
     case c5=>have:=B7.out.size;simp;omega
     intro v8 w8 own8 gr8 _ _;have hr8:w8.ranges Tryz.prog 183 rawElem w.heap.size w5.heap.size l.length D (fun z=>left z&& !z.sameKey (gk (a,b,false))) cnt7:=(HR7.out.alloc _).alloc _ |>.kept gr8 (fun e=>NI.out.2 e.symm) (fun e=>NI.out.1 e.symm);have R8:=Lib.hid (And.intro hr8 (show(E++[(⟨a,b,s⟩:EdgeD)]).length+cnt7≤Maps.size D by rw[List.length_append,List.length_singleton];omega));have B8:Hid (Bl w w8):=(bl_alloc (bl_alloc B7.out _) _).grown gr8 (by have:=B7.out.size;simp;omega) (fun q hq=>(World.ownsRow.lt HO2.out q hq).1);have S8:=Lib.hid (HS.out.step HK.out ha hb hm (fun c d t ht=>by
      obtain⟨p,hp,e1,e2,-⟩:=bestP_from free l (c,d) t ht;simp only at e1 e2;obtain⟨⟨f0,f1⟩,⟨t0,t1⟩,-⟩:=hs.out p hp;unfold isInt;omega))
     have O8:Hid (w8.ownsRow w.heap.size 232 3 v8 (E++[(⟨a,b,s⟩:EdgeD)]).length ((E++[(⟨a,b,s⟩:EdgeD)]).flatMap edgeCells)):=by
      rw[List.length_append,List.length_singleton,List.flatMap_append];exact own8
     have L8:=Lib.hid (World.ranges.left_eq hr8);clear own8 gr8 hr8;go_wp2_with fail;exact⟨⟨_,_,_,R8,S8,O8,B8⟩,by rw[L8.out,HLO.out];exact hlt7⟩
end Go.Proofs.YtncbcmiflffakaaGreat
