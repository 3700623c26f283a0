/- The statement of the feed, proved. Conditions: each contract's own. -/
import Derived.Test.YtakedkcjplfgeaaGreatDoorMLwP
import Derived.Test.YtakedkcjplfgeaaGreatDoorWrap
import Derived.Test.YtakedkcjplfgeaaGreatDoorCards
import Derived.Test.YtakedkcjplfgeaaGreatDoorTie
import Derived.Lay
import Derived.SevenTiedAt
import Derived.HandedShaped
set_option maxRecDepth 1000000
set_option maxHeartbeats 32000000
namespace Go.Proofs.YtakedkcjplfgeaaGreatDoor.feedParses
open Go.ChangeShapes Go.WideShapes Go.ChangeAt Go.RowKit
open Go.ChangeMaps (open_string shut_string)
set_option linter.unusedVariables false
def laidL:List (String×DataW Unit):=[("unicode/utf8.acceptRanges",Rows.laid_unicode_utf8_acceptRanges),("transit/route.names",Rows.laid_transit_route_names),("unicode/utf8.first",Rows.laid_unicode_utf8_first)]
theorem own:ownKnob Tryz.prog.godebug=none:=κ
theorem laid:laidOutB Tryz.prog=true:=κ
theorem Rn {x:Int} (h:(Lit.int .i64 x).wf=true): -9223372036854775808<=x/\x<=9223372036854775807:=by
 have hmin:IntKind.i64.min= -9223372036854775808:=rfl;have hmax:IntKind.i64.max=9223372036854775807:=rfl;simp only[Lit.wf,Bool.and_eq_true,decide_eq_true_eq]at h;omega
theorem lifted (os:Os) (started:os.Started) (H:Type) (enc:TypeId×Value->H):
  ReturnsInHanded {} Tryz.checked os 3 .any (λw args=>(Rows.feedParsesSpec.pre enc Tryz.prog Tryz.f3 [] false w args/\laidMetH Tryz.prog laidL w)/\sizedMet enc Tryz.prog Tryz.f3 (OpenSpec.ofChange Rows.feedParsesSpec) false w args) (Rows.feedParsesSpec.post enc Tryz.prog Tryz.f3 false true false false):=by
 refine handed_laid (C:=Tryz.checked) (X:=λw _=>laidMetH Tryz.prog laidL w) (λ_ _ _ hh h=>h.of_heap hh) own started κ Tryz.func3
  (ChangeSpec.witness_shaped (enc:=enc) (C:=Tryz.checked) (os:=os) (X:=λw _=>laidMetH Tryz.prog laidL w) false (World.laidAll Tryz.prog os laidL) #[ByteArray.empty] 8 (World.laidAll_os _ _ _)
   (World.shaped_of_ZipB κ κ) κ κ κ
   (by rw[MakeChecks.laidMetH_plain _ _ _ κ];exact laidMet_laidAll _ κ κ)) ?_
 intro W base args ds gs before hval0 hW hsz hlaid hsh _;obtain⟨ml,hml⟩:=Go.Proofs.cell_of_shapedOpen_int (zero:= #[.int .i64 0]) (t:=3) (g:=1) hsh (of_decide_eq_true κ) κ rfl κ κ Tryz.underlying3;have hval: ∀ (j:Nat) t v,Tryz.f3.params[j]? =some t->args[j]? =some v->Value.okWide Tryz.prog W .any base t v:=hval0;have hW':=hW;obtain⟨p,q,hA0,hV,rfl,hfz,hnd⟩:=hW;have hA:DataW.TrodAll enc Tryz.prog W 0 (λ_=>true) true Tryz.f3.params.toList args.toList ds p:=hA0;rw[Tryz.params3]at hA hval;obtain⟨v0,vs0,d0,ds0,p0,q0,hargs,rfl,rfl,h0,t0⟩:=trodAll_cons hA;obtain⟨rfl,rfl,rfl⟩:=trodAll_nil t0;obtain rfl:args= #[v0]:=by cases args;simp_all
 obtain⟨rfl,rfl⟩:=trodVars_none hV;have h0k:=h0;obtain⟨a0,rfl,-,-,w0⟩:=open_string Tryz.underlying9 (hval 0 9 v0 rfl rfl) h0;clear hA0 hval0;simp only[List.append_nil]at hW';have hlt: ∀ x∈p0,x.block<W.heap.size:=λx hx=>by simpa using hW'.lt x hx
 refine(qBT a0 w0 ml W (OG hlaid hml)).mono λe W' ⟨he,bel⟩=>?_
 subst he;exact⟨_,rfl,_,_,_,[],p0++[],[],hW',trodAll_cons_mk (shut_bool Tryz.underlying4 _) trodAll_mk0,(trodAll_cons_mk (Below.trod laid κ (of_decide_eq_true κ) h0k bel (λx hx=>hlt x (by simp[hx]))) trodAll_mk0),rfl,bel.frame _,λh=>by cases h⟩
theorem over:Rows.feedParsesRow.holds Tryz.pinned (OpenSpec.ofChange Rows.feedParsesSpec):=
 OpenClaim.holds_of_wide 3 Tryz.f3 rfl rfl rfl rfl rfl rfl rfl ⟨rfl,rfl,rfl,rfl,rfl⟩ rfl rfl rfl rfl rfl (by as_aux_lemma=>kernel_rfl) Tryz.func3 (by as_aux_lemma=>kernel_rfl)
  (of_decide_eq_true (by as_aux_lemma=>kernel_rfl)) (by as_aux_lemma=>(unfold Func.isWrapper;first|(rw[U6 ξ];kernel_rfl)|(rw[U5 ξ];exact⟨rfl,rfl⟩)))
  (λos started H enc _=>lifted os started H enc)
theorem proved:Rows.FeedParsesCardSaid:=
 Claim7.holds_tied_plain_at .later [] [.data,.data,.pinned] true (true, "802c25edcf61ddf32f7ec1e5b3e47ceafafc64a09c2ab635d1b2662a96f14f5e") false over (λ_ h=>by cases h) κ (λ_ h=>by cases h) feedParses_row_tie rfl ⟨rfl,rfl⟩ κ rfl
  (λf fn hf hfn=>by
   obtain rfl:f=3:=qAB ((show Tryz.prog.funcNamed "transit/transitlaw23.FeedParses" =some 3 by kernel_rfl).symm.trans hf) |>.symm;obtain rfl:fn=Tryz.f3:=(qAB (Tryz.func3.symm.trans hfn)).symm;exact⟨κ,λj t ht=>by
    rw[Tryz.params3]at ht;have hm:t∈[9]:=by simpa using Array.mem_of_getElem? ht
    have hall:([9].all λu=> !Tryz.prog.wantsStandIn u)=true:=κ
    exact(show Tryz.prog.wantsStandIn t=false by simpa using List.all_eq_true.1 hall t hm)⟩)
  κ
#print axioms proved
end Go.Proofs.YtakedkcjplfgeaaGreatDoor.feedParses
