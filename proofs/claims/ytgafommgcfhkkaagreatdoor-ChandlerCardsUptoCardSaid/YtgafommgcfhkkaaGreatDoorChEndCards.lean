/- THE CARD OF THE LAW ChandlerCards, for arguments of at most 1048576 values and letters: Ca -/
import Derived.Test.YtgafommgcfhkkaaGreatDoorAbsPickX
set_option linter.all false
namespace Go.Proofs.YtgafommgcfhkkaaGreatDoor
open Go.ChangeShapes Go.WideShapes Go.ChangeAt Go.RowKit
open Abs
set_option maxHeartbeats 10000000 in
theorem cards_j:joinedFacts Tryz.prog 4 Tryz.f4 Rows.chandlerCardsSpec Rows.chandlerCardsUptoRow=true:=by
 simp only[joinedFacts,Bool.and_eq_true];and_intros<;>(as_aux_lemma=>kernel_rfl)
set_option maxHeartbeats 10000000 in
theorem cards_w:Tryz.f4.isWrapper Tryz.prog Rows.chandlerCardsUptoRow.wrapper Rows.chandlerCardsUptoRow.mainSum:=by
 unfold Func.isWrapper
 first
  |(rw[i (by decide +kernel)];as_aux_lemma=>kernel_rfl)
  |(rw[if_neg (by decide +kernel)];exact⟨rfl,rfl⟩)
set_option maxRecDepth 100000 in
set_option maxHeartbeats 10000000 in
theorem cards_row:Rows.ChandlerCardsUptoSaid:=
 OpenClaim.holds_of_cond 4 Tryz.f4 rfl rfl rfl rfl rfl rfl rfl ⟨rfl,rfl,rfl,rfl,rfl⟩ rfl rfl rfl rfl rfl (by as_aux_lemma=>kernel_rfl) Tryz.func4 cards_j
  (of_decide_eq_true (by as_aux_lemma=>kernel_rfl)) cards_w
  (λos e H enc _ F=>by rw[OpenClaim.pre_eq_preRow];exact Kz os e H enc F)
theorem cards_holds:Rows.ChandlerCardsUptoCardSaid:=
 Claim7.holds_tied_plain_at .later [] [.data,.data,.data,.data,.sentinel,.sentinel,.pinned] true (true, "1a432796f96f806986bea0405adbb390e536474e9f6fcb4624e3afa358718c39") true
  cards_row (λ_ h=>by cases h) (by as_aux_lemma=>kernel_rfl) (λ_ h=>by cases h) chandlerCardsUpto_row_tie rfl ⟨rfl,rfl⟩ (by as_aux_lemma=>kernel_rfl) rfl
  (λf fn y i=>by
   obtain rfl:f=4:=Option.some.inj ((show Tryz.prog.funcNamed "stearin/stearinlaw13.ChandlerCards" = some 4 by as_aux_lemma=>kernel_rfl).symm.trans y) |>.symm;obtain rfl:fn=Tryz.f4:=(Option.some.inj (Tryz.func4.symm.trans i)).symm;exact⟨by as_aux_lemma=>kernel_rfl,λj t l=>by
    have q:Tryz.f4.params=#[41,42,9]:=by as_aux_lemma=>kernel_rfl
    rw[q]at l;have v:t∈([41,42,9]:List TypeId):=by simpa using Array.mem_of_getElem? l
    have e:(([41,42,9]:List TypeId).all λu=>!Tryz.prog.wantsStandIn u)=true:=by as_aux_lemma=>kernel_rfl
    exact(show Tryz.prog.wantsStandIn t=false by simpa using List.all_eq_true.1 e t v)⟩)
  (Ax rfl IG)
#print axioms cards_holds
end Go.Proofs.YtgafommgcfhkkaaGreatDoor
