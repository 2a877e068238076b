/-
  THE CARD OF THE LAW ChandlerKnown: the examples of the document. No conditions.
-/
import Derived.Test.YtahlnclapingiaaGreatDoorChEnd0X
import Derived.Test.YtahlnclapingiaaGreatDoorCards
import Derived.Test.YtahlnclapingiaaGreatDoorChLaw0X
import Derived.WalkKit
import Derived.ProofKit
import Derived.SevenTiedAt
import Derived.Stop.Joined
set_option linter.unusedSimpArgs false
set_option linter.unusedVariables false
namespace Go.Proofs.YtahlnclapingiaaGreatDoor
open Go.ChangeShapes Go.WideShapes Go.ChangeAt Go.RowKit
namespace Abs
set_option maxRecDepth 100000
theorem okKnown:∀ t,t∈([]:List TypeId)→okT Tryz.prog 8 t=true∧Tryz.prog.readableRec t=true∧t<Tryz.prog.types.size:=by
 intro t ht
 cases ht
theorem liftedKnown (os:Os) (started:os.Started) (H:Type) (enc:TypeId×Value→H) :
  ReturnsInHanded {} Tryz.checked os 4 .any (fun w args=>(Rows.chandlerKnownSpec.pre enc Tryz.prog Tryz.f4 [] false w args∧laidMetH Tryz.prog zai w)∧sizedMet enc Tryz.prog Tryz.f4 (OpenSpec.ofChange Rows.chandlerKnownSpec) false w args)
   (Rows.chandlerKnownSpec.post enc Tryz.prog Tryz.f4 false true false false):=by
 refine returnsInHanded_of_change_and (C:=Tryz.checked) (X:=fun w _=>laidMetH Tryz.prog zai w) (fun _ _ _ hh h=>h.of_heap hh) zHF started (by kernel_rfl) Tryz.func4
  (ChangeSpec.witness_shaped (enc:=enc) (C:=Tryz.checked) (os:=os) (X:=fun w _=>laidMetH Tryz.prog zai w) false (World.laidAll Tryz.prog os zai) #[] 8 (World.laidAll_os _ _ _)
   (World.shaped_of_ZipB (by kernel_rfl) (by kernel_rfl)) (by kernel_rfl) (by kernel_rfl) (by kernel_rfl)
   (by rw [MakeChecks.laidMetH_plain _ _ _ (by kernel_rfl)];exact laidMet_laidAll _ (by kernel_rfl) (by kernel_rfl))) ?_
 intro W base args ds gs before hval hW _ _ hL _
 refine ztx (fn:=Tryz.f4) (ts:=[]) (tb:=4) (n:=8) (by kernel_rfl) (by kernel_rfl) (by kernel_rfl) laid okKnown rfl ?_ ?_ (gok hL) hval hW
 ·intro H ds h
  match ds,h with
  |[],_=>rfl
 ·rintro qs rfl
  exact Ch.zqy
end Abs
open Abs
set_option maxHeartbeats 10000000 in
theorem known_j:joinedFacts Tryz.prog 4 Tryz.f4 Rows.chandlerKnownSpec Rows.chandlerKnownRow=true:=by
 simp only [joinedFacts,Bool.and_eq_true]
 and_intros<;>(as_aux_lemma=>kernel_rfl)
set_option maxHeartbeats 10000000 in
theorem known_w:Tryz.f4.isWrapper Tryz.prog Rows.chandlerKnownRow.wrapper Rows.chandlerKnownRow.mainSum:=by
 unfold Func.isWrapper
 first
  |(rw [if_pos (by decide +kernel)];as_aux_lemma=>kernel_rfl)
  |(rw [if_neg (by decide +kernel)];exact ⟨rfl,rfl⟩)
theorem known_row:Rows.ChandlerKnownSaid :=
 OpenClaim.holds_of_wide 4 Tryz.f4 rfl rfl rfl rfl rfl rfl rfl ⟨rfl,rfl,rfl,rfl,rfl⟩ rfl rfl rfl rfl rfl (by as_aux_lemma=>kernel_rfl) Tryz.func4 known_j
  (of_decide_eq_true (by as_aux_lemma=>kernel_rfl)) known_w
  (fun os started H enc _=>liftedKnown os started H enc)
theorem known_holds:Rows.ChandlerKnownCardSaid :=
 Claim7.holds_tied_plain_at .later [] [.data,.data,.data,.data,.sentinel,.sentinel,.pinned] true (true, "43af8154df8d7d9c8f1c7c8c81f82d8bf1b29a849508ef9b2588659e4859dc55") true
  known_row (fun _ h=>by cases h) (by as_aux_lemma=>kernel_rfl) (fun _ h=>by cases h) chandlerKnown_row_tie rfl ⟨rfl,rfl⟩ (by as_aux_lemma=>kernel_rfl) rfl
  (fun f fn hf hfn=>by
   obtain rfl:f=4:=Option.some.inj ((show Tryz.prog.funcNamed "stearin/stearinlaw13.ChandlerKnown" = some 4 by as_aux_lemma=>kernel_rfl).symm.trans hf) |>.symm
   obtain rfl:fn=Tryz.f4:=(Option.some.inj (Tryz.func4.symm.trans hfn)).symm
   exact ⟨by as_aux_lemma=>kernel_rfl,fun j t ht=>by
    have hp:Tryz.f4.params=#[]:=by as_aux_lemma=>kernel_rfl
    rw [hp] at ht
    have hm:t∈([]:List TypeId):=by simpa using Array.mem_of_getElem? ht
    have hall:(([]:List TypeId).all fun u=>!Tryz.prog.wantsStandIn u)=true:=by as_aux_lemma=>kernel_rfl
    exact (show Tryz.prog.wantsStandIn t=false by simpa using List.all_eq_true.1 hall t hm)⟩)
  (by as_aux_lemma=>kernel_rfl)
#print axioms known_holds
end Go.Proofs.YtahlnclapingiaaGreatDoor
