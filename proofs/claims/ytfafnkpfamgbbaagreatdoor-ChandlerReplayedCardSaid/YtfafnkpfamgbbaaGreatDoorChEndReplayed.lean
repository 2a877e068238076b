/-
  THE CARD OF THE LAW ChandlerReplayed: Replay of what Cards returns has the books that ther
-/
import Derived.Test.YtfafnkpfamgbbaaGreatDoorAbsCutX
import Derived.Test.YtfafnkpfamgbbaaGreatDoorCards
import Derived.Test.YtfafnkpfamgbbaaGreatDoorChRoundX
import Derived.WalkKit
import Derived.ProofKit
import Derived.SevenTiedAt
import Derived.Stop.Joined
set_option linter.unusedSimpArgs false
set_option linter.unusedVariables false
namespace Go.Proofs.YtfafnkpfamgbbaaGreatDoor
open Go.ChangeShapes Go.WideShapes Go.ChangeAt Go.RowKit
namespace Abs
set_option maxRecDepth 100000
theorem okReplayed:∀ t,t∈([41,42]:List TypeId)->sZ Tryz.prog 8 t=true/\Tryz.prog.readableRec t=true/\t<Tryz.prog.types.size:=by
 intro t ht;simp only [List.mem_cons,List.not_mem_nil,or_false] at ht;rcases ht with rfl | rfl
 .exact P0
 .exact PZ
theorem liftedReplayed (os:Os) (started:os.Started) (H:Type) (enc:TypeId×Value->H) :
  ReturnsInHanded {} Tryz.checked os 3 .any (λw args=>(Rows.chandlerReplayedSpec.pre enc Tryz.prog Tryz.f3 [] false w args/\laidMetH Tryz.prog ao w)/\sizedMet enc Tryz.prog Tryz.f3 (OpenSpec.ofChange Rows.chandlerReplayedSpec) false w args)
   (Rows.chandlerReplayedSpec.post enc Tryz.prog Tryz.f3 false true false false):=by
 refine returnsInHanded_of_change_and (C:=Tryz.checked) (X:=λw _=>laidMetH Tryz.prog ao w) (λ_ _ _ hh h=>h.of_heap hh) PY started (by kernel_rfl) Tryz.func3
  (ChangeSpec.witness_shaped (enc:=enc) (C:=Tryz.checked) (os:=os) (X:=λw _=>laidMetH Tryz.prog ao w) false (World.laidAll Tryz.prog os ao) #[.agg #[.slice none 0 0,.slice none 0 0,.int .i64 0,.slice none 0 0,.slice none 0 0,.slice none 0 0,.int .i64 0,.int .i64 0,.int .i64 0,.int .i64 0,.slice none 0 0,.slice none 0 0,.int .i64 0,.slice none 0 0,.int .i64 0,.int .i64 0,.int .i64 0],.slice none 0 0] 8 (World.laidAll_os _ _ _)
   (World.shaped_of_ZipB (by kernel_rfl) (by kernel_rfl)) (by kernel_rfl) (by kernel_rfl) (by kernel_rfl)
   (by rw [MakeChecks.laidMetH_plain _ _ _ (by kernel_rfl)];exact laidMet_laidAll _ (by kernel_rfl) (by kernel_rfl))) ?_
 intro W base args ds gs before hval hW _ _ hL _;refine vW (fn:=Tryz.f3) (ts:=[41,42]) (tb:=4) (n:=8) (by kernel_rfl) (by kernel_rfl) (by kernel_rfl) laid okReplayed rfl ?_ ?_ (ZL hL) hval hW
 .intro H ds h
  match ds,h with
  |[d0,d1],_=>rfl
 .rintro qs ⟨v0,r0,rfl,h0,⟨v1,r1,rfl,h1,rfl⟩⟩
  obtain ⟨s0,rfl⟩:=Ch.C5 h0;obtain ⟨l1,rfl,hl1⟩:=Ch.Ft h1;exact Ch.xF s0 l1
end Abs
open Abs
set_option maxHeartbeats 10000000 in
theorem replayed_j:joinedFacts Tryz.prog 3 Tryz.f3 Rows.chandlerReplayedSpec Rows.chandlerReplayedRow=true:=by
 simp only [joinedFacts,Bool.and_eq_true];and_intros<;>(as_aux_lemma=>kernel_rfl)
set_option maxHeartbeats 10000000 in
theorem replayed_w:Tryz.f3.isWrapper Tryz.prog Rows.chandlerReplayedRow.wrapper Rows.chandlerReplayedRow.mainSum:=by
 unfold Func.isWrapper
 first
  |(rw [if_pos (by decide +kernel)];as_aux_lemma=>kernel_rfl)
  |(rw [if_neg (by decide +kernel)];exact ⟨rfl,rfl⟩)
theorem replayed_row:Rows.ChandlerReplayedSaid :=
 OpenClaim.holds_of_wide 3 Tryz.f3 rfl rfl rfl rfl rfl rfl rfl ⟨rfl,rfl,rfl,rfl,rfl⟩ rfl rfl rfl rfl rfl (by as_aux_lemma=>kernel_rfl) Tryz.func3 replayed_j
  (of_decide_eq_true (by as_aux_lemma=>kernel_rfl)) replayed_w
  (λos started H enc _=>liftedReplayed os started H enc)
theorem replayed_holds:Rows.ChandlerReplayedCardSaid :=
 Claim7.holds_tied_plain_at .later [] [.data,.data,.data,.data,.sentinel,.sentinel,.pinned] true (true, "e5a92676fbd9e816f2ba7bd1442cea2ddc527578d163a5b2b37575fa97a78d94") true
  replayed_row (λ_ h=>by cases h) (by as_aux_lemma=>kernel_rfl) (λ_ h=>by cases h) chandlerReplayed_row_tie rfl ⟨rfl,rfl⟩ (by as_aux_lemma=>kernel_rfl) rfl
  (λf fn hf hfn=>by
   obtain rfl:f=3:=Option.some.inj ((show Tryz.prog.funcNamed "stearin/stearinlaw13.ChandlerReplayed" = some 3 by as_aux_lemma=>kernel_rfl).symm.trans hf) |>.symm;obtain rfl:fn=Tryz.f3:=(Option.some.inj (Tryz.func3.symm.trans hfn)).symm;exact ⟨by as_aux_lemma=>kernel_rfl,λj t ht=>by
    have hp:Tryz.f3.params=#[41,42]:=by as_aux_lemma=>kernel_rfl
    rw [hp] at ht;have hm:t∈([41,42]:List TypeId):=by simpa using Array.mem_of_getElem? ht
    have hall:(([41,42]:List TypeId).all λu=>!Tryz.prog.wantsStandIn u)=true:=by as_aux_lemma=>kernel_rfl
    exact (show Tryz.prog.wantsStandIn t=false by simpa using List.all_eq_true.1 hall t hm)⟩)
  (by as_aux_lemma=>kernel_rfl)
#print axioms replayed_holds
end Go.Proofs.YtfafnkpfamgbbaaGreatDoor
