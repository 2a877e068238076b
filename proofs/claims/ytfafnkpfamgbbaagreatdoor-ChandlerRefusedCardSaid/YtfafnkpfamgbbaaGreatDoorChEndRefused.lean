/-
  THE CARD OF THE LAW ChandlerRefused: without a line that was refused, or a question, all o
-/
import Derived.Test.YtfafnkpfamgbbaaGreatDoorAbsCutX
import Derived.Test.YtfafnkpfamgbbaaGreatDoorCards
import Derived.Test.YtfafnkpfamgbbaaGreatDoorChRoundX
import Derived.WalkKit
import Derived.ProofKit
import Derived.SevenTiedAt
import Derived.Stop.Joined
set_option linter.unusedSimpArgs false
set_option linter.unusedVariables false
namespace Go.Proofs.YtfafnkpfamgbbaaGreatDoor
open Go.ChangeShapes Go.WideShapes Go.ChangeAt Go.RowKit
namespace Abs
set_option maxRecDepth 100000
theorem okRefused:∀ t,t∈([41,42,5]:List TypeId)->sZ Tryz.prog 8 t=true/\Tryz.prog.readableRec t=true/\t<Tryz.prog.types.size:=by
 intro t ht;simp only [List.mem_cons,List.not_mem_nil,or_false] at ht;rcases ht with rfl | rfl | rfl
 .exact P0
 .exact PZ
 .exact zbi
theorem liftedRefused (os:Os) (started:os.Started) (H:Type) (enc:TypeId×Value->H) :
  ReturnsInHanded {} Tryz.checked os 4 .any (λw args=>(Rows.chandlerRefusedSpec.pre enc Tryz.prog Tryz.f4 [] false w args/\laidMetH Tryz.prog ao w)/\sizedMet enc Tryz.prog Tryz.f4 (OpenSpec.ofChange Rows.chandlerRefusedSpec) false w args)
   (Rows.chandlerRefusedSpec.post enc Tryz.prog Tryz.f4 false true false false):=by
 refine returnsInHanded_of_change_and (C:=Tryz.checked) (X:=λw _=>laidMetH Tryz.prog ao w) (λ_ _ _ hh h=>h.of_heap hh) PY started (by kernel_rfl) Tryz.func4
  (ChangeSpec.witness_shaped (enc:=enc) (C:=Tryz.checked) (os:=os) (X:=λw _=>laidMetH Tryz.prog ao w) false (World.laidAll Tryz.prog os ao) #[.agg #[.slice none 0 0,.slice none 0 0,.int .i64 0,.slice none 0 0,.slice none 0 0,.slice none 0 0,.int .i64 0,.int .i64 0,.int .i64 0,.int .i64 0,.slice none 0 0,.slice none 0 0,.int .i64 0,.slice none 0 0,.int .i64 0,.int .i64 0,.int .i64 0],.slice none 0 0,.int .u8 0] 8 (World.laidAll_os _ _ _)
   (World.shaped_of_ZipB (by kernel_rfl) (by kernel_rfl)) (by kernel_rfl) (by kernel_rfl) (by kernel_rfl)
   (by rw [MakeChecks.laidMetH_plain _ _ _ (by kernel_rfl)];exact laidMet_laidAll _ (by kernel_rfl) (by kernel_rfl))) ?_
 intro W base args ds gs before hval hW _ _ hL _;refine vW (fn:=Tryz.f4) (ts:=[41,42,5]) (tb:=4) (n:=8) (by kernel_rfl) (by kernel_rfl) (by kernel_rfl) laid okRefused rfl ?_ ?_ (ZL hL) hval hW
 .intro H ds h
  match ds,h with
  |[d0,d1,d2],_=>rfl
 .rintro qs ⟨v0,r0,rfl,h0,⟨v1,r1,rfl,h1,⟨v2,r2,rfl,h2,rfl⟩⟩⟩
  obtain ⟨s0,rfl⟩:=Ch.C5 h0;obtain ⟨l1,rfl,hl1⟩:=Ch.Ft h1;obtain ⟨k2,rfl,hk2⟩:=St h2;exact Ch.yN s0 l1 k2 hk2
end Abs
open Abs
set_option maxHeartbeats 10000000 in
theorem refused_j:joinedFacts Tryz.prog 4 Tryz.f4 Rows.chandlerRefusedSpec Rows.chandlerRefusedRow=true:=by
 simp only [joinedFacts,Bool.and_eq_true];and_intros<;>(as_aux_lemma=>kernel_rfl)
set_option maxHeartbeats 10000000 in
theorem refused_w:Tryz.f4.isWrapper Tryz.prog Rows.chandlerRefusedRow.wrapper Rows.chandlerRefusedRow.mainSum:=by
 unfold Func.isWrapper
 first
  |(rw [if_pos (by decide +kernel)];as_aux_lemma=>kernel_rfl)
  |(rw [if_neg (by decide +kernel)];exact ⟨rfl,rfl⟩)
theorem refused_row:Rows.ChandlerRefusedSaid :=
 OpenClaim.holds_of_wide 4 Tryz.f4 rfl rfl rfl rfl rfl rfl rfl ⟨rfl,rfl,rfl,rfl,rfl⟩ rfl rfl rfl rfl rfl (by as_aux_lemma=>kernel_rfl) Tryz.func4 refused_j
  (of_decide_eq_true (by as_aux_lemma=>kernel_rfl)) refused_w
  (λos started H enc _=>liftedRefused os started H enc)
theorem refused_holds:Rows.ChandlerRefusedCardSaid :=
 Claim7.holds_tied_plain_at .later [] [.data,.data,.data,.data,.sentinel,.sentinel,.pinned] true (true, "e5a92676fbd9e816f2ba7bd1442cea2ddc527578d163a5b2b37575fa97a78d94") true
  refused_row (λ_ h=>by cases h) (by as_aux_lemma=>kernel_rfl) (λ_ h=>by cases h) chandlerRefused_row_tie rfl ⟨rfl,rfl⟩ (by as_aux_lemma=>kernel_rfl) rfl
  (λf fn hf hfn=>by
   obtain rfl:f=4:=Option.some.inj ((show Tryz.prog.funcNamed "stearin/stearinlaw13.ChandlerRefused" = some 4 by as_aux_lemma=>kernel_rfl).symm.trans hf) |>.symm;obtain rfl:fn=Tryz.f4:=(Option.some.inj (Tryz.func4.symm.trans hfn)).symm;exact ⟨by as_aux_lemma=>kernel_rfl,λj t ht=>by
    have hp:Tryz.f4.params=#[41,42,5]:=by as_aux_lemma=>kernel_rfl
    rw [hp] at ht;have hm:t∈([41,42,5]:List TypeId):=by simpa using Array.mem_of_getElem? ht
    have hall:(([41,42,5]:List TypeId).all λu=>!Tryz.prog.wantsStandIn u)=true:=by as_aux_lemma=>kernel_rfl
    exact (show Tryz.prog.wantsStandIn t=false by simpa using List.all_eq_true.1 hall t hm)⟩)
  (by as_aux_lemma=>kernel_rfl)
#print axioms refused_holds
end Go.Proofs.YtfafnkpfamgbbaaGreatDoor
