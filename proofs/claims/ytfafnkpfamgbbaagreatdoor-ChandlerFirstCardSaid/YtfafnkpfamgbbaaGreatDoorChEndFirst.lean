/-
  THE CARD OF THE LAW ChandlerFirst: the answers to the first lines are the first answers to
-/
import Derived.Test.YtfafnkpfamgbbaaGreatDoorAbsCutX
import Derived.Test.YtfafnkpfamgbbaaGreatDoorCards
import Derived.Test.YtfafnkpfamgbbaaGreatDoorChLaw0X
import Derived.WalkKit
import Derived.ProofKit
import Derived.SevenTiedAt
import Derived.Stop.Joined
set_option linter.unusedSimpArgs false
set_option linter.unusedVariables false
namespace Go.Proofs.YtfafnkpfamgbbaaGreatDoor
open Go.ChangeShapes Go.WideShapes Go.ChangeAt Go.RowKit
namespace Abs
set_option maxRecDepth 100000
theorem okFirst:∀ t,t∈([41,42,5]:List TypeId)->tu Tryz.prog 8 t=true/\Tryz.prog.readableRec t=true/\t<Tryz.prog.types.size:=by
 intro t ht;simp only [List.mem_cons,List.not_mem_nil,or_false] at ht;rcases ht with rfl | rfl | rfl
 .exact S4
 .exact S3
 .exact Ys
theorem liftedFirst (os:Os) (started:os.Started) (H:Type) (enc:TypeId×Value->H) :
  ReturnsInHanded {} Tryz.checked os 5 .any (λw args=>(Rows.chandlerFirstSpec.pre enc Tryz.prog Tryz.f5 [] false w args/\laidMetH Tryz.prog am w)/\sizedMet enc Tryz.prog Tryz.f5 (OpenSpec.ofChange Rows.chandlerFirstSpec) false w args)
   (Rows.chandlerFirstSpec.post enc Tryz.prog Tryz.f5 false true false false):=by
 refine returnsInHanded_of_change_and (C:=Tryz.checked) (X:=λw _=>laidMetH Tryz.prog am w) (λ_ _ _ hh h=>h.of_heap hh) SY started (by kernel_rfl) Tryz.func5
  (ChangeSpec.witness_shaped (enc:=enc) (C:=Tryz.checked) (os:=os) (X:=λw _=>laidMetH Tryz.prog am w) false (World.laidAll Tryz.prog os am) #[.agg #[.slice none 0 0,.slice none 0 0,.int .i64 0,.slice none 0 0,.slice none 0 0,.slice none 0 0,.int .i64 0,.int .i64 0,.int .i64 0,.int .i64 0,.slice none 0 0,.slice none 0 0,.int .i64 0,.slice none 0 0,.int .i64 0,.int .i64 0,.int .i64 0],.slice none 0 0,.int .u8 0] 8 (World.laidAll_os _ _ _)
   (World.shaped_of_ZipB (by kernel_rfl) (by kernel_rfl)) (by kernel_rfl) (by kernel_rfl) (by kernel_rfl)
   (by rw [MakeChecks.laidMetH_plain _ _ _ (by kernel_rfl)];exact laidMet_laidAll _ (by kernel_rfl) (by kernel_rfl))) ?_
 intro W base args ds gs before hval hW _ _ hL _;refine Dc (fn:=Tryz.f5) (ts:=[41,42,5]) (tb:=4) (n:=8) (by kernel_rfl) (by kernel_rfl) (by kernel_rfl) laid okFirst rfl ?_ ?_ (ZB hL) hval hW
 .intro H ds h
  match ds,h with
  |[d0,d1,d2],_=>rfl
 .rintro qs ⟨v0,r0,rfl,h0,⟨v1,r1,rfl,h1,⟨v2,r2,rfl,h2,rfl⟩⟩⟩
  obtain ⟨s0,rfl⟩:=Ch.Kc h0;obtain ⟨l1,rfl,hl1⟩:=Ch.LM h1;obtain ⟨k2,rfl,hk2⟩:=PF h2;exact Ch.zA s0 l1 k2 hk2
end Abs
open Abs
set_option maxHeartbeats 10000000 in
theorem first_j:joinedFacts Tryz.prog 5 Tryz.f5 Rows.chandlerFirstSpec Rows.chandlerFirstRow=true:=by
 simp only [joinedFacts,Bool.and_eq_true];and_intros<;>(as_aux_lemma=>kernel_rfl)
set_option maxHeartbeats 10000000 in
theorem first_w:Tryz.f5.isWrapper Tryz.prog Rows.chandlerFirstRow.wrapper Rows.chandlerFirstRow.mainSum:=by
 unfold Func.isWrapper
 first
  |(rw [if_pos (by decide +kernel)];as_aux_lemma=>kernel_rfl)
  |(rw [if_neg (by decide +kernel)];exact ⟨rfl,rfl⟩)
theorem first_row:Rows.ChandlerFirstSaid :=
 OpenClaim.holds_of_wide 5 Tryz.f5 rfl rfl rfl rfl rfl rfl rfl ⟨rfl,rfl,rfl,rfl,rfl⟩ rfl rfl rfl rfl rfl (by as_aux_lemma=>kernel_rfl) Tryz.func5 first_j
  (of_decide_eq_true (by as_aux_lemma=>kernel_rfl)) first_w
  (λos started H enc _=>liftedFirst os started H enc)
theorem first_holds:Rows.ChandlerFirstCardSaid :=
 Claim7.holds_tied_plain_at .later [] [.data,.data,.data,.data,.sentinel,.sentinel,.pinned] true (true, "e5a92676fbd9e816f2ba7bd1442cea2ddc527578d163a5b2b37575fa97a78d94") true
  first_row (λ_ h=>by cases h) (by as_aux_lemma=>kernel_rfl) (λ_ h=>by cases h) chandlerFirst_row_tie rfl ⟨rfl,rfl⟩ (by as_aux_lemma=>kernel_rfl) rfl
  (λf fn hf hfn=>by
   obtain rfl:f=5:=Option.some.inj ((show Tryz.prog.funcNamed "stearin/stearinlaw13.ChandlerFirst" = some 5 by as_aux_lemma=>kernel_rfl).symm.trans hf) |>.symm;obtain rfl:fn=Tryz.f5:=(Option.some.inj (Tryz.func5.symm.trans hfn)).symm;exact ⟨by as_aux_lemma=>kernel_rfl,λj t ht=>by
    have hp:Tryz.f5.params=#[41,42,5]:=by as_aux_lemma=>kernel_rfl
    rw [hp] at ht;have hm:t∈([41,42,5]:List TypeId):=by simpa using Array.mem_of_getElem? ht
    have hall:(([41,42,5]:List TypeId).all λu=>!Tryz.prog.wantsStandIn u)=true:=by as_aux_lemma=>kernel_rfl
    exact (show Tryz.prog.wantsStandIn t=false by simpa using List.all_eq_true.1 hall t hm)⟩)
  (by as_aux_lemma=>kernel_rfl)
#print axioms first_holds
end Go.Proofs.YtfafnkpfamgbbaaGreatDoor
