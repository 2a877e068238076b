/- THE CARD OF THE LAW ChandlerPoured: what pour answers is what the best order loses, and wh -/
import Derived.Test.YtoapoaoelpcniaaGreatDoorCards
import Derived.Test.YtoapoaoelpcniaaGreatDoorChLawXX
import Derived.SevenTiedAt
import Derived.Stop.Joined
set_option linter.all false
namespace Go.Proofs.YtoapoaoelpcniaaGreatDoor
open Go.ChangeShapes Go.WideShapes Go.ChangeAt Go.RowKit
namespace Abs
set_option maxRecDepth 100000
theorem okPoured:∀t,t∈([41,42]:List TypeId)->sw Tryz.prog 8 t=true/\Tryz.prog.readableRec t=true/\t<Tryz.prog.types.size:=by
 intro t ht;simp only[List.mem_cons,List.not_mem_nil,or_false]at ht;rcases ht with rfl|rfl
 .exact Ff
 .exact Fe
theorem liftedPoured(os:Os)(started:os.Started)(H:Type)(enc:TypeId×Value->H) :
  ReturnsInHanded {} Tryz.checked os 5 .any (λw args=>(Rows.chandlerPouredSpec.pre enc Tryz.prog Tryz.f5 [] false w args/\laidMetH Tryz.prog aq w)/\sizedMet enc Tryz.prog Tryz.f5 (OpenSpec.ofChange Rows.chandlerPouredSpec) false w args)
   (Rows.chandlerPouredSpec.post enc Tryz.prog Tryz.f5 false true false false):=by
 refine returnsInHanded_of_change_and (C:=Tryz.checked) (X:=λw _=>laidMetH Tryz.prog aq w) (λ_ _ _ hh h=>h.of_heap hh) Fd started (by kernel_rfl) Tryz.func5
  (ChangeSpec.witness_shaped (enc:=enc) (C:=Tryz.checked) (os:=os) (X:=λw _=>laidMetH Tryz.prog aq w) false (World.laidAll Tryz.prog os aq) #[.agg #[.slice none 0 0,.slice none 0 0,.int .i64 0,.slice none 0 0,.slice none 0 0,.slice none 0 0,.int .i64 0,.int .i64 0,.int .i64 0,.int .i64 0,.slice none 0 0,.slice none 0 0,.int .i64 0,.slice none 0 0,.int .i64 0,.int .i64 0,.int .i64 0],.slice none 0 0] 8 (World.laidAll_os _ _ _)
   (World.shaped_of_ZipB (by kernel_rfl) (by kernel_rfl)) (by kernel_rfl) (by kernel_rfl) (by kernel_rfl)
   (by rw[MakeChecks.laidMetH_plain _ _ _ (by kernel_rfl)];exact laidMet_laidAll _ (by kernel_rfl) (by kernel_rfl))) ?_
 intro W base args ds gs before hval hW _ _ hL _;refine oF (fn:=Tryz.f5) (ts:=[41,42]) (tb:=4) (n:=8) (by kernel_rfl) (by kernel_rfl) (by kernel_rfl) laid okPoured rfl ?_ ?_ (RS hL) hval hW
 .intro H ds h
  match ds,h with
  |[d0,d1],_=>rfl
 .rintro qs ⟨v0,r0,rfl,h0,⟨v1,r1,rfl,h1,rfl⟩⟩
  obtain⟨s0,rfl⟩:=Ch.tE h0;obtain⟨l1,rfl,hl1⟩:=Ch.vN h1;exact Ch.Bf s0 l1
end Abs
open Abs
set_option maxHeartbeats 10000000 in
theorem poured_j:joinedFacts Tryz.prog 5 Tryz.f5 Rows.chandlerPouredSpec Rows.chandlerPouredRow=true:=by
 simp only[joinedFacts,Bool.and_eq_true];and_intros<;>(as_aux_lemma=>kernel_rfl)
set_option maxHeartbeats 10000000 in
theorem poured_w:Tryz.f5.isWrapper Tryz.prog Rows.chandlerPouredRow.wrapper Rows.chandlerPouredRow.mainSum:=by
 unfold Func.isWrapper
 first
  |(rw[if_pos (by decide +kernel)];as_aux_lemma=>kernel_rfl)
  |(rw[if_neg (by decide +kernel)];exact⟨rfl,rfl⟩)
theorem poured_row:Rows.ChandlerPouredSaid:=
 OpenClaim.holds_of_wide 5 Tryz.f5 rfl rfl rfl rfl rfl rfl rfl ⟨rfl,rfl,rfl,rfl,rfl⟩ rfl rfl rfl rfl rfl (by as_aux_lemma=>kernel_rfl) Tryz.func5 poured_j
  (of_decide_eq_true (by as_aux_lemma=>kernel_rfl)) poured_w
  (λos started H enc _=>liftedPoured os started H enc)
theorem poured_holds:Rows.ChandlerPouredCardSaid:=
 Claim7.holds_tied_plain_at .later [] [.data,.data,.data,.data,.sentinel,.sentinel,.pinned] true (true, "258fc1a9003db9c48ccfd3d94dab1f9ec504113ffbd4891cc62b54fd1f64134a") true
  poured_row (λ_ h=>by cases h) (by as_aux_lemma=>kernel_rfl) (λ_ h=>by cases h) chandlerPoured_row_tie rfl ⟨rfl,rfl⟩ (by as_aux_lemma=>kernel_rfl) rfl
  (λf fn hf hfn=>by
   obtain rfl:f=5:=Option.some.inj ((show Tryz.prog.funcNamed "stearin/stearinlaw13.ChandlerPoured" = some 5 by as_aux_lemma=>kernel_rfl).symm.trans hf) |>.symm;obtain rfl:fn=Tryz.f5:=(Option.some.inj (Tryz.func5.symm.trans hfn)).symm;exact⟨by as_aux_lemma=>kernel_rfl,λj t ht=>by
    have hp:Tryz.f5.params=#[41,42]:=by as_aux_lemma=>kernel_rfl
    rw[hp]at ht;have hm:t∈([41,42]:List TypeId):=by simpa using Array.mem_of_getElem? ht
    have hall:(([41,42]:List TypeId).all λu=>!Tryz.prog.wantsStandIn u)=true:=by as_aux_lemma=>kernel_rfl
    exact(show Tryz.prog.wantsStandIn t=false by simpa using List.all_eq_true.1 hall t hm)⟩)
  (by as_aux_lemma=>kernel_rfl)
#print axioms poured_holds
end Go.Proofs.YtoapoaoelpcniaaGreatDoor
