/- THE CARD OF THE LAW TopTests: tests that are written as sheets and taken by the chandler i -/
import Derived.Test.YtnjiadikeacfaaaGreatDoorCards
import Derived.Test.YtnjiadikeacfaaaGreatDoorTopTstLX
import Derived.SevenTiedAt
import Derived.Stop.Joined
set_option linter.all false
namespace Go.Proofs.YtnjiadikeacfaaaGreatDoor
open Go.ChangeShapes Go.WideShapes Go.ChangeAt Go.RowKit
namespace Abs
set_option maxRecDepth 100000
theorem okTests:∀t,t∈([41,42,43]:List TypeId)->uM Tryz.prog 8 t=true/\Tryz.prog.readableRec t=true/\t<Tryz.prog.types.size:=by
 intro t ht;simp only[List.mem_cons,List.not_mem_nil,or_false]at ht;rcases ht with rfl|rfl|rfl
 .exact Vg
 .exact Vf
 .exact Ve
theorem liftedTests(os:Os)(started:os.Started)(H:Type)(enc:TypeId×Value->H) :
  ReturnsInHanded {} Tryz.checked os 3 .any (λw args=>(Rows.topTestsSpec.pre enc Tryz.prog Tryz.f3 [] false w args/\laidMetH Tryz.prog ao w)/\sizedMet enc Tryz.prog Tryz.f3 (OpenSpec.ofChange Rows.topTestsSpec) false w args)
   (Rows.topTestsSpec.post enc Tryz.prog Tryz.f3 false true false false):=by
 refine returnsInHanded_of_change_and (C:=Tryz.checked) (X:=λw _=>laidMetH Tryz.prog ao w) (λ_ _ _ hh h=>h.of_heap hh) Vc started (by kernel_rfl) Tryz.func3
  (ChangeSpec.witness_shaped (enc:=enc) (C:=Tryz.checked) (os:=os) (X:=λw _=>laidMetH Tryz.prog ao w) false (World.laidAll Tryz.prog os ao) #[.agg #[.slice none 0 0,.slice none 0 0,.int .i64 0,.slice none 0 0,.slice none 0 0,.slice none 0 0,.int .i64 0,.int .i64 0,.int .i64 0,.int .i64 0,.slice none 0 0,.slice none 0 0,.int .i64 0,.slice none 0 0,.int .i64 0,.int .i64 0,.int .i64 0],.slice none 0 0,.slice none 0 0] 8 (World.laidAll_os _ _ _)
   (World.shaped_of_ZipB (by kernel_rfl) (by kernel_rfl)) (by kernel_rfl) (by kernel_rfl) (by kernel_rfl)
   (by rw[MakeChecks.laidMetH_plain _ _ _ (by kernel_rfl)];exact laidMet_laidAll _ (by kernel_rfl) (by kernel_rfl))) ?_
 intro W base args ds gs before hval hW _ _ hL _;refine EX (fn:=Tryz.f3) (ts:=[41,42,43]) (tb:=4) (n:=8) (by kernel_rfl) (by kernel_rfl) (by kernel_rfl) laid okTests rfl ?_ ?_ (Ys hL) hval hW
 .intro H ds h
  match ds,h with
  |[d0,d1,d2],_=>rfl
 .rintro qs ⟨v0,r0,rfl,h0,⟨v1,r1,rfl,h1,⟨v2,r2,rfl,h2,rfl⟩⟩⟩
  obtain⟨s0,rfl⟩:=Ch.Mk h0;obtain⟨l1,rfl⟩:=Ny h1;obtain⟨x2,rfl,hx2,hxl2⟩:=Ch.O3 h2;exact Ch.LC s0 l1 x2 hx2 hxl2
end Abs
open Abs
set_option maxHeartbeats 10000000 in
theorem tests_j:joinedFacts Tryz.prog 3 Tryz.f3 Rows.topTestsSpec Rows.topTestsRow=true:=by
 simp only[joinedFacts,Bool.and_eq_true];and_intros<;>(as_aux_lemma=>kernel_rfl)
set_option maxHeartbeats 10000000 in
theorem tests_w:Tryz.f3.isWrapper Tryz.prog Rows.topTestsRow.wrapper Rows.topTestsRow.mainSum:=by
 unfold Func.isWrapper
 first
  |(rw[if_pos (by decide +kernel)];as_aux_lemma=>kernel_rfl)
  |(rw[if_neg (by decide +kernel)];exact⟨rfl,rfl⟩)
theorem tests_row:Rows.TopTestsSaid:=
 OpenClaim.holds_of_wide 3 Tryz.f3 rfl rfl rfl rfl rfl rfl rfl ⟨rfl,rfl,rfl,rfl,rfl⟩ rfl rfl rfl rfl rfl (by as_aux_lemma=>kernel_rfl) Tryz.func3 tests_j
  (of_decide_eq_true (by as_aux_lemma=>kernel_rfl)) tests_w
  (λos started H enc _=>liftedTests os started H enc)
theorem tests_holds:Rows.TopTestsCardSaid:=
 Claim7.holds_tied_plain_at .later [] [.data,.data,.data,.data,.sentinel,.sentinel,.pinned] true (true, "bfb889557882c4748501a859a351521e8b4c37cfddac82dd42bfe77bcd44542b") true
  tests_row (λ_ h=>by cases h) (by as_aux_lemma=>kernel_rfl) (λ_ h=>by cases h) topTests_row_tie rfl ⟨rfl,rfl⟩ (by as_aux_lemma=>kernel_rfl) rfl
  (λf fn hf hfn=>by
   obtain rfl:f=3:=Option.some.inj ((show Tryz.prog.funcNamed "stearin/stearintop.TopTests" = some 3 by as_aux_lemma=>kernel_rfl).symm.trans hf) |>.symm;obtain rfl:fn=Tryz.f3:=(Option.some.inj (Tryz.func3.symm.trans hfn)).symm;exact⟨by as_aux_lemma=>kernel_rfl,λj t ht=>by
    have hp:Tryz.f3.params=#[41,42,43]:=by as_aux_lemma=>kernel_rfl
    rw[hp]at ht;have hm:t∈([41,42,43]:List TypeId):=by simpa using Array.mem_of_getElem? ht
    have hall:(([41,42,43]:List TypeId).all λu=>!Tryz.prog.wantsStandIn u)=true:=by as_aux_lemma=>kernel_rfl
    exact(show Tryz.prog.wantsStandIn t=false by simpa using List.all_eq_true.1 hall t hm)⟩)
  (by as_aux_lemma=>kernel_rfl)
#print axioms tests_holds
end Go.Proofs.YtnjiadikeacfaaaGreatDoor
