/- THE CARD OF THE LAW TopBent: just the batches that the bad wax reached bend; Fewest finds  -/
import Derived.Test.YtmndpldajflenaaGreatDoorCards
import Derived.Test.YtmndpldajflenaaGreatDoorTrAwX
import Derived.SevenTiedAt
import Derived.Stop.Joined
set_option linter.all false
namespace Go.Proofs.YtmndpldajflenaaGreatDoor
open Go.ChangeShapes Go.WideShapes Go.ChangeAt Go.RowKit
namespace Abs
set_option maxRecDepth 100000
theorem okBent:∀t,t∈([22,27,31]:List TypeId)->rD Tryz.prog 8 t=true/\Tryz.prog.readableRec t=true/\t<Tryz.prog.types.size:=by
 intro t ht;simp only[List.mem_cons,List.not_mem_nil,or_false]at ht;rcases ht with rfl|rfl|rfl
 .exact M6
 .exact M4
 .exact M3
theorem liftedBent(os:Os)(started:os.Started)(H:Type)(enc:TypeId×Value->H) :
  ReturnsInHanded {} Tryz.checked os 3 .any (λw args=>(Rows.topBentSpec.pre enc Tryz.prog Tryz.f3 [] false w args/\laidMetH Tryz.prog ah w)/\sizedMet enc Tryz.prog Tryz.f3 (OpenSpec.ofChange Rows.topBentSpec) false w args)
   (Rows.topBentSpec.post enc Tryz.prog Tryz.f3 false true false false):=by
 refine returnsInHanded_of_change_and (C:=Tryz.checked) (X:=λw _=>laidMetH Tryz.prog ah w) (λ_ _ _ hh h=>h.of_heap hh) MY started (by kernel_rfl) Tryz.func3
  (ChangeSpec.witness_shaped (enc:=enc) (C:=Tryz.checked) (os:=os) (X:=λw _=>laidMetH Tryz.prog ah w) false (World.laidAll Tryz.prog os ah) #[.slice none 0 0,.agg #[.int .i64 0,.int .i64 0,.int .i64 0,.int .i64 0,.int .i64 0,.slice none 0 0],.agg #[.int .u8 0,.int .u8 0,.slice none 0 0,.slice none 0 0]] 8 (World.laidAll_os _ _ _)
   (World.shaped_of_ZipB (by kernel_rfl) (by kernel_rfl)) (by kernel_rfl) (by kernel_rfl) (by kernel_rfl)
   (by rw[MakeChecks.laidMetH_plain _ _ _ (by kernel_rfl)];exact laidMet_laidAll _ (by kernel_rfl) (by kernel_rfl))) ?_
 intro W base args ds gs before hval hW _ _ hL _;refine AJ (fn:=Tryz.f3) (ts:=[22,27,31]) (tb:=4) (n:=8) (by kernel_rfl) (by kernel_rfl) (by kernel_rfl) laid okBent rfl ?_ ?_ (P8 hL) hval hW
 .intro H ds h
  match ds,h with
  |[d0,d1,d2],_=>rfl
 .rintro qs ⟨v0,r0,rfl,h0,⟨v1,r1,rfl,h1,⟨v2,r2,rfl,h2,rfl⟩⟩⟩
  obtain⟨b0,rfl,hb0⟩:=Tr.book_of h0;obtain⟨s1,rfl⟩:=Tr.season_of h1;obtain⟨x2,y2,c2,w2,rfl,hx2,hy2,hc2,hw2⟩:=Tr.bent_of h2;exact Tr.lTopBent b0 s1 x2 y2 c2 w2 hb0 hx2 hy2 hc2 hw2
end Abs
open Abs
set_option maxHeartbeats 10000000 in
theorem bent_j:joinedFacts Tryz.prog 3 Tryz.f3 Rows.topBentSpec Rows.topBentRow=true:=by
 simp only[joinedFacts,Bool.and_eq_true];and_intros<;>(as_aux_lemma=>kernel_rfl)
set_option maxHeartbeats 10000000 in
theorem bent_w:Tryz.f3.isWrapper Tryz.prog Rows.topBentRow.wrapper Rows.topBentRow.mainSum:=by
 unfold Func.isWrapper
 first
  |(rw[if_pos (by decide +kernel)];as_aux_lemma=>kernel_rfl)
  |(rw[if_neg (by decide +kernel)];exact⟨rfl,rfl⟩)
theorem bent_row:Rows.TopBentSaid:=
 OpenClaim.holds_of_wide 3 Tryz.f3 rfl rfl rfl rfl rfl rfl rfl ⟨rfl,rfl,rfl,rfl,rfl⟩ rfl rfl rfl rfl rfl (by as_aux_lemma=>kernel_rfl) Tryz.func3 bent_j
  (of_decide_eq_true (by as_aux_lemma=>kernel_rfl)) bent_w
  (λos started H enc _=>liftedBent os started H enc)
theorem bent_holds:Rows.TopBentCardSaid:=
 Claim7.holds_tied_plain_at .later [] [.data,.data,.data,.data,.sentinel,.sentinel,.pinned] true (true, "9231f6c7b261a1e1a746ea73bb2f08b0138cbf8865396cd7d350193e74fb6bf4") true
  bent_row (λ_ h=>by cases h) (by as_aux_lemma=>kernel_rfl) (λ_ h=>by cases h) topBent_row_tie rfl ⟨rfl,rfl⟩ (by as_aux_lemma=>kernel_rfl) rfl
  (λf fn hf hfn=>by
   obtain rfl:f=3:=Option.some.inj ((show Tryz.prog.funcNamed "stearin/stearintop.TopBent" = some 3 by as_aux_lemma=>kernel_rfl).symm.trans hf) |>.symm;obtain rfl:fn=Tryz.f3:=(Option.some.inj (Tryz.func3.symm.trans hfn)).symm;exact⟨by as_aux_lemma=>kernel_rfl,λj t ht=>by
    have hp:Tryz.f3.params=#[22,27,31]:=by as_aux_lemma=>kernel_rfl
    rw[hp]at ht;have hm:t∈([22,27,31]:List TypeId):=by simpa using Array.mem_of_getElem? ht
    have hall:(([22,27,31]:List TypeId).all λu=>!Tryz.prog.wantsStandIn u)=true:=by as_aux_lemma=>kernel_rfl
    exact(show Tryz.prog.wantsStandIn t=false by simpa using List.all_eq_true.1 hall t hm)⟩)
  (by as_aux_lemma=>kernel_rfl)
#print axioms bent_holds
end Go.Proofs.YtmndpldajflenaaGreatDoor
