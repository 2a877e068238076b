/- THE CARD OF THE LAW ChandlerPure: a lot whose answer is pure has at least Purity parts of  -/
import Derived.Test.YtoapoaoelpcniaaGreatDoorCards
import Derived.Test.YtoapoaoelpcniaaGreatDoorChLawPX
import Derived.SevenTiedAt
import Derived.Stop.Joined
set_option linter.all false
namespace Go.Proofs.YtoapoaoelpcniaaGreatDoor
open Go.ChangeShapes Go.WideShapes Go.ChangeAt Go.RowKit
namespace Abs
set_option maxRecDepth 100000
theorem okPure:∀t,t∈([41,42,69]:List TypeId)->sw Tryz.prog 8 t=true/\Tryz.prog.readableRec t=true/\t<Tryz.prog.types.size:=by
 intro t ht;simp only[List.mem_cons,List.not_mem_nil,or_false]at ht;rcases ht with rfl|rfl|rfl
 .exact Ff
 .exact Fe
 .exact Xg
theorem liftedPure(os:Os)(started:os.Started)(H:Type)(enc:TypeId×Value->H) :
  ReturnsInHanded {} Tryz.checked os 4 .any (λw args=>(Rows.chandlerPureSpec.pre enc Tryz.prog Tryz.f4 [] false w args/\laidMetH Tryz.prog aq w)/\sizedMet enc Tryz.prog Tryz.f4 (OpenSpec.ofChange Rows.chandlerPureSpec) false w args)
   (Rows.chandlerPureSpec.post enc Tryz.prog Tryz.f4 false true false false):=by
 refine returnsInHanded_of_change_and (C:=Tryz.checked) (X:=λw _=>laidMetH Tryz.prog aq w) (λ_ _ _ hh h=>h.of_heap hh) Fd started (by kernel_rfl) Tryz.func4
  (ChangeSpec.witness_shaped (enc:=enc) (C:=Tryz.checked) (os:=os) (X:=λw _=>laidMetH Tryz.prog aq w) false (World.laidAll Tryz.prog os aq) #[.agg #[.slice none 0 0,.slice none 0 0,.int .i64 0,.slice none 0 0,.slice none 0 0,.slice none 0 0,.int .i64 0,.int .i64 0,.int .i64 0,.int .i64 0,.slice none 0 0,.slice none 0 0,.int .i64 0,.slice none 0 0,.int .i64 0,.int .i64 0,.int .i64 0],.slice none 0 0,.agg #[.int .u16 0,.int .u16 0,.int .u16 0,.int .u16 0]] 8 (World.laidAll_os _ _ _)
   (World.shaped_of_ZipB (by kernel_rfl) (by kernel_rfl)) (by kernel_rfl) (by kernel_rfl) (by kernel_rfl)
   (by rw[MakeChecks.laidMetH_plain _ _ _ (by kernel_rfl)];exact laidMet_laidAll _ (by kernel_rfl) (by kernel_rfl))) ?_
 intro W base args ds gs before hval hW _ _ hL _;refine oF (fn:=Tryz.f4) (ts:=[41,42,69]) (tb:=4) (n:=8) (by kernel_rfl) (by kernel_rfl) (by kernel_rfl) laid okPure rfl ?_ ?_ (RS hL) hval hW
 .intro H ds h
  match ds,h with
  |[d0,d1,d2],_=>rfl
 .rintro qs ⟨v0,r0,rfl,h0,⟨v1,r1,rfl,h1,⟨v2,r2,rfl,h2,rfl⟩⟩⟩
  obtain⟨s0,rfl⟩:=Ch.tE h0;obtain⟨l1,rfl,hl1⟩:=Ch.vN h1;obtain⟨p2,q2,r2,t2,rfl,hp2,hq2,hr2,_⟩:=Ch.S9 h2;exact Ch.EE s0 l1 p2 q2 r2 t2 hp2 hq2 hr2
end Abs
open Abs
set_option maxHeartbeats 10000000 in
theorem pure_j:joinedFacts Tryz.prog 4 Tryz.f4 Rows.chandlerPureSpec Rows.chandlerPureRow=true:=by
 simp only[joinedFacts,Bool.and_eq_true];and_intros<;>(as_aux_lemma=>kernel_rfl)
set_option maxHeartbeats 10000000 in
theorem pure_w:Tryz.f4.isWrapper Tryz.prog Rows.chandlerPureRow.wrapper Rows.chandlerPureRow.mainSum:=by
 unfold Func.isWrapper
 first
  |(rw[if_pos (by decide +kernel)];as_aux_lemma=>kernel_rfl)
  |(rw[if_neg (by decide +kernel)];exact⟨rfl,rfl⟩)
theorem pure_row:Rows.ChandlerPureSaid:=
 OpenClaim.holds_of_wide 4 Tryz.f4 rfl rfl rfl rfl rfl rfl rfl ⟨rfl,rfl,rfl,rfl,rfl⟩ rfl rfl rfl rfl rfl (by as_aux_lemma=>kernel_rfl) Tryz.func4 pure_j
  (of_decide_eq_true (by as_aux_lemma=>kernel_rfl)) pure_w
  (λos started H enc _=>liftedPure os started H enc)
theorem pure_holds:Rows.ChandlerPureCardSaid:=
 Claim7.holds_tied_plain_at .later [] [.data,.data,.data,.data,.sentinel,.sentinel,.pinned] true (true, "258fc1a9003db9c48ccfd3d94dab1f9ec504113ffbd4891cc62b54fd1f64134a") true
  pure_row (λ_ h=>by cases h) (by as_aux_lemma=>kernel_rfl) (λ_ h=>by cases h) chandlerPure_row_tie rfl ⟨rfl,rfl⟩ (by as_aux_lemma=>kernel_rfl) rfl
  (λf fn hf hfn=>by
   obtain rfl:f=4:=Option.some.inj ((show Tryz.prog.funcNamed "stearin/stearinlaw13.ChandlerPure" = some 4 by as_aux_lemma=>kernel_rfl).symm.trans hf) |>.symm;obtain rfl:fn=Tryz.f4:=(Option.some.inj (Tryz.func4.symm.trans hfn)).symm;exact⟨by as_aux_lemma=>kernel_rfl,λj t ht=>by
    have hp:Tryz.f4.params=#[41,42,69]:=by as_aux_lemma=>kernel_rfl
    rw[hp]at ht;have hm:t∈([41,42,69]:List TypeId):=by simpa using Array.mem_of_getElem? ht
    have hall:(([41,42,69]:List TypeId).all λu=>!Tryz.prog.wantsStandIn u)=true:=by as_aux_lemma=>kernel_rfl
    exact(show Tryz.prog.wantsStandIn t=false by simpa using List.all_eq_true.1 hall t hm)⟩)
  (by as_aux_lemma=>kernel_rfl)
#print axioms pure_holds
end Go.Proofs.YtoapoaoelpcniaaGreatDoor
