/- THE CARD OF THE LAW ChandlerDropped: if a batch is entered and then dropped the books are  -/
import Derived.Test.YtmndpldajflenaaGreatDoorCards
import Derived.Test.YtmndpldajflenaaGreatDoorChLawEX
import Derived.SevenTiedAt
import Derived.Stop.Joined
set_option linter.all false
namespace Go.Proofs.YtmndpldajflenaaGreatDoor
open Go.ChangeShapes Go.WideShapes Go.ChangeAt Go.RowKit
namespace Abs
set_option maxRecDepth 100000
theorem okDropped:∀t,t∈([71,72,75]:List TypeId)->tV Tryz.prog 8 t=true/\Tryz.prog.readableRec t=true/\t<Tryz.prog.types.size:=by
 intro t a;simp only[List.mem_cons,List.not_mem_nil,or_false]at a;rcases a with rfl|rfl|rfl
 .exact TO
 .exact TN
 .exact TM
theorem liftedDropped(os:Os)(a:os.Started)(H:Type)(enc:TypeId×Value->H) :
  ReturnsInHanded {} Tryz.checked os 4 .any (λw args=>(Rows.chandlerDroppedSpec.pre enc Tryz.prog Tryz.f4 [] false w args/\laidMetH Tryz.prog al w)/\sizedMet enc Tryz.prog Tryz.f4 (OpenSpec.ofChange Rows.chandlerDroppedSpec) false w args)
   (Rows.chandlerDroppedSpec.post enc Tryz.prog Tryz.f4 false true false false):=by
 refine returnsInHanded_of_change_and (C:=Tryz.checked) (X:=λw _=>laidMetH Tryz.prog al w) (λ_ _ _ hh h=>h.of_heap hh) TJ a (by kernel_rfl) Tryz.func4
  (ChangeSpec.witness_shaped (enc:=enc) (C:=Tryz.checked) (os:=os) (X:=λw _=>laidMetH Tryz.prog al w) false (World.laidAll Tryz.prog os al) #[.agg #[.slice none 0 0,.slice none 0 0,.int .i64 0,.slice none 0 0,.slice none 0 0,.slice none 0 0,.int .i64 0,.int .i64 0,.int .i64 0,.int .i64 0,.slice none 0 0,.slice none 0 0,.int .i64 0,.slice none 0 0,.int .i64 0,.int .i64 0,.int .i64 0],.slice none 0 0,.agg #[.string ⟨#[]⟩,.int .u8 0,.int .u8 0,.int .u16 0]] 8 (World.laidAll_os _ _ _)
   (World.shaped_of_ZipB (by kernel_rfl) (by kernel_rfl)) (by kernel_rfl) (by kernel_rfl) (by kernel_rfl)
   (by rw[MakeChecks.laidMetH_plain _ _ _ (by kernel_rfl)];exact laidMet_laidAll _ (by kernel_rfl) (by kernel_rfl))) ?_
 intro W base args q R i e A _ _ D _;refine D8 (fn:=Tryz.f4) (ts:=[71,72,75]) (tb:=4) (n:=8) (by kernel_rfl) (by kernel_rfl) (by kernel_rfl) laid okDropped rfl ?_ ?_ (WL D) e A
 .intro H q h
  match q,h with
  |[U,T,S],_=>rfl
 .rintro O ⟨v0,N,rfl,G,⟨v1,M,rfl,F,⟨v2,L,rfl,E,rfl⟩⟩⟩
  obtain⟨u,rfl⟩:=Ch.Lx G;obtain⟨y,rfl,K⟩:=Ch.M7 F;obtain⟨v,J,z,I,rfl,o,j,l⟩:=Ch.I3 E;exact Ch.xk u y v J z I o j l
end Abs
open Abs
set_option maxHeartbeats 10000000 in
theorem dropped_j:joinedFacts Tryz.prog 4 Tryz.f4 Rows.chandlerDroppedSpec Rows.chandlerDroppedRow=true:=by
 simp only[joinedFacts,Bool.and_eq_true];and_intros<;>(as_aux_lemma=>kernel_rfl)
set_option maxHeartbeats 10000000 in
theorem dropped_w:Tryz.f4.isWrapper Tryz.prog Rows.chandlerDroppedRow.wrapper Rows.chandlerDroppedRow.mainSum:=by
 unfold Func.isWrapper
 first
  |(rw[if_pos (by decide +kernel)];as_aux_lemma=>kernel_rfl)
  |(rw[if_neg (by decide +kernel)];exact⟨rfl,rfl⟩)
theorem dropped_row:Rows.ChandlerDroppedSaid:=
 OpenClaim.holds_of_wide 4 Tryz.f4 rfl rfl rfl rfl rfl rfl rfl ⟨rfl,rfl,rfl,rfl,rfl⟩ rfl rfl rfl rfl rfl (by as_aux_lemma=>kernel_rfl) Tryz.func4 dropped_j
  (of_decide_eq_true (by as_aux_lemma=>kernel_rfl)) dropped_w
  (λos a H enc _=>liftedDropped os a H enc)
theorem dropped_holds:Rows.ChandlerDroppedCardSaid:=
 Claim7.holds_tied_plain_at .later [] [.data,.data,.data,.data,.sentinel,.sentinel,.pinned] true (true, "9231f6c7b261a1e1a746ea73bb2f08b0138cbf8865396cd7d350193e74fb6bf4") true
  dropped_row (λ_ h=>by cases h) (by as_aux_lemma=>kernel_rfl) (λ_ h=>by cases h) chandlerDropped_row_tie rfl ⟨rfl,rfl⟩ (by as_aux_lemma=>kernel_rfl) rfl
  (λf fn q e=>by
   obtain rfl:f=4:=Option.some.inj ((show Tryz.prog.funcNamed "stearin/stearinlaw13.ChandlerDropped" = some 4 by as_aux_lemma=>kernel_rfl).symm.trans q) |>.symm;obtain rfl:fn=Tryz.f4:=(Option.some.inj (Tryz.func4.symm.trans e)).symm;exact⟨by as_aux_lemma=>kernel_rfl,λj t i=>by
    have l:Tryz.f4.params=#[71,72,75]:=by as_aux_lemma=>kernel_rfl
    rw[l]at i;have o:t∈([71,72,75]:List TypeId):=by simpa using Array.mem_of_getElem? i
    have a:(([71,72,75]:List TypeId).all λu=>!Tryz.prog.wantsStandIn u)=true:=by as_aux_lemma=>kernel_rfl
    exact(show Tryz.prog.wantsStandIn t=false by simpa using List.all_eq_true.1 a t o)⟩)
  (F9 rfl Nn)
#print axioms dropped_holds
end Go.Proofs.YtmndpldajflenaaGreatDoor
