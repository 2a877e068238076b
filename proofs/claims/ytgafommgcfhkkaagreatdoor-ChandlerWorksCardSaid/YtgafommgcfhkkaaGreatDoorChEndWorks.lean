/- THE CARD OF THE LAW ChandlerWorks: Check, Work and Books return what the document says, fo -/
import Derived.Test.YtgafommgcfhkkaaGreatDoorAbsPickX
set_option linter.all false
namespace Go.Proofs.YtgafommgcfhkkaaGreatDoor
open Go.ChangeShapes Go.WideShapes Go.ChangeAt Go.RowKit
namespace Abs
set_option maxRecDepth 100000
theorem okWorks:∀t,t∈([41,42]:List TypeId)->uu Tryz.prog 8 t=true/\Tryz.prog.readableRec t=true/\t<Tryz.prog.types.size:=by
 intro t e;simp only[List.mem_cons,List.not_mem_nil,or_false]at e;rcases e with rfl|rfl
 .exact T9
 .exact T8
theorem liftedWorks(os:Os)(e:os.Started)(H:Type)(enc:TypeId×Value->H) :
  ReturnsInHanded {} Tryz.checked os 3 .any (λw args=>(Rows.chandlerWorksSpec.pre enc Tryz.prog Tryz.f3 [] false w args/\laidMetH Tryz.prog ax w)/\sizedMet enc Tryz.prog Tryz.f3 (OpenSpec.ofChange Rows.chandlerWorksSpec) false w args)
   (Rows.chandlerWorksSpec.post enc Tryz.prog Tryz.f3 false true false false):=by
 refine returnsInHanded_of_change_and (C:=Tryz.checked) (X:=λw _=>laidMetH Tryz.prog ax w) (λ_ _ _ hh h=>h.of_heap hh) T7 e (by kernel_rfl) Tryz.func3
  (ChangeSpec.witness_shaped (enc:=enc) (C:=Tryz.checked) (os:=os) (X:=λw _=>laidMetH Tryz.prog ax w) false (World.laidAll Tryz.prog os ax) #[.agg #[.slice none 0 0,.slice none 0 0,.int .i64 0,.slice none 0 0,.slice none 0 0,.slice none 0 0,.int .i64 0,.int .i64 0,.int .i64 0,.int .i64 0,.slice none 0 0,.slice none 0 0,.int .i64 0,.slice none 0 0,.int .i64 0,.int .i64 0,.int .i64 0],.slice none 0 0] 8 (World.laidAll_os _ _ _)
   (World.shaped_of_ZipB (by kernel_rfl) (by kernel_rfl)) (by kernel_rfl) (by kernel_rfl) (by kernel_rfl)
   (by rw[MakeChecks.laidMetH_plain _ _ _ (by kernel_rfl)];exact laidMet_laidAll _ (by kernel_rfl) (by kernel_rfl))) ?_
 intro W base args ds G j i u _ _ v _;refine Ir (fn:=Tryz.f3) (ts:=[41,42]) (tb:=4) (n:=8) (by kernel_rfl) (by kernel_rfl) (by kernel_rfl) laid okWorks rfl ?_ ?_ (gok v) i u
 .intro H ds h
  match ds,h with
  |[J,I],_=>rfl
 .rintro F ⟨v0,E,rfl,z,⟨v1,D,rfl,y,rfl⟩⟩
  obtain⟨l,rfl⟩:=Ch.FO z;obtain⟨q,rfl,A⟩:=Ch.Ip y;exact Ch.D6 l q
end Abs
open Abs
set_option maxHeartbeats 10000000 in
theorem works_j:joinedFacts Tryz.prog 3 Tryz.f3 Rows.chandlerWorksSpec Rows.chandlerWorksRow=true:=by
 simp only[joinedFacts,Bool.and_eq_true];and_intros<;>(as_aux_lemma=>kernel_rfl)
set_option maxHeartbeats 10000000 in
theorem works_w:Tryz.f3.isWrapper Tryz.prog Rows.chandlerWorksRow.wrapper Rows.chandlerWorksRow.mainSum:=by
 unfold Func.isWrapper
 first
  |(rw[i (by decide +kernel)];as_aux_lemma=>kernel_rfl)
  |(rw[if_neg (by decide +kernel)];exact⟨rfl,rfl⟩)
theorem works_row:Rows.ChandlerWorksSaid:=
 OpenClaim.holds_of_wide 3 Tryz.f3 rfl rfl rfl rfl rfl rfl rfl ⟨rfl,rfl,rfl,rfl,rfl⟩ rfl rfl rfl rfl rfl (by as_aux_lemma=>kernel_rfl) Tryz.func3 works_j
  (of_decide_eq_true (by as_aux_lemma=>kernel_rfl)) works_w
  (λos e H enc _=>liftedWorks os e H enc)
theorem works_holds:Rows.ChandlerWorksCardSaid:=
 Claim7.holds_tied_plain_at .later [] [.data,.data,.data,.data,.sentinel,.sentinel,.pinned] true (true, "1a432796f96f806986bea0405adbb390e536474e9f6fcb4624e3afa358718c39") true
  works_row (λ_ h=>by cases h) (by as_aux_lemma=>kernel_rfl) (λ_ h=>by cases h) chandlerWorks_row_tie rfl ⟨rfl,rfl⟩ (by as_aux_lemma=>kernel_rfl) rfl
  (λf fn y i=>by
   obtain rfl:f=3:=Option.some.inj ((show Tryz.prog.funcNamed "stearin/stearinlaw13.ChandlerWorks" = some 3 by as_aux_lemma=>kernel_rfl).symm.trans y) |>.symm;obtain rfl:fn=Tryz.f3:=(Option.some.inj (Tryz.func3.symm.trans i)).symm;exact⟨by as_aux_lemma=>kernel_rfl,λj t l=>by
    have q:Tryz.f3.params=#[41,42]:=by as_aux_lemma=>kernel_rfl
    rw[q]at l;have v:t∈([41,42]:List TypeId):=by simpa using Array.mem_of_getElem? l
    have e:(([41,42]:List TypeId).all λu=>!Tryz.prog.wantsStandIn u)=true:=by as_aux_lemma=>kernel_rfl
    exact(show Tryz.prog.wantsStandIn t=false by simpa using List.all_eq_true.1 e t v)⟩)
  (Ax rfl IG)
#print axioms works_holds
end Go.Proofs.YtgafommgcfhkkaaGreatDoor
