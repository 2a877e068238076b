/-
  CONTRACTS: hour.Check, in the program and in the reference: both come to 'hrCheck'. No con
  CONTRACTS: what is wrong with a test, with a shop and tests: in the program and in the ref
  CONTRACTS: fractions; what marks allow; the rate of a test. No conditions but those in the
-/
import Derived.Test.YtfafnkpfamgbbaaGreatDoorAbsCutX
import Derived.Test.YtfafnkpfamgbbaaGreatDoorLibGoX
import Derived.Test.YtfafnkpfamgbbaaGreatDoorWxChkX
set_option linter.unusedSimpArgs false
set_option linter.unusedVariables false
open Go.Proofs.Tryz renaming prog->TP
namespace Go.Proofs.YtfafnkpfamgbbaaGreatDoor
namespace Abs
set_option maxRecDepth 4000
theorem Sn (lo hi n):ah TP 219 [.int .i64 n,.ptr 1 [.int .i64 lo] 0 0,.ptr 1 [.int .i64 hi] 0 0] (.bool (!ar n lo hi)):=by
 refine aa (ai (by kernel_rfl) rfl XH) rfl ?_;simp only [go_sem,simprocAttr];refine aT (λhb=>?_) (λhb=>?_)<;>simp only [hb,go_sem,simprocAttr]<;>simp_all [ar];rw [<-decide_not];congr 1;simp
theorem jr (lo hi) (l:List Int) (b) (hl:l.length<1000000000):ah TP 157 [.int .i64 lo,.int .i64 hi,.slice 1 (l.map aK) b] (.bool (l.any λn=>!ar n lo hi)):=by
 refine aa (ai (by kernel_rfl) rfl Yp) rfl ?_;simp only [go_sem,simprocAttr];refine bf (jX (fv:=.func (.func 219) [] [.ptr 1 [.int .i64 lo] 0 0,.ptr 1 [.int .i64 hi] 0 0]) l (λn=>!ar n lo hi) b 1 rfl hl λn _=>⟨_,_,_,rfl,Sn lo hi n⟩) ?_ (.bool _) ?_
 .simp only [go_sem,simprocAttr]
 .simp only [go_sem,simprocAttr]
theorem F' (x:HrKind):ah TP 159 [x.pv] (.str x.name):=by
 refine aa (ai (by kernel_rfl) rfl Yn) rfl ?_;simp only [go_sem,simprocAttr]
theorem O9 (s) (x:HrKind):ah TP 221 [x.pv,.ptr 1 [.func (.func 159) [] []] 0 0,.ptr 1 [.str s] 0 0] (.bool (x.name==s)):=by
 refine aa (ai (by kernel_rfl) rfl XF) rfl ?_;simp only [go_sem,simprocAttr];refine aD (F' x) rfl ?_;simp only [go_sem,simprocAttr]
theorem MS (l) (x) (b) (hl:l.length<1000000):ah TP 158 [.slice 4 ((l++[x]).map HrKind.pv) b,.func (.func 159) [] []] (.int .i64 (am (l.map (·.name)) x.name)):=by
 have hw:IntKind.i64.wrap ((((l++[x]).length:Nat):Int)-1)=((l.length:Nat):Int):=by
  rw [cM (by simp<;>omega) (by simp [aw]<;>omega)];simp
 have hx:(l++[x])[l.length]?=some x:=by simp
 have hlt:((l.length:Nat):Int)<(((l++[x]).length:Nat):Int):=by simp<;>omega
 have hle:((l.length:Nat):Int)<=(((l++[x]).length:Nat):Int):=by omega
 have htk:((l++[x]).map HrKind.pv).take l.length=l.map HrKind.pv:=by rw [bA,d9 (by simp)]
 have hfl:(l.length==(l++[x]).length)=false:=by simp
 refine aa (ai (by kernel_rfl) rfl Yo) rfl ?_;simp only [hw,hx,hlt,go_sem,simprocAttr];refine aD (F' x) rfl ?_;simp only [go_sem,simprocAttr];refine ae (jE x.name) rfl ?_;simp only [go_sem,simprocAttr];cases hn:nameOk x.name
 .simp only [go_sem,simprocAttr];simp [am,hn]
 .simp only [hle,htk,hfl,go_sem,simprocAttr];refine bf (B2 (fv:=.func (.func 221) [] [.ptr 1 [.func (.func 159) [] []] 0 0,.ptr 1 [.str x.name] 0 0]) l (λy=>y.name==x.name) false 4 rfl (by omega) λy _=>⟨_,_,_,rfl,O9 x.name y⟩) ?_ (.bool _) ?_
  .simp only [go_sem,simprocAttr]
  simp only [go_sem,simprocAttr];refine aT (λhb=>?_) (λhb=>?_)<;>simp only [hb,go_sem,simprocAttr]
  .simp only [am,hn,qY,jN,hb,if_true]
  .simp only [am,hn,qY,jN,hb,if_true,fA,if_false]
theorem F9 (x:HrRule):ah TP 161 [x.pv] (.str x.name):=by
 refine aa (ai (by kernel_rfl) rfl Yl) rfl ?_;simp only [go_sem,simprocAttr]
theorem O8 (s) (x:HrRule):ah TP 223 [x.pv,.ptr 1 [.func (.func 161) [] []] 0 0,.ptr 1 [.str s] 0 0] (.bool (x.name==s)):=by
 refine aa (ai (by kernel_rfl) rfl XD) rfl ?_;simp only [go_sem,simprocAttr];refine aD (F9 x) rfl ?_;simp only [go_sem,simprocAttr]
theorem MR (l) (x) (b) (hl:l.length<1000000):ah TP 160 [.slice 5 ((l++[x]).map HrRule.pv) b,.func (.func 161) [] []] (.int .i64 (am (l.map (·.name)) x.name)):=by
 have hw:IntKind.i64.wrap ((((l++[x]).length:Nat):Int)-1)=((l.length:Nat):Int):=by
  rw [cM (by simp<;>omega) (by simp [aw]<;>omega)];simp
 have hx:(l++[x])[l.length]?=some x:=by simp
 have hlt:((l.length:Nat):Int)<(((l++[x]).length:Nat):Int):=by simp<;>omega
 have hle:((l.length:Nat):Int)<=(((l++[x]).length:Nat):Int):=by omega
 have htk:((l++[x]).map HrRule.pv).take l.length=l.map HrRule.pv:=by rw [bA,d9 (by simp)]
 have hfl:(l.length==(l++[x]).length)=false:=by simp
 refine aa (ai (by kernel_rfl) rfl Ym) rfl ?_;simp only [hw,hx,hlt,go_sem,simprocAttr];refine aD (F9 x) rfl ?_;simp only [go_sem,simprocAttr];refine ae (jE x.name) rfl ?_;simp only [go_sem,simprocAttr];cases hn:nameOk x.name
 .simp only [go_sem,simprocAttr];simp [am,hn]
 .simp only [hle,htk,hfl,go_sem,simprocAttr];refine bf (B1 (fv:=.func (.func 223) [] [.ptr 1 [.func (.func 161) [] []] 0 0,.ptr 1 [.str x.name] 0 0]) l (λy=>y.name==x.name) false 5 rfl (by omega) λy _=>⟨_,_,_,rfl,O8 x.name y⟩) ?_ (.bool _) ?_
  .simp only [go_sem,simprocAttr]
  simp only [go_sem,simprocAttr];refine aT (λhb=>?_) (λhb=>?_)<;>simp only [hb,go_sem,simprocAttr]
  .simp only [am,hn,qY,jN,hb,if_true]
  .simp only [am,hn,qY,jN,hb,if_true,fA,if_false]
def eb (k:HrKind):Int :=
 if (ar k.weight.lo 1 10000000&&ar k.weight.hi 1 10000000&&ar k.rest 0 10000000)=true then (if (decide (k.weight.hi<k.weight.lo)||decide (k.weight.lo<=k.rest))=true then 2 else 0) else 7
def eI (r:HrRule):Int :=
 if (ar r.minutes.lo 0 1000000&&ar r.minutes.hi 0 1000000&&(ar r.weight.lo 0 10000000&&ar r.weight.hi 0 10000000))=true then
  (if (decide (r.minutes.hi<r.minutes.lo)||decide (r.weight.hi<r.weight.lo))=true then 2 else 0) else 7
def bR (before:List ByteArray) (k:HrKind):Int:=if am before k.name=0 then eb k else am before k.name
def cC (before:List ByteArray) (r:HrRule):Int:=if am before r.name=0 then eI r else am before r.name
def iD (s:HrShop):Option (Int×Int)->Int×Int×Int
 |some (i,e)=>(2,i,e)
 |none=>match firstErr cC (·.name) s.rules [] with | some (i,e)=>(3,i,e) | none=>(0,0,0)
def hrCheck (s:HrShop):Int×Int×Int :=
 if (ar s.kinds.length 1 6&&decide (s.rules.length<=6))=true then
  if ar s.margin 0 500=true then iD s (firstErr bR (·.name) s.kinds []) else (1,0,7)
 else (1,0,3)
theorem CQ {s} {done r} {x} (_:s.kinds=done++x::r) (e2:firstErr bR (·.name) s.kinds []=firstErr bR (·.name) (x::r) (done.map (·.name))) :
  (bR (done.map (·.name)) x=0->firstErr bR (·.name) s.kinds []=firstErr bR (·.name) r ((done++[x]).map (·.name))) /\
  ∀ e,bR (done.map (·.name)) x=e->e≠0->iD s (firstErr bR (·.name) s.kinds [])=(2,(done.length:Int),e):=by
 have hE:firstErr bR (·.name) s.kinds []=if bR (done.map (·.name)) x=0 then firstErr bR (·.name) r ((done++[x]).map (·.name)) else some ((done.length:Int),bR (done.map (·.name)) x):=by
  rw [e2,firstErr];simp
 exact ⟨λh=>by rw [hE,if_pos h],λe he hne=>by rw [hE,he,if_neg hne];rfl⟩
theorem CP {s} {done r} {x} (_:s.rules=done++x::r) (e2:firstErr cC (·.name) s.rules []=firstErr cC (·.name) (x::r) (done.map (·.name))) :
  (cC (done.map (·.name)) x=0->firstErr cC (·.name) s.rules []=firstErr cC (·.name) r ((done++[x]).map (·.name))) /\
  ∀ e,cC (done.map (·.name)) x=e->e≠0->iD s none=(3,(done.length:Int),e):=by
 have hE:firstErr cC (·.name) s.rules []=if cC (done.map (·.name)) x=0 then firstErr cC (·.name) r ((done++[x]).map (·.name)) else some ((done.length:Int),cC (done.map (·.name)) x):=by
  rw [e2,firstErr];simp
 exact ⟨λh=>by rw [hE,if_pos h],λe he hne=>by simp only [iD];rw [hE,he,if_neg hne]⟩
set_option maxHeartbeats 1000000 in
theorem Ga (s):ah TP 92 [s.pv] (al (hrCheck s)):=by
 refine aa (ai (by kernel_rfl) rfl zbo) rfl ?_;simp only [go_sem,simprocAttr];refine ae (jr 1 6 [_] true (by simp)) rfl ?_;simp only [bp,bF,bS,go_sem,simprocAttr];cases h1:ar s.kinds.length 1 6
 .simp only [al,hrCheck,h1,go_sem,simprocAttr]
 simp only [go_sem,simprocAttr];cases h2:decide ((6:Int)<(s.rules.length:Int));rotate_left
 .have h2':decide (s.rules.length<=6)=false:=by simp at h2 |-;omega
  simp only [al,hrCheck,h1,h2',go_sem,simprocAttr]
 have h2':decide (s.rules.length<=6)=true:=by simp at h2 |-;omega
 simp only [go_sem,simprocAttr];refine ae (jr 0 500 [_] true (by simp)) rfl ?_;simp only [bp,bF,bS,go_sem,simprocAttr];cases h3:ar s.margin 0 500
 .simp only [al,hrCheck,h1,h2',h3,go_sem,simprocAttr]
 have hspec:hrCheck s=iD s (firstErr bR (·.name) s.kinds []):=by simp only [hrCheck,h1,h2',h3,qZ,if_true]
 rw [hspec];have hlk:s.kinds.length<=6:=by simp [ar] at h1;omega
 have hlr:s.rules.length<=6:=by simpa using h2'
 simp only [go_sem,simprocAttr]
 refine br [1,27,28] s.kinds (by omega) (τ:=Unit) (λdone rest _=>firstErr bR (·.name) s.kinds []=firstErr bR (·.name) rest (done.map (·.name)))
  (λdone _=>[(29,.p (.int .i64 done.length)),(4,.p (.int .i64 0))]) (λ_ _=>[.row 3 [.p s.pv]]) () rfl ?_ ?_ ?_
 .simp only [go_sem,simprocAttr]<;>simp
 .intro _ e2;have hT:iD s (firstErr bR (·.name) s.kinds [])=iD s none:=by rw [e2];rfl
  rw [hT];simp only [go_sem,simprocAttr]
  refine br [1,80,81] s.rules (by omega) (τ:=Unit) (λdone rest _=>firstErr cC (·.name) s.rules []=firstErr cC (·.name) rest (done.map (·.name)))
   (λdone _=>[(82,.p (.int .i64 done.length)),(4,.p (.int .i64 0))]) (λ_ _=>[.row 3 [.p s.pv]]) () rfl ?_ ?_ ?_
  .simp only [go_sem,simprocAttr]<;>simp
  .intro _ e2;have hT:iD s none=(0,0,0):=by
    simp only [iD];rw [e2];rfl
   simp only [al,hT,go_sem,simprocAttr]
  .intro done x r _ e1 e2 hx hlt hnx;obtain ⟨go,fin⟩:=CP e1 e2;have hle:(((done++[x]).length:Nat):Int)<=(s.rules.length:Int):=by rw [e1];simp<;>omega
   have htk:(s.rules.map HrRule.pv).take (done++[x]).length=(done++[x]).map HrRule.pv:=by
    rw [e1,show done++x::r=(done++[x])++r by simp,bA,d9 (by simp)]
   have hdl:done.length<1000000:=by have:=congrArg List.length e1;simp at this;omega
   simp only [hlt,hx,hnx,hle,htk,go_sem,simprocAttr];refine ae (MR done x false hdl) rfl ?_;simp only [go_sem,simprocAttr];cases h5:(am (done.map (·.name)) x.name != 0)
   rotate_left
   .have h5':am (done.map (·.name)) x.name≠0:=by simpa using h5
    simp only [h5,al,fin _ (by rw [cC,if_neg h5']) h5',go_sem,simprocAttr]
   have h5':am (done.map (·.name)) x.name=0:=by simpa using h5
   have hb:cC (done.map (·.name)) x=eI x:=by rw [cC,if_pos h5']
   simp only [go_sem,simprocAttr];refine ae (jr 0 1000000 [_,_] true (by simp)) rfl ?_;simp only [bp,bF,bS,<-kO,go_sem,simprocAttr];cases h6:(ar x.minutes.lo 0 1000000&&ar x.minutes.hi 0 1000000)
   .simp only [al,fin 7 (by rw [hb,eI,h6];rfl) (by decide),go_sem,simprocAttr]
   simp only [go_sem,simprocAttr];refine ae (jr 0 10000000 [_,_] true (by simp)) rfl ?_;simp only [bp,bF,bS,<-kO,go_sem,simprocAttr];cases h7:(ar x.weight.lo 0 10000000&&ar x.weight.hi 0 10000000)
   .simp only [al,fin 7 (by rw [hb,eI,h6,h7];rfl) (by decide),go_sem,simprocAttr]
   simp only [go_sem,simprocAttr];cases h8:decide (x.minutes.hi<x.minutes.lo);rotate_left
   .simp only [al,fin 2 (by rw [hb,eI,h6,h7,h8];rfl) (by decide),go_sem,simprocAttr]
   simp only [go_sem,simprocAttr];cases h9:decide (x.weight.hi<x.weight.lo);rotate_left
   .simp only [al,fin 2 (by rw [hb,eI,h6,h7,h8,h9];rfl) (by decide),go_sem,simprocAttr]
   simp only [h5',go_sem,simprocAttr];refine aF e1 () (go (by rw [hb,eI,h6,h7,h8,h9];rfl)) ?_;simp only [hnx,go_sem,simprocAttr]
 .intro done x r _ e1 e2 hx hlt hnx;obtain ⟨go,fin⟩:=CQ e1 e2;have hle:(((done++[x]).length:Nat):Int)<=(s.kinds.length:Int):=by rw [e1];simp<;>omega
  have htk:(s.kinds.map HrKind.pv).take (done++[x]).length=(done++[x]).map HrKind.pv:=by
   rw [e1,show done++x::r=(done++[x])++r by simp,bA,d9 (by simp)]
  have hdl:done.length<1000000:=by have:=congrArg List.length e1;simp at this;omega
  simp only [hlt,hx,hnx,hle,htk,go_sem,simprocAttr];refine ae (MS done x false hdl) rfl ?_;simp only [go_sem,simprocAttr];cases h5:(am (done.map (·.name)) x.name != 0)
  rotate_left
  .have h5':am (done.map (·.name)) x.name≠0:=by simpa using h5
   simp only [h5,al,fin _ (by rw [bR,if_neg h5']) h5',go_sem,simprocAttr]
  have h5':am (done.map (·.name)) x.name=0:=by simpa using h5
  have hb:bR (done.map (·.name)) x=eb x:=by rw [bR,if_pos h5']
  simp only [go_sem,simprocAttr];refine ae (jr 1 10000000 [_,_] true (by simp)) rfl ?_;simp only [bp,bF,bS,<-kO,go_sem,simprocAttr];cases h6:(ar x.weight.lo 1 10000000&&ar x.weight.hi 1 10000000)
  .simp only [al,fin 7 (by rw [hb,eb,h6];rfl) (by decide),go_sem,simprocAttr]
  simp only [go_sem,simprocAttr];refine ae (jr 0 10000000 [_] true (by simp)) rfl ?_;simp only [bp,bF,bS,go_sem,simprocAttr];cases h7:ar x.rest 0 10000000
  .simp only [al,fin 7 (by rw [hb,eb,h6,h7];rfl) (by decide),go_sem,simprocAttr]
  simp only [go_sem,simprocAttr];cases h8:decide (x.weight.hi<x.weight.lo);rotate_left
  .simp only [al,fin 2 (by rw [hb,eb,h6,h7,h8];rfl) (by decide),go_sem,simprocAttr]
  simp only [go_sem,simprocAttr];cases h9:decide (x.weight.lo<=x.rest);rotate_left
  .simp only [al,fin 2 (by rw [hb,eb,h6,h7,h8,h9];rfl) (by decide),go_sem,simprocAttr]
  simp only [h5',go_sem,simprocAttr];refine aF e1 () (go (by rw [hb,eb,h6,h7,h8,h9];rfl)) ?_;simp only [hnx,go_sem,simprocAttr]
theorem Ku (x):ah TP 74 [x.pv] (.int .i64 (eb x)):=by
 refine aa (ai (by kernel_rfl) rfl zbD) rfl ?_;simp only [go_sem,simprocAttr];refine ae (pg _ _ _ _) rfl ?_;simp only [go_sem,simprocAttr];refine ae (O7 _ _ _) rfl ?_;unfold eb;cases h1:ar x.weight.lo 1 10000000
 .have hg:du x.weight.lo x.weight.hi 1 10000000=7:=by simp [du,h1]
  cases h3:ar x.rest 0 10000000
  .simp only [hg,go_sem,simprocAttr]
  .simp only [hg,go_sem,simprocAttr]
 cases h2:ar x.weight.hi 1 10000000
 .have hg:du x.weight.lo x.weight.hi 1 10000000=7:=by simp [du,h1,h2]
  cases h3:ar x.rest 0 10000000
  .simp only [hg,go_sem,simprocAttr]
  .simp only [hg,go_sem,simprocAttr]
 cases h3:ar x.rest 0 10000000
 .simp only [go_sem,simprocAttr]
 cases h4:decide (x.weight.hi<x.weight.lo)
 .have hg:du x.weight.lo x.weight.hi 1 10000000=0:=by simp [du,h1,h2];simpa using h4
  cases h5:decide (x.weight.lo<=x.rest)
  .simp only [hg,h5,go_sem,simprocAttr]
  .simp only [hg,h5,go_sem,simprocAttr]
 .have hg:du x.weight.lo x.weight.hi 1 10000000=2:=by simp [du,h1,h2];simpa using h4
  simp only [hg,go_sem,simprocAttr]
theorem Kt (x):ah TP 75 [x.pv] (.int .i64 (eI x)):=by
 refine aa (ai (by kernel_rfl) rfl zbC) rfl ?_;simp only [go_sem,simprocAttr];refine aD (pg _ _ _ _) rfl ?_;simp only [go_sem,simprocAttr];refine aD (pg _ _ _ _) rfl ?_;unfold eI;have hg:∀ (a:Span) (m n:Int),du a.lo a.hi m n=if (ar a.lo m n&&ar a.hi m n)=true then (if decide (a.hi<a.lo)=true then 2 else 0) else 7:=by
  intro a m n;unfold du;cases ar a.lo m n<;>cases ar a.hi m n<;>simp
 simp only [hg]
 cases h1:(ar x.minutes.lo 0 1000000&&ar x.minutes.hi 0 1000000)<;>cases h2:(ar x.weight.lo 0 10000000&&ar x.weight.hi 0 10000000) <;>
  cases h3:decide (x.minutes.hi<x.minutes.lo)<;>cases h4:decide (x.weight.hi<x.weight.lo)<;>(simp only [go_sem,simprocAttr];try rfl)
set_option maxHeartbeats 1000000 in
theorem Hu (s):ah TP 46 [s.pv] (al (hrCheck s)):=by
 refine aa (ai (by kernel_rfl) rfl zb1) rfl ?_;simp only [go_sem,simprocAttr];refine ae (O7 _ _ _) rfl ?_;simp only [go_sem,simprocAttr];cases h1:ar s.kinds.length 1 6
 .simp only [al,hrCheck,h1,go_sem,simprocAttr]
 simp only [go_sem,simprocAttr];cases h2:decide ((6:Int)<(s.rules.length:Int));rotate_left
 .have h2':decide (s.rules.length<=6)=false:=by simp at h2 |-;omega
  simp only [al,hrCheck,h1,h2',go_sem,simprocAttr]
 have h2':decide (s.rules.length<=6)=true:=by simp at h2 |-;omega
 simp only [go_sem,simprocAttr];refine ae (O7 _ _ _) rfl ?_;simp only [go_sem,simprocAttr];cases h3:ar s.margin 0 500
 .simp only [al,hrCheck,h1,h2',h3,go_sem,simprocAttr]
 have hspec:hrCheck s=iD s (firstErr bR (·.name) s.kinds []):=by simp only [hrCheck,h1,h2',h3,qZ,if_true]
 rw [hspec];have hlk:s.kinds.length<=6:=by simp [ar] at h1;omega
 have hlr:s.rules.length<=6:=by simpa using h2'
 simp only [go_sem,simprocAttr];refine cg 5 1 (by simp only [go_sem,simprocAttr]) ?_;simp only [go_sem,simprocAttr]
 refine br [1] s.kinds (by omega) (τ:=Unit) (λdone rest _=>firstErr bR (·.name) s.kinds []=firstErr bR (·.name) rest (done.map (·.name)))
  (λdone _=>[(5,.slice 1 done.length 0 done.length),(6,.p (.int .i64 done.length))]) (λdone _=>[.row 3 [.p s.pv],.row 1 (done.map λx=>.p (.str x.name))]) () rfl ?_ ?_ ?_
 .simp only [go_sem,simprocAttr]<;>simp
 .intro _ e2;have hT:iD s (firstErr bR (·.name) s.kinds [])=iD s none:=by rw [e2];rfl
  rw [hT];simp only [go_sem,simprocAttr];refine cg 5 1 (by simp only [go_sem,simprocAttr]) ?_;simp only [go_sem,simprocAttr]
  refine br [1] s.rules (by omega) (τ:=Unit) (λdone rest _=>firstErr cC (·.name) s.rules []=firstErr cC (·.name) rest (done.map (·.name)))
   (λdone _=>[(5,.slice 2 done.length 0 done.length),(8,.p (.int .i64 done.length))]) (λdone _=>[.row 3 [.p s.pv],.row 1 (s.kinds.map λx=>.p (.str x.name)),.row 1 (done.map λx=>.p (.str x.name))]) () rfl ?_ ?_ ?_
  .simp only [go_sem,simprocAttr]<;>simp
  .intro _ e2;have hT:iD s none=(0,0,0):=by
    simp only [iD];rw [e2];rfl
   simp only [al,hT,go_sem,simprocAttr]
  .intro done x r _ e1 e2 hx hlt hnx;obtain ⟨go,fin⟩:=CP e1 e2;have hrm:done.length+1<=aw:=by simp [aw];omega
   simp only [hlt,hx,go_sem,simprocAttr];refine bf (jq x.name (done.map (·.name)) false (done.map λx=>.str x.name) (by simp) (by simp;omega)) ?_ (.int _ _) ?_
   .simp only [go_sem,simprocAttr]
   simp only [hrm,hlt,hx,go_sem,simprocAttr];cases h5:(am (done.map (·.name)) x.name==0)
   .have h5':am (done.map (·.name)) x.name≠0:=by simpa using h5
    have h5n:(am (done.map (·.name)) x.name != 0)=true:=by simp [bne,h5]
    simp only [h5n,al,fin _ (by rw [cC,if_neg h5']) h5',go_sem,simprocAttr]
   have h5':am (done.map (·.name)) x.name=0:=by simpa using h5
   have hb:cC (done.map (·.name)) x=eI x:=by rw [cC,if_pos h5']
   simp only [hx,hlt,go_sem,simprocAttr];refine ae (Kt x) rfl ?_;simp only [go_sem,simprocAttr];cases h6:(eI x != 0)
   rotate_left
   .have h6':eI x≠0:=by simpa using h6
    simp only [al,fin _ hb h6',go_sem,simprocAttr]
   have h6':eI x=0:=by simpa using h6
   simp only [go_sem,simprocAttr];refine aF e1 () (go (hb.trans h6')) ?_;simp only [hnx,go_sem,simprocAttr];all_goals simp
 .intro done x r _ e1 e2 hx hlt hnx;obtain ⟨go,fin⟩:=CQ e1 e2;have hrm:done.length+1<=aw:=by simp [aw];omega
  simp only [hlt,hx,go_sem,simprocAttr];refine bf (jq x.name (done.map (·.name)) false (done.map λx=>.str x.name) (by simp) (by simp;omega)) ?_ (.int _ _) ?_
  .simp only [go_sem,simprocAttr]
  simp only [hrm,hlt,hx,go_sem,simprocAttr];cases h5:(am (done.map (·.name)) x.name==0)
  .have h5':am (done.map (·.name)) x.name≠0:=by simpa using h5
   have h5n:(am (done.map (·.name)) x.name != 0)=true:=by simp [bne,h5]
   simp only [h5n,al,fin _ (by rw [bR,if_neg h5']) h5',go_sem,simprocAttr]
  have h5':am (done.map (·.name)) x.name=0:=by simpa using h5
  have hb:bR (done.map (·.name)) x=eb x:=by rw [bR,if_pos h5']
  simp only [hx,hlt,go_sem,simprocAttr];refine ae (Ku x) rfl ?_;simp only [go_sem,simprocAttr];cases h6:(eb x != 0)
  rotate_left
  .have h6':eb x≠0:=by simpa using h6
   simp only [al,fin _ hb h6',go_sem,simprocAttr]
  have h6':eb x=0:=by simpa using h6
  simp only [go_sem,simprocAttr];refine aF e1 () (go (hb.trans h6')) ?_;simp only [hnx,go_sem,simprocAttr];all_goals simp
def nO (m:HrMark):Bool:=ar m.minute 0 1000000&&ar m.weight 0 10000000
def kI:Int->List HrMark->Bool
 |_,[]=>false
 |last,m::r=>decide (m.minute<=last)||kI m.minute r
def b9 (nk:Int) (t:HrTest):Int :=
 if ar t.kind 0 (nk-1)=true then
  if ar t.marks.length 2 10=true then
   if ar t.error 0 10000=true then
    if t.marks.all nO=true then (if kI (-1) t.marks=true then 2 else 0) else 7
   else 7
  else 3
 else 4
theorem Dc (s:HrShop) (t) (hs:s.kinds.length<=1000):ah TP 235 [s.pv,t.pv] (.int .i64 (b9 s.kinds.length t)):=by
 refine aa (ai (by kernel_rfl) rfl Xu) rfl ?_;have hw:IntKind.i64.wrap ((s.kinds.length:Int)-1)=(s.kinds.length:Int)-1:=ax (by omega) (by omega);simp only [hw,go_sem,simprocAttr];refine ae (jr 0 _ [_] true (by simp)) rfl ?_;simp only [bp,bF,bS,go_sem,simprocAttr];cases h1:ar t.kind 0 ((s.kinds.length:Int)-1)
 .simp only [b9,h1,go_sem,simprocAttr]
 simp only [go_sem,simprocAttr];refine ae (jr 2 10 [_] true (by simp)) rfl ?_;simp only [bp,bF,bS,go_sem,simprocAttr];cases h2:ar t.marks.length 2 10
 .simp only [b9,h1,h2,go_sem,simprocAttr]
 simp only [go_sem,simprocAttr];refine ae (jr 0 10000 [_] true (by simp)) rfl ?_;simp only [bp,bF,bS,go_sem,simprocAttr];cases h3:ar t.error 0 10000
 .simp only [b9,h1,h2,h3,go_sem,simprocAttr]
 have hspec:b9 s.kinds.length t=if t.marks.all nO=true then (if kI (-1) t.marks=true then 2 else 0) else 7:=by simp only [b9,h1,h2,h3,if_true]
 rw [hspec];have hlm:t.marks.length<=10:=by simp [ar] at h2;omega
 simp only [go_sem,simprocAttr]
 refine br [30,31] t.marks (by omega) (τ:=Int×Bool) (λdone rest q=>t.marks.all nO=rest.all nO/\kI (-1) t.marks=(q.2||kI q.1 rest))
  (λdone q=>[(32,.p (.int .i64 done.length)),(5,.p (.int .i64 q.1)),(6,.p (.bool q.2))]) (λ_ _=>[.row 3 [.p s.pv],.row 3 [.p t.pv]]) (-1,false) ⟨rfl,by simp⟩ ?_ ?_ ?_
 .simp only [go_sem,simprocAttr]<;>simp
 .rintro ⟨last,falls⟩ ⟨e2,e3⟩
  dsimp only at e2 e3;rw [e2,e3];cases falls
  .simp only [PM,kI,go_sem,simprocAttr]
  .simp only [PM,kI,go_sem,simprocAttr]
 .rintro done x r ⟨last,falls⟩ e1 ⟨e2,e3⟩ hx hlt hnx
  dsimp only at e2 e3;rw [List.all_cons] at e2;simp only [hlt,hx,go_sem,simprocAttr];refine ae (jr 0 1000000 [_] true (by simp)) rfl ?_;simp only [bp,bF,bS,go_sem,simprocAttr];cases h4:ar x.minute 0 1000000
  .rw [e2,nO,h4];simp only [go_sem,simprocAttr]
  simp only [go_sem,simprocAttr];refine ae (jr 0 10000000 [_] true (by simp)) rfl ?_;simp only [bp,bF,bS,go_sem,simprocAttr];cases h5:ar x.weight 0 10000000
  .rw [e2,nO,h4,h5];simp only [go_sem,simprocAttr]
  have hm:nO x=true:=by rw [nO,h4,h5];rfl
  cases falls
  .simp only [go_sem,simprocAttr];refine aF e1 (x.minute,decide (x.minute<=last)) ⟨by rw [e2,hm];rfl,by rw [e3,kI];rfl⟩ ?_;simp only [hnx,go_sem,simprocAttr]
  .simp only [go_sem,simprocAttr];refine aF e1 (x.minute,true) ⟨by rw [e2,hm];rfl,by rw [e3];rfl⟩ ?_;simp only [hnx,go_sem,simprocAttr]
def cV (nk:Int):List HrTest->Int
 |[]=>0
 |t::r=>if b9 nk t=0 then cV nk r else b9 nk t
def cd (s:HrShop) (l:List HrTest):Int:=if (hrCheck s).2.2=0 then cV s.kinds.length l else (hrCheck s).2.2
theorem mG {s} (h:(hrCheck s).2.2=0):s.kinds.length<=6/\s.rules.length<=6/\1<=s.kinds.length:=by
 unfold hrCheck at h;split at h
 .rename_i hc;simp [ar] at hc;omega
 .cases h
theorem oK (s) (l) (b) (hl:(hrCheck s).2.2=0->l.length<1000000000):ah TP 227 [s.pv,.slice 3 (l.map HrTest.pv) b] (.int .i64 (cd s l)):=by
 refine aa (ai (by kernel_rfl) rfl Xz) rfl ?_;simp only [go_sem,simprocAttr];refine ae (Ga s) rfl ?_;simp only [al,go_sem,simprocAttr];cases h0:((hrCheck s).2.2 != 0)
 rotate_left
 .have h0':¬ (hrCheck s).2.2=0:=by simpa using h0
  simp only [cd,if_neg h0',go_sem,simprocAttr]
 have h0':(hrCheck s).2.2=0:=by simpa using h0
 have hk:=(mG h0').1;rw [cd,if_pos h0'];simp only [go_sem,simprocAttr]
 refine br [2,20,21] l (hl h0') (τ:=Unit) (λdone rest _=>cV s.kinds.length l=cV s.kinds.length rest)
  (λdone _=>[(22,.p (.int .i64 done.length))]) (λ_ _=>[.row 3 [.p s.pv]]) () rfl ?_ ?_ ?_
 .simp only [go_sem,simprocAttr]<;>simp
 .intro _ e2;rw [e2];simp only [cV,go_sem,simprocAttr]
 .intro done x r _ e1 e2 hx hlt hnx;rw [cV] at e2;simp only [hlt,hx,go_sem,simprocAttr];refine ae (Dc s x (by omega)) rfl ?_;simp only [go_sem,simprocAttr];cases h1:(b9 s.kinds.length x != 0)
  .have h1':b9 s.kinds.length x=0:=by simpa using h1
   simp only [go_sem,simprocAttr];refine aF e1 () (by rw [e2,if_pos h1']) ?_;simp only [hnx,go_sem,simprocAttr]
  .have h1':¬ b9 s.kinds.length x=0:=by simpa using h1
   simp only [e2,if_neg h1',go_sem,simprocAttr]
def dg (s:HrShop) (l:List HrTest):Int:=if (hrCheck s).2.2=0 then (if 8<l.length then 3 else cV s.kinds.length l) else (hrCheck s).2.2
structure Frac where
 top:Int
 below:Int
 deriving DecidableEq
def Frac.pv (f:Frac):PV:=.agg [.int .i64 f.top,.int .i64 f.below]
attribute [go_sem] Frac.pv
def Frac.B (f:Frac):Prop:=-1000000000<=f.top/\f.top<=1000000000/\0<=f.below/\f.below<=1000000000
def Frac.lt (f g:Frac):Bool:=decide (f.top*g.below<g.top*f.below)
def Frac.down (f:Frac):Int:=f.top / f.below
def Frac.up (f:Frac):Int:=-(-f.top / f.below)
theorem JW {a b} (h1:-1000000000<=a) (h2:a<=1000000000) (h3:0<=b) (h4:b<=1000000000):-1000000000000000000<=a*b/\a*b<=1000000000000000000:=by
 have e1:a*b<=1000000000*b:=yi h2 h3;have e2:-1000000000*b<=a*b:=yi h1 h3;omega
theorem AM (f g:Frac) (hf:f.B) (hg:g.B):ah TP 280 [f.pv,g.pv] (.bool (f.lt g)):=by
 refine aa (ai (by kernel_rfl) rfl WW) rfl ?_;have h1:=JW hf.1 hf.2.1 hg.2.2.1 hg.2.2.2;have h2:=JW hg.1 hg.2.1 hf.2.2.1 hf.2.2.2;have e1:IntKind.i64.wrap (f.top*g.below)=f.top*g.below:=ax (by omega) (by omega);have e2:IntKind.i64.wrap (g.top*f.below)=g.top*f.below:=ax (by omega) (by omega);simp only [e1,e2,Frac.lt,go_sem,simprocAttr]
theorem tW (a b:Int) (hb:0<b):a / b=if a.tmod b<0 then a.tdiv b-1 else a.tdiv b:=by
 have h1:=Int.tdiv_eq_ediv (a:=a) (b:=b);have h2:=Int.tmod_eq_emod (a:=a) (b:=b);have h3:=Int.emod_nonneg a (Int.ne_of_gt hb);have h4:=Int.emod_lt_of_pos a hb;have h5:b.sign=1:=Int.sign_eq_one_of_pos hb;have h6:(b.natAbs:Int)=b:=Int.natAbs_of_nonneg (D1 hb);rw [h5] at h1;by_cases hc:0<=a\/b ∣ a
 .rw [if_pos hc] at h1 h2;rw [if_neg (by omega)];omega
 .rw [if_neg hc] at h1 h2;rw [if_pos (by omega)];omega
theorem AF {a b B} (hb:0<b) (h1:-B<=a) (h2:a<=B) (hB:0<=B):-B<=a / b/\a / b<=B:=by
 refine ⟨?_,?_⟩
 .have:-B*b<=a:=by
   have:B*1<=B*b:=tJ (by omega) hB;have e:-B*b=-(B*b):=by rw [Ep]
   omega
  exact (w8 hb).2 this
 .rcases Jj 0 a with h | h
  .exact A9 (Int.ediv_le_self b h) h2
  .have:a / b<=0:=by
    have:=Eo hb h;simpa using this
   omega
theorem lV (f:Frac) (hb:0<f.below) (h1:-1000000000000000000<=f.top) (h2:f.top<=1000000000000000000):ah TP 282 [f.pv] (.int .i64 f.down):=by
 refine aa (ai (by kernel_rfl) rfl WU) rfl ?_;have hb0:¬ f.below=0:=by omega
 have hr:=AF hb h1 h2 (by omega);have hd:=tW f.top f.below hb;have e1:IntKind.i64.wrap (f.top.tdiv f.below)=f.top.tdiv f.below:=by
  split at hd
  .exact ax (by omega) (by omega)
  .exact ax (by omega) (by omega)
 simp only [hb0,e1,Frac.down,go_sem,simprocAttr];cases hm:decide (f.top.tmod f.below<0)
 .rw [if_neg (by simpa using hm)] at hd;simp only [hd,go_sem,simprocAttr]
 .rw [if_pos (by simpa using hm)] at hd;have e2:IntKind.i64.wrap (f.top.tdiv f.below-1)=f.top.tdiv f.below-1:=ax (by omega) (by omega);simp only [hd,e2,go_sem,simprocAttr]
theorem ZM (f:Frac) (hb:0<f.below) (h1:-1000000000000000000<=f.top) (h2:f.top<=1000000000000000000):ah TP 283 [f.pv] (.int .i64 f.up):=by
 refine aa (ai (by kernel_rfl) rfl WT) rfl ?_;have e1:IntKind.i64.wrap (-f.top)=-f.top:=ax (by omega) (by omega);have hr:=AF (a:=-f.top) (B:=1000000000000000000) hb (by omega) (by omega) (by omega);have e2:IntKind.i64.wrap (-(-f.top / f.below))=-(-f.top / f.below):=ax (by omega) (by omega);simp only [e1,go_sem,simprocAttr];refine ae (lV ⟨-f.top,f.below⟩ hb (by show -1000000000000000000<=-f.top;omega) (by show -f.top<=1000000000000000000;omega)) rfl ?_;simp only [Frac.down,e2,Frac.up,go_sem,simprocAttr]
def ji (lo least:Frac):Frac:=if (decide (lo=⟨0,0⟩)||lo.lt least)=true then least else lo
def jj (hi most:Frac):Frac:=if (decide (hi=⟨0,0⟩)||most.lt hi)=true then most else hi
theorem xv (f:Frac):((f.top==0)&&(f.below==0))=decide (f=⟨0,0⟩):=by
 cases f with
 |mk a b=>rw [qX];simp
theorem Ze (lo hi least most) (i j) (h) (hi0:h[i]?=some (.row 2 [.p lo.pv])) (hj0:h[j]?=some (.row 2 [.p hi.pv])) (hij:i≠j) (b1:lo.B) (b2:hi.B) (b3:least.B) (b4:most.B) :
  aC TP 279 [.p least.pv,.p most.pv,.ptr i 1 0 0,.ptr j 1 0 0] h (λr h'=>r=.ret (.p (.tuple [])) /\
   h'=(h.set i (.row 2 [.p (ji lo least).pv])).set j (.row 2 [.p (jj hi most).pv])++[.row 2 [.p least.pv],.row 2 [.p most.pv]]):=by
 refine aB (ai (by kernel_rfl) rfl WX) rfl ?_;have hil:i<h.length:=(aE.1 hi0).1;have hjl:j<h.length:=(aE.1 hj0).1;have gi:∀ t,(h++t)[i]?=some (.row 2 [.p lo.pv]):=λt=>by rw [be hil];exact hi0
 have gj:∀ t,(h++t)[j]?=some (.row 2 [.p hi.pv]):=λt=>by rw [be hjl];exact hj0
 have gj2:∀ x t,(h.set i x++t)[j]?=some (.row 2 [.p hi.pv]):=λx t=>by rw [be (by simpa using hjl),d5 hij];exact hj0
 have si:∀ t x,(h++t).set i x=h.set i x++t:=λt x=>Eh _ _ hil;have sj:∀ t x,(h++t).set j x=h.set j x++t:=λt x=>Eh _ _ hjl;have sj2:∀ t x y,(h.set i y++t).set j x=(h.set i y).set j x++t:=λt x y=>Eh _ _ (by simpa using hjl);have gg:=lp (lo:=h) rfl;have g0:=lq (lo:=h) rfl;have gg2:∀ x,∀ t j,(h.set i x++t)[h.length+j]?=t[j]?:=λx=>lp (lo:=h.set i x) (by simp);have g02:∀ x,∀ t,(h.set i x++t)[h.length]?=t[0]?:=λx=>lq (lo:=h.set i x) (by simp);have same_i:h.set i (.row 2 [.p lo.pv])=h:=ov hi0;have same_j:h.set j (.row 2 [.p hi.pv])=h:=ov hj0;have same_j2:∀ x,(h.set i x).set j (.row 2 [.p hi.pv])=h.set i x:=λx=>ov (by rw [d5 hij];exact hj0);simp only [Frac.pv] at gi gj gj2 same_i same_j same_j2;simp only [cE,aI,bh,gi,xv,go_sem,simprocAttr];cases z1:decide (lo=⟨0,0⟩)
 .simp only [bh,gi,g0,go_sem,simprocAttr];refine ae (AM lo least b1 b3) rfl ?_;simp only [go_sem,simprocAttr];cases z2:lo.lt least
  .simp only [bh,gj,xv,go_sem,simprocAttr];cases z3:decide (hi=⟨0,0⟩)
   .simp only [bh,gj,gg,go_sem,simprocAttr];refine ae (AM most hi b4 b2) rfl ?_;simp only [go_sem,simprocAttr];cases z4:most.lt hi
    .simp only [go_sem,simprocAttr];simp only [ji,jj,z1,z2,z3,z4,mN,fA,if_false,same_i,same_j]
    .simp only [bh,gj,gg,sj,go_sem,simprocAttr];simp only [ji,jj,z1,z2,z3,z4,mN,if_true,fA,if_false,same_i]
   .simp only [bh,gj,gg,sj,go_sem,simprocAttr];simp only [ji,jj,z1,z2,z3,mO,mN,if_true,fA,if_false,same_i]
  .simp only [bh,gi,gj2,g0,si,xv,go_sem,simprocAttr];cases z3:decide (hi=⟨0,0⟩)
   .simp only [bh,gj2,gg2,go_sem,simprocAttr];refine ae (AM most hi b4 b2) rfl ?_;simp only [go_sem,simprocAttr];cases z4:most.lt hi
    .simp only [go_sem,simprocAttr];simp only [ji,jj,z1,z2,z3,z4,mN,if_true,fA,if_false,same_j2]
    .simp only [bh,gj2,gg2,sj2,go_sem,simprocAttr];simp only [ji,jj,z1,z2,z3,z4,mN,if_true]
   .simp only [bh,gj2,gg2,sj2,go_sem,simprocAttr];simp only [ji,jj,z1,z2,z3,mO,mN,if_true]
 .simp only [bh,gi,gj2,g0,si,xv,go_sem,simprocAttr];cases z3:decide (hi=⟨0,0⟩)
  .simp only [bh,gj2,gg2,go_sem,simprocAttr];refine ae (AM most hi b4 b2) rfl ?_;simp only [go_sem,simprocAttr];cases z4:most.lt hi
   .simp only [go_sem,simprocAttr];simp only [ji,jj,z1,z3,z4,mO,mN,if_true,fA,if_false,same_j2]
   .simp only [bh,gj2,gg2,sj2,go_sem,simprocAttr];simp only [ji,jj,z1,z3,z4,mO,mN,if_true]
  .simp only [bh,gj2,gg2,sj2,go_sem,simprocAttr];simp only [ji,jj,z1,z3,mO,if_true]
def lP (e:Int) (a b:HrMark):Frac×Frac:=(⟨60*(a.weight-b.weight-2*e),b.minute-a.minute⟩,⟨60*(a.weight-b.weight+2*e),b.minute-a.minute⟩)
def ij (e:Int):List HrMark->List HrMark->List (Frac×Frac)
 |_,[]=>[]
 |done,b::r=>done.map (λa=>lP e a b)++ij e (done++[b]) r
def fe (t:HrTest):List (Frac×Frac):=ij t.error [] t.marks
def wr (q:Frac×Frac):List PV:=[q.1.pv,q.2.pv]
def rC (t:HrTest):PV:=.func (.func 304) [] [.ptr 3 [t.pv] 0 0]
theorem UF (t):ah TP 281 [t.pv] (rC t):=by
 refine cW (ai (by kernel_rfl) rfl WV) rfl ?_;simp only [rC,go_sem,simprocAttr]
structure MarksOk (t:HrTest):Prop where
 len:t.marks.length<=10
 all:∀ m,m∈t.marks->0<=m.minute/\m.minute<=1000000/\0<=m.weight/\m.weight<=10000000
 err:0<=t.error/\t.error<=10000
set_option maxHeartbeats 2000000 in
theorem T3 (t) (hok:MarksOk t):K7 TP (rC t) 2 ((fe t).map wr):=by
 refine ⟨λa ha=>?_,_,_,_,rfl,λid Inv Fin h0 hid hy hi=>?_⟩
 .obtain ⟨q,_,rfl⟩:=ec.1 ha;rfl
 have hl:=hok.len;have he:=hok.err;refine aB (ai (by kernel_rfl) rfl Wu) rfl ?_;simp only [go_sem,simprocAttr]
 refine dZ [0,1,10,11] (σ:=List HrMark×List HrMark×List (Frac×Frac)×Heap×Heap)
  (λq=>t.marks=q.1++q.2.1/\fe t=q.2.2.1++ij t.error q.1 q.2.1/\Inv q.2.2.1.length q.2.2.2.1/\q.2.2.2.1.length=h0.length) (λq=>q.2.1.length)
  (λq=>[(12,.p (.int .i64 q.1.length))]) (λq=>q.2.2.2.1++q.2.2.2.2) ([],t.marks,[],h0,[]) ⟨rfl,rfl,hi,rfl⟩ (by simp) ?_ ?_
 .simp only [go_sem,simprocAttr]
 rintro ⟨done,rest,pre,lo,mid⟩ ⟨e1,e2,hI,hlo⟩
 dsimp only at e1 e2 hI hlo
 cases rest with
 |nil =>
  have hlt:¬ ((done.length:Int)<(t.marks.length:Int)):=by rw [e1];simp
  simp only [hlt,decide_false,go_sem,simprocAttr];refine ⟨lo,mid,rfl,hlo,.inl ?_⟩;rw [e2]
  simpa [ij] using hI
 |cons b r =>
  obtain ⟨hx,hlt⟩:=de e1;have hlen:=congrArg List.length e1;simp only [aI,ct] at hlen;have hnx:IntKind.i64.wrap ((done.length:Int)+1)=(((done++[b]).length:Nat):Int):=ba (by omega) (by simp [aw];omega) (by simp);have hle:((done.length:Nat):Int)<=(t.marks.length:Int):=by omega
  have htk:(t.marks.map HrMark.pv).take done.length=done.map HrMark.pv:=by
   rw [e1,bA,d9 (by simp)]
  have hne:(done.length==t.marks.length)=false:=by simp;omega
  have hb:=hok.all b (by rw [e1];simp);rw [ij] at e2;have gg:=lp hlo;have ss:=nU hlo;have mg:=lq (lo:=mid) rfl;have ms:=nV (lo:=mid) rfl;simp only [hlt,decide_true,hx,hle,htk,hne,cE,aI,bh,hlo,gg,ss,mg,ms,go_sem,simprocAttr]
  refine dZ [0,1,4,10,11,12,20,21] (σ:=List HrMark×List HrMark×List (Frac×Frac)×Heap×Heap)
   (λq=>done=q.1++q.2.1/\fe t=q.2.2.1++(q.2.1.map (λa=>lP t.error a b)++ij t.error (done++[b]) r)/\Inv q.2.2.1.length q.2.2.2.1/\q.2.2.2.1.length=h0.length/\q.2.2.2.2[mid.length]?=some (.row 2 [.p b.pv])) (λq=>q.2.1.length)
   (λq=>[(22,.p (.int .i64 q.1.length))]) (λq=>q.2.2.2.1++q.2.2.2.2) ([],done,pre,lo,mid++[.row 2 [.p b.pv]]) ⟨rfl,e2,hI,hlo,mg _⟩ rfl ?_ ?_
  .simp only [go_sem,simprocAttr]
  clear gg ss mg ms hI hlo e2
  rintro ⟨d2,r2,pre2,lo2,mid2⟩ ⟨f1,f2,hI2,hlo2,hb2⟩
  dsimp only at f1 f2 hI2 hlo2 hb2
  cases r2 with
  |nil =>
   have hlt2:¬ ((d2.length:Int)<(done.length:Int)):=by rw [f1];simp
   simp only [hlt2,decide_false,go_sem,simprocAttr];refine aZ (done++[b],r,pre2,lo2,mid2) ⟨by rw [e1];simp,by simpa using f2,hI2,hlo2⟩ (j3 _) rfl ?_
   simp only [hnx,go_sem,simprocAttr]
  |cons a r2 =>
   obtain ⟨hxa,hlta⟩:=de f1;have hlen2:=congrArg List.length f1;simp only [aI,ct] at hlen2;have hnx2:IntKind.i64.wrap ((d2.length:Int)+1)=(((d2++[a]).length:Nat):Int):=ba (by omega) (by simp [aw];omega) (by simp);have ha:=hok.all a (by rw [e1,f1];simp);have gg:=lp hlo2;have ss:=nU hlo2;have mg:=lq (lo:=mid2) rfl;have ms:=nV (lo:=mid2) rfl;have hbt:∀ x,(mid2++x)[mid.length]?=some (.row 2 [.p b.pv]):=λx=>by rw [be (aE.1 hb2).1];exact hb2
   simp only [HrMark.pv] at hbt;have w1:IntKind.i64.wrap (a.weight-b.weight)=a.weight-b.weight:=ax (by omega) (by omega);have w2:IntKind.i64.wrap (b.minute-a.minute)=b.minute-a.minute:=ax (by omega) (by omega);have w3:IntKind.i64.wrap (2*t.error)=2*t.error:=ax (by omega) (by omega);have w4:IntKind.i64.wrap (a.weight-b.weight-2*t.error)=a.weight-b.weight-2*t.error:=ax (by omega) (by omega);have w5:IntKind.i64.wrap (60*(a.weight-b.weight-2*t.error))=60*(a.weight-b.weight-2*t.error):=ax (by omega) (by omega);have w6:IntKind.i64.wrap (a.weight-b.weight+2*t.error)=a.weight-b.weight+2*t.error:=ax (by omega) (by omega);have w7:IntKind.i64.wrap (60*(a.weight-b.weight+2*t.error))=60*(a.weight-b.weight+2*t.error):=ax (by omega) (by omega);have hget:((fe t).map wr)[pre2.length]?=some (wr (lP t.error a b)):=by rw [f2];simp
   simp only [hlta,decide_true,hxa,cE,aI,bh,hlo2,gg,ss,mg,ms,hbt,w1,w2,w3,w4,w5,w6,w7,go_sem,simprocAttr];have hy':=hy pre2.length _ lo2 (mid2++[AObj.row 2 [AV.p a.pv]]) hget hI2 hlo2;refine pX hy' (λv h' hr=>?_) (λv h' hr=>?_);rotate_left
   .obtain ⟨_,_,_,_,hr⟩:=hr;rcases hr with ⟨hr,_⟩ | ⟨hr,_⟩<;>cases hr
   obtain ⟨lo3,ext,rfl,hlo3,hr⟩:=hr;rcases hr with ⟨hr,hI3⟩ | ⟨hr,hF⟩
   .cases hr;simp only [go_sem,simprocAttr];refine aZ (d2++[a],r2,pre2++[lP t.error a b],lo3,mid2++[.row 2 [.p a.pv]]++ext) ⟨by rw [f1];simp,by rw [f2];simp,by simpa using hI3,hlo3,by rw [cE];exact hbt _⟩ (j3 _) (by simp [cE,HrMark.pv]) ?_;simp only [hnx2,go_sem,simprocAttr]
   .cases hr;simp only [go_sem,simprocAttr];exact ⟨lo3,mid2++[.row 2 [.p a.pv]]++ext,by simp [cE,HrMark.pv],hlo3,.inr hF⟩
structure TestOk (t:HrTest):Prop extends MarksOk t where
 two:2<=t.marks.length
 sorted:t.marks.Pairwise λa b=>a.minute<b.minute
def iM (q p:Frac×Frac):Frac×Frac:=(ji q.1 p.1,jj q.2 p.2)
def iI:Frac×Frac:=(⟨0,0⟩,⟨0,0⟩)
def ef (t:HrTest):Frac×Frac:=(fe t).foldl iM iI
def LU (x:Int):Int:=if 0<x then x else 0
def dH (t:HrTest):Span×Bool:=(⟨LU (ef t).1.down,LU (ef t).2.up⟩,!(ef t).2.lt (ef t).1)
def jL (q:Frac×Frac):Prop:=q.1.B/\q.2.B/\0<q.1.below/\0<q.2.below
theorem zS {t} (hok:TestOk t):∀ (rest done),t.marks=done++rest->∀ q,q∈ij t.error done rest->jL q
 |[],_,_,q,h=>by cases h
 |b::r,done,e,q,h=>by
  rw [ij,ea,ec] at h;rcases h with ⟨a,ha,rfl⟩ | h
  .have h1:=hok.all a (by rw [e];simp [ha]);have h2:=hok.all b (by rw [e];simp);have h3:a.minute<b.minute:=by
    have:=hok.sorted;rw [e,List.pairwise_append] at this;exact this.2.2 a ha b (by simp)
   have h4:=hok.err;simp only [jL,lP,Frac.B];omega
  .exact zS hok r (done++[b]) (by rw [e];simp) q h
theorem mT {t} (hok:TestOk t):∀ q,q∈fe t->jL q:=zS hok t.marks [] rfl
theorem yQ {q p} (hq:q=iI\/jL q) (hp:jL p):jL (iM q p):=by
 unfold iM ji jj;rcases hq with rfl | hq
 .simpa [iI] using hp
 .unfold jL at *
  refine ⟨?_,?_,?_,?_⟩<;>dsimp only<;>split<;>simp_all
theorem yY:∀ (l) (q),(q=iI\/jL q)->(∀ p,p∈l->jL p)->(l.foldl iM q=iI/\l=[]\/jL (l.foldl iM q))
 |[],q,hq,_=>hq.imp (λh=>⟨h,rfl⟩) id
 |p::l,q,hq,hl=>by
  have:=yY l (iM q p) (.inr (yQ hq (hl p (by simp)))) λp' hp'=>hl p' (by simp [hp']);rcases this with ⟨h1,h2⟩ | h
  .subst h2;exact .inr (yQ hq (hl p (by simp)))
  .exact .inr h
theorem E6 {t} (h:2<=t.marks.length):fe t≠[]:=by
 unfold fe
 match hm:t.marks with
 |[]=>rw [hm] at h;simp at h
 |[a]=>rw [hm] at h;simp at h
 |a::b::r=>simp [ij]
theorem yD {t} (hok:TestOk t):jL (ef t):=by
 rcases yY (fe t) iI (.inl rfl) (mT hok) with ⟨_,h⟩ | h
 .exact absurd h (E6 hok.two)
 .exact h
theorem QH:iI.1.B/\iI.2.B:=by simp [iI,Frac.B]
set_option maxHeartbeats 2000000 in
theorem AK (t) (hok:TestOk t):ah TP 237 [t.pv] (.tuple [(dH t).1.pv,.bool (dH t).2]):=by
 refine aa (ai (by kernel_rfl) rfl Xs) rfl ?_;simp only [Vp,go_sem,simprocAttr];refine ae (UF t) rfl ?_;simp only [rC,go_sem,simprocAttr]
 refine I3 (l:=(fe t).map wr) (λo k h=>h=[.row 3 [.p t.pv],.row 2 [.p (.agg [.int .i64 0,.int .i64 0])],.row 2 [.p (((fe t).take k).foldl iM iI).1.pv],.row 2 [.p (((fe t).take k).foldl iM iI).2.pv],
   .row 1 [.func (.func 279) [] [.ptr 2 1 0 0,.ptr 3 1 0 0]],.dblock,o]) (λ_ _=>False)
  rfl (by simp only [rC,go_sem,simprocAttr]) (T3 t hok.toMarksOk) dU (by kernel_rfl) (by kernel_rfl) (by kernel_rfl) ?_ ?_ ?_ ?_ (λ_ _ _ h=>h.elim)
 .rintro o k h rfl;simp
 .intro o;simp only [iI,go_sem,simprocAttr];exact ⟨rfl,rfl⟩
 .rintro oR oB oD k xs lo mid hk rfl _
  rw [cv,bT] at hk;obtain ⟨q,hq,rfl⟩:=hk;have hqB:=mT hok q (aL hq);have hkB:(((fe t).take k).foldl iM iI).1.B/\(((fe t).take k).foldl iM iI).2.B:=by
   rcases yY ((fe t).take k) iI (.inl rfl) (λp hp=>mT hok p (sy hp)) with ⟨h,_⟩ | h
   .rw [h];exact QH
   .exact ⟨h.1,h.2.1⟩
  have mg:=lq (lo:=mid) rfl;have mgg:=lp (lo:=mid) rfl;have ms:=nV (lo:=mid) rfl;have mss:=nU (lo:=mid) rfl;simp only [wr,cE,aI,bh,mg,mgg,ms,mss,go_sem,simprocAttr];refine cy (Ze _ _ q.1 q.2 2 3 _ rfl rfl (by decide) hkB.1 hkB.2 hqB.1 hqB.2.1) ?_;simp only [go_sem,simprocAttr];refine ⟨_,[AObj.row 2 [AV.p q.1.pv],AObj.row 2 [AV.p q.2.pv]]++[AObj.row 2 [AV.p q.1.pv],AObj.row 2 [AV.p q.2.pv]],?_,by simp,rfl⟩;rw [yp,hq,Option.toList_some,wS];simp [iM,Frac.pv]
 .rintro o lo mid rfl _
  have hr:=yD hok;rw [dL,qW];have e:List.foldl iM iI (fe t)=ef t:=rfl;rw [e];simp only [bj,go_sem,simprocAttr];refine aD (lV (ef t).1 hr.2.2.1 (by have:=hr.1.1;omega) (by have:=hr.1.2.1;omega)) rfl ?_;simp only [go_sem,simprocAttr];refine aD (ZM (ef t).2 hr.2.2.2 (by have:=hr.2.1.1;omega) (by have:=hr.2.1.2.1;omega)) rfl ?_;simp only [go_sem,simprocAttr];refine aD (AM (ef t).2 (ef t).1 hr.2.1 hr.1) rfl ?_;simp only [dH,LU,go_sem,simprocAttr];rw [b7];simp only [go_sem,simprocAttr]
end Abs
end Go.Proofs.YtfafnkpfamgbbaaGreatDoor
