/- CONTRACTS of the program's functions, and laws on what they return. No conditions but those in the theorems' heads. -/
import Derived.Test.YtmndpldajflenaaGreatDoorWxChkX
set_option linter.all false
set_option maxHeartbeats 2000000
open Go.Proofs.Tryz renaming prog->TP
open Go.Proofs.Tryz
namespace Go.Proofs.YtmndpldajflenaaGreatDoor
namespace Abs
set_option maxRecDepth 4000
theorem QG(lo hi n):af TP 324 [.int .i64 n,.ptr 1 [.int .i64 lo] 0 0,.ptr 1 [.int .i64 hi] 0 0] (.bool (!ak n lo hi)):=by
 refine aa (ag func324 rfl) rfl ?_;simp only[go_sem,simprocAttr];refine aK (λa=>?_) (λa=>?_)<;>simp only[a,go_sem,simprocAttr]<;>simp_all [ak];rw[<-decide_not];congr 1;simp
theorem ja(lo hi)(l:List Int)(b)(a:l.length<1000000000):af TP 263 [.int .i64 lo,.int .i64 hi,.slice 1 (l.map aI) b] (.bool (l.any λn=>!ak n lo hi)):=by
 refine aa (ag func263 rfl) rfl ?_;simp only[go_sem,simprocAttr];refine aU (jC (fv:=.func (.func 324) [] [.ptr 1 [.int .i64 lo] 0 0,.ptr 1 [.int .i64 hi] 0 0]) l (λn=>!ak n lo hi) b 1 rfl a λn _=>⟨_,_,_,rfl,QG lo hi n⟩) ?_ (.bool _) ?_
 .simp only[go_sem,simprocAttr]
 .simp only[go_sem,simprocAttr]
theorem EQ(x:HrKind):af TP 265 [x.pv] (.str x.name):=by
 refine aa (ag func265 rfl) rfl ?_;simp only[go_sem,simprocAttr]
theorem NU(s)(x:HrKind):af TP 326 [x.pv,.ptr 1 [.func (.func 265) [] []] 0 0,.ptr 1 [.str s] 0 0] (.bool (x.name==s)):=by
 refine aa (ag func326 rfl) rfl ?_;simp only[go_sem,simprocAttr];refine ax (EQ x) rfl ?_;simp only[go_sem,simprocAttr]
theorem LH(l)(x)(b)(u:l.length<1000000):af TP 264 [.slice 4 ((l++[x]).map HrKind.pv) b,.func (.func 265) [] []] (.int .i64 (ai (l.map (·.name)) x.name)):=by
 have hw:IntKind.i64.wrap ((((l++[x]).length:Nat):Int)-1)=((l.length:Nat):Int):=by
  rw[cl (by simp<;>omega) (by simp[ao]<;>omega)];simp
 have hx:(l++[x])[l.length]?=some x:=by simp
 have j:((l.length:Nat):Int)<(((l++[x]).length:Nat):Int):=by simp<;>omega
 have o:((l.length:Nat):Int)<=(((l++[x]).length:Nat):Int):=by omega
 have i:((l++[x]).map HrKind.pv).take l.length=l.map HrKind.pv:=by rw[bD,fa (by simp)]
 have q:(l.length==(l++[x]).length)=false:=by simp
 refine aa (ag func264 rfl) rfl ?_;simp only[hw,hx,j,go_sem,simprocAttr];refine ax (EQ x) rfl ?_;simp only[go_sem,simprocAttr];refine ae (jh x.name) rfl ?_;simp only[go_sem,simprocAttr];cases e:nameOk x.name
 .simp only[go_sem,simprocAttr];simp[ai,e]
 .simp only[o,i,q,go_sem,simprocAttr];refine aU (AM (fv:=.func (.func 326) [] [.ptr 1 [.func (.func 265) [] []] 0 0,.ptr 1 [.str x.name] 0 0]) l (λy=>y.name==x.name) false 4 rfl (by omega) λy _=>⟨_,_,_,rfl,NU x.name y⟩) ?_ (.bool _) ?_
  .simp only[go_sem,simprocAttr]
  simp only[go_sem,simprocAttr];refine aK (λa=>?_) (λa=>?_)<;>simp only[a,go_sem,simprocAttr]
  .simp only[ai,e,l5,js,a,if_true]
  .simp only[ai,e,l5,js,a,if_true,eG,if_false]
theorem EP(x:HrRule):af TP 267 [x.pv] (.str x.name):=by
 refine aa (ag func267 rfl) rfl ?_;simp only[go_sem,simprocAttr]
theorem NT(s)(x:HrRule):af TP 328 [x.pv,.ptr 1 [.func (.func 267) [] []] 0 0,.ptr 1 [.str s] 0 0] (.bool (x.name==s)):=by
 refine aa (ag func328 rfl) rfl ?_;simp only[go_sem,simprocAttr];refine ax (EP x) rfl ?_;simp only[go_sem,simprocAttr]
theorem LG(l)(x)(b)(u:l.length<1000000):af TP 266 [.slice 5 ((l++[x]).map HrRule.pv) b,.func (.func 267) [] []] (.int .i64 (ai (l.map (·.name)) x.name)):=by
 have hw:IntKind.i64.wrap ((((l++[x]).length:Nat):Int)-1)=((l.length:Nat):Int):=by
  rw[cl (by simp<;>omega) (by simp[ao]<;>omega)];simp
 have hx:(l++[x])[l.length]?=some x:=by simp
 have j:((l.length:Nat):Int)<(((l++[x]).length:Nat):Int):=by simp<;>omega
 have o:((l.length:Nat):Int)<=(((l++[x]).length:Nat):Int):=by omega
 have i:((l++[x]).map HrRule.pv).take l.length=l.map HrRule.pv:=by rw[bD,fa (by simp)]
 have q:(l.length==(l++[x]).length)=false:=by simp
 refine aa (ag func266 rfl) rfl ?_;simp only[hw,hx,j,go_sem,simprocAttr];refine ax (EP x) rfl ?_;simp only[go_sem,simprocAttr];refine ae (jh x.name) rfl ?_;simp only[go_sem,simprocAttr];cases e:nameOk x.name
 .simp only[go_sem,simprocAttr];simp[ai,e]
 .simp only[o,i,q,go_sem,simprocAttr];refine aU (AL (fv:=.func (.func 328) [] [.ptr 1 [.func (.func 267) [] []] 0 0,.ptr 1 [.str x.name] 0 0]) l (λy=>y.name==x.name) false 5 rfl (by omega) λy _=>⟨_,_,_,rfl,NT x.name y⟩) ?_ (.bool _) ?_
  .simp only[go_sem,simprocAttr]
  simp only[go_sem,simprocAttr];refine aK (λa=>?_) (λa=>?_)<;>simp only[a,go_sem,simprocAttr]
  .simp only[ai,e,l5,js,a,if_true]
  .simp only[ai,e,l5,js,a,if_true,eG,if_false]
def dW (k:HrKind):Int:=
 if(ak k.weight.lo 1 10000000&&ak k.weight.hi 1 10000000&&ak k.rest 0 10000000)=true then(if(decide (k.weight.hi<k.weight.lo)||decide (k.weight.lo<=k.rest))=true then 2 else 0) else 7
def ey (r:HrRule):Int:=
 if(ak r.minutes.lo 0 1000000&&ak r.minutes.hi 0 1000000&&(ak r.weight.lo 0 10000000&&ak r.weight.hi 0 10000000))=true then
  (if(decide (r.minutes.hi<r.minutes.lo)||decide (r.weight.hi<r.weight.lo))=true then 2 else 0) else 7
def bG (before:List ByteArray) (k:HrKind):Int:=if ai before k.name=0 then dW k else ai before k.name
def cw (before:List ByteArray) (r:HrRule):Int:=if ai before r.name=0 then ey r else ai before r.name
def io (s:HrShop):Option (Int×Int)->Int×Int×Int
 |some (i,e)=>(2,i,e)
 |none=>match firstErr cw (·.name) s.rules []with|some (i,e)=>(3,i,e)|none=>(0,0,0)
def hrCheck (s:HrShop):Int×Int×Int:=
 if(ak s.kinds.length 1 6&&decide (s.rules.length<=6))=true then
  if ak s.margin 0 500=true then io s (firstErr bG (·.name) s.kinds []) else(1,0,7)
 else(1,0,3)
theorem BC{s}{a r}{x}(_:s.kinds=a++x::r)(o:firstErr bG (·.name) s.kinds []=firstErr bG (·.name) (x::r) (a.map (·.name))) :
  (bG (a.map (·.name)) x=0->firstErr bG (·.name) s.kinds []=firstErr bG (·.name) r ((a++[x]).map (·.name))) /\
  ∀e,bG (a.map (·.name)) x=e->e≠0->io s (firstErr bG (·.name) s.kinds [])=(2,(a.length:Int),e):=by
 have j:firstErr bG (·.name) s.kinds []=if bG (a.map (·.name)) x=0 then firstErr bG (·.name) r ((a++[x]).map (·.name)) else some ((a.length:Int),bG (a.map (·.name)) x):=by
  rw[o,firstErr];simp
 exact⟨λh=>by rw[j,if_pos h],λe l i=>by rw[j,l,if_neg i];rfl⟩
theorem BB{s}{a r}{x}(_:s.rules=a++x::r)(o:firstErr cw (·.name) s.rules []=firstErr cw (·.name) (x::r) (a.map (·.name))) :
  (cw (a.map (·.name)) x=0->firstErr cw (·.name) s.rules []=firstErr cw (·.name) r ((a++[x]).map (·.name))) /\
  ∀e,cw (a.map (·.name)) x=e->e≠0->io s none=(3,(a.length:Int),e):=by
 have j:firstErr cw (·.name) s.rules []=if cw (a.map (·.name)) x=0 then firstErr cw (·.name) r ((a++[x]).map (·.name)) else some ((a.length:Int),cw (a.map (·.name)) x):=by
  rw[o,firstErr];simp
 exact⟨λh=>by rw[j,if_pos h],λe l i=>by simp only[io];rw[j,l,if_neg i]⟩
theorem ER(s):af TP 196 [s.pv] (ah (hrCheck s)):=by
 refine aa (ag func196 rfl) rfl ?_;simp only[go_sem,simprocAttr];refine ae (ja 1 6 [_] true (by simp)) rfl ?_;simp only[bJ,cb,cn,go_sem,simprocAttr];cases J:ak s.kinds.length 1 6
 .simp only[ah,hrCheck,J,go_sem,simprocAttr]
 simp only[go_sem,simprocAttr];cases N:decide ((6:Int)<(s.rules.length:Int));rotate_left
 .have u:decide (s.rules.length<=6)=false:=by simp at N |-;omega
  simp only[ah,hrCheck,J,u,go_sem,simprocAttr]
 have u:decide (s.rules.length<=6)=true:=by simp at N |-;omega
 simp only[go_sem,simprocAttr];refine ae (ja 0 500 [_] true (by simp)) rfl ?_;simp only[bJ,cb,cn,go_sem,simprocAttr];cases M:ak s.margin 0 500
 .simp only[ah,hrCheck,J,u,M,go_sem,simprocAttr]
 have G:hrCheck s=io s (firstErr bG (·.name) s.kinds []):=by simp only[hrCheck,J,u,M,qf,if_true]
 rw[G];have R:s.kinds.length<=6:=by simp[ak]at J;omega
 have O:s.rules.length<=6:=by simpa using u
 simp only[go_sem,simprocAttr]
 refine bg [1,27,28] s.kinds (by omega) (τ:=Unit) (λa rest _=>firstErr bG (·.name) s.kinds []=firstErr bG (·.name) rest (a.map (·.name)))
  (λa _=>[(29,.p (.int .i64 a.length)),(4,.p (.int .i64 0))]) (λ_ _=>[.row 3 [.p s.pv]]) () rfl ?_ ?_ ?_
 .simp only[go_sem,simprocAttr]<;>simp
 .intro _ A;have K:io s (firstErr bG (·.name) s.kinds [])=io s none:=by rw[A];rfl
  rw[K];simp only[go_sem,simprocAttr]
  refine bg [1,80,81] s.rules (by omega) (τ:=Unit) (λa rest _=>firstErr cw (·.name) s.rules []=firstErr cw (·.name) rest (a.map (·.name)))
   (λa _=>[(82,.p (.int .i64 a.length)),(4,.p (.int .i64 0))]) (λ_ _=>[.row 3 [.p s.pv]]) () rfl ?_ ?_ ?_
  .simp only[go_sem,simprocAttr]<;>simp
  .intro _ A;have K:io s none=(0,0,0):=by
    simp only[io];rw[A];rfl
   simp only[ah,K,go_sem,simprocAttr]
  .intro a x r _ o A hx D q;obtain⟨L,i⟩:=BB o A;have E:(((a++[x]).length:Nat):Int)<=(s.rules.length:Int):=by rw[o];simp<;>omega
   have C:(s.rules.map HrRule.pv).take (a++[x]).length=(a++[x]).map HrRule.pv:=by
    rw[o,show a++x::r=(a++[x])++r by simp,bD,fa (by simp)]
   have F:a.length<1000000:=by have:=congrArg List.length o;simp at this;omega
   simp only[D,hx,q,E,C,go_sem,simprocAttr];refine ae (LG a x false F) rfl ?_;simp only[go_sem,simprocAttr];cases z:(ai (a.map (·.name)) x.name != 0)
   rotate_left
   .have e:ai (a.map (·.name)) x.name≠0:=by simpa using z
    simp only[z,ah,i _ (by rw[cw,if_neg e]) e,go_sem,simprocAttr]
   have e:ai (a.map (·.name)) x.name=0:=by simpa using z
   have j:cw (a.map (·.name)) x=ey x:=by rw[cw,if_pos e]
   simp only[go_sem,simprocAttr];refine ae (ja 0 1000000 [_,_] true (by simp)) rfl ?_;simp only[bJ,cb,cn,<-ko,go_sem,simprocAttr];cases l:(ak x.minutes.lo 0 1000000&&ak x.minutes.hi 0 1000000)
   .simp only[ah,i 7 (by rw[j,ey,l];rfl) (by decide),go_sem,simprocAttr]
   simp only[go_sem,simprocAttr];refine ae (ja 0 10000000 [_,_] true (by simp)) rfl ?_;simp only[bJ,cb,cn,<-ko,go_sem,simprocAttr];cases v:(ak x.weight.lo 0 10000000&&ak x.weight.hi 0 10000000)
   .simp only[ah,i 7 (by rw[j,ey,l,v];rfl) (by decide),go_sem,simprocAttr]
   simp only[go_sem,simprocAttr];cases y:decide (x.minutes.hi<x.minutes.lo);rotate_left
   .simp only[ah,i 2 (by rw[j,ey,l,v,y];rfl) (by decide),go_sem,simprocAttr]
   simp only[go_sem,simprocAttr];cases I:decide (x.weight.hi<x.weight.lo);rotate_left
   .simp only[ah,i 2 (by rw[j,ey,l,v,y,I];rfl) (by decide),go_sem,simprocAttr]
   simp only[e,go_sem,simprocAttr];refine aD o () (L (by rw[j,ey,l,v,y,I];rfl)) ?_;simp only[q,go_sem,simprocAttr]
 .intro a x r _ o A hx D q;obtain⟨L,i⟩:=BC o A;have E:(((a++[x]).length:Nat):Int)<=(s.kinds.length:Int):=by rw[o];simp<;>omega
  have C:(s.kinds.map HrKind.pv).take (a++[x]).length=(a++[x]).map HrKind.pv:=by
   rw[o,show a++x::r=(a++[x])++r by simp,bD,fa (by simp)]
  have F:a.length<1000000:=by have:=congrArg List.length o;simp at this;omega
  simp only[D,hx,q,E,C,go_sem,simprocAttr];refine ae (LH a x false F) rfl ?_;simp only[go_sem,simprocAttr];cases z:(ai (a.map (·.name)) x.name != 0)
  rotate_left
  .have e:ai (a.map (·.name)) x.name≠0:=by simpa using z
   simp only[z,ah,i _ (by rw[bG,if_neg e]) e,go_sem,simprocAttr]
  have e:ai (a.map (·.name)) x.name=0:=by simpa using z
  have j:bG (a.map (·.name)) x=dW x:=by rw[bG,if_pos e]
  simp only[go_sem,simprocAttr];refine ae (ja 1 10000000 [_,_] true (by simp)) rfl ?_;simp only[bJ,cb,cn,<-ko,go_sem,simprocAttr];cases l:(ak x.weight.lo 1 10000000&&ak x.weight.hi 1 10000000)
  .simp only[ah,i 7 (by rw[j,dW,l];rfl) (by decide),go_sem,simprocAttr]
  simp only[go_sem,simprocAttr];refine ae (ja 0 10000000 [_] true (by simp)) rfl ?_;simp only[bJ,cb,cn,go_sem,simprocAttr];cases v:ak x.rest 0 10000000
  .simp only[ah,i 7 (by rw[j,dW,l,v];rfl) (by decide),go_sem,simprocAttr]
  simp only[go_sem,simprocAttr];cases y:decide (x.weight.hi<x.weight.lo);rotate_left
  .simp only[ah,i 2 (by rw[j,dW,l,v,y];rfl) (by decide),go_sem,simprocAttr]
  simp only[go_sem,simprocAttr];cases I:decide (x.weight.lo<=x.rest);rotate_left
  .simp only[ah,i 2 (by rw[j,dW,l,v,y,I];rfl) (by decide),go_sem,simprocAttr]
  simp only[e,go_sem,simprocAttr];refine aD o () (L (by rw[j,dW,l,v,y,I];rfl)) ?_;simp only[q,go_sem,simprocAttr]
theorem Jd(x):af TP 168 [x.pv] (.int .i64 (dW x)):=by
 refine aa (ag func168 rfl) rfl ?_;simp only[go_sem,simprocAttr];refine ae (ox _ _ _ _) rfl ?_;simp only[go_sem,simprocAttr];refine ae (NS _ _ _) rfl ?_;unfold dW;cases e:ak x.weight.lo 1 10000000
 .have a:dg x.weight.lo x.weight.hi 1 10000000=7:=by simp[dg,e]
  cases o:ak x.rest 0 10000000
  .simp only[a,go_sem,simprocAttr]
  .simp only[a,go_sem,simprocAttr]
 cases i:ak x.weight.hi 1 10000000
 .have a:dg x.weight.lo x.weight.hi 1 10000000=7:=by simp[dg,e,i]
  cases o:ak x.rest 0 10000000
  .simp only[a,go_sem,simprocAttr]
  .simp only[a,go_sem,simprocAttr]
 cases o:ak x.rest 0 10000000
 .simp only[go_sem,simprocAttr]
 cases l:decide (x.weight.hi<x.weight.lo)
 .have a:dg x.weight.lo x.weight.hi 1 10000000=0:=by simp[dg,e,i];simpa using l
  cases j:decide (x.weight.lo<=x.rest)
  .simp only[a,j,go_sem,simprocAttr]
  .simp only[a,j,go_sem,simprocAttr]
 .have a:dg x.weight.lo x.weight.hi 1 10000000=2:=by simp[dg,e,i];simpa using l
  simp only[a,go_sem,simprocAttr]
theorem Jc(x):af TP 169 [x.pv] (.int .i64 (ey x)):=by
 refine aa (ag func169 rfl) rfl ?_;simp only[go_sem,simprocAttr];refine ax (ox _ _ _ _) rfl ?_;simp only[go_sem,simprocAttr];refine ax (ox _ _ _ _) rfl ?_;unfold ey;have e:∀(a:Span) (m n:Int),dg a.lo a.hi m n=if(ak a.lo m n&&ak a.hi m n)=true then(if decide (a.hi<a.lo)=true then 2 else 0) else 7:=by
  intro a m n;unfold dg;cases ak a.lo m n<;>cases ak a.hi m n<;>simp
 simp only[e]
 cases o:(ak x.minutes.lo 0 1000000&&ak x.minutes.hi 0 1000000)<;>cases l:(ak x.weight.lo 0 10000000&&ak x.weight.hi 0 10000000) <;>
  cases j:decide (x.minutes.hi<x.minutes.lo)<;>cases i:decide (x.weight.hi<x.weight.lo)<;>(simp only[go_sem,simprocAttr];try rfl)
theorem Gg(s):af TP 130 [s.pv] (ah (hrCheck s)):=by
 refine aa (ag func130 rfl) rfl ?_;simp only[go_sem,simprocAttr];refine ae (NS _ _ _) rfl ?_;simp only[go_sem,simprocAttr];cases E:ak s.kinds.length 1 6
 .simp only[ah,hrCheck,E,go_sem,simprocAttr]
 simp only[go_sem,simprocAttr];cases K:decide ((6:Int)<(s.rules.length:Int));rotate_left
 .have l:decide (s.rules.length<=6)=false:=by simp at K |-;omega
  simp only[ah,hrCheck,E,l,go_sem,simprocAttr]
 have l:decide (s.rules.length<=6)=true:=by simp at K |-;omega
 simp only[go_sem,simprocAttr];refine ae (NS _ _ _) rfl ?_;simp only[go_sem,simprocAttr];cases J:ak s.margin 0 500
 .simp only[ah,hrCheck,E,l,J,go_sem,simprocAttr]
 have A:hrCheck s=io s (firstErr bG (·.name) s.kinds []):=by simp only[hrCheck,E,l,J,qf,if_true]
 rw[A];have M:s.kinds.length<=6:=by simp[ak]at E;omega
 have L:s.rules.length<=6:=by simpa using l
 simp only[go_sem,simprocAttr];refine cp 5 1 (by simp only[go_sem,simprocAttr]) ?_;simp only[go_sem,simprocAttr]
 refine bg [1] s.kinds (by omega) (τ:=Unit) (λa rest _=>firstErr bG (·.name) s.kinds []=firstErr bG (·.name) rest (a.map (·.name)))
  (λa _=>[(5,.slice 1 a.length 0 a.length),(6,.p (.int .i64 a.length))]) (λa _=>[.row 3 [.p s.pv],.row 1 (a.map λx=>.p (.str x.name))]) () rfl ?_ ?_ ?_
 .simp only[go_sem,simprocAttr]<;>simp
 .intro _ u;have G:io s (firstErr bG (·.name) s.kinds [])=io s none:=by rw[u];rfl
  rw[G];simp only[go_sem,simprocAttr];refine cp 5 1 (by simp only[go_sem,simprocAttr]) ?_;simp only[go_sem,simprocAttr]
  refine bg [1] s.rules (by omega) (τ:=Unit) (λa rest _=>firstErr cw (·.name) s.rules []=firstErr cw (·.name) rest (a.map (·.name)))
   (λa _=>[(5,.slice 2 a.length 0 a.length),(8,.p (.int .i64 a.length))]) (λa _=>[.row 3 [.p s.pv],.row 1 (s.kinds.map λx=>.p (.str x.name)),.row 1 (a.map λx=>.p (.str x.name))]) () rfl ?_ ?_ ?_
  .simp only[go_sem,simprocAttr]<;>simp
  .intro _ u;have G:io s none=(0,0,0):=by
    simp only[io];rw[u];rfl
   simp only[ah,G,go_sem,simprocAttr]
  .intro a x r _ F u hx i y;obtain⟨I,o⟩:=BB F u;have v:a.length+1<=ao:=by simp[ao];omega
   simp only[i,hx,go_sem,simprocAttr];refine aU (i8 x.name (a.map (·.name)) false (a.map λx=>.str x.name) (by simp) (by simp;omega)) ?_ (.int _ _) ?_
   .simp only[go_sem,simprocAttr]
   simp only[v,i,hx,go_sem,simprocAttr];cases q:(ai (a.map (·.name)) x.name==0)
   .have e:ai (a.map (·.name)) x.name≠0:=by simpa using q
    have z:(ai (a.map (·.name)) x.name != 0)=true:=by simp[bne,q]
    simp only[z,ah,o _ (by rw[cw,if_neg e]) e,go_sem,simprocAttr]
   have e:ai (a.map (·.name)) x.name=0:=by simpa using q
   have C:cw (a.map (·.name)) x=ey x:=by rw[cw,if_pos e]
   simp only[hx,i,go_sem,simprocAttr];refine ae (Jc x) rfl ?_;simp only[go_sem,simprocAttr];cases D:(ey x != 0)
   rotate_left
   .have j:ey x≠0:=by simpa using D
    simp only[ah,o _ C j,go_sem,simprocAttr]
   have j:ey x=0:=by simpa using D
   simp only[go_sem,simprocAttr];refine aD F () (I (C.trans j)) ?_;simp only[y,go_sem,simprocAttr];all_goals simp
 .intro a x r _ F u hx i y;obtain⟨I,o⟩:=BC F u;have v:a.length+1<=ao:=by simp[ao];omega
  simp only[i,hx,go_sem,simprocAttr];refine aU (i8 x.name (a.map (·.name)) false (a.map λx=>.str x.name) (by simp) (by simp;omega)) ?_ (.int _ _) ?_
  .simp only[go_sem,simprocAttr]
  simp only[v,i,hx,go_sem,simprocAttr];cases q:(ai (a.map (·.name)) x.name==0)
  .have e:ai (a.map (·.name)) x.name≠0:=by simpa using q
   have z:(ai (a.map (·.name)) x.name != 0)=true:=by simp[bne,q]
   simp only[z,ah,o _ (by rw[bG,if_neg e]) e,go_sem,simprocAttr]
  have e:ai (a.map (·.name)) x.name=0:=by simpa using q
  have C:bG (a.map (·.name)) x=dW x:=by rw[bG,if_pos e]
  simp only[hx,i,go_sem,simprocAttr];refine ae (Jd x) rfl ?_;simp only[go_sem,simprocAttr];cases D:(dW x != 0)
  rotate_left
  .have j:dW x≠0:=by simpa using D
   simp only[ah,o _ C j,go_sem,simprocAttr]
  have j:dW x=0:=by simpa using D
  simp only[go_sem,simprocAttr];refine aD F () (I (C.trans j)) ?_;simp only[y,go_sem,simprocAttr];all_goals simp
def mT (m:HrMark):Bool:=ak m.minute 0 1000000&&ak m.weight 0 10000000
def kf:Int->List HrMark->Bool
 |_,[]=>false
 |last,m::r=>decide (m.minute<=last)||kf m.minute r
def bQ (nk:Int) (t:HrTest):Int:=
 if ak t.kind 0 (nk-1)=true then
  if ak t.marks.length 2 10=true then
   if ak t.error 0 10000=true then
    if t.marks.all mT=true then(if kf (-1) t.marks=true then 2 else 0) else 7
   else 7
  else 3
 else 4
theorem BV(s:HrShop)(t)(I:s.kinds.length<=1000):af TP 340 [s.pv,t.pv] (.int .i64 (bQ s.kinds.length t)):=by
 refine aa (ag func340 rfl) rfl ?_;have hw:IntKind.i64.wrap ((s.kinds.length:Int)-1)=(s.kinds.length:Int)-1:=am (by omega) (by omega);simp only[hw,go_sem,simprocAttr];refine ae (ja 0 _ [_] true (by simp)) rfl ?_;simp only[bJ,cb,cn,go_sem,simprocAttr];cases y:ak t.kind 0 ((s.kinds.length:Int)-1)
 .simp only[bQ,y,go_sem,simprocAttr]
 simp only[go_sem,simprocAttr];refine ae (ja 2 10 [_] true (by simp)) rfl ?_;simp only[bJ,cb,cn,go_sem,simprocAttr];cases v:ak t.marks.length 2 10
 .simp only[bQ,y,v,go_sem,simprocAttr]
 simp only[go_sem,simprocAttr];refine ae (ja 0 10000 [_] true (by simp)) rfl ?_;simp only[bJ,cb,cn,go_sem,simprocAttr];cases E:ak t.error 0 10000
 .simp only[bQ,y,v,E,go_sem,simprocAttr]
 have l:bQ s.kinds.length t=if t.marks.all mT=true then(if kf (-1) t.marks=true then 2 else 0) else 7:=by simp only[bQ,y,v,E,if_true]
 rw[l];have G:t.marks.length<=10:=by simp[ak]at v;omega
 simp only[go_sem,simprocAttr]
 refine bg [30,31] t.marks (by omega) (τ:=Int×Bool) (λe rest q=>t.marks.all mT=rest.all mT/\kf (-1) t.marks=(q.2||kf q.1 rest))
  (λe q=>[(32,.p (.int .i64 e.length)),(5,.p (.int .i64 q.1)),(6,.p (.bool q.2))]) (λ_ _=>[.row 3 [.p s.pv],.row 3 [.p t.pv]]) (-1,false) ⟨rfl,by simp⟩ ?_ ?_ ?_
 .simp only[go_sem,simprocAttr]<;>simp
 .rintro⟨j,a⟩ ⟨i,o⟩
  dsimp only at i o;rw[i,o];cases a
  .simp only[HV,kf,go_sem,simprocAttr]
  .simp only[HV,kf,go_sem,simprocAttr]
 .rintro e x r ⟨j,a⟩ F ⟨i,o⟩ hx A u
  dsimp only at i o;rw[List.all_cons]at i;simp only[A,hx,go_sem,simprocAttr];refine ae (ja 0 1000000 [_] true (by simp)) rfl ?_;simp only[bJ,cb,cn,go_sem,simprocAttr];cases z:ak x.minute 0 1000000
  .rw[i,mT,z];simp only[go_sem,simprocAttr]
  simp only[go_sem,simprocAttr];refine ae (ja 0 10000000 [_] true (by simp)) rfl ?_;simp only[bJ,cb,cn,go_sem,simprocAttr];cases D:ak x.weight 0 10000000
  .rw[i,mT,z,D];simp only[go_sem,simprocAttr]
  have C:mT x=true:=by rw[mT,z,D];rfl
  cases a
  .simp only[go_sem,simprocAttr];refine aD F (x.minute,decide (x.minute<=j)) ⟨by rw[i,C];rfl,by rw[o,kf];rfl⟩ ?_;simp only[u,go_sem,simprocAttr]
  .simp only[go_sem,simprocAttr];refine aD F (x.minute,true) ⟨by rw[i,C];rfl,by rw[o];rfl⟩ ?_;simp only[u,go_sem,simprocAttr]
def cL (nk:Int):List HrTest->Int
 |[]=>0
 |t::r=>if bQ nk t=0 then cL nk r else bQ nk t
def bX (s:HrShop) (l:List HrTest):Int:=if(hrCheck s).2.2=0 then cL s.kinds.length l else(hrCheck s).2.2
theorem lZ{s}(h:(hrCheck s).2.2=0):s.kinds.length<=6/\s.rules.length<=6/\1<=s.kinds.length:=by
 unfold hrCheck at h;split at h
 .rename_i a;simp[ak]at a;omega
 .cases h
theorem nV(s)(l)(b)(y:(hrCheck s).2.2=0->l.length<1000000000):af TP 332 [s.pv,.slice 3 (l.map HrTest.pv) b] (.int .i64 (bX s l)):=by
 refine aa (ag func332 rfl) rfl ?_;simp only[go_sem,simprocAttr];refine ae (ER s) rfl ?_;simp only[ah,go_sem,simprocAttr];cases v:((hrCheck s).2.2 != 0)
 rotate_left
 .have a:¬(hrCheck s).2.2=0:=by simpa using v
  simp only[bX,if_neg a,go_sem,simprocAttr]
 have a:(hrCheck s).2.2=0:=by simpa using v
 have A:=(lZ a).1;rw[bX,if_pos a];simp only[go_sem,simprocAttr]
 refine bg [2,20,21] l (y a) (τ:=Unit) (λe rest _=>cL s.kinds.length l=cL s.kinds.length rest)
  (λe _=>[(22,.p (.int .i64 e.length))]) (λ_ _=>[.row 3 [.p s.pv]]) () rfl ?_ ?_ ?_
 .simp only[go_sem,simprocAttr]<;>simp
 .intro _ j;rw[j];simp only[cL,go_sem,simprocAttr]
 .intro e x r _ z j hx q o;rw[cL]at j;simp only[q,hx,go_sem,simprocAttr];refine ae (BV s x (by omega)) rfl ?_;simp only[go_sem,simprocAttr];cases u:(bQ s.kinds.length x != 0)
  .have i:bQ s.kinds.length x=0:=by simpa using u
   simp only[go_sem,simprocAttr];refine aD z () (by rw[j,if_pos i]) ?_;simp only[o,go_sem,simprocAttr]
  .have i:¬bQ s.kinds.length x=0:=by simpa using u
   simp only[j,if_neg i,go_sem,simprocAttr]
def cU (s:HrShop) (l:List HrTest):Int:=if(hrCheck s).2.2=0 then(if 8<l.length then 3 else cL s.kinds.length l) else(hrCheck s).2.2
structure Frac where
 top:Int
 below:Int
 deriving DecidableEq
def Frac.pv (f:Frac):PV:=.agg [.int .i64 f.top,.int .i64 f.below]
attribute [go_sem] Frac.pv
def Frac.B (f:Frac):Prop:=-1000000000<=f.top/\f.top<=1000000000/\0<=f.below/\f.below<=1000000000
def Frac.lt (f g:Frac):Bool:=decide (f.top*g.below<g.top*f.below)
def Frac.down (f:Frac):Int:=f.top / f.below
def Frac.up (f:Frac):Int:=-(-f.top / f.below)
theorem Iz{a b}(j:-1000000000<=a)(i:a<=1000000000)(e:0<=b)(l:b<=1000000000):-1000000000000000000<=a*b/\a*b<=1000000000000000000:=by
 have q:a*b<=1000000000*b:=wQ i e;have o:-1000000000*b<=a*b:=wQ j e;omega
theorem zl(f g:Frac)(e:f.B)(a:g.B):af TP 380 [f.pv,g.pv] (.bool (f.lt g)):=by
 refine aa (ag func380 rfl) rfl ?_;have o:=Iz e.1 e.2.1 a.2.2.1 a.2.2.2;have l:=Iz a.1 a.2.1 e.2.2.1 e.2.2.2;have j:IntKind.i64.wrap (f.top*g.below)=f.top*g.below:=am (by omega) (by omega);have i:IntKind.i64.wrap (g.top*f.below)=g.top*f.below:=am (by omega) (by omega);simp only[j,i,Frac.lt,go_sem,simprocAttr]
theorem sR(a b:Int)(e:0<b):a / b=if a.tmod b<0 then a.tdiv b-1 else a.tdiv b:=by
 have i:=Int.tdiv_eq_ediv (a:=a) (b:=b);have l:=Int.tmod_eq_emod (a:=a) (b:=b);have v:=Int.emod_nonneg a (Int.ne_of_gt e);have u:=Int.emod_lt_of_pos a e;have o:b.sign=1:=Int.sign_eq_one_of_pos e;have q:(b.natAbs:Int)=b:=Int.natAbs_of_nonneg (HX e);rw[o]at i;by_cases j:0<=a\/b ∣ a
 .rw[if_pos j]at i l;rw[if_neg (by omega)];omega
 .rw[if_neg j]at i l;rw[if_pos (by omega)];omega
theorem ze{a b B}(i:0<b)(o:-B<=a)(l:a<=B)(j:0<=B):-B<=a / b/\a / b<=B:=by
 refine⟨?_,?_⟩
 .have:-B*b<=a:=by
   have:B*1<=B*b:=sA (by omega) j;have e:-B*b=-(B*b):=by rw[C5]
   omega
  exact(zR i).2 this
 .rcases HW 0 a with h|h
  .exact zQ (Int.ediv_le_self b h) l
  .have:a / b<=0:=by
    have:=C6 i h;simpa using this
   omega
theorem lz(f:Frac)(j:0<f.below)(o:-1000000000000000000<=f.top)(l:f.top<=1000000000000000000):af TP 382 [f.pv] (.int .i64 f.down):=by
 refine aa (ag func382 rfl) rfl ?_;have e:¬f.below=0:=by omega
 have v:=ze j o l (by omega);have a:=sR f.top f.below j;have u:IntKind.i64.wrap (f.top.tdiv f.below)=f.top.tdiv f.below:=by
  split at a
  .exact am (by omega) (by omega)
  .exact am (by omega) (by omega)
 simp only[e,u,Frac.down,go_sem,simprocAttr];cases i:decide (f.top.tmod f.below<0)
 .rw[if_neg (by simpa using i)]at a;simp only[a,go_sem,simprocAttr]
 .rw[if_pos (by simpa using i)]at a;have q:IntKind.i64.wrap (f.top.tdiv f.below-1)=f.top.tdiv f.below-1:=am (by omega) (by omega);simp only[a,q,go_sem,simprocAttr]
theorem US(f:Frac)(e:0<f.below)(q:-1000000000000000000<=f.top)(o:f.top<=1000000000000000000):af TP 383 [f.pv] (.int .i64 f.up):=by
 refine aa (ag func383 rfl) rfl ?_;have j:IntKind.i64.wrap (-f.top)=-f.top:=am (by omega) (by omega);have l:=ze (a:=-f.top) (B:=1000000000000000000) e (by omega) (by omega) (by omega);have i:IntKind.i64.wrap (-(-f.top / f.below))=-(-f.top / f.below):=am (by omega) (by omega);simp only[j,go_sem,simprocAttr];refine ae (lz ⟨-f.top,f.below⟩ e (by show -1000000000000000000<=-f.top;omega) (by show -f.top<=1000000000000000000;omega)) rfl ?_;simp only[Frac.down,i,Frac.up,go_sem,simprocAttr]
def iV (lo least:Frac):Frac:=if(decide (lo=⟨0,0⟩)||lo.lt least)=true then least else lo
def iW (hi most:Frac):Frac:=if(decide (hi=⟨0,0⟩)||most.lt hi)=true then most else hi
theorem vR(f:Frac):((f.top==0)&&(f.below==0))=decide (f=⟨0,0⟩):=by
 cases f with
 |mk a b=>rw[sD];simp
theorem Un(lo hi least most)(i j)(h)(E:h[i]?=some (.row 2 [.p lo.pv]))(v:h[j]?=some (.row 2 [.p hi.pv]))(K:i≠j)(U:lo.B)(O:hi.B)(T:least.B)(N:most.B) :
  ar TP 379 [.p least.pv,.p most.pv,.ptr i 1 0 0,.ptr j 1 0 0] h (λr h'=>r=.ret (.p (.tuple [])) /\
   h'=(h.set i (.row 2 [.p (iV lo least).pv])).set j (.row 2 [.p (iW hi most).pv])++[.row 2 [.p least.pv],.row 2 [.p most.pv]]):=by
 refine au (ag func379 rfl) rfl ?_;have J:i<h.length:=(aB.1 E).1;have C:j<h.length:=(aB.1 v).1;have I:∀t,(h++t)[i]?=some (.row 2 [.p lo.pv]):=λt=>by rw[bp J];exact E
 have G:∀t,(h++t)[j]?=some (.row 2 [.p hi.pv]):=λt=>by rw[bp C];exact v
 have l:∀x t,(h.set i x++t)[j]?=some (.row 2 [.p hi.pv]):=λx t=>by rw[bp (by simpa using C),db K];exact v
 have S:∀t x,(h++t).set i x=h.set i x++t:=λt x=>xP _ _ J;have R:∀t x,(h++t).set j x=h.set j x++t:=λt x=>xP _ _ C;have A:∀t x y,(h.set i y++t).set j x=(h.set i y).set j x++t:=λt x y=>xP _ _ (by simpa using C);have L:=kT (lo:=h) rfl;have M:=kU (lo:=h) rfl;have q:∀x,∀t j,(h.set i x++t)[h.length+j]?=t[j]?:=λx=>kT (lo:=h.set i x) (by simp);have V:∀x,∀t,(h.set i x++t)[h.length]?=t[0]?:=λx=>kU (lo:=h.set i x) (by simp);have a:h.set i (.row 2 [.p lo.pv])=h:=nH E;have o:h.set j (.row 2 [.p hi.pv])=h:=nH v;have e:∀x,(h.set i x).set j (.row 2 [.p hi.pv])=h.set i x:=λx=>nH (by rw[db K];exact v);simp only[Frac.pv]at I G l a o e;simp only[dJ,aL,aV,I,vR,go_sem,simprocAttr];cases z:decide (lo=⟨0,0⟩)
 .simp only[aV,I,M,go_sem,simprocAttr];refine ae (zl lo least U T) rfl ?_;simp only[go_sem,simprocAttr];cases F:lo.lt least
  .simp only[aV,G,vR,go_sem,simprocAttr];cases u:decide (hi=⟨0,0⟩)
   .simp only[aV,G,L,go_sem,simprocAttr];refine ae (zl most hi N O) rfl ?_;simp only[go_sem,simprocAttr];cases D:most.lt hi
    .simp only[go_sem,simprocAttr];simp only[iV,iW,z,F,u,D,l6,eG,if_false,a,o]
    .simp only[aV,G,L,R,go_sem,simprocAttr];simp only[iV,iW,z,F,u,D,l6,if_true,eG,if_false,a]
   .simp only[aV,G,L,R,go_sem,simprocAttr];simp only[iV,iW,z,F,u,sC,l6,if_true,eG,if_false,a]
  .simp only[aV,I,l,M,S,vR,go_sem,simprocAttr];cases u:decide (hi=⟨0,0⟩)
   .simp only[aV,l,q,go_sem,simprocAttr];refine ae (zl most hi N O) rfl ?_;simp only[go_sem,simprocAttr];cases D:most.lt hi
    .simp only[go_sem,simprocAttr];simp only[iV,iW,z,F,u,D,l6,if_true,eG,if_false,e]
    .simp only[aV,l,q,A,go_sem,simprocAttr];simp only[iV,iW,z,F,u,D,l6,if_true]
   .simp only[aV,l,q,A,go_sem,simprocAttr];simp only[iV,iW,z,F,u,sC,l6,if_true]
 .simp only[aV,I,l,M,S,vR,go_sem,simprocAttr];cases u:decide (hi=⟨0,0⟩)
  .simp only[aV,l,q,go_sem,simprocAttr];refine ae (zl most hi N O) rfl ?_;simp only[go_sem,simprocAttr];cases D:most.lt hi
   .simp only[go_sem,simprocAttr];simp only[iV,iW,z,u,D,sC,l6,if_true,eG,if_false,e]
   .simp only[aV,l,q,A,go_sem,simprocAttr];simp only[iV,iW,z,u,D,sC,l6,if_true]
  .simp only[aV,l,q,A,go_sem,simprocAttr];simp only[iV,iW,z,u,sC,if_true]
def lp (e:Int) (a b:HrMark):Frac×Frac:=(⟨60*(a.weight-b.weight-2*e),b.minute-a.minute⟩,⟨60*(a.weight-b.weight+2*e),b.minute-a.minute⟩)
def hI (e:Int):List HrMark->List HrMark->List (Frac×Frac)
 |_,[]=>[]
 |done,b::r=>done.map (λa=>lp e a b)++hI e (done++[b]) r
def fc (t:HrTest):List (Frac×Frac):=hI t.error [] t.marks
def uW (q:Frac×Frac):List PV:=[q.1.pv,q.2.pv]
def qC (t:HrTest):PV:=.func (.func 401) [] [.ptr 3 [t.pv] 0 0]
theorem SM(t):af TP 381 [t.pv] (qC t):=by
 refine dd (ag func381 rfl) rfl ?_;simp only[qC,go_sem,simprocAttr]
structure MarksOk (t:HrTest):Prop where
 len:t.marks.length<=10
 all:∀m,m∈t.marks->0<=m.minute/\m.minute<=1000000/\0<=m.weight/\m.weight<=10000000
 err:0<=t.error/\t.error<=10000
theorem Sc(t)(hok:MarksOk t):JL TP (qC t) 2 ((fc t).map uW):=by
 refine⟨λa ha=>?_,_,_,_,rfl,λid N Fin h0 a8 hy hi=>?_⟩
 .obtain⟨q,_,rfl⟩:=cX.1 ha;rfl
 have hl:=hok.len;have he:=hok.err;refine au (ag func401 rfl) rfl ?_;simp only[go_sem,simprocAttr]
 refine fo [0,1,10,11] (σ:=List HrMark×List HrMark×List (Frac×Frac)×Heap×Heap)
  (λq=>t.marks=q.1++q.2.1/\fc t=q.2.2.1++hI t.error q.1 q.2.1/\N q.2.2.1.length q.2.2.2.1/\q.2.2.2.1.length=h0.length) (λq=>q.2.1.length)
  (λq=>[(12,.p (.int .i64 q.1.length))]) (λq=>q.2.2.2.1++q.2.2.2.2) ([],t.marks,[],h0,[]) ⟨rfl,rfl,hi,rfl⟩ (by simp) ?_ ?_
 .simp only[go_sem,simprocAttr]
 rintro⟨e,rest,a0,lo,y⟩ ⟨z,K,Y,l⟩
 dsimp only at z K Y l
 cases rest with
 |nil=>
  have C:¬((e.length:Int)<(t.marks.length:Int)):=by rw[z];simp
  simp only[C,decide_false,go_sem,simprocAttr];refine⟨lo,y,rfl,l,.inl ?_⟩;rw[K]
  simpa[hI]using Y
 |cons b r=>
  obtain⟨hx,C⟩:=eT z;have T:=congrArg List.length z;simp only[aL,dB]at T;have a4:IntKind.i64.wrap ((e.length:Int)+1)=(((e++[b]).length:Nat):Int):=bk (by omega) (by simp[ao];omega) (by simp);have a6:((e.length:Nat):Int)<=(t.marks.length:Int):=by omega
  have a3:(t.marks.map HrMark.pv).take e.length=e.map HrMark.pv:=by
   rw[z,bD,fa (by simp)]
  have a5:(e.length==t.marks.length)=false:=by simp;omega
  have hb:=hok.all b (by rw[z];simp);rw[hI]at K;have Z:=kT l;have V:=m4 l;have J:=kU (lo:=y) rfl;have X:=m5 (lo:=y) rfl;simp only[C,decide_true,hx,a6,a3,a5,dJ,aL,aV,l,Z,V,J,X,go_sem,simprocAttr]
  refine fo [0,1,4,10,11,12,20,21] (σ:=List HrMark×List HrMark×List (Frac×Frac)×Heap×Heap)
   (λq=>e=q.1++q.2.1/\fc t=q.2.2.1++(q.2.1.map (λa=>lp t.error a b)++hI t.error (e++[b]) r)/\N q.2.2.1.length q.2.2.2.1/\q.2.2.2.1.length=h0.length/\q.2.2.2.2[y.length]?=some (.row 2 [.p b.pv])) (λq=>q.2.1.length)
   (λq=>[(22,.p (.int .i64 q.1.length))]) (λq=>q.2.2.2.1++q.2.2.2.2) ([],e,a0,lo,y++[.row 2 [.p b.pv]]) ⟨rfl,K,Y,l,J _⟩ rfl ?_ ?_
  .simp only[go_sem,simprocAttr]
  clear Z V J X Y l K
  rintro⟨d2,r2,u,M,i⟩ ⟨I,f2,F,j,E⟩
  dsimp only at I f2 F j E
  cases r2 with
  |nil=>
   have S:¬((d2.length:Int)<(e.length:Int)):=by rw[I];simp
   simp only[S,decide_false,go_sem,simprocAttr];refine br (e++[b],r,u,M,i) ⟨by rw[z];simp,by simpa using f2,F,j⟩ (jJ _) rfl ?_
   simp only[a4,go_sem,simprocAttr]
  |cons a r2=>
   obtain⟨a2,R⟩:=eT I;have G:=congrArg List.length I;simp only[aL,dB]at G;have O:IntKind.i64.wrap ((d2.length:Int)+1)=(((d2++[a]).length:Nat):Int):=bk (by omega) (by simp[ao];omega) (by simp);have ha:=hok.all a (by rw[z,I];simp);have Z:=kT j;have V:=m4 j;have J:=kU (lo:=i) rfl;have X:=m5 (lo:=i) rfl;have D:∀x,(i++x)[y.length]?=some (.row 2 [.p b.pv]):=λx=>by rw[bp (aB.1 E).1];exact E
   simp only[HrMark.pv]at D;have w1:IntKind.i64.wrap (a.weight-b.weight)=a.weight-b.weight:=am (by omega) (by omega);have w2:IntKind.i64.wrap (b.minute-a.minute)=b.minute-a.minute:=am (by omega) (by omega);have w3:IntKind.i64.wrap (2*t.error)=2*t.error:=am (by omega) (by omega);have w4:IntKind.i64.wrap (a.weight-b.weight-2*t.error)=a.weight-b.weight-2*t.error:=am (by omega) (by omega);have w5:IntKind.i64.wrap (60*(a.weight-b.weight-2*t.error))=60*(a.weight-b.weight-2*t.error):=am (by omega) (by omega);have w6:IntKind.i64.wrap (a.weight-b.weight+2*t.error)=a.weight-b.weight+2*t.error:=am (by omega) (by omega);have w7:IntKind.i64.wrap (60*(a.weight-b.weight+2*t.error))=60*(a.weight-b.weight+2*t.error):=am (by omega) (by omega);have U:((fc t).map uW)[u.length]?=some (uW (lp t.error a b)):=by rw[f2];simp
   simp only[R,decide_true,a2,dJ,aL,aV,j,Z,V,J,X,D,w1,w2,w3,w4,w5,w6,w7,go_sem,simprocAttr];have a1:=hy u.length _ M (i++[AObj.row 2 [AV.p a.pv]]) U F j;refine o6 a1 (λv h' o=>?_) (λv h' o=>?_);rotate_left
   .obtain⟨_,_,_,_,o⟩:=o;rcases o with⟨o,_⟩|⟨o,_⟩<;>cases o
   obtain⟨L,ext,rfl,A,o⟩:=o;rcases o with⟨o,a7⟩|⟨o,hF⟩
   .cases o;simp only[go_sem,simprocAttr];refine br (d2++[a],r2,u++[lp t.error a b],L,i++[.row 2 [.p a.pv]]++ext) ⟨by rw[I];simp,by rw[f2];simp,by simpa using a7,A,by rw[dJ];exact D _⟩ (jJ _) (by simp[dJ,HrMark.pv]) ?_;simp only[O,go_sem,simprocAttr]
   .cases o;simp only[go_sem,simprocAttr];exact⟨L,i++[.row 2 [.p a.pv]]++ext,by simp[dJ,HrMark.pv],A,.inr hF⟩
structure TestOk (t:HrTest):Prop extends MarksOk t where
 two:2<=t.marks.length
 sorted:t.marks.Pairwise λa b=>a.minute<b.minute
def iz (q p:Frac×Frac):Frac×Frac:=(iV q.1 p.1,iW q.2 p.2)
def ir:Frac×Frac:=(⟨0,0⟩,⟨0,0⟩)
def ea (t:HrTest):Frac×Frac:=(fc t).foldl iz ir
def KB (x:Int):Int:=if 0<x then x else 0
def dv (t:HrTest):Span×Bool:=(⟨KB (ea t).1.down,KB (ea t).2.up⟩,!(ea t).2.lt (ea t).1)
def jq (q:Frac×Frac):Prop:=q.1.B/\q.2.B/\0<q.1.below/\0<q.2.below
theorem yq{t}(hok:TestOk t):∀(rest i),t.marks=i++rest->∀q,q∈hI t.error i rest->jq q
 |[],_,_,q,h=>by cases h
 |b::r,i,e,q,h=>by
  rw[hI,ck,cX]at h;rcases h with⟨a,j,rfl⟩|h
  .have v:=hok.all a (by rw[e];simp[j]);have u:=hok.all b (by rw[e];simp);have o:a.minute<b.minute:=by
    have:=hok.sorted;rw[e,List.pairwise_append]at this;exact this.2.2 a j b (by simp)
   have l:=hok.err;simp only[jq,lp,Frac.B];omega
  .exact yq hok r (i++[b]) (by rw[e];simp) q h
theorem l9{t}(hok:TestOk t):∀q,q∈fc t->jq q:=yq hok t.marks [] rfl
theorem xp{q p}(a:q=ir\/jq q)(e:jq p):jq (iz q p):=by
 unfold iz iV iW;rcases a with rfl|a
 .simpa[ir]using e
 .unfold jq at *
  refine⟨?_,?_,?_,?_⟩<;>dsimp only<;>split<;>simp_all
theorem xu:∀(l) (q),(q=ir\/jq q)->(∀p,p∈l->jq p)->(l.foldl iz q=ir/\l=[]\/jq (l.foldl iz q))
 |[],q,a,_=>a.imp (λh=>⟨h,rfl⟩) id
 |p::l,q,a,e=>by
  have:=xu l (iz q p) (.inr (xp a (e p (by simp)))) λp' i=>e p' (by simp[i]);rcases this with⟨o,j⟩|h
  .subst j;exact .inr (xp a (e p (by simp)))
  .exact .inr h
theorem DK{t}(h:2<=t.marks.length):fc t≠[]:=by
 unfold fc
 match e:t.marks with
 |[]=>rw[e]at h;simp at h
 |[a]=>rw[e]at h;simp at h
 |a::b::r=>simp[hI]
theorem w8{t}(hok:TestOk t):jq (ea t):=by
 rcases xu (fc t) ir (.inl rfl) (l9 hok) with⟨_,h⟩|h
 .exact absurd h (DK hok.two)
 .exact h
theorem O':ir.1.B/\ir.2.B:=by simp[ir,Frac.B]
theorem zj(t)(hok:TestOk t):af TP 342 [t.pv] (.tuple [(dv t).1.pv,.bool (dv t).2]):=by
 refine aa (eI (by kernel_rfl) rfl T0) rfl ?_;simp only[Ty,go_sem,simprocAttr];refine ae (SM t) rfl ?_;simp only[qC,go_sem,simprocAttr]
 refine HH (l:=(fc t).map uW) (λo k h=>h=[.row 3 [.p t.pv],.row 2 [.p (.agg [.int .i64 0,.int .i64 0])],.row 2 [.p (((fc t).take k).foldl iz ir).1.pv],.row 2 [.p (((fc t).take k).foldl iz ir).2.pv],
   .row 1 [.func (.func 379) [] [.ptr 2 1 0 0,.ptr 3 1 0 0]],.dblock,o]) (λ_ _=>False)
  rfl (by simp only[qC,go_sem,simprocAttr]) (Sc t hok.toMarksOk) dh (by kernel_rfl) (by kernel_rfl) (by kernel_rfl) ?_ ?_ ?_ ?_ (λ_ _ _ h=>h.elim)
 .rintro o k h rfl;simp
 .intro o;simp only[ir,go_sem,simprocAttr];exact⟨rfl,rfl⟩
 .rintro F I G k xs lo a A rfl _
  rw[cW,bC]at A;obtain⟨q,z,rfl⟩:=A;have j:=l9 hok q (aG z);have u:(((fc t).take k).foldl iz ir).1.B/\(((fc t).take k).foldl iz ir).2.B:=by
   rcases xu ((fc t).take k) ir (.inl rfl) (λp E=>l9 hok p (od E)) with⟨h,_⟩|h
   .rw[h];exact O'
   .exact⟨h.1,h.2.1⟩
  have D:=kU (lo:=a) rfl;have y:=kT (lo:=a) rfl;have C:=m5 (lo:=a) rfl;have v:=m4 (lo:=a) rfl;simp only[uW,dJ,aL,aV,D,y,C,v,go_sem,simprocAttr];refine cq (Un _ _ q.1 q.2 2 3 _ rfl rfl (by decide) u.1 u.2 j.1 j.2.1) ?_;simp only[go_sem,simprocAttr];refine⟨_,[AObj.row 2 [AV.p q.1.pv],AObj.row 2 [AV.p q.2.pv]]++[AObj.row 2 [AV.p q.1.pv],AObj.row 2 [AV.p q.2.pv]],?_,by simp,rfl⟩;rw[sG,z,Option.toList_some,zK];simp[iz,Frac.pv]
 .rintro o lo a rfl _
  have i:=w8 hok;rw[dp,pw];have e:List.foldl iz ir (fc t)=ea t:=rfl;rw[e];simp only[aO,go_sem,simprocAttr];refine ax (lz (ea t).1 i.2.2.1 (by have:=i.1.1;omega) (by have:=i.1.2.1;omega)) rfl ?_;simp only[go_sem,simprocAttr];refine ax (US (ea t).2 i.2.2.2 (by have:=i.2.1.1;omega) (by have:=i.2.1.2.1;omega)) rfl ?_;simp only[go_sem,simprocAttr];refine ax (zl (ea t).2 (ea t).1 i.2.1 i.1) rfl ?_;simp only[dv,KB,go_sem,simprocAttr];rw[bN];simp only[go_sem,simprocAttr]
end Abs
end Go.Proofs.YtmndpldajflenaaGreatDoor
