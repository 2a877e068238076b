/- CONTRACTS of the program's functions, and laws on what they return. No conditions but those in the theorems' heads. -/
import Derived.Test.YtmndpldajflenaaGreatDoorAbsCutX
set_option linter.all false
open Go.Proofs.Tryz renaming prog->TP
open Go.Proofs.Tryz
namespace Go.Proofs.YtmndpldajflenaaGreatDoor
namespace Abs
set_option maxRecDepth 4000
theorem BJ(n)(h):∀l,aQ (bV n h) (l.map .p)=some l
 |[]=>rfl
 |x::r=>by rw[bK,aQ,BJ n h r,eE]
theorem GV:∀l,gp (l.map .p)=some l
 |[]=>rfl
 |x::r=>by rw[bK,gp,GV r]
attribute [go_sem] BJ GV
def jj (P:Program) (fv:PV) (xs:List PV) (y:PV):Prop:=∃(g:FuncId) (first cap:List PV),fv=.func (.func g) first cap/\af P g (first++xs++cap) y
def aq {α:Type} (p:α->Bool):List α->Nat->Int
 |[],_=>-1
 |x::r,i=>if p x=true then(i:Int) else aq p r (i+1)
theorem gb{α}(p:α->Bool):∀(l) (i),decide (0<=aq p l i)=l.any p
 |[],i=>by simp[aq]
 |x::r,i=>by
  unfold aq;rw[bJ];cases hx:p x
  .simp only[eG,if_false,l6];exact gb p r (i+1)
  .simp
theorem bk{a b c:Int}(i:0<=c)(h:c<=ao)(e:a+b=c):IntKind.i64.wrap (a+b)=c:=by rw[e];exact cl i h
theorem eT{α:Type}{l a r:List α}{x}(h:l=a++x::r):l[a.length]?=some x/\((a.length:Int)<(l.length:Int)):=by
 subst h;refine⟨by simp,by simp;omega⟩
theorem Gt{fv}(l)(p)(b)(sz)(j:sz=1)(v:l.length<1000000000)(y:∀x,x∈l->jj TP fv [aI x] (.bool (p x))) :
  af TP 143 [.slice sz (l.map aI) b,fv] (.int .i64 (aq p l 0)):=by
 subst j;refine aa (ag func143 rfl) rfl ?_;simp only[go_sem,simprocAttr];refine ej [0,1,7] l v (τ:=Unit) (λa rest _=>aq p l 0=aq p rest a.length) (λa _=>[(8,.p (.int .i64 a.length))]) () rfl ?_ ?_ ?_
 .simp only[go_sem,simprocAttr]<;>simp
 .intro _ e;simp only[go_sem,simprocAttr];rw[e];rfl
 .intro a x r _ u e hx q o;obtain⟨g,first,cap,rfl,z⟩:=y x (by rw[u];simp);simp only[q,decide_true,hx,aI,go_sem,simprocAttr];refine ae z (by simp[aI]) ?_;simp only[go_sem,simprocAttr];refine aK (λi=>?_) (λi=>?_)
  .simp only[go_sem,simprocAttr];rw[e];simp[aq,i]
  .simp only[go_sem,simprocAttr];refine aD u () (by rw[e];simp[aq,i]) ?_;simp only[o,go_sem,simprocAttr]
theorem jC{fv}(l:List Int)(p)(b)(sz)(a:sz=1)(e:l.length<1000000000)(i:∀x,x∈l->jj TP fv [aI x] (.bool (p x))) :
  af TP 111 [.slice sz (l.map aI) b,fv] (.bool (l.any p)):=by
 refine aa (ag func111 rfl) rfl ?_;simp only[go_sem,simprocAttr];refine ae (Gt l p b sz a e i) rfl ?_;simp only[go_sem,simprocAttr];rw[gb]
theorem Gs{fv}(l)(p)(b)(sz)(j:sz=2)(v:l.length<1000000000)(y:∀x,x∈l->jj TP fv [Span.pv x] (.bool (p x))) :
  af TP 315 [.slice sz (l.map Span.pv) b,fv] (.int .i64 (aq p l 0)):=by
 subst j;refine aa (ag func315 rfl) rfl ?_;simp only[go_sem,simprocAttr];refine ej [0,1,7] l v (τ:=Unit) (λa rest _=>aq p l 0=aq p rest a.length) (λa _=>[(8,.p (.int .i64 a.length))]) () rfl ?_ ?_ ?_
 .simp only[go_sem,simprocAttr]<;>simp
 .intro _ e;simp only[go_sem,simprocAttr];rw[e];rfl
 .intro a x r _ u e hx q o;obtain⟨g,first,cap,rfl,z⟩:=y x (by rw[u];simp);simp only[q,decide_true,hx,Span.pv,go_sem,simprocAttr];refine ae z (by simp[Span.pv]) ?_;simp only[go_sem,simprocAttr];refine aK (λi=>?_) (λi=>?_)
  .simp only[go_sem,simprocAttr];rw[e];simp[aq,i]
  .simp only[go_sem,simprocAttr];refine aD u () (by rw[e];simp[aq,i]) ?_;simp only[o,go_sem,simprocAttr]
theorem nW{fv}(l:List Span)(p)(b)(sz)(a:sz=2)(e:l.length<1000000000)(i:∀x,x∈l->jj TP fv [Span.pv x] (.bool (p x))) :
  af TP 248 [.slice sz (l.map Span.pv) b,fv] (.bool (l.any p)):=by
 refine aa (ag func248 rfl) rfl ?_;simp only[go_sem,simprocAttr];refine ae (Gs l p b sz a e i) rfl ?_;simp only[go_sem,simprocAttr];rw[gb]
theorem Gr{fv}(l)(p)(b)(sz)(j:sz=7)(v:l.length<1000000000)(y:∀x,x∈l->jj TP fv [BdWax.pv x] (.bool (p x))) :
  af TP 317 [.slice sz (l.map BdWax.pv) b,fv] (.int .i64 (aq p l 0)):=by
 subst j;refine aa (ag func317 rfl) rfl ?_;simp only[go_sem,simprocAttr];refine ej [0,1,7] l v (τ:=Unit) (λa rest _=>aq p l 0=aq p rest a.length) (λa _=>[(8,.p (.int .i64 a.length))]) () rfl ?_ ?_ ?_
 .simp only[go_sem,simprocAttr]<;>simp
 .intro _ e;simp only[go_sem,simprocAttr];rw[e];rfl
 .intro a x r _ u e hx q o;obtain⟨g,first,cap,rfl,z⟩:=y x (by rw[u];simp);simp only[q,decide_true,hx,BdWax.pv,go_sem,simprocAttr];refine ae z (by simp[BdWax.pv]) ?_;simp only[go_sem,simprocAttr];refine aK (λi=>?_) (λi=>?_)
  .simp only[go_sem,simprocAttr];rw[e];simp[aq,i]
  .simp only[go_sem,simprocAttr];refine aD u () (by rw[e];simp[aq,i]) ?_;simp only[o,go_sem,simprocAttr]
theorem AN{fv}(l:List BdWax)(p)(b)(sz)(a:sz=7)(e:l.length<1000000000)(i:∀x,x∈l->jj TP fv [BdWax.pv x] (.bool (p x))) :
  af TP 252 [.slice sz (l.map BdWax.pv) b,fv] (.bool (l.any p)):=by
 refine aa (ag func252 rfl) rfl ?_;simp only[go_sem,simprocAttr];refine ae (Gr l p b sz a e i) rfl ?_;simp only[go_sem,simprocAttr];rw[gb]
theorem oz{fv}(l)(p)(b)(sz)(j:sz=4)(v:l.length<1000000000)(y:∀x,x∈l->jj TP fv [HrKind.pv x] (.bool (p x))) :
  af TP 335 [.slice sz (l.map HrKind.pv) b,fv] (.int .i64 (aq p l 0)):=by
 subst j;refine aa (ag func335 rfl) rfl ?_;simp only[go_sem,simprocAttr];refine ej [0,1,7] l v (τ:=Unit) (λa rest _=>aq p l 0=aq p rest a.length) (λa _=>[(8,.p (.int .i64 a.length))]) () rfl ?_ ?_ ?_
 .simp only[go_sem,simprocAttr]<;>simp
 .intro _ e;simp only[go_sem,simprocAttr];rw[e];rfl
 .intro a x r _ u e hx q o;obtain⟨g,first,cap,rfl,z⟩:=y x (by rw[u];simp);simp only[q,decide_true,hx,HrKind.pv,go_sem,simprocAttr];refine ae z (by simp[HrKind.pv]) ?_;simp only[go_sem,simprocAttr];refine aK (λi=>?_) (λi=>?_)
  .simp only[go_sem,simprocAttr];rw[e];simp[aq,i]
  .simp only[go_sem,simprocAttr];refine aD u () (by rw[e];simp[aq,i]) ?_;simp only[o,go_sem,simprocAttr]
theorem AM{fv}(l:List HrKind)(p)(b)(sz)(a:sz=4)(e:l.length<1000000000)(i:∀x,x∈l->jj TP fv [HrKind.pv x] (.bool (p x))) :
  af TP 325 [.slice sz (l.map HrKind.pv) b,fv] (.bool (l.any p)):=by
 refine aa (ag func325 rfl) rfl ?_;simp only[go_sem,simprocAttr];refine ae (oz l p b sz a e i) rfl ?_;simp only[go_sem,simprocAttr];rw[gb]
theorem Gq{fv}(l)(p)(b)(sz)(j:sz=5)(v:l.length<1000000000)(y:∀x,x∈l->jj TP fv [HrRule.pv x] (.bool (p x))) :
  af TP 376 [.slice sz (l.map HrRule.pv) b,fv] (.int .i64 (aq p l 0)):=by
 subst j;refine aa (ag func376 rfl) rfl ?_;simp only[go_sem,simprocAttr];refine ej [0,1,7] l v (τ:=Unit) (λa rest _=>aq p l 0=aq p rest a.length) (λa _=>[(8,.p (.int .i64 a.length))]) () rfl ?_ ?_ ?_
 .simp only[go_sem,simprocAttr]<;>simp
 .intro _ e;simp only[go_sem,simprocAttr];rw[e];rfl
 .intro a x r _ u e hx q o;obtain⟨g,first,cap,rfl,z⟩:=y x (by rw[u];simp);simp only[q,decide_true,hx,HrRule.pv,go_sem,simprocAttr];refine ae z (by simp[HrRule.pv]) ?_;simp only[go_sem,simprocAttr];refine aK (λi=>?_) (λi=>?_)
  .simp only[go_sem,simprocAttr];rw[e];simp[aq,i]
  .simp only[go_sem,simprocAttr];refine aD u () (by rw[e];simp[aq,i]) ?_;simp only[o,go_sem,simprocAttr]
theorem AL{fv}(l:List HrRule)(p)(b)(sz)(a:sz=5)(e:l.length<1000000000)(i:∀x,x∈l->jj TP fv [HrRule.pv x] (.bool (p x))) :
  af TP 327 [.slice sz (l.map HrRule.pv) b,fv] (.bool (l.any p)):=by
 refine aa (ag func327 rfl) rfl ?_;simp only[go_sem,simprocAttr];refine ae (Gq l p b sz a e i) rfl ?_;simp only[go_sem,simprocAttr];rw[gb]
theorem Gp{fv}(l)(p)(b)(sz)(j:sz=4)(v:l.length<1000000000)(y:∀x,x∈l->jj TP fv [Wick.pv x] (.bool (p x))) :
  af TP 375 [.slice sz (l.map Wick.pv) b,fv] (.int .i64 (aq p l 0)):=by
 subst j;refine aa (ag func375 rfl) rfl ?_;simp only[go_sem,simprocAttr];refine ej [0,1,7] l v (τ:=Unit) (λa rest _=>aq p l 0=aq p rest a.length) (λa _=>[(8,.p (.int .i64 a.length))]) () rfl ?_ ?_ ?_
 .simp only[go_sem,simprocAttr]<;>simp
 .intro _ e;simp only[go_sem,simprocAttr];rw[e];rfl
 .intro a x r _ u e hx q o;obtain⟨g,first,cap,rfl,z⟩:=y x (by rw[u];simp);simp only[q,decide_true,hx,Wick.pv,go_sem,simprocAttr];refine ae z (by simp[Wick.pv]) ?_;simp only[go_sem,simprocAttr];refine aK (λi=>?_) (λi=>?_)
  .simp only[go_sem,simprocAttr];rw[e];simp[aq,i]
  .simp only[go_sem,simprocAttr];refine aD u () (by rw[e];simp[aq,i]) ?_;simp only[o,go_sem,simprocAttr]
theorem AK{fv}(l:List Wick)(p)(b)(sz)(a:sz=4)(e:l.length<1000000000)(i:∀x,x∈l->jj TP fv [Wick.pv x] (.bool (p x))) :
  af TP 320 [.slice sz (l.map Wick.pv) b,fv] (.bool (l.any p)):=by
 refine aa (ag func320 rfl) rfl ?_;simp only[go_sem,simprocAttr];refine ae (Gp l p b sz a e i) rfl ?_;simp only[go_sem,simprocAttr];rw[gb]
theorem rP{fv}(l)(p)(b)(sz)(j:sz=8)(v:l.length<1000000000)(y:∀x,x∈l->jj TP fv [Wax.pv x] (.bool (p x))) :
  af TP 359 [.slice sz (l.map Wax.pv) b,fv] (.int .i64 (aq p l 0)):=by
 subst j;refine aa (ag func359 rfl) rfl ?_;simp only[go_sem,simprocAttr];refine ej [0,1,7] l v (τ:=Unit) (λa rest _=>aq p l 0=aq p rest a.length) (λa _=>[(8,.p (.int .i64 a.length))]) () rfl ?_ ?_ ?_
 .simp only[go_sem,simprocAttr]<;>simp
 .intro _ e;simp only[go_sem,simprocAttr];rw[e];rfl
 .intro a x r _ u e hx q o;obtain⟨g,first,cap,rfl,z⟩:=y x (by rw[u];simp);simp only[q,decide_true,hx,Wax.pv,go_sem,simprocAttr];refine ae z (by simp[Wax.pv]) ?_;simp only[go_sem,simprocAttr];refine aK (λi=>?_) (λi=>?_)
  .simp only[go_sem,simprocAttr];rw[e];simp[aq,i]
  .simp only[go_sem,simprocAttr];refine aD u () (by rw[e];simp[aq,i]) ?_;simp only[o,go_sem,simprocAttr]
theorem AJ{fv}(l:List Wax)(p)(b)(sz)(a:sz=8)(e:l.length<1000000000)(i:∀x,x∈l->jj TP fv [Wax.pv x] (.bool (p x))) :
  af TP 322 [.slice sz (l.map Wax.pv) b,fv] (.bool (l.any p)):=by
 refine aa (ag func322 rfl) rfl ?_;simp only[go_sem,simprocAttr];refine ae (rP l p b sz a e i) rfl ?_;simp only[go_sem,simprocAttr];rw[gb]
theorem Gn{fv}(l)(p)(b)(sz)(j:sz=2)(v:l.length<1000000000)(y:∀x,x∈l->jj TP fv [WxProp.pv x] (.bool (p x))) :
  af TP 374 [.slice sz (l.map WxProp.pv) b,fv] (.int .i64 (aq p l 0)):=by
 subst j;refine aa (ag func374 rfl) rfl ?_;simp only[go_sem,simprocAttr];refine ej [0,1,7] l v (τ:=Unit) (λa rest _=>aq p l 0=aq p rest a.length) (λa _=>[(8,.p (.int .i64 a.length))]) () rfl ?_ ?_ ?_
 .simp only[go_sem,simprocAttr]<;>simp
 .intro _ e;simp only[go_sem,simprocAttr];rw[e];rfl
 .intro a x r _ u e hx q o;obtain⟨g,first,cap,rfl,z⟩:=y x (by rw[u];simp);simp only[q,decide_true,hx,WxProp.pv,go_sem,simprocAttr];refine ae z (by simp[WxProp.pv]) ?_;simp only[go_sem,simprocAttr];refine aK (λi=>?_) (λi=>?_)
  .simp only[go_sem,simprocAttr];rw[e];simp[aq,i]
  .simp only[go_sem,simprocAttr];refine aD u () (by rw[e];simp[aq,i]) ?_;simp only[o,go_sem,simprocAttr]
theorem AI{fv}(l:List WxProp)(p)(b)(sz)(a:sz=2)(e:l.length<1000000000)(i:∀x,x∈l->jj TP fv [WxProp.pv x] (.bool (p x))) :
  af TP 311 [.slice sz (l.map WxProp.pv) b,fv] (.bool (l.any p)):=by
 refine aa (ag func311 rfl) rfl ?_;simp only[go_sem,simprocAttr];refine ae (Gn l p b sz a e i) rfl ?_;simp only[go_sem,simprocAttr];rw[gb]
theorem rO{fv}(l)(p)(b)(sz)(j:sz=2)(v:l.length<1000000000)(y:∀x,x∈l->jj TP fv [WxKind.pv x] (.bool (p x))) :
  af TP 346 [.slice sz (l.map WxKind.pv) b,fv] (.int .i64 (aq p l 0)):=by
 subst j;refine aa (ag func346 rfl) rfl ?_;simp only[go_sem,simprocAttr];refine ej [0,1,7] l v (τ:=Unit) (λa rest _=>aq p l 0=aq p rest a.length) (λa _=>[(8,.p (.int .i64 a.length))]) () rfl ?_ ?_ ?_
 .simp only[go_sem,simprocAttr]<;>simp
 .intro _ e;simp only[go_sem,simprocAttr];rw[e];rfl
 .intro a x r _ u e hx q o;obtain⟨g,first,cap,rfl,z⟩:=y x (by rw[u];simp);simp only[q,decide_true,hx,WxKind.pv,go_sem,simprocAttr];refine ae z (by simp[WxKind.pv]) ?_;simp only[go_sem,simprocAttr];refine aK (λi=>?_) (λi=>?_)
  .simp only[go_sem,simprocAttr];rw[e];simp[aq,i]
  .simp only[go_sem,simprocAttr];refine aD u () (by rw[e];simp[aq,i]) ?_;simp only[o,go_sem,simprocAttr]
theorem AH{fv}(l:List WxKind)(p)(b)(sz)(a:sz=2)(e:l.length<1000000000)(i:∀x,x∈l->jj TP fv [WxKind.pv x] (.bool (p x))) :
  af TP 313 [.slice sz (l.map WxKind.pv) b,fv] (.bool (l.any p)):=by
 refine aa (ag func313 rfl) rfl ?_;simp only[go_sem,simprocAttr];refine ae (rO l p b sz a e i) rfl ?_;simp only[go_sem,simprocAttr];rw[gb]
theorem lQ{fv}(l)(p)(b)(sz)(j:sz=4)(v:l.length<1000000000)(y:∀x,x∈l->jj TP fv [ClColour.pv x] (.bool (p x))) :
  af TP 330 [.slice sz (l.map ClColour.pv) b,fv] (.int .i64 (aq p l 0)):=by
 subst j;refine aa (ag func330 rfl) rfl ?_;simp only[go_sem,simprocAttr];refine ej [0,1,7] l v (τ:=Unit) (λa rest _=>aq p l 0=aq p rest a.length) (λa _=>[(8,.p (.int .i64 a.length))]) () rfl ?_ ?_ ?_
 .simp only[go_sem,simprocAttr]<;>simp
 .intro _ e;simp only[go_sem,simprocAttr];rw[e];rfl
 .intro a x r _ u e hx q o;obtain⟨g,first,cap,rfl,z⟩:=y x (by rw[u];simp);simp only[q,decide_true,hx,ClColour.pv,go_sem,simprocAttr];refine ae z (by simp[ClColour.pv]) ?_;simp only[go_sem,simprocAttr];refine aK (λi=>?_) (λi=>?_)
  .simp only[go_sem,simprocAttr];rw[e];simp[aq,i]
  .simp only[go_sem,simprocAttr];refine aD u () (by rw[e];simp[aq,i]) ?_;simp only[o,go_sem,simprocAttr]
theorem AG{fv}(l:List ClColour)(p)(b)(sz)(a:sz=4)(e:l.length<1000000000)(i:∀x,x∈l->jj TP fv [ClColour.pv x] (.bool (p x))) :
  af TP 269 [.slice sz (l.map ClColour.pv) b,fv] (.bool (l.any p)):=by
 refine aa (ag func269 rfl) rfl ?_;simp only[go_sem,simprocAttr];refine ae (lQ l p b sz a e i) rfl ?_;simp only[go_sem,simprocAttr];rw[gb]
theorem qM{fv}(l)(p)(b)(sz)(j:sz=4)(v:l.length<1000000000)(y:∀x,x∈l->jj TP fv [ChLot.pv x] (.bool (p x))) :
  af TP 345 [.slice sz (l.map ChLot.pv) b,fv] (.int .i64 (aq p l 0)):=by
 subst j;refine aa (ag func345 rfl) rfl ?_;simp only[go_sem,simprocAttr];refine ej [0,1,7] l v (τ:=Unit) (λa rest _=>aq p l 0=aq p rest a.length) (λa _=>[(8,.p (.int .i64 a.length))]) () rfl ?_ ?_ ?_
 .simp only[go_sem,simprocAttr]<;>simp
 .intro _ e;simp only[go_sem,simprocAttr];rw[e];rfl
 .intro a x r _ u e hx q o;obtain⟨g,first,cap,rfl,z⟩:=y x (by rw[u];simp);simp only[q,decide_true,hx,ChLot.pv,go_sem,simprocAttr];refine ae z (by simp[ChLot.pv]) ?_;simp only[go_sem,simprocAttr];refine aK (λi=>?_) (λi=>?_)
  .simp only[go_sem,simprocAttr];rw[e];simp[aq,i]
  .simp only[go_sem,simprocAttr];refine aD u () (by rw[e];simp[aq,i]) ?_;simp only[o,go_sem,simprocAttr]
theorem zu{fv}(l:List ChLot)(p)(b)(sz)(a:sz=4)(e:l.length<1000000000)(i:∀x,x∈l->jj TP fv [ChLot.pv x] (.bool (p x))) :
  af TP 275 [.slice sz (l.map ChLot.pv) b,fv] (.bool (l.any p)):=by
 refine aa (ag func275 rfl) rfl ?_;simp only[go_sem,simprocAttr];refine ae (qM l p b sz a e i) rfl ?_;simp only[go_sem,simprocAttr];rw[gb]
theorem qL{fv}(l)(p)(b)(sz)(j:sz=4)(v:l.length<1000000000)(y:∀x,x∈l->jj TP fv [ChBatch.pv x] (.bool (p x))) :
  af TP 350 [.slice sz (l.map ChBatch.pv) b,fv] (.int .i64 (aq p l 0)):=by
 subst j;refine aa (ag func350 rfl) rfl ?_;simp only[go_sem,simprocAttr];refine ej [0,1,7] l v (τ:=Unit) (λa rest _=>aq p l 0=aq p rest a.length) (λa _=>[(8,.p (.int .i64 a.length))]) () rfl ?_ ?_ ?_
 .simp only[go_sem,simprocAttr]<;>simp
 .intro _ e;simp only[go_sem,simprocAttr];rw[e];rfl
 .intro a x r _ u e hx q o;obtain⟨g,first,cap,rfl,z⟩:=y x (by rw[u];simp);simp only[q,decide_true,hx,ChBatch.pv,go_sem,simprocAttr];refine ae z (by simp[ChBatch.pv]) ?_;simp only[go_sem,simprocAttr];refine aK (λi=>?_) (λi=>?_)
  .simp only[go_sem,simprocAttr];rw[e];simp[aq,i]
  .simp only[go_sem,simprocAttr];refine aD u () (by rw[e];simp[aq,i]) ?_;simp only[o,go_sem,simprocAttr]
theorem zt{fv}(l:List ChBatch)(p)(b)(sz)(a:sz=4)(e:l.length<1000000000)(i:∀x,x∈l->jj TP fv [ChBatch.pv x] (.bool (p x))) :
  af TP 280 [.slice sz (l.map ChBatch.pv) b,fv] (.bool (l.any p)):=by
 refine aa (ag func280 rfl) rfl ?_;simp only[go_sem,simprocAttr];refine ae (qL l p b sz a e i) rfl ?_;simp only[go_sem,simprocAttr];rw[gb]
theorem KA(l)(b)(a:l≠[])(e:l.length<1000000000):gU TP 369 [.slice 1 (l.map aI) b] (.slice 1 (l.map aI) false):=by
 refine fP (ag func369 rfl) rfl ?_;have o:¬(l.map aI=[]):=by simpa using a
 have j:l.length<=ao:=by simp[ao];omega
 have i:¬((l.map aI).map AV.p=[]):=by simpa using a
 simp only[o,j,i,go_sem,simprocAttr]
theorem MH(a b:Nat)(h:a+b<1000000000):IntKind.i64.wrap (Int.fdiv (IntKind.u64.wrap ((a)+(b))) 2)=(((a+b) / 2:Nat):Int):=by
 have e:IntKind.u64.wrap ((a:Int)+(b:Int))=((a+b:Nat):Int):=by
  unfold IntKind.wrap IntKind.signed IntKind.bits;simp;omega
 rw[e];have i:Int.fdiv ((a+b:Nat):Int) 2=(((a+b) / 2:Nat):Int):=by
  rw[Int.fdiv_eq_ediv_of_nonneg _ (by omega)];omega
 rw[i];exact cl (by omega) (by simp[ao];omega)
theorem Qt{fv}(n:Nat)(p:Nat->Bool)(G:n<100000000)(C:∀i,i<n->jj TP fv [.int .i64 i] (.bool (p i)))(r)(A:r<=n)(F:∀i,i<r->p i=false)(E:∀i,r<=i->i<n->p i=true) :
  af TP 433 [.int .i64 n,fv] (.int .i64 r):=by
 refine aa (ag func433 rfl) rfl ?_;simp only[go_sem,simprocAttr];refine AU [1] (σ:=Nat×Nat) (λs=>s.1<=r/\r<=s.2/\s.2<=n) (λs=>s.2-s.1) (λs=>[(5,.p (.int .i64 s.1)),(6,.p (.int .i64 s.2))]) (0,n) ⟨by omega,A,by omega⟩ ?_ ?_
 .simp only[go_sem,simprocAttr]
 .rintro⟨i,j⟩ ⟨z,y,v⟩
  dsimp only at z y v;simp only[go_sem,simprocAttr];refine aK (λl=>?_) (λl=>?_)
  .have u:i<j:=by simpa using l
   have hw:IntKind.i64.wrap ((i:Int)+(j:Int))=((i:Int)+(j:Int)):=cl (by omega) (by simp[ao];omega);have hh:=MH i j (by omega);have o:(2:Int)^min 1 64=2:=rfl;obtain⟨g,first,cap,rfl,D⟩:=C ((i+j) / 2) (by omega);simp only[hw,fh,IntKind.bits,o,hh,go_sem,simprocAttr];refine ae D (by simp) ?_;simp only[go_sem,simprocAttr];cases a:p ((i+j) / 2)
   .simp only[go_sem,simprocAttr];have e:¬(r<=(i+j) / 2):=λh=>by rw[E _ h (by omega)]at a;cases a
    refine cc ((i+j) / 2+1,j) ⟨by omega,y,v⟩ (by dsimp only;omega) ?_;have q:IntKind.i64.wrap ((((i+j) / 2:Nat):Int)+1)=(((i+j) / 2+1:Nat):Int):=bk (by omega) (by simp[ao];omega) (by omega);simp only[q,go_sem,simprocAttr]
   .simp only[go_sem,simprocAttr];have e:r<=(i+j) / 2:=by
     rcases cx ((i+j) / 2) r with h|h
     .rw[F _ h]at a;cases a
     .exact h
    refine cc (i,(i+j) / 2) ⟨z,e,by omega⟩ (by dsimp only;omega) ?_;simp only[go_sem,simprocAttr]
  .have u:¬(i<j):=by simpa using l
   have:i=r:=by omega
   subst this;simp only[go_sem,simprocAttr]
def ak (n lo hi:Int):Bool:=decide (lo<=n)&&decide (n<=hi)
theorem xB(n lo hi):af TP 72 [.int .i64 n,.int .i64 lo,.int .i64 hi] (.bool (ak n lo hi)):=by
 refine aa (ag func72 rfl) rfl ?_;simp only[go_sem,simprocAttr];refine aK (λa=>?_) (λa=>?_)<;>simp only[a,go_sem,simprocAttr]<;>simp[ak,a]
theorem AF(n lo hi):af TP 161 [.int .i64 n,.int .i64 lo,.int .i64 hi] (.bool (ak n lo hi)):=by
 refine aa (ag func161 rfl) rfl ?_;simp only[go_sem,simprocAttr];refine aK (λa=>?_) (λa=>?_)<;>simp only[a,go_sem,simprocAttr]<;>simp[ak,a]
theorem Jj(n lo hi):af TP 164 [.int .i64 n,.int .i64 lo,.int .i64 hi] (.bool (ak n lo hi)):=by
 refine aa (ag func164 rfl) rfl ?_;simp only[go_sem,simprocAttr];refine aK (λa=>?_) (λa=>?_)<;>simp only[a,go_sem,simprocAttr]<;>simp[ak,a]
theorem NS(n lo hi):af TP 167 [.int .i64 n,.int .i64 lo,.int .i64 hi] (.bool (ak n lo hi)):=by
 refine aa (ag func167 rfl) rfl ?_;simp only[go_sem,simprocAttr];refine aK (λa=>?_) (λa=>?_)<;>simp only[a,go_sem,simprocAttr]<;>simp[ak,a]
def dg (lo hi low high:Int):Int:=if ak lo low high=true/\ak hi low high=true then(if hi<lo then 2 else 0) else 7
theorem ox(lo hi low a):af TP 166 [.agg [.int .i64 lo,.int .i64 hi],.int .i64 low,.int .i64 a] (.int .i64 (dg lo hi low a)):=by
 refine aa (ag func166 rfl) rfl ?_;simp only[go_sem,simprocAttr]
 repeat' first
  |(refine ae (xB _ _ _) rfl ?_;simp only[go_sem,simprocAttr])
  |(refine aK (λe=>?_) (λe=>?_)<;>simp only[e,go_sem,simprocAttr])
 all_goals simp_all [dg]
def pk (c last:Int):Bool:=(c != 45&&(decide (c<97)||decide (122<c)))||(c==45&&last==45)
def dm:List UInt8->Int->Bool
 |[],last=>last != 45
 |c::r,last=>if pk c.toNat last=true then false else dm r c.toNat
def nameOk (s:ByteArray):Bool:=dm s.data.toList 45&&decide ((s.size:Int)<=20)
theorem qN(s:ByteArray)(i:Nat):s[i]?=s.data.toList[i]?:=by
 by_cases h:i<s.size
 .have h':i<s.data.toList.length:=by simpa using h
  rw[getElem?_pos s i h,bO h'];simp[ByteArray.getElem_eq_getElem_data]
 .rw[getElem?_neg s i h,lC];simpa using H3 h
attribute [go_sem] qN
theorem jh(s):af TP 87 [.str s] (.bool (nameOk s)):=by
 refine aa (ag func87 rfl) rfl ?_;simp only[go_sem,simprocAttr]
 refine gL [0,7] (σ:=List UInt8×List UInt8×Int) (λq=>s.data.toList=q.1++q.2.1/\dm s.data.toList 45=dm q.2.1 q.2.2) (λq=>q.2.1.length)
  (λq=>[(3,.p (.int .i32 q.2.2))]) (λq=>[.strIter s q.1.length]) ([],s.data.toList,45) ⟨rfl,rfl⟩ ?_ ?_
 .simp only[go_sem,simprocAttr]
 .rintro⟨done,rest,last⟩ ⟨e1,e2⟩
  dsimp only at e1 e2
  cases rest with
  |nil=>
   have hlt:¬(done.length<s.size):=by
    have:=congrArg List.length e1;simp at this |-;omega
   simp only[hlt,go_sem,simprocAttr];refine aK (λhb=>?_) (λhb=>?_)<;>simp only[hb,go_sem,simprocAttr]
   .simp[nameOk,e2,dm,hb]
   .simp[nameOk,e2,dm,hb]
  |cons c r=>
   obtain⟨hx,_⟩:=eT e1;have hlt:done.length<s.size:=by
    have:=congrArg List.length e1;simp at this |-;omega
   have hc:(s[done.length]'hlt)=c:=by
    have:=qN s done.length;rw[hx,getElem?_pos s done.length hlt]at this;exact lS this
   rcases cx c.toNat 128 with hlow|hhigh
   .have hd:Utf8.decode s done.length=(c.toNat,1):=by
     rw[decode_ascii s done.length hlt (by rw[hc];exact hlow),hc]
    simp only[hlt,hd,go_sem,simprocAttr]
    repeat' first
     |(refine aK (λhb=>?_) (λhb=>?_)<;>simp only[hb,go_sem,simprocAttr])
    all_goals first
     |(refine cc (done++[c],r,(c.toNat:Int)) ⟨by simp[e1],?_⟩ (by simp) ?_
       .rw[e2];simp_all [dm,pk]
       .simp only[go_sem,simprocAttr];simp)
     |(simp only[nameOk,e2];simp_all [dm,pk];done)
   .have hd:=decode_high s done.length hlt (by rw[hc];exact hhigh);have h1:(((Utf8.decode s done.length).1:Int) != 45)=true:=by simp;omega
    have h2:decide (((Utf8.decode s done.length).1:Int)<97)=false:=by simp;omega
    have h3:decide ((122:Int)<((Utf8.decode s done.length).1:Int))=true:=by simp;omega
    simp only[hlt,h1,h2,h3,go_sem,simprocAttr];have hbad:pk c.toNat last=true:=by
     have g1:((c.toNat:Int) != 45)=true:=by simp;omega
     have g3:decide ((122:Int)<(c.toNat:Int))=true:=by simp;omega
     simp[pk,g1,g3]
    simp[nameOk,e2,dm,hbad]
theorem AO(c a):pk c a=((c != 45&&!ak c 97 122)||(c==45&&a==45)):=by
 have:(!ak c 97 122)=(decide (c<97)||decide (122<c)):=by
  unfold ak;rw[ko]
  congr 1
  .rw[<-decide_not];congr 1;simp
  .rw[<-decide_not];congr 1;simp
 rw[pk,this]
def ot (l:List UInt8):Int:=match l.getLast? with|some c=>(c.toNat:Int)|none=>45
theorem yH(l)(c):ot (l++[c])=(c.toNat:Int):=by simp[ot]
theorem Pb(c:UInt8):IntKind.i64.wrap (c.toNat:Int)=(c.toNat:Int):=cl (by omega) (by have:=c.toNat_lt;simp[ao];omega)
theorem EM(s):af TP 18 [.str s] (.bool (nameOk s)):=by
 refine aa (ag func18 rfl) rfl ?_;simp only[go_sem,simprocAttr];refine ae (xB _ _ _) rfl ?_;cases S:ak s.size 1 20
 .simp only[go_sem,simprocAttr];have:nameOk s=false:=by
   unfold nameOk
   cases Y:s.data.toList with
   |nil=>simp[dm]
   |cons b bs=>
    have:1<=s.size:=by have:=congrArg List.length Y;simp at this;omega
    have Z:¬((s.size:Int)<=20):=by
     intro h;have h1:(1:Int)<=(s.size:Int):=by omega
     simp[ak,h,h1]at S
    simp[Z]
  rw[this]
 .have R:(1:Int)<=(s.size:Int)/\(s.size:Int)<=20:=by simpa[ak]using S
  have J:s.data.toList.length=s.size:=by simp
  obtain⟨b0,u⟩:∃b,s.data.toList[0]?=some b:=⟨_,bO (by omega)⟩
  obtain⟨bl,T⟩:∃b,s.data.toList[s.size-1]?=some b:=⟨_,bO (by omega)⟩
  have y:s.data.toList.getLast?=some bl:=by rw[List.getLast?_eq_getElem?,J];exact T
  have hw:IntKind.i64.wrap ((s.size:Int)-1)=((s.size-1:Nat):Int):=by
   rw[cl (by omega) (by simp[ao];omega)];omega
  have U:(((s.size-1:Nat):Int))<(s.size:Int):=by omega
  have O:nameOk s=dm s.data.toList 45:=by unfold nameOk;simp[R.2]
  rw[O];simp only[qN,u,go_sem,simprocAttr];cases E:((b0.toNat:Int)==45)
  .simp only[qN,hw,T,go_sem,simprocAttr];cases I:((bl.toNat:Int)==45)
   .simp only[go_sem,simprocAttr]
    refine gL [0] (σ:=List UInt8×List UInt8) (λq=>s.data.toList=q.1++q.2/\dm s.data.toList 45=dm q.2 (ot q.1)) (λq=>q.2.length)
     (λq=>[(3,.p (.int .i64 q.1.length))]) (λ_=>[]) ([],s.data.toList) ⟨rfl,rfl⟩ ?_ ?_
    .simp only[go_sem,simprocAttr]<;>simp
    .rintro⟨a,rest⟩ ⟨A,L⟩
     dsimp only at A L
     cases rest with
     |nil=>
      have v:¬((a.length:Int)<(s.size:Int)):=by
       have:=congrArg List.length A;simp at this;omega
      simp only[v,decide_false,go_sem,simprocAttr];rw[L];have:ot a=(bl.toNat:Int):=by
       rw[A]at y;simp at y;simp[ot,y]
      simp[dm,this,bne,I]
     |cons c r=>
      obtain⟨hx,_⟩:=eT A;have v:(a.length:Int)<(s.size:Int):=by
       have:=congrArg List.length A;simp at this;omega
      have D:IntKind.i64.wrap ((a.length:Int)+1)=(((a++[c]).length:Nat):Int):=bk (by omega) (by simp[ao];omega) (by simp);simp only[v,decide_true,qN,hx,go_sem,simprocAttr];have j:pk c.toNat (ot a)=false->dm s.data.toList 45=dm r (ot (a++[c])):=λh=>by
       rw[L,dm,h,yH];rfl
      have e:pk c.toNat (ot a)=true->dm s.data.toList 45=false:=λh=>by
       rw[L,dm,if_pos h]
      rw[AO]at j e;have next:pk c.toNat (ot a)=false->(s.data.toList=(a++[c])++r/\dm s.data.toList 45=dm r (ot (a++[c]))):=λh=>⟨by simp[A],by rw[AO]at h;exact j h⟩
      rw[AO]at next;cases o:((c.toNat:Int)==45)
      .have z:((c.toNat:Int) != 45)=true:=by simp[bne,o]
       simp only[z,hx,Pb,go_sem,simprocAttr];refine ae (xB _ _ _) rfl ?_;cases M:ak c.toNat 97 122
       .simp only[go_sem,simprocAttr];rw[e (by simp[z,M])]
       .simp only[go_sem,simprocAttr];refine aK (λK=>?_) (λK=>?_)<;>simp only[K,go_sem,simprocAttr]
        .simp only[hx,o,go_sem,simprocAttr];refine cc (a++[c],r) (next (by simp[o,M])) (by simp) ?_;simp only[D,go_sem,simprocAttr]
        .refine cc (a++[c],r) (next (by simp[o,M])) (by simp) ?_;simp only[D,go_sem,simprocAttr]
      .have z:((c.toNat:Int) != 45)=false:=by simp[bne,o]
       simp only[z,go_sem,simprocAttr];rcases C0 a with rfl|⟨i,d,F⟩
       .exfalso;rw[A]at u;simp at u;subst u;rw[o]at E;cases E
       .rw[C1]at F;subst F;have K:decide ((0:Int)<(((i++[d]).length:Nat):Int))=true:=by simp<;>omega
        have N:IntKind.i64.wrap ((((i++[d]).length:Nat):Int)-1)=((i.length:Nat):Int):=by
         rw[cl (by simp<;>omega) (by simp[ao]at v |-;omega)];simp
        have X:s.data.toList[i.length]?=some d:=by rw[A];simp
        simp only[K,hx,o,N,X,go_sem,simprocAttr];rw[yH]at j e next;cases C:((d.toNat:Int)==45)
        .simp only[go_sem,simprocAttr];refine cc (i++[d]++[c],r) (next (by simp[o,bne,C])) (by simp) ?_;simp only[D,go_sem,simprocAttr]
        .simp only[go_sem,simprocAttr];rw[e (by simp[o,C])]
   .simp only[go_sem,simprocAttr];have:∀(l:List UInt8) (p:Int),l.getLast?=some bl->dm l p=false:=by
     intro l
     induction l with
     |nil=>intro p h;cases h
     |cons c r V=>
      intro p h;unfold dm;split
      .rfl
      .cases r with
       |nil=>
        simp at h;subst h
        simp[dm,bne,I]
       |cons c' r'=>exact V _ (by simpa using h)
    rw[this _ _ y]
  .simp only[go_sem,simprocAttr];have:dm s.data.toList 45=false:=by
    cases G:s.data.toList with
    |nil=>rw[G]at u;cases u
    |cons c r=>
     rw[G]at u;simp at u;subst u;unfold dm;rw[if_pos];simp[pk,E]
   rw[this]
def firstErr {α:Type} (f:List ByteArray->α->Int) (nm:α->ByteArray):List α->List ByteArray->Option (Int×Int)
 |[],_=>none
 |x::r,before=>if f before x=0 then firstErr f nm r (before++[nm x]) else some ((before.length:Int),f before x)
def ah (t:Int×Int×Int):PV:=.tuple [.int .i64 t.1,.int .i64 t.2.1,.int .i64 t.2.2]
def ai (before:List ByteArray) (s:ByteArray):Int:=if nameOk s=true then(if before.any (λt=>t==s)=true then 5 else 0) else 6
theorem LC(s)(l)(b)(y:l.length<1000000000):af TP 159 [.str s,.slice 1 (l.map .str) b] (.int .i64 (ai l s)):=by
 refine aa (ag func159 rfl) rfl ?_;simp only[go_sem,simprocAttr];refine ae (EM s) rfl ?_;simp only[go_sem,simprocAttr];cases u:nameOk s
 .simp only[go_sem,simprocAttr];simp[ai,u]
 .simp only[go_sem,simprocAttr];refine AU [0,1] (σ:=List ByteArray×List ByteArray) (λq=>l=q.1++q.2/\ai l s=(if q.2.any (λt=>t==s)=true then 5 else 0)) (λq=>q.2.length) (λq=>[(5,.p (.int .i64 q.1.length))]) ([],l) ⟨rfl,by simp[ai,u]⟩ ?_ ?_
  .simp only[go_sem,simprocAttr]<;>simp
  .rintro⟨a,rest⟩ ⟨j,i⟩
   dsimp only at j i
   cases rest with
   |nil=>
    have e:¬((a.length:Int)<(l.length:Int)):=by rw[j];simp
    simp only[e,decide_false,go_sem,simprocAttr]
    rw[i];rfl
   |cons x r=>
    obtain⟨hx,e⟩:=eT j;have o:IntKind.i64.wrap ((a.length:Int)+1)=(((a++[x]).length:Nat):Int):=bk (by omega) (by simp[ao];omega) (by simp);simp only[e,decide_true,hx,go_sem,simprocAttr];rw[bJ]at i;cases v:(x==s)
    .simp only[go_sem,simprocAttr];refine cc (a++[x],r) ⟨by simp[j],by rw[i,v];rfl⟩ (by simp) ?_;simp only[o,go_sem,simprocAttr]
    .simp only[go_sem,simprocAttr];rw[i,v];rfl
theorem i8(s)(l)(b)(xs)(hx:xs=l.map .str)(a:l.length<1000000000):af TP 159 [.str s,.slice 1 xs b] (.int .i64 (ai l s)):=by
 subst hx;exact LC s l b a
end Abs
end Go.Proofs.YtmndpldajflenaaGreatDoor
