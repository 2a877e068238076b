/- CONTRACTS of the program's functions, and laws on what they return. No conditions but those in the theorems' heads. -/
import Derived.Test.YtoapoaoelpcniaaGreatDoorAbsKillX
set_option linter.all false
open Go.Proofs.Tryz renaming prog->TP
namespace Go.Proofs.YtoapoaoelpcniaaGreatDoor
namespace Abs
set_option maxRecDepth 4000
theorem DW(n)(h):∀l,aV (cm n h) (l.map .p)=some l
 |[]=>rfl
 |x::r=>by rw[bL,aV,DW n h r,eJ]
theorem JB:∀l,gK (l.map .p)=some l
 |[]=>rfl
 |x::r=>by rw[bL,gK,JB r]
attribute [go_sem] DW JB
def jV (P:Program) (fv:PV) (xs:List PV) (y:PV):Prop:=∃(g:FuncId) (first cap:List PV),fv=.func (.func g) first cap/\af P g (first++xs++cap) y
def aA {α:Type} (p:α->Bool):List α->Nat->Int
 |[],_=>-1
 |x::r,i=>if p x=true then(i:Int) else aA p r (i+1)
theorem gC{α}(p:α->Bool):∀(l) (i),decide (0<=aA p l i)=l.any p
 |[],i=>by simp[aA]
 |x::r,i=>by
  unfold aA;rw[cV];cases hx:p x
  .simp only[jc,if_false,rf];exact gC p r (i+1)
  .simp
theorem bj{a b c:Int}(h0:0<=c)(h:c<=aw)(e:a+b=c):IntKind.i64.wrap (a+b)=c:=by rw[e];exact cA h0 h
theorem d8{α:Type}{l done r:List α}{x}(h:l=done++x::r):l[done.length]?=some x/\((done.length:Int)<(l.length:Int)):=by
 subst h;refine⟨by simp,by simp;omega⟩
theorem I7{fv}(l)(p)(b)(sz)(hsz:sz=1)(hl:l.length<1000000000)(hf:∀x,x∈l->jV TP fv [aI x] (.bool (p x))) :
  af TP 128 [.slice sz (l.map aI) b,fv] (.int .i64 (aA p l 0)):=by
 subst hsz;refine aa (ah Tryz.func128 rfl (by kernel_rfl)) rfl ?_;simp only[go_sem,simprocAttr];refine eM [0,1,7] l hl (τ:=Unit) (λdone rest _=>aA p l 0=aA p rest done.length) (λdone _=>[(8,.p (.int .i64 done.length))]) () rfl ?_ ?_ ?_
 .simp only[go_sem,simprocAttr]<;>simp
 .intro _ e2;simp only[go_sem,simprocAttr];rw[e2];rfl
 .intro done x r _ e1 e2 hx hlt hnx;obtain⟨g,first,cap,rfl,hc⟩:=hf x (by rw[e1];simp);simp only[hlt,decide_true,hx,aI,go_sem,simprocAttr];refine ae hc (by simp[aI]) ?_;simp only[go_sem,simprocAttr];refine aT (λhb=>?_) (λhb=>?_)
  .simp only[go_sem,simprocAttr];rw[e2];simp[aA,hb]
  .simp only[go_sem,simprocAttr];refine ak e1 () (by rw[e2];simp[aA,hb]) ?_;simp only[hnx,go_sem,simprocAttr]
theorem ko{fv}(l:List Int)(p)(b)(sz)(hsz:sz=1)(hl:l.length<1000000000)(hf:∀x,x∈l->jV TP fv [aI x] (.bool (p x))) :
  af TP 88 [.slice sz (l.map aI) b,fv] (.bool (l.any p)):=by
 refine aa (ah Tryz.func88 rfl (by kernel_rfl)) rfl ?_;simp only[go_sem,simprocAttr];refine ae (I7 l p b sz hsz hl hf) rfl ?_;simp only[go_sem,simprocAttr];rw[gC]
theorem I6{fv}(l)(p)(b)(sz)(hsz:sz=2)(hl:l.length<1000000000)(hf:∀x,x∈l->jV TP fv [Span.pv x] (.bool (p x))) :
  af TP 245 [.slice sz (l.map Span.pv) b,fv] (.int .i64 (aA p l 0)):=by
 subst hsz;refine aa (ah Tryz.func245 rfl (by kernel_rfl)) rfl ?_;simp only[go_sem,simprocAttr];refine eM [0,1,7] l hl (τ:=Unit) (λdone rest _=>aA p l 0=aA p rest done.length) (λdone _=>[(8,.p (.int .i64 done.length))]) () rfl ?_ ?_ ?_
 .simp only[go_sem,simprocAttr]<;>simp
 .intro _ e2;simp only[go_sem,simprocAttr];rw[e2];rfl
 .intro done x r _ e1 e2 hx hlt hnx;obtain⟨g,first,cap,rfl,hc⟩:=hf x (by rw[e1];simp);simp only[hlt,decide_true,hx,Span.pv,go_sem,simprocAttr];refine ae hc (by simp[Span.pv]) ?_;simp only[go_sem,simprocAttr];refine aT (λhb=>?_) (λhb=>?_)
  .simp only[go_sem,simprocAttr];rw[e2];simp[aA,hb]
  .simp only[go_sem,simprocAttr];refine ak e1 () (by rw[e2];simp[aA,hb]) ?_;simp only[hnx,go_sem,simprocAttr]
theorem pM{fv}(l:List Span)(p)(b)(sz)(hsz:sz=2)(hl:l.length<1000000000)(hf:∀x,x∈l->jV TP fv [Span.pv x] (.bool (p x))) :
  af TP 181 [.slice sz (l.map Span.pv) b,fv] (.bool (l.any p)):=by
 refine aa (ah Tryz.func181 rfl (by kernel_rfl)) rfl ?_;simp only[go_sem,simprocAttr];refine ae (I6 l p b sz hsz hl hf) rfl ?_;simp only[go_sem,simprocAttr];rw[gC]
theorem I5{fv}(l)(p)(b)(sz)(hsz:sz=7)(hl:l.length<1000000000)(hf:∀x,x∈l->jV TP fv [BdWax.pv x] (.bool (p x))) :
  af TP 247 [.slice sz (l.map BdWax.pv) b,fv] (.int .i64 (aA p l 0)):=by
 subst hsz;refine aa (ah Tryz.func247 rfl (by kernel_rfl)) rfl ?_;simp only[go_sem,simprocAttr];refine eM [0,1,7] l hl (τ:=Unit) (λdone rest _=>aA p l 0=aA p rest done.length) (λdone _=>[(8,.p (.int .i64 done.length))]) () rfl ?_ ?_ ?_
 .simp only[go_sem,simprocAttr]<;>simp
 .intro _ e2;simp only[go_sem,simprocAttr];rw[e2];rfl
 .intro done x r _ e1 e2 hx hlt hnx;obtain⟨g,first,cap,rfl,hc⟩:=hf x (by rw[e1];simp);simp only[hlt,decide_true,hx,BdWax.pv,go_sem,simprocAttr];refine ae hc (by simp[BdWax.pv]) ?_;simp only[go_sem,simprocAttr];refine aT (λhb=>?_) (λhb=>?_)
  .simp only[go_sem,simprocAttr];rw[e2];simp[aA,hb]
  .simp only[go_sem,simprocAttr];refine ak e1 () (by rw[e2];simp[aA,hb]) ?_;simp only[hnx,go_sem,simprocAttr]
theorem C1{fv}(l:List BdWax)(p)(b)(sz)(hsz:sz=7)(hl:l.length<1000000000)(hf:∀x,x∈l->jV TP fv [BdWax.pv x] (.bool (p x))) :
  af TP 185 [.slice sz (l.map BdWax.pv) b,fv] (.bool (l.any p)):=by
 refine aa (ah Tryz.func185 rfl (by kernel_rfl)) rfl ?_;simp only[go_sem,simprocAttr];refine ae (I5 l p b sz hsz hl hf) rfl ?_;simp only[go_sem,simprocAttr];rw[gC]
theorem qb{fv}(l)(p)(b)(sz)(hsz:sz=4)(hl:l.length<1000000000)(hf:∀x,x∈l->jV TP fv [HrKind.pv x] (.bool (p x))) :
  af TP 238 [.slice sz (l.map HrKind.pv) b,fv] (.int .i64 (aA p l 0)):=by
 subst hsz;refine aa (ah Tryz.func238 rfl (by kernel_rfl)) rfl ?_;simp only[go_sem,simprocAttr];refine eM [0,1,7] l hl (τ:=Unit) (λdone rest _=>aA p l 0=aA p rest done.length) (λdone _=>[(8,.p (.int .i64 done.length))]) () rfl ?_ ?_ ?_
 .simp only[go_sem,simprocAttr]<;>simp
 .intro _ e2;simp only[go_sem,simprocAttr];rw[e2];rfl
 .intro done x r _ e1 e2 hx hlt hnx;obtain⟨g,first,cap,rfl,hc⟩:=hf x (by rw[e1];simp);simp only[hlt,decide_true,hx,HrKind.pv,go_sem,simprocAttr];refine ae hc (by simp[HrKind.pv]) ?_;simp only[go_sem,simprocAttr];refine aT (λhb=>?_) (λhb=>?_)
  .simp only[go_sem,simprocAttr];rw[e2];simp[aA,hb]
  .simp only[go_sem,simprocAttr];refine ak e1 () (by rw[e2];simp[aA,hb]) ?_;simp only[hnx,go_sem,simprocAttr]
theorem CZ{fv}(l:List HrKind)(p)(b)(sz)(hsz:sz=4)(hl:l.length<1000000000)(hf:∀x,x∈l->jV TP fv [HrKind.pv x] (.bool (p x))) :
  af TP 172 [.slice sz (l.map HrKind.pv) b,fv] (.bool (l.any p)):=by
 refine aa (ah Tryz.func172 rfl (by kernel_rfl)) rfl ?_;simp only[go_sem,simprocAttr];refine ae (qb l p b sz hsz hl hf) rfl ?_;simp only[go_sem,simprocAttr];rw[gC]
theorem I4{fv}(l)(p)(b)(sz)(hsz:sz=5)(hl:l.length<1000000000)(hf:∀x,x∈l->jV TP fv [HrRule.pv x] (.bool (p x))) :
  af TP 239 [.slice sz (l.map HrRule.pv) b,fv] (.int .i64 (aA p l 0)):=by
 subst hsz;refine aa (ah Tryz.func239 rfl (by kernel_rfl)) rfl ?_;simp only[go_sem,simprocAttr];refine eM [0,1,7] l hl (τ:=Unit) (λdone rest _=>aA p l 0=aA p rest done.length) (λdone _=>[(8,.p (.int .i64 done.length))]) () rfl ?_ ?_ ?_
 .simp only[go_sem,simprocAttr]<;>simp
 .intro _ e2;simp only[go_sem,simprocAttr];rw[e2];rfl
 .intro done x r _ e1 e2 hx hlt hnx;obtain⟨g,first,cap,rfl,hc⟩:=hf x (by rw[e1];simp);simp only[hlt,decide_true,hx,HrRule.pv,go_sem,simprocAttr];refine ae hc (by simp[HrRule.pv]) ?_;simp only[go_sem,simprocAttr];refine aT (λhb=>?_) (λhb=>?_)
  .simp only[go_sem,simprocAttr];rw[e2];simp[aA,hb]
  .simp only[go_sem,simprocAttr];refine ak e1 () (by rw[e2];simp[aA,hb]) ?_;simp only[hnx,go_sem,simprocAttr]
theorem CY{fv}(l:List HrRule)(p)(b)(sz)(hsz:sz=5)(hl:l.length<1000000000)(hf:∀x,x∈l->jV TP fv [HrRule.pv x] (.bool (p x))) :
  af TP 174 [.slice sz (l.map HrRule.pv) b,fv] (.bool (l.any p)):=by
 refine aa (ah Tryz.func174 rfl (by kernel_rfl)) rfl ?_;simp only[go_sem,simprocAttr];refine ae (I4 l p b sz hsz hl hf) rfl ?_;simp only[go_sem,simprocAttr];rw[gC]
theorem I3{fv}(l)(p)(b)(sz)(hsz:sz=4)(hl:l.length<1000000000)(hf:∀x,x∈l->jV TP fv [Wick.pv x] (.bool (p x))) :
  af TP 301 [.slice sz (l.map Wick.pv) b,fv] (.int .i64 (aA p l 0)):=by
 subst hsz;refine aa (ah Tryz.func301 rfl (by kernel_rfl)) rfl ?_;simp only[go_sem,simprocAttr];refine eM [0,1,7] l hl (τ:=Unit) (λdone rest _=>aA p l 0=aA p rest done.length) (λdone _=>[(8,.p (.int .i64 done.length))]) () rfl ?_ ?_ ?_
 .simp only[go_sem,simprocAttr]<;>simp
 .intro _ e2;simp only[go_sem,simprocAttr];rw[e2];rfl
 .intro done x r _ e1 e2 hx hlt hnx;obtain⟨g,first,cap,rfl,hc⟩:=hf x (by rw[e1];simp);simp only[hlt,decide_true,hx,Wick.pv,go_sem,simprocAttr];refine ae hc (by simp[Wick.pv]) ?_;simp only[go_sem,simprocAttr];refine aT (λhb=>?_) (λhb=>?_)
  .simp only[go_sem,simprocAttr];rw[e2];simp[aA,hb]
  .simp only[go_sem,simprocAttr];refine ak e1 () (by rw[e2];simp[aA,hb]) ?_;simp only[hnx,go_sem,simprocAttr]
theorem CX{fv}(l:List Wick)(p)(b)(sz)(hsz:sz=4)(hl:l.length<1000000000)(hf:∀x,x∈l->jV TP fv [Wick.pv x] (.bool (p x))) :
  af TP 250 [.slice sz (l.map Wick.pv) b,fv] (.bool (l.any p)):=by
 refine aa (ah Tryz.func250 rfl (by kernel_rfl)) rfl ?_;simp only[go_sem,simprocAttr];refine ae (I3 l p b sz hsz hl hf) rfl ?_;simp only[go_sem,simprocAttr];rw[gC]
theorem ub{fv}(l)(p)(b)(sz)(hsz:sz=8)(hl:l.length<1000000000)(hf:∀x,x∈l->jV TP fv [Wax.pv x] (.bool (p x))) :
  af TP 281 [.slice sz (l.map Wax.pv) b,fv] (.int .i64 (aA p l 0)):=by
 subst hsz;refine aa (ah Tryz.func281 rfl (by kernel_rfl)) rfl ?_;simp only[go_sem,simprocAttr];refine eM [0,1,7] l hl (τ:=Unit) (λdone rest _=>aA p l 0=aA p rest done.length) (λdone _=>[(8,.p (.int .i64 done.length))]) () rfl ?_ ?_ ?_
 .simp only[go_sem,simprocAttr]<;>simp
 .intro _ e2;simp only[go_sem,simprocAttr];rw[e2];rfl
 .intro done x r _ e1 e2 hx hlt hnx;obtain⟨g,first,cap,rfl,hc⟩:=hf x (by rw[e1];simp);simp only[hlt,decide_true,hx,Wax.pv,go_sem,simprocAttr];refine ae hc (by simp[Wax.pv]) ?_;simp only[go_sem,simprocAttr];refine aT (λhb=>?_) (λhb=>?_)
  .simp only[go_sem,simprocAttr];rw[e2];simp[aA,hb]
  .simp only[go_sem,simprocAttr];refine ak e1 () (by rw[e2];simp[aA,hb]) ?_;simp only[hnx,go_sem,simprocAttr]
theorem CW{fv}(l:List Wax)(p)(b)(sz)(hsz:sz=8)(hl:l.length<1000000000)(hf:∀x,x∈l->jV TP fv [Wax.pv x] (.bool (p x))) :
  af TP 252 [.slice sz (l.map Wax.pv) b,fv] (.bool (l.any p)):=by
 refine aa (ah Tryz.func252 rfl (by kernel_rfl)) rfl ?_;simp only[go_sem,simprocAttr];refine ae (ub l p b sz hsz hl hf) rfl ?_;simp only[go_sem,simprocAttr];rw[gC]
theorem I2{fv}(l)(p)(b)(sz)(hsz:sz=2)(hl:l.length<1000000000)(hf:∀x,x∈l->jV TP fv [WxProp.pv x] (.bool (p x))) :
  af TP 300 [.slice sz (l.map WxProp.pv) b,fv] (.int .i64 (aA p l 0)):=by
 subst hsz;refine aa (ah Tryz.func300 rfl (by kernel_rfl)) rfl ?_;simp only[go_sem,simprocAttr];refine eM [0,1,7] l hl (τ:=Unit) (λdone rest _=>aA p l 0=aA p rest done.length) (λdone _=>[(8,.p (.int .i64 done.length))]) () rfl ?_ ?_ ?_
 .simp only[go_sem,simprocAttr]<;>simp
 .intro _ e2;simp only[go_sem,simprocAttr];rw[e2];rfl
 .intro done x r _ e1 e2 hx hlt hnx;obtain⟨g,first,cap,rfl,hc⟩:=hf x (by rw[e1];simp);simp only[hlt,decide_true,hx,WxProp.pv,go_sem,simprocAttr];refine ae hc (by simp[WxProp.pv]) ?_;simp only[go_sem,simprocAttr];refine aT (λhb=>?_) (λhb=>?_)
  .simp only[go_sem,simprocAttr];rw[e2];simp[aA,hb]
  .simp only[go_sem,simprocAttr];refine ak e1 () (by rw[e2];simp[aA,hb]) ?_;simp only[hnx,go_sem,simprocAttr]
theorem CV{fv}(l:List WxProp)(p)(b)(sz)(hsz:sz=2)(hl:l.length<1000000000)(hf:∀x,x∈l->jV TP fv [WxProp.pv x] (.bool (p x))) :
  af TP 241 [.slice sz (l.map WxProp.pv) b,fv] (.bool (l.any p)):=by
 refine aa (ah Tryz.func241 rfl (by kernel_rfl)) rfl ?_;simp only[go_sem,simprocAttr];refine ae (I2 l p b sz hsz hl hf) rfl ?_;simp only[go_sem,simprocAttr];rw[gC]
theorem ua{fv}(l)(p)(b)(sz)(hsz:sz=2)(hl:l.length<1000000000)(hf:∀x,x∈l->jV TP fv [WxKind.pv x] (.bool (p x))) :
  af TP 271 [.slice sz (l.map WxKind.pv) b,fv] (.int .i64 (aA p l 0)):=by
 subst hsz;refine aa (ah Tryz.func271 rfl (by kernel_rfl)) rfl ?_;simp only[go_sem,simprocAttr];refine eM [0,1,7] l hl (τ:=Unit) (λdone rest _=>aA p l 0=aA p rest done.length) (λdone _=>[(8,.p (.int .i64 done.length))]) () rfl ?_ ?_ ?_
 .simp only[go_sem,simprocAttr]<;>simp
 .intro _ e2;simp only[go_sem,simprocAttr];rw[e2];rfl
 .intro done x r _ e1 e2 hx hlt hnx;obtain⟨g,first,cap,rfl,hc⟩:=hf x (by rw[e1];simp);simp only[hlt,decide_true,hx,WxKind.pv,go_sem,simprocAttr];refine ae hc (by simp[WxKind.pv]) ?_;simp only[go_sem,simprocAttr];refine aT (λhb=>?_) (λhb=>?_)
  .simp only[go_sem,simprocAttr];rw[e2];simp[aA,hb]
  .simp only[go_sem,simprocAttr];refine ak e1 () (by rw[e2];simp[aA,hb]) ?_;simp only[hnx,go_sem,simprocAttr]
theorem CU{fv}(l:List WxKind)(p)(b)(sz)(hsz:sz=2)(hl:l.length<1000000000)(hf:∀x,x∈l->jV TP fv [WxKind.pv x] (.bool (p x))) :
  af TP 243 [.slice sz (l.map WxKind.pv) b,fv] (.bool (l.any p)):=by
 refine aa (ah Tryz.func243 rfl (by kernel_rfl)) rfl ?_;simp only[go_sem,simprocAttr];refine ae (ua l p b sz hsz hl hf) rfl ?_;simp only[go_sem,simprocAttr];rw[gC]
theorem mZ{fv}(l)(p)(b)(sz)(hsz:sz=4)(hl:l.length<1000000000)(hf:∀x,x∈l->jV TP fv [ClColour.pv x] (.bool (p x))) :
  af TP 168 [.slice sz (l.map ClColour.pv) b,fv] (.int .i64 (aA p l 0)):=by
 subst hsz;refine aa (ah Tryz.func168 rfl (by kernel_rfl)) rfl ?_;simp only[go_sem,simprocAttr];refine eM [0,1,7] l hl (τ:=Unit) (λdone rest _=>aA p l 0=aA p rest done.length) (λdone _=>[(8,.p (.int .i64 done.length))]) () rfl ?_ ?_ ?_
 .simp only[go_sem,simprocAttr]<;>simp
 .intro _ e2;simp only[go_sem,simprocAttr];rw[e2];rfl
 .intro done x r _ e1 e2 hx hlt hnx;obtain⟨g,first,cap,rfl,hc⟩:=hf x (by rw[e1];simp);simp only[hlt,decide_true,hx,ClColour.pv,go_sem,simprocAttr];refine ae hc (by simp[ClColour.pv]) ?_;simp only[go_sem,simprocAttr];refine aT (λhb=>?_) (λhb=>?_)
  .simp only[go_sem,simprocAttr];rw[e2];simp[aA,hb]
  .simp only[go_sem,simprocAttr];refine ak e1 () (by rw[e2];simp[aA,hb]) ?_;simp only[hnx,go_sem,simprocAttr]
theorem CT{fv}(l:List ClColour)(p)(b)(sz)(hsz:sz=4)(hl:l.length<1000000000)(hf:∀x,x∈l->jV TP fv [ClColour.pv x] (.bool (p x))) :
  af TP 116 [.slice sz (l.map ClColour.pv) b,fv] (.bool (l.any p)):=by
 refine aa (ah Tryz.func116 rfl (by kernel_rfl)) rfl ?_;simp only[go_sem,simprocAttr];refine ae (mZ l p b sz hsz hl hf) rfl ?_;simp only[go_sem,simprocAttr];rw[gC]
theorem sM{fv}(l)(p)(b)(sz)(hsz:sz=4)(hl:l.length<1000000000)(hf:∀x,x∈l->jV TP fv [ChLot.pv x] (.bool (p x))) :
  af TP 270 [.slice sz (l.map ChLot.pv) b,fv] (.int .i64 (aA p l 0)):=by
 subst hsz;refine aa (ah Tryz.func270 rfl (by kernel_rfl)) rfl ?_;simp only[go_sem,simprocAttr];refine eM [0,1,7] l hl (τ:=Unit) (λdone rest _=>aA p l 0=aA p rest done.length) (λdone _=>[(8,.p (.int .i64 done.length))]) () rfl ?_ ?_ ?_
 .simp only[go_sem,simprocAttr]<;>simp
 .intro _ e2;simp only[go_sem,simprocAttr];rw[e2];rfl
 .intro done x r _ e1 e2 hx hlt hnx;obtain⟨g,first,cap,rfl,hc⟩:=hf x (by rw[e1];simp);simp only[hlt,decide_true,hx,ChLot.pv,go_sem,simprocAttr];refine ae hc (by simp[ChLot.pv]) ?_;simp only[go_sem,simprocAttr];refine aT (λhb=>?_) (λhb=>?_)
  .simp only[go_sem,simprocAttr];rw[e2];simp[aA,hb]
  .simp only[go_sem,simprocAttr];refine ak e1 () (by rw[e2];simp[aA,hb]) ?_;simp only[hnx,go_sem,simprocAttr]
theorem BN{fv}(l:List ChLot)(p)(b)(sz)(hsz:sz=4)(hl:l.length<1000000000)(hf:∀x,x∈l->jV TP fv [ChLot.pv x] (.bool (p x))) :
  af TP 203 [.slice sz (l.map ChLot.pv) b,fv] (.bool (l.any p)):=by
 refine aa (ah Tryz.func203 rfl (by kernel_rfl)) rfl ?_;simp only[go_sem,simprocAttr];refine ae (sM l p b sz hsz hl hf) rfl ?_;simp only[go_sem,simprocAttr];rw[gC]
theorem sL{fv}(l)(p)(b)(sz)(hsz:sz=4)(hl:l.length<1000000000)(hf:∀x,x∈l->jV TP fv [ChBatch.pv x] (.bool (p x))) :
  af TP 275 [.slice sz (l.map ChBatch.pv) b,fv] (.int .i64 (aA p l 0)):=by
 subst hsz;refine aa (ah Tryz.func275 rfl (by kernel_rfl)) rfl ?_;simp only[go_sem,simprocAttr];refine eM [0,1,7] l hl (τ:=Unit) (λdone rest _=>aA p l 0=aA p rest done.length) (λdone _=>[(8,.p (.int .i64 done.length))]) () rfl ?_ ?_ ?_
 .simp only[go_sem,simprocAttr]<;>simp
 .intro _ e2;simp only[go_sem,simprocAttr];rw[e2];rfl
 .intro done x r _ e1 e2 hx hlt hnx;obtain⟨g,first,cap,rfl,hc⟩:=hf x (by rw[e1];simp);simp only[hlt,decide_true,hx,ChBatch.pv,go_sem,simprocAttr];refine ae hc (by simp[ChBatch.pv]) ?_;simp only[go_sem,simprocAttr];refine aT (λhb=>?_) (λhb=>?_)
  .simp only[go_sem,simprocAttr];rw[e2];simp[aA,hb]
  .simp only[go_sem,simprocAttr];refine ak e1 () (by rw[e2];simp[aA,hb]) ?_;simp only[hnx,go_sem,simprocAttr]
theorem BM{fv}(l:List ChBatch)(p)(b)(sz)(hsz:sz=4)(hl:l.length<1000000000)(hf:∀x,x∈l->jV TP fv [ChBatch.pv x] (.bool (p x))) :
  af TP 208 [.slice sz (l.map ChBatch.pv) b,fv] (.bool (l.any p)):=by
 refine aa (ah Tryz.func208 rfl (by kernel_rfl)) rfl ?_;simp only[go_sem,simprocAttr];refine ae (sL l p b sz hsz hl hf) rfl ?_;simp only[go_sem,simprocAttr];rw[gC]
theorem Nq(l)(b)(hl:l≠[])(hlen:l.length<1000000000):ip TP 291 [.slice 1 (l.map aI) b] (.slice 1 (l.map aI) false):=by
 refine gb (ah Tryz.func291 rfl (by kernel_rfl)) rfl ?_;have h1:¬(l.map aI=[]):=by simpa using hl
 have h2:l.length<=aw:=by simp[aw];omega
 have h3:¬((l.map aI).map AV.p=[]):=by simpa using hl
 simp only[h1,h2,h3,go_sem,simprocAttr]
theorem PC(a b:Nat)(h:a+b<1000000000):IntKind.i64.wrap (Int.fdiv (IntKind.u64.wrap ((a)+(b))) 2)=(((a+b) / 2:Nat):Int):=by
 have e:IntKind.u64.wrap ((a:Int)+(b:Int))=((a+b:Nat):Int):=by
  unfold IntKind.wrap IntKind.signed IntKind.bits;simp;omega
 rw[e];have e2:Int.fdiv ((a+b:Nat):Int) 2=(((a+b) / 2:Nat):Int):=by
  rw[Int.fdiv_eq_ediv_of_nonneg _ (by omega)];omega
 rw[e2];exact cA (by omega) (by simp[aw];omega)
theorem TG{fv}(n:Nat)(p:Nat->Bool)(hn:n<100000000)(hf:∀i,i<n->jV TP fv [.int .i64 i] (.bool (p i)))(r)(hr:r<=n)(h1:∀i,i<r->p i=false)(h2:∀i,r<=i->i<n->p i=true) :
  af TP 344 [.int .i64 n,fv] (.int .i64 r):=by
 refine aa (ah Tryz.func344 rfl (by kernel_rfl)) rfl ?_;simp only[go_sem,simprocAttr];refine uM [1] (σ:=Nat×Nat) (λs=>s.1<=r/\r<=s.2/\s.2<=n) (λs=>s.2-s.1) (λs=>[(5,.p (.int .i64 s.1)),(6,.p (.int .i64 s.2))]) (0,n) ⟨by omega,hr,by omega⟩ ?_ ?_
 .simp only[go_sem,simprocAttr]
 .rintro⟨i,j⟩ ⟨g1,g2,g3⟩
  dsimp only at g1 g2 g3;simp only[go_sem,simprocAttr];refine aT (λhb=>?_) (λhb=>?_)
  .have hij:i<j:=by simpa using hb
   have hw:IntKind.i64.wrap ((i:Int)+(j:Int))=((i:Int)+(j:Int)):=cA (by omega) (by simp[aw];omega);have hh:=PC i j (by omega);have hp2:(2:Int)^min 1 64=2:=rfl;obtain⟨g,first,cap,rfl,hc⟩:=hf ((i+j) / 2) (by omega);simp only[hw,fB,IntKind.bits,hp2,hh,go_sem,simprocAttr];refine ae hc (by simp) ?_;simp only[go_sem,simprocAttr];cases hpv:p ((i+j) / 2)
   .simp only[go_sem,simprocAttr];have hlt:¬(r<=(i+j) / 2):=λh=>by rw[h2 _ h (by omega)]at hpv;cases hpv
    refine bU ((i+j) / 2+1,j) ⟨by omega,g2,g3⟩ (by dsimp only;omega) ?_;have hnx:IntKind.i64.wrap ((((i+j) / 2:Nat):Int)+1)=(((i+j) / 2+1:Nat):Int):=bj (by omega) (by simp[aw];omega) (by omega);simp only[hnx,go_sem,simprocAttr]
   .simp only[go_sem,simprocAttr];have hlt:r<=(i+j) / 2:=by
     rcases dF ((i+j) / 2) r with h|h
     .rw[h1 _ h]at hpv;cases hpv
     .exact h
    refine bU (i,(i+j) / 2) ⟨g1,hlt,by omega⟩ (by dsimp only;omega) ?_;simp only[go_sem,simprocAttr]
  .have hij:¬(i<j):=by simpa using hb
   have:i=r:=by omega
   subst this;simp only[go_sem,simprocAttr]
def ar (n lo hi:Int):Bool:=decide (lo<=n)&&decide (n<=hi)
theorem xR(n lo hi):af TP 41 [.int .i64 n,.int .i64 lo,.int .i64 hi] (.bool (ar n lo hi)):=by
 refine aa (ah Tryz.func41 rfl (by kernel_rfl)) rfl ?_;simp only[go_sem,simprocAttr];refine aT (λhb=>?_) (λhb=>?_)<;>simp only[hb,go_sem,simprocAttr]<;>simp[ar,hb]
theorem CS(n lo hi):af TP 95 [.int .i64 n,.int .i64 lo,.int .i64 hi] (.bool (ar n lo hi)):=by
 refine aa (ah Tryz.func95 rfl (by kernel_rfl)) rfl ?_;simp only[go_sem,simprocAttr];refine aT (λhb=>?_) (λhb=>?_)<;>simp only[hb,go_sem,simprocAttr]<;>simp[ar,hb]
theorem L3(n lo hi):af TP 98 [.int .i64 n,.int .i64 lo,.int .i64 hi] (.bool (ar n lo hi)):=by
 refine aa (ah Tryz.func98 rfl (by kernel_rfl)) rfl ?_;simp only[go_sem,simprocAttr];refine aT (λhb=>?_) (λhb=>?_)<;>simp only[hb,go_sem,simprocAttr]<;>simp[ar,hb]
theorem QY(n lo hi):af TP 101 [.int .i64 n,.int .i64 lo,.int .i64 hi] (.bool (ar n lo hi)):=by
 refine aa (ah Tryz.func101 rfl (by kernel_rfl)) rfl ?_;simp only[go_sem,simprocAttr];refine aT (λhb=>?_) (λhb=>?_)<;>simp only[hb,go_sem,simprocAttr]<;>simp[ar,hb]
def dI (lo hi low high:Int):Int:=if ar lo low high=true/\ar hi low high=true then(if hi<lo then 2 else 0) else 7
theorem p9(lo hi low high):af TP 100 [.agg [.int .i64 lo,.int .i64 hi],.int .i64 low,.int .i64 high] (.int .i64 (dI lo hi low high)):=by
 refine aa (ah Tryz.func100 rfl (by kernel_rfl)) rfl ?_;simp only[go_sem,simprocAttr]
 repeat' first
  |(refine ae (xR _ _ _) rfl ?_;simp only[go_sem,simprocAttr])
  |(refine aT (λhb=>?_) (λhb=>?_)<;>simp only[hb,go_sem,simprocAttr])
 all_goals simp_all [dI]
def q8 (c last:Int):Bool:=(c != 45&&(decide (c<97)||decide (122<c)))||(c==45&&last==45)
def dM:List UInt8->Int->Bool
 |[],last=>last != 45
 |c::r,last=>if q8 c.toNat last=true then false else dM r c.toNat
def nameOk (s:ByteArray):Bool:=dM s.data.toList 45&&decide ((s.size:Int)<=20)
theorem pN(s:ByteArray)(i:Nat):s[i]?=s.data.toList[i]?:=by
 by_cases h:i<s.size
 .have h':i<s.data.toList.length:=by simpa using h
  rw[getElem?_pos s i h,dc h'];simp[ByteArray.getElem_eq_getElem_data]
 .rw[getElem?_neg s i h,na];simpa using KL h
attribute [go_sem] pN
theorem jU(s):af TP 115 [.str s] (.bool (nameOk s)):=by
 refine aa (ah Tryz.func115 rfl (by kernel_rfl)) rfl ?_;simp only[go_sem,simprocAttr]
 refine gH [0,7] (σ:=List UInt8×List UInt8×Int) (λq=>s.data.toList=q.1++q.2.1/\dM s.data.toList 45=dM q.2.1 q.2.2) (λq=>q.2.1.length)
  (λq=>[(3,.p (.int .i32 q.2.2))]) (λq=>[.strIter s q.1.length]) ([],s.data.toList,45) ⟨rfl,rfl⟩ ?_ ?_
 .simp only[go_sem,simprocAttr]
 .rintro⟨done,rest,last⟩ ⟨e1,e2⟩
  dsimp only at e1 e2
  cases rest with
  |nil=>
   have hlt:¬(done.length<s.size):=by
    have:=congrArg List.length e1;simp at this |-;omega
   simp only[hlt,go_sem,simprocAttr];refine aT (λhb=>?_) (λhb=>?_)<;>simp only[hb,go_sem,simprocAttr]
   .simp[nameOk,e2,dM,hb]
   .simp[nameOk,e2,dM,hb]
  |cons c r=>
   obtain⟨hx,_⟩:=d8 e1;have hlt:done.length<s.size:=by
    have:=congrArg List.length e1;simp at this |-;omega
   have hc:(s[done.length]'hlt)=c:=by
    have:=pN s done.length;rw[hx,getElem?_pos s done.length hlt]at this;exact lq this
   rcases dF c.toNat 128 with hlow|hhigh
   .have hd:Utf8.decode s done.length=(c.toNat,1):=by
     rw[decode_ascii s done.length hlt (by rw[hc];exact hlow),hc]
    simp only[hlt,hd,go_sem,simprocAttr]
    repeat' first
     |(refine aT (λhb=>?_) (λhb=>?_)<;>simp only[hb,go_sem,simprocAttr])
    all_goals first
     |(refine bU (done++[c],r,(c.toNat:Int)) ⟨by simp[e1],?_⟩ (by simp) ?_
       .rw[e2];simp_all [dM,q8]
       .simp only[go_sem,simprocAttr];simp)
     |(simp only[nameOk,e2];simp_all [dM,q8];done)
   .have hd:=decode_high s done.length hlt (by rw[hc];exact hhigh);have h1:(((Utf8.decode s done.length).1:Int) != 45)=true:=by simp;omega
    have h2:decide (((Utf8.decode s done.length).1:Int)<97)=false:=by simp;omega
    have h3:decide ((122:Int)<((Utf8.decode s done.length).1:Int))=true:=by simp;omega
    simp only[hlt,h1,h2,h3,go_sem,simprocAttr];have hbad:q8 c.toNat last=true:=by
     have g1:((c.toNat:Int) != 45)=true:=by simp;omega
     have g3:decide ((122:Int)<(c.toNat:Int))=true:=by simp;omega
     simp[q8,g1,g3]
    simp[nameOk,e2,dM,hbad]
theorem C3(c last):q8 c last=((c != 45&&!ar c 97 122)||(c==45&&last==45)):=by
 have:(!ar c 97 122)=(decide (c<97)||decide (122<c)):=by
  unfold ar;rw[iZ]
  congr 1
  .rw[<-decide_not];congr 1;simp
  .rw[<-decide_not];congr 1;simp
 rw[q8,this]
def p6 (l:List UInt8):Int:=match l.getLast? with|some c=>(c.toNat:Int)|none=>45
theorem Be(l)(c):p6 (l++[c])=(c.toNat:Int):=by simp[p6]
theorem Sj(c:UInt8):IntKind.i64.wrap (c.toNat:Int)=(c.toNat:Int):=cA (by omega) (by have:=c.toNat_lt;simp[aw];omega)
theorem Hi(s):af TP 71 [.str s] (.bool (nameOk s)):=by
 refine aa (ah Tryz.func71 rfl (by kernel_rfl)) rfl ?_;simp only[go_sem,simprocAttr];refine ae (xR _ _ _) rfl ?_;cases hr:ar s.size 1 20
 .simp only[go_sem,simprocAttr];have:nameOk s=false:=by
   unfold nameOk
   cases hb:s.data.toList with
   |nil=>simp[dM]
   |cons b bs=>
    have:1<=s.size:=by have:=congrArg List.length hb;simp at this;omega
    have h2:¬((s.size:Int)<=20):=by
     intro h;have h1:(1:Int)<=(s.size:Int):=by omega
     simp[ar,h,h1]at hr
    simp[h2]
  rw[this]
 .have hr':(1:Int)<=(s.size:Int)/\(s.size:Int)<=20:=by simpa[ar]using hr
  have hlen:s.data.toList.length=s.size:=by simp
  obtain⟨b0,h0⟩:∃b,s.data.toList[0]?=some b:=⟨_,dc (by omega)⟩
  obtain⟨bl,hl⟩:∃b,s.data.toList[s.size-1]?=some b:=⟨_,dc (by omega)⟩
  have hgl:s.data.toList.getLast?=some bl:=by rw[List.getLast?_eq_getElem?,hlen];exact hl
  have hw:IntKind.i64.wrap ((s.size:Int)-1)=((s.size-1:Nat):Int):=by
   rw[cA (by omega) (by simp[aw];omega)];omega
  have hlt1:(((s.size-1:Nat):Int))<(s.size:Int):=by omega
  have hsz:nameOk s=dM s.data.toList 45:=by unfold nameOk;simp[hr'.2]
  rw[hsz];simp only[pN,h0,go_sem,simprocAttr];cases hb0:((b0.toNat:Int)==45)
  .simp only[pN,hw,hl,go_sem,simprocAttr];cases hbl:((bl.toNat:Int)==45)
   .simp only[go_sem,simprocAttr]
    refine gH [0] (σ:=List UInt8×List UInt8) (λq=>s.data.toList=q.1++q.2/\dM s.data.toList 45=dM q.2 (p6 q.1)) (λq=>q.2.length)
     (λq=>[(3,.p (.int .i64 q.1.length))]) (λ_=>[]) ([],s.data.toList) ⟨rfl,rfl⟩ ?_ ?_
    .simp only[go_sem,simprocAttr]<;>simp
    .rintro⟨done,rest⟩ ⟨e1,e2⟩
     dsimp only at e1 e2
     cases rest with
     |nil=>
      have hlt:¬((done.length:Int)<(s.size:Int)):=by
       have:=congrArg List.length e1;simp at this;omega
      simp only[hlt,decide_false,go_sem,simprocAttr];rw[e2];have:p6 done=(bl.toNat:Int):=by
       rw[e1]at hgl;simp at hgl;simp[p6,hgl]
      simp[dM,this,bne,hbl]
     |cons c r=>
      obtain⟨hx,_⟩:=d8 e1;have hlt:(done.length:Int)<(s.size:Int):=by
       have:=congrArg List.length e1;simp at this;omega
      have hnx:IntKind.i64.wrap ((done.length:Int)+1)=(((done++[c]).length:Nat):Int):=bj (by omega) (by simp[aw];omega) (by simp);simp only[hlt,decide_true,pN,hx,go_sem,simprocAttr];have back:q8 c.toNat (p6 done)=false->dM s.data.toList 45=dM r (p6 (done++[c])):=λh=>by
       rw[e2,dM,h,Be];rfl
      have gone:q8 c.toNat (p6 done)=true->dM s.data.toList 45=false:=λh=>by
       rw[e2,dM,if_pos h]
      rw[C3]at back gone;have next:q8 c.toNat (p6 done)=false->(s.data.toList=(done++[c])++r/\dM s.data.toList 45=dM r (p6 (done++[c]))):=λh=>⟨by simp[e1],by rw[C3]at h;exact back h⟩
      rw[C3]at next;cases hc:((c.toNat:Int)==45)
      .have hc':((c.toNat:Int) != 45)=true:=by simp[bne,hc]
       simp only[hc',hx,Sj,go_sem,simprocAttr];refine ae (xR _ _ _) rfl ?_;cases hg:ar c.toNat 97 122
       .simp only[go_sem,simprocAttr];rw[gone (by simp[hc',hg])]
       .simp only[go_sem,simprocAttr];refine aT (λhp=>?_) (λhp=>?_)<;>simp only[hp,go_sem,simprocAttr]
        .simp only[hx,hc,go_sem,simprocAttr];refine bU (done++[c],r) (next (by simp[hc,hg])) (by simp) ?_;simp only[hnx,go_sem,simprocAttr]
        .refine bU (done++[c],r) (next (by simp[hc,hg])) (by simp) ?_;simp only[hnx,go_sem,simprocAttr]
      .have hc':((c.toNat:Int) != 45)=false:=by simp[bne,hc]
       simp only[hc',go_sem,simprocAttr];rcases yg done with rfl|⟨pre,d,hpd⟩
       .exfalso;rw[e1]at h0;simp at h0;subst h0;rw[hc]at hb0;cases hb0
       .rw[yj]at hpd;subst hpd;have hp:decide ((0:Int)<(((pre++[d]).length:Nat):Int))=true:=by simp<;>omega
        have hw1:IntKind.i64.wrap ((((pre++[d]).length:Nat):Int)-1)=((pre.length:Nat):Int):=by
         rw[cA (by simp<;>omega) (by simp[aw]at hlt |-;omega)];simp
        have hd:s.data.toList[pre.length]?=some d:=by rw[e1];simp
        simp only[hp,hx,hc,hw1,hd,go_sem,simprocAttr];rw[Be]at back gone next;cases hd45:((d.toNat:Int)==45)
        .simp only[go_sem,simprocAttr];refine bU (pre++[d]++[c],r) (next (by simp[hc,bne,hd45])) (by simp) ?_;simp only[hnx,go_sem,simprocAttr]
        .simp only[go_sem,simprocAttr];rw[gone (by simp[hc,hd45])]
   .simp only[go_sem,simprocAttr];have:∀(l:List UInt8) (p:Int),l.getLast?=some bl->dM l p=false:=by
     intro l
     induction l with
     |nil=>intro p h;cases h
     |cons c r ih=>
      intro p h;unfold dM;split
      .rfl
      .cases r with
       |nil=>
        simp at h;subst h
        simp[dM,bne,hbl]
       |cons c' r'=>exact ih _ (by simpa using h)
    rw[this _ _ hgl]
  .simp only[go_sem,simprocAttr];have:dM s.data.toList 45=false:=by
    cases hbs:s.data.toList with
    |nil=>rw[hbs]at h0;cases h0
    |cons c r=>
     rw[hbs]at h0;simp at h0;subst h0;unfold dM;rw[if_pos];simp[q8,hb0]
   rw[this]
def firstErr {α:Type} (f:List ByteArray->α->Int) (nm:α->ByteArray):List α->List ByteArray->Option (Int×Int)
 |[],_=>none
 |x::r,before=>if f before x=0 then firstErr f nm r (before++[nm x]) else some ((before.length:Int),f before x)
def al (t:Int×Int×Int):PV:=.tuple [.int .i64 t.1,.int .i64 t.2.1,.int .i64 t.2.2]
def am (before:List ByteArray) (s:ByteArray):Int:=if nameOk s=true then(if before.any (λt=>t==s)=true then 5 else 0) else 6
theorem Oj(s)(l)(b)(hl:l.length<1000000000):af TP 72 [.str s,.slice 1 (l.map .str) b] (.int .i64 (am l s)):=by
 refine aa (ah Tryz.func72 rfl (by kernel_rfl)) rfl ?_;simp only[go_sem,simprocAttr];refine ae (Hi s) rfl ?_;simp only[go_sem,simprocAttr];cases hn:nameOk s
 .simp only[go_sem,simprocAttr];simp[am,hn]
 .simp only[go_sem,simprocAttr];refine uM [0,1] (σ:=List ByteArray×List ByteArray) (λq=>l=q.1++q.2/\am l s=(if q.2.any (λt=>t==s)=true then 5 else 0)) (λq=>q.2.length) (λq=>[(5,.p (.int .i64 q.1.length))]) ([],l) ⟨rfl,by simp[am,hn]⟩ ?_ ?_
  .simp only[go_sem,simprocAttr]<;>simp
  .rintro⟨done,rest⟩ ⟨e1,e2⟩
   dsimp only at e1 e2
   cases rest with
   |nil=>
    have hlt:¬((done.length:Int)<(l.length:Int)):=by rw[e1];simp
    simp only[hlt,decide_false,go_sem,simprocAttr]
    rw[e2];rfl
   |cons x r=>
    obtain⟨hx,hlt⟩:=d8 e1;have hnx:IntKind.i64.wrap ((done.length:Int)+1)=(((done++[x]).length:Nat):Int):=bj (by omega) (by simp[aw];omega) (by simp);simp only[hlt,decide_true,hx,go_sem,simprocAttr];rw[cV]at e2;cases hb:(x==s)
    .simp only[go_sem,simprocAttr];refine bU (done++[x],r) ⟨by simp[e1],by rw[e2,hb];rfl⟩ (by simp) ?_;simp only[hnx,go_sem,simprocAttr]
    .simp only[go_sem,simprocAttr];rw[e2,hb];rfl
theorem jG(s)(l)(b)(xs)(hx:xs=l.map .str)(hl:l.length<1000000000):af TP 72 [.str s,.slice 1 xs b] (.int .i64 (am l s)):=by
 subst hx;exact Oj s l b hl
end Abs
end Go.Proofs.YtoapoaoelpcniaaGreatDoor
