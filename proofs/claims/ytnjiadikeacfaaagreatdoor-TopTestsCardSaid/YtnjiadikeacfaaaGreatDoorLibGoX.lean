/- CONTRACTS of the program's functions, and laws on what they return. No conditions but those in the theorems' heads. -/
import Derived.Test.YtnjiadikeacfaaaGreatDoorAbsCutX
set_option linter.all false
open Go.Proofs.Tryz renaming prog->TP
namespace Go.Proofs.YtnjiadikeacfaaaGreatDoor
namespace Abs
set_option maxRecDepth 4000
theorem Cw(n)(h):∀l,aS (ci n h) (l.map .p)=some l
 |[]=>rfl
 |x::r=>by rw[bD,aS,Cw n h r,ef]
theorem HJ:∀l,gq (l.map .p)=some l
 |[]=>rfl
 |x::r=>by rw[bD,gq,HJ r]
attribute [go_sem] Cw HJ
def jo (P:Program) (fv:PV) (xs:List PV) (y:PV):Prop:=∃(g:FuncId) (first cap:List PV),fv=.func (.func g) first cap/\af P g (first++xs++cap) y
def az {α:Type} (p:α->Bool):List α->Nat->Int
 |[],_=>-1
 |x::r,i=>if p x=true then(i:Int) else az p r (i+1)
theorem f7{α}(p:α->Bool):∀(l) (i),decide (0<=az p l i)=l.any p
 |[],i=>by simp[az]
 |x::r,i=>by
  unfold az;rw[bF];cases hx:p x
  .simp only[d4,if_false,jQ];exact f7 p r (i+1)
  .simp
theorem be{a b c:Int}(h0:0<=c)(h:c<=ar)(e:a+b=c):IntKind.i64.wrap (a+b)=c:=by rw[e];exact cI h0 h
theorem dZ{α:Type}{l done r:List α}{x}(h:l=done++x::r):l[done.length]?=some x/\((done.length:Int)<(l.length:Int)):=by
 subst h;refine⟨by simp,by simp;omega⟩
theorem Hd{fv}(l)(p)(b)(sz)(hsz:sz=1)(hl:l.length<1000000000)(hf:∀x,x∈l->jo TP fv [aG x] (.bool (p x))) :
  af TP 155 [.slice sz (l.map aG) b,fv] (.int .i64 (az p l 0)):=by
 subst hsz;refine aa (ah Tryz.func155 rfl (by kernel_rfl)) rfl ?_;simp only[go_sem,simprocAttr];refine ei [0,1,7] l hl (τ:=Unit) (λdone rest _=>az p l 0=az p rest done.length) (λdone _=>[(8,.p (.int .i64 done.length))]) () rfl ?_ ?_ ?_
 .simp only[go_sem,simprocAttr]<;>simp
 .intro _ e2;simp only[go_sem,simprocAttr];rw[e2];rfl
 .intro done x r _ e1 e2 hx hlt hnx;obtain⟨g,first,cap,rfl,hc⟩:=hf x (by rw[e1];simp);simp only[hlt,decide_true,hx,aG,go_sem,simprocAttr];refine ae hc (by simp[aG]) ?_;simp only[go_sem,simprocAttr];refine aR (λhb=>?_) (λhb=>?_)
  .simp only[go_sem,simprocAttr];rw[e2];simp[az,hb]
  .simp only[go_sem,simprocAttr];refine aE e1 () (by rw[e2];simp[az,hb]) ?_;simp only[hnx,go_sem,simprocAttr]
theorem jF{fv}(l:List Int)(p)(b)(sz)(hsz:sz=1)(hl:l.length<1000000000)(hf:∀x,x∈l->jo TP fv [aG x] (.bool (p x))) :
  af TP 103 [.slice sz (l.map aG) b,fv] (.bool (l.any p)):=by
 refine aa (ah Tryz.func103 rfl (by kernel_rfl)) rfl ?_;simp only[go_sem,simprocAttr];refine ae (Hd l p b sz hsz hl hf) rfl ?_;simp only[go_sem,simprocAttr];rw[f7]
theorem Hc{fv}(l)(p)(b)(sz)(hsz:sz=2)(hl:l.length<1000000000)(hf:∀x,x∈l->jo TP fv [Span.pv x] (.bool (p x))) :
  af TP 240 [.slice sz (l.map Span.pv) b,fv] (.int .i64 (az p l 0)):=by
 subst hsz;refine aa (ah Tryz.func240 rfl (by kernel_rfl)) rfl ?_;simp only[go_sem,simprocAttr];refine ei [0,1,7] l hl (τ:=Unit) (λdone rest _=>az p l 0=az p rest done.length) (λdone _=>[(8,.p (.int .i64 done.length))]) () rfl ?_ ?_ ?_
 .simp only[go_sem,simprocAttr]<;>simp
 .intro _ e2;simp only[go_sem,simprocAttr];rw[e2];rfl
 .intro done x r _ e1 e2 hx hlt hnx;obtain⟨g,first,cap,rfl,hc⟩:=hf x (by rw[e1];simp);simp only[hlt,decide_true,hx,Span.pv,go_sem,simprocAttr];refine ae hc (by simp[Span.pv]) ?_;simp only[go_sem,simprocAttr];refine aR (λhb=>?_) (λhb=>?_)
  .simp only[go_sem,simprocAttr];rw[e2];simp[az,hb]
  .simp only[go_sem,simprocAttr];refine aE e1 () (by rw[e2];simp[az,hb]) ?_;simp only[hnx,go_sem,simprocAttr]
theorem n8{fv}(l:List Span)(p)(b)(sz)(hsz:sz=2)(hl:l.length<1000000000)(hf:∀x,x∈l->jo TP fv [Span.pv x] (.bool (p x))) :
  af TP 176 [.slice sz (l.map Span.pv) b,fv] (.bool (l.any p)):=by
 refine aa (ah Tryz.func176 rfl (by kernel_rfl)) rfl ?_;simp only[go_sem,simprocAttr];refine ae (Hc l p b sz hsz hl hf) rfl ?_;simp only[go_sem,simprocAttr];rw[f7]
theorem Hb{fv}(l)(p)(b)(sz)(hsz:sz=7)(hl:l.length<1000000000)(hf:∀x,x∈l->jo TP fv [BdWax.pv x] (.bool (p x))) :
  af TP 242 [.slice sz (l.map BdWax.pv) b,fv] (.int .i64 (az p l 0)):=by
 subst hsz;refine aa (ah Tryz.func242 rfl (by kernel_rfl)) rfl ?_;simp only[go_sem,simprocAttr];refine ei [0,1,7] l hl (τ:=Unit) (λdone rest _=>az p l 0=az p rest done.length) (λdone _=>[(8,.p (.int .i64 done.length))]) () rfl ?_ ?_ ?_
 .simp only[go_sem,simprocAttr]<;>simp
 .intro _ e2;simp only[go_sem,simprocAttr];rw[e2];rfl
 .intro done x r _ e1 e2 hx hlt hnx;obtain⟨g,first,cap,rfl,hc⟩:=hf x (by rw[e1];simp);simp only[hlt,decide_true,hx,BdWax.pv,go_sem,simprocAttr];refine ae hc (by simp[BdWax.pv]) ?_;simp only[go_sem,simprocAttr];refine aR (λhb=>?_) (λhb=>?_)
  .simp only[go_sem,simprocAttr];rw[e2];simp[az,hb]
  .simp only[go_sem,simprocAttr];refine aE e1 () (by rw[e2];simp[az,hb]) ?_;simp only[hnx,go_sem,simprocAttr]
theorem BD{fv}(l:List BdWax)(p)(b)(sz)(hsz:sz=7)(hl:l.length<1000000000)(hf:∀x,x∈l->jo TP fv [BdWax.pv x] (.bool (p x))) :
  af TP 180 [.slice sz (l.map BdWax.pv) b,fv] (.bool (l.any p)):=by
 refine aa (ah Tryz.func180 rfl (by kernel_rfl)) rfl ?_;simp only[go_sem,simprocAttr];refine ae (Hb l p b sz hsz hl hf) rfl ?_;simp only[go_sem,simprocAttr];rw[f7]
theorem oH{fv}(l)(p)(b)(sz)(hsz:sz=4)(hl:l.length<1000000000)(hf:∀x,x∈l->jo TP fv [HrKind.pv x] (.bool (p x))) :
  af TP 80 [.slice sz (l.map HrKind.pv) b,fv] (.int .i64 (az p l 0)):=by
 subst hsz;refine aa (ah Tryz.func80 rfl (by kernel_rfl)) rfl ?_;simp only[go_sem,simprocAttr];refine ei [0,1,7] l hl (τ:=Unit) (λdone rest _=>az p l 0=az p rest done.length) (λdone _=>[(8,.p (.int .i64 done.length))]) () rfl ?_ ?_ ?_
 .simp only[go_sem,simprocAttr]<;>simp
 .intro _ e2;simp only[go_sem,simprocAttr];rw[e2];rfl
 .intro done x r _ e1 e2 hx hlt hnx;obtain⟨g,first,cap,rfl,hc⟩:=hf x (by rw[e1];simp);simp only[hlt,decide_true,hx,HrKind.pv,go_sem,simprocAttr];refine ae hc (by simp[HrKind.pv]) ?_;simp only[go_sem,simprocAttr];refine aR (λhb=>?_) (λhb=>?_)
  .simp only[go_sem,simprocAttr];rw[e2];simp[az,hb]
  .simp only[go_sem,simprocAttr];refine aE e1 () (by rw[e2];simp[az,hb]) ?_;simp only[hnx,go_sem,simprocAttr]
theorem BC{fv}(l:List HrKind)(p)(b)(sz)(hsz:sz=4)(hl:l.length<1000000000)(hf:∀x,x∈l->jo TP fv [HrKind.pv x] (.bool (p x))) :
  af TP 167 [.slice sz (l.map HrKind.pv) b,fv] (.bool (l.any p)):=by
 refine aa (ah Tryz.func167 rfl (by kernel_rfl)) rfl ?_;simp only[go_sem,simprocAttr];refine ae (oH l p b sz hsz hl hf) rfl ?_;simp only[go_sem,simprocAttr];rw[f7]
theorem Ha{fv}(l)(p)(b)(sz)(hsz:sz=5)(hl:l.length<1000000000)(hf:∀x,x∈l->jo TP fv [HrRule.pv x] (.bool (p x))) :
  af TP 234 [.slice sz (l.map HrRule.pv) b,fv] (.int .i64 (az p l 0)):=by
 subst hsz;refine aa (ah Tryz.func234 rfl (by kernel_rfl)) rfl ?_;simp only[go_sem,simprocAttr];refine ei [0,1,7] l hl (τ:=Unit) (λdone rest _=>az p l 0=az p rest done.length) (λdone _=>[(8,.p (.int .i64 done.length))]) () rfl ?_ ?_ ?_
 .simp only[go_sem,simprocAttr]<;>simp
 .intro _ e2;simp only[go_sem,simprocAttr];rw[e2];rfl
 .intro done x r _ e1 e2 hx hlt hnx;obtain⟨g,first,cap,rfl,hc⟩:=hf x (by rw[e1];simp);simp only[hlt,decide_true,hx,HrRule.pv,go_sem,simprocAttr];refine ae hc (by simp[HrRule.pv]) ?_;simp only[go_sem,simprocAttr];refine aR (λhb=>?_) (λhb=>?_)
  .simp only[go_sem,simprocAttr];rw[e2];simp[az,hb]
  .simp only[go_sem,simprocAttr];refine aE e1 () (by rw[e2];simp[az,hb]) ?_;simp only[hnx,go_sem,simprocAttr]
theorem BB{fv}(l:List HrRule)(p)(b)(sz)(hsz:sz=5)(hl:l.length<1000000000)(hf:∀x,x∈l->jo TP fv [HrRule.pv x] (.bool (p x))) :
  af TP 169 [.slice sz (l.map HrRule.pv) b,fv] (.bool (l.any p)):=by
 refine aa (ah Tryz.func169 rfl (by kernel_rfl)) rfl ?_;simp only[go_sem,simprocAttr];refine ae (Ha l p b sz hsz hl hf) rfl ?_;simp only[go_sem,simprocAttr];rw[f7]
theorem G'{fv}(l)(p)(b)(sz)(hsz:sz=4)(hl:l.length<1000000000)(hf:∀x,x∈l->jo TP fv [Wick.pv x] (.bool (p x))) :
  af TP 287 [.slice sz (l.map Wick.pv) b,fv] (.int .i64 (az p l 0)):=by
 subst hsz;refine aa (ah Tryz.func287 rfl (by kernel_rfl)) rfl ?_;simp only[go_sem,simprocAttr];refine ei [0,1,7] l hl (τ:=Unit) (λdone rest _=>az p l 0=az p rest done.length) (λdone _=>[(8,.p (.int .i64 done.length))]) () rfl ?_ ?_ ?_
 .simp only[go_sem,simprocAttr]<;>simp
 .intro _ e2;simp only[go_sem,simprocAttr];rw[e2];rfl
 .intro done x r _ e1 e2 hx hlt hnx;obtain⟨g,first,cap,rfl,hc⟩:=hf x (by rw[e1];simp);simp only[hlt,decide_true,hx,Wick.pv,go_sem,simprocAttr];refine ae hc (by simp[Wick.pv]) ?_;simp only[go_sem,simprocAttr];refine aR (λhb=>?_) (λhb=>?_)
  .simp only[go_sem,simprocAttr];rw[e2];simp[az,hb]
  .simp only[go_sem,simprocAttr];refine aE e1 () (by rw[e2];simp[az,hb]) ?_;simp only[hnx,go_sem,simprocAttr]
theorem BA{fv}(l:List Wick)(p)(b)(sz)(hsz:sz=4)(hl:l.length<1000000000)(hf:∀x,x∈l->jo TP fv [Wick.pv x] (.bool (p x))) :
  af TP 245 [.slice sz (l.map Wick.pv) b,fv] (.bool (l.any p)):=by
 refine aa (ah Tryz.func245 rfl (by kernel_rfl)) rfl ?_;simp only[go_sem,simprocAttr];refine ae (G' l p b sz hsz hl hf) rfl ?_;simp only[go_sem,simprocAttr];rw[f7]
theorem sy{fv}(l)(p)(b)(sz)(hsz:sz=8)(hl:l.length<1000000000)(hf:∀x,x∈l->jo TP fv [Wax.pv x] (.bool (p x))) :
  af TP 264 [.slice sz (l.map Wax.pv) b,fv] (.int .i64 (az p l 0)):=by
 subst hsz;refine aa (ah Tryz.func264 rfl (by kernel_rfl)) rfl ?_;simp only[go_sem,simprocAttr];refine ei [0,1,7] l hl (τ:=Unit) (λdone rest _=>az p l 0=az p rest done.length) (λdone _=>[(8,.p (.int .i64 done.length))]) () rfl ?_ ?_ ?_
 .simp only[go_sem,simprocAttr]<;>simp
 .intro _ e2;simp only[go_sem,simprocAttr];rw[e2];rfl
 .intro done x r _ e1 e2 hx hlt hnx;obtain⟨g,first,cap,rfl,hc⟩:=hf x (by rw[e1];simp);simp only[hlt,decide_true,hx,Wax.pv,go_sem,simprocAttr];refine ae hc (by simp[Wax.pv]) ?_;simp only[go_sem,simprocAttr];refine aR (λhb=>?_) (λhb=>?_)
  .simp only[go_sem,simprocAttr];rw[e2];simp[az,hb]
  .simp only[go_sem,simprocAttr];refine aE e1 () (by rw[e2];simp[az,hb]) ?_;simp only[hnx,go_sem,simprocAttr]
theorem Bz{fv}(l:List Wax)(p)(b)(sz)(hsz:sz=8)(hl:l.length<1000000000)(hf:∀x,x∈l->jo TP fv [Wax.pv x] (.bool (p x))) :
  af TP 247 [.slice sz (l.map Wax.pv) b,fv] (.bool (l.any p)):=by
 refine aa (ah Tryz.func247 rfl (by kernel_rfl)) rfl ?_;simp only[go_sem,simprocAttr];refine ae (sy l p b sz hsz hl hf) rfl ?_;simp only[go_sem,simprocAttr];rw[f7]
theorem G9{fv}(l)(p)(b)(sz)(hsz:sz=2)(hl:l.length<1000000000)(hf:∀x,x∈l->jo TP fv [WxProp.pv x] (.bool (p x))) :
  af TP 286 [.slice sz (l.map WxProp.pv) b,fv] (.int .i64 (az p l 0)):=by
 subst hsz;refine aa (ah Tryz.func286 rfl (by kernel_rfl)) rfl ?_;simp only[go_sem,simprocAttr];refine ei [0,1,7] l hl (τ:=Unit) (λdone rest _=>az p l 0=az p rest done.length) (λdone _=>[(8,.p (.int .i64 done.length))]) () rfl ?_ ?_ ?_
 .simp only[go_sem,simprocAttr]<;>simp
 .intro _ e2;simp only[go_sem,simprocAttr];rw[e2];rfl
 .intro done x r _ e1 e2 hx hlt hnx;obtain⟨g,first,cap,rfl,hc⟩:=hf x (by rw[e1];simp);simp only[hlt,decide_true,hx,WxProp.pv,go_sem,simprocAttr];refine ae hc (by simp[WxProp.pv]) ?_;simp only[go_sem,simprocAttr];refine aR (λhb=>?_) (λhb=>?_)
  .simp only[go_sem,simprocAttr];rw[e2];simp[az,hb]
  .simp only[go_sem,simprocAttr];refine aE e1 () (by rw[e2];simp[az,hb]) ?_;simp only[hnx,go_sem,simprocAttr]
theorem By{fv}(l:List WxProp)(p)(b)(sz)(hsz:sz=2)(hl:l.length<1000000000)(hf:∀x,x∈l->jo TP fv [WxProp.pv x] (.bool (p x))) :
  af TP 236 [.slice sz (l.map WxProp.pv) b,fv] (.bool (l.any p)):=by
 refine aa (ah Tryz.func236 rfl (by kernel_rfl)) rfl ?_;simp only[go_sem,simprocAttr];refine ae (G9 l p b sz hsz hl hf) rfl ?_;simp only[go_sem,simprocAttr];rw[f7]
theorem sx{fv}(l)(p)(b)(sz)(hsz:sz=2)(hl:l.length<1000000000)(hf:∀x,x∈l->jo TP fv [WxKind.pv x] (.bool (p x))) :
  af TP 253 [.slice sz (l.map WxKind.pv) b,fv] (.int .i64 (az p l 0)):=by
 subst hsz;refine aa (ah Tryz.func253 rfl (by kernel_rfl)) rfl ?_;simp only[go_sem,simprocAttr];refine ei [0,1,7] l hl (τ:=Unit) (λdone rest _=>az p l 0=az p rest done.length) (λdone _=>[(8,.p (.int .i64 done.length))]) () rfl ?_ ?_ ?_
 .simp only[go_sem,simprocAttr]<;>simp
 .intro _ e2;simp only[go_sem,simprocAttr];rw[e2];rfl
 .intro done x r _ e1 e2 hx hlt hnx;obtain⟨g,first,cap,rfl,hc⟩:=hf x (by rw[e1];simp);simp only[hlt,decide_true,hx,WxKind.pv,go_sem,simprocAttr];refine ae hc (by simp[WxKind.pv]) ?_;simp only[go_sem,simprocAttr];refine aR (λhb=>?_) (λhb=>?_)
  .simp only[go_sem,simprocAttr];rw[e2];simp[az,hb]
  .simp only[go_sem,simprocAttr];refine aE e1 () (by rw[e2];simp[az,hb]) ?_;simp only[hnx,go_sem,simprocAttr]
theorem Bw{fv}(l:List WxKind)(p)(b)(sz)(hsz:sz=2)(hl:l.length<1000000000)(hf:∀x,x∈l->jo TP fv [WxKind.pv x] (.bool (p x))) :
  af TP 238 [.slice sz (l.map WxKind.pv) b,fv] (.bool (l.any p)):=by
 refine aa (ah Tryz.func238 rfl (by kernel_rfl)) rfl ?_;simp only[go_sem,simprocAttr];refine ae (sx l p b sz hsz hl hf) rfl ?_;simp only[go_sem,simprocAttr];rw[f7]
theorem lW{fv}(l)(p)(b)(sz)(hsz:sz=4)(hl:l.length<1000000000)(hf:∀x,x∈l->jo TP fv [ClColour.pv x] (.bool (p x))) :
  af TP 250 [.slice sz (l.map ClColour.pv) b,fv] (.int .i64 (az p l 0)):=by
 subst hsz;refine aa (ah Tryz.func250 rfl (by kernel_rfl)) rfl ?_;simp only[go_sem,simprocAttr];refine ei [0,1,7] l hl (τ:=Unit) (λdone rest _=>az p l 0=az p rest done.length) (λdone _=>[(8,.p (.int .i64 done.length))]) () rfl ?_ ?_ ?_
 .simp only[go_sem,simprocAttr]<;>simp
 .intro _ e2;simp only[go_sem,simprocAttr];rw[e2];rfl
 .intro done x r _ e1 e2 hx hlt hnx;obtain⟨g,first,cap,rfl,hc⟩:=hf x (by rw[e1];simp);simp only[hlt,decide_true,hx,ClColour.pv,go_sem,simprocAttr];refine ae hc (by simp[ClColour.pv]) ?_;simp only[go_sem,simprocAttr];refine aR (λhb=>?_) (λhb=>?_)
  .simp only[go_sem,simprocAttr];rw[e2];simp[az,hb]
  .simp only[go_sem,simprocAttr];refine aE e1 () (by rw[e2];simp[az,hb]) ?_;simp only[hnx,go_sem,simprocAttr]
theorem Bv{fv}(l:List ClColour)(p)(b)(sz)(hsz:sz=4)(hl:l.length<1000000000)(hf:∀x,x∈l->jo TP fv [ClColour.pv x] (.bool (p x))) :
  af TP 192 [.slice sz (l.map ClColour.pv) b,fv] (.bool (l.any p)):=by
 refine aa (ah Tryz.func192 rfl (by kernel_rfl)) rfl ?_;simp only[go_sem,simprocAttr];refine ae (lW l p b sz hsz hl hf) rfl ?_;simp only[go_sem,simprocAttr];rw[f7]
theorem ri{fv}(l)(p)(b)(sz)(hsz:sz=4)(hl:l.length<1000000000)(hf:∀x,x∈l->jo TP fv [ChLot.pv x] (.bool (p x))) :
  af TP 252 [.slice sz (l.map ChLot.pv) b,fv] (.int .i64 (az p l 0)):=by
 subst hsz;refine aa (ah Tryz.func252 rfl (by kernel_rfl)) rfl ?_;simp only[go_sem,simprocAttr];refine ei [0,1,7] l hl (τ:=Unit) (λdone rest _=>az p l 0=az p rest done.length) (λdone _=>[(8,.p (.int .i64 done.length))]) () rfl ?_ ?_ ?_
 .simp only[go_sem,simprocAttr]<;>simp
 .intro _ e2;simp only[go_sem,simprocAttr];rw[e2];rfl
 .intro done x r _ e1 e2 hx hlt hnx;obtain⟨g,first,cap,rfl,hc⟩:=hf x (by rw[e1];simp);simp only[hlt,decide_true,hx,ChLot.pv,go_sem,simprocAttr];refine ae hc (by simp[ChLot.pv]) ?_;simp only[go_sem,simprocAttr];refine aR (λhb=>?_) (λhb=>?_)
  .simp only[go_sem,simprocAttr];rw[e2];simp[az,hb]
  .simp only[go_sem,simprocAttr];refine aE e1 () (by rw[e2];simp[az,hb]) ?_;simp only[hnx,go_sem,simprocAttr]
theorem Ar{fv}(l:List ChLot)(p)(b)(sz)(hsz:sz=4)(hl:l.length<1000000000)(hf:∀x,x∈l->jo TP fv [ChLot.pv x] (.bool (p x))) :
  af TP 195 [.slice sz (l.map ChLot.pv) b,fv] (.bool (l.any p)):=by
 refine aa (ah Tryz.func195 rfl (by kernel_rfl)) rfl ?_;simp only[go_sem,simprocAttr];refine ae (ri l p b sz hsz hl hf) rfl ?_;simp only[go_sem,simprocAttr];rw[f7]
theorem rh{fv}(l)(p)(b)(sz)(hsz:sz=4)(hl:l.length<1000000000)(hf:∀x,x∈l->jo TP fv [ChBatch.pv x] (.bool (p x))) :
  af TP 257 [.slice sz (l.map ChBatch.pv) b,fv] (.int .i64 (az p l 0)):=by
 subst hsz;refine aa (ah Tryz.func257 rfl (by kernel_rfl)) rfl ?_;simp only[go_sem,simprocAttr];refine ei [0,1,7] l hl (τ:=Unit) (λdone rest _=>az p l 0=az p rest done.length) (λdone _=>[(8,.p (.int .i64 done.length))]) () rfl ?_ ?_ ?_
 .simp only[go_sem,simprocAttr]<;>simp
 .intro _ e2;simp only[go_sem,simprocAttr];rw[e2];rfl
 .intro done x r _ e1 e2 hx hlt hnx;obtain⟨g,first,cap,rfl,hc⟩:=hf x (by rw[e1];simp);simp only[hlt,decide_true,hx,ChBatch.pv,go_sem,simprocAttr];refine ae hc (by simp[ChBatch.pv]) ?_;simp only[go_sem,simprocAttr];refine aR (λhb=>?_) (λhb=>?_)
  .simp only[go_sem,simprocAttr];rw[e2];simp[az,hb]
  .simp only[go_sem,simprocAttr];refine aE e1 () (by rw[e2];simp[az,hb]) ?_;simp only[hnx,go_sem,simprocAttr]
theorem Aq{fv}(l:List ChBatch)(p)(b)(sz)(hsz:sz=4)(hl:l.length<1000000000)(hf:∀x,x∈l->jo TP fv [ChBatch.pv x] (.bool (p x))) :
  af TP 200 [.slice sz (l.map ChBatch.pv) b,fv] (.bool (l.any p)):=by
 refine aa (ah Tryz.func200 rfl (by kernel_rfl)) rfl ?_;simp only[go_sem,simprocAttr];refine ae (rh l p b sz hsz hl hf) rfl ?_;simp only[go_sem,simprocAttr];rw[f7]
theorem Lq(l)(b)(hl:l≠[])(hlen:l.length<1000000000):gZ TP 274 [.slice 1 (l.map aG) b] (.slice 1 (l.map aG) false):=by
 refine fO (ah Tryz.func274 rfl (by kernel_rfl)) rfl ?_;have h1:¬(l.map aG=[]):=by simpa using hl
 have h2:l.length<=ar:=by simp[ar];omega
 have h3:¬((l.map aG).map AV.p=[]):=by simpa using hl
 simp only[h1,h2,h3,go_sem,simprocAttr]
theorem NI(a b:Nat)(h:a+b<1000000000):IntKind.i64.wrap (Int.fdiv (IntKind.u64.wrap ((a)+(b))) 2)=(((a+b) / 2:Nat):Int):=by
 have e:IntKind.u64.wrap ((a:Int)+(b:Int))=((a+b:Nat):Int):=by
  unfold IntKind.wrap IntKind.signed IntKind.bits;simp;omega
 rw[e];have e2:Int.fdiv ((a+b:Nat):Int) 2=(((a+b) / 2:Nat):Int):=by
  rw[Int.fdiv_eq_ediv_of_nonneg _ (by omega)];omega
 rw[e2];exact cI (by omega) (by simp[ar];omega)
theorem RE{fv}(n:Nat)(p:Nat->Bool)(hn:n<100000000)(hf:∀i,i<n->jo TP fv [.int .i64 i] (.bool (p i)))(r)(hr:r<=n)(h1:∀i,i<r->p i=false)(h2:∀i,r<=i->i<n->p i=true) :
  af TP 337 [.int .i64 n,fv] (.int .i64 r):=by
 refine aa (ah Tryz.func337 rfl (by kernel_rfl)) rfl ?_;simp only[go_sem,simprocAttr];refine BJ [1] (σ:=Nat×Nat) (λs=>s.1<=r/\r<=s.2/\s.2<=n) (λs=>s.2-s.1) (λs=>[(5,.p (.int .i64 s.1)),(6,.p (.int .i64 s.2))]) (0,n) ⟨by omega,hr,by omega⟩ ?_ ?_
 .simp only[go_sem,simprocAttr]
 .rintro⟨i,j⟩ ⟨g1,g2,g3⟩
  dsimp only at g1 g2 g3;simp only[go_sem,simprocAttr];refine aR (λhb=>?_) (λhb=>?_)
  .have hij:i<j:=by simpa using hb
   have hw:IntKind.i64.wrap ((i:Int)+(j:Int))=((i:Int)+(j:Int)):=cI (by omega) (by simp[ar];omega);have hh:=NI i j (by omega);have hp2:(2:Int)^min 1 64=2:=rfl;obtain⟨g,first,cap,rfl,hc⟩:=hf ((i+j) / 2) (by omega);simp only[hw,fg,IntKind.bits,hp2,hh,go_sem,simprocAttr];refine ae hc (by simp) ?_;simp only[go_sem,simprocAttr];cases hpv:p ((i+j) / 2)
   .simp only[go_sem,simprocAttr];have hlt:¬(r<=(i+j) / 2):=λh=>by rw[h2 _ h (by omega)]at hpv;cases hpv
    refine bY ((i+j) / 2+1,j) ⟨by omega,g2,g3⟩ (by dsimp only;omega) ?_;have hnx:IntKind.i64.wrap ((((i+j) / 2:Nat):Int)+1)=(((i+j) / 2+1:Nat):Int):=be (by omega) (by simp[ar];omega) (by omega);simp only[hnx,go_sem,simprocAttr]
   .simp only[go_sem,simprocAttr];have hlt:r<=(i+j) / 2:=by
     rcases dg ((i+j) / 2) r with h|h
     .rw[h1 _ h]at hpv;cases hpv
     .exact h
    refine bY (i,(i+j) / 2) ⟨g1,hlt,by omega⟩ (by dsimp only;omega) ?_;simp only[go_sem,simprocAttr]
  .have hij:¬(i<j):=by simpa using hb
   have:i=r:=by omega
   subst this;simp only[go_sem,simprocAttr]
def al (n lo hi:Int):Bool:=decide (lo<=n)&&decide (n<=hi)
theorem yM(n lo hi):af TP 51 [.int .i64 n,.int .i64 lo,.int .i64 hi] (.bool (al n lo hi)):=by
 refine aa (ah Tryz.func51 rfl (by kernel_rfl)) rfl ?_;simp only[go_sem,simprocAttr];refine aR (λhb=>?_) (λhb=>?_)<;>simp only[hb,go_sem,simprocAttr]<;>simp[al,hb]
theorem Bu(n lo hi):af TP 54 [.int .i64 n,.int .i64 lo,.int .i64 hi] (.bool (al n lo hi)):=by
 refine aa (ah Tryz.func54 rfl (by kernel_rfl)) rfl ?_;simp only[go_sem,simprocAttr];refine aR (λhb=>?_) (λhb=>?_)<;>simp only[hb,go_sem,simprocAttr]<;>simp[al,hb]
theorem J3(n lo hi):af TP 57 [.int .i64 n,.int .i64 lo,.int .i64 hi] (.bool (al n lo hi)):=by
 refine aa (ah Tryz.func57 rfl (by kernel_rfl)) rfl ?_;simp only[go_sem,simprocAttr];refine aR (λhb=>?_) (λhb=>?_)<;>simp only[hb,go_sem,simprocAttr]<;>simp[al,hb]
theorem wa(n lo hi):af TP 60 [.int .i64 n,.int .i64 lo,.int .i64 hi] (.bool (al n lo hi)):=by
 refine aa (ah Tryz.func60 rfl (by kernel_rfl)) rfl ?_;simp only[go_sem,simprocAttr];refine aR (λhb=>?_) (λhb=>?_)<;>simp only[hb,go_sem,simprocAttr]<;>simp[al,hb]
def dj (lo hi low high:Int):Int:=if al lo low high=true/\al hi low high=true then(if hi<lo then 2 else 0) else 7
theorem oF(lo hi low high):af TP 59 [.agg [.int .i64 lo,.int .i64 hi],.int .i64 low,.int .i64 high] (.int .i64 (dj lo hi low high)):=by
 refine aa (ah Tryz.func59 rfl (by kernel_rfl)) rfl ?_;simp only[go_sem,simprocAttr]
 repeat' first
  |(refine ae (yM _ _ _) rfl ?_;simp only[go_sem,simprocAttr])
  |(refine aR (λhb=>?_) (λhb=>?_)<;>simp only[hb,go_sem,simprocAttr])
 all_goals simp_all [dj]
def pJ (c last:Int):Bool:=(c != 45&&(decide (c<97)||decide (122<c)))||(c==45&&last==45)
def dp:List UInt8->Int->Bool
 |[],last=>last != 45
 |c::r,last=>if pJ c.toNat last=true then false else dp r c.toNat
def nameOk (s:ByteArray):Bool:=dp s.data.toList 45&&decide ((s.size:Int)<=20)
theorem rj(s:ByteArray)(i:Nat):s[i]?=s.data.toList[i]?:=by
 by_cases h:i<s.size
 .have h':i<s.data.toList.length:=by simpa using h
  rw[getElem?_pos s i h,bA h'];simp[ByteArray.getElem_eq_getElem_data]
 .rw[getElem?_neg s i h,wz];simpa using Nf h
attribute [go_sem] rj
theorem jn(s):af TP 132 [.str s] (.bool (nameOk s)):=by
 refine aa (ah Tryz.func132 rfl (by kernel_rfl)) rfl ?_;simp only[go_sem,simprocAttr]
 refine fp [0,7] (σ:=List UInt8×List UInt8×Int) (λq=>s.data.toList=q.1++q.2.1/\dp s.data.toList 45=dp q.2.1 q.2.2) (λq=>q.2.1.length)
  (λq=>[(3,.p (.int .i32 q.2.2))]) (λq=>[.strIter s q.1.length]) ([],s.data.toList,45) ⟨rfl,rfl⟩ ?_ ?_
 .simp only[go_sem,simprocAttr]
 .rintro⟨done,rest,last⟩ ⟨e1,e2⟩
  dsimp only at e1 e2
  cases rest with
  |nil=>
   have hlt:¬(done.length<s.size):=by
    have:=congrArg List.length e1;simp at this |-;omega
   simp only[hlt,go_sem,simprocAttr];refine aR (λhb=>?_) (λhb=>?_)<;>simp only[hb,go_sem,simprocAttr]
   .simp[nameOk,e2,dp,hb]
   .simp[nameOk,e2,dp,hb]
  |cons c r=>
   obtain⟨hx,_⟩:=dZ e1;have hlt:done.length<s.size:=by
    have:=congrArg List.length e1;simp at this |-;omega
   have hc:(s[done.length]'hlt)=c:=by
    have:=rj s done.length;rw[hx,getElem?_pos s done.length hlt]at this;exact lY this
   rcases dg c.toNat 128 with hlow|hhigh
   .have hd:Utf8.decode s done.length=(c.toNat,1):=by
     rw[decode_ascii s done.length hlt (by rw[hc];exact hlow),hc]
    simp only[hlt,hd,go_sem,simprocAttr]
    repeat' first
     |(refine aR (λhb=>?_) (λhb=>?_)<;>simp only[hb,go_sem,simprocAttr])
    all_goals first
     |(refine bY (done++[c],r,(c.toNat:Int)) ⟨by simp[e1],?_⟩ (by simp) ?_
       .rw[e2];simp_all [dp,pJ]
       .simp only[go_sem,simprocAttr];simp)
     |(simp only[nameOk,e2];simp_all [dp,pJ];done)
   .have hd:=decode_high s done.length hlt (by rw[hc];exact hhigh);have h1:(((Utf8.decode s done.length).1:Int) != 45)=true:=by simp;omega
    have h2:decide (((Utf8.decode s done.length).1:Int)<97)=false:=by simp;omega
    have h3:decide ((122:Int)<((Utf8.decode s done.length).1:Int))=true:=by simp;omega
    simp only[hlt,h1,h2,h3,go_sem,simprocAttr];have hbad:pJ c.toNat last=true:=by
     have g1:((c.toNat:Int) != 45)=true:=by simp;omega
     have g3:decide ((122:Int)<(c.toNat:Int))=true:=by simp;omega
     simp[pJ,g1,g3]
    simp[nameOk,e2,dp,hbad]
theorem BE(c last):pJ c last=((c != 45&&!al c 97 122)||(c==45&&last==45)):=by
 have:(!al c 97 122)=(decide (c<97)||decide (122<c)):=by
  unfold al;rw[iD]
  congr 1
  .rw[<-decide_not];congr 1;simp
  .rw[<-decide_not];congr 1;simp
 rw[pJ,this]
def oC (l:List UInt8):Int:=match l.getLast? with|some c=>(c.toNat:Int)|none=>45
theorem zP(l)(c):oC (l++[c])=(c.toNat:Int):=by simp[oC]
theorem Qj(c:UInt8):IntKind.i64.wrap (c.toNat:Int)=(c.toNat:Int):=cI (by omega) (by have:=c.toNat_lt;simp[ar];omega)
theorem OT(s):af TP 99 [.str s] (.bool (nameOk s)):=by
 refine aa (ah Tryz.func99 rfl (by kernel_rfl)) rfl ?_;simp only[go_sem,simprocAttr];refine ae (yM _ _ _) rfl ?_;cases hr:al s.size 1 20
 .simp only[go_sem,simprocAttr];have:nameOk s=false:=by
   unfold nameOk
   cases hb:s.data.toList with
   |nil=>simp[dp]
   |cons b bs=>
    have:1<=s.size:=by have:=congrArg List.length hb;simp at this;omega
    have h2:¬((s.size:Int)<=20):=by
     intro h;have h1:(1:Int)<=(s.size:Int):=by omega
     simp[al,h,h1]at hr
    simp[h2]
  rw[this]
 .have hr':(1:Int)<=(s.size:Int)/\(s.size:Int)<=20:=by simpa[al]using hr
  have hlen:s.data.toList.length=s.size:=by simp
  obtain⟨b0,h0⟩:∃b,s.data.toList[0]?=some b:=⟨_,bA (by omega)⟩
  obtain⟨bl,hl⟩:∃b,s.data.toList[s.size-1]?=some b:=⟨_,bA (by omega)⟩
  have hgl:s.data.toList.getLast?=some bl:=by rw[List.getLast?_eq_getElem?,hlen];exact hl
  have hw:IntKind.i64.wrap ((s.size:Int)-1)=((s.size-1:Nat):Int):=by
   rw[cI (by omega) (by simp[ar];omega)];omega
  have hlt1:(((s.size-1:Nat):Int))<(s.size:Int):=by omega
  have hsz:nameOk s=dp s.data.toList 45:=by unfold nameOk;simp[hr'.2]
  rw[hsz];simp only[rj,h0,go_sem,simprocAttr];cases hb0:((b0.toNat:Int)==45)
  .simp only[rj,hw,hl,go_sem,simprocAttr];cases hbl:((bl.toNat:Int)==45)
   .simp only[go_sem,simprocAttr]
    refine fp [0] (σ:=List UInt8×List UInt8) (λq=>s.data.toList=q.1++q.2/\dp s.data.toList 45=dp q.2 (oC q.1)) (λq=>q.2.length)
     (λq=>[(3,.p (.int .i64 q.1.length))]) (λ_=>[]) ([],s.data.toList) ⟨rfl,rfl⟩ ?_ ?_
    .simp only[go_sem,simprocAttr]<;>simp
    .rintro⟨done,rest⟩ ⟨e1,e2⟩
     dsimp only at e1 e2
     cases rest with
     |nil=>
      have hlt:¬((done.length:Int)<(s.size:Int)):=by
       have:=congrArg List.length e1;simp at this;omega
      simp only[hlt,decide_false,go_sem,simprocAttr];rw[e2];have:oC done=(bl.toNat:Int):=by
       rw[e1]at hgl;simp at hgl;simp[oC,hgl]
      simp[dp,this,bne,hbl]
     |cons c r=>
      obtain⟨hx,_⟩:=dZ e1;have hlt:(done.length:Int)<(s.size:Int):=by
       have:=congrArg List.length e1;simp at this;omega
      have hnx:IntKind.i64.wrap ((done.length:Int)+1)=(((done++[c]).length:Nat):Int):=be (by omega) (by simp[ar];omega) (by simp);simp only[hlt,decide_true,rj,hx,go_sem,simprocAttr];have back:pJ c.toNat (oC done)=false->dp s.data.toList 45=dp r (oC (done++[c])):=λh=>by
       rw[e2,dp,h,zP];rfl
      have gone:pJ c.toNat (oC done)=true->dp s.data.toList 45=false:=λh=>by
       rw[e2,dp,if_pos h]
      rw[BE]at back gone;have next:pJ c.toNat (oC done)=false->(s.data.toList=(done++[c])++r/\dp s.data.toList 45=dp r (oC (done++[c]))):=λh=>⟨by simp[e1],by rw[BE]at h;exact back h⟩
      rw[BE]at next;cases hc:((c.toNat:Int)==45)
      .have hc':((c.toNat:Int) != 45)=true:=by simp[bne,hc]
       simp only[hc',hx,Qj,go_sem,simprocAttr];refine ae (yM _ _ _) rfl ?_;cases hg:al c.toNat 97 122
       .simp only[go_sem,simprocAttr];rw[gone (by simp[hc',hg])]
       .simp only[go_sem,simprocAttr];refine aR (λhp=>?_) (λhp=>?_)<;>simp only[hp,go_sem,simprocAttr]
        .simp only[hx,hc,go_sem,simprocAttr];refine bY (done++[c],r) (next (by simp[hc,hg])) (by simp) ?_;simp only[hnx,go_sem,simprocAttr]
        .refine bY (done++[c],r) (next (by simp[hc,hg])) (by simp) ?_;simp only[hnx,go_sem,simprocAttr]
      .have hc':((c.toNat:Int) != 45)=false:=by simp[bne,hc]
       simp only[hc',go_sem,simprocAttr];rcases DM done with rfl|⟨pre,d,hpd⟩
       .exfalso;rw[e1]at h0;simp at h0;subst h0;rw[hc]at hb0;cases hb0
       .rw[y0]at hpd;subst hpd;have hp:decide ((0:Int)<(((pre++[d]).length:Nat):Int))=true:=by simp<;>omega
        have hw1:IntKind.i64.wrap ((((pre++[d]).length:Nat):Int)-1)=((pre.length:Nat):Int):=by
         rw[cI (by simp<;>omega) (by simp[ar]at hlt |-;omega)];simp
        have hd:s.data.toList[pre.length]?=some d:=by rw[e1];simp
        simp only[hp,hx,hc,hw1,hd,go_sem,simprocAttr];rw[zP]at back gone next;cases hd45:((d.toNat:Int)==45)
        .simp only[go_sem,simprocAttr];refine bY (pre++[d]++[c],r) (next (by simp[hc,bne,hd45])) (by simp) ?_;simp only[hnx,go_sem,simprocAttr]
        .simp only[go_sem,simprocAttr];rw[gone (by simp[hc,hd45])]
   .simp only[go_sem,simprocAttr];have:∀(l:List UInt8) (p:Int),l.getLast?=some bl->dp l p=false:=by
     intro l
     induction l with
     |nil=>intro p h;cases h
     |cons c r ih=>
      intro p h;unfold dp;split
      .rfl
      .cases r with
       |nil=>
        simp at h;subst h
        simp[dp,bne,hbl]
       |cons c' r'=>exact ih _ (by simpa using h)
    rw[this _ _ hgl]
  .simp only[go_sem,simprocAttr];have:dp s.data.toList 45=false:=by
    cases hbs:s.data.toList with
    |nil=>rw[hbs]at h0;cases h0
    |cons c r=>
     rw[hbs]at h0;simp at h0;subst h0;unfold dp;rw[if_pos];simp[pJ,hb0]
   rw[this]
def firstErr {α:Type} (f:List ByteArray->α->Int) (nm:α->ByteArray):List α->List ByteArray->Option (Int×Int)
 |[],_=>none
 |x::r,before=>if f before x=0 then firstErr f nm r (before++[nm x]) else some ((before.length:Int),f before x)
def aj (t:Int×Int×Int):PV:=.tuple [.int .i64 t.1,.int .i64 t.2.1,.int .i64 t.2.2]
def ak (before:List ByteArray) (s:ByteArray):Int:=if nameOk s=true then(if before.any (λt=>t==s)=true then 5 else 0) else 6
theorem Mr(s)(l)(b)(hl:l.length<1000000000):af TP 52 [.str s,.slice 1 (l.map .str) b] (.int .i64 (ak l s)):=by
 refine aa (ah Tryz.func52 rfl (by kernel_rfl)) rfl ?_;simp only[go_sem,simprocAttr];refine ae (OT s) rfl ?_;simp only[go_sem,simprocAttr];cases hn:nameOk s
 .simp only[go_sem,simprocAttr];simp[ak,hn]
 .simp only[go_sem,simprocAttr];refine BJ [0,1] (σ:=List ByteArray×List ByteArray) (λq=>l=q.1++q.2/\ak l s=(if q.2.any (λt=>t==s)=true then 5 else 0)) (λq=>q.2.length) (λq=>[(5,.p (.int .i64 q.1.length))]) ([],l) ⟨rfl,by simp[ak,hn]⟩ ?_ ?_
  .simp only[go_sem,simprocAttr]<;>simp
  .rintro⟨done,rest⟩ ⟨e1,e2⟩
   dsimp only at e1 e2
   cases rest with
   |nil=>
    have hlt:¬((done.length:Int)<(l.length:Int)):=by rw[e1];simp
    simp only[hlt,decide_false,go_sem,simprocAttr]
    rw[e2];rfl
   |cons x r=>
    obtain⟨hx,hlt⟩:=dZ e1;have hnx:IntKind.i64.wrap ((done.length:Int)+1)=(((done++[x]).length:Nat):Int):=be (by omega) (by simp[ar];omega) (by simp);simp only[hlt,decide_true,hx,go_sem,simprocAttr];rw[bF]at e2;cases hb:(x==s)
    .simp only[go_sem,simprocAttr];refine bY (done++[x],r) ⟨by simp[e1],by rw[e2,hb];rfl⟩ (by simp) ?_;simp only[hnx,go_sem,simprocAttr]
    .simp only[go_sem,simprocAttr];rw[e2,hb];rfl
theorem je(s)(l)(b)(xs)(hx:xs=l.map .str)(hl:l.length<1000000000):af TP 52 [.str s,.slice 1 xs b] (.int .i64 (ak l s)):=by
 subst hx;exact Mr s l b hl
end Abs
end Go.Proofs.YtnjiadikeacfaaaGreatDoor
