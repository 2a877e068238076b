/-
  CONTRACTS OF Go's LIBRARY, as far as a seat's program reaches it: slices.IndexFunc, slices
-/
import Derived.Test.YtfafnkpfamgbbaaGreatDoorAbsCutX
import Derived.Test.YtfafnkpfamgbbaaGreatDoorAbsKill
import Derived.Test.YtfafnkpfamgbbaaGreatDoorSeatTy
set_option linter.unusedSimpArgs false
set_option linter.unusedVariables false
open Go.Proofs.Tryz renaming prog->TP
namespace Go.Proofs.YtfafnkpfamgbbaaGreatDoor
namespace Abs
set_option maxRecDepth 4000
theorem AQ (n) (h):∀ l,aO (bV n h) (l.map .p)=some l
 |[]=>rfl
 |x::r=>by rw [bQ,aO,AQ n h r,dO]
theorem FW:∀ l,fB (l.map .p)=some l
 |[]=>rfl
 |x::r=>by rw [bQ,fB,FW r]
attribute [go_sem] AQ FW
def iN (P:Program) (fv:PV) (xs:List PV) (y:PV):Prop:=∃ (g:FuncId) (first cap:List PV),fv=.func (.func g) first cap/\ah P g (first++xs++cap) y
def au {α:Type} (p:α->Bool):List α->Nat->Int
 |[],_=>-1
 |x::r,i=>if p x=true then (i:Int) else au p r (i+1)
theorem fk {α} (p:α->Bool):∀ (l) (i),decide (0<=au p l i)=l.any p
 |[],i=>by simp [au]
 |x::r,i=>by
  unfold au;rw [bg];cases hx:p x
  .simp only [fa,if_false,jT];exact fk p r (i+1)
  .simp
theorem bI {a b c:Int} (h0:0<=c) (h:c<=aB) (e:a+b=c):IntKind.i64.wrap (a+b)=c:=by rw [e];exact dj h0 h
theorem gC {α:Type} {l done r:List α} {x} (h:l=done++x::r):l[done.length]?=some x/\((done.length:Int)<(l.length:Int)):=by
 subst h;refine ⟨by simp,by simp;omega⟩
theorem Ft {fv} (l) (p) (b) (sz) (hsz:sz=1) (hl:l.length<1000000000) (hf:∀ x,x∈l->iN TP fv [aJ x] (.bool (p x))) :
  ah TP 273 [.slice sz (l.map aJ) b,fv] (.int .i64 (au p l 0)):=by
 subst hsz;refine aa (ai (by kernel_rfl) rfl T6) rfl ?_;simp only [go_sem,simprocAttr];refine dQ [0,1,7] l hl (τ:=Unit) (λdone rest _=>au p l 0=au p rest done.length) (λdone _=>[(8,.p (.int .i64 done.length))]) () rfl ?_ ?_ ?_
 .simp only [go_sem,simprocAttr]<;>simp
 .intro _ e2;simp only [go_sem,simprocAttr];rw [e2];rfl
 .intro done x r _ e1 e2 hx hlt hnx;obtain ⟨g,first,cap,rfl,hc⟩:=hf x (by rw [e1];simp);simp only [hlt,decide_true,hx,aJ,go_sem,simprocAttr];refine ae hc (by simp [aJ]) ?_;simp only [go_sem,simprocAttr];refine aW (λhb=>?_) (λhb=>?_)
  .simp only [go_sem,simprocAttr];rw [e2];simp [au,hb]
  .simp only [go_sem,simprocAttr];refine aL e1 () (by rw [e2];simp [au,hb]) ?_;simp only [hnx,go_sem,simprocAttr]
theorem i6 {fv} (l:List Int) (p) (b) (sz) (hsz:sz=1) (hl:l.length<1000000000) (hf:∀ x,x∈l->iN TP fv [aJ x] (.bool (p x))) :
  ah TP 204 [.slice sz (l.map aJ) b,fv] (.bool (l.any p)):=by
 refine aa (ai (by kernel_rfl) rfl UZ) rfl ?_;simp only [go_sem,simprocAttr];refine ae (Ft l p b sz hsz hl hf) rfl ?_;simp only [go_sem,simprocAttr];rw [fk]
theorem Fs {fv} (l) (p) (b) (sz) (hsz:sz=2) (hl:l.length<1000000000) (hf:∀ x,x∈l->iN TP fv [Span.pv x] (.bool (p x))) :
  ah TP 210 [.slice sz (l.map Span.pv) b,fv] (.int .i64 (au p l 0)):=by
 subst hsz;refine aa (ai (by kernel_rfl) rfl UT) rfl ?_;simp only [go_sem,simprocAttr];refine dQ [0,1,7] l hl (τ:=Unit) (λdone rest _=>au p l 0=au p rest done.length) (λdone _=>[(8,.p (.int .i64 done.length))]) () rfl ?_ ?_ ?_
 .simp only [go_sem,simprocAttr]<;>simp
 .intro _ e2;simp only [go_sem,simprocAttr];rw [e2];rfl
 .intro done x r _ e1 e2 hx hlt hnx;obtain ⟨g,first,cap,rfl,hc⟩:=hf x (by rw [e1];simp);simp only [hlt,decide_true,hx,Span.pv,go_sem,simprocAttr];refine ae hc (by simp [Span.pv]) ?_;simp only [go_sem,simprocAttr];refine aW (λhb=>?_) (λhb=>?_)
  .simp only [go_sem,simprocAttr];rw [e2];simp [au,hb]
  .simp only [go_sem,simprocAttr];refine aL e1 () (by rw [e2];simp [au,hb]) ?_;simp only [hnx,go_sem,simprocAttr]
theorem np {fv} (l:List Span) (p) (b) (sz) (hsz:sz=2) (hl:l.length<1000000000) (hf:∀ x,x∈l->iN TP fv [Span.pv x] (.bool (p x))) :
  ah TP 142 [.slice sz (l.map Span.pv) b,fv] (.bool (l.any p)):=by
 refine aa (ai (by kernel_rfl) rfl VF) rfl ?_;simp only [go_sem,simprocAttr];refine ae (Fs l p b sz hsz hl hf) rfl ?_;simp only [go_sem,simprocAttr];rw [fk]
theorem Fq {fv} (l) (p) (b) (sz) (hsz:sz=7) (hl:l.length<1000000000) (hf:∀ x,x∈l->iN TP fv [BdWax.pv x] (.bool (p x))) :
  ah TP 212 [.slice sz (l.map BdWax.pv) b,fv] (.int .i64 (au p l 0)):=by
 subst hsz;refine aa (ai (by kernel_rfl) rfl UR) rfl ?_;simp only [go_sem,simprocAttr];refine dQ [0,1,7] l hl (τ:=Unit) (λdone rest _=>au p l 0=au p rest done.length) (λdone _=>[(8,.p (.int .i64 done.length))]) () rfl ?_ ?_ ?_
 .simp only [go_sem,simprocAttr]<;>simp
 .intro _ e2;simp only [go_sem,simprocAttr];rw [e2];rfl
 .intro done x r _ e1 e2 hx hlt hnx;obtain ⟨g,first,cap,rfl,hc⟩:=hf x (by rw [e1];simp);simp only [hlt,decide_true,hx,BdWax.pv,go_sem,simprocAttr];refine ae hc (by simp [BdWax.pv]) ?_;simp only [go_sem,simprocAttr];refine aW (λhb=>?_) (λhb=>?_)
  .simp only [go_sem,simprocAttr];rw [e2];simp [au,hb]
  .simp only [go_sem,simprocAttr];refine aL e1 () (by rw [e2];simp [au,hb]) ?_;simp only [hnx,go_sem,simprocAttr]
theorem z6 {fv} (l:List BdWax) (p) (b) (sz) (hsz:sz=7) (hl:l.length<1000000000) (hf:∀ x,x∈l->iN TP fv [BdWax.pv x] (.bool (p x))) :
  ah TP 146 [.slice sz (l.map BdWax.pv) b,fv] (.bool (l.any p)):=by
 refine aa (ai (by kernel_rfl) rfl VB) rfl ?_;simp only [go_sem,simprocAttr];refine ae (Fq l p b sz hsz hl hf) rfl ?_;simp only [go_sem,simprocAttr];rw [fk]
theorem nI {fv} (l) (p) (b) (sz) (hsz:sz=4) (hl:l.length<1000000000) (hf:∀ x,x∈l->iN TP fv [HrKind.pv x] (.bool (p x))) :
  ah TP 230 [.slice sz (l.map HrKind.pv) b,fv] (.int .i64 (au p l 0)):=by
 subst hsz;refine aa (ai (by kernel_rfl) rfl UB) rfl ?_;simp only [go_sem,simprocAttr];refine dQ [0,1,7] l hl (τ:=Unit) (λdone rest _=>au p l 0=au p rest done.length) (λdone _=>[(8,.p (.int .i64 done.length))]) () rfl ?_ ?_ ?_
 .simp only [go_sem,simprocAttr]<;>simp
 .intro _ e2;simp only [go_sem,simprocAttr];rw [e2];rfl
 .intro done x r _ e1 e2 hx hlt hnx;obtain ⟨g,first,cap,rfl,hc⟩:=hf x (by rw [e1];simp);simp only [hlt,decide_true,hx,HrKind.pv,go_sem,simprocAttr];refine ae hc (by simp [HrKind.pv]) ?_;simp only [go_sem,simprocAttr];refine aW (λhb=>?_) (λhb=>?_)
  .simp only [go_sem,simprocAttr];rw [e2];simp [au,hb]
  .simp only [go_sem,simprocAttr];refine aL e1 () (by rw [e2];simp [au,hb]) ?_;simp only [hnx,go_sem,simprocAttr]
theorem zZ {fv} (l:List HrKind) (p) (b) (sz) (hsz:sz=4) (hl:l.length<1000000000) (hf:∀ x,x∈l->iN TP fv [HrKind.pv x] (.bool (p x))) :
  ah TP 220 [.slice sz (l.map HrKind.pv) b,fv] (.bool (l.any p)):=by
 refine aa (ai (by kernel_rfl) rfl UJ) rfl ?_;simp only [go_sem,simprocAttr];refine ae (nI l p b sz hsz hl hf) rfl ?_;simp only [go_sem,simprocAttr];rw [fk]
theorem Fp {fv} (l) (p) (b) (sz) (hsz:sz=5) (hl:l.length<1000000000) (hf:∀ x,x∈l->iN TP fv [HrRule.pv x] (.bool (p x))) :
  ah TP 276 [.slice sz (l.map HrRule.pv) b,fv] (.int .i64 (au p l 0)):=by
 subst hsz;refine aa (ai (by kernel_rfl) rfl T3) rfl ?_;simp only [go_sem,simprocAttr];refine dQ [0,1,7] l hl (τ:=Unit) (λdone rest _=>au p l 0=au p rest done.length) (λdone _=>[(8,.p (.int .i64 done.length))]) () rfl ?_ ?_ ?_
 .simp only [go_sem,simprocAttr]<;>simp
 .intro _ e2;simp only [go_sem,simprocAttr];rw [e2];rfl
 .intro done x r _ e1 e2 hx hlt hnx;obtain ⟨g,first,cap,rfl,hc⟩:=hf x (by rw [e1];simp);simp only [hlt,decide_true,hx,HrRule.pv,go_sem,simprocAttr];refine ae hc (by simp [HrRule.pv]) ?_;simp only [go_sem,simprocAttr];refine aW (λhb=>?_) (λhb=>?_)
  .simp only [go_sem,simprocAttr];rw [e2];simp [au,hb]
  .simp only [go_sem,simprocAttr];refine aL e1 () (by rw [e2];simp [au,hb]) ?_;simp only [hnx,go_sem,simprocAttr]
theorem zY {fv} (l:List HrRule) (p) (b) (sz) (hsz:sz=5) (hl:l.length<1000000000) (hf:∀ x,x∈l->iN TP fv [HrRule.pv x] (.bool (p x))) :
  ah TP 222 [.slice sz (l.map HrRule.pv) b,fv] (.bool (l.any p)):=by
 refine aa (ai (by kernel_rfl) rfl UH) rfl ?_;simp only [go_sem,simprocAttr];refine ae (Fp l p b sz hsz hl hf) rfl ?_;simp only [go_sem,simprocAttr];rw [fk]
theorem Fo {fv} (l) (p) (b) (sz) (hsz:sz=4) (hl:l.length<1000000000) (hf:∀ x,x∈l->iN TP fv [Wick.pv x] (.bool (p x))) :
  ah TP 275 [.slice sz (l.map Wick.pv) b,fv] (.int .i64 (au p l 0)):=by
 subst hsz;refine aa (ai (by kernel_rfl) rfl T4) rfl ?_;simp only [go_sem,simprocAttr];refine dQ [0,1,7] l hl (τ:=Unit) (λdone rest _=>au p l 0=au p rest done.length) (λdone _=>[(8,.p (.int .i64 done.length))]) () rfl ?_ ?_ ?_
 .simp only [go_sem,simprocAttr]<;>simp
 .intro _ e2;simp only [go_sem,simprocAttr];rw [e2];rfl
 .intro done x r _ e1 e2 hx hlt hnx;obtain ⟨g,first,cap,rfl,hc⟩:=hf x (by rw [e1];simp);simp only [hlt,decide_true,hx,Wick.pv,go_sem,simprocAttr];refine ae hc (by simp [Wick.pv]) ?_;simp only [go_sem,simprocAttr];refine aW (λhb=>?_) (λhb=>?_)
  .simp only [go_sem,simprocAttr];rw [e2];simp [au,hb]
  .simp only [go_sem,simprocAttr];refine aL e1 () (by rw [e2];simp [au,hb]) ?_;simp only [hnx,go_sem,simprocAttr]
theorem zX {fv} (l:List Wick) (p) (b) (sz) (hsz:sz=4) (hl:l.length<1000000000) (hf:∀ x,x∈l->iN TP fv [Wick.pv x] (.bool (p x))) :
  ah TP 215 [.slice sz (l.map Wick.pv) b,fv] (.bool (l.any p)):=by
 refine aa (ai (by kernel_rfl) rfl UO) rfl ?_;simp only [go_sem,simprocAttr];refine ae (Fo l p b sz hsz hl hf) rfl ?_;simp only [go_sem,simprocAttr];rw [fk]
theorem q9 {fv} (l) (p) (b) (sz) (hsz:sz=8) (hl:l.length<1000000000) (hf:∀ x,x∈l->iN TP fv [Wax.pv x] (.bool (p x))) :
  ah TP 260 [.slice sz (l.map Wax.pv) b,fv] (.int .i64 (au p l 0)):=by
 subst hsz;refine aa (ai (by kernel_rfl) rfl Ug) rfl ?_;simp only [go_sem,simprocAttr];refine dQ [0,1,7] l hl (τ:=Unit) (λdone rest _=>au p l 0=au p rest done.length) (λdone _=>[(8,.p (.int .i64 done.length))]) () rfl ?_ ?_ ?_
 .simp only [go_sem,simprocAttr]<;>simp
 .intro _ e2;simp only [go_sem,simprocAttr];rw [e2];rfl
 .intro done x r _ e1 e2 hx hlt hnx;obtain ⟨g,first,cap,rfl,hc⟩:=hf x (by rw [e1];simp);simp only [hlt,decide_true,hx,Wax.pv,go_sem,simprocAttr];refine ae hc (by simp [Wax.pv]) ?_;simp only [go_sem,simprocAttr];refine aW (λhb=>?_) (λhb=>?_)
  .simp only [go_sem,simprocAttr];rw [e2];simp [au,hb]
  .simp only [go_sem,simprocAttr];refine aL e1 () (by rw [e2];simp [au,hb]) ?_;simp only [hnx,go_sem,simprocAttr]
theorem zW {fv} (l:List Wax) (p) (b) (sz) (hsz:sz=8) (hl:l.length<1000000000) (hf:∀ x,x∈l->iN TP fv [Wax.pv x] (.bool (p x))) :
  ah TP 217 [.slice sz (l.map Wax.pv) b,fv] (.bool (l.any p)):=by
 refine aa (ai (by kernel_rfl) rfl UM) rfl ?_;simp only [go_sem,simprocAttr];refine ae (q9 l p b sz hsz hl hf) rfl ?_;simp only [go_sem,simprocAttr];rw [fk]
theorem Fm {fv} (l) (p) (b) (sz) (hsz:sz=2) (hl:l.length<1000000000) (hf:∀ x,x∈l->iN TP fv [WxProp.pv x] (.bool (p x))) :
  ah TP 274 [.slice sz (l.map WxProp.pv) b,fv] (.int .i64 (au p l 0)):=by
 subst hsz;refine aa (ai (by kernel_rfl) rfl T5) rfl ?_;simp only [go_sem,simprocAttr];refine dQ [0,1,7] l hl (τ:=Unit) (λdone rest _=>au p l 0=au p rest done.length) (λdone _=>[(8,.p (.int .i64 done.length))]) () rfl ?_ ?_ ?_
 .simp only [go_sem,simprocAttr]<;>simp
 .intro _ e2;simp only [go_sem,simprocAttr];rw [e2];rfl
 .intro done x r _ e1 e2 hx hlt hnx;obtain ⟨g,first,cap,rfl,hc⟩:=hf x (by rw [e1];simp);simp only [hlt,decide_true,hx,WxProp.pv,go_sem,simprocAttr];refine ae hc (by simp [WxProp.pv]) ?_;simp only [go_sem,simprocAttr];refine aW (λhb=>?_) (λhb=>?_)
  .simp only [go_sem,simprocAttr];rw [e2];simp [au,hb]
  .simp only [go_sem,simprocAttr];refine aL e1 () (by rw [e2];simp [au,hb]) ?_;simp only [hnx,go_sem,simprocAttr]
theorem zV {fv} (l:List WxProp) (p) (b) (sz) (hsz:sz=2) (hl:l.length<1000000000) (hf:∀ x,x∈l->iN TP fv [WxProp.pv x] (.bool (p x))) :
  ah TP 206 [.slice sz (l.map WxProp.pv) b,fv] (.bool (l.any p)):=by
 refine aa (ai (by kernel_rfl) rfl UX) rfl ?_;simp only [go_sem,simprocAttr];refine ae (Fm l p b sz hsz hl hf) rfl ?_;simp only [go_sem,simprocAttr];rw [fk]
theorem q8 {fv} (l) (p) (b) (sz) (hsz:sz=2) (hl:l.length<1000000000) (hf:∀ x,x∈l->iN TP fv [WxKind.pv x] (.bool (p x))) :
  ah TP 247 [.slice sz (l.map WxKind.pv) b,fv] (.int .i64 (au p l 0)):=by
 subst hsz;refine aa (ai (by kernel_rfl) rfl Ur) rfl ?_;simp only [go_sem,simprocAttr];refine dQ [0,1,7] l hl (τ:=Unit) (λdone rest _=>au p l 0=au p rest done.length) (λdone _=>[(8,.p (.int .i64 done.length))]) () rfl ?_ ?_ ?_
 .simp only [go_sem,simprocAttr]<;>simp
 .intro _ e2;simp only [go_sem,simprocAttr];rw [e2];rfl
 .intro done x r _ e1 e2 hx hlt hnx;obtain ⟨g,first,cap,rfl,hc⟩:=hf x (by rw [e1];simp);simp only [hlt,decide_true,hx,WxKind.pv,go_sem,simprocAttr];refine ae hc (by simp [WxKind.pv]) ?_;simp only [go_sem,simprocAttr];refine aW (λhb=>?_) (λhb=>?_)
  .simp only [go_sem,simprocAttr];rw [e2];simp [au,hb]
  .simp only [go_sem,simprocAttr];refine aL e1 () (by rw [e2];simp [au,hb]) ?_;simp only [hnx,go_sem,simprocAttr]
theorem zU {fv} (l:List WxKind) (p) (b) (sz) (hsz:sz=2) (hl:l.length<1000000000) (hf:∀ x,x∈l->iN TP fv [WxKind.pv x] (.bool (p x))) :
  ah TP 208 [.slice sz (l.map WxKind.pv) b,fv] (.bool (l.any p)):=by
 refine aa (ai (by kernel_rfl) rfl UV) rfl ?_;simp only [go_sem,simprocAttr];refine ae (q8 l p b sz hsz hl hf) rfl ?_;simp only [go_sem,simprocAttr];rw [fk]
theorem lf {fv} (l) (p) (b) (sz) (hsz:sz=4) (hl:l.length<1000000000) (hf:∀ x,x∈l->iN TP fv [ClColour.pv x] (.bool (p x))) :
  ah TP 225 [.slice sz (l.map ClColour.pv) b,fv] (.int .i64 (au p l 0)):=by
 subst hsz;refine aa (ai (by kernel_rfl) rfl UE) rfl ?_;simp only [go_sem,simprocAttr];refine dQ [0,1,7] l hl (τ:=Unit) (λdone rest _=>au p l 0=au p rest done.length) (λdone _=>[(8,.p (.int .i64 done.length))]) () rfl ?_ ?_ ?_
 .simp only [go_sem,simprocAttr]<;>simp
 .intro _ e2;simp only [go_sem,simprocAttr];rw [e2];rfl
 .intro done x r _ e1 e2 hx hlt hnx;obtain ⟨g,first,cap,rfl,hc⟩:=hf x (by rw [e1];simp);simp only [hlt,decide_true,hx,ClColour.pv,go_sem,simprocAttr];refine ae hc (by simp [ClColour.pv]) ?_;simp only [go_sem,simprocAttr];refine aW (λhb=>?_) (λhb=>?_)
  .simp only [go_sem,simprocAttr];rw [e2];simp [au,hb]
  .simp only [go_sem,simprocAttr];refine aL e1 () (by rw [e2];simp [au,hb]) ?_;simp only [hnx,go_sem,simprocAttr]
theorem zT {fv} (l:List ClColour) (p) (b) (sz) (hsz:sz=4) (hl:l.length<1000000000) (hf:∀ x,x∈l->iN TP fv [ClColour.pv x] (.bool (p x))) :
  ah TP 163 [.slice sz (l.map ClColour.pv) b,fv] (.bool (l.any p)):=by
 refine aa (ai (by kernel_rfl) rfl Vl) rfl ?_;simp only [go_sem,simprocAttr];refine ae (lf l p b sz hsz hl hf) rfl ?_;simp only [go_sem,simprocAttr];rw [fk]
theorem p6 {fv} (l) (p) (b) (sz) (hsz:sz=4) (hl:l.length<1000000000) (hf:∀ x,x∈l->iN TP fv [ChLot.pv x] (.bool (p x))) :
  ah TP 246 [.slice sz (l.map ChLot.pv) b,fv] (.int .i64 (au p l 0)):=by
 subst hsz;refine aa (ai (by kernel_rfl) rfl Us) rfl ?_;simp only [go_sem,simprocAttr];refine dQ [0,1,7] l hl (τ:=Unit) (λdone rest _=>au p l 0=au p rest done.length) (λdone _=>[(8,.p (.int .i64 done.length))]) () rfl ?_ ?_ ?_
 .simp only [go_sem,simprocAttr]<;>simp
 .intro _ e2;simp only [go_sem,simprocAttr];rw [e2];rfl
 .intro done x r _ e1 e2 hx hlt hnx;obtain ⟨g,first,cap,rfl,hc⟩:=hf x (by rw [e1];simp);simp only [hlt,decide_true,hx,ChLot.pv,go_sem,simprocAttr];refine ae hc (by simp [ChLot.pv]) ?_;simp only [go_sem,simprocAttr];refine aW (λhb=>?_) (λhb=>?_)
  .simp only [go_sem,simprocAttr];rw [e2];simp [au,hb]
  .simp only [go_sem,simprocAttr];refine aL e1 () (by rw [e2];simp [au,hb]) ?_;simp only [hnx,go_sem,simprocAttr]
theorem yS {fv} (l:List ChLot) (p) (b) (sz) (hsz:sz=4) (hl:l.length<1000000000) (hf:∀ x,x∈l->iN TP fv [ChLot.pv x] (.bool (p x))) :
  ah TP 172 [.slice sz (l.map ChLot.pv) b,fv] (.bool (l.any p)):=by
 refine aa (ai (by kernel_rfl) rfl Ve) rfl ?_;simp only [go_sem,simprocAttr];refine ae (p6 l p b sz hsz hl hf) rfl ?_;simp only [go_sem,simprocAttr];rw [fk]
theorem p5 {fv} (l) (p) (b) (sz) (hsz:sz=4) (hl:l.length<1000000000) (hf:∀ x,x∈l->iN TP fv [ChBatch.pv x] (.bool (p x))) :
  ah TP 251 [.slice sz (l.map ChBatch.pv) b,fv] (.int .i64 (au p l 0)):=by
 subst hsz;refine aa (ai (by kernel_rfl) rfl Un) rfl ?_;simp only [go_sem,simprocAttr];refine dQ [0,1,7] l hl (τ:=Unit) (λdone rest _=>au p l 0=au p rest done.length) (λdone _=>[(8,.p (.int .i64 done.length))]) () rfl ?_ ?_ ?_
 .simp only [go_sem,simprocAttr]<;>simp
 .intro _ e2;simp only [go_sem,simprocAttr];rw [e2];rfl
 .intro done x r _ e1 e2 hx hlt hnx;obtain ⟨g,first,cap,rfl,hc⟩:=hf x (by rw [e1];simp);simp only [hlt,decide_true,hx,ChBatch.pv,go_sem,simprocAttr];refine ae hc (by simp [ChBatch.pv]) ?_;simp only [go_sem,simprocAttr];refine aW (λhb=>?_) (λhb=>?_)
  .simp only [go_sem,simprocAttr];rw [e2];simp [au,hb]
  .simp only [go_sem,simprocAttr];refine aL e1 () (by rw [e2];simp [au,hb]) ?_;simp only [hnx,go_sem,simprocAttr]
theorem yR {fv} (l:List ChBatch) (p) (b) (sz) (hsz:sz=4) (hl:l.length<1000000000) (hf:∀ x,x∈l->iN TP fv [ChBatch.pv x] (.bool (p x))) :
  ah TP 177 [.slice sz (l.map ChBatch.pv) b,fv] (.bool (l.any p)):=by
 refine aa (ai (by kernel_rfl) rfl Va) rfl ?_;simp only [go_sem,simprocAttr];refine ae (p5 l p b sz hsz hl hf) rfl ?_;simp only [go_sem,simprocAttr];rw [fk]
theorem Jp (l) (b) (hl:l≠[]) (hlen:l.length<1000000000):gk TP 270 [.slice 1 (l.map aJ) b] (.slice 1 (l.map aJ) false):=by
 refine eY (ai (by kernel_rfl) rfl T7) rfl ?_;have h1:¬ (l.map aJ=[]):=by simpa using hl
 have h2:l.length<=aB:=by simp [aB];omega
 have h3:¬ ((l.map aJ).map AV.p=[]):=by simpa using hl
 simp only [h1,h2,h3,go_sem,simprocAttr]
theorem Ln (a b:Nat) (h:a+b<1000000000):IntKind.i64.wrap (Int.fdiv (IntKind.u64.wrap ((a)+(b))) 2)=(((a+b) / 2:Nat):Int):=by
 have e:IntKind.u64.wrap ((a:Int)+(b:Int))=((a+b:Nat):Int):=by
  unfold IntKind.wrap IntKind.signed IntKind.bits;simp;omega
 rw [e];have e2:Int.fdiv ((a+b:Nat):Int) 2=(((a+b) / 2:Nat):Int):=by
  rw [Int.fdiv_eq_ediv_of_nonneg _ (by omega)];omega
 rw [e2];exact dj (by omega) (by simp [aB];omega)
theorem Pm {fv} (n:Nat) (p:Nat->Bool) (hn:n<100000000) (hf:∀ i,i<n->iN TP fv [.int .i64 i] (.bool (p i))) (r) (hr:r<=n) (h1:∀ i,i<r->p i=false) (h2:∀ i,r<=i->i<n->p i=true) :
  ah TP 338 [.int .i64 n,fv] (.int .i64 r):=by
 refine aa (ai (by kernel_rfl) rfl S9) rfl ?_;simp only [go_sem,simprocAttr];refine PS [1] (σ:=Nat×Nat) (λs=>s.1<=r/\r<=s.2/\s.2<=n) (λs=>s.2-s.1) (λs=>[(5,.p (.int .i64 s.1)),(6,.p (.int .i64 s.2))]) (0,n) ⟨by omega,hr,by omega⟩ ?_ ?_
 .simp only [go_sem,simprocAttr]
 .rintro ⟨i,j⟩ ⟨g1,g2,g3⟩
  dsimp only at g1 g2 g3;simp only [go_sem,simprocAttr];refine aW (λhb=>?_) (λhb=>?_)
  .have hij:i<j:=by simpa using hb
   have hw:IntKind.i64.wrap ((i:Int)+(j:Int))=((i:Int)+(j:Int)):=dj (by omega) (by simp [aB];omega);have hh:=Ln i j (by omega);have hp2:(2:Int)^min 1 64=2:=rfl;obtain ⟨g,first,cap,rfl,hc⟩:=hf ((i+j) / 2) (by omega);simp only [hw,ez,IntKind.bits,hp2,hh,go_sem,simprocAttr];refine ae hc (by simp) ?_;simp only [go_sem,simprocAttr];cases hpv:p ((i+j) / 2)
   .simp only [go_sem,simprocAttr];have hlt:¬ (r<=(i+j) / 2):=λh=>by rw [h2 _ h (by omega)] at hpv;cases hpv
    refine dp ((i+j) / 2+1,j) ⟨by omega,g2,g3⟩ (by dsimp only;omega) ?_;have hnx:IntKind.i64.wrap ((((i+j) / 2:Nat):Int)+1)=(((i+j) / 2+1:Nat):Int):=bI (by omega) (by simp [aB];omega) (by omega);simp only [hnx,go_sem,simprocAttr]
   .simp only [go_sem,simprocAttr];have hlt:r<=(i+j) / 2:=by
     rcases cJ ((i+j) / 2) r with h | h
     .rw [h1 _ h] at hpv;cases hpv
     .exact h
    refine dp (i,(i+j) / 2) ⟨g1,hlt,by omega⟩ (by dsimp only;omega) ?_;simp only [go_sem,simprocAttr]
  .have hij:¬ (i<j):=by simpa using hb
   have:i=r:=by omega
   subst this;simp only [go_sem,simprocAttr]
end Abs
end Go.Proofs.YtfafnkpfamgbbaaGreatDoor
