/-
  CONTRACTS OF Go's LIBRARY, as far as a seat's program reaches it: slices.IndexFunc, slices
  CONTRACTS: ranges and names, in the references and in the program.
-/
import Derived.Test.YtfafnkpfamgbbaaGreatDoorAbsCutX
import Derived.Test.YtfafnkpfamgbbaaGreatDoorAbsKill
import Derived.Test.YtfafnkpfamgbbaaGreatDoorSeatTy
set_option linter.unusedSimpArgs false
set_option linter.unusedVariables false
open Go.Proofs.Tryz renaming prog->TP
namespace Go.Proofs.YtfafnkpfamgbbaaGreatDoor
namespace Abs
set_option maxRecDepth 4000
theorem CW (n) (h):∀ l,aU (ci n h) (l.map .p)=some l
 |[]=>rfl
 |x::r=>by rw [bB,aU,CW n h r,er]
theorem Ig:∀ l,gB (l.map .p)=some l
 |[]=>rfl
 |x::r=>by rw [bB,gB,Ig r]
attribute [go_sem] CW Ig
def jF (P:Program) (fv:PV) (xs:List PV) (y:PV):Prop:=∃ (g:FuncId) (first cap:List PV),fv=.func (.func g) first cap/\ah P g (first++xs++cap) y
def aA {α:Type} (p:α->Bool):List α->Nat->Int
 |[],_=>-1
 |x::r,i=>if p x=true then (i:Int) else aA p r (i+1)
theorem gk {α} (p:α->Bool):∀ (l) (i),decide (0<=aA p l i)=l.any p
 |[],i=>by simp [aA]
 |x::r,i=>by
  unfold aA;rw [bp];cases hx:p x
  .simp only [fA,if_false,mN];exact gk p r (i+1)
  .simp
theorem ba {a b c:Int} (h0:0<=c) (h:c<=aw) (e:a+b=c):IntKind.i64.wrap (a+b)=c:=by rw [e];exact cM h0 h
theorem de {α:Type} {l done r:List α} {x} (h:l=done++x::r):l[done.length]?=some x/\((done.length:Int)<(l.length:Int)):=by
 subst h;refine ⟨by simp,by simp;omega⟩
theorem HH {fv} (l) (p) (b) (sz) (hsz:sz=1) (hl:l.length<1000000000) (hf:∀ x,x∈l->jF TP fv [aK x] (.bool (p x))) :
  ah TP 273 [.slice sz (l.map aK) b,fv] (.int .i64 (aA p l 0)):=by
 subst hsz;refine aa (ai (by kernel_rfl) rfl W3) rfl ?_;simp only [go_sem,simprocAttr];refine ez [0,1,7] l hl (τ:=Unit) (λdone rest _=>aA p l 0=aA p rest done.length) (λdone _=>[(8,.p (.int .i64 done.length))]) () rfl ?_ ?_ ?_
 .simp only [go_sem,simprocAttr]<;>simp
 .intro _ e2;simp only [go_sem,simprocAttr];rw [e2];rfl
 .intro done x r _ e1 e2 hx hlt hnx;obtain ⟨g,first,cap,rfl,hc⟩:=hf x (by rw [e1];simp);simp only [hlt,decide_true,hx,aK,go_sem,simprocAttr];refine ae hc (by simp [aK]) ?_;simp only [go_sem,simprocAttr];refine aT (λhb=>?_) (λhb=>?_)
  .simp only [go_sem,simprocAttr];rw [e2];simp [aA,hb]
  .simp only [go_sem,simprocAttr];refine aF e1 () (by rw [e2];simp [aA,hb]) ?_;simp only [hnx,go_sem,simprocAttr]
theorem jX {fv} (l:List Int) (p) (b) (sz) (hsz:sz=1) (hl:l.length<1000000000) (hf:∀ x,x∈l->jF TP fv [aK x] (.bool (p x))) :
  ah TP 204 [.slice sz (l.map aK) b,fv] (.bool (l.any p)):=by
 refine aa (ai (by kernel_rfl) rfl XW) rfl ?_;simp only [go_sem,simprocAttr];refine ae (HH l p b sz hsz hl hf) rfl ?_;simp only [go_sem,simprocAttr];rw [gk]
theorem HG {fv} (l) (p) (b) (sz) (hsz:sz=2) (hl:l.length<1000000000) (hf:∀ x,x∈l->jF TP fv [Span.pv x] (.bool (p x))) :
  ah TP 210 [.slice sz (l.map Span.pv) b,fv] (.int .i64 (aA p l 0)):=by
 subst hsz;refine aa (ai (by kernel_rfl) rfl XQ) rfl ?_;simp only [go_sem,simprocAttr];refine ez [0,1,7] l hl (τ:=Unit) (λdone rest _=>aA p l 0=aA p rest done.length) (λdone _=>[(8,.p (.int .i64 done.length))]) () rfl ?_ ?_ ?_
 .simp only [go_sem,simprocAttr]<;>simp
 .intro _ e2;simp only [go_sem,simprocAttr];rw [e2];rfl
 .intro done x r _ e1 e2 hx hlt hnx;obtain ⟨g,first,cap,rfl,hc⟩:=hf x (by rw [e1];simp);simp only [hlt,decide_true,hx,Span.pv,go_sem,simprocAttr];refine ae hc (by simp [Span.pv]) ?_;simp only [go_sem,simprocAttr];refine aT (λhb=>?_) (λhb=>?_)
  .simp only [go_sem,simprocAttr];rw [e2];simp [aA,hb]
  .simp only [go_sem,simprocAttr];refine aF e1 () (by rw [e2];simp [aA,hb]) ?_;simp only [hnx,go_sem,simprocAttr]
theorem oL {fv} (l:List Span) (p) (b) (sz) (hsz:sz=2) (hl:l.length<1000000000) (hf:∀ x,x∈l->jF TP fv [Span.pv x] (.bool (p x))) :
  ah TP 142 [.slice sz (l.map Span.pv) b,fv] (.bool (l.any p)):=by
 refine aa (ai (by kernel_rfl) rfl YD) rfl ?_;simp only [go_sem,simprocAttr];refine ae (HG l p b sz hsz hl hf) rfl ?_;simp only [go_sem,simprocAttr];rw [gk]
theorem HF {fv} (l) (p) (b) (sz) (hsz:sz=7) (hl:l.length<1000000000) (hf:∀ x,x∈l->jF TP fv [BdWax.pv x] (.bool (p x))) :
  ah TP 212 [.slice sz (l.map BdWax.pv) b,fv] (.int .i64 (aA p l 0)):=by
 subst hsz;refine aa (ai (by kernel_rfl) rfl XO) rfl ?_;simp only [go_sem,simprocAttr];refine ez [0,1,7] l hl (τ:=Unit) (λdone rest _=>aA p l 0=aA p rest done.length) (λdone _=>[(8,.p (.int .i64 done.length))]) () rfl ?_ ?_ ?_
 .simp only [go_sem,simprocAttr]<;>simp
 .intro _ e2;simp only [go_sem,simprocAttr];rw [e2];rfl
 .intro done x r _ e1 e2 hx hlt hnx;obtain ⟨g,first,cap,rfl,hc⟩:=hf x (by rw [e1];simp);simp only [hlt,decide_true,hx,BdWax.pv,go_sem,simprocAttr];refine ae hc (by simp [BdWax.pv]) ?_;simp only [go_sem,simprocAttr];refine aT (λhb=>?_) (λhb=>?_)
  .simp only [go_sem,simprocAttr];rw [e2];simp [aA,hb]
  .simp only [go_sem,simprocAttr];refine aF e1 () (by rw [e2];simp [aA,hb]) ?_;simp only [hnx,go_sem,simprocAttr]
theorem B3 {fv} (l:List BdWax) (p) (b) (sz) (hsz:sz=7) (hl:l.length<1000000000) (hf:∀ x,x∈l->jF TP fv [BdWax.pv x] (.bool (p x))) :
  ah TP 146 [.slice sz (l.map BdWax.pv) b,fv] (.bool (l.any p)):=by
 refine aa (ai (by kernel_rfl) rfl Yz) rfl ?_;simp only [go_sem,simprocAttr];refine ae (HF l p b sz hsz hl hf) rfl ?_;simp only [go_sem,simprocAttr];rw [gk]
theorem pj {fv} (l) (p) (b) (sz) (hsz:sz=4) (hl:l.length<1000000000) (hf:∀ x,x∈l->jF TP fv [HrKind.pv x] (.bool (p x))) :
  ah TP 230 [.slice sz (l.map HrKind.pv) b,fv] (.int .i64 (aA p l 0)):=by
 subst hsz;refine aa (ai (by kernel_rfl) rfl Xy) rfl ?_;simp only [go_sem,simprocAttr];refine ez [0,1,7] l hl (τ:=Unit) (λdone rest _=>aA p l 0=aA p rest done.length) (λdone _=>[(8,.p (.int .i64 done.length))]) () rfl ?_ ?_ ?_
 .simp only [go_sem,simprocAttr]<;>simp
 .intro _ e2;simp only [go_sem,simprocAttr];rw [e2];rfl
 .intro done x r _ e1 e2 hx hlt hnx;obtain ⟨g,first,cap,rfl,hc⟩:=hf x (by rw [e1];simp);simp only [hlt,decide_true,hx,HrKind.pv,go_sem,simprocAttr];refine ae hc (by simp [HrKind.pv]) ?_;simp only [go_sem,simprocAttr];refine aT (λhb=>?_) (λhb=>?_)
  .simp only [go_sem,simprocAttr];rw [e2];simp [aA,hb]
  .simp only [go_sem,simprocAttr];refine aF e1 () (by rw [e2];simp [aA,hb]) ?_;simp only [hnx,go_sem,simprocAttr]
theorem B2 {fv} (l:List HrKind) (p) (b) (sz) (hsz:sz=4) (hl:l.length<1000000000) (hf:∀ x,x∈l->jF TP fv [HrKind.pv x] (.bool (p x))) :
  ah TP 220 [.slice sz (l.map HrKind.pv) b,fv] (.bool (l.any p)):=by
 refine aa (ai (by kernel_rfl) rfl XG) rfl ?_;simp only [go_sem,simprocAttr];refine ae (pj l p b sz hsz hl hf) rfl ?_;simp only [go_sem,simprocAttr];rw [gk]
theorem HD {fv} (l) (p) (b) (sz) (hsz:sz=5) (hl:l.length<1000000000) (hf:∀ x,x∈l->jF TP fv [HrRule.pv x] (.bool (p x))) :
  ah TP 276 [.slice sz (l.map HrRule.pv) b,fv] (.int .i64 (aA p l 0)):=by
 subst hsz;refine aa (ai (by kernel_rfl) rfl W0) rfl ?_;simp only [go_sem,simprocAttr];refine ez [0,1,7] l hl (τ:=Unit) (λdone rest _=>aA p l 0=aA p rest done.length) (λdone _=>[(8,.p (.int .i64 done.length))]) () rfl ?_ ?_ ?_
 .simp only [go_sem,simprocAttr]<;>simp
 .intro _ e2;simp only [go_sem,simprocAttr];rw [e2];rfl
 .intro done x r _ e1 e2 hx hlt hnx;obtain ⟨g,first,cap,rfl,hc⟩:=hf x (by rw [e1];simp);simp only [hlt,decide_true,hx,HrRule.pv,go_sem,simprocAttr];refine ae hc (by simp [HrRule.pv]) ?_;simp only [go_sem,simprocAttr];refine aT (λhb=>?_) (λhb=>?_)
  .simp only [go_sem,simprocAttr];rw [e2];simp [aA,hb]
  .simp only [go_sem,simprocAttr];refine aF e1 () (by rw [e2];simp [aA,hb]) ?_;simp only [hnx,go_sem,simprocAttr]
theorem B1 {fv} (l:List HrRule) (p) (b) (sz) (hsz:sz=5) (hl:l.length<1000000000) (hf:∀ x,x∈l->jF TP fv [HrRule.pv x] (.bool (p x))) :
  ah TP 222 [.slice sz (l.map HrRule.pv) b,fv] (.bool (l.any p)):=by
 refine aa (ai (by kernel_rfl) rfl XE) rfl ?_;simp only [go_sem,simprocAttr];refine ae (HD l p b sz hsz hl hf) rfl ?_;simp only [go_sem,simprocAttr];rw [gk]
theorem HC {fv} (l) (p) (b) (sz) (hsz:sz=4) (hl:l.length<1000000000) (hf:∀ x,x∈l->jF TP fv [Wick.pv x] (.bool (p x))) :
  ah TP 275 [.slice sz (l.map Wick.pv) b,fv] (.int .i64 (aA p l 0)):=by
 subst hsz;refine aa (ai (by kernel_rfl) rfl W1) rfl ?_;simp only [go_sem,simprocAttr];refine ez [0,1,7] l hl (τ:=Unit) (λdone rest _=>aA p l 0=aA p rest done.length) (λdone _=>[(8,.p (.int .i64 done.length))]) () rfl ?_ ?_ ?_
 .simp only [go_sem,simprocAttr]<;>simp
 .intro _ e2;simp only [go_sem,simprocAttr];rw [e2];rfl
 .intro done x r _ e1 e2 hx hlt hnx;obtain ⟨g,first,cap,rfl,hc⟩:=hf x (by rw [e1];simp);simp only [hlt,decide_true,hx,Wick.pv,go_sem,simprocAttr];refine ae hc (by simp [Wick.pv]) ?_;simp only [go_sem,simprocAttr];refine aT (λhb=>?_) (λhb=>?_)
  .simp only [go_sem,simprocAttr];rw [e2];simp [aA,hb]
  .simp only [go_sem,simprocAttr];refine aF e1 () (by rw [e2];simp [aA,hb]) ?_;simp only [hnx,go_sem,simprocAttr]
theorem B0 {fv} (l:List Wick) (p) (b) (sz) (hsz:sz=4) (hl:l.length<1000000000) (hf:∀ x,x∈l->jF TP fv [Wick.pv x] (.bool (p x))) :
  ah TP 215 [.slice sz (l.map Wick.pv) b,fv] (.bool (l.any p)):=by
 refine aa (ai (by kernel_rfl) rfl XL) rfl ?_;simp only [go_sem,simprocAttr];refine ae (HC l p b sz hsz hl hf) rfl ?_;simp only [go_sem,simprocAttr];rw [gk]
theorem sQ {fv} (l) (p) (b) (sz) (hsz:sz=8) (hl:l.length<1000000000) (hf:∀ x,x∈l->jF TP fv [Wax.pv x] (.bool (p x))) :
  ah TP 260 [.slice sz (l.map Wax.pv) b,fv] (.int .i64 (aA p l 0)):=by
 subst hsz;refine aa (ai (by kernel_rfl) rfl Xd) rfl ?_;simp only [go_sem,simprocAttr];refine ez [0,1,7] l hl (τ:=Unit) (λdone rest _=>aA p l 0=aA p rest done.length) (λdone _=>[(8,.p (.int .i64 done.length))]) () rfl ?_ ?_ ?_
 .simp only [go_sem,simprocAttr]<;>simp
 .intro _ e2;simp only [go_sem,simprocAttr];rw [e2];rfl
 .intro done x r _ e1 e2 hx hlt hnx;obtain ⟨g,first,cap,rfl,hc⟩:=hf x (by rw [e1];simp);simp only [hlt,decide_true,hx,Wax.pv,go_sem,simprocAttr];refine ae hc (by simp [Wax.pv]) ?_;simp only [go_sem,simprocAttr];refine aT (λhb=>?_) (λhb=>?_)
  .simp only [go_sem,simprocAttr];rw [e2];simp [aA,hb]
  .simp only [go_sem,simprocAttr];refine aF e1 () (by rw [e2];simp [aA,hb]) ?_;simp only [hnx,go_sem,simprocAttr]
theorem BZ {fv} (l:List Wax) (p) (b) (sz) (hsz:sz=8) (hl:l.length<1000000000) (hf:∀ x,x∈l->jF TP fv [Wax.pv x] (.bool (p x))) :
  ah TP 217 [.slice sz (l.map Wax.pv) b,fv] (.bool (l.any p)):=by
 refine aa (ai (by kernel_rfl) rfl XJ) rfl ?_;simp only [go_sem,simprocAttr];refine ae (sQ l p b sz hsz hl hf) rfl ?_;simp only [go_sem,simprocAttr];rw [gk]
theorem HB {fv} (l) (p) (b) (sz) (hsz:sz=2) (hl:l.length<1000000000) (hf:∀ x,x∈l->jF TP fv [WxProp.pv x] (.bool (p x))) :
  ah TP 274 [.slice sz (l.map WxProp.pv) b,fv] (.int .i64 (aA p l 0)):=by
 subst hsz;refine aa (ai (by kernel_rfl) rfl W2) rfl ?_;simp only [go_sem,simprocAttr];refine ez [0,1,7] l hl (τ:=Unit) (λdone rest _=>aA p l 0=aA p rest done.length) (λdone _=>[(8,.p (.int .i64 done.length))]) () rfl ?_ ?_ ?_
 .simp only [go_sem,simprocAttr]<;>simp
 .intro _ e2;simp only [go_sem,simprocAttr];rw [e2];rfl
 .intro done x r _ e1 e2 hx hlt hnx;obtain ⟨g,first,cap,rfl,hc⟩:=hf x (by rw [e1];simp);simp only [hlt,decide_true,hx,WxProp.pv,go_sem,simprocAttr];refine ae hc (by simp [WxProp.pv]) ?_;simp only [go_sem,simprocAttr];refine aT (λhb=>?_) (λhb=>?_)
  .simp only [go_sem,simprocAttr];rw [e2];simp [aA,hb]
  .simp only [go_sem,simprocAttr];refine aF e1 () (by rw [e2];simp [aA,hb]) ?_;simp only [hnx,go_sem,simprocAttr]
theorem BY {fv} (l:List WxProp) (p) (b) (sz) (hsz:sz=2) (hl:l.length<1000000000) (hf:∀ x,x∈l->jF TP fv [WxProp.pv x] (.bool (p x))) :
  ah TP 206 [.slice sz (l.map WxProp.pv) b,fv] (.bool (l.any p)):=by
 refine aa (ai (by kernel_rfl) rfl XU) rfl ?_;simp only [go_sem,simprocAttr];refine ae (HB l p b sz hsz hl hf) rfl ?_;simp only [go_sem,simprocAttr];rw [gk]
theorem sP {fv} (l) (p) (b) (sz) (hsz:sz=2) (hl:l.length<1000000000) (hf:∀ x,x∈l->jF TP fv [WxKind.pv x] (.bool (p x))) :
  ah TP 247 [.slice sz (l.map WxKind.pv) b,fv] (.int .i64 (aA p l 0)):=by
 subst hsz;refine aa (ai (by kernel_rfl) rfl Xo) rfl ?_;simp only [go_sem,simprocAttr];refine ez [0,1,7] l hl (τ:=Unit) (λdone rest _=>aA p l 0=aA p rest done.length) (λdone _=>[(8,.p (.int .i64 done.length))]) () rfl ?_ ?_ ?_
 .simp only [go_sem,simprocAttr]<;>simp
 .intro _ e2;simp only [go_sem,simprocAttr];rw [e2];rfl
 .intro done x r _ e1 e2 hx hlt hnx;obtain ⟨g,first,cap,rfl,hc⟩:=hf x (by rw [e1];simp);simp only [hlt,decide_true,hx,WxKind.pv,go_sem,simprocAttr];refine ae hc (by simp [WxKind.pv]) ?_;simp only [go_sem,simprocAttr];refine aT (λhb=>?_) (λhb=>?_)
  .simp only [go_sem,simprocAttr];rw [e2];simp [aA,hb]
  .simp only [go_sem,simprocAttr];refine aF e1 () (by rw [e2];simp [aA,hb]) ?_;simp only [hnx,go_sem,simprocAttr]
theorem BX {fv} (l:List WxKind) (p) (b) (sz) (hsz:sz=2) (hl:l.length<1000000000) (hf:∀ x,x∈l->jF TP fv [WxKind.pv x] (.bool (p x))) :
  ah TP 208 [.slice sz (l.map WxKind.pv) b,fv] (.bool (l.any p)):=by
 refine aa (ai (by kernel_rfl) rfl XS) rfl ?_;simp only [go_sem,simprocAttr];refine ae (sP l p b sz hsz hl hf) rfl ?_;simp only [go_sem,simprocAttr];rw [gk]
theorem mq {fv} (l) (p) (b) (sz) (hsz:sz=4) (hl:l.length<1000000000) (hf:∀ x,x∈l->jF TP fv [ClColour.pv x] (.bool (p x))) :
  ah TP 225 [.slice sz (l.map ClColour.pv) b,fv] (.int .i64 (aA p l 0)):=by
 subst hsz;refine aa (ai (by kernel_rfl) rfl XB) rfl ?_;simp only [go_sem,simprocAttr];refine ez [0,1,7] l hl (τ:=Unit) (λdone rest _=>aA p l 0=aA p rest done.length) (λdone _=>[(8,.p (.int .i64 done.length))]) () rfl ?_ ?_ ?_
 .simp only [go_sem,simprocAttr]<;>simp
 .intro _ e2;simp only [go_sem,simprocAttr];rw [e2];rfl
 .intro done x r _ e1 e2 hx hlt hnx;obtain ⟨g,first,cap,rfl,hc⟩:=hf x (by rw [e1];simp);simp only [hlt,decide_true,hx,ClColour.pv,go_sem,simprocAttr];refine ae hc (by simp [ClColour.pv]) ?_;simp only [go_sem,simprocAttr];refine aT (λhb=>?_) (λhb=>?_)
  .simp only [go_sem,simprocAttr];rw [e2];simp [aA,hb]
  .simp only [go_sem,simprocAttr];refine aF e1 () (by rw [e2];simp [aA,hb]) ?_;simp only [hnx,go_sem,simprocAttr]
theorem BW {fv} (l:List ClColour) (p) (b) (sz) (hsz:sz=4) (hl:l.length<1000000000) (hf:∀ x,x∈l->jF TP fv [ClColour.pv x] (.bool (p x))) :
  ah TP 163 [.slice sz (l.map ClColour.pv) b,fv] (.bool (l.any p)):=by
 refine aa (ai (by kernel_rfl) rfl Yj) rfl ?_;simp only [go_sem,simprocAttr];refine ae (mq l p b sz hsz hl hf) rfl ?_;simp only [go_sem,simprocAttr];rw [gk]
theorem rL {fv} (l) (p) (b) (sz) (hsz:sz=4) (hl:l.length<1000000000) (hf:∀ x,x∈l->jF TP fv [ChLot.pv x] (.bool (p x))) :
  ah TP 246 [.slice sz (l.map ChLot.pv) b,fv] (.int .i64 (aA p l 0)):=by
 subst hsz;refine aa (ai (by kernel_rfl) rfl Xp) rfl ?_;simp only [go_sem,simprocAttr];refine ez [0,1,7] l hl (τ:=Unit) (λdone rest _=>aA p l 0=aA p rest done.length) (λdone _=>[(8,.p (.int .i64 done.length))]) () rfl ?_ ?_ ?_
 .simp only [go_sem,simprocAttr]<;>simp
 .intro _ e2;simp only [go_sem,simprocAttr];rw [e2];rfl
 .intro done x r _ e1 e2 hx hlt hnx;obtain ⟨g,first,cap,rfl,hc⟩:=hf x (by rw [e1];simp);simp only [hlt,decide_true,hx,ChLot.pv,go_sem,simprocAttr];refine ae hc (by simp [ChLot.pv]) ?_;simp only [go_sem,simprocAttr];refine aT (λhb=>?_) (λhb=>?_)
  .simp only [go_sem,simprocAttr];rw [e2];simp [aA,hb]
  .simp only [go_sem,simprocAttr];refine aF e1 () (by rw [e2];simp [aA,hb]) ?_;simp only [hnx,go_sem,simprocAttr]
theorem AQ {fv} (l:List ChLot) (p) (b) (sz) (hsz:sz=4) (hl:l.length<1000000000) (hf:∀ x,x∈l->jF TP fv [ChLot.pv x] (.bool (p x))) :
  ah TP 172 [.slice sz (l.map ChLot.pv) b,fv] (.bool (l.any p)):=by
 refine aa (ai (by kernel_rfl) rfl Yc) rfl ?_;simp only [go_sem,simprocAttr];refine ae (rL l p b sz hsz hl hf) rfl ?_;simp only [go_sem,simprocAttr];rw [gk]
theorem rK {fv} (l) (p) (b) (sz) (hsz:sz=4) (hl:l.length<1000000000) (hf:∀ x,x∈l->jF TP fv [ChBatch.pv x] (.bool (p x))) :
  ah TP 251 [.slice sz (l.map ChBatch.pv) b,fv] (.int .i64 (aA p l 0)):=by
 subst hsz;refine aa (ai (by kernel_rfl) rfl Xk) rfl ?_;simp only [go_sem,simprocAttr];refine ez [0,1,7] l hl (τ:=Unit) (λdone rest _=>aA p l 0=aA p rest done.length) (λdone _=>[(8,.p (.int .i64 done.length))]) () rfl ?_ ?_ ?_
 .simp only [go_sem,simprocAttr]<;>simp
 .intro _ e2;simp only [go_sem,simprocAttr];rw [e2];rfl
 .intro done x r _ e1 e2 hx hlt hnx;obtain ⟨g,first,cap,rfl,hc⟩:=hf x (by rw [e1];simp);simp only [hlt,decide_true,hx,ChBatch.pv,go_sem,simprocAttr];refine ae hc (by simp [ChBatch.pv]) ?_;simp only [go_sem,simprocAttr];refine aT (λhb=>?_) (λhb=>?_)
  .simp only [go_sem,simprocAttr];rw [e2];simp [aA,hb]
  .simp only [go_sem,simprocAttr];refine aF e1 () (by rw [e2];simp [aA,hb]) ?_;simp only [hnx,go_sem,simprocAttr]
theorem AP {fv} (l:List ChBatch) (p) (b) (sz) (hsz:sz=4) (hl:l.length<1000000000) (hf:∀ x,x∈l->jF TP fv [ChBatch.pv x] (.bool (p x))) :
  ah TP 177 [.slice sz (l.map ChBatch.pv) b,fv] (.bool (l.any p)):=by
 refine aa (ai (by kernel_rfl) rfl X8) rfl ?_;simp only [go_sem,simprocAttr];refine ae (rK l p b sz hsz hl hf) rfl ?_;simp only [go_sem,simprocAttr];rw [gk]
theorem LT (l) (b) (hl:l≠[]) (hlen:l.length<1000000000):g9 TP 270 [.slice 1 (l.map aK) b] (.slice 1 (l.map aK) false):=by
 refine fR (ai (by kernel_rfl) rfl W4) rfl ?_;have h1:¬ (l.map aK=[]):=by simpa using hl
 have h2:l.length<=aw:=by simp [aw];omega
 have h3:¬ ((l.map aK).map AV.p=[]):=by simpa using hl
 simp only [h1,h2,h3,go_sem,simprocAttr]
theorem NU (a b:Nat) (h:a+b<1000000000):IntKind.i64.wrap (Int.fdiv (IntKind.u64.wrap ((a)+(b))) 2)=(((a+b) / 2:Nat):Int):=by
 have e:IntKind.u64.wrap ((a:Int)+(b:Int))=((a+b:Nat):Int):=by
  unfold IntKind.wrap IntKind.signed IntKind.bits;simp;omega
 rw [e];have e2:Int.fdiv ((a+b:Nat):Int) 2=(((a+b) / 2:Nat):Int):=by
  rw [Int.fdiv_eq_ediv_of_nonneg _ (by omega)];omega
 rw [e2];exact cM (by omega) (by simp [aw];omega)
theorem Sa {fv} (n:Nat) (p:Nat->Bool) (hn:n<100000000) (hf:∀ i,i<n->jF TP fv [.int .i64 i] (.bool (p i))) (r) (hr:r<=n) (h1:∀ i,i<r->p i=false) (h2:∀ i,r<=i->i<n->p i=true) :
  ah TP 338 [.int .i64 n,fv] (.int .i64 r):=by
 refine aa (ai (by kernel_rfl) rfl V0) rfl ?_;simp only [go_sem,simprocAttr];refine tD [1] (σ:=Nat×Nat) (λs=>s.1<=r/\r<=s.2/\s.2<=n) (λs=>s.2-s.1) (λs=>[(5,.p (.int .i64 s.1)),(6,.p (.int .i64 s.2))]) (0,n) ⟨by omega,hr,by omega⟩ ?_ ?_
 .simp only [go_sem,simprocAttr]
 .rintro ⟨i,j⟩ ⟨g1,g2,g3⟩
  dsimp only at g1 g2 g3;simp only [go_sem,simprocAttr];refine aT (λhb=>?_) (λhb=>?_)
  .have hij:i<j:=by simpa using hb
   have hw:IntKind.i64.wrap ((i:Int)+(j:Int))=((i:Int)+(j:Int)):=cM (by omega) (by simp [aw];omega);have hh:=NU i j (by omega);have hp2:(2:Int)^min 1 64=2:=rfl;obtain ⟨g,first,cap,rfl,hc⟩:=hf ((i+j) / 2) (by omega);simp only [hw,fk,IntKind.bits,hp2,hh,go_sem,simprocAttr];refine ae hc (by simp) ?_;simp only [go_sem,simprocAttr];cases hpv:p ((i+j) / 2)
   .simp only [go_sem,simprocAttr];have hlt:¬ (r<=(i+j) / 2):=λh=>by rw [h2 _ h (by omega)] at hpv;cases hpv
    refine bW ((i+j) / 2+1,j) ⟨by omega,g2,g3⟩ (by dsimp only;omega) ?_;have hnx:IntKind.i64.wrap ((((i+j) / 2:Nat):Int)+1)=(((i+j) / 2+1:Nat):Int):=ba (by omega) (by simp [aw];omega) (by omega);simp only [hnx,go_sem,simprocAttr]
   .simp only [go_sem,simprocAttr];have hlt:r<=(i+j) / 2:=by
     rcases dr ((i+j) / 2) r with h | h
     .rw [h1 _ h] at hpv;cases hpv
     .exact h
    refine bW (i,(i+j) / 2) ⟨g1,hlt,by omega⟩ (by dsimp only;omega) ?_;simp only [go_sem,simprocAttr]
  .have hij:¬ (i<j):=by simpa using hb
   have:i=r:=by omega
   subst this;simp only [go_sem,simprocAttr]
def ar (n lo hi:Int):Bool:=decide (lo<=n)&&decide (n<=hi)
theorem y9 (n lo hi):ah TP 39 [.int .i64 n,.int .i64 lo,.int .i64 hi] (.bool (ar n lo hi)):=by
 refine aa (ai (by kernel_rfl) rfl zb7) rfl ?_;simp only [go_sem,simprocAttr];refine aT (λhb=>?_) (λhb=>?_)<;>simp only [hb,go_sem,simprocAttr]<;>simp [ar,hb]
theorem BV (n lo hi):ah TP 67 [.int .i64 n,.int .i64 lo,.int .i64 hi] (.bool (ar n lo hi)):=by
 refine aa (ai (by kernel_rfl) rfl zbK) rfl ?_;simp only [go_sem,simprocAttr];refine aT (λhb=>?_) (λhb=>?_)<;>simp only [hb,go_sem,simprocAttr]<;>simp [ar,hb]
theorem KB (n lo hi):ah TP 70 [.int .i64 n,.int .i64 lo,.int .i64 hi] (.bool (ar n lo hi)):=by
 refine aa (ai (by kernel_rfl) rfl zbH) rfl ?_;simp only [go_sem,simprocAttr];refine aT (λhb=>?_) (λhb=>?_)<;>simp only [hb,go_sem,simprocAttr]<;>simp [ar,hb]
theorem O7 (n lo hi):ah TP 73 [.int .i64 n,.int .i64 lo,.int .i64 hi] (.bool (ar n lo hi)):=by
 refine aa (ai (by kernel_rfl) rfl zbE) rfl ?_;simp only [go_sem,simprocAttr];refine aT (λhb=>?_) (λhb=>?_)<;>simp only [hb,go_sem,simprocAttr]<;>simp [ar,hb]
def du (lo hi low high:Int):Int:=if ar lo low high=true/\ar hi low high=true then (if hi<lo then 2 else 0) else 7
theorem pg (lo hi low high):ah TP 72 [.agg [.int .i64 lo,.int .i64 hi],.int .i64 low,.int .i64 high] (.int .i64 (du lo hi low high)):=by
 refine aa (ai (by kernel_rfl) rfl zbF) rfl ?_;simp only [go_sem,simprocAttr]
 repeat' first
  |(refine ae (y9 _ _ _) rfl ?_;simp only [go_sem,simprocAttr])
  |(refine aT (λhb=>?_) (λhb=>?_)<;>simp only [hb,go_sem,simprocAttr])
 all_goals simp_all [du]
def qg (c last:Int):Bool:=(c != 45&&(decide (c<97)||decide (122<c)))||(c==45&&last==45)
def dz:List UInt8->Int->Bool
 |[],last=>last != 45
 |c::r,last=>if qg c.toNat last=true then false else dz r c.toNat
def nameOk (s:ByteArray):Bool:=dz s.data.toList 45&&decide ((s.size:Int)<=20)
theorem oM (s:ByteArray) (i:Nat):s[i]?=s.data.toList[i]?:=by
 by_cases h:i<s.size
 .have h':i<s.data.toList.length:=by simpa using h
  rw [getElem?_pos s i h,bE h'];simp [ByteArray.getElem_eq_getElem_data]
 .rw [getElem?_neg s i h,ve];simpa using Jr h
attribute [go_sem] oM
theorem jE (s):ah TP 101 [.str s] (.bool (nameOk s)):=by
 refine aa (ai (by kernel_rfl) rfl Y3) rfl ?_;simp only [go_sem,simprocAttr]
 refine gu [0,7] (σ:=List UInt8×List UInt8×Int) (λq=>s.data.toList=q.1++q.2.1/\dz s.data.toList 45=dz q.2.1 q.2.2) (λq=>q.2.1.length)
  (λq=>[(3,.p (.int .i32 q.2.2))]) (λq=>[.strIter s q.1.length]) ([],s.data.toList,45) ⟨rfl,rfl⟩ ?_ ?_
 .simp only [go_sem,simprocAttr]
 .rintro ⟨done,rest,last⟩ ⟨e1,e2⟩
  dsimp only at e1 e2
  cases rest with
  |nil =>
   have hlt:¬ (done.length<s.size):=by
    have:=congrArg List.length e1;simp at this |-;omega
   simp only [hlt,go_sem,simprocAttr];refine aT (λhb=>?_) (λhb=>?_)<;>simp only [hb,go_sem,simprocAttr]
   .simp [nameOk,e2,dz,hb]
   .simp [nameOk,e2,dz,hb]
  |cons c r =>
   obtain ⟨hx,_⟩:=de e1;have hlt:done.length<s.size:=by
    have:=congrArg List.length e1;simp at this |-;omega
   have hc:(s[done.length]'hlt)=c:=by
    have:=oM s done.length;rw [hx,getElem?_pos s done.length hlt] at this;exact lE this
   rcases dr c.toNat 128 with hlow | hhigh
   .have hd:Utf8.decode s done.length=(c.toNat,1):=by
     rw [decode_ascii s done.length hlt (by rw [hc];exact hlow),hc]
    simp only [hlt,hd,go_sem,simprocAttr]
    repeat' first
     |(refine aT (λhb=>?_) (λhb=>?_)<;>simp only [hb,go_sem,simprocAttr])
    all_goals first
     |(refine bW (done++[c],r,(c.toNat:Int)) ⟨by simp [e1],?_⟩ (by simp) ?_
       .rw [e2];simp_all [dz,qg]
       .simp only [go_sem,simprocAttr];simp)
     |(simp only [nameOk,e2];simp_all [dz,qg];done)
   .have hd:=decode_high s done.length hlt (by rw [hc];exact hhigh);have h1:(((Utf8.decode s done.length).1:Int) != 45)=true:=by simp;omega
    have h2:decide (((Utf8.decode s done.length).1:Int)<97)=false:=by simp;omega
    have h3:decide ((122:Int)<((Utf8.decode s done.length).1:Int))=true:=by simp;omega
    simp only [hlt,h1,h2,h3,go_sem,simprocAttr];have hbad:qg c.toNat last=true:=by
     have g1:((c.toNat:Int) != 45)=true:=by simp;omega
     have g3:decide ((122:Int)<(c.toNat:Int))=true:=by simp;omega
     simp [qg,g1,g3]
    simp [nameOk,e2,dz,hbad]
theorem B4 (c last):qg c last=((c != 45&&!ar c 97 122)||(c==45&&last==45)):=by
 have:(!ar c 97 122)=(decide (c<97)||decide (122<c)):=by
  unfold ar;rw [kO]
  congr 1
  .rw [<-decide_not];congr 1;simp
  .rw [<-decide_not];congr 1;simp
 rw [qg,this]
def o9 (l:List UInt8):Int:=match l.getLast? with | some c=>(c.toNat:Int) | none=>45
theorem Ag (l) (c):o9 (l++[c])=(c.toNat:Int):=by simp [o9]
theorem QN (c:UInt8):IntKind.i64.wrap (c.toNat:Int)=(c.toNat:Int):=cM (by omega) (by have:=c.toNat_lt;simp [aw];omega)
theorem F6 (s):ah TP 20 [.str s] (.bool (nameOk s)):=by
 refine aa (ai (by kernel_rfl) rfl zck) rfl ?_;simp only [go_sem,simprocAttr];refine ae (y9 _ _ _) rfl ?_;cases hr:ar s.size 1 20
 .simp only [go_sem,simprocAttr];have:nameOk s=false:=by
   unfold nameOk
   cases hb:s.data.toList with
   |nil=>simp [dz]
   |cons b bs =>
    have:1<=s.size:=by have:=congrArg List.length hb;simp at this;omega
    have h2:¬ ((s.size:Int)<=20):=by
     intro h;have h1:(1:Int)<=(s.size:Int):=by omega
     simp [ar,h,h1] at hr
    simp [h2]
  rw [this]
 .have hr':(1:Int)<=(s.size:Int)/\(s.size:Int)<=20:=by simpa [ar] using hr
  have hlen:s.data.toList.length=s.size:=by simp
  obtain ⟨b0,h0⟩:∃ b,s.data.toList[0]?=some b:=⟨_,bE (by omega)⟩
  obtain ⟨bl,hl⟩:∃ b,s.data.toList[s.size-1]?=some b:=⟨_,bE (by omega)⟩
  have hgl:s.data.toList.getLast?=some bl:=by rw [List.getLast?_eq_getElem?,hlen];exact hl
  have hw:IntKind.i64.wrap ((s.size:Int)-1)=((s.size-1:Nat):Int):=by
   rw [cM (by omega) (by simp [aw];omega)];omega
  have hlt1:(((s.size-1:Nat):Int))<(s.size:Int):=by omega
  have hsz:nameOk s=dz s.data.toList 45:=by unfold nameOk;simp [hr'.2]
  rw [hsz];simp only [oM,h0,go_sem,simprocAttr];cases hb0:((b0.toNat:Int)==45)
  .simp only [oM,hw,hl,go_sem,simprocAttr];cases hbl:((bl.toNat:Int)==45)
   .simp only [go_sem,simprocAttr]
    refine gu [0] (σ:=List UInt8×List UInt8) (λq=>s.data.toList=q.1++q.2/\dz s.data.toList 45=dz q.2 (o9 q.1)) (λq=>q.2.length)
     (λq=>[(3,.p (.int .i64 q.1.length))]) (λ_=>[]) ([],s.data.toList) ⟨rfl,rfl⟩ ?_ ?_
    .simp only [go_sem,simprocAttr]<;>simp
    .rintro ⟨done,rest⟩ ⟨e1,e2⟩
     dsimp only at e1 e2
     cases rest with
     |nil =>
      have hlt:¬ ((done.length:Int)<(s.size:Int)):=by
       have:=congrArg List.length e1;simp at this;omega
      simp only [hlt,decide_false,go_sem,simprocAttr];rw [e2];have:o9 done=(bl.toNat:Int):=by
       rw [e1] at hgl;simp at hgl;simp [o9,hgl]
      simp [dz,this,bne,hbl]
     |cons c r =>
      obtain ⟨hx,_⟩:=de e1;have hlt:(done.length:Int)<(s.size:Int):=by
       have:=congrArg List.length e1;simp at this;omega
      have hnx:IntKind.i64.wrap ((done.length:Int)+1)=(((done++[c]).length:Nat):Int):=ba (by omega) (by simp [aw];omega) (by simp);simp only [hlt,decide_true,oM,hx,go_sem,simprocAttr];have back:qg c.toNat (o9 done)=false->dz s.data.toList 45=dz r (o9 (done++[c])):=λh=>by
       rw [e2,dz,h,Ag];rfl
      have gone:qg c.toNat (o9 done)=true->dz s.data.toList 45=false:=λh=>by
       rw [e2,dz,if_pos h]
      rw [B4] at back gone;have next:qg c.toNat (o9 done)=false->(s.data.toList=(done++[c])++r/\dz s.data.toList 45=dz r (o9 (done++[c]))):=λh=>⟨by simp [e1],by rw [B4] at h;exact back h⟩
      rw [B4] at next;cases hc:((c.toNat:Int)==45)
      .have hc':((c.toNat:Int) != 45)=true:=by simp [bne,hc]
       simp only [hc',hx,QN,go_sem,simprocAttr];refine ae (y9 _ _ _) rfl ?_;cases hg:ar c.toNat 97 122
       .simp only [go_sem,simprocAttr];rw [gone (by simp [hc',hg])]
       .simp only [go_sem,simprocAttr];refine aT (λhp=>?_) (λhp=>?_)<;>simp only [hp,go_sem,simprocAttr]
        .simp only [hx,hc,go_sem,simprocAttr];refine bW (done++[c],r) (next (by simp [hc,hg])) (by simp) ?_;simp only [hnx,go_sem,simprocAttr]
        .refine bW (done++[c],r) (next (by simp [hc,hg])) (by simp) ?_;simp only [hnx,go_sem,simprocAttr]
      .have hc':((c.toNat:Int) != 45)=false:=by simp [bne,hc]
       simp only [hc',go_sem,simprocAttr];rcases wU done with rfl | ⟨pre,d,hpd⟩
       .exfalso;rw [e1] at h0;simp at h0;subst h0;rw [hc] at hb0;cases hb0
       .rw [wZ] at hpd;subst hpd;have hp:decide ((0:Int)<(((pre++[d]).length:Nat):Int))=true:=by simp<;>omega
        have hw1:IntKind.i64.wrap ((((pre++[d]).length:Nat):Int)-1)=((pre.length:Nat):Int):=by
         rw [cM (by simp<;>omega) (by simp [aw] at hlt |-;omega)];simp
        have hd:s.data.toList[pre.length]?=some d:=by rw [e1];simp
        simp only [hp,hx,hc,hw1,hd,go_sem,simprocAttr];rw [Ag] at back gone next;cases hd45:((d.toNat:Int)==45)
        .simp only [go_sem,simprocAttr];refine bW (pre++[d]++[c],r) (next (by simp [hc,bne,hd45])) (by simp) ?_;simp only [hnx,go_sem,simprocAttr]
        .simp only [go_sem,simprocAttr];rw [gone (by simp [hc,hd45])]
   .simp only [go_sem,simprocAttr];have:∀ (l:List UInt8) (p:Int),l.getLast?=some bl->dz l p=false:=by
     intro l
     induction l with
     |nil=>intro p h;cases h
     |cons c r ih =>
      intro p h;unfold dz;split
      .rfl
      .cases r with
       |nil =>
        simp at h;subst h
        simp [dz,bne,hbl]
       |cons c' r'=>exact ih _ (by simpa using h)
    rw [this _ _ hgl]
  .simp only [go_sem,simprocAttr];have:dz s.data.toList 45=false:=by
    cases hbs:s.data.toList with
    |nil=>rw [hbs] at h0;cases h0
    |cons c r =>
     rw [hbs] at h0;simp at h0;subst h0;unfold dz;rw [if_pos];simp [qg,hb0]
   rw [this]
def firstErr {α:Type} (f:List ByteArray->α->Int) (nm:α->ByteArray):List α->List ByteArray->Option (Int×Int)
 |[],_=>none
 |x::r,before=>if f before x=0 then firstErr f nm r (before++[nm x]) else some ((before.length:Int),f before x)
def al (t:Int×Int×Int):PV:=.tuple [.int .i64 t.1,.int .i64 t.2.1,.int .i64 t.2.2]
def am (before:List ByteArray) (s:ByteArray):Int:=if nameOk s=true then (if before.any (λt=>t==s)=true then 5 else 0) else 6
theorem MN (s) (l) (b) (hl:l.length<1000000000):ah TP 65 [.str s,.slice 1 (l.map .str) b] (.int .i64 (am l s)):=by
 refine aa (ai (by kernel_rfl) rfl zbM) rfl ?_;simp only [go_sem,simprocAttr];refine ae (F6 s) rfl ?_;simp only [go_sem,simprocAttr];cases hn:nameOk s
 .simp only [go_sem,simprocAttr];simp [am,hn]
 .simp only [go_sem,simprocAttr];refine tD [0,1] (σ:=List ByteArray×List ByteArray) (λq=>l=q.1++q.2/\am l s=(if q.2.any (λt=>t==s)=true then 5 else 0)) (λq=>q.2.length) (λq=>[(5,.p (.int .i64 q.1.length))]) ([],l) ⟨rfl,by simp [am,hn]⟩ ?_ ?_
  .simp only [go_sem,simprocAttr]<;>simp
  .rintro ⟨done,rest⟩ ⟨e1,e2⟩
   dsimp only at e1 e2
   cases rest with
   |nil =>
    have hlt:¬ ((done.length:Int)<(l.length:Int)):=by rw [e1];simp
    simp only [hlt,decide_false,go_sem,simprocAttr]
    rw [e2];rfl
   |cons x r =>
    obtain ⟨hx,hlt⟩:=de e1;have hnx:IntKind.i64.wrap ((done.length:Int)+1)=(((done++[x]).length:Nat):Int):=ba (by omega) (by simp [aw];omega) (by simp);simp only [hlt,decide_true,hx,go_sem,simprocAttr];rw [bp] at e2;cases hb:(x==s)
    .simp only [go_sem,simprocAttr];refine bW (done++[x],r) ⟨by simp [e1],by rw [e2,hb];rfl⟩ (by simp) ?_;simp only [hnx,go_sem,simprocAttr]
    .simp only [go_sem,simprocAttr];rw [e2,hb];rfl
theorem jq (s) (l) (b) (xs) (hx:xs=l.map .str) (hl:l.length<1000000000):ah TP 65 [.str s,.slice 1 xs b] (.int .i64 (am l s)):=by
 subst hx;exact MN s l b hl
end Abs
end Go.Proofs.YtfafnkpfamgbbaaGreatDoor
