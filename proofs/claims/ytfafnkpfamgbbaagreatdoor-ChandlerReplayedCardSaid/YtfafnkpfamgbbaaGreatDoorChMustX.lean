/-
  CONTRACTS: chandler: must, find, said. No conditions but those in the theorems' heads.
  CONTRACTS: chandler: said. No conditions but those in the theorems' heads.
  CONTRACTS: hour.Broken, as new memory. No conditions but those in the theorems' heads.
-/
import Derived.Test.YtfafnkpfamgbbaaGreatDoorAbsCutX
import Derived.Test.YtfafnkpfamgbbaaGreatDoorBdFillX
import Derived.Test.YtfafnkpfamgbbaaGreatDoorHrUseX
set_option linter.unusedSimpArgs false
set_option linter.unusedVariables false
open Go.Proofs.Tryz renaming prog->TP
namespace Go.Proofs.YtfafnkpfamgbbaaGreatDoor
namespace Abs
namespace Ch
set_option maxRecDepth 4000
def sS (P:Program) (f:FuncId) (pargs:List PV) (e:PV):Prop :=
 ∀ (M0:Nat->Prop) (w:World) (cargs:Array Value),(∀ b,M0 b->b<w.heap.size)->u9 P w->qL M0 w cargs pargs ->
  (∀ w',(callFunc f cargs).run P w'=.ok (.enter f cargs) w') /\
  Calls P f cargs w λen w'=>∃ v',en=.panicked [{ v:=v',recovered:=false }]/\RepP M0 w' v' e/\Fr [] w w'
theorem gV {P} {f} {pargs} {e} (h:aC P f (pargs.map .p) [] (λr _=>r=.panic e)):sS P f pargs e:=by
 intro M0 w cargs hM hg ha;have ha':dM (Rep M0 ⟨[],[],w⟩) cargs (pargs.map .p):=by
  refine ⟨by simpa using ha.1,λi c hc=>?_⟩;simp only [cv,bT] at hc;obtain ⟨q,hq,rfl⟩:=hc;exact aG ((ha.2 i q hq).mono (λ_ _ _=>rfl) (λb hb=>by
   rcases hb with hb | hb
   .exact .inl hb
   .simp [Own] at hb))
 have:=h M0 [] w cargs (qQ hM hg) ha';refine ⟨this.1,this.2.mono λen w' hh=>?_⟩;obtain ⟨r,h',m',rfl,hev,hk,hend⟩:=hh
 cases en with
 |returned v'=>exact hend.elim
 |panicked ch =>
  obtain ⟨v',h1,h2⟩:=hend
  exact ⟨v',by rw [h1],RepP.less h2 (λb hb=>.inl hb),hev.fr⟩
 |outgrown=>exact hend.elim
theorem DH {P} {f} {args} {pargs} {e} {h} (hc:sS P f pargs e) (ha:qb h args=some pargs) (hv:Flat e):aC P f args h (λr h'=>r=.panic e/\h'=h):=by
 intro M0 m w cargs hS hargs;obtain ⟨hl,hg⟩:=BD ha;have hpa:qL M0 w cargs pargs:=by
  refine ⟨by rw [hargs.1,hl],λi c hi=>?_⟩;obtain ⟨a,h1,h2⟩:=hg i c hi;exact rD (S:=⟨m,h,w⟩) hS (hargs.2 i a h1) h2
 obtain ⟨h1,h2⟩:=hc M0 w cargs (λb hb=>(hS.m0 b hb).1) hS.gl.1 hpa;refine ⟨h1,h2.mono λen w' hh=>?_⟩;obtain ⟨v',rfl,hr,hfr⟩:=hh;obtain ⟨hk,hev⟩:=sm hS hfr;exact ⟨.panic e,_,m,⟨rfl,rfl⟩,hev,hk,⟨v',rfl,hv.rep hr⟩⟩
theorem rS {P} {H} {Q} {ops} {rest} {dst} {A} {f} {args} {pargs} {e} (hc:sS P f pargs e) (ha:qb A.h args=some pargs) (hv:Flat e)
  (h2:@WQ ⟨Q⟩ (.panic e) A):@WF ⟨P,H,ops,rest,Q,dst⟩ A f args :=
 cq (DH hc ha hv) (λv h hr=>by cases hr.1) (λv h hr=>by obtain ⟨e,rfl⟩:=hr;cases e;exact h2)
def gp (e:Int):PV:=.iface 43 (.int .i64 e)
attribute [go_sem] gp
theorem mX (e):Flat (gp e):=.iface (.int _ _)
theorem xt (b) (e) (h):aC TP 94 [.p (.bool b),.p (.int .i64 e)] h (λr h'=>h'=h/\r=if b=true then .ret (.p (.tuple [])) else .panic (gp e)):=by
 refine aB (ai (by kernel_rfl) rfl zbm) rfl ?_;simp only [go_sem,simprocAttr];cases b
 .simp only [go_sem,simprocAttr]
 .simp only [go_sem,simprocAttr]
theorem az {H} {Q} {ops} {rest} {dst} {A} {b} {e} (h1:b=true->@WO ⟨TP,H,ops,rest,Q⟩ (A.put dst (.p (.tuple [])) A.h))
  (h2:b=false->@WQ ⟨Q⟩ (.panic (gp e)) A):@WF ⟨TP,H,ops,rest,Q,dst⟩ A 94 [.p (.bool b),.p (.int .i64 e)]:=by
 refine cq (xt b e A.h) (λv h hr=>?_) (λv h hr=>?_)
 .obtain ⟨rfl,hr⟩:=hr;cases b
  .cases hr
  .cases hr;exact h1 rfl
 .obtain ⟨rfl,hr⟩:=hr;cases b
  .cases hr;exact h2 rfl
  .cases hr
theorem Sl (x:WxKind):ah TP 175 [x.pv] (.str x.name):=by
 refine aa (ai (by kernel_rfl) rfl Ya) rfl ?_;simp only [go_sem,simprocAttr]
theorem IT (s) (x:WxKind):ah TP 248 [x.pv,.ptr 1 [.func (.func 175) [] []] 0 0,.ptr 1 [.str s] 0 0] (.bool (x.name==s)):=by
 refine aa (ai (by kernel_rfl) rfl Xn) rfl ?_;simp only [go_sem,simprocAttr];refine aD (Sl x) rfl ?_;simp only [go_sem,simprocAttr]
theorem UR (l) (s) (b) (hl:l.length<1000000000) (h0:0<=aA (λx=>x.name==s) l 0) :
  ah TP 174 [.slice 2 (l.map WxKind.pv) b,.str s,.func (.func 175) [] []] (.int .i64 (aA (λx=>x.name==s) l 0)):=by
 refine aa (ai (by kernel_rfl) rfl Qd) rfl ?_;simp only [go_sem,simprocAttr];refine bf (sP (fv:=.func (.func 248) [] [.ptr 1 [.func (.func 175) [] []] 0 0,.ptr 1 [.str s] 0 0]) l (λy=>y.name==s) b 2 rfl hl λy _=>⟨_,_,_,rfl,IT s y⟩) ?_ (.int _ _) ?_
 .simp only [go_sem,simprocAttr]
 have hd:decide (0<=aA (λx:WxKind=>x.name==s) l 0)=true:=by simpa using h0
 simp only [hd,go_sem,simprocAttr];refine az (λ_=>?_) (λh=>by cases h);simp only [go_sem,simprocAttr]
theorem TI (l) (s) (b) (hl:l.length<1000000000) (h0:aA (λx=>x.name==s) l 0<0) :
  sS TP 174 [.slice 2 (l.map WxKind.pv) b,.str s,.func (.func 175) [] []] (gp 4):=by
 refine gV ?_;refine aB (ai (by kernel_rfl) rfl Qd) rfl ?_;simp only [go_sem,simprocAttr];refine bf (sP (fv:=.func (.func 248) [] [.ptr 1 [.func (.func 175) [] []] 0 0,.ptr 1 [.str s] 0 0]) l (λy=>y.name==s) b 2 rfl hl λy _=>⟨_,_,_,rfl,IT s y⟩) ?_ (.int _ _) ?_
 .simp only [go_sem,simprocAttr]
 have hd:decide (0<=aA (λx:WxKind=>x.name==s) l 0)=false:=by simpa using h0
 simp only [hd,go_sem,simprocAttr];refine az (λh=>by cases h) (λ_=>?_);simp only [go_sem,simprocAttr]
theorem Sk (x:ClColour):ah TP 180 [x.pv] (.str x.name):=by
 refine aa (ai (by kernel_rfl) rfl X6) rfl ?_;simp only [go_sem,simprocAttr]
theorem IS (s) (x:ClColour):ah TP 252 [x.pv,.ptr 1 [.func (.func 180) [] []] 0 0,.ptr 1 [.str s] 0 0] (.bool (x.name==s)):=by
 refine aa (ai (by kernel_rfl) rfl P6) rfl ?_;simp only [go_sem,simprocAttr];refine aD (Sk x) rfl ?_;simp only [go_sem,simprocAttr]
theorem UQ (l) (s) (b) (hl:l.length<1000000000) (h0:0<=aA (λx=>x.name==s) l 0) :
  ah TP 179 [.slice 4 (l.map ClColour.pv) b,.str s,.func (.func 180) [] []] (.int .i64 (aA (λx=>x.name==s) l 0)):=by
 refine aa (ai (by kernel_rfl) rfl D') rfl ?_;simp only [go_sem,simprocAttr];refine bf (mq (fv:=.func (.func 252) [] [.ptr 1 [.func (.func 180) [] []] 0 0,.ptr 1 [.str s] 0 0]) l (λy=>y.name==s) b 4 rfl hl λy _=>⟨_,_,_,rfl,IS s y⟩) ?_ (.int _ _) ?_
 .simp only [go_sem,simprocAttr]
 have hd:decide (0<=aA (λx:ClColour=>x.name==s) l 0)=true:=by simpa using h0
 simp only [hd,go_sem,simprocAttr];refine az (λ_=>?_) (λh=>by cases h);simp only [go_sem,simprocAttr]
theorem TH (l) (s) (b) (hl:l.length<1000000000) (h0:aA (λx=>x.name==s) l 0<0) :
  sS TP 179 [.slice 4 (l.map ClColour.pv) b,.str s,.func (.func 180) [] []] (gp 4):=by
 refine gV ?_;refine aB (ai (by kernel_rfl) rfl D') rfl ?_;simp only [go_sem,simprocAttr];refine bf (mq (fv:=.func (.func 252) [] [.ptr 1 [.func (.func 180) [] []] 0 0,.ptr 1 [.str s] 0 0]) l (λy=>y.name==s) b 4 rfl hl λy _=>⟨_,_,_,rfl,IS s y⟩) ?_ (.int _ _) ?_
 .simp only [go_sem,simprocAttr]
 have hd:decide (0<=aA (λx:ClColour=>x.name==s) l 0)=false:=by simpa using h0
 simp only [hd,go_sem,simprocAttr];refine az (λh=>by cases h) (λ_=>?_);simp only [go_sem,simprocAttr]
theorem Sj (x:ClColour):ah TP 255 [x.pv] (.str x.name):=by
 refine aa (ai (by kernel_rfl) rfl Xh) rfl ?_;simp only [go_sem,simprocAttr]
theorem IR (s) (x:ClColour):ah TP 252 [x.pv,.ptr 1 [.func (.func 255) [] []] 0 0,.ptr 1 [.str s] 0 0] (.bool (x.name==s)):=by
 refine aa (ai (by kernel_rfl) rfl P6) rfl ?_;simp only [go_sem,simprocAttr];refine aD (Sj x) rfl ?_;simp only [go_sem,simprocAttr]
theorem MU (l) (s) (b) (hl:l.length<1000000000) (h0:0<=aA (λx=>x.name==s) l 0) :
  ah TP 179 [.slice 4 (l.map ClColour.pv) b,.str s,.func (.func 255) [] []] (.int .i64 (aA (λx=>x.name==s) l 0)):=by
 refine aa (ai (by kernel_rfl) rfl D') rfl ?_;simp only [go_sem,simprocAttr];refine bf (mq (fv:=.func (.func 252) [] [.ptr 1 [.func (.func 255) [] []] 0 0,.ptr 1 [.str s] 0 0]) l (λy=>y.name==s) b 4 rfl hl λy _=>⟨_,_,_,rfl,IR s y⟩) ?_ (.int _ _) ?_
 .simp only [go_sem,simprocAttr]
 have hd:decide (0<=aA (λx:ClColour=>x.name==s) l 0)=true:=by simpa using h0
 simp only [hd,go_sem,simprocAttr];refine az (λ_=>?_) (λh=>by cases h);simp only [go_sem,simprocAttr]
theorem TG (l) (s) (b) (hl:l.length<1000000000) (h0:aA (λx=>x.name==s) l 0<0) :
  sS TP 179 [.slice 4 (l.map ClColour.pv) b,.str s,.func (.func 255) [] []] (gp 4):=by
 refine gV ?_;refine aB (ai (by kernel_rfl) rfl D') rfl ?_;simp only [go_sem,simprocAttr];refine bf (mq (fv:=.func (.func 252) [] [.ptr 1 [.func (.func 255) [] []] 0 0,.ptr 1 [.str s] 0 0]) l (λy=>y.name==s) b 4 rfl hl λy _=>⟨_,_,_,rfl,IR s y⟩) ?_ (.int _ _) ?_
 .simp only [go_sem,simprocAttr]
 have hd:decide (0<=aA (λx:ClColour=>x.name==s) l 0)=false:=by simpa using h0
 simp only [hd,go_sem,simprocAttr];refine az (λh=>by cases h) (λ_=>?_);simp only [go_sem,simprocAttr]
theorem Si (x:ChLot):ah TP 182 [x.pv] (.str x.name):=by
 refine aa (ai (by kernel_rfl) rfl X5) rfl ?_;simp only [go_sem,simprocAttr]
theorem IQ (s) (x:ChLot):ah TP 253 [x.pv,.ptr 1 [.func (.func 182) [] []] 0 0,.ptr 1 [.str s] 0 0] (.bool (x.name==s)):=by
 refine aa (ai (by kernel_rfl) rfl Xj) rfl ?_;simp only [go_sem,simprocAttr];refine aD (Si x) rfl ?_;simp only [go_sem,simprocAttr]
theorem UP (l) (s) (b) (hl:l.length<1000000000) (h0:0<=aA (λx=>x.name==s) l 0) :
  ah TP 181 [.slice 4 (l.map ChLot.pv) b,.str s,.func (.func 182) [] []] (.int .i64 (aA (λx=>x.name==s) l 0)):=by
 refine aa (ai (by kernel_rfl) rfl Qc) rfl ?_;simp only [go_sem,simprocAttr];refine bf (rL (fv:=.func (.func 253) [] [.ptr 1 [.func (.func 182) [] []] 0 0,.ptr 1 [.str s] 0 0]) l (λy=>y.name==s) b 4 rfl hl λy _=>⟨_,_,_,rfl,IQ s y⟩) ?_ (.int _ _) ?_
 .simp only [go_sem,simprocAttr]
 have hd:decide (0<=aA (λx:ChLot=>x.name==s) l 0)=true:=by simpa using h0
 simp only [hd,go_sem,simprocAttr];refine az (λ_=>?_) (λh=>by cases h);simp only [go_sem,simprocAttr]
theorem TF (l) (s) (b) (hl:l.length<1000000000) (h0:aA (λx=>x.name==s) l 0<0) :
  sS TP 181 [.slice 4 (l.map ChLot.pv) b,.str s,.func (.func 182) [] []] (gp 4):=by
 refine gV ?_;refine aB (ai (by kernel_rfl) rfl Qc) rfl ?_;simp only [go_sem,simprocAttr];refine bf (rL (fv:=.func (.func 253) [] [.ptr 1 [.func (.func 182) [] []] 0 0,.ptr 1 [.str s] 0 0]) l (λy=>y.name==s) b 4 rfl hl λy _=>⟨_,_,_,rfl,IQ s y⟩) ?_ (.int _ _) ?_
 .simp only [go_sem,simprocAttr]
 have hd:decide (0<=aA (λx:ChLot=>x.name==s) l 0)=false:=by simpa using h0
 simp only [hd,go_sem,simprocAttr];refine az (λh=>by cases h) (λ_=>?_);simp only [go_sem,simprocAttr]
theorem Sh (x:ChBatch):ah TP 184 [x.pv] (.str x.name):=by
 refine aa (ai (by kernel_rfl) rfl X4) rfl ?_;simp only [go_sem,simprocAttr]
theorem IP (s) (x:ChBatch):ah TP 254 [x.pv,.ptr 1 [.func (.func 184) [] []] 0 0,.ptr 1 [.str s] 0 0] (.bool (x.name==s)):=by
 refine aa (ai (by kernel_rfl) rfl Xi) rfl ?_;simp only [go_sem,simprocAttr];refine aD (Sh x) rfl ?_;simp only [go_sem,simprocAttr]
theorem UO (l) (s) (b) (hl:l.length<1000000000) (h0:0<=aA (λx=>x.name==s) l 0) :
  ah TP 183 [.slice 4 (l.map ChBatch.pv) b,.str s,.func (.func 184) [] []] (.int .i64 (aA (λx=>x.name==s) l 0)):=by
 refine aa (ai (by kernel_rfl) rfl Qb) rfl ?_;simp only [go_sem,simprocAttr];refine bf (rK (fv:=.func (.func 254) [] [.ptr 1 [.func (.func 184) [] []] 0 0,.ptr 1 [.str s] 0 0]) l (λy=>y.name==s) b 4 rfl hl λy _=>⟨_,_,_,rfl,IP s y⟩) ?_ (.int _ _) ?_
 .simp only [go_sem,simprocAttr]
 have hd:decide (0<=aA (λx:ChBatch=>x.name==s) l 0)=true:=by simpa using h0
 simp only [hd,go_sem,simprocAttr];refine az (λ_=>?_) (λh=>by cases h);simp only [go_sem,simprocAttr]
theorem TE (l) (s) (b) (hl:l.length<1000000000) (h0:aA (λx=>x.name==s) l 0<0) :
  sS TP 183 [.slice 4 (l.map ChBatch.pv) b,.str s,.func (.func 184) [] []] (gp 4):=by
 refine gV ?_;refine aB (ai (by kernel_rfl) rfl Qb) rfl ?_;simp only [go_sem,simprocAttr];refine bf (rK (fv:=.func (.func 254) [] [.ptr 1 [.func (.func 184) [] []] 0 0,.ptr 1 [.str s] 0 0]) l (λy=>y.name==s) b 4 rfl hl λy _=>⟨_,_,_,rfl,IP s y⟩) ?_ (.int _ _) ?_
 .simp only [go_sem,simprocAttr]
 have hd:decide (0<=aA (λx:ChBatch=>x.name==s) l 0)=false:=by simpa using h0
 simp only [hd,go_sem,simprocAttr];refine az (λh=>by cases h) (λ_=>?_);simp only [go_sem,simprocAttr]
theorem Sg (x:HrKind):ah TP 188 [x.pv] (.str x.name):=by
 refine aa (ai (by kernel_rfl) rfl X2) rfl ?_;simp only [go_sem,simprocAttr]
theorem IN (s) (x:HrKind):ah TP 257 [x.pv,.ptr 1 [.func (.func 188) [] []] 0 0,.ptr 1 [.str s] 0 0] (.bool (x.name==s)):=by
 refine aa (ai (by kernel_rfl) rfl Xg) rfl ?_;simp only [go_sem,simprocAttr];refine aD (Sg x) rfl ?_;simp only [go_sem,simprocAttr]
theorem UN (l) (s) (b) (hl:l.length<1000000000) (h0:0<=aA (λx=>x.name==s) l 0) :
  ah TP 187 [.slice 4 (l.map HrKind.pv) b,.str s,.func (.func 188) [] []] (.int .i64 (aA (λx=>x.name==s) l 0)):=by
 refine aa (ai (by kernel_rfl) rfl P') rfl ?_;simp only [go_sem,simprocAttr];refine bf (pj (fv:=.func (.func 257) [] [.ptr 1 [.func (.func 188) [] []] 0 0,.ptr 1 [.str s] 0 0]) l (λy=>y.name==s) b 4 rfl hl λy _=>⟨_,_,_,rfl,IN s y⟩) ?_ (.int _ _) ?_
 .simp only [go_sem,simprocAttr]
 have hd:decide (0<=aA (λx:HrKind=>x.name==s) l 0)=true:=by simpa using h0
 simp only [hd,go_sem,simprocAttr];refine az (λ_=>?_) (λh=>by cases h);simp only [go_sem,simprocAttr]
theorem TD (l) (s) (b) (hl:l.length<1000000000) (h0:aA (λx=>x.name==s) l 0<0) :
  sS TP 187 [.slice 4 (l.map HrKind.pv) b,.str s,.func (.func 188) [] []] (gp 4):=by
 refine gV ?_;refine aB (ai (by kernel_rfl) rfl P') rfl ?_;simp only [go_sem,simprocAttr];refine bf (pj (fv:=.func (.func 257) [] [.ptr 1 [.func (.func 188) [] []] 0 0,.ptr 1 [.str s] 0 0]) l (λy=>y.name==s) b 4 rfl hl λy _=>⟨_,_,_,rfl,IN s y⟩) ?_ (.int _ _) ?_
 .simp only [go_sem,simprocAttr]
 have hd:decide (0<=aA (λx:HrKind=>x.name==s) l 0)=false:=by simpa using h0
 simp only [hd,go_sem,simprocAttr];refine az (λh=>by cases h) (λ_=>?_);simp only [go_sem,simprocAttr]
theorem Sf (x:Wax):ah TP 192 [x.pv] (.str x.name):=by
 refine aa (ai (by kernel_rfl) rfl XZ) rfl ?_;simp only [go_sem,simprocAttr]
theorem IM (s) (x:Wax):ah TP 261 [x.pv,.ptr 1 [.func (.func 192) [] []] 0 0,.ptr 1 [.str s] 0 0] (.bool (x.name==s)):=by
 refine aa (ai (by kernel_rfl) rfl Xc) rfl ?_;simp only [go_sem,simprocAttr];refine aD (Sf x) rfl ?_;simp only [go_sem,simprocAttr]
theorem UM (l) (s) (b) (hl:l.length<1000000000) (h0:0<=aA (λx=>x.name==s) l 0) :
  ah TP 191 [.slice 8 (l.map Wax.pv) b,.str s,.func (.func 192) [] []] (.int .i64 (aA (λx=>x.name==s) l 0)):=by
 refine aa (ai (by kernel_rfl) rfl P9) rfl ?_;simp only [go_sem,simprocAttr];refine bf (sQ (fv:=.func (.func 261) [] [.ptr 1 [.func (.func 192) [] []] 0 0,.ptr 1 [.str s] 0 0]) l (λy=>y.name==s) b 8 rfl hl λy _=>⟨_,_,_,rfl,IM s y⟩) ?_ (.int _ _) ?_
 .simp only [go_sem,simprocAttr]
 have hd:decide (0<=aA (λx:Wax=>x.name==s) l 0)=true:=by simpa using h0
 simp only [hd,go_sem,simprocAttr];refine az (λ_=>?_) (λh=>by cases h);simp only [go_sem,simprocAttr]
theorem TC (l) (s) (b) (hl:l.length<1000000000) (h0:aA (λx=>x.name==s) l 0<0) :
  sS TP 191 [.slice 8 (l.map Wax.pv) b,.str s,.func (.func 192) [] []] (gp 4):=by
 refine gV ?_;refine aB (ai (by kernel_rfl) rfl P9) rfl ?_;simp only [go_sem,simprocAttr];refine bf (sQ (fv:=.func (.func 261) [] [.ptr 1 [.func (.func 192) [] []] 0 0,.ptr 1 [.str s] 0 0]) l (λy=>y.name==s) b 8 rfl hl λy _=>⟨_,_,_,rfl,IM s y⟩) ?_ (.int _ _) ?_
 .simp only [go_sem,simprocAttr]
 have hd:decide (0<=aA (λx:Wax=>x.name==s) l 0)=false:=by simpa using h0
 simp only [hd,go_sem,simprocAttr];refine az (λh=>by cases h) (λ_=>?_);simp only [go_sem,simprocAttr]
inductive Word where
 |s (l:List UInt8)
 |n (i:Int)
 |ns (l:List Int)
def Word.pv:Word->PV
 |.s l=>.iface 9 (.str (bs l))
 |.n i=>.iface 3 (.int .i64 i)
 |.ns l=>.iface 65 (.slice 1 (l.map aK) false)
def Word.ws:Word->List (List UInt8)
 |.s l=>[l]
 |.n i=>[bH i]
 |.ns l=>l.map bH
def Word.ok:Word->Prop
 |.s l=>l.length<=1000
 |.n i=>0<=i/\i<1000000000
 |.ns l=>l.length<=1000/\∀ i,i∈l->0<=i/\i<1000000000
theorem Al:∀ l,Lib.join l [32]=joinL l
 |[]=>rfl
 |[x]=>by rw [Lib.join_one];rfl
 |x::y::r=>by
  have ih:=Al (y::r);rw [joinL,<-ih,Lib.join_cons,Lib.join_cons];simp [Lib.joinTail]
theorem mW {n} (h:0<=n):An n=bs (bH n):=by
 obtain ⟨m,rfl⟩:=p4 h;unfold An bH bs
 congr 2
theorem AN (n) (h0:0<=n) (h1:n<1000000000):ah TP 32 [.int .i64 n] (.str (bs (bH n))):=by
 rw [<-mW h0];exact xy n (by omega) (by omega)
def mR (x:List UInt8):AV:=.p (.str (bs x))
attribute [go_sem] mR
theorem mh (n) (h) (l:List (List UInt8)):aU (ci n h) (l.map mR)=some (l.map λx=>.str (bs x)):=dq (er n h) (λx=>PV.str (bs x)) l
theorem ZF:bs [32]=({ data:=#[32] }:ByteArray):=rfl
theorem Tr {w:Word} (h:w.ok):w.ws.length<=1000:=by
 cases w with
 |s l=>simp [Word.ws]
 |n i=>simp [Word.ws]
 |ns l=>simpa [Word.ws] using h.1
theorem zzF {n} (h0:0<=n) (h1:n<1000000000):(bH n).length<=1000:=by
 obtain ⟨m,rfl⟩:=p4 h0;have:=uH 8 m (by omega);unfold bH;rw [iH];omega
theorem QM {w:Word} (h:w.ok):∀ x,x∈w.ws->x.length<=1000:=by
 intro x hx
 cases w with
 |s l=>simp [Word.ws] at hx;subst hx;exact h
 |n i=>simp [Word.ws] at hx;subst hx;exact zzF h.1 h.2
 |ns l =>
  simp only [Word.ws,ec] at hx;obtain ⟨i,hi,rfl⟩:=hx;have:=h.2 i hi;exact zzF this.1 this.2
theorem FB (sep):∀ l,(∀ x,x∈l->x.length<=1000)->sep.length<=1->(Lib.join l sep).length<=l.length*1001
 |[],_,_=>by simp [Lib.join_nil]
 |[x],h,_=>by have:=h x (by simp);rw [Lib.join_one];simp;omega
 |x::y::r,h,hs=>by
  have ih:=FB sep (y::r) (λz hz=>h z (by simp [hz])) hs;have h1:=h x (by simp);rw [Lib.join_cons] at ih |-;have e:Lib.joinTail sep (y::r)=sep++(y++Lib.joinTail sep r):=by simp [Lib.joinTail]
  rw [e];simp only [aI,ct] at ih |-;omega
theorem ph (l:List Word) (fl) (hl:l.length<=100) (hok:∀ w,w∈l->w.ok):ah TP 40 [.slice 1 (l.map Word.pv) fl] (.str (bs (joinL (l.flatMap Word.ws)))):=by
 have hfl:∀ done:List Word,(∀ w,w∈done->w.ok)->(done.flatMap Word.ws).length<=done.length*1000:=λdone h=>Cl.uC done λw hw=>Tr (h w hw);refine aa (ai (by kernel_rfl) rfl zb6) rfl ?_;simp only [go_sem,simprocAttr];refine cg 3 1 (by simp only [go_sem,simprocAttr]) ?_;simp only [go_sem,simprocAttr];refine br [11,12] l (by omega) (τ:=Unit) (λdone rest _=>True) (λdone _=>[(3,.slice 0 (done.flatMap Word.ws).length 0 (done.flatMap Word.ws).length),(13,.p (.int .i64 done.length))]) (λdone _=>[.row 1 ((done.flatMap Word.ws).map mR)]) () trivial ?_ ?_ ?_
 .simp only [yn,go_sem,simprocAttr]
 .intro _ _;simp only [go_sem,simprocAttr];have hb:=FB [32] (l.flatMap Word.ws) (λx hx=>by
   obtain ⟨w,hw,hx⟩:=En.1 hx
   exact QM (hok w hw) x hx) (by simp)
  have h2:=hfl l hok;have hj:=ZC (l.flatMap Word.ws) [32] false (by omega) (by omega);rw [Al] at hj;refine bf hj ?_ (.str _) ?_
  .simp only [mh,ZF,go_sem,simprocAttr]
  simp only [go_sem,simprocAttr]
 .intro done w r _ e1 _ hx hlt hnx;have hwo:=hok w (by rw [e1];simp);have hdl:=hfl done (λw hw=>hok w (by rw [e1];simp [hw]));have hdn:done.length<=100:=by rw [e1] at hl;simp at hl;omega
  have hrm:(done.flatMap Word.ws).length+1<=aw:=by simp only [aw];omega
  cases w with
  |s x =>
   simp only [hlt,hx,Word.pv,hrm,go_sem,simprocAttr];refine aF e1 () trivial ?_
   simp only [hnx,vg,kR,yn,Word.ws,aI,bA,aW,go_sem,simprocAttr]
  |n i =>
   simp only [hlt,hx,Word.pv,go_sem,simprocAttr];refine ae (AN i hwo.1 hwo.2) rfl ?_;simp only [hrm,go_sem,simprocAttr];refine aF e1 () trivial ?_
   simp only [hnx,vg,kR,yn,Word.ws,aI,bA,aW,go_sem,simprocAttr]
  |ns q =>
   simp only [hlt,hx,Word.pv,go_sem,simprocAttr];have hq:=hwo.1;refine br [11,12,13,36,37] q (by omega) (τ:=Unit) (λd2 rest _=>True) (λd2 _=>[(3,.slice 0 ((done.flatMap Word.ws).length+d2.length) 0 ((done.flatMap Word.ws).length+d2.length)),(38,.p (.int .i64 d2.length))]) (λd2 _=>[.row 1 ((done.flatMap Word.ws).map mR++(d2.map bH).map mR)]) () trivial ?_ ?_ ?_
   .simp only [cm,aW,lY,go_sem,simprocAttr]
   .intro _ _;simp only [go_sem,simprocAttr];refine aF e1 () trivial ?_;simp only [hnx,vg,kR,yn,Word.ws,aI,bA,aW,go_sem,simprocAttr]
   .intro d2 i r2 _ e3 _ hx2 hlt2 hnx2;have hio:=hwo.2 i (by rw [e3];simp);have hd2:d2.length<=1000:=by rw [e3] at hq;simp at hq;omega
    have hrm2:(done.flatMap Word.ws).length+d2.length+1<=aw:=by simp only [aw];omega
    simp only [hlt2,hx2,go_sem,simprocAttr];refine ae (AN i hio.1 hio.2) rfl ?_;simp only [hrm2,aI,go_sem,simprocAttr];refine aF e3 () trivial ?_;simp only [hnx2,aI,bh,bA,bB,cm,cE,qk,go_sem,simprocAttr]
end Ch
set_option maxRecDepth 4000
def io (v:List Int×Int):PV:=if v.2=0 then yI v.1 else .nilslice
set_option maxHeartbeats 2000000 in
theorem Rl (s) (l) (boxes):g9 TP 190 [s.pv,.slice 3 (l.map HrTest.pv) false,.slice 2 (boxes.map HrBox.pv) false] (.tuple [io (cz s l boxes),.int .i64 (cz s l boxes).2]):=by
 refine fR (ai (by kernel_rfl) rfl X0) rfl ?_;simp only [go_sem,simprocAttr];refine ae (Kz s l (-1)) rfl ?_;simp only [JZ,go_sem,simprocAttr];cases h0:decide (dg s l=0)
 .have h0':¬ dg s l=0:=by simpa using h0
  have hsp:cz s l boxes=([],dg s l):=by rw [cz,if_neg h0']
  rw [hsp,if_neg h0'];have hch:(hrCheck s).2.2=0->dg s l=4->l.length<1000000000:=by
   intro hc h4;unfold dg at h4;rw [if_pos hc] at h4;split at h4
   .cases h4
   .omega
  cases h4:(dg s l != 4)
  .have h4':dg s l=4:=by simpa using h4
   simp only [go_sem,simprocAttr];refine ae (oK s l false (λhc=>hch hc h4')) rfl ?_;have hop:(cd s l != 0)=true:=by
    unfold dg at h4';unfold cd;split at h4'
    .rename_i hc;split at h4'
     .cases h4'
     .rw [if_pos hc,h4'];rfl
    .rename_i hc;rw [if_neg hc,h4'];rfl
   simp only [hop,io,if_neg h0',go_sem,simprocAttr]
  .simp only [io,if_neg h0',go_sem,simprocAttr]
 have h0':dg s l=0:=by simpa using h0
 have hok:=At h0';have hkk:=mG hok.1;have hop:cd s l=0:=by rw [cd,if_pos hok.1,hok.2.2]
 rw [if_pos h0'];simp only [go_sem,simprocAttr];refine ae (oK s l false (λ_=>by omega)) rfl ?_;simp only [hop,go_sem,simprocAttr];cases h20:decide ((20:Int)<(boxes.length:Int));rotate_left
 .have h20':20<boxes.length:=by simp at h20;omega
  have hsp:cz s l boxes=([],3):=by rw [cz,if_pos h0',if_pos h20']
  rw [hsp];simp only [io,go_sem,simprocAttr]
 have h20':¬ 20<boxes.length:=by simp at h20;omega
 have hsp:cz s l boxes=cO s l 0 boxes:=by rw [cz,if_pos h0',if_neg h20']
 rw [hsp];have hj:cO s l 0 boxes=kl [] (cO s l 0 boxes):=by
  have key:∀ q:List Int×Int,(q.2≠0->q.1=[])->q=kl [] q:=by
   rintro ⟨a,b⟩ h
   simp only [kl,oq];split
   .rename_i h1;rw [show b=0 from h1]
   .rename_i h1;rw [show a=[] from h h1]
  refine key _ ?_;generalize (0:Nat)=i
  cases boxes with
  |nil=>intro h;exact absurd rfl h
  |cons b r =>
   intro h;rw [cO] at h |-;split
   .split
    .rename_i h1 h2;rw [if_pos h1,if_pos h2] at h;exact absurd rfl h
    .rfl
   .rfl
 rw [hj];simp only [go_sem,simprocAttr];refine cg 6 1 (by simp only [go_sem,simprocAttr]) ?_;simp only [go_sem,simprocAttr]
 refine dZ [1,3,8,36,37] (σ:=List HrBox×List HrBox×List Int×List (Int×Int)×Heap)
  (λq=>boxes=q.1++q.2.1/\kl [] (cO s l 0 boxes)=kl q.2.2.1 (cO s l q.1.length q.2.1)/\q.2.2.1.length<=q.1.length /\
   ∀ k v,kh k q.2.2.2.1=some v->(bv s l k).2=0/\v=(bv s l k).1.promise) (λq=>q.2.1.length)
  (λq=>[(6,.slice 2 q.2.2.1.length 0 q.2.2.1.length),(38,.p (.int .i64 q.1.length))])
  (λq=>[.row 3 [.p s.pv],.mp (q.2.2.2.1.map Im),.row 1 (q.2.2.1.map λn=>.p (aK n))]++q.2.2.2.2) ([],boxes,[],[],[]) ⟨rfl,rfl,bM _,λk v h=>by cases h⟩ (by simp only [cm,aW,go_sem,simprocAttr]) ?_ ?_
 .simp only [go_sem,simprocAttr]
 rintro ⟨done,rest,out,es,g⟩ ⟨e1,e2,e3,e4⟩
 dsimp only at e1 e2 e3 e4
 cases rest with
 |nil =>
  have hlt:¬ ((done.length:Int)<(boxes.length:Int)):=by rw [e1];simp
  have e5:kl out (cO s l done.length [])=(out,0):=by rw [cO,kl,if_pos rfl,aW]
  rw [e2,e5];have hfz:∀ n h (ms:List Int),aU (gF n h) (ms.map λn=>AV.p (PV.int .i64 n))=some (ms.map aK):=λn h ms=>lu n h aK (λ_=>rfl) ms
  simp only [hlt,decide_false,io,yI,hfz,vr,go_sem,simprocAttr]
 |cons b r =>
  obtain ⟨hx,hltt⟩:=de e1;have hlen1:=congrArg List.length e1;simp only [aI,ct] at hlen1;have hnx:IntKind.i64.wrap ((done.length:Int)+1)=(((done++[b]).length:Nat):Int):=ba (by omega) (by simp [aw];omega) (by simp);have g0:=lq (lo:=g) rfl;have s0:=nV (lo:=g) rfl;have gg:=lp (lo:=g) rfl;have ss:=nU (lo:=g) rfl;have hw:IntKind.i64.wrap ((s.kinds.length:Int)-1)=(s.kinds.length:Int)-1:=ax (by omega) (by omega);simp only [hltt,decide_true,hx,g0,s0,hw,go_sem,simprocAttr];refine ae (jr 0 _ [_] true (by simp)) rfl ?_;simp only [bp,bF,bS,go_sem,simprocAttr];cases h2:ar b.kind 0 ((s.kinds.length:Int)-1)
  .rw [e2,yR (e:=4) (by rw [pV,h2];rfl) (by decide)];simp only [io,go_sem,simprocAttr]
  simp only [g0,go_sem,simprocAttr];refine ae (jr 0 1000000 [_] true (by simp)) rfl ?_;simp only [bp,bF,bS,go_sem,simprocAttr];cases h3:ar b.hours 0 1000000
  .rw [e2,yR (e:=7) (by rw [pV,h2,h3];rfl) (by decide)];simp only [io,go_sem,simprocAttr]
  have hbe:pV s l b=(bv s l b.kind).2:=by rw [pV,h2,h3];rfl
  have hgi:=Ab b.kind es;simp only [g0,hgi,go_sem,simprocAttr];have hrm:out.length+1<=aw:=by simp [aw];omega
  cases hm:kh b.kind es with
  |some v =>
   obtain ⟨hl0,rfl⟩:=e4 _ _ hm;have hj2:=Iy (out:=out) (i:=done.length) (r:=r) (hbe.trans hl0);simp only [g0,go_sem,simprocAttr];cases h9:decide ((bv s l b.kind).1.promise<b.hours)
   .have h9':¬ (bv s l b.kind).1.promise<b.hours:=by simpa using h9
    rw [if_neg h9',aW] at hj2;simp only [go_sem,simprocAttr];refine aZ (done++[b],r,out,es,g++[.row 2 [.p b.pv]]) ⟨by rw [e1];simp,by rw [e2,hj2];simp,by simp;omega,e4⟩ (j3 _) (by simp only [go_sem,simprocAttr]) ?_;simp only [hnx,go_sem,simprocAttr]
   .have h9':(bv s l b.kind).1.promise<b.hours:=by simpa using h9
    rw [if_pos h9'] at hj2;simp only [hrm,go_sem,simprocAttr];refine aZ (done++[b],r,out++[((done.length:Nat):Int)],es,g++[.row 2 [.p b.pv]]) ⟨by rw [e1];simp,by rw [e2,hj2];simp,by simp;omega,e4⟩ (j3 _) (by simp only [bA,go_sem,simprocAttr]) ?_
    simp only [hnx,aI,bh,go_sem,simprocAttr]
  |none =>
   simp only [g0,go_sem,simprocAttr];refine ae (Kz s l b.kind) rfl ?_;simp only [gg,ss,cE,aI,bh,go_sem,simprocAttr];cases hl:((bv s l b.kind).2 != 0)
   rotate_left
   .have hl':(bv s l b.kind).2≠0:=by simpa using hl
    rw [e2,yR hbe hl'];simp only [io,if_neg hl',go_sem,simprocAttr]
   have hl0:(bv s l b.kind).2=0:=by simpa using hl
   have hj2:=Iy (out:=out) (i:=done.length) (r:=r) (hbe.trans hl0);have hmp:=Aa b.kind (bv s l b.kind).1.promise es hm;have hes:∀ k v,kh k (es++[(b.kind,(bv s l b.kind).1.promise)])=some v->(bv s l k).2=0/\v=(bv s l k).1.promise:=by
    intro k v h;rw [vT] at h
    cases hk:kh k es with
    |some u=>rw [hk] at h;cases h;exact e4 k _ hk
    |none =>
     rw [hk] at h;dsimp only [Option.or] at h;split at h
     .rename_i hkk;cases h;rw [hkk];exact ⟨hl0,rfl⟩
     .cases h
   simp only [gg,go_sem,simprocAttr];refine ae (Db _ (wj hl0).1) rfl ?_;simp only [g0,hmp,go_sem,simprocAttr];cases h9:decide ((bv s l b.kind).1.promise<b.hours)
   .have h9':¬ (bv s l b.kind).1.promise<b.hours:=by simpa using h9
    rw [if_neg h9',aW] at hj2;simp only [go_sem,simprocAttr];refine aZ (done++[b],r,out,es++[(b.kind,(bv s l b.kind).1.promise)],g++[.row 2 [.p b.pv],.row 6 [.p (bv s l b.kind).1.pv]]) ⟨by rw [e1];simp,by rw [e2,hj2];simp,by simp;omega,hes⟩ (j3 _) (by simp only [go_sem,simprocAttr]) ?_;simp only [hnx,go_sem,simprocAttr]
   .have h9':(bv s l b.kind).1.promise<b.hours:=by simpa using h9
    rw [if_pos h9'] at hj2;simp only [hrm,go_sem,simprocAttr];refine aZ (done++[b],r,out++[((done.length:Nat):Int)],es++[(b.kind,(bv s l b.kind).1.promise)],g++[.row 2 [.p b.pv],.row 6 [.p (bv s l b.kind).1.pv]]) ⟨by rw [e1];simp,by rw [e2,hj2];simp,by simp;omega,hes⟩ (j3 _) (by simp only [bA,go_sem,simprocAttr]) ?_;simp only [hnx,aI,bh,go_sem,simprocAttr]
end Abs
end Go.Proofs.YtfafnkpfamgbbaaGreatDoor
