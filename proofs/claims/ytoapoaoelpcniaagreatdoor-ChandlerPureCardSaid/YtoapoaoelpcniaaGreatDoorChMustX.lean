/- CONTRACTS of the program's functions, and laws on what they return. No conditions but those in the theorems' heads. -/
import Derived.Test.YtoapoaoelpcniaaGreatDoorBdFillX
set_option linter.all false
open Go.Proofs.Tryz renaming prog->TP
namespace Go.Proofs.YtoapoaoelpcniaaGreatDoor
namespace Abs
namespace Ch
set_option maxRecDepth 4000
def ud (P:Program) (f:FuncId) (pargs:List PV) (e:PV):Prop:=
 ∀(M0:Nat->Prop) (w:World) (cargs:Array Value),(∀b,M0 b->b<w.heap.size)->wC P w->rO M0 w cargs pargs ->
  (∀w',(callFunc f cargs).run P w'=.ok (.enter f cargs) w') /\
  Calls P f cargs w λen w'=>∃v',en=.panicked [{ v:=v',recovered:=false }]/\RepP M0 w' v' e/\Fr [] w w'
theorem ib{P}{f}{pargs}{e}(h:aD P f (pargs.map .p) [] (λr _=>r=.panic e)):ud P f pargs e:=by
 intro M0 w cargs hM hg ha;have ha':dZ (Rep M0 ⟨[],[],w⟩) cargs (pargs.map .p):=by
  refine⟨by simpa using ha.1,λi c hc=>?_⟩;simp only[cO,cg]at hc;obtain⟨q,hq,rfl⟩:=hc;exact aH ((ha.2 i q hq).mono (λ_ _ _=>rfl) (λb hb=>by
   rcases hb with hb|hb
   .exact .inl hb
   .simp[Own]at hb))
 have:=h M0 [] w cargs (rT hM hg) ha';refine⟨this.1,this.2.mono λen w' hh=>?_⟩;obtain⟨r,h',m',rfl,hev,hk,hend⟩:=hh
 cases en with
 |returned v'=>exact hend.elim
 |panicked ch=>
  obtain⟨v',h1,h2⟩:=hend
  exact⟨v',by rw[h1],RepP.less h2 (λb hb=>.inl hb),hev.fr⟩
 |outgrown=>exact hend.elim
theorem EF{P}{f}{args}{pargs}{e}{h}(hc:ud P f pargs e)(ha:qW h args=some pargs)(hv:Flat e):aD P f args h (λr h'=>r=.panic e/\h'=h):=by
 intro M0 m w cargs hS hargs;obtain⟨hl,hg⟩:=CC ha;have hpa:rO M0 w cargs pargs:=by
  refine⟨by rw[hargs.1,hl],λi c hi=>?_⟩;obtain⟨a,h1,h2⟩:=hg i c hi;exact sE (S:=⟨m,h,w⟩) hS (hargs.2 i a h1) h2
 obtain⟨h1,h2⟩:=hc M0 w cargs (λb hb=>(hS.m0 b hb).1) hS.gl.1 hpa;refine⟨h1,h2.mono λen w' hh=>?_⟩;obtain⟨v',rfl,hr,hfr⟩:=hh;obtain⟨hk,hev⟩:=tB hS hfr;exact⟨.panic e,_,m,⟨rfl,rfl⟩,hev,hk,⟨v',rfl,hv.rep hr⟩⟩
theorem sS{P}{H}{Q}{ops}{rest}{dst}{A}{f}{args}{pargs}{e}(hc:ud P f pargs e)(ha:qW A.h args=some pargs)(hv:Flat e)
  (h2:@WQ ⟨Q⟩ (.panic e) A):@WF ⟨P,H,ops,rest,Q,dst⟩ A f args:=
 cz (EF hc ha hv) (λv h hr=>by cases hr.1) (λv h hr=>by obtain⟨e,rfl⟩:=hr;cases e;exact h2)
def gE (e:Int):PV:=.iface 49 (.int .i64 e)
attribute [go_sem] gE
theorem nI(e):Flat (gE e):=.iface (.int _ _)
theorem yD(b)(e)(h):aD TP 132 [.p (.bool b),.p (.int .i64 e)] h (λr h'=>h'=h/\r=if b=true then .ret (.p (.tuple [])) else .panic (gE e)):=by
 refine aC (ah Tryz.func132 rfl (by kernel_rfl)) rfl ?_;simp only[go_sem,simprocAttr];cases b
 .simp only[go_sem,simprocAttr]
 .simp only[go_sem,simprocAttr]
theorem az{H}{Q}{ops}{rest}{dst}{A}{b}{e}(h1:b=true->@WO ⟨TP,H,ops,rest,Q⟩ (A.put dst (.p (.tuple [])) A.h))
  (h2:b=false->@WQ ⟨Q⟩ (.panic (gE e)) A):@WF ⟨TP,H,ops,rest,Q,dst⟩ A 132 [.p (.bool b),.p (.int .i64 e)]:=by
 refine cz (yD b e A.h) (λv h hr=>?_) (λv h hr=>?_)
 .obtain⟨rfl,hr⟩:=hr;cases b
  .cases hr
  .cases hr;exact h1 rfl
 .obtain⟨rfl,hr⟩:=hr;cases b
  .cases hr;exact h2 rfl
  .cases hr
theorem TU(x:WxKind):af TP 206 [x.pv] (.str x.name):=by
 refine aa (ah Tryz.func206 rfl (by kernel_rfl)) rfl ?_;simp only[go_sem,simprocAttr]
theorem Kb(s)(x:WxKind):af TP 272 [x.pv,.ptr 1 [.func (.func 206) [] []] 0 0,.ptr 1 [.str s] 0 0] (.bool (x.name==s)):=by
 refine aa (ah Tryz.func272 rfl (by kernel_rfl)) rfl ?_;simp only[go_sem,simprocAttr];refine ax (TU x) rfl ?_;simp only[go_sem,simprocAttr]
theorem Wd(l)(s)(b)(hl:l.length<1000000000)(h0:0<=aA (λx=>x.name==s) l 0) :
  af TP 205 [.slice 2 (l.map WxKind.pv) b,.str s,.func (.func 206) [] []] (.int .i64 (aA (λx=>x.name==s) l 0)):=by
 refine aa (ah Tryz.func205 rfl (by kernel_rfl)) rfl ?_;simp only[go_sem,simprocAttr];refine bf (ua (fv:=.func (.func 272) [] [.ptr 1 [.func (.func 206) [] []] 0 0,.ptr 1 [.str s] 0 0]) l (λy=>y.name==s) b 2 rfl hl λy _=>⟨_,_,_,rfl,Kb s y⟩) ?_ (.int _ _) ?_
 .simp only[go_sem,simprocAttr]
 have hd:decide (0<=aA (λx:WxKind=>x.name==s) l 0)=true:=by simpa using h0
 simp only[hd,go_sem,simprocAttr];refine az (λ_=>?_) (λh=>by cases h);simp only[go_sem,simprocAttr]
theorem U'(l)(s)(b)(hl:l.length<1000000000)(h0:aA (λx=>x.name==s) l 0<0) :
  ud TP 205 [.slice 2 (l.map WxKind.pv) b,.str s,.func (.func 206) [] []] (gE 4):=by
 refine ib ?_;refine aC (ah Tryz.func205 rfl (by kernel_rfl)) rfl ?_;simp only[go_sem,simprocAttr];refine bf (ua (fv:=.func (.func 272) [] [.ptr 1 [.func (.func 206) [] []] 0 0,.ptr 1 [.str s] 0 0]) l (λy=>y.name==s) b 2 rfl hl λy _=>⟨_,_,_,rfl,Kb s y⟩) ?_ (.int _ _) ?_
 .simp only[go_sem,simprocAttr]
 have hd:decide (0<=aA (λx:WxKind=>x.name==s) l 0)=false:=by simpa using h0
 simp only[hd,go_sem,simprocAttr];refine az (λh=>by cases h) (λ_=>?_);simp only[go_sem,simprocAttr]
theorem TT(x:ClColour):af TP 211 [x.pv] (.str x.name):=by
 refine aa (ah Tryz.func211 rfl (by kernel_rfl)) rfl ?_;simp only[go_sem,simprocAttr]
theorem Ka(s)(x:ClColour):af TP 276 [x.pv,.ptr 1 [.func (.func 211) [] []] 0 0,.ptr 1 [.str s] 0 0] (.bool (x.name==s)):=by
 refine aa (ah Tryz.func276 rfl (by kernel_rfl)) rfl ?_;simp only[go_sem,simprocAttr];refine ax (TT x) rfl ?_;simp only[go_sem,simprocAttr]
theorem Wc(l)(s)(b)(hl:l.length<1000000000)(h0:0<=aA (λx=>x.name==s) l 0) :
  af TP 210 [.slice 4 (l.map ClColour.pv) b,.str s,.func (.func 211) [] []] (.int .i64 (aA (λx=>x.name==s) l 0)):=by
 refine aa (ah Tryz.func210 rfl (by kernel_rfl)) rfl ?_;simp only[go_sem,simprocAttr];refine bf (mZ (fv:=.func (.func 276) [] [.ptr 1 [.func (.func 211) [] []] 0 0,.ptr 1 [.str s] 0 0]) l (λy=>y.name==s) b 4 rfl hl λy _=>⟨_,_,_,rfl,Ka s y⟩) ?_ (.int _ _) ?_
 .simp only[go_sem,simprocAttr]
 have hd:decide (0<=aA (λx:ClColour=>x.name==s) l 0)=true:=by simpa using h0
 simp only[hd,go_sem,simprocAttr];refine az (λ_=>?_) (λh=>by cases h);simp only[go_sem,simprocAttr]
theorem U9(l)(s)(b)(hl:l.length<1000000000)(h0:aA (λx=>x.name==s) l 0<0) :
  ud TP 210 [.slice 4 (l.map ClColour.pv) b,.str s,.func (.func 211) [] []] (gE 4):=by
 refine ib ?_;refine aC (ah Tryz.func210 rfl (by kernel_rfl)) rfl ?_;simp only[go_sem,simprocAttr];refine bf (mZ (fv:=.func (.func 276) [] [.ptr 1 [.func (.func 211) [] []] 0 0,.ptr 1 [.str s] 0 0]) l (λy=>y.name==s) b 4 rfl hl λy _=>⟨_,_,_,rfl,Ka s y⟩) ?_ (.int _ _) ?_
 .simp only[go_sem,simprocAttr]
 have hd:decide (0<=aA (λx:ClColour=>x.name==s) l 0)=false:=by simpa using h0
 simp only[hd,go_sem,simprocAttr];refine az (λh=>by cases h) (λ_=>?_);simp only[go_sem,simprocAttr]
theorem TR(x:ClColour):af TP 279 [x.pv] (.str x.name):=by
 refine aa (ah Tryz.func279 rfl (by kernel_rfl)) rfl ?_;simp only[go_sem,simprocAttr]
theorem J'(s)(x:ClColour):af TP 276 [x.pv,.ptr 1 [.func (.func 279) [] []] 0 0,.ptr 1 [.str s] 0 0] (.bool (x.name==s)):=by
 refine aa (ah Tryz.func276 rfl (by kernel_rfl)) rfl ?_;simp only[go_sem,simprocAttr];refine ax (TR x) rfl ?_;simp only[go_sem,simprocAttr]
theorem Ou(l)(s)(b)(hl:l.length<1000000000)(h0:0<=aA (λx=>x.name==s) l 0) :
  af TP 210 [.slice 4 (l.map ClColour.pv) b,.str s,.func (.func 279) [] []] (.int .i64 (aA (λx=>x.name==s) l 0)):=by
 refine aa (ah Tryz.func210 rfl (by kernel_rfl)) rfl ?_;simp only[go_sem,simprocAttr];refine bf (mZ (fv:=.func (.func 276) [] [.ptr 1 [.func (.func 279) [] []] 0 0,.ptr 1 [.str s] 0 0]) l (λy=>y.name==s) b 4 rfl hl λy _=>⟨_,_,_,rfl,J' s y⟩) ?_ (.int _ _) ?_
 .simp only[go_sem,simprocAttr]
 have hd:decide (0<=aA (λx:ClColour=>x.name==s) l 0)=true:=by simpa using h0
 simp only[hd,go_sem,simprocAttr];refine az (λ_=>?_) (λh=>by cases h);simp only[go_sem,simprocAttr]
theorem U8(l)(s)(b)(hl:l.length<1000000000)(h0:aA (λx=>x.name==s) l 0<0) :
  ud TP 210 [.slice 4 (l.map ClColour.pv) b,.str s,.func (.func 279) [] []] (gE 4):=by
 refine ib ?_;refine aC (ah Tryz.func210 rfl (by kernel_rfl)) rfl ?_;simp only[go_sem,simprocAttr];refine bf (mZ (fv:=.func (.func 276) [] [.ptr 1 [.func (.func 279) [] []] 0 0,.ptr 1 [.str s] 0 0]) l (λy=>y.name==s) b 4 rfl hl λy _=>⟨_,_,_,rfl,J' s y⟩) ?_ (.int _ _) ?_
 .simp only[go_sem,simprocAttr]
 have hd:decide (0<=aA (λx:ClColour=>x.name==s) l 0)=false:=by simpa using h0
 simp only[hd,go_sem,simprocAttr];refine az (λh=>by cases h) (λ_=>?_);simp only[go_sem,simprocAttr]
theorem TQ(x:ChLot):af TP 213 [x.pv] (.str x.name):=by
 refine aa (ah Tryz.func213 rfl (by kernel_rfl)) rfl ?_;simp only[go_sem,simprocAttr]
theorem J9(s)(x:ChLot):af TP 277 [x.pv,.ptr 1 [.func (.func 213) [] []] 0 0,.ptr 1 [.str s] 0 0] (.bool (x.name==s)):=by
 refine aa (ah Tryz.func277 rfl (by kernel_rfl)) rfl ?_;simp only[go_sem,simprocAttr];refine ax (TQ x) rfl ?_;simp only[go_sem,simprocAttr]
theorem Wb(l)(s)(b)(hl:l.length<1000000000)(h0:0<=aA (λx=>x.name==s) l 0) :
  af TP 212 [.slice 4 (l.map ChLot.pv) b,.str s,.func (.func 213) [] []] (.int .i64 (aA (λx=>x.name==s) l 0)):=by
 refine aa (ah Tryz.func212 rfl (by kernel_rfl)) rfl ?_;simp only[go_sem,simprocAttr];refine bf (sM (fv:=.func (.func 277) [] [.ptr 1 [.func (.func 213) [] []] 0 0,.ptr 1 [.str s] 0 0]) l (λy=>y.name==s) b 4 rfl hl λy _=>⟨_,_,_,rfl,J9 s y⟩) ?_ (.int _ _) ?_
 .simp only[go_sem,simprocAttr]
 have hd:decide (0<=aA (λx:ChLot=>x.name==s) l 0)=true:=by simpa using h0
 simp only[hd,go_sem,simprocAttr];refine az (λ_=>?_) (λh=>by cases h);simp only[go_sem,simprocAttr]
theorem U7(l)(s)(b)(hl:l.length<1000000000)(h0:aA (λx=>x.name==s) l 0<0) :
  ud TP 212 [.slice 4 (l.map ChLot.pv) b,.str s,.func (.func 213) [] []] (gE 4):=by
 refine ib ?_;refine aC (ah Tryz.func212 rfl (by kernel_rfl)) rfl ?_;simp only[go_sem,simprocAttr];refine bf (sM (fv:=.func (.func 277) [] [.ptr 1 [.func (.func 213) [] []] 0 0,.ptr 1 [.str s] 0 0]) l (λy=>y.name==s) b 4 rfl hl λy _=>⟨_,_,_,rfl,J9 s y⟩) ?_ (.int _ _) ?_
 .simp only[go_sem,simprocAttr]
 have hd:decide (0<=aA (λx:ChLot=>x.name==s) l 0)=false:=by simpa using h0
 simp only[hd,go_sem,simprocAttr];refine az (λh=>by cases h) (λ_=>?_);simp only[go_sem,simprocAttr]
theorem TO(x:ChBatch):af TP 215 [x.pv] (.str x.name):=by
 refine aa (ah Tryz.func215 rfl (by kernel_rfl)) rfl ?_;simp only[go_sem,simprocAttr]
theorem J8(s)(x:ChBatch):af TP 278 [x.pv,.ptr 1 [.func (.func 215) [] []] 0 0,.ptr 1 [.str s] 0 0] (.bool (x.name==s)):=by
 refine aa (ah Tryz.func278 rfl (by kernel_rfl)) rfl ?_;simp only[go_sem,simprocAttr];refine ax (TO x) rfl ?_;simp only[go_sem,simprocAttr]
theorem Wa(l)(s)(b)(hl:l.length<1000000000)(h0:0<=aA (λx=>x.name==s) l 0) :
  af TP 214 [.slice 4 (l.map ChBatch.pv) b,.str s,.func (.func 215) [] []] (.int .i64 (aA (λx=>x.name==s) l 0)):=by
 refine aa (ah Tryz.func214 rfl (by kernel_rfl)) rfl ?_;simp only[go_sem,simprocAttr];refine bf (sL (fv:=.func (.func 278) [] [.ptr 1 [.func (.func 215) [] []] 0 0,.ptr 1 [.str s] 0 0]) l (λy=>y.name==s) b 4 rfl hl λy _=>⟨_,_,_,rfl,J8 s y⟩) ?_ (.int _ _) ?_
 .simp only[go_sem,simprocAttr]
 have hd:decide (0<=aA (λx:ChBatch=>x.name==s) l 0)=true:=by simpa using h0
 simp only[hd,go_sem,simprocAttr];refine az (λ_=>?_) (λh=>by cases h);simp only[go_sem,simprocAttr]
theorem U6(l)(s)(b)(hl:l.length<1000000000)(h0:aA (λx=>x.name==s) l 0<0) :
  ud TP 214 [.slice 4 (l.map ChBatch.pv) b,.str s,.func (.func 215) [] []] (gE 4):=by
 refine ib ?_;refine aC (ah Tryz.func214 rfl (by kernel_rfl)) rfl ?_;simp only[go_sem,simprocAttr];refine bf (sL (fv:=.func (.func 278) [] [.ptr 1 [.func (.func 215) [] []] 0 0,.ptr 1 [.str s] 0 0]) l (λy=>y.name==s) b 4 rfl hl λy _=>⟨_,_,_,rfl,J8 s y⟩) ?_ (.int _ _) ?_
 .simp only[go_sem,simprocAttr]
 have hd:decide (0<=aA (λx:ChBatch=>x.name==s) l 0)=false:=by simpa using h0
 simp only[hd,go_sem,simprocAttr];refine az (λh=>by cases h) (λ_=>?_);simp only[go_sem,simprocAttr]
theorem TN(x:HrKind):af TP 219 [x.pv] (.str x.name):=by
 refine aa (ah Tryz.func219 rfl (by kernel_rfl)) rfl ?_;simp only[go_sem,simprocAttr]
theorem J7(s)(x:HrKind):af TP 280 [x.pv,.ptr 1 [.func (.func 219) [] []] 0 0,.ptr 1 [.str s] 0 0] (.bool (x.name==s)):=by
 refine aa (ah Tryz.func280 rfl (by kernel_rfl)) rfl ?_;simp only[go_sem,simprocAttr];refine ax (TN x) rfl ?_;simp only[go_sem,simprocAttr]
theorem V'(l)(s)(b)(hl:l.length<1000000000)(h0:0<=aA (λx=>x.name==s) l 0) :
  af TP 218 [.slice 4 (l.map HrKind.pv) b,.str s,.func (.func 219) [] []] (.int .i64 (aA (λx=>x.name==s) l 0)):=by
 refine aa (ah Tryz.func218 rfl (by kernel_rfl)) rfl ?_;simp only[go_sem,simprocAttr];refine bf (qb (fv:=.func (.func 280) [] [.ptr 1 [.func (.func 219) [] []] 0 0,.ptr 1 [.str s] 0 0]) l (λy=>y.name==s) b 4 rfl hl λy _=>⟨_,_,_,rfl,J7 s y⟩) ?_ (.int _ _) ?_
 .simp only[go_sem,simprocAttr]
 have hd:decide (0<=aA (λx:HrKind=>x.name==s) l 0)=true:=by simpa using h0
 simp only[hd,go_sem,simprocAttr];refine az (λ_=>?_) (λh=>by cases h);simp only[go_sem,simprocAttr]
theorem U5(l)(s)(b)(hl:l.length<1000000000)(h0:aA (λx=>x.name==s) l 0<0) :
  ud TP 218 [.slice 4 (l.map HrKind.pv) b,.str s,.func (.func 219) [] []] (gE 4):=by
 refine ib ?_;refine aC (ah Tryz.func218 rfl (by kernel_rfl)) rfl ?_;simp only[go_sem,simprocAttr];refine bf (qb (fv:=.func (.func 280) [] [.ptr 1 [.func (.func 219) [] []] 0 0,.ptr 1 [.str s] 0 0]) l (λy=>y.name==s) b 4 rfl hl λy _=>⟨_,_,_,rfl,J7 s y⟩) ?_ (.int _ _) ?_
 .simp only[go_sem,simprocAttr]
 have hd:decide (0<=aA (λx:HrKind=>x.name==s) l 0)=false:=by simpa using h0
 simp only[hd,go_sem,simprocAttr];refine az (λh=>by cases h) (λ_=>?_);simp only[go_sem,simprocAttr]
theorem TM(x:Wax):af TP 222 [x.pv] (.str x.name):=by
 refine aa (ah Tryz.func222 rfl (by kernel_rfl)) rfl ?_;simp only[go_sem,simprocAttr]
theorem J6(s)(x:Wax):af TP 282 [x.pv,.ptr 1 [.func (.func 222) [] []] 0 0,.ptr 1 [.str s] 0 0] (.bool (x.name==s)):=by
 refine aa (ah Tryz.func282 rfl (by kernel_rfl)) rfl ?_;simp only[go_sem,simprocAttr];refine ax (TM x) rfl ?_;simp only[go_sem,simprocAttr]
theorem V9(l)(s)(b)(hl:l.length<1000000000)(h0:0<=aA (λx=>x.name==s) l 0) :
  af TP 221 [.slice 8 (l.map Wax.pv) b,.str s,.func (.func 222) [] []] (.int .i64 (aA (λx=>x.name==s) l 0)):=by
 refine aa (ah Tryz.func221 rfl (by kernel_rfl)) rfl ?_;simp only[go_sem,simprocAttr];refine bf (ub (fv:=.func (.func 282) [] [.ptr 1 [.func (.func 222) [] []] 0 0,.ptr 1 [.str s] 0 0]) l (λy=>y.name==s) b 8 rfl hl λy _=>⟨_,_,_,rfl,J6 s y⟩) ?_ (.int _ _) ?_
 .simp only[go_sem,simprocAttr]
 have hd:decide (0<=aA (λx:Wax=>x.name==s) l 0)=true:=by simpa using h0
 simp only[hd,go_sem,simprocAttr];refine az (λ_=>?_) (λh=>by cases h);simp only[go_sem,simprocAttr]
theorem U4(l)(s)(b)(hl:l.length<1000000000)(h0:aA (λx=>x.name==s) l 0<0) :
  ud TP 221 [.slice 8 (l.map Wax.pv) b,.str s,.func (.func 222) [] []] (gE 4):=by
 refine ib ?_;refine aC (ah Tryz.func221 rfl (by kernel_rfl)) rfl ?_;simp only[go_sem,simprocAttr];refine bf (ub (fv:=.func (.func 282) [] [.ptr 1 [.func (.func 222) [] []] 0 0,.ptr 1 [.str s] 0 0]) l (λy=>y.name==s) b 8 rfl hl λy _=>⟨_,_,_,rfl,J6 s y⟩) ?_ (.int _ _) ?_
 .simp only[go_sem,simprocAttr]
 have hd:decide (0<=aA (λx:Wax=>x.name==s) l 0)=false:=by simpa using h0
 simp only[hd,go_sem,simprocAttr];refine az (λh=>by cases h) (λ_=>?_);simp only[go_sem,simprocAttr]
inductive Word where
 |s (l:List UInt8)
 |n (i:Int)
 |ns (l:List Int)
def Word.pv:Word->PV
 |.s l=>.iface 9 (.str (bs l))
 |.n i=>.iface 3 (.int .i64 i)
 |.ns l=>.iface 57 (.slice 1 (l.map aI) false)
def Word.ws:Word->List (List UInt8)
 |.s l=>[l]
 |.n i=>[be i]
 |.ns l=>l.map be
def Word.ok:Word->Prop
 |.s l=>l.length<=1000
 |.n i=>0<=i/\i<1000000000
 |.ns l=>l.length<=1000/\∀i,i∈l->0<=i/\i<1000000000
theorem Bi:∀l,Lib.join l [32]=joinL l
 |[]=>rfl
 |[x]=>by rw[Lib.join_one];rfl
 |x::y::r=>by
  have ih:=Bi (y::r);rw[joinL,<-ih,Lib.join_cons,Lib.join_cons];simp[Lib.joinTail]
theorem nG{n}(h:0<=n):Bk n=bs (be n):=by
 obtain⟨m,rfl⟩:=nx h;unfold Bk be bs
 congr 2
theorem BK(n)(h0:0<=n)(h1:n<1000000000):af TP 68 [.int .i64 n] (.str (bs (be n))):=by
 rw[<-nG h0];exact yL n (by omega) (by omega)
def pp (x:List UInt8):AV:=.p (.str (bs x))
attribute [go_sem] pp
theorem oP(n)(h)(l:List (List UInt8)):aV (cm n h) (l.map pp)=some (l.map λx=>.str (bs x)):=dD (eJ n h) (λx=>PV.str (bs x)) l
theorem X6:bs [32]=({ data:=#[32] }:ByteArray):=rfl
theorem UU{w:Word}(h:w.ok):w.ws.length<=1000:=by
 cases w with
 |s l=>simp[Word.ws]
 |n i=>simp[Word.ws]
 |ns l=>simpa[Word.ws]using h.1
theorem sH{n}(h0:0<=n)(h1:n<1000000000):(be n).length<=1000:=by
 obtain⟨m,rfl⟩:=nx h0;have:=wa 8 m (by omega);unfold be;rw[g7];omega
theorem Si{w:Word}(h:w.ok):∀x,x∈w.ws->x.length<=1000:=by
 intro x hx
 cases w with
 |s l=>simp[Word.ws]at hx;subst hx;exact h
 |n i=>simp[Word.ws]at hx;subst hx;exact sH h.1 h.2
 |ns l=>
  simp only[Word.ws,cH]at hx;obtain⟨i,hi,rfl⟩:=hx;have:=h.2 i hi;exact sH this.1 this.2
theorem GM(sep):∀l,(∀x,x∈l->x.length<=1000)->sep.length<=1->(Lib.join l sep).length<=l.length*1001
 |[],_,_=>by simp[Lib.join_nil]
 |[x],h,_=>by have:=h x (by simp);rw[Lib.join_one];simp;omega
 |x::y::r,h,hs=>by
  have ih:=GM sep (y::r) (λz hz=>h z (by simp[hz])) hs;have h1:=h x (by simp);rw[Lib.join_cons]at ih |-;have e:Lib.joinTail sep (y::r)=sep++(y++Lib.joinTail sep r):=by simp[Lib.joinTail]
  rw[e];simp only[aB,cu]at ih |-;omega
theorem qa(l:List Word)(fl)(hl:l.length<=100)(hok:∀w,w∈l->w.ok):af TP 54 [.slice 1 (l.map Word.pv) fl] (.str (bs (joinL (l.flatMap Word.ws)))):=by
 have hfl:∀done:List Word,(∀w,w∈done->w.ok)->(done.flatMap Word.ws).length<=done.length*1000:=λdone h=>Cl.vW done λw hw=>UU (h w hw);refine aa (ah Tryz.func54 rfl (by kernel_rfl)) rfl ?_;simp only[go_sem,simprocAttr];refine cl 3 1 (by simp only[go_sem,simprocAttr]) ?_;simp only[go_sem,simprocAttr];refine aQ [11,12] l (by omega) (τ:=Unit) (λdone rest _=>True) (λdone _=>[(3,.slice 0 (done.flatMap Word.ws).length 0 (done.flatMap Word.ws).length),(13,.p (.int .i64 done.length))]) (λdone _=>[.row 1 ((done.flatMap Word.ws).map pp)]) () trivial ?_ ?_ ?_
 .simp only[zA,go_sem,simprocAttr]
 .intro _ _;simp only[go_sem,simprocAttr];have hb:=GM [32] (l.flatMap Word.ws) (λx hx=>by
   obtain⟨w,hw,hx⟩:=zB.1 hx
   exact Si (hok w hw) x hx) (by simp)
  have h2:=hfl l hok;have hj:=X3 (l.flatMap Word.ws) [32] false (by omega) (by omega);rw[Bi]at hj;refine bf hj ?_ (.str _) ?_
  .simp only[oP,X6,go_sem,simprocAttr]
  simp only[go_sem,simprocAttr]
 .intro done w r _ e1 _ hx hlt hnx;have hwo:=hok w (by rw[e1];simp);have hdl:=hfl done (λw hw=>hok w (by rw[e1];simp[hw]));have hdn:done.length<=100:=by rw[e1]at hl;simp at hl;omega
  have hrm:(done.flatMap Word.ws).length+1<=aw:=by simp only[aw];omega
  cases w with
  |s x=>
   simp only[hlt,hx,Word.pv,hrm,go_sem,simprocAttr];refine ak e1 () trivial ?_
   simp only[hnx,Dd,mF,zA,Word.ws,aB,cj,bC,go_sem,simprocAttr]
  |n i=>
   simp only[hlt,hx,Word.pv,go_sem,simprocAttr];refine ae (BK i hwo.1 hwo.2) rfl ?_;simp only[hrm,go_sem,simprocAttr];refine ak e1 () trivial ?_
   simp only[hnx,Dd,mF,zA,Word.ws,aB,cj,bC,go_sem,simprocAttr]
  |ns q=>
   simp only[hlt,hx,Word.pv,go_sem,simprocAttr];have hq:=hwo.1;refine aQ [11,12,13,36,37] q (by omega) (τ:=Unit) (λd2 rest _=>True) (λd2 _=>[(3,.slice 0 ((done.flatMap Word.ws).length+d2.length) 0 ((done.flatMap Word.ws).length+d2.length)),(38,.p (.int .i64 d2.length))]) (λd2 _=>[.row 1 ((done.flatMap Word.ws).map pp++(d2.map be).map pp)]) () trivial ?_ ?_ ?_
   .simp only[ck,bC,pk,go_sem,simprocAttr]
   .intro _ _;simp only[go_sem,simprocAttr];refine ak e1 () trivial ?_;simp only[hnx,Dd,mF,zA,Word.ws,aB,cj,bC,go_sem,simprocAttr]
   .intro d2 i r2 _ e3 _ hx2 hlt2 hnx2;have hio:=hwo.2 i (by rw[e3];simp);have hd2:d2.length<=1000:=by rw[e3]at hq;simp at hq;omega
    have hrm2:(done.flatMap Word.ws).length+d2.length+1<=aw:=by simp only[aw];omega
    simp only[hlt2,hx2,go_sem,simprocAttr];refine ae (BK i hio.1 hio.2) rfl ?_;simp only[hrm2,aB,go_sem,simprocAttr];refine ak e3 () trivial ?_;simp only[hnx2,aB,bn,cj,bL,ck,cF,jW,go_sem,simprocAttr]
end Ch
set_option maxRecDepth 4000
def iK (v:List Int×Int):PV:=if v.2=0 then mG v.1 else .nilslice
set_option maxHeartbeats 2000000 in
theorem SQ(s)(l)(boxes):ip TP 21 [s.pv,.slice 3 (l.map HrTest.pv) false,.slice 2 (boxes.map HrBox.pv) false] (.tuple [iK (bq s l boxes),.int .i64 (bq s l boxes).2]):=by
 refine gb (ah Tryz.func21 rfl (by kernel_rfl)) rfl ?_;simp only[go_sem,simprocAttr];refine ae (yK s l (-1)) rfl ?_;simp only[A9,go_sem,simprocAttr];cases h0:decide (hrTests s l=0)
 .have h0':¬hrTests s l=0:=by simpa using h0
  have hsp:bq s l boxes=([],hrTests s l):=by rw[bq,if_neg h0']
  rw[hsp,if_neg h0'];have hch:(hrCheck s).2.2=0->hrTests s l=4->l.length<1000000000:=by
   intro hc h4;unfold hrTests at h4;rw[if_pos hc]at h4;split at h4
   .cases h4
   .omega
  cases h4:(hrTests s l != 4)
  .have h4':hrTests s l=4:=by simpa using h4
   simp only[go_sem,simprocAttr];refine ae (mA s l false (λhc=>hch hc h4')) rfl ?_;have hop:(bS s l != 0)=true:=by
    unfold hrTests at h4';unfold bS;split at h4'
    .rename_i hc;split at h4'
     .cases h4'
     .rw[if_pos hc,h4'];rfl
    .rename_i hc;rw[if_neg hc,h4'];rfl
   simp only[hop,iK,if_neg h0',go_sem,simprocAttr]
  .simp only[iK,if_neg h0',go_sem,simprocAttr]
 have h0':hrTests s l=0:=by simpa using h0
 have hok:=jC h0';have hkk:=kY hok.1;have hop:bS s l=0:=by rw[bS,if_pos hok.1,hok.2.2]
 rw[if_pos h0'];simp only[go_sem,simprocAttr];refine ae (mA s l false (λ_=>by omega)) rfl ?_;simp only[hop,go_sem,simprocAttr];cases h20:decide ((20:Int)<(boxes.length:Int));rotate_left
 .have h20':20<boxes.length:=by simp at h20;omega
  have hsp:bq s l boxes=([],3):=by rw[bq,if_pos h0',if_pos h20']
  rw[hsp];simp only[iK,go_sem,simprocAttr]
 have h20':¬20<boxes.length:=by simp at h20;omega
 have hsp:bq s l boxes=bH s l 0 boxes:=by rw[bq,if_pos h0',if_neg h20']
 rw[hsp];have hj:bH s l 0 boxes=gr [] (bH s l 0 boxes):=by
  have key:∀q:List Int×Int,(q.2≠0->q.1=[])->q=gr [] q:=by
   rintro⟨a,b⟩ h
   simp only[gr,ky];split
   .rename_i h1;rw[show b=0 from h1]
   .rename_i h1;rw[show a=[] from h h1]
  refine key _ ?_;generalize (0:Nat)=i
  cases boxes with
  |nil=>intro h;exact absurd rfl h
  |cons b r=>
   intro h;rw[bH]at h |-;split
   .split
    .rename_i h1 h2;rw[if_pos h1,if_pos h2]at h;exact absurd rfl h
    .rfl
   .rfl
 rw[hj];simp only[go_sem,simprocAttr];refine cl 6 1 (by simp only[go_sem,simprocAttr]) ?_;simp only[go_sem,simprocAttr]
 refine eC [1,3,8,36,37] (σ:=List HrBox×List HrBox×List Int×List (Int×Int)×Heap)
  (λq=>boxes=q.1++q.2.1/\gr [] (bH s l 0 boxes)=gr q.2.2.1 (bH s l q.1.length q.2.1)/\q.2.2.1.length<=q.1.length /\
   ∀k v,iB k q.2.2.2.1=some v->(hrLook s l k).2=0/\v=(hrLook s l k).1.promise) (λq=>q.2.1.length)
  (λq=>[(6,.slice 2 q.2.2.1.length 0 q.2.2.1.length),(38,.p (.int .i64 q.1.length))])
  (λq=>[.row 3 [.p s.pv],.mp (q.2.2.2.1.map Gw),.row 1 (q.2.2.1.map λn=>.p (aI n))]++q.2.2.2.2) ([],boxes,[],[],[]) ⟨rfl,rfl,bB _,λk v h=>by cases h⟩ (by simp only[ck,bC,go_sem,simprocAttr]) ?_ ?_
 .simp only[go_sem,simprocAttr]
 rintro⟨done,rest,out,es,g⟩ ⟨e1,e2,e3,e4⟩
 dsimp only at e1 e2 e3 e4
 cases rest with
 |nil=>
  have hlt:¬((done.length:Int)<(boxes.length:Int)):=by rw[e1];simp
  have e5:gr out (bH s l done.length [])=(out,0):=by rw[bH,gr,if_pos rfl,bC]
  rw[e2,e5];have hfz:∀n h (ms:List Int),aV (gS n h) (ms.map λn=>AV.p (PV.int .i64 n))=some (ms.map aI):=λn h ms=>lY n h aI (λ_=>rfl) ms
  simp only[hlt,decide_false,iK,mG,hfz,wL,go_sem,simprocAttr]
 |cons b r=>
  obtain⟨hx,hltt⟩:=d8 e1;have hlen1:=congrArg List.length e1;simp only[aB,cu]at hlen1;have hnx:IntKind.i64.wrap ((done.length:Int)+1)=(((done++[b]).length:Nat):Int):=bj (by omega) (by simp[aw];omega) (by simp);have g0:=k8 (lo:=g) rfl;have s0:=mT (lo:=g) rfl;have gg:=k7 (lo:=g) rfl;have ss:=mS (lo:=g) rfl;have hw:IntKind.i64.wrap ((s.kinds.length:Int)-1)=(s.kinds.length:Int)-1:=aj (by omega) (by omega);simp only[hltt,decide_true,hx,g0,s0,hw,go_sem,simprocAttr];refine ae (im 0 _ [_] true (by simp)) rfl ?_;simp only[cV,bw,cD,go_sem,simprocAttr];cases h2:ar b.kind 0 ((s.kinds.length:Int)-1)
  .rw[e2,pE (e:=4) (by rw[jI,h2];rfl) (by decide)];simp only[iK,go_sem,simprocAttr]
  simp only[g0,go_sem,simprocAttr];refine ae (im 0 1000000 [_] true (by simp)) rfl ?_;simp only[cV,bw,cD,go_sem,simprocAttr];cases h3:ar b.hours 0 1000000
  .rw[e2,pE (e:=7) (by rw[jI,h2,h3];rfl) (by decide)];simp only[iK,go_sem,simprocAttr]
  have hbe:jI s l b=(hrLook s l b.kind).2:=by rw[jI,h2,h3];rfl
  have hgi:=vI b.kind es;simp only[g0,hgi,go_sem,simprocAttr];have hrm:out.length+1<=aw:=by simp[aw];omega
  cases hm:iB b.kind es with
  |some v=>
   obtain⟨hl0,rfl⟩:=e4 _ _ hm;have hj2:=yv (out:=out) (i:=done.length) (r:=r) (hbe.trans hl0);simp only[g0,go_sem,simprocAttr];cases h9:decide ((hrLook s l b.kind).1.promise<b.hours)
   .have h9':¬(hrLook s l b.kind).1.promise<b.hours:=by simpa using h9
    rw[if_neg h9',bC]at hj2;simp only[go_sem,simprocAttr];refine bh (done++[b],r,out,es,g++[.row 2 [.p b.pv]]) ⟨by rw[e1];simp,by rw[e2,hj2];simp,by simp;omega,e4⟩ (j4 _) (by simp only[go_sem,simprocAttr]) ?_;simp only[hnx,go_sem,simprocAttr]
   .have h9':(hrLook s l b.kind).1.promise<b.hours:=by simpa using h9
    rw[if_pos h9']at hj2;simp only[hrm,go_sem,simprocAttr];refine bh (done++[b],r,out++[((done.length:Nat):Int)],es,g++[.row 2 [.p b.pv]]) ⟨by rw[e1];simp,by rw[e2,hj2];simp,by simp;omega,e4⟩ (j4 _) (by simp only[cj,go_sem,simprocAttr]) ?_
    simp only[hnx,aB,bn,go_sem,simprocAttr]
  |none=>
   simp only[g0,go_sem,simprocAttr];refine ae (yK s l b.kind) rfl ?_;simp only[gg,ss,cF,aB,bn,go_sem,simprocAttr];cases hl:((hrLook s l b.kind).2 != 0)
   rotate_left
   .have hl':(hrLook s l b.kind).2≠0:=by simpa using hl
    rw[e2,pE hbe hl'];simp only[iK,if_neg hl',go_sem,simprocAttr]
   have hl0:(hrLook s l b.kind).2=0:=by simpa using hl
   have hj2:=yv (out:=out) (i:=done.length) (r:=r) (hbe.trans hl0);have hmp:=vH b.kind (hrLook s l b.kind).1.promise es hm;have hes:∀k v,iB k (es++[(b.kind,(hrLook s l b.kind).1.promise)])=some v->(hrLook s l k).2=0/\v=(hrLook s l k).1.promise:=by
    intro k v h;rw[sx]at h
    cases hk:iB k es with
    |some u=>rw[hk]at h;cases h;exact e4 k _ hk
    |none=>
     rw[hk]at h;dsimp only[Option.or]at h;split at h
     .rename_i hkk;cases h;rw[hkk];exact⟨hl0,rfl⟩
     .cases h
   simp only[gg,go_sem,simprocAttr];refine ae (xO _ (iD hl0).1) rfl ?_;simp only[g0,hmp,go_sem,simprocAttr];cases h9:decide ((hrLook s l b.kind).1.promise<b.hours)
   .have h9':¬(hrLook s l b.kind).1.promise<b.hours:=by simpa using h9
    rw[if_neg h9',bC]at hj2;simp only[go_sem,simprocAttr];refine bh (done++[b],r,out,es++[(b.kind,(hrLook s l b.kind).1.promise)],g++[.row 2 [.p b.pv],.row 6 [.p (hrLook s l b.kind).1.pv]]) ⟨by rw[e1];simp,by rw[e2,hj2];simp,by simp;omega,hes⟩ (j4 _) (by simp only[go_sem,simprocAttr]) ?_;simp only[hnx,go_sem,simprocAttr]
   .have h9':(hrLook s l b.kind).1.promise<b.hours:=by simpa using h9
    rw[if_pos h9']at hj2;simp only[hrm,go_sem,simprocAttr];refine bh (done++[b],r,out++[((done.length:Nat):Int)],es++[(b.kind,(hrLook s l b.kind).1.promise)],g++[.row 2 [.p b.pv],.row 6 [.p (hrLook s l b.kind).1.pv]]) ⟨by rw[e1];simp,by rw[e2,hj2];simp,by simp;omega,hes⟩ (j4 _) (by simp only[cj,go_sem,simprocAttr]) ?_;simp only[hnx,aB,bn,go_sem,simprocAttr]
end Abs
end Go.Proofs.YtoapoaoelpcniaaGreatDoor
