/- CONTRACTS of the program's functions, and laws on what they return. No conditions but those in the theorems' heads. -/
import Derived.Test.YtnjiadikeacfaaaGreatDoorBdFillX
set_option linter.all false
open Go.Proofs.Tryz renaming prog->TP
namespace Go.Proofs.YtnjiadikeacfaaaGreatDoor
namespace Abs
namespace Ch
set_option maxRecDepth 4000
def sB (P:Program) (f:FuncId) (pargs:List PV) (e:PV):Prop:=
 ∀(M0:Nat->Prop) (w:World) (cargs:Array Value),(∀b,M0 b->b<w.heap.size)->uQ P w->qg M0 w cargs pargs ->
  (∀w',(callFunc f cargs).run P w'=.ok (.enter f cargs) w') /\
  Calls P f cargs w λen w'=>∃v',en=.panicked [{ v:=v',recovered:=false }]/\RepP M0 w' v' e/\Fr [] w w'
theorem gS{P}{f}{pargs}{e}(h:aB P f (pargs.map .p) [] (λr _=>r=.panic e)):sB P f pargs e:=by
 intro M0 w cargs hM hg ha;have ha':dE (Rep M0 ⟨[],[],w⟩) cargs (pargs.map .p):=by
  refine⟨by simpa using ha.1,λi c hc=>?_⟩;simp only[cz,cd]at hc;obtain⟨q,hq,rfl⟩:=hc;exact aF ((ha.2 i q hq).mono (λ_ _ _=>rfl) (λb hb=>by
   rcases hb with hb|hb
   .exact .inl hb
   .simp[Own]at hb))
 have:=h M0 [] w cargs (qn hM hg) ha';refine⟨this.1,this.2.mono λen w' hh=>?_⟩;obtain⟨r,h',m',rfl,hev,hk,hend⟩:=hh
 cases en with
 |returned v'=>exact hend.elim
 |panicked ch=>
  obtain⟨v',h1,h2⟩:=hend
  exact⟨v',by rw[h1],RepP.less h2 (λb hb=>.inl hb),hev.fr⟩
 |outgrown=>exact hend.elim
theorem Dc{P}{f}{args}{pargs}{e}{h}(hc:sB P f pargs e)(ha:pE h args=some pargs)(hv:Flat e):aB P f args h (λr h'=>r=.panic e/\h'=h):=by
 intro M0 m w cargs hS hargs;obtain⟨hl,hg⟩:=Bd ha;have hpa:qg M0 w cargs pargs:=by
  refine⟨by rw[hargs.1,hl],λi c hi=>?_⟩;obtain⟨a,h1,h2⟩:=hg i c hi;exact qW (S:=⟨m,h,w⟩) hS (hargs.2 i a h1) h2
 obtain⟨h1,h2⟩:=hc M0 w cargs (λb hb=>(hS.m0 b hb).1) hS.gl.1 hpa;refine⟨h1,h2.mono λen w' hh=>?_⟩;obtain⟨v',rfl,hr,hfr⟩:=hh;obtain⟨hk,hev⟩:=rV hS hfr;exact⟨.panic e,_,m,⟨rfl,rfl⟩,hev,hk,⟨v',rfl,hv.rep hr⟩⟩
theorem ro{P}{H}{Q}{ops}{rest}{dst}{A}{f}{args}{pargs}{e}(hc:sB P f pargs e)(ha:pE A.h args=some pargs)(hv:Flat e)
  (h2:@WQ ⟨Q⟩ (.panic e) A):@WF ⟨P,H,ops,rest,Q,dst⟩ A f args:=
 cp (Dc hc ha hv) (λv h hr=>by cases hr.1) (λv h hr=>by obtain⟨e,rfl⟩:=hr;cases e;exact h2)
def f9 (e:Int):PV:=.iface 44 (.int .i64 e)
attribute [go_sem] f9
theorem mv(e):Flat (f9 e):=.iface (.int _ _)
theorem wX(b)(e)(h):aB TP 126 [.p (.bool b),.p (.int .i64 e)] h (λr h'=>h'=h/\r=if b=true then .ret (.p (.tuple [])) else .panic (f9 e)):=by
 refine aA (ah Tryz.func126 rfl (by kernel_rfl)) rfl ?_;simp only[go_sem,simprocAttr];cases b
 .simp only[go_sem,simprocAttr]
 .simp only[go_sem,simprocAttr]
theorem au{H}{Q}{ops}{rest}{dst}{A}{b}{e}(h1:b=true->@WO ⟨TP,H,ops,rest,Q⟩ (A.put dst (.p (.tuple [])) A.h))
  (h2:b=false->@WQ ⟨Q⟩ (.panic (f9 e)) A):@WF ⟨TP,H,ops,rest,Q,dst⟩ A 126 [.p (.bool b),.p (.int .i64 e)]:=by
 refine cp (wX b e A.h) (λv h hr=>?_) (λv h hr=>?_)
 .obtain⟨rfl,hr⟩:=hr;cases b
  .cases hr
  .cases hr;exact h1 rfl
 .obtain⟨rfl,hr⟩:=hr;cases b
  .cases hr;exact h2 rfl
  .cases hr
theorem RO(x:WxKind):af TP 198 [x.pv] (.str x.name):=by
 refine aa (ah Tryz.func198 rfl (by kernel_rfl)) rfl ?_;simp only[go_sem,simprocAttr]
theorem Il(s)(x:WxKind):af TP 254 [x.pv,.ptr 1 [.func (.func 198) [] []] 0 0,.ptr 1 [.str s] 0 0] (.bool (x.name==s)):=by
 refine aa (ah Tryz.func254 rfl (by kernel_rfl)) rfl ?_;simp only[go_sem,simprocAttr];refine ay (RO x) rfl ?_;simp only[go_sem,simprocAttr]
theorem Uq(l)(s)(b)(hl:l.length<1000000000)(h0:0<=az (λx=>x.name==s) l 0) :
  af TP 197 [.slice 2 (l.map WxKind.pv) b,.str s,.func (.func 198) [] []] (.int .i64 (az (λx=>x.name==s) l 0)):=by
 refine aa (ah Tryz.func197 rfl (by kernel_rfl)) rfl ?_;simp only[go_sem,simprocAttr];refine aY (sx (fv:=.func (.func 254) [] [.ptr 1 [.func (.func 198) [] []] 0 0,.ptr 1 [.str s] 0 0]) l (λy=>y.name==s) b 2 rfl hl λy _=>⟨_,_,_,rfl,Il s y⟩) ?_ (.int _ _) ?_
 .simp only[go_sem,simprocAttr]
 have hd:decide (0<=az (λx:WxKind=>x.name==s) l 0)=true:=by simpa using h0
 simp only[hd,go_sem,simprocAttr];refine au (λ_=>?_) (λh=>by cases h);simp only[go_sem,simprocAttr]
theorem Te(l)(s)(b)(hl:l.length<1000000000)(h0:az (λx=>x.name==s) l 0<0) :
  sB TP 197 [.slice 2 (l.map WxKind.pv) b,.str s,.func (.func 198) [] []] (f9 4):=by
 refine gS ?_;refine aA (ah Tryz.func197 rfl (by kernel_rfl)) rfl ?_;simp only[go_sem,simprocAttr];refine aY (sx (fv:=.func (.func 254) [] [.ptr 1 [.func (.func 198) [] []] 0 0,.ptr 1 [.str s] 0 0]) l (λy=>y.name==s) b 2 rfl hl λy _=>⟨_,_,_,rfl,Il s y⟩) ?_ (.int _ _) ?_
 .simp only[go_sem,simprocAttr]
 have hd:decide (0<=az (λx:WxKind=>x.name==s) l 0)=false:=by simpa using h0
 simp only[hd,go_sem,simprocAttr];refine au (λh=>by cases h) (λ_=>?_);simp only[go_sem,simprocAttr]
theorem RN(x:ClColour):af TP 203 [x.pv] (.str x.name):=by
 refine aa (ah Tryz.func203 rfl (by kernel_rfl)) rfl ?_;simp only[go_sem,simprocAttr]
theorem Ik(s)(x:ClColour):af TP 258 [x.pv,.ptr 1 [.func (.func 203) [] []] 0 0,.ptr 1 [.str s] 0 0] (.bool (x.name==s)):=by
 refine aa (ah Tryz.func258 rfl (by kernel_rfl)) rfl ?_;simp only[go_sem,simprocAttr];refine ay (RN x) rfl ?_;simp only[go_sem,simprocAttr]
theorem Up(l)(s)(b)(hl:l.length<1000000000)(h0:0<=az (λx=>x.name==s) l 0) :
  af TP 202 [.slice 4 (l.map ClColour.pv) b,.str s,.func (.func 203) [] []] (.int .i64 (az (λx=>x.name==s) l 0)):=by
 refine aa (ah Tryz.func202 rfl (by kernel_rfl)) rfl ?_;simp only[go_sem,simprocAttr];refine aY (lW (fv:=.func (.func 258) [] [.ptr 1 [.func (.func 203) [] []] 0 0,.ptr 1 [.str s] 0 0]) l (λy=>y.name==s) b 4 rfl hl λy _=>⟨_,_,_,rfl,Ik s y⟩) ?_ (.int _ _) ?_
 .simp only[go_sem,simprocAttr]
 have hd:decide (0<=az (λx:ClColour=>x.name==s) l 0)=true:=by simpa using h0
 simp only[hd,go_sem,simprocAttr];refine au (λ_=>?_) (λh=>by cases h);simp only[go_sem,simprocAttr]
theorem Td(l)(s)(b)(hl:l.length<1000000000)(h0:az (λx=>x.name==s) l 0<0) :
  sB TP 202 [.slice 4 (l.map ClColour.pv) b,.str s,.func (.func 203) [] []] (f9 4):=by
 refine gS ?_;refine aA (ah Tryz.func202 rfl (by kernel_rfl)) rfl ?_;simp only[go_sem,simprocAttr];refine aY (lW (fv:=.func (.func 258) [] [.ptr 1 [.func (.func 203) [] []] 0 0,.ptr 1 [.str s] 0 0]) l (λy=>y.name==s) b 4 rfl hl λy _=>⟨_,_,_,rfl,Ik s y⟩) ?_ (.int _ _) ?_
 .simp only[go_sem,simprocAttr]
 have hd:decide (0<=az (λx:ClColour=>x.name==s) l 0)=false:=by simpa using h0
 simp only[hd,go_sem,simprocAttr];refine au (λh=>by cases h) (λ_=>?_);simp only[go_sem,simprocAttr]
theorem RM(x:ClColour):af TP 261 [x.pv] (.str x.name):=by
 refine aa (ah Tryz.func261 rfl (by kernel_rfl)) rfl ?_;simp only[go_sem,simprocAttr]
theorem Ij(s)(x:ClColour):af TP 258 [x.pv,.ptr 1 [.func (.func 261) [] []] 0 0,.ptr 1 [.str s] 0 0] (.bool (x.name==s)):=by
 refine aa (ah Tryz.func258 rfl (by kernel_rfl)) rfl ?_;simp only[go_sem,simprocAttr];refine ay (RM x) rfl ?_;simp only[go_sem,simprocAttr]
theorem MA(l)(s)(b)(hl:l.length<1000000000)(h0:0<=az (λx=>x.name==s) l 0) :
  af TP 202 [.slice 4 (l.map ClColour.pv) b,.str s,.func (.func 261) [] []] (.int .i64 (az (λx=>x.name==s) l 0)):=by
 refine aa (ah Tryz.func202 rfl (by kernel_rfl)) rfl ?_;simp only[go_sem,simprocAttr];refine aY (lW (fv:=.func (.func 258) [] [.ptr 1 [.func (.func 261) [] []] 0 0,.ptr 1 [.str s] 0 0]) l (λy=>y.name==s) b 4 rfl hl λy _=>⟨_,_,_,rfl,Ij s y⟩) ?_ (.int _ _) ?_
 .simp only[go_sem,simprocAttr]
 have hd:decide (0<=az (λx:ClColour=>x.name==s) l 0)=true:=by simpa using h0
 simp only[hd,go_sem,simprocAttr];refine au (λ_=>?_) (λh=>by cases h);simp only[go_sem,simprocAttr]
theorem Tc(l)(s)(b)(hl:l.length<1000000000)(h0:az (λx=>x.name==s) l 0<0) :
  sB TP 202 [.slice 4 (l.map ClColour.pv) b,.str s,.func (.func 261) [] []] (f9 4):=by
 refine gS ?_;refine aA (ah Tryz.func202 rfl (by kernel_rfl)) rfl ?_;simp only[go_sem,simprocAttr];refine aY (lW (fv:=.func (.func 258) [] [.ptr 1 [.func (.func 261) [] []] 0 0,.ptr 1 [.str s] 0 0]) l (λy=>y.name==s) b 4 rfl hl λy _=>⟨_,_,_,rfl,Ij s y⟩) ?_ (.int _ _) ?_
 .simp only[go_sem,simprocAttr]
 have hd:decide (0<=az (λx:ClColour=>x.name==s) l 0)=false:=by simpa using h0
 simp only[hd,go_sem,simprocAttr];refine au (λh=>by cases h) (λ_=>?_);simp only[go_sem,simprocAttr]
theorem RL(x:ChLot):af TP 205 [x.pv] (.str x.name):=by
 refine aa (ah Tryz.func205 rfl (by kernel_rfl)) rfl ?_;simp only[go_sem,simprocAttr]
theorem Ii(s)(x:ChLot):af TP 259 [x.pv,.ptr 1 [.func (.func 205) [] []] 0 0,.ptr 1 [.str s] 0 0] (.bool (x.name==s)):=by
 refine aa (ah Tryz.func259 rfl (by kernel_rfl)) rfl ?_;simp only[go_sem,simprocAttr];refine ay (RL x) rfl ?_;simp only[go_sem,simprocAttr]
theorem Uo(l)(s)(b)(hl:l.length<1000000000)(h0:0<=az (λx=>x.name==s) l 0) :
  af TP 204 [.slice 4 (l.map ChLot.pv) b,.str s,.func (.func 205) [] []] (.int .i64 (az (λx=>x.name==s) l 0)):=by
 refine aa (ah Tryz.func204 rfl (by kernel_rfl)) rfl ?_;simp only[go_sem,simprocAttr];refine aY (ri (fv:=.func (.func 259) [] [.ptr 1 [.func (.func 205) [] []] 0 0,.ptr 1 [.str s] 0 0]) l (λy=>y.name==s) b 4 rfl hl λy _=>⟨_,_,_,rfl,Ii s y⟩) ?_ (.int _ _) ?_
 .simp only[go_sem,simprocAttr]
 have hd:decide (0<=az (λx:ChLot=>x.name==s) l 0)=true:=by simpa using h0
 simp only[hd,go_sem,simprocAttr];refine au (λ_=>?_) (λh=>by cases h);simp only[go_sem,simprocAttr]
theorem Tb(l)(s)(b)(hl:l.length<1000000000)(h0:az (λx=>x.name==s) l 0<0) :
  sB TP 204 [.slice 4 (l.map ChLot.pv) b,.str s,.func (.func 205) [] []] (f9 4):=by
 refine gS ?_;refine aA (ah Tryz.func204 rfl (by kernel_rfl)) rfl ?_;simp only[go_sem,simprocAttr];refine aY (ri (fv:=.func (.func 259) [] [.ptr 1 [.func (.func 205) [] []] 0 0,.ptr 1 [.str s] 0 0]) l (λy=>y.name==s) b 4 rfl hl λy _=>⟨_,_,_,rfl,Ii s y⟩) ?_ (.int _ _) ?_
 .simp only[go_sem,simprocAttr]
 have hd:decide (0<=az (λx:ChLot=>x.name==s) l 0)=false:=by simpa using h0
 simp only[hd,go_sem,simprocAttr];refine au (λh=>by cases h) (λ_=>?_);simp only[go_sem,simprocAttr]
theorem RJ(x:ChBatch):af TP 207 [x.pv] (.str x.name):=by
 refine aa (ah Tryz.func207 rfl (by kernel_rfl)) rfl ?_;simp only[go_sem,simprocAttr]
theorem Ih(s)(x:ChBatch):af TP 260 [x.pv,.ptr 1 [.func (.func 207) [] []] 0 0,.ptr 1 [.str s] 0 0] (.bool (x.name==s)):=by
 refine aa (ah Tryz.func260 rfl (by kernel_rfl)) rfl ?_;simp only[go_sem,simprocAttr];refine ay (RJ x) rfl ?_;simp only[go_sem,simprocAttr]
theorem Un(l)(s)(b)(hl:l.length<1000000000)(h0:0<=az (λx=>x.name==s) l 0) :
  af TP 206 [.slice 4 (l.map ChBatch.pv) b,.str s,.func (.func 207) [] []] (.int .i64 (az (λx=>x.name==s) l 0)):=by
 refine aa (ah Tryz.func206 rfl (by kernel_rfl)) rfl ?_;simp only[go_sem,simprocAttr];refine aY (rh (fv:=.func (.func 260) [] [.ptr 1 [.func (.func 207) [] []] 0 0,.ptr 1 [.str s] 0 0]) l (λy=>y.name==s) b 4 rfl hl λy _=>⟨_,_,_,rfl,Ih s y⟩) ?_ (.int _ _) ?_
 .simp only[go_sem,simprocAttr]
 have hd:decide (0<=az (λx:ChBatch=>x.name==s) l 0)=true:=by simpa using h0
 simp only[hd,go_sem,simprocAttr];refine au (λ_=>?_) (λh=>by cases h);simp only[go_sem,simprocAttr]
theorem Ta(l)(s)(b)(hl:l.length<1000000000)(h0:az (λx=>x.name==s) l 0<0) :
  sB TP 206 [.slice 4 (l.map ChBatch.pv) b,.str s,.func (.func 207) [] []] (f9 4):=by
 refine gS ?_;refine aA (ah Tryz.func206 rfl (by kernel_rfl)) rfl ?_;simp only[go_sem,simprocAttr];refine aY (rh (fv:=.func (.func 260) [] [.ptr 1 [.func (.func 207) [] []] 0 0,.ptr 1 [.str s] 0 0]) l (λy=>y.name==s) b 4 rfl hl λy _=>⟨_,_,_,rfl,Ih s y⟩) ?_ (.int _ _) ?_
 .simp only[go_sem,simprocAttr]
 have hd:decide (0<=az (λx:ChBatch=>x.name==s) l 0)=false:=by simpa using h0
 simp only[hd,go_sem,simprocAttr];refine au (λh=>by cases h) (λ_=>?_);simp only[go_sem,simprocAttr]
theorem RI(x:HrKind):af TP 211 [x.pv] (.str x.name):=by
 refine aa (ah Tryz.func211 rfl (by kernel_rfl)) rfl ?_;simp only[go_sem,simprocAttr]
theorem Ig(s)(x:HrKind):af TP 263 [x.pv,.ptr 1 [.func (.func 211) [] []] 0 0,.ptr 1 [.str s] 0 0] (.bool (x.name==s)):=by
 refine aa (ah Tryz.func263 rfl (by kernel_rfl)) rfl ?_;simp only[go_sem,simprocAttr];refine ay (RI x) rfl ?_;simp only[go_sem,simprocAttr]
theorem Um(l)(s)(b)(hl:l.length<1000000000)(h0:0<=az (λx=>x.name==s) l 0) :
  af TP 210 [.slice 4 (l.map HrKind.pv) b,.str s,.func (.func 211) [] []] (.int .i64 (az (λx=>x.name==s) l 0)):=by
 refine aa (ah Tryz.func210 rfl (by kernel_rfl)) rfl ?_;simp only[go_sem,simprocAttr];refine aY (oH (fv:=.func (.func 263) [] [.ptr 1 [.func (.func 211) [] []] 0 0,.ptr 1 [.str s] 0 0]) l (λy=>y.name==s) b 4 rfl hl λy _=>⟨_,_,_,rfl,Ig s y⟩) ?_ (.int _ _) ?_
 .simp only[go_sem,simprocAttr]
 have hd:decide (0<=az (λx:HrKind=>x.name==s) l 0)=true:=by simpa using h0
 simp only[hd,go_sem,simprocAttr];refine au (λ_=>?_) (λh=>by cases h);simp only[go_sem,simprocAttr]
theorem S9(l)(s)(b)(hl:l.length<1000000000)(h0:az (λx=>x.name==s) l 0<0) :
  sB TP 210 [.slice 4 (l.map HrKind.pv) b,.str s,.func (.func 211) [] []] (f9 4):=by
 refine gS ?_;refine aA (ah Tryz.func210 rfl (by kernel_rfl)) rfl ?_;simp only[go_sem,simprocAttr];refine aY (oH (fv:=.func (.func 263) [] [.ptr 1 [.func (.func 211) [] []] 0 0,.ptr 1 [.str s] 0 0]) l (λy=>y.name==s) b 4 rfl hl λy _=>⟨_,_,_,rfl,Ig s y⟩) ?_ (.int _ _) ?_
 .simp only[go_sem,simprocAttr]
 have hd:decide (0<=az (λx:HrKind=>x.name==s) l 0)=false:=by simpa using h0
 simp only[hd,go_sem,simprocAttr];refine au (λh=>by cases h) (λ_=>?_);simp only[go_sem,simprocAttr]
theorem RH(x:Wax):af TP 213 [x.pv] (.str x.name):=by
 refine aa (ah Tryz.func213 rfl (by kernel_rfl)) rfl ?_;simp only[go_sem,simprocAttr]
theorem If(s)(x:Wax):af TP 265 [x.pv,.ptr 1 [.func (.func 213) [] []] 0 0,.ptr 1 [.str s] 0 0] (.bool (x.name==s)):=by
 refine aa (ah Tryz.func265 rfl (by kernel_rfl)) rfl ?_;simp only[go_sem,simprocAttr];refine ay (RH x) rfl ?_;simp only[go_sem,simprocAttr]
theorem Ul(l)(s)(b)(hl:l.length<1000000000)(h0:0<=az (λx=>x.name==s) l 0) :
  af TP 212 [.slice 8 (l.map Wax.pv) b,.str s,.func (.func 213) [] []] (.int .i64 (az (λx=>x.name==s) l 0)):=by
 refine aa (ah Tryz.func212 rfl (by kernel_rfl)) rfl ?_;simp only[go_sem,simprocAttr];refine aY (sy (fv:=.func (.func 265) [] [.ptr 1 [.func (.func 213) [] []] 0 0,.ptr 1 [.str s] 0 0]) l (λy=>y.name==s) b 8 rfl hl λy _=>⟨_,_,_,rfl,If s y⟩) ?_ (.int _ _) ?_
 .simp only[go_sem,simprocAttr]
 have hd:decide (0<=az (λx:Wax=>x.name==s) l 0)=true:=by simpa using h0
 simp only[hd,go_sem,simprocAttr];refine au (λ_=>?_) (λh=>by cases h);simp only[go_sem,simprocAttr]
theorem S8(l)(s)(b)(hl:l.length<1000000000)(h0:az (λx=>x.name==s) l 0<0) :
  sB TP 212 [.slice 8 (l.map Wax.pv) b,.str s,.func (.func 213) [] []] (f9 4):=by
 refine gS ?_;refine aA (ah Tryz.func212 rfl (by kernel_rfl)) rfl ?_;simp only[go_sem,simprocAttr];refine aY (sy (fv:=.func (.func 265) [] [.ptr 1 [.func (.func 213) [] []] 0 0,.ptr 1 [.str s] 0 0]) l (λy=>y.name==s) b 8 rfl hl λy _=>⟨_,_,_,rfl,If s y⟩) ?_ (.int _ _) ?_
 .simp only[go_sem,simprocAttr]
 have hd:decide (0<=az (λx:Wax=>x.name==s) l 0)=false:=by simpa using h0
 simp only[hd,go_sem,simprocAttr];refine au (λh=>by cases h) (λ_=>?_);simp only[go_sem,simprocAttr]
inductive Word where
 |s (l:List UInt8)
 |n (i:Int)
 |ns (l:List Int)
def Word.pv:Word->PV
 |.s l=>.iface 9 (.str (bs l))
 |.n i=>.iface 3 (.int .i64 i)
 |.ns l=>.iface 79 (.slice 1 (l.map aG) false)
def Word.ws:Word->List (List UInt8)
 |.s l=>[l]
 |.n i=>[bC i]
 |.ns l=>l.map bC
def Word.ok:Word->Prop
 |.s l=>l.length<=1000
 |.n i=>0<=i/\i<1000000000
 |.ns l=>l.length<=1000/\∀i,i∈l->0<=i/\i<1000000000
theorem zS:∀l,Lib.join l [32]=joinL l
 |[]=>rfl
 |[x]=>by rw[Lib.join_one];rfl
 |x::y::r=>by
  have ih:=zS (y::r);rw[joinL,<-ih,Lib.join_cons,Lib.join_cons];simp[Lib.joinTail]
theorem mr{n}(h:0<=n):zU n=bs (bC n):=by
 obtain⟨m,rfl⟩:=pq h;unfold zU bC bs
 congr 2
theorem Ao(n)(h0:0<=n)(h1:n<1000000000):af TP 90 [.int .i64 n] (.str (bs (bC n))):=by
 rw[<-mr h0];exact xb n (by omega) (by omega)
def tE (x:List UInt8):AV:=.p (.str (bs x))
attribute [go_sem] tE
theorem Fa(n)(h)(l:List (List UInt8)):aS (ci n h) (l.map tE)=some (l.map λx=>.str (bs x)):=de (ef n h) (λx=>PV.str (bs x)) l
theorem V7:bs [32]=({ data:=#[32] }:ByteArray):=rfl
theorem SQ{w:Word}(h:w.ok):w.ws.length<=1000:=by
 cases w with
 |s l=>simp[Word.ws]
 |n i=>simp[Word.ws]
 |ns l=>simpa[Word.ws]using h.1
theorem Fl{n}(h0:0<=n)(h1:n<1000000000):(bC n).length<=1000:=by
 obtain⟨m,rfl⟩:=pq h0;have:=us 8 m (by omega);unfold bC;rw[jO];omega
theorem Qi{w:Word}(h:w.ok):∀x,x∈w.ws->x.length<=1000:=by
 intro x hx
 cases w with
 |s l=>simp[Word.ws]at hx;subst hx;exact h
 |n i=>simp[Word.ws]at hx;subst hx;exact Fl h.1 h.2
 |ns l=>
  simp only[Word.ws,dN]at hx;obtain⟨i,hi,rfl⟩:=hx;have:=h.2 i hi;exact Fl this.1 this.2
theorem E4(sep):∀l,(∀x,x∈l->x.length<=1000)->sep.length<=1->(Lib.join l sep).length<=l.length*1001
 |[],_,_=>by simp[Lib.join_nil]
 |[x],h,_=>by have:=h x (by simp);rw[Lib.join_one];simp;omega
 |x::y::r,h,hs=>by
  have ih:=E4 sep (y::r) (λz hz=>h z (by simp[hz])) hs;have h1:=h x (by simp);rw[Lib.join_cons]at ih |-;have e:Lib.joinTail sep (y::r)=sep++(y++Lib.joinTail sep r):=by simp[Lib.joinTail]
  rw[e];simp only[aK,cc]at ih |-;omega
theorem oG(l:List Word)(fl)(hl:l.length<=100)(hok:∀w,w∈l->w.ok):af TP 93 [.slice 1 (l.map Word.pv) fl] (.str (bs (joinL (l.flatMap Word.ws)))):=by
 have hfl:∀done:List Word,(∀w,w∈done->w.ok)->(done.flatMap Word.ws).length<=done.length*1000:=λdone h=>Cl.qY done λw hw=>SQ (h w hw);refine aa (ah Tryz.func93 rfl (by kernel_rfl)) rfl ?_;simp only[go_sem,simprocAttr];refine ck 3 1 (by simp only[go_sem,simprocAttr]) ?_;simp only[go_sem,simprocAttr];refine bm [11,12] l (by omega) (τ:=Unit) (λdone rest _=>True) (λdone _=>[(3,.slice 0 (done.flatMap Word.ws).length 0 (done.flatMap Word.ws).length),(13,.p (.int .i64 done.length))]) (λdone _=>[.row 1 ((done.flatMap Word.ws).map tE)]) () trivial ?_ ?_ ?_
 .simp only[tm,go_sem,simprocAttr]
 .intro _ _;simp only[go_sem,simprocAttr];have hb:=E4 [32] (l.flatMap Word.ws) (λx hx=>by
   obtain⟨w,hw,hx⟩:=DN.1 hx
   exact Qi (hok w hw) x hx) (by simp)
  have h2:=hfl l hok;have hj:=V3 (l.flatMap Word.ws) [32] false (by omega) (by omega);rw[zS]at hj;refine aY hj ?_ (.str _) ?_
  .simp only[Fa,V7,go_sem,simprocAttr]
  simp only[go_sem,simprocAttr]
 .intro done w r _ e1 _ hx hlt hnx;have hwo:=hok w (by rw[e1];simp);have hdl:=hfl done (λw hw=>hok w (by rw[e1];simp[hw]));have hdn:done.length<=100:=by rw[e1]at hl;simp at hl;omega
  have hrm:(done.flatMap Word.ws).length+1<=ar:=by simp only[ar];omega
  cases w with
  |s x=>
   simp only[hlt,hx,Word.pv,hrm,go_sem,simprocAttr];refine aE e1 () trivial ?_
   simp only[hnx,rB,mN,tm,Word.ws,aK,ca,bw,go_sem,simprocAttr]
  |n i=>
   simp only[hlt,hx,Word.pv,go_sem,simprocAttr];refine ae (Ao i hwo.1 hwo.2) rfl ?_;simp only[hrm,go_sem,simprocAttr];refine aE e1 () trivial ?_
   simp only[hnx,rB,mN,tm,Word.ws,aK,ca,bw,go_sem,simprocAttr]
  |ns q=>
   simp only[hlt,hx,Word.pv,go_sem,simprocAttr];have hq:=hwo.1;refine bm [11,12,13,36,37] q (by omega) (τ:=Unit) (λd2 rest _=>True) (λd2 _=>[(3,.slice 0 ((done.flatMap Word.ws).length+d2.length) 0 ((done.flatMap Word.ws).length+d2.length)),(38,.p (.int .i64 d2.length))]) (λd2 _=>[.row 1 ((done.flatMap Word.ws).map tE++(d2.map bC).map tE)]) () trivial ?_ ?_ ?_
   .simp only[bj,bw,ik,go_sem,simprocAttr]
   .intro _ _;simp only[go_sem,simprocAttr];refine aE e1 () trivial ?_;simp only[hnx,rB,mN,tm,Word.ws,aK,ca,bw,go_sem,simprocAttr]
   .intro d2 i r2 _ e3 _ hx2 hlt2 hnx2;have hio:=hwo.2 i (by rw[e3];simp);have hd2:d2.length<=1000:=by rw[e3]at hq;simp at hq;omega
    have hrm2:(done.flatMap Word.ws).length+d2.length+1<=ar:=by simp only[ar];omega
    simp only[hlt2,hx2,go_sem,simprocAttr];refine ae (Ao i hio.1 hio.2) rfl ?_;simp only[hrm2,aK,go_sem,simprocAttr];refine aE e3 () trivial ?_;simp only[hnx2,aK,bt,ca,bD,bj,dq,lE,go_sem,simprocAttr]
end Ch
set_option maxRecDepth 4000
def ij (v:List Int×Int):PV:=if v.2=0 then mo v.1 else .nilslice
set_option maxHeartbeats 2000000 in
theorem QN(s)(l)(boxes):gZ TP 27 [s.pv,.slice 3 (l.map HrTest.pv) false,.slice 2 (boxes.map HrBox.pv) false] (.tuple [ij (bG s l boxes),.int .i64 (bG s l boxes).2]):=by
 refine fO (ah Tryz.func27 rfl (by kernel_rfl)) rfl ?_;simp only[go_sem,simprocAttr];refine ae (rZ s l (-1)) rfl ?_;simp only[zK,go_sem,simprocAttr];cases h0:decide (bg s l=0)
 .have h0':¬bg s l=0:=by simpa using h0
  have hsp:bG s l boxes=([],bg s l):=by rw[bG,if_neg h0']
  rw[hsp,if_neg h0'];have hch:(hrCheck s).2.2=0->bg s l=4->l.length<1000000000:=by
   intro hc h4;unfold bg at h4;rw[if_pos hc]at h4;split at h4
   .cases h4
   .omega
  cases h4:(bg s l != 4)
  .have h4':bg s l=4:=by simpa using h4
   simp only[go_sem,simprocAttr];refine ae (kq s l false (λhc=>hch hc h4')) rfl ?_;have hop:(bn s l != 0)=true:=by
    unfold bg at h4';unfold bn;split at h4'
    .rename_i hc;split at h4'
     .cases h4'
     .rw[if_pos hc,h4'];rfl
    .rename_i hc;rw[if_neg hc,h4'];rfl
   simp only[hop,ij,if_neg h0',go_sem,simprocAttr]
  .simp only[ij,if_neg h0',go_sem,simprocAttr]
 have h0':bg s l=0:=by simpa using h0
 have hok:=j0 h0';have hkk:=gU hok.1;have hop:bn s l=0:=by rw[bn,if_pos hok.1,hok.2.2]
 rw[if_pos h0'];simp only[go_sem,simprocAttr];refine ae (kq s l false (λ_=>by omega)) rfl ?_;simp only[hop,go_sem,simprocAttr];cases h20:decide ((20:Int)<(boxes.length:Int));rotate_left
 .have h20':20<boxes.length:=by simp at h20;omega
  have hsp:bG s l boxes=([],3):=by rw[bG,if_pos h0',if_pos h20']
  rw[hsp];simp only[ij,go_sem,simprocAttr]
 have h20':¬20<boxes.length:=by simp at h20;omega
 have hsp:bG s l boxes=bR s l 0 boxes:=by rw[bG,if_pos h0',if_neg h20']
 rw[hsp];have hj:bR s l 0 boxes=fS [] (bR s l 0 boxes):=by
  have key:∀q:List Int×Int,(q.2≠0->q.1=[])->q=fS [] q:=by
   rintro⟨a,b⟩ h
   simp only[fS,gR];split
   .rename_i h1;rw[show b=0 from h1]
   .rename_i h1;rw[show a=[] from h h1]
  refine key _ ?_;generalize (0:Nat)=i
  cases boxes with
  |nil=>intro h;exact absurd rfl h
  |cons b r=>
   intro h;rw[bR]at h |-;split
   .split
    .rename_i h1 h2;rw[if_pos h1,if_pos h2]at h;exact absurd rfl h
    .rfl
   .rfl
 rw[hj];simp only[go_sem,simprocAttr];refine ck 6 1 (by simp only[go_sem,simprocAttr]) ?_;simp only[go_sem,simprocAttr]
 refine eO [1,3,8,36,37] (σ:=List HrBox×List HrBox×List Int×List (Int×Int)×Heap)
  (λq=>boxes=q.1++q.2.1/\fS [] (bR s l 0 boxes)=fS q.2.2.1 (bR s l q.1.length q.2.1)/\q.2.2.1.length<=q.1.length /\
   ∀k v,hG k q.2.2.2.1=some v->(aD s l k).2=0/\v=(aD s l k).1.promise) (λq=>q.2.1.length)
  (λq=>[(6,.slice 2 q.2.2.1.length 0 q.2.2.1.length),(38,.p (.int .i64 q.1.length))])
  (λq=>[.row 3 [.p s.pv],.mp (q.2.2.2.1.map EN),.row 1 (q.2.2.1.map λn=>.p (aG n))]++q.2.2.2.2) ([],boxes,[],[],[]) ⟨rfl,rfl,bi _,λk v h=>by cases h⟩ (by simp only[bj,bw,go_sem,simprocAttr]) ?_ ?_
 .simp only[go_sem,simprocAttr]
 rintro⟨done,rest,out,es,g⟩ ⟨e1,e2,e3,e4⟩
 dsimp only at e1 e2 e3 e4
 cases rest with
 |nil=>
  have hlt:¬((done.length:Int)<(boxes.length:Int)):=by rw[e1];simp
  have e5:fS out (bR s l done.length [])=(out,0):=by rw[bR,fS,if_pos rfl,bw]
  rw[e2,e5];have hfz:∀n h (ms:List Int),aS (gA n h) (ms.map λn=>AV.p (PV.int .i64 n))=some (ms.map aG):=λn h ms=>la n h aG (λ_=>rfl) ms
  simp only[hlt,decide_false,ij,mo,hfz,mS,go_sem,simprocAttr]
 |cons b r=>
  obtain⟨hx,hltt⟩:=dZ e1;have hlen1:=congrArg List.length e1;simp only[aK,cc]at hlen1;have hnx:IntKind.i64.wrap ((done.length:Int)+1)=(((done++[b]).length:Nat):Int):=be (by omega) (by simp[ar];omega) (by simp);have g0:=kg (lo:=g) rfl;have s0:=lQ (lo:=g) rfl;have gg:=kf (lo:=g) rfl;have ss:=lP (lo:=g) rfl;have hw:IntKind.i64.wrap ((s.kinds.length:Int)-1)=(s.kinds.length:Int)-1:=am (by omega) (by omega);simp only[hltt,decide_true,hx,g0,s0,hw,go_sem,simprocAttr];refine ae (fI 0 _ [_] true (by simp)) rfl ?_;simp only[bF,bp,cl,go_sem,simprocAttr];cases h2:al b.kind 0 ((s.kinds.length:Int)-1)
  .rw[e2,nX (e:=4) (by rw[kj,h2];rfl) (by decide)];simp only[ij,go_sem,simprocAttr]
  simp only[g0,go_sem,simprocAttr];refine ae (fI 0 1000000 [_] true (by simp)) rfl ?_;simp only[bF,bp,cl,go_sem,simprocAttr];cases h3:al b.hours 0 1000000
  .rw[e2,nX (e:=7) (by rw[kj,h2,h3];rfl) (by decide)];simp only[ij,go_sem,simprocAttr]
  have hbe:kj s l b=(aD s l b.kind).2:=by rw[kj,h2,h3];rfl
  have hgi:=t6 b.kind es;simp only[g0,hgi,go_sem,simprocAttr];have hrm:out.length+1<=ar:=by simp[ar];omega
  cases hm:hG b.kind es with
  |some v=>
   obtain⟨hl0,rfl⟩:=e4 _ _ hm;have hj2:=wR (out:=out) (i:=done.length) (r:=r) (hbe.trans hl0);simp only[g0,go_sem,simprocAttr];cases h9:decide ((aD s l b.kind).1.promise<b.hours)
   .have h9':¬(aD s l b.kind).1.promise<b.hours:=by simpa using h9
    rw[if_neg h9',bw]at hj2;simp only[go_sem,simprocAttr];refine br (done++[b],r,out,es,g++[.row 2 [.p b.pv]]) ⟨by rw[e1];simp,by rw[e2,hj2];simp,by simp;omega,e4⟩ (gh _) (by simp only[go_sem,simprocAttr]) ?_;simp only[hnx,go_sem,simprocAttr]
   .have h9':(aD s l b.kind).1.promise<b.hours:=by simpa using h9
    rw[if_pos h9']at hj2;simp only[hrm,go_sem,simprocAttr];refine br (done++[b],r,out++[((done.length:Nat):Int)],es,g++[.row 2 [.p b.pv]]) ⟨by rw[e1];simp,by rw[e2,hj2];simp,by simp;omega,e4⟩ (gh _) (by simp only[ca,go_sem,simprocAttr]) ?_
    simp only[hnx,aK,bt,go_sem,simprocAttr]
  |none=>
   simp only[g0,go_sem,simprocAttr];refine ae (rZ s l b.kind) rfl ?_;simp only[gg,ss,dq,aK,bt,go_sem,simprocAttr];cases hl:((aD s l b.kind).2 != 0)
   rotate_left
   .have hl':(aD s l b.kind).2≠0:=by simpa using hl
    rw[e2,nX hbe hl'];simp only[ij,if_neg hl',go_sem,simprocAttr]
   have hl0:(aD s l b.kind).2=0:=by simpa using hl
   have hj2:=wR (out:=out) (i:=done.length) (r:=r) (hbe.trans hl0);have hmp:=tZ b.kind (aD s l b.kind).1.promise es hm;have hes:∀k v,hG k (es++[(b.kind,(aD s l b.kind).1.promise)])=some v->(aD s l k).2=0/\v=(aD s l k).1.promise:=by
    intro k v h;rw[qQ]at h
    cases hk:hG k es with
    |some u=>rw[hk]at h;cases h;exact e4 k _ hk
    |none=>
     rw[hk]at h;dsimp only[Option.or]at h;split at h
     .rename_i hkk;cases h;rw[hkk];exact⟨hl0,rfl⟩
     .cases h
   simp only[gg,go_sem,simprocAttr];refine ae (vY _ (mI hl0).1) rfl ?_;simp only[g0,hmp,go_sem,simprocAttr];cases h9:decide ((aD s l b.kind).1.promise<b.hours)
   .have h9':¬(aD s l b.kind).1.promise<b.hours:=by simpa using h9
    rw[if_neg h9',bw]at hj2;simp only[go_sem,simprocAttr];refine br (done++[b],r,out,es++[(b.kind,(aD s l b.kind).1.promise)],g++[.row 2 [.p b.pv],.row 6 [.p (aD s l b.kind).1.pv]]) ⟨by rw[e1];simp,by rw[e2,hj2];simp,by simp;omega,hes⟩ (gh _) (by simp only[go_sem,simprocAttr]) ?_;simp only[hnx,go_sem,simprocAttr]
   .have h9':(aD s l b.kind).1.promise<b.hours:=by simpa using h9
    rw[if_pos h9']at hj2;simp only[hrm,go_sem,simprocAttr];refine br (done++[b],r,out++[((done.length:Nat):Int)],es++[(b.kind,(aD s l b.kind).1.promise)],g++[.row 2 [.p b.pv],.row 6 [.p (aD s l b.kind).1.pv]]) ⟨by rw[e1];simp,by rw[e2,hj2];simp,by simp;omega,hes⟩ (gh _) (by simp only[ca,go_sem,simprocAttr]) ?_;simp only[hnx,aK,bt,go_sem,simprocAttr]
end Abs
end Go.Proofs.YtnjiadikeacfaaaGreatDoor
