/- CONTRACTS of the program's functions, and laws on what they return. No conditions but those in the theorems' heads. -/
import Derived.Test.YtmndpldajflenaaGreatDoorBdFillX
set_option linter.all false
set_option maxHeartbeats 2000000
open Go.Proofs.Tryz renaming prog->TP
open Go.Proofs.Tryz
namespace Go.Proofs.YtmndpldajflenaaGreatDoor
namespace Abs
namespace Ch
set_option maxRecDepth 4000
def rR (P:Program) (f:FuncId) (pargs:List PV) (e:PV):Prop:=
 ∀(M0:Nat->Prop) (w:World) (cargs:Array Value),(∀b,M0 b->b<w.heap.size)->t7 P w->oC M0 w cargs pargs ->
  (∀w',(callFunc f cargs).run P w'=.ok (.enter f cargs) w') /\
  Calls P f cargs w λen w'=>∃v',en=.panicked [{ v:=v',recovered:=false }]/\RepP M0 w' v' e/\Fr [] w w'
theorem gM{P}{f}{a}{e}(h:ar P f (a.map .p) [] (λr _=>r=.panic e)):rR P f a e:=by
 intro M0 w l D C z;have v:dz (Rep M0 ⟨[],[],w⟩) l (a.map .p):=by
  refine⟨by simpa using z.1,λi c y=>?_⟩;simp only[cW,bC]at y;obtain⟨q,A,rfl⟩:=y;exact aC ((z.2 i q A).mono (λ_ _ _=>rfl) (λb o=>by
   rcases o with o|o
   .exact .inl o
   .simp[Own]at o))
 have:=h M0 [] w l (pZ D C) v;refine⟨this.1,this.2.mono λG w' hh=>?_⟩;obtain⟨r,h',m',rfl,u,I,j⟩:=hh
 cases G with
 |returned v'=>exact j.elim
 |panicked J=>
  obtain⟨v',F,E⟩:=j
  exact⟨v',by rw[F],RepP.less E (λb o=>.inl o),u.fr⟩
 |outgrown=>exact j.elim
theorem Co{P}{f}{args}{j}{e}{h}(I:rR P f j e)(K:m9 h args=some j)(C:Flat e):ar P f args h (λr h'=>r=.panic e/\h'=h):=by
 intro M0 m w o q l;obtain⟨E,G⟩:=vQ K;have y:oC M0 w o j:=by
  refine⟨by rw[l.1,E],λi c hi=>?_⟩;obtain⟨a,v,u⟩:=G i c hi;exact qD (S:=⟨m,h,w⟩) q (l.2 i a v) u
 obtain⟨v,u⟩:=I M0 w o (λb J=>(q.m0 b J).1) q.gl.1 y;refine⟨v,u.mono λL w' hh=>?_⟩;obtain⟨v',rfl,D,z⟩:=hh;obtain⟨F,A⟩:=oX q z;exact⟨.panic e,_,m,⟨rfl,rfl⟩,A,F,⟨v',rfl,C.rep D⟩⟩
theorem qR{P}{H}{Q}{ops}{rest}{dst}{A}{f}{args}{a}{e}(l:rR P f a e)(o:m9 A.h args=some a)(j:Flat e)
  (q:@WQ ⟨Q⟩ (.panic e) A):@WF ⟨P,H,ops,rest,Q,dst⟩ A f args:=
 cj (Co l o j) (λv h i=>by cases i.1) (λv h i=>by obtain⟨e,rfl⟩:=i;cases e;exact q)
def gc (e:Int):PV:=.iface 32 (.int .i64 e)
attribute [go_sem] gc
theorem me(e):Flat (gc e):=.iface (.int _ _)
theorem vO(b)(e)(h):ar TP 198 [.p (.bool b),.p (.int .i64 e)] h (λr h'=>h'=h/\r=if b=true then .ret (.p (.tuple [])) else .panic (gc e)):=by
 refine au (ag func198 rfl) rfl ?_;simp only[go_sem,simprocAttr];cases b
 .simp only[go_sem,simprocAttr]
 .simp only[go_sem,simprocAttr]
theorem an{H}{Q}{ops}{rest}{dst}{A}{b}{e}(j:b=true->@WO ⟨TP,H,ops,rest,Q⟩ (A.put dst (.p (.tuple [])) A.h))
  (i:b=false->@WQ ⟨Q⟩ (.panic (gc e)) A):@WF ⟨TP,H,ops,rest,Q,dst⟩ A 198 [.p (.bool b),.p (.int .i64 e)]:=by
 refine cj (vO b e A.h) (λv h a=>?_) (λv h a=>?_)
 .obtain⟨rfl,a⟩:=a;cases b
  .cases a
  .cases a;exact j rfl
 .obtain⟨rfl,a⟩:=a;cases b
  .cases a;exact i rfl
  .cases a
theorem QE(x:WxKind):af TP 278 [x.pv] (.str x.name):=by
 refine aa (ag func278 rfl) rfl ?_;simp only[go_sem,simprocAttr]
theorem Hx(s)(x:WxKind):af TP 347 [x.pv,.ptr 1 [.func (.func 278) [] []] 0 0,.ptr 1 [.str s] 0 0] (.bool (x.name==s)):=by
 refine aa (ag func347 rfl) rfl ?_;simp only[go_sem,simprocAttr];refine ax (QE x) rfl ?_;simp only[go_sem,simprocAttr]
theorem SZ(l)(s)(b)(a:l.length<1000000000)(i:0<=aq (λx=>x.name==s) l 0) :
  af TP 277 [.slice 2 (l.map WxKind.pv) b,.str s,.func (.func 278) [] []] (.int .i64 (aq (λx=>x.name==s) l 0)):=by
 refine aa (ag func277 rfl) rfl ?_;simp only[go_sem,simprocAttr];refine aU (rO (fv:=.func (.func 347) [] [.ptr 1 [.func (.func 278) [] []] 0 0,.ptr 1 [.str s] 0 0]) l (λy=>y.name==s) b 2 rfl a λy _=>⟨_,_,_,rfl,Hx s y⟩) ?_ (.int _ _) ?_
 .simp only[go_sem,simprocAttr]
 have e:decide (0<=aq (λx:WxKind=>x.name==s) l 0)=true:=by simpa using i
 simp only[e,go_sem,simprocAttr];refine an (λ_=>?_) (λh=>by cases h);simp only[go_sem,simprocAttr]
theorem RY(l)(s)(b)(a:l.length<1000000000)(i:aq (λx=>x.name==s) l 0<0) :
  rR TP 277 [.slice 2 (l.map WxKind.pv) b,.str s,.func (.func 278) [] []] (gc 4):=by
 refine gM ?_;refine au (ag func277 rfl) rfl ?_;simp only[go_sem,simprocAttr];refine aU (rO (fv:=.func (.func 347) [] [.ptr 1 [.func (.func 278) [] []] 0 0,.ptr 1 [.str s] 0 0]) l (λy=>y.name==s) b 2 rfl a λy _=>⟨_,_,_,rfl,Hx s y⟩) ?_ (.int _ _) ?_
 .simp only[go_sem,simprocAttr]
 have e:decide (0<=aq (λx:WxKind=>x.name==s) l 0)=false:=by simpa using i
 simp only[e,go_sem,simprocAttr];refine an (λh=>by cases h) (λ_=>?_);simp only[go_sem,simprocAttr]
theorem QD(x:ClColour):af TP 283 [x.pv] (.str x.name):=by
 refine aa (ag func283 rfl) rfl ?_;simp only[go_sem,simprocAttr]
theorem Hw(s)(x:ClColour):af TP 351 [x.pv,.ptr 1 [.func (.func 283) [] []] 0 0,.ptr 1 [.str s] 0 0] (.bool (x.name==s)):=by
 refine aa (ag func351 rfl) rfl ?_;simp only[go_sem,simprocAttr];refine ax (QD x) rfl ?_;simp only[go_sem,simprocAttr]
theorem SY(l)(s)(b)(a:l.length<1000000000)(i:0<=aq (λx=>x.name==s) l 0) :
  af TP 282 [.slice 4 (l.map ClColour.pv) b,.str s,.func (.func 283) [] []] (.int .i64 (aq (λx=>x.name==s) l 0)):=by
 refine aa (ag func282 rfl) rfl ?_;simp only[go_sem,simprocAttr];refine aU (lQ (fv:=.func (.func 351) [] [.ptr 1 [.func (.func 283) [] []] 0 0,.ptr 1 [.str s] 0 0]) l (λy=>y.name==s) b 4 rfl a λy _=>⟨_,_,_,rfl,Hw s y⟩) ?_ (.int _ _) ?_
 .simp only[go_sem,simprocAttr]
 have e:decide (0<=aq (λx:ClColour=>x.name==s) l 0)=true:=by simpa using i
 simp only[e,go_sem,simprocAttr];refine an (λ_=>?_) (λh=>by cases h);simp only[go_sem,simprocAttr]
theorem RX(l)(s)(b)(a:l.length<1000000000)(i:aq (λx=>x.name==s) l 0<0) :
  rR TP 282 [.slice 4 (l.map ClColour.pv) b,.str s,.func (.func 283) [] []] (gc 4):=by
 refine gM ?_;refine au (ag func282 rfl) rfl ?_;simp only[go_sem,simprocAttr];refine aU (lQ (fv:=.func (.func 351) [] [.ptr 1 [.func (.func 283) [] []] 0 0,.ptr 1 [.str s] 0 0]) l (λy=>y.name==s) b 4 rfl a λy _=>⟨_,_,_,rfl,Hw s y⟩) ?_ (.int _ _) ?_
 .simp only[go_sem,simprocAttr]
 have e:decide (0<=aq (λx:ClColour=>x.name==s) l 0)=false:=by simpa using i
 simp only[e,go_sem,simprocAttr];refine an (λh=>by cases h) (λ_=>?_);simp only[go_sem,simprocAttr]
theorem QC(x:ClColour):af TP 354 [x.pv] (.str x.name):=by
 refine aa (ag func354 rfl) rfl ?_;simp only[go_sem,simprocAttr]
theorem Hv(s)(x:ClColour):af TP 351 [x.pv,.ptr 1 [.func (.func 354) [] []] 0 0,.ptr 1 [.str s] 0 0] (.bool (x.name==s)):=by
 refine aa (ag func351 rfl) rfl ?_;simp only[go_sem,simprocAttr];refine ax (QC x) rfl ?_;simp only[go_sem,simprocAttr]
theorem LJ(l)(s)(b)(a:l.length<1000000000)(i:0<=aq (λx=>x.name==s) l 0) :
  af TP 282 [.slice 4 (l.map ClColour.pv) b,.str s,.func (.func 354) [] []] (.int .i64 (aq (λx=>x.name==s) l 0)):=by
 refine aa (ag func282 rfl) rfl ?_;simp only[go_sem,simprocAttr];refine aU (lQ (fv:=.func (.func 351) [] [.ptr 1 [.func (.func 354) [] []] 0 0,.ptr 1 [.str s] 0 0]) l (λy=>y.name==s) b 4 rfl a λy _=>⟨_,_,_,rfl,Hv s y⟩) ?_ (.int _ _) ?_
 .simp only[go_sem,simprocAttr]
 have e:decide (0<=aq (λx:ClColour=>x.name==s) l 0)=true:=by simpa using i
 simp only[e,go_sem,simprocAttr];refine an (λ_=>?_) (λh=>by cases h);simp only[go_sem,simprocAttr]
theorem RW(l)(s)(b)(a:l.length<1000000000)(i:aq (λx=>x.name==s) l 0<0) :
  rR TP 282 [.slice 4 (l.map ClColour.pv) b,.str s,.func (.func 354) [] []] (gc 4):=by
 refine gM ?_;refine au (ag func282 rfl) rfl ?_;simp only[go_sem,simprocAttr];refine aU (lQ (fv:=.func (.func 351) [] [.ptr 1 [.func (.func 354) [] []] 0 0,.ptr 1 [.str s] 0 0]) l (λy=>y.name==s) b 4 rfl a λy _=>⟨_,_,_,rfl,Hv s y⟩) ?_ (.int _ _) ?_
 .simp only[go_sem,simprocAttr]
 have e:decide (0<=aq (λx:ClColour=>x.name==s) l 0)=false:=by simpa using i
 simp only[e,go_sem,simprocAttr];refine an (λh=>by cases h) (λ_=>?_);simp only[go_sem,simprocAttr]
theorem QB(x:ChLot):af TP 285 [x.pv] (.str x.name):=by
 refine aa (ag func285 rfl) rfl ?_;simp only[go_sem,simprocAttr]
theorem Hu(s)(x:ChLot):af TP 352 [x.pv,.ptr 1 [.func (.func 285) [] []] 0 0,.ptr 1 [.str s] 0 0] (.bool (x.name==s)):=by
 refine aa (ag func352 rfl) rfl ?_;simp only[go_sem,simprocAttr];refine ax (QB x) rfl ?_;simp only[go_sem,simprocAttr]
theorem SX(l)(s)(b)(a:l.length<1000000000)(i:0<=aq (λx=>x.name==s) l 0) :
  af TP 284 [.slice 4 (l.map ChLot.pv) b,.str s,.func (.func 285) [] []] (.int .i64 (aq (λx=>x.name==s) l 0)):=by
 refine aa (ag func284 rfl) rfl ?_;simp only[go_sem,simprocAttr];refine aU (qM (fv:=.func (.func 352) [] [.ptr 1 [.func (.func 285) [] []] 0 0,.ptr 1 [.str s] 0 0]) l (λy=>y.name==s) b 4 rfl a λy _=>⟨_,_,_,rfl,Hu s y⟩) ?_ (.int _ _) ?_
 .simp only[go_sem,simprocAttr]
 have e:decide (0<=aq (λx:ChLot=>x.name==s) l 0)=true:=by simpa using i
 simp only[e,go_sem,simprocAttr];refine an (λ_=>?_) (λh=>by cases h);simp only[go_sem,simprocAttr]
theorem RV(l)(s)(b)(a:l.length<1000000000)(i:aq (λx=>x.name==s) l 0<0) :
  rR TP 284 [.slice 4 (l.map ChLot.pv) b,.str s,.func (.func 285) [] []] (gc 4):=by
 refine gM ?_;refine au (ag func284 rfl) rfl ?_;simp only[go_sem,simprocAttr];refine aU (qM (fv:=.func (.func 352) [] [.ptr 1 [.func (.func 285) [] []] 0 0,.ptr 1 [.str s] 0 0]) l (λy=>y.name==s) b 4 rfl a λy _=>⟨_,_,_,rfl,Hu s y⟩) ?_ (.int _ _) ?_
 .simp only[go_sem,simprocAttr]
 have e:decide (0<=aq (λx:ChLot=>x.name==s) l 0)=false:=by simpa using i
 simp only[e,go_sem,simprocAttr];refine an (λh=>by cases h) (λ_=>?_);simp only[go_sem,simprocAttr]
theorem QA(x:ChBatch):af TP 287 [x.pv] (.str x.name):=by
 refine aa (ag func287 rfl) rfl ?_;simp only[go_sem,simprocAttr]
theorem Ht(s)(x:ChBatch):af TP 353 [x.pv,.ptr 1 [.func (.func 287) [] []] 0 0,.ptr 1 [.str s] 0 0] (.bool (x.name==s)):=by
 refine aa (ag func353 rfl) rfl ?_;simp only[go_sem,simprocAttr];refine ax (QA x) rfl ?_;simp only[go_sem,simprocAttr]
theorem SV(l)(s)(b)(a:l.length<1000000000)(i:0<=aq (λx=>x.name==s) l 0) :
  af TP 286 [.slice 4 (l.map ChBatch.pv) b,.str s,.func (.func 287) [] []] (.int .i64 (aq (λx=>x.name==s) l 0)):=by
 refine aa (ag func286 rfl) rfl ?_;simp only[go_sem,simprocAttr];refine aU (qL (fv:=.func (.func 353) [] [.ptr 1 [.func (.func 287) [] []] 0 0,.ptr 1 [.str s] 0 0]) l (λy=>y.name==s) b 4 rfl a λy _=>⟨_,_,_,rfl,Ht s y⟩) ?_ (.int _ _) ?_
 .simp only[go_sem,simprocAttr]
 have e:decide (0<=aq (λx:ChBatch=>x.name==s) l 0)=true:=by simpa using i
 simp only[e,go_sem,simprocAttr];refine an (λ_=>?_) (λh=>by cases h);simp only[go_sem,simprocAttr]
theorem RU(l)(s)(b)(a:l.length<1000000000)(i:aq (λx=>x.name==s) l 0<0) :
  rR TP 286 [.slice 4 (l.map ChBatch.pv) b,.str s,.func (.func 287) [] []] (gc 4):=by
 refine gM ?_;refine au (ag func286 rfl) rfl ?_;simp only[go_sem,simprocAttr];refine aU (qL (fv:=.func (.func 353) [] [.ptr 1 [.func (.func 287) [] []] 0 0,.ptr 1 [.str s] 0 0]) l (λy=>y.name==s) b 4 rfl a λy _=>⟨_,_,_,rfl,Ht s y⟩) ?_ (.int _ _) ?_
 .simp only[go_sem,simprocAttr]
 have e:decide (0<=aq (λx:ChBatch=>x.name==s) l 0)=false:=by simpa using i
 simp only[e,go_sem,simprocAttr];refine an (λh=>by cases h) (λ_=>?_);simp only[go_sem,simprocAttr]
theorem Qz(x:HrKind):af TP 291 [x.pv] (.str x.name):=by
 refine aa (ag func291 rfl) rfl ?_;simp only[go_sem,simprocAttr]
theorem Hs(s)(x:HrKind):af TP 356 [x.pv,.ptr 1 [.func (.func 291) [] []] 0 0,.ptr 1 [.str s] 0 0] (.bool (x.name==s)):=by
 refine aa (ag func356 rfl) rfl ?_;simp only[go_sem,simprocAttr];refine ax (Qz x) rfl ?_;simp only[go_sem,simprocAttr]
theorem SU(l)(s)(b)(a:l.length<1000000000)(i:0<=aq (λx=>x.name==s) l 0) :
  af TP 290 [.slice 4 (l.map HrKind.pv) b,.str s,.func (.func 291) [] []] (.int .i64 (aq (λx=>x.name==s) l 0)):=by
 refine aa (ag func290 rfl) rfl ?_;simp only[go_sem,simprocAttr];refine aU (oz (fv:=.func (.func 356) [] [.ptr 1 [.func (.func 291) [] []] 0 0,.ptr 1 [.str s] 0 0]) l (λy=>y.name==s) b 4 rfl a λy _=>⟨_,_,_,rfl,Hs s y⟩) ?_ (.int _ _) ?_
 .simp only[go_sem,simprocAttr]
 have e:decide (0<=aq (λx:HrKind=>x.name==s) l 0)=true:=by simpa using i
 simp only[e,go_sem,simprocAttr];refine an (λ_=>?_) (λh=>by cases h);simp only[go_sem,simprocAttr]
theorem RT(l)(s)(b)(a:l.length<1000000000)(i:aq (λx=>x.name==s) l 0<0) :
  rR TP 290 [.slice 4 (l.map HrKind.pv) b,.str s,.func (.func 291) [] []] (gc 4):=by
 refine gM ?_;refine au (ag func290 rfl) rfl ?_;simp only[go_sem,simprocAttr];refine aU (oz (fv:=.func (.func 356) [] [.ptr 1 [.func (.func 291) [] []] 0 0,.ptr 1 [.str s] 0 0]) l (λy=>y.name==s) b 4 rfl a λy _=>⟨_,_,_,rfl,Hs s y⟩) ?_ (.int _ _) ?_
 .simp only[go_sem,simprocAttr]
 have e:decide (0<=aq (λx:HrKind=>x.name==s) l 0)=false:=by simpa using i
 simp only[e,go_sem,simprocAttr];refine an (λh=>by cases h) (λ_=>?_);simp only[go_sem,simprocAttr]
theorem Qy(x:Wax):af TP 295 [x.pv] (.str x.name):=by
 refine aa (ag func295 rfl) rfl ?_;simp only[go_sem,simprocAttr]
theorem Hr(s)(x:Wax):af TP 360 [x.pv,.ptr 1 [.func (.func 295) [] []] 0 0,.ptr 1 [.str s] 0 0] (.bool (x.name==s)):=by
 refine aa (ag func360 rfl) rfl ?_;simp only[go_sem,simprocAttr];refine ax (Qy x) rfl ?_;simp only[go_sem,simprocAttr]
theorem ST(l)(s)(b)(a:l.length<1000000000)(i:0<=aq (λx=>x.name==s) l 0) :
  af TP 294 [.slice 8 (l.map Wax.pv) b,.str s,.func (.func 295) [] []] (.int .i64 (aq (λx=>x.name==s) l 0)):=by
 refine aa (ag func294 rfl) rfl ?_;simp only[go_sem,simprocAttr];refine aU (rP (fv:=.func (.func 360) [] [.ptr 1 [.func (.func 295) [] []] 0 0,.ptr 1 [.str s] 0 0]) l (λy=>y.name==s) b 8 rfl a λy _=>⟨_,_,_,rfl,Hr s y⟩) ?_ (.int _ _) ?_
 .simp only[go_sem,simprocAttr]
 have e:decide (0<=aq (λx:Wax=>x.name==s) l 0)=true:=by simpa using i
 simp only[e,go_sem,simprocAttr];refine an (λ_=>?_) (λh=>by cases h);simp only[go_sem,simprocAttr]
theorem RS(l)(s)(b)(a:l.length<1000000000)(i:aq (λx=>x.name==s) l 0<0) :
  rR TP 294 [.slice 8 (l.map Wax.pv) b,.str s,.func (.func 295) [] []] (gc 4):=by
 refine gM ?_;refine au (ag func294 rfl) rfl ?_;simp only[go_sem,simprocAttr];refine aU (rP (fv:=.func (.func 360) [] [.ptr 1 [.func (.func 295) [] []] 0 0,.ptr 1 [.str s] 0 0]) l (λy=>y.name==s) b 8 rfl a λy _=>⟨_,_,_,rfl,Hr s y⟩) ?_ (.int _ _) ?_
 .simp only[go_sem,simprocAttr]
 have e:decide (0<=aq (λx:Wax=>x.name==s) l 0)=false:=by simpa using i
 simp only[e,go_sem,simprocAttr];refine an (λh=>by cases h) (λ_=>?_);simp only[go_sem,simprocAttr]
inductive Word where
 |s (l:List UInt8)
 |n (i:Int)
 |ns (l:List Int)
def Word.pv:Word->PV
 |.s l=>.iface 9 (.str (bs l))
 |.n i=>.iface 3 (.int .i64 i)
 |.ns l=>.iface 35 (.slice 1 (l.map aI) false)
def Word.ws:Word->List (List UInt8)
 |.s l=>[l]
 |.n i=>[bH i]
 |.ns l=>l.map bH
def Word.ok:Word->Prop
 |.s l=>l.length<=1000
 |.n i=>0<=i/\i<1000000000
 |.ns l=>l.length<=1000/\∀i,i∈l->0<=i/\i<1000000000
theorem yK:∀l,Lib.join l [32]=joinL l
 |[]=>rfl
 |[x]=>by rw[Lib.join_one];rfl
 |x::y::r=>by
  have a:=yK (y::r);rw[joinL,<-a,Lib.join_cons,Lib.join_cons];simp[Lib.joinTail]
theorem md{n}(h:0<=n):yM n=bs (bH n):=by
 obtain⟨m,rfl⟩:=sB h;unfold yM bH bs
 congr 2
theorem zq(n)(a:0<=n)(e:n<1000000000):af TP 101 [.int .i64 n] (.str (bs (bH n))):=by
 rw[<-md a];exact vW n (by omega) (by omega)
def sS (x:List UInt8):AV:=.p (.str (bs x))
attribute [go_sem] sS
theorem Lh(n)(h)(l:List (List UInt8)):aQ (bV n h) (l.map sS)=some (l.map λx=>.str (bs x)):=dC (eE n h) (λx=>PV.str (bs x)) l
theorem UM:bs [32]=({ data:=#[32] }:ByteArray):=rfl
theorem RH{w:Word}(h:w.ok):w.ws.length<=1000:=by
 cases w with
 |s l=>simp[Word.ws]
 |n i=>simp[Word.ws]
 |ns l=>simpa[Word.ws]using h.1
theorem EA{n}(a:0<=n)(e:n<1000000000):(bH n).length<=1000:=by
 obtain⟨m,rfl⟩:=sB a;have:=tE 8 m (by omega);unfold bH;rw[kn];omega
theorem Pa{w:Word}(h:w.ok):∀x,x∈w.ws->x.length<=1000:=by
 intro x hx
 cases w with
 |s l=>simp[Word.ws]at hx;subst hx;exact h
 |n i=>simp[Word.ws]at hx;subst hx;exact EA h.1 h.2
 |ns l=>
  simp only[Word.ws,cX]at hx;obtain⟨i,hi,rfl⟩:=hx;have:=h.2 i hi;exact EA this.1 this.2
theorem Ee(a):∀l,(∀x,x∈l->x.length<=1000)->a.length<=1->(Lib.join l a).length<=l.length*1001
 |[],_,_=>by simp[Lib.join_nil]
 |[x],h,_=>by have:=h x (by simp);rw[Lib.join_one];simp;omega
 |x::y::r,h,o=>by
  have i:=Ee a (y::r) (λz j=>h z (by simp[j])) o;have q:=h x (by simp);rw[Lib.join_cons]at i |-;have e:Lib.joinTail a (y::r)=a++(y++Lib.joinTail a r):=by simp[Lib.joinTail]
  rw[e];simp only[aL,dB]at i |-;omega
theorem oy(l:List Word)(fl)(J:l.length<=100)(hok:∀w,w∈l->w.ok):af TP 126 [.slice 1 (l.map Word.pv) fl] (.str (bs (joinL (l.flatMap Word.ws)))):=by
 have A:∀a:List Word,(∀w,w∈a->w.ok)->(a.flatMap Word.ws).length<=a.length*1000:=λa h=>Cl.tz a λw hw=>RH (h w hw);refine aa (ag func126 rfl) rfl ?_;simp only[go_sem,simprocAttr];refine cp 3 1 (by simp only[go_sem,simprocAttr]) ?_;simp only[go_sem,simprocAttr];refine bg [11,12] l (by omega) (τ:=Unit) (λa rest _=>True) (λa _=>[(3,.slice 0 (a.flatMap Word.ws).length 0 (a.flatMap Word.ws).length),(13,.p (.int .i64 a.length))]) (λa _=>[.row 1 ((a.flatMap Word.ws).map sS)]) () trivial ?_ ?_ ?_
 .simp only[wN,go_sem,simprocAttr]
 .intro _ _;simp only[go_sem,simprocAttr];have R:=Ee [32] (l.flatMap Word.ws) (λx hx=>by
   obtain⟨w,hw,hx⟩:=xR.1 hx
   exact Pa (hok w hw) x hx) (by simp)
  have S:=A l hok;have K:=UJ (l.flatMap Word.ws) [32] false (by omega) (by omega);rw[yK]at K;refine aU K ?_ (.str _) ?_
  .simp only[Lh,UM,go_sem,simprocAttr]
  simp only[go_sem,simprocAttr]
 .intro a w r _ v _ hx u o;have j:=hok w (by rw[v];simp);have M:=A a (λw hw=>hok w (by rw[v];simp[hw]));have L:a.length<=100:=by rw[v]at J;simp at J;omega
  have y:(a.flatMap Word.ws).length+1<=ao:=by simp only[ao];omega
  cases w with
  |s x=>
   simp only[u,hx,Word.pv,y,go_sem,simprocAttr];refine aD v () trivial ?_
   simp only[o,ub,mC,wN,Word.ws,aL,bD,bt,go_sem,simprocAttr]
  |n i=>
   simp only[u,hx,Word.pv,go_sem,simprocAttr];refine ae (zq i j.1 j.2) rfl ?_;simp only[y,go_sem,simprocAttr];refine aD v () trivial ?_
   simp only[o,ub,mC,wN,Word.ws,aL,bD,bt,go_sem,simprocAttr]
  |ns q=>
   simp only[u,hx,Word.pv,go_sem,simprocAttr];have I:=j.1;refine bg [11,12,13,36,37] q (by omega) (τ:=Unit) (λe rest _=>True) (λe _=>[(3,.slice 0 ((a.flatMap Word.ws).length+e.length) 0 ((a.flatMap Word.ws).length+e.length)),(38,.p (.int .i64 e.length))]) (λe _=>[.row 1 ((a.flatMap Word.ws).map sS++(e.map bH).map sS)]) () trivial ?_ ?_ ?_
   .simp only[cf,bt,jK,go_sem,simprocAttr]
   .intro _ _;simp only[go_sem,simprocAttr];refine aD v () trivial ?_;simp only[o,ub,mC,wN,Word.ws,aL,bD,bt,go_sem,simprocAttr]
   .intro e i O _ F _ G E D;have z:=j.2 i (by rw[F];simp);have N:e.length<=1000:=by rw[F]at I;simp at I;omega
    have C:(a.flatMap Word.ws).length+e.length+1<=ao:=by simp only[ao];omega
    simp only[E,G,go_sem,simprocAttr];refine ae (zq i z.1 z.2) rfl ?_;simp only[C,aL,go_sem,simprocAttr];refine aD F () trivial ?_;simp only[D,aL,aV,bD,bK,cf,dJ,gW,go_sem,simprocAttr]
end Ch
set_option maxRecDepth 4000
def hP (v:List Int×Int):PV:=if v.2=0 then xe v.1 else .nilslice
theorem PD(s)(l)(boxes):gU TP 293 [s.pv,.slice 3 (l.map HrTest.pv) false,.slice 2 (boxes.map HrBox.pv) false] (.tuple [hP (ct s l boxes),.int .i64 (ct s l boxes).2]):=by
 refine fP (ag func293 rfl) rfl ?_;simp only[go_sem,simprocAttr];refine ae (Jh s l (-1)) rfl ?_;simp only[IE,go_sem,simprocAttr];cases h0:decide (cU s l=0)
 .have y:¬cU s l=0:=by simpa using h0
  have C:ct s l boxes=([],cU s l):=by rw[ct,if_neg y]
  rw[C,if_neg y];have a7:(hrCheck s).2.2=0->cU s l=4->l.length<1000000000:=by
   intro J N;unfold cU at N;rw[if_pos J]at N;split at N
   .cases N
   .omega
  cases N:(cU s l != 4)
  .have A:cU s l=4:=by simpa using N
   simp only[go_sem,simprocAttr];refine ae (nV s l false (λJ=>a7 J A)) rfl ?_;have K:(bX s l != 0)=true:=by
    unfold cU at A;unfold bX;split at A
    .rename_i J;split at A
     .cases A
     .rw[if_pos J,A];rfl
    .rename_i J;rw[if_neg J,A];rfl
   simp only[K,hP,if_neg y,go_sem,simprocAttr]
  .simp only[hP,if_neg y,go_sem,simprocAttr]
 have y:cU s l=0:=by simpa using h0
 have hok:=yS y;have Y:=lZ hok.1;have K:bX s l=0:=by rw[bX,if_pos hok.1,hok.2.2]
 rw[if_pos y];simp only[go_sem,simprocAttr];refine ae (nV s l false (λ_=>by omega)) rfl ?_;simp only[K,go_sem,simprocAttr];cases a0:decide ((20:Int)<(boxes.length:Int));rotate_left
 .have E:20<boxes.length:=by simp at a0;omega
  have C:ct s l boxes=([],3):=by rw[ct,if_pos y,if_pos E]
  rw[C];simp only[hP,go_sem,simprocAttr]
 have E:¬20<boxes.length:=by simp at a0;omega
 have C:ct s l boxes=cE s l 0 boxes:=by rw[ct,if_pos y,if_neg E]
 rw[C];have hj:cE s l 0 boxes=jV [] (cE s l 0 boxes):=by
  have a2:∀q:List Int×Int,(q.2≠0->q.1=[])->q=jV [] q:=by
   rintro⟨a,b⟩ h
   simp only[jV,lc];split
   .rename_i T;rw[show b=0 from T]
   .rename_i T;rw[show a=[] from h T]
  refine a2 _ ?_;generalize (0:Nat)=i
  cases boxes with
  |nil=>intro h;exact absurd rfl h
  |cons b r=>
   intro h;rw[cE]at h |-;split
   .split
    .rename_i T S;rw[if_pos T,if_pos S]at h;exact absurd rfl h
    .rfl
   .rfl
 rw[hj];simp only[go_sem,simprocAttr];refine cp 6 1 (by simp only[go_sem,simprocAttr]) ?_;simp only[go_sem,simprocAttr]
 refine fo [1,3,8,36,37] (σ:=List HrBox×List HrBox×List Int×List (Int×Int)×Heap)
  (λq=>boxes=q.1++q.2.1/\jV [] (cE s l 0 boxes)=jV q.2.2.1 (cE s l q.1.length q.2.1)/\q.2.2.1.length<=q.1.length /\
   ∀k v,jR k q.2.2.2.1=some v->(bf s l k).2=0/\v=(bf s l k).1.promise) (λq=>q.2.1.length)
  (λq=>[(6,.slice 2 q.2.2.1.length 0 q.2.2.1.length),(38,.p (.int .i64 q.1.length))])
  (λq=>[.row 3 [.p s.pv],.mp (q.2.2.2.1.map G2),.row 1 (q.2.2.1.map λn=>.p (aI n))]++q.2.2.2.2) ([],boxes,[],[],[]) ⟨rfl,rfl,ba _,λk v h=>by cases h⟩ (by simp only[cf,bt,go_sem,simprocAttr]) ?_ ?_
 .simp only[go_sem,simprocAttr]
 rintro⟨j,rest,out,es,g⟩ ⟨I,F,e3,U⟩
 dsimp only at I F e3 U
 cases rest with
 |nil=>
  have a4:¬((j.length:Int)<(boxes.length:Int)):=by rw[I];simp
  have e5:jV out (cE s l j.length [])=(out,0):=by rw[cE,jV,if_pos rfl,bt]
  rw[F,e5];have a6:∀n h (ms:List Int),aQ (gx n h) (ms.map λn=>AV.p (PV.int .i64 n))=some (ms.map aI):=λn h ms=>kY n h aI (λ_=>rfl) ms
  simp only[a4,decide_false,hP,xe,a6,ui,go_sem,simprocAttr]
 |cons b r=>
  obtain⟨hx,a1⟩:=eT I;have M:=congrArg List.length I;simp only[aL,dB]at M;have G:IntKind.i64.wrap ((j.length:Int)+1)=(((j++[b]).length:Nat):Int):=bk (by omega) (by simp[ao];omega) (by simp);have O:=kU (lo:=g) rfl;have s0:=m5 (lo:=g) rfl;have gg:=kT (lo:=g) rfl;have ss:=m4 (lo:=g) rfl;have hw:IntKind.i64.wrap ((s.kinds.length:Int)-1)=(s.kinds.length:Int)-1:=am (by omega) (by omega);simp only[a1,decide_true,hx,O,s0,hw,go_sem,simprocAttr];refine ae (ja 0 _ [_] true (by simp)) rfl ?_;simp only[bJ,cb,cn,go_sem,simprocAttr];cases S:ak b.kind 0 ((s.kinds.length:Int)-1)
  .rw[F,xq (e:=4) (by rw[o4,S];rfl) (by decide)];simp only[hP,go_sem,simprocAttr]
  simp only[O,go_sem,simprocAttr];refine ae (ja 0 1000000 [_] true (by simp)) rfl ?_;simp only[bJ,cb,cn,go_sem,simprocAttr];cases h3:ak b.hours 0 1000000
  .rw[F,xq (e:=7) (by rw[o4,S,h3];rfl) (by decide)];simp only[hP,go_sem,simprocAttr]
  have L:o4 s l b=(bf s l b.kind).2:=by rw[o4,S,h3];rfl
  have a5:=yC b.kind es;simp only[O,a5,go_sem,simprocAttr];have V:out.length+1<=ao:=by simp[ao];omega
  cases hm:jR b.kind es with
  |some v=>
   obtain⟨D,rfl⟩:=U _ _ hm;have o:=He (out:=out) (i:=j.length) (r:=r) (L.trans D);simp only[O,go_sem,simprocAttr];cases R:decide ((bf s l b.kind).1.promise<b.hours)
   .have z:¬(bf s l b.kind).1.promise<b.hours:=by simpa using R
    rw[if_neg z,bt]at o;simp only[go_sem,simprocAttr];refine br (j++[b],r,out,es,g++[.row 2 [.p b.pv]]) ⟨by rw[I];simp,by rw[F,o];simp,by simp;omega,U⟩ (jJ _) (by simp only[go_sem,simprocAttr]) ?_;simp only[G,go_sem,simprocAttr]
   .have z:(bf s l b.kind).1.promise<b.hours:=by simpa using R
    rw[if_pos z]at o;simp only[V,go_sem,simprocAttr];refine br (j++[b],r,out++[((j.length:Nat):Int)],es,g++[.row 2 [.p b.pv]]) ⟨by rw[I];simp,by rw[F,o];simp,by simp;omega,U⟩ (jJ _) (by simp only[bD,go_sem,simprocAttr]) ?_
    simp only[G,aL,aV,go_sem,simprocAttr]
  |none=>
   simp only[O,go_sem,simprocAttr];refine ae (Jh s l b.kind) rfl ?_;simp only[gg,ss,dJ,aL,aV,go_sem,simprocAttr];cases hl:((bf s l b.kind).2 != 0)
   rotate_left
   .have X:(bf s l b.kind).2≠0:=by simpa using hl
    rw[F,xq L X];simp only[hP,if_neg X,go_sem,simprocAttr]
   have D:(bf s l b.kind).2=0:=by simpa using hl
   have o:=He (out:=out) (i:=j.length) (r:=r) (L.trans D);have a3:=yB b.kind (bf s l b.kind).1.promise es hm;have Z:∀k v,jR k (es++[(b.kind,(bf s l b.kind).1.promise)])=some v->(bf s l k).2=0/\v=(bf s l k).1.promise:=by
    intro k v h;rw[uC]at h
    cases hk:jR k es with
    |some u=>rw[hk]at h;cases h;exact U k _ hk
    |none=>
     rw[hk]at h;dsimp only[Option.or]at h;split at h
     .rename_i Y;cases h;rw[Y];exact⟨D,rfl⟩
     .cases h
   simp only[gg,go_sem,simprocAttr];refine ae (BU _ (uQ D).1) rfl ?_;simp only[O,a3,go_sem,simprocAttr];cases R:decide ((bf s l b.kind).1.promise<b.hours)
   .have z:¬(bf s l b.kind).1.promise<b.hours:=by simpa using R
    rw[if_neg z,bt]at o;simp only[go_sem,simprocAttr];refine br (j++[b],r,out,es++[(b.kind,(bf s l b.kind).1.promise)],g++[.row 2 [.p b.pv],.row 6 [.p (bf s l b.kind).1.pv]]) ⟨by rw[I];simp,by rw[F,o];simp,by simp;omega,Z⟩ (jJ _) (by simp only[go_sem,simprocAttr]) ?_;simp only[G,go_sem,simprocAttr]
   .have z:(bf s l b.kind).1.promise<b.hours:=by simpa using R
    rw[if_pos z]at o;simp only[V,go_sem,simprocAttr];refine br (j++[b],r,out++[((j.length:Nat):Int)],es++[(b.kind,(bf s l b.kind).1.promise)],g++[.row 2 [.p b.pv],.row 6 [.p (bf s l b.kind).1.pv]]) ⟨by rw[I];simp,by rw[F,o];simp,by simp;omega,Z⟩ (jJ _) (by simp only[bD,go_sem,simprocAttr]) ?_;simp only[G,aL,aV,go_sem,simprocAttr]
end Abs
end Go.Proofs.YtmndpldajflenaaGreatDoor
