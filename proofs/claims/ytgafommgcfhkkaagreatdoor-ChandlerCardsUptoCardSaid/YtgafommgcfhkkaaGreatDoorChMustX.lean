/- CONTRACTS of functions and laws. No conditions but those in the heads. -/
import Derived.Test.YtgafommgcfhkkaaGreatDoorBdFitX
set_option linter.all false
set_option maxHeartbeats 2000000
open Go.Proofs.Tryz renaming prog->TP
open Go.Proofs.Tryz
namespace Go.Proofs.YtgafommgcfhkkaaGreatDoor
namespace Abs
namespace Ch
set_option maxRecDepth 4000
def vd (P:Program) (f:FuncId) (pargs:List PV) (e:PV):Prop:=
 ∀(M0:Nat->Prop) (w:World) (cargs:Array Value),(∀b,M0 b->b<w.heap.size)->vU P w->oX M0 w cargs pargs ->
  (∀w',(callFunc f cargs).run P w'=.ok (.enter f cargs) w') /\
  Calls P f cargs w λen w'=>∃v',en=.panicked [{ v:=v',recovered:=false }]/\RepP M0 w' v' e/\Fr [] w w'
def jq{P}{f}{pargs}{e}(h:aw P f (pargs.map .p) [] (λr _=>r=.panic e)):vd P f pargs e:=by
 intro M0 w l E D A;have y:eD (Rep M0 ⟨[],[],w⟩) l (pargs.map .p):=by
  refine⟨by simpa using A.1,λi c z=>?_⟩;simp only[cX,bg]at z;obtain⟨q,C,rfl⟩:=z;exact aR ((A.2 i q C).mono (λ_ _ _=>rfl) (λb u=>by
   rcases u with u|u
   .exact .inl u
   .simp[Own]at u))
 have:=h M0 [] w l (pu E D) y;refine⟨this.1,this.2.mono λI w' hh=>?_⟩;obtain⟨r,h',m',rfl,v,J,j⟩:=hh
 cases I with
 |returned v'=>exact j.elim
 |panicked K=>
  obtain⟨v',G,F⟩:=j
  exact⟨v',by rw[G],RepP.less F (λb u=>.inl u),v.fr⟩
 |outgrown=>exact j.elim
def Gu{P}{f}{args}{pargs}{e}{h}(I:vd P f pargs e)(K:ib h args=some pargs)(C:Flat e):aw P f args h (λr h'=>r=.panic e/\h'=h):=by
 intro M0 m w l q j;obtain⟨E,G⟩:=vD K;have y:oX M0 w l pargs:=by
  refine⟨by rw[j.1,E],λi c hi=>?_⟩;obtain⟨a,v,u⟩:=G i c hi;exact rO (S:=⟨m,h,w⟩) q (j.2 i a v) u
 obtain⟨v,u⟩:=I M0 w l (λb J=>(q.m0 b J).1) q.gl.1 y;refine⟨v,u.mono λL w' hh=>?_⟩;obtain⟨v',rfl,D,z⟩:=hh;obtain⟨F,A⟩:=rR q z;exact⟨.panic e,_,m,⟨rfl,rfl⟩,A,F,⟨v',rfl,C.rep D⟩⟩
def t6{P}{H}{Q}{ops}{rest}{dst}{A}{f}{args}{pargs}{e}(l:vd P f pargs e)(q:ib A.h args=some pargs)(j:Flat e)
  (u:@WQ ⟨Q⟩ (.panic e) A):@WF ⟨P,H,ops,rest,Q,dst⟩ A f args:=
 cZ (Gu l q j) (λv h i=>by cases i.1) (λv h i=>by obtain⟨e,rfl⟩:=i;cases e;exact u)
def iJ (e:Int):PV:=.iface 43 (.int .i64 e)
attribute [go_sem] iJ
def o9(e):Flat (iJ e):=.iface (.int _ _)
def zX(b)(e)(h):aw TP 160 [.p (.bool b),.p (.int .i64 e)] h (λr h'=>h'=h/\r=if b=true then .ret (.p (.tuple [])) else .panic (iJ e)):=by
 refine au (ag func160 rfl) rfl (zm ?_);cases b
 .simp[go_sem]
 .simp[go_sem]
def az{H}{Q}{ops}{rest}{dst}{A}{b}{e}(l:b=true->@WO ⟨TP,H,ops,rest,Q⟩ (A.put dst (.p (.tuple [])) A.h))
  (j:b=false->@WQ ⟨Q⟩ (.panic (iJ e)) A):@WF ⟨TP,H,ops,rest,Q,dst⟩ A 160 [.p (.bool b),.p (.int .i64 e)]:=by
 refine cZ (zX b e A.h) (λv h i=>?_) (λv h i=>?_)
 .obtain⟨rfl,i⟩:=i;cases b
  .cases i
  .cases i;exact l rfl
 .obtain⟨rfl,i⟩:=i;cases b
  .cases i;exact j rfl
  .cases i
def Wo(x:WxKind):af TP 234 [x.pv] (.str x.name):=by
 refine ae (ag func234 rfl) rfl ?_;simp[go_sem]
def L5(s)(x:WxKind):af TP 302 [x.pv,.ptr 1 [.func (.func 234) [] []] 0 0,.ptr 1 [.str s] 0 0] (.bool (x.name==s)):=by
 refine ae (ag func302 rfl) rfl (zm ?_);refine aj (Wo x) rfl ?_;simp[go_sem]
def YP(l)(s)(b)(e:l.length<1000000000)(j:0<=an (λx=>x.name==s) l 0) :
  af TP 233 [.slice 2 (l.map WxKind.pv) b,.str s,.func (.func 234) [] []] (.int .i64 (an (λx=>x.name==s) l 0)):=by
 refine ae (ag func233 rfl) rfl (zm ?_);refine bq (u9 (fv:=.func (.func 302) [] [.ptr 1 [.func (.func 234) [] []] 0 0,.ptr 1 [.str s] 0 0]) l (λy=>y.name==s) b 2 rfl e λy _=>⟨_,_,_,rfl,L5 s y⟩) ?_ (.int _ _) ?_
 .simp[go_sem]
 have i:decide (0<=an (λx:WxKind=>x.name==s) l 0)=true:=by simpa using j
 refine zn i ?_;refine az (λ_=>?_) (λh=>by cases h);simp[go_sem]
def XP(l)(s)(b)(e:l.length<1000000000)(j:an (λx=>x.name==s) l 0<0) :
  vd TP 233 [.slice 2 (l.map WxKind.pv) b,.str s,.func (.func 234) [] []] (iJ 4):=by
 refine jq ?_;refine au (ag func233 rfl) rfl (zm ?_);refine bq (u9 (fv:=.func (.func 302) [] [.ptr 1 [.func (.func 234) [] []] 0 0,.ptr 1 [.str s] 0 0]) l (λy=>y.name==s) b 2 rfl e λy _=>⟨_,_,_,rfl,L5 s y⟩) ?_ (.int _ _) ?_
 .simp[go_sem]
 have i:decide (0<=an (λx:WxKind=>x.name==s) l 0)=false:=by simpa using j
 refine zn i ?_;refine az (λh=>by cases h) (λ_=>?_);simp[go_sem]
def Wn(x:ClColour):af TP 239 [x.pv] (.str x.name):=by
 refine ae (ag func239 rfl) rfl ?_;simp[go_sem]
def L4(s)(x:ClColour):af TP 306 [x.pv,.ptr 1 [.func (.func 239) [] []] 0 0,.ptr 1 [.str s] 0 0] (.bool (x.name==s)):=by
 refine ae (ag func306 rfl) rfl (zm ?_);refine aj (Wn x) rfl ?_;simp[go_sem]
def YO(l)(s)(b)(e:l.length<1000000000)(j:0<=an (λx=>x.name==s) l 0) :
  af TP 238 [.slice 4 (l.map ClColour.pv) b,.str s,.func (.func 239) [] []] (.int .i64 (an (λx=>x.name==s) l 0)):=by
 refine ae (ag func238 rfl) rfl (zm ?_);refine bq (oL (fv:=.func (.func 306) [] [.ptr 1 [.func (.func 239) [] []] 0 0,.ptr 1 [.str s] 0 0]) l (λy=>y.name==s) b 4 rfl e λy _=>⟨_,_,_,rfl,L4 s y⟩) ?_ (.int _ _) ?_
 .simp[go_sem]
 have i:decide (0<=an (λx:ClColour=>x.name==s) l 0)=true:=by simpa using j
 refine zn i ?_;refine az (λ_=>?_) (λh=>by cases h);simp[go_sem]
def XO(l)(s)(b)(e:l.length<1000000000)(j:an (λx=>x.name==s) l 0<0) :
  vd TP 238 [.slice 4 (l.map ClColour.pv) b,.str s,.func (.func 239) [] []] (iJ 4):=by
 refine jq ?_;refine au (ag func238 rfl) rfl (zm ?_);refine bq (oL (fv:=.func (.func 306) [] [.ptr 1 [.func (.func 239) [] []] 0 0,.ptr 1 [.str s] 0 0]) l (λy=>y.name==s) b 4 rfl e λy _=>⟨_,_,_,rfl,L4 s y⟩) ?_ (.int _ _) ?_
 .simp[go_sem]
 have i:decide (0<=an (λx:ClColour=>x.name==s) l 0)=false:=by simpa using j
 refine zn i ?_;refine az (λh=>by cases h) (λ_=>?_);simp[go_sem]
def Wm(x:ClColour):af TP 309 [x.pv] (.str x.name):=by
 refine ae (ag func309 rfl) rfl ?_;simp[go_sem]
def L3(s)(x:ClColour):af TP 306 [x.pv,.ptr 1 [.func (.func 309) [] []] 0 0,.ptr 1 [.str s] 0 0] (.bool (x.name==s)):=by
 refine ae (ag func306 rfl) rfl (zm ?_);refine aj (Wm x) rfl ?_;simp[go_sem]
def QZ(l)(s)(b)(e:l.length<1000000000)(j:0<=an (λx=>x.name==s) l 0) :
  af TP 238 [.slice 4 (l.map ClColour.pv) b,.str s,.func (.func 309) [] []] (.int .i64 (an (λx=>x.name==s) l 0)):=by
 refine ae (ag func238 rfl) rfl (zm ?_);refine bq (oL (fv:=.func (.func 306) [] [.ptr 1 [.func (.func 309) [] []] 0 0,.ptr 1 [.str s] 0 0]) l (λy=>y.name==s) b 4 rfl e λy _=>⟨_,_,_,rfl,L3 s y⟩) ?_ (.int _ _) ?_
 .simp[go_sem]
 have i:decide (0<=an (λx:ClColour=>x.name==s) l 0)=true:=by simpa using j
 refine zn i ?_;refine az (λ_=>?_) (λh=>by cases h);simp[go_sem]
def XN(l)(s)(b)(e:l.length<1000000000)(j:an (λx=>x.name==s) l 0<0) :
  vd TP 238 [.slice 4 (l.map ClColour.pv) b,.str s,.func (.func 309) [] []] (iJ 4):=by
 refine jq ?_;refine au (ag func238 rfl) rfl (zm ?_);refine bq (oL (fv:=.func (.func 306) [] [.ptr 1 [.func (.func 309) [] []] 0 0,.ptr 1 [.str s] 0 0]) l (λy=>y.name==s) b 4 rfl e λy _=>⟨_,_,_,rfl,L3 s y⟩) ?_ (.int _ _) ?_
 .simp[go_sem]
 have i:decide (0<=an (λx:ClColour=>x.name==s) l 0)=false:=by simpa using j
 refine zn i ?_;refine az (λh=>by cases h) (λ_=>?_);simp[go_sem]
def Wl(x:ChLot):af TP 241 [x.pv] (.str x.name):=by
 refine ae (ag func241 rfl) rfl ?_;simp[go_sem]
def L2(s)(x:ChLot):af TP 307 [x.pv,.ptr 1 [.func (.func 241) [] []] 0 0,.ptr 1 [.str s] 0 0] (.bool (x.name==s)):=by
 refine ae (ag func307 rfl) rfl (zm ?_);refine aj (Wl x) rfl ?_;simp[go_sem]
def YN(l)(s)(b)(e:l.length<1000000000)(j:0<=an (λx=>x.name==s) l 0) :
  af TP 240 [.slice 4 (l.map ChLot.pv) b,.str s,.func (.func 241) [] []] (.int .i64 (an (λx=>x.name==s) l 0)):=by
 refine ae (ag func240 rfl) rfl (zm ?_);refine bq (tT (fv:=.func (.func 307) [] [.ptr 1 [.func (.func 241) [] []] 0 0,.ptr 1 [.str s] 0 0]) l (λy=>y.name==s) b 4 rfl e λy _=>⟨_,_,_,rfl,L2 s y⟩) ?_ (.int _ _) ?_
 .simp[go_sem]
 have i:decide (0<=an (λx:ChLot=>x.name==s) l 0)=true:=by simpa using j
 refine zn i ?_;refine az (λ_=>?_) (λh=>by cases h);simp[go_sem]
def XM(l)(s)(b)(e:l.length<1000000000)(j:an (λx=>x.name==s) l 0<0) :
  vd TP 240 [.slice 4 (l.map ChLot.pv) b,.str s,.func (.func 241) [] []] (iJ 4):=by
 refine jq ?_;refine au (ag func240 rfl) rfl (zm ?_);refine bq (tT (fv:=.func (.func 307) [] [.ptr 1 [.func (.func 241) [] []] 0 0,.ptr 1 [.str s] 0 0]) l (λy=>y.name==s) b 4 rfl e λy _=>⟨_,_,_,rfl,L2 s y⟩) ?_ (.int _ _) ?_
 .simp[go_sem]
 have i:decide (0<=an (λx:ChLot=>x.name==s) l 0)=false:=by simpa using j
 refine zn i ?_;refine az (λh=>by cases h) (λ_=>?_);simp[go_sem]
def Wj(x:ChBatch):af TP 243 [x.pv] (.str x.name):=by
 refine ae (ag func243 rfl) rfl ?_;simp[go_sem]
def L1(s)(x:ChBatch):af TP 308 [x.pv,.ptr 1 [.func (.func 243) [] []] 0 0,.ptr 1 [.str s] 0 0] (.bool (x.name==s)):=by
 refine ae (ag func308 rfl) rfl (zm ?_);refine aj (Wj x) rfl ?_;simp[go_sem]
def YM(l)(s)(b)(e:l.length<1000000000)(j:0<=an (λx=>x.name==s) l 0) :
  af TP 242 [.slice 4 (l.map ChBatch.pv) b,.str s,.func (.func 243) [] []] (.int .i64 (an (λx=>x.name==s) l 0)):=by
 refine ae (ag func242 rfl) rfl (zm ?_);refine bq (tS (fv:=.func (.func 308) [] [.ptr 1 [.func (.func 243) [] []] 0 0,.ptr 1 [.str s] 0 0]) l (λy=>y.name==s) b 4 rfl e λy _=>⟨_,_,_,rfl,L1 s y⟩) ?_ (.int _ _) ?_
 .simp[go_sem]
 have i:decide (0<=an (λx:ChBatch=>x.name==s) l 0)=true:=by simpa using j
 refine zn i ?_;refine az (λ_=>?_) (λh=>by cases h);simp[go_sem]
def XL(l)(s)(b)(e:l.length<1000000000)(j:an (λx=>x.name==s) l 0<0) :
  vd TP 242 [.slice 4 (l.map ChBatch.pv) b,.str s,.func (.func 243) [] []] (iJ 4):=by
 refine jq ?_;refine au (ag func242 rfl) rfl (zm ?_);refine bq (tS (fv:=.func (.func 308) [] [.ptr 1 [.func (.func 243) [] []] 0 0,.ptr 1 [.str s] 0 0]) l (λy=>y.name==s) b 4 rfl e λy _=>⟨_,_,_,rfl,L1 s y⟩) ?_ (.int _ _) ?_
 .simp[go_sem]
 have i:decide (0<=an (λx:ChBatch=>x.name==s) l 0)=false:=by simpa using j
 refine zn i ?_;refine az (λh=>by cases h) (λ_=>?_);simp[go_sem]
def Wi(x:HrKind):af TP 247 [x.pv] (.str x.name):=by
 refine ae (ag func247 rfl) rfl ?_;simp[go_sem]
def L0(s)(x:HrKind):af TP 311 [x.pv,.ptr 1 [.func (.func 247) [] []] 0 0,.ptr 1 [.str s] 0 0] (.bool (x.name==s)):=by
 refine ae (ag func311 rfl) rfl (zm ?_);refine aj (Wi x) rfl ?_;simp[go_sem]
def YL(l)(s)(b)(e:l.length<1000000000)(j:0<=an (λx=>x.name==s) l 0) :
  af TP 246 [.slice 4 (l.map HrKind.pv) b,.str s,.func (.func 247) [] []] (.int .i64 (an (λx=>x.name==s) l 0)):=by
 refine ae (ag func246 rfl) rfl (zm ?_);refine bq (ru (fv:=.func (.func 311) [] [.ptr 1 [.func (.func 247) [] []] 0 0,.ptr 1 [.str s] 0 0]) l (λy=>y.name==s) b 4 rfl e λy _=>⟨_,_,_,rfl,L0 s y⟩) ?_ (.int _ _) ?_
 .simp[go_sem]
 have i:decide (0<=an (λx:HrKind=>x.name==s) l 0)=true:=by simpa using j
 refine zn i ?_;refine az (λ_=>?_) (λh=>by cases h);simp[go_sem]
def XK(l)(s)(b)(e:l.length<1000000000)(j:an (λx=>x.name==s) l 0<0) :
  vd TP 246 [.slice 4 (l.map HrKind.pv) b,.str s,.func (.func 247) [] []] (iJ 4):=by
 refine jq ?_;refine au (ag func246 rfl) rfl (zm ?_);refine bq (ru (fv:=.func (.func 311) [] [.ptr 1 [.func (.func 247) [] []] 0 0,.ptr 1 [.str s] 0 0]) l (λy=>y.name==s) b 4 rfl e λy _=>⟨_,_,_,rfl,L0 s y⟩) ?_ (.int _ _) ?_
 .simp[go_sem]
 have i:decide (0<=an (λx:HrKind=>x.name==s) l 0)=false:=by simpa using j
 refine zn i ?_;refine az (λh=>by cases h) (λ_=>?_);simp[go_sem]
def Wh(x:Wax):af TP 251 [x.pv] (.str x.name):=by
 refine ae (ag func251 rfl) rfl ?_;simp[go_sem]
def LZ(s)(x:Wax):af TP 314 [x.pv,.ptr 1 [.func (.func 251) [] []] 0 0,.ptr 1 [.str s] 0 0] (.bool (x.name==s)):=by
 refine ae (ag func314 rfl) rfl (zm ?_);refine aj (Wh x) rfl ?_;simp[go_sem]
def YK(l)(s)(b)(e:l.length<1000000000)(j:0<=an (λx=>x.name==s) l 0) :
  af TP 250 [.slice 8 (l.map Wax.pv) b,.str s,.func (.func 251) [] []] (.int .i64 (an (λx=>x.name==s) l 0)):=by
 refine ae (ag func250 rfl) rfl (zm ?_);refine bq (va (fv:=.func (.func 314) [] [.ptr 1 [.func (.func 251) [] []] 0 0,.ptr 1 [.str s] 0 0]) l (λy=>y.name==s) b 8 rfl e λy _=>⟨_,_,_,rfl,LZ s y⟩) ?_ (.int _ _) ?_
 .simp[go_sem]
 have i:decide (0<=an (λx:Wax=>x.name==s) l 0)=true:=by simpa using j
 refine zn i ?_;refine az (λ_=>?_) (λh=>by cases h);simp[go_sem]
def XJ(l)(s)(b)(e:l.length<1000000000)(j:an (λx=>x.name==s) l 0<0) :
  vd TP 250 [.slice 8 (l.map Wax.pv) b,.str s,.func (.func 251) [] []] (iJ 4):=by
 refine jq ?_;refine au (ag func250 rfl) rfl (zm ?_);refine bq (va (fv:=.func (.func 314) [] [.ptr 1 [.func (.func 251) [] []] 0 0,.ptr 1 [.str s] 0 0]) l (λy=>y.name==s) b 8 rfl e λy _=>⟨_,_,_,rfl,LZ s y⟩) ?_ (.int _ _) ?_
 .simp[go_sem]
 have i:decide (0<=an (λx:Wax=>x.name==s) l 0)=false:=by simpa using j
 refine zn i ?_;refine az (λh=>by cases h) (λ_=>?_);simp[go_sem]
inductive Word where
 |s (l:List UInt8)
 |n (i:Int)
 |ns (l:List Int)
def Word.pv:Word->PV
 |.s l=>.iface 9 (.str (bs l))
 |.n i=>.iface 3 (.int .i64 i)
 |.ns l=>.iface 79 (.slice 1 (l.map ay) false)
def Word.ws:Word->List (List UInt8)
 |.s l=>[l]
 |.n i=>[aX i]
 |.ns l=>l.map aX
def Word.ok:Word->Prop
 |.s l=>l.length<=1000
 |.n i=>0<=i/\i<1000000000
 |.ns l=>l.length<=1000/\∀i,i∈l->0<=i/\i<1000000000
def CO:∀l,Lib.join l [32]=joinL l
 |[]=>rfl
 |[x]=>by rw[Lib.join_one];rfl
 |x::y::r=>by
  have e:=CO (y::r);rw[joinL,<-e,Lib.join_cons,Lib.join_cons];simp[Lib.joinTail]
def o8{n}(h:0<=n):CQ n=bs (aX n):=by
 obtain⟨m,rfl⟩:=na h;unfold CQ aX bs
 congr 2
def Dk(n)(e:0<=n)(i:n<1000000000):af TP 43 [.int .i64 n] (.str (bs (aX n))):=by
 rw[<-o8 e];exact Aa n (by omega) (by omega)
def ng (x:List UInt8):AV:=.p (.str (bs x))
attribute [go_sem] ng
def nJ(n)(h)(l:List (List UInt8)):aE (bi n h) (l.map ng)=some (l.map λx=>.str (bs x)):=aW (bH n h) (λx=>PV.str (bs x)) l
def zaH:bs [32]=({ data:=#[32] }:ByteArray):=rfl
def Xx{w:Word}(h:w.ok):w.ws.length<=1000:=by
 cases w with
 |s l=>simp[Word.ws]
 |n i=>simp[Word.ws]
 |ns l=>simpa[Word.ws]using h.1
def j8{n}(e:0<=n)(i:n<1000000000):(aX n).length<=1000:=by
 obtain⟨m,rfl⟩:=na e;have:=xh 8 m (by omega);unfold aX;rw[gX];omega
def UF{w:Word}(h:w.ok):∀x,x∈w.ws->x.length<=1000:=by
 intro x hx
 cases w with
 |s l=>simp[Word.ws]at hx;subst hx;exact h
 |n i=>simp[Word.ws]at hx;subst hx;exact j8 h.1 h.2
 |ns l=>
  simp only[Word.ws,cA]at hx;obtain⟨i,hi,rfl⟩:=hx;have:=h.2 i hi;exact j8 this.1 this.2
def Ix(i):∀l,(∀x,x∈l->x.length<=1000)->i.length<=1->(Lib.join l i).length<=l.length*1001
 |[],_,_=>by simp[Lib.join_nil]
 |[x],h,_=>by have:=h x (by simp);rw[Lib.join_one];simp;omega
 |x::y::r,h,u=>by
  have j:=Ix i (y::r) (λz q=>h z (by simp[q])) u;have v:=h x (by simp);rw[Lib.join_cons]at j |-;have e:Lib.joinTail i (y::r)=i++(y++Lib.joinTail i r):=by simp[Lib.joinTail]
  rw[e];simp only[ak,bc]at j |-;omega
def rp(l:List Word)(fl)(K:l.length<=100)(hok:∀w,w∈l->w.ok):af TP 96 [.slice 1 (l.map Word.pv) fl] (.str (bs (joinL (l.flatMap Word.ws)))):=by
 have C:∀d_:List Word,(∀w,w∈d_->w.ok)->(d_.flatMap Word.ws).length<=d_.length*1000:=λd_ h=>Cl.qN d_ λw hw=>Xx (h w hw);refine ae (ag func96 rfl) rfl (zm ?_);refine bt 3 1 (by simp only[go_sem,simprocAttr]) (zm ?_);refine aG [11,12] l (by omega) (τ:=Unit) (λd_ rest _=>True) (λd_ _=>[(3,.slice 0 (d_.flatMap Word.ws).length 0 (d_.flatMap Word.ws).length),(13,.p (.int .i64 d_.length))]) (λd_ _=>[.row 1 ((d_.flatMap Word.ws).map ng)]) () trivial ?_ ?_ ?_
 .simp only[xP,go_sem,simprocAttr]
 .intro _ _;simp only[go_sem,simprocAttr];have S:=Ix [32] (l.flatMap Word.ws) (λx hx=>by
   obtain⟨w,hw,hx⟩:=wc.1 hx
   exact UF (hok w hw) x hx) (by simp)
  have T:=C l hok;have L:=zaD (l.flatMap Word.ws) [32] false (by omega) (by omega);rw[CO]at L;refine bq L ?_ (.str _) ?_
  .simp only[nJ,zaH,go_sem,simprocAttr]
  simp only[go_sem,simprocAttr]
 .intro d_ w r _ y _ hx v u;have j:=hok w (by rw[y];simp);have N:=C d_ (λw hw=>hok w (by rw[y];simp[hw]));have M:d_.length<=100:=by rw[y]at K;simp at K;omega
  have z:(d_.flatMap Word.ws).length+1<=ai:=by simp only[ai];omega
  cases w with
  |s x=>
   simp only[v,hx,Word.pv,z,go_sem,simprocAttr];refine am y () trivial ?_
   simp only[u,vX,mS,xP,Word.ws,ak,aS,bI,go_sem,simprocAttr]
  |n i=>
   simp only[v,hx,Word.pv,go_sem,simprocAttr];refine aa (Dk i j.1 j.2) rfl (zn z ?_);refine am y () trivial ?_
   simp only[u,vX,mS,xP,Word.ws,ak,aS,bI,go_sem,simprocAttr]
  |ns q=>
   simp only[v,hx,Word.pv,go_sem,simprocAttr];have J:=j.1;refine aG [11,12,13,36,37] q (by omega) (τ:=Unit) (λe rest _=>True) (λe _=>[(3,.slice 0 ((d_.flatMap Word.ws).length+e.length) 0 ((d_.flatMap Word.ws).length+e.length)),(38,.p (.int .i64 e.length))]) (λe _=>[.row 1 ((d_.flatMap Word.ws).map ng++(e.map aX).map ng)]) () trivial ?_ ?_ ?_
   .simp only[bx,bI,kx,go_sem,simprocAttr]
   .intro _ _;simp only[go_sem,simprocAttr];refine am y () trivial ?_;simp only[u,vX,mS,xP,Word.ws,ak,aS,bI,go_sem,simprocAttr]
   .intro e i R _ G _ I F E;have A:=j.2 i (by rw[G];simp);have O:e.length<=1000:=by rw[G]at J;simp at J;omega
    have D:(d_.flatMap Word.ws).length+e.length+1<=ai:=by simp only[ai];omega
    simp only[F,I,go_sem,simprocAttr];refine aa (Dk i A.1 A.2) rfl ?_;simp only[D,ak,go_sem,simprocAttr];refine am G () trivial ?_;simp only[E,ak,aK,aS,bf,bx,dD,lc,go_sem,simprocAttr]
end Ch
set_option maxRecDepth 4000
def jS (v:List Int×Int):PV:=if v.2=0 then fi v.1 else .nilslice
def Vm(s)(l)(boxes):il TP 249 [s.pv,.slice 3 (l.map HrTest.pv) false,.slice 2 (boxes.map HrBox.pv) false] (.tuple [jS (bQ s l boxes),.int .i64 (bQ s l boxes).2]):=by
 refine e9 (ag func249 rfl) rfl (zm ?_);refine aa (N3 s l (-1)) rfl (zn @Na ?_);cases h0:decide (bY s l=0)
 .have y:¬bY s l=0:=by simpa using h0
  have C:bQ s l boxes=([],bY s l):=by rw[bQ,if_neg y]
  rw[C,if_neg y];have a7:(hrCheck s).2.2=0->bY s l=4->l.length<1000000000:=by
   intro J N;unfold bY at N;rw[if_pos J]at N;split at N
   .cases N
   .omega
  cases N:(bY s l != 4)
  .have A:bY s l=4:=by simpa using N
   refine zm ?_;refine aa (qR s l false (λJ=>a7 J A)) rfl ?_;have K:(bO s l != 0)=true:=by
    unfold bY at A;unfold bO;split at A
    .rename_i J;split at A
     .cases A
     .rw[if_pos J,A];rfl
    .rename_i J;rw[if_neg J,A];rfl
   simp[K,jS,if_neg y,go_sem]
  .simp[jS,if_neg y,go_sem]
 have y:bY s l=0:=by simpa using h0
 have hok:=sL y;have Y:=gv hok.1;have K:bO s l=0:=by rw[bO,if_pos hok.1,hok.2.2]
 rw[if_pos y];refine zm ?_;refine aa (qR s l false (λ_=>by omega)) rfl (zn K ?_);cases a0:decide ((20:Int)<(boxes.length:Int));rotate_left
 .have E:20<boxes.length:=by simp at a0;omega
  have C:bQ s l boxes=([],3):=by rw[bQ,if_pos y,if_pos E]
  rw[C];simp[jS,go_sem]
 have E:¬20<boxes.length:=by simp at a0;omega
 have C:bQ s l boxes=bT s l 0 boxes:=by rw[bQ,if_pos y,if_neg E]
 rw[C];have hj:bT s l 0 boxes=fV [] (bT s l 0 boxes):=by
  have a2:∀q:List Int×Int,(q.2≠0->q.1=[])->q=fV [] q:=by
   rintro⟨a,b⟩ h
   simp only[fV,jb];split
   .rename_i T;rw[show b=0 from T]
   .rename_i T;rw[show a=[] from h T]
  refine a2 _ ?_;generalize (0:Nat)=i
  cases boxes with
  |nil=>intro h;exact absurd rfl h
  |cons b r=>
   intro h;rw[bT]at h |-;split
   .split
    .rename_i T S;rw[if_pos T,if_pos S]at h;exact absurd rfl h
    .rfl
   .rfl
 rw[hj];refine zm ?_;refine bt 6 1 (by simp only[go_sem,simprocAttr]) (zm ?_)
 refine dY [1,3,8,36,37] (σ:=List HrBox×List HrBox×List Int×List (Int×Int)×Heap)
  (λq=>boxes=q.1++q.2.1/\fV [] (bT s l 0 boxes)=fV q.2.2.1 (bT s l q.1.length q.2.1)/\q.2.2.1.length<=q.1.length /\
   ∀k v,l5 k q.2.2.2.1=some v->(bk s l k).2=0/\v=(bk s l k).1.promise) (λq=>q.2.1.length)
  (λq=>[(6,.slice 2 q.2.2.1.length 0 q.2.2.1.length),(38,.p (.int .i64 q.1.length))])
  (λq=>[.row 3 [.p s.pv],.mp (q.2.2.2.1.map LA),.row 1 (q.2.2.1.map λn=>.p (ay n))]++q.2.2.2.2) ([],boxes,[],[],[]) ⟨rfl,rfl,ba _,λk v h=>by cases h⟩ (by simp[bx,bI,go_sem]) ?_ ?_
 .simp[go_sem]
 rintro⟨d_,rest,out,es,g⟩ ⟨I,F,e3,U⟩
 dsimp only at I F e3 U
 cases rest with
 |nil=>
  have a4:¬((d_.length:Int)<(boxes.length:Int)):=by rw[I];simp
  have e5:fV out (bT s l d_.length [])=(out,0):=by rw[bT,fV,if_pos rfl,bI]
  rw[F,e5];have a6:∀n h (ms:List Int),aE (iI n h) (ms.map λn=>AV.p (PV.int .i64 n))=some (ms.map ay):=λn h ms=>j6 n h ay (λ_=>rfl) ms
  simp[a4,decide_false,jS,fi,a6,xZ,go_sem]
 |cons b r=>
  obtain⟨hx,a1⟩:=ca I;have M:=congrArg List.length I;simp only[ak,bc]at M;have G:IntKind.i64.wrap ((d_.length:Int)+1)=(((d_++[b]).length:Nat):Int):=aO (by omega) (by simp[ai];omega) (by simp);have O:=mA (lo:=g) rfl;have s0:=oG (lo:=g) rfl;have gg:=mz (lo:=g) rfl;have ss:=oF (lo:=g) rfl;have hw:IntKind.i64.wrap ((s.kinds.length:Int)-1)=(s.kinds.length:Int)-1:=ah;simp only[a1,decide_true,hx,O,s0,hw,go_sem,simprocAttr];refine aa (kR 0 _ [_] true (by simp)) rfl ?_;simp only[bZ,cO,dd,go_sem,simprocAttr];cases S:aq b.kind 0 ((s.kinds.length:Int)-1)
  .rw[F,qJ (e:=4) (by rw[mE,S];rfl) (by decide)];simp[jS,go_sem]
  refine zn O ?_;refine aa (kR 0 1000000 [_] true (by simp)) rfl ?_;simp only[bZ,cO,dd,go_sem,simprocAttr];cases h3:aq b.hours 0 1000000
  .rw[F,qJ (e:=7) (by rw[mE,S,h3];rfl) (by decide)];simp[jS,go_sem]
  have L:mE s l b=(bk s l b.kind).2:=by rw[mE,S,h3];rfl
  have a5:=CF b.kind es;refine zo O a5 ?_;have V:out.length+1<=ai:=by simp[ai];omega
  cases hm:l5 b.kind es with
  |some v=>
   obtain⟨D,rfl⟩:=U _ _ hm;have j:=Ea (out:=out) (i:=d_.length) (r:=r) (L.trans D);refine zn O ?_;cases R:decide ((bk s l b.kind).1.promise<b.hours)
   .have z:¬(bk s l b.kind).1.promise<b.hours:=by simpa using R
    rw[if_neg z,bI]at j;refine zm ?_;refine aZ (d_++[b],r,out,es,g++[.row 2 [.p b.pv]]) ⟨by rw[I];simp,by rw[F,j];simp,by simp;omega,U⟩ (dc _) (by simp[go_sem]) ?_;simp[G,go_sem]
   .have z:(bk s l b.kind).1.promise<b.hours:=by simpa using R
    rw[if_pos z]at j;refine zn V ?_;refine aZ (d_++[b],r,out++[((d_.length:Nat):Int)],es,g++[.row 2 [.p b.pv]]) ⟨by rw[I];simp,by rw[F,j];simp,by simp;omega,U⟩ (dc _) (by simp[aS,go_sem]) ?_
    simp[G,ak,aK,go_sem]
  |none=>
   refine zn O ?_;refine aa (N3 s l b.kind) rfl ?_;simp only[gg,ss,dD,ak,aK,go_sem,simprocAttr];cases hl:((bk s l b.kind).2 != 0)
   rotate_left
   .have X:(bk s l b.kind).2≠0:=by simpa using hl
    rw[F,qJ L X];simp[jS,if_neg X,go_sem]
   have D:(bk s l b.kind).2=0:=by simpa using hl
   have j:=Ea (out:=out) (i:=d_.length) (r:=r) (L.trans D);have a3:=CE b.kind (bk s l b.kind).1.promise es hm;have Z:∀k v,l5 k (es++[(b.kind,(bk s l b.kind).1.promise)])=some v->(bk s l k).2=0/\v=(bk s l k).1.promise:=by
    intro k v h;rw[yv]at h
    cases hk:l5 k es with
    |some u=>rw[hk]at h;cases h;exact U k _ hk
    |none=>
     rw[hk]at h;dsimp only[Option.or]at h;split at h
     .rename_i Y;cases h;rw[Y];exact⟨D,rfl⟩
     .cases h
   refine zn gg ?_;refine aa (FZ _ (uw D).1) rfl (zo O a3 ?_);cases R:decide ((bk s l b.kind).1.promise<b.hours)
   .have z:¬(bk s l b.kind).1.promise<b.hours:=by simpa using R
    rw[if_neg z,bI]at j;refine zm ?_;refine aZ (d_++[b],r,out,es++[(b.kind,(bk s l b.kind).1.promise)],g++[.row 2 [.p b.pv],.row 6 [.p (bk s l b.kind).1.pv]]) ⟨by rw[I];simp,by rw[F,j];simp,by simp;omega,Z⟩ (dc _) (by simp[go_sem]) ?_;simp[G,go_sem]
   .have z:(bk s l b.kind).1.promise<b.hours:=by simpa using R
    rw[if_pos z]at j;refine zn V ?_;refine aZ (d_++[b],r,out++[((d_.length:Nat):Int)],es++[(b.kind,(bk s l b.kind).1.promise)],g++[.row 2 [.p b.pv],.row 6 [.p (bk s l b.kind).1.pv]]) ⟨by rw[I];simp,by rw[F,j];simp,by simp;omega,Z⟩ (dc _) (by simp[aS,go_sem]) ?_;simp[G,ak,aK,go_sem]
namespace Ch
def dI (x:ChLot):AV:=.p x.pv
def bD (x:ChBatch):AV:=.p x.pv
def er (x:HrTest):AV:=.p x.pv
def jK (x:HrBox):AV:=.p x.pv
def B7 (s:ChShop) (b:ChBooks) (ex:List PV):Heap:=
 [.dead,.dead,.row 23 [.agg ([.slice 3 b.lots.length 0 b.lots.length,.slice 4 (b.batches.length+ex.length) 0 b.batches.length,.slice 5 b.tests.length 0 b.tests.length,.slice 6 b.boxes.length 0 b.boxes.length,.p (.int .i64 b.poured),.p (.int .i64 b.lost)]++s.cells.map .p)],
  .row 4 (b.lots.map dI),.row 4 (b.batches.map bD++ex.map .p),.row 3 (b.tests.map er),.row 2 (b.boxes.map jK)]
attribute [go_sem] B7
def gJ(s)(b)(ex):∀o,o∈B7 s b ex->bB 7 o:=by
 intro o i;simp only[B7,br,dP,or_false]at i;rcases i with rfl|rfl|rfl|rfl|rfl|rfl|rfl
 .trivial
 .trivial
 .intro x hx;simp only[dW]at hx;subst hx;intro c e;simp only[ChShop.cells,bf,bx,cn,br,dP,or_false]at e;rcases e with(rfl|rfl|rfl|rfl|rfl|rfl)|e
  .show 3<7;decide
  .show 4<7;decide
  .show 5<7;decide
  .show 6<7;decide
  .trivial
  .trivial
  .rcases e with rfl|rfl|rfl|rfl|rfl|rfl|rfl|rfl|rfl|rfl|rfl|rfl|rfl|rfl|rfl|rfl|rfl<;>trivial
 .intro x hx;obtain⟨y,_,rfl⟩:=cA.1 hx;trivial
 .intro x hx;rcases cn.1 hx with hx|hx
  .obtain⟨y,_,rfl⟩:=cA.1 hx;trivial
  .obtain⟨y,_,rfl⟩:=cA.1 hx;trivial
 .intro x hx;obtain⟨y,_,rfl⟩:=cA.1 hx;trivial
 .intro x hx;obtain⟨y,_,rfl⟩:=cA.1 hx;trivial
def zC (s:ChShop) (b:ChBooks) (l:List ChBatch) (ex:List PV):Heap:=
 [.dead,.dead,.row 23 [.agg ([.slice 3 b.lots.length 0 b.lots.length,.p .nilslice,.slice 5 b.tests.length 0 b.tests.length,.slice 6 b.boxes.length 0 b.boxes.length,.p (.int .i64 b.poured),.p (.int .i64 b.lost)]++s.cells.map .p)],
  .row 4 (b.lots.map dI),.row 4 (l.map bD++ex.map .p),.row 3 (b.tests.map er),.row 2 (b.boxes.map jK)]
attribute [go_sem] zC
def Gi(s)(b)(l)(ex):∀o,o∈zC s b l ex->bB 7 o:=by
 intro o e;by_cases h:o=.row 23 [.agg ([.slice 3 b.lots.length 0 b.lots.length,.p .nilslice,.slice 5 b.tests.length 0 b.tests.length,.slice 6 b.boxes.length 0 b.boxes.length,.p (.int .i64 b.poured),.p (.int .i64 b.lost)]++s.cells.map .p)]
 .subst h;intro x hx;simp only[dW]at hx;subst hx;intro c i;simp only[ChShop.cells,bf,bx,cn,br,dP,or_false]at i;rcases i with(rfl|rfl|rfl|rfl|rfl|rfl)|i
  .show 3<7;decide
  .trivial
  .show 5<7;decide
  .show 6<7;decide
  .trivial
  .trivial
  .rcases i with rfl|rfl|rfl|rfl|rfl|rfl|rfl|rfl|rfl|rfl|rfl|rfl|rfl|rfl|rfl|rfl|rfl<;>trivial
 .refine gJ s { b with batches:=l } ex o ?_;simp only[zC,B7,br,dP,or_false]at e |-;rcases e with e|e|e|e
  .exact .inl e
  .exact .inr (.inl e)
  .exact absurd e h
  .exact .inr (.inr (.inr e))
def mo (s:ChShop) (b:ChBooks) (ex:List PV) (q:Except Int (ChBooks×List UInt8)) (r:AEnd) (h':Heap):Prop:=
 match q with
 |.error e=>r=.panic (iJ e)/\h'=B7 s b ex
 |.ok (b',a)=>r=.ret (.p (.str (bs a)))/\((∃ex',h'=B7 s b' ex')\/(b'.batches=[]/\∃l x,h'=zC s b' l x))
def ez{s}{b}{ex}{q}{e}(i:q=.error e){hh}(t)(j:hh=B7 s b ex++t) :
  ∃h' t,hh=h'++t/\h'.length=7/\(∀o,o∈h'->bB h'.length o)/\DV (.panic (iJ e))/\mo s b ex q (.panic (iJ e)) h':=by
 subst i;exact⟨_,t,j,rfl,gJ s b ex,trivial,rfl,rfl⟩
def jx{s}{b b'}{ex ex'}{q}{a}(e:q=.ok (b',a)){hh}(t)(i:hh=B7 s b' ex'++t) :
  ∃h' t,hh=h'++t/\h'.length=7/\(∀o,o∈h'->bB h'.length o)/\DV (.ret (.p (.str (bs a))))/\mo s b ex q (.ret (.p (.str (bs a)))) h':=by
 subst e;exact⟨_,t,i,rfl,gJ s b' ex',trivial,rfl,.inl ⟨_,rfl⟩⟩
def VV{s}{b b'}{ex}{l}{x}{q}{a}(e:q=.ok (b',a))(j:b'.batches=[]){hh}(t)(i:hh=zC s b' l x++t) :
  ∃h' t,hh=h'++t/\h'.length=7/\(∀o,o∈h'->bB h'.length o)/\DV (.ret (.p (.str (bs a))))/\mo s b ex q (.ret (.p (.str (bs a)))) h':=by
 subst e;exact⟨_,t,i,rfl,Gi s b' l x,trivial,rfl,.inr ⟨j,_,_,rfl⟩⟩
def yN(n)(h)(l:List ChLot):aE (bi n h) (l.map dI)=some (l.map ChLot.pv):=aW (bH n h) ChLot.pv l
def SF(n)(h)(l:List ChBatch):aE (bi n h) (l.map bD)=some (l.map ChBatch.pv):=aW (bH n h) ChBatch.pv l
def vC(n)(h)(l:List HrTest):aE (bi n h) (l.map er)=some (l.map HrTest.pv):=aW (bH n h) HrTest.pv l
def yO(n)(h)(l:List HrBox):aE (bi n h) (l.map jK)=some (l.map HrBox.pv):=aW (bH n h) HrBox.pv l
def zY(n)(h)(l:List ChBatch)(ex):aE (bi n h) (l.map bD++ex.map .p)=some (l.map ChBatch.pv++ex):=by
 have:=Cl.Ee (bH n h) (l.map ChBatch.pv) ex;rw[g8]at this;exact this
def Md(l:List ChBatch)(ex:List PV):(l.map bD++ex.map AV.p).length=l.length+ex.length:=by simp
attribute [go_sem] yN SF vC yO zY Md
def zt{l:List ChBatch}{i:Nat}{x}(h:l[i]?=some x)(ex:List PV):(l.map bD++ex.map AV.p)[i]?=some (.p x.pv):=by
 have hi:i<l.length:=(aC.1 h).1;rw[bJ (by simpa using hi),cX,h];rfl
structure BkOk (s:ChShop) (b:ChBooks) (n:Nat):Prop where
 lots:b.lots.length<=8
 batches:b.batches.length<=7
 tests:b.tests.length<=8
 boxes:b.boxes.length<=20
 grams:∀x,x∈b.lots->0<=x.grams/\x.grams<=100000*(n+1)
 names:∀x,x∈b.lots->x.name.size<=20
 waits:∀x,x∈b.batches->(1<=x.grams/\x.grams<=100000)/\(0<=x.lot/\x.lot<b.lots.length)/\x.name.size<=20
 poured:0<=b.poured/\b.poured<=700000*n
 lost:0<=b.lost/\b.lost<=300000*n
 few:n<=40
def xp(s):bs (bl s)=s:=r6 s
def F2(s)(l):∀(q) (i),(∀j,j∈(bT s l i q).1->(i)<=j/\j<i+q.length)/\(bT s l i q).1.length<=q.length/\((bT s l i q).2≠0->(bT s l i q).1=[])
 |[],i=>by simp[bT]
 |b::r,i=>by
  obtain⟨u,y,v⟩:=F2 s l r (i+1);rw[bT];split
  .split
   .refine⟨λj e=>?_,?_,λh=>absurd rfl h⟩
    .rcases cn.1 e with e|e
     .split at e
      .simp at e;subst e;simp;omega
      .simp at e
     .have:=u j e;simp at this |-;omega
    .rw[ak,bc];split<;>simp<;>omega
   .exact⟨by simp,by simp,λ_=>rfl⟩
  .exact⟨by simp,by simp,λ_=>rfl⟩
def F1(s)(l)(e)(v:e.length<=20):(∀j,j∈(bQ s l e).1->0<=j/\j<1000000000)/\(bQ s l e).1.length<=1000/\((bQ s l e).2≠0->(bQ s l e).1=[]):=by
 obtain⟨u,y,q⟩:=F2 s l e 0;unfold bQ;split
 .split
  .exact⟨by simp,by simp,λ_=>rfl⟩
  .exact⟨λj i=>by have:=u j i;simp at this;omega,by omega,q⟩
 .exact⟨by simp,by simp,λ_=>rfl⟩
def Ny(s)(b)(ex)(n)(y:BkOk s b n):aw TP 183 [.ptr 2 1 0 0] (B7 s b ex) (mo s b ex (aH s b .look)):=by
 obtain⟨k1,u,q⟩:=F1 s.hour b.tests b.boxes y.boxes;refine ci (ag func183 rfl) rfl ?_;simp only[ChShop.cells,go_sem,simprocAttr];refine Af (Vm s.hour b.tests b.boxes) ?_ ?_
 .simp[go_sem]
 by_cases i:(bQ s.hour b.tests b.boxes).1=[]
 .have e:jS (bQ s.hour b.tests b.boxes)=.nilslice\/jS (bQ s.hour b.tests b.boxes)=.slice 1 [] false:=by
   unfold jS;split
   .exact .inr (by rw[i];rfl)
   .exact .inl rfl
  have l:aH s b .look=.ok (b,vg):=by rw[aH,if_pos i]
  rcases e with e|e
  all_goals (
   refine zn e ?_
   exact jx l [] (bI _).symm)
 .have z:(bQ s.hour b.tests b.boxes).2=0:=Classical.byContradiction λh=>i (q h);have e:jS (bQ s.hour b.tests b.boxes)=.slice 1 ((bQ s.hour b.tests b.boxes).1.map ay) false:=by rw[jS,if_pos z];rfl
  have l:aH s b .look=.ok (b,joinL (sX::(bQ s.hour b.tests b.boxes).1.map aX)):=by rw[aH,if_neg i]
  have j:(((bQ s.hour b.tests b.boxes).1.length:Int)==0)=false:=by
   rw[beq_eq_false_iff_ne];intro h;exact i (qx (by omega))
  refine zo e j ?_;have v:=rp [.s sX,.ns (bQ s.hour b.tests b.boxes).1] true (by simp) (λw hw=>by
   simp only[br,dP,or_false]at hw;rcases hw with rfl|rfl
   .show (6:Nat)<=1000;decide
   .exact⟨u,k1⟩)
  refine aa v rfl (zm ?_);exact jx (a:=joinL ([Word.s sX,.ns (bQ s.hour b.tests b.boxes).1].flatMap Word.ws)) (by simpa[Word.ws]using l) [] (bI _).symm
structure SOk (s:ChShop):Prop where
 wax:(Wx.wxCheck s.wax).2.2=0
 blend:(bdCheck s.blend).2.2=0
 wick:Wk.shopErr s.wick=0
 hour:(hrCheck s.hour).2.2=0
 colour:(Cl.clCheck s.colour).2.2=0
def SOk.kinds{s}(h:SOk s):s.hour.kinds.length<1000000000:=by
 have h:=h.hour;unfold hrCheck at h;split at h
 .rename_i e;simp[aq]at e;omega
 .cases h
def xG{s}{l}{k}(h:(aY s l k).2=0):0<=(aY s l k).1/\(aY s l k).1<=16666:=by
 unfold aY at h |-;split at h
 .rename_i e;rw[if_pos e];have:=Gl (uw e).1;exact⟨this.1,this.2.1⟩
 .rename_i e;exact absurd h e
def OA (s:ChShop) (b:ChBooks) (ex:List PV) (q:Except Int (Int×Int)) (r:AEnd) (h':Heap):Prop:=
 h'=B7 s b ex/\r=match q with|.error e=>.panic (iJ e)|.ok (k,n)=>.ret (.p (.tuple [.int .i64 k,.int .i64 n]))
def IE(s)(b)(ex)(n)(q:SOk s)(u:BkOk s b n)(kind):aw TP 180 [.ptr 2 1 0 0,.p (.str (bs kind))] (B7 s b ex)
  (OA s b ex (ej s b kind)):=by
 have e:=q.kinds;refine ci (ag func180 rfl) rfl ?_;simp only[ChShop.cells,go_sem,simprocAttr];by_cases j:an (λx:HrKind=>x.name==bs kind) s.hour.kinds 0<0
 .refine t6 (XK s.hour.kinds (bs kind) false e j) rfl (o9 _) ?_;simp only[ej,if_pos j,go_sem,simprocAttr];exact⟨_,[],(bI _).symm,rfl,gJ s b ex,trivial,rfl,rfl⟩
 refine aa (YL s.hour.kinds (bs kind) false e (by omega)) rfl (zm ?_);refine pC (Tc s.hour b.tests (an (λx:HrKind=>x.name==bs kind) s.hour.kinds 0)) ?_ (.tuple (Flat.cons (.int _ _) (Flat.cons (.int _ _) Flat.nil))) ?_
 .simp[go_sem]
 refine zm ?_;by_cases i:(aY s.hour b.tests (an (λx:HrKind=>x.name==bs kind) s.hour.kinds 0)).2=0
 .refine zn i ?_;refine az (λ_=>?_) (λh=>by cases h);simp only[ej,if_neg j,go_sem,simprocAttr];exact⟨_,[],(bI _).symm,rfl,gJ s b ex,trivial,rfl,by simp only[i];rfl⟩
 .have l:((aY s.hour b.tests (an (λx:HrKind=>x.name==bs kind) s.hour.kinds 0)).2==0)=false:=by simpa using i
  refine zn l ?_;refine az (λh=>by cases h) (λ_=>?_);simp only[ej,if_neg j,if_pos i,go_sem,simprocAttr];exact⟨_,[],(bI _).symm,rfl,gJ s b ex,trivial,rfl,rfl⟩
def AR(s)(b)(ex)(n)(l:SOk s)(q:BkOk s b n)(kind) :
  (∀e,ej s b kind=.error e->aw TP 180 [.ptr 2 1 0 0,.p (.str (bs kind))] (B7 s b ex) (λr h'=>r=.panic (iJ e)/\h'=B7 s b ex)) /\
  (∀k n,ej s b kind=.ok (k,n)->(0<=n/\n<=16666)/\aw TP 180 [.ptr 2 1 0 0,.p (.str (bs kind))] (B7 s b ex) (λr h'=>r=.ret (.p (.tuple [.int .i64 k,.int .i64 n]))/\h'=B7 s b ex)):=by
 refine⟨λe u=>(IE s b ex n l q kind).mono λr h' i=>?_,λk m j=>⟨?_,(IE s b ex n l q kind).mono λr h' i=>?_⟩⟩
 .unfold OA at i;rw[u]at i;exact⟨i.2,i.1⟩
 .unfold ej at j;dsimp only at j;split at j
  .cases j
  .split at j
   .cases j
   .rename_i _ v;cases j;exact xG (by simpa using v)
 .unfold OA at i;rw[j]at i;exact⟨i.2,i.1⟩
def vQ{P}{H}{Q}{ops}{rest}{dst}{A}{f}{args}{e}(j:aw P f args A.h (λr h'=>r=.panic e/\h'=A.h))
  (l:@WQ ⟨Q⟩ (.panic e) A):@WF ⟨P,H,ops,rest,Q,dst⟩ A f args:=
 cZ j (λv h i=>by cases i.1) (λv h i=>by obtain⟨e,rfl⟩:=i;cases e;exact l)
def zbe(s)(b)(ex)(n)(F:SOk s)(E:BkOk s b n)(kind)(hours):aw TP 182 [.ptr 2 1 0 0,.p (.str (bs kind)),.p (.int .i64 hours)] (B7 s b ex) (mo s b ex (aH s b (.box kind hours))):=by
 have D:=AR s b ex n F E kind;have G:=E.boxes;refine ci (ag func182 rfl) rfl ?_;simp only[ChShop.cells,go_sem,simprocAttr]
 cases l:ej s b kind with
 |error e=>
  refine vQ (D.1 e l) (zm ?_)
  exact ez (e:=e) (by simp only[aH,l]) [] (bI _).symm
 |ok q=>
  obtain⟨k,m⟩:=q;refine cw (v:=.p (.tuple [.int .i64 k,.int .i64 m])) (h':=B7 s b ex) (D.2 k m l).2 (zm ?_);refine az (λz=>?_) (λz=>?_);rotate_left
  .have j:¬hours<=m:=by simpa using z
   refine zm ?_;exact ez (e:=9) (by simp only[aH,l,if_pos j]) [] (bI _).symm
  have j:hours<=m:=by simpa using z
  refine zm ?_;have u:¬¬hours<=m:=λh=>h j;refine az (λy=>?_) (λy=>?_);rotate_left
  .have i:¬b.boxes.length<20:=by simp at y;omega
   refine zm ?_;exact ez (e:=3) (by simp only[aH,l,if_neg u,if_pos i]) [] (bI _).symm
  have i:b.boxes.length<20:=by simp at y;omega
  have C:¬¬b.boxes.length<20:=λh=>h i;have A:b.boxes.length+1<=ai:=by simp only[ai];omega
  refine zn A ?_;exact jx (b':={ b with boxes:=b.boxes++[⟨k,hours⟩] }) (ex':=ex) (a:=vg) (by simp only[aH,l,if_neg u,if_neg C]) [] (by simp[ak,aK,aS,bf,bx,bI,jK,go_sem])
def mq (x:ChLot):List Word:=[.s (bl x.name),.n x.grams]
def uf (w:Word):AV:=.p w.pv
def LQ(n)(h)(l:List Word):aE (bi n h) (l.map uf)=some (l.map Word.pv):=aW (bH n h) Word.pv l
def YX(n)(x):below n (dI x)=True:=eq_true trivial
def Tk(n)(x):below n (bD x)=True:=eq_true trivial
def WE(n)(x):below n (er x)=True:=eq_true trivial
def YY(n)(x):below n (jK x)=True:=eq_true trivial
def WA(n)(x):below n (uf x)=True:=eq_true trivial
attribute [go_sem] LQ YX Tk WE YY WA
def x2(l:List ChLot):(l.flatMap mq).length=2*l.length:=by
 induction l with
 |nil=>rfl
 |cons x r e=>rw[mS,ak,e];simp[mq];omega
def RV(l:List ChLot):(l.flatMap mq).flatMap Word.ws=l.flatMap λx=>[bl x.name,aX x.grams]:=by
 rw[List.flatMap_assoc];rfl
def X2(s)(b)(ex)(n)(E:SOk s)(i:BkOk s b n):aw TP 188 [.ptr 2 1 0 0] (B7 s b ex) (mo s b ex (aH s b .stock)):=by
 have z:=i.lots;refine ci (ag func188 rfl) rfl ?_;simp only[ChShop.cells,go_sem,simprocAttr];refine bt 3 1 (by simp only[go_sem,simprocAttr]) (zm ?_);refine aG [10,11] b.lots (by omega) (τ:=Unit) (λd_ rest _=>True) (λd_ _=>[(3,.slice 7 (d_.flatMap mq).length 0 (d_.flatMap mq).length),(12,.p (.int .i64 d_.length))]) (λd_ _=>B7 s b ex++[.row 1 ((d_.flatMap mq).map uf)]) () trivial ?_ ?_ ?_
 .simp only[ChShop.cells,xP,go_sem,simprocAttr]
 .intro _ _;by_cases j:b.lots=[]
  .have l:(((b.lots.flatMap mq).length:Int)==0)=true:=by rw[j];rfl
   simp only[ChShop.cells,l,go_sem,simprocAttr];exact jx (b':=b) (ex':=ex) (a:=MF) (by simp only[aH,if_pos j]) [_] rfl
  .have l:(((b.lots.flatMap mq).length:Int)==0)=false:=by
    rw[beq_eq_false_iff_ne,x2];intro h;exact j (qx (by omega))
   simp only[ChShop.cells,l,go_sem,simprocAttr];have q:=rp (b.lots.flatMap mq) false (by rw[x2];omega) (λw hw=>by
    obtain⟨x,hx,hw⟩:=wc.1 hw;have D:=i.grams x hx;have I:=i.names x hx;have G:=i.few;have F:(100000:Int)*(n+1)<=100000*41:=by omega
    simp only[mq,br,dP,or_false]at hw;rcases hw with rfl|rfl
    .show (bl x.name).length<=1000;unfold bl;have:x.name.data.toList.length=x.name.size:=by show x.name.data.toList.length=x.name.data.size;exact AZ
     omega
    .exact⟨D.1,by omega⟩)
   refine bq q ?_ (.str _) ?_
   .simp only[go_sem,simprocAttr]
   refine zm ?_;refine jx (b':=b) (ex':=ex) (a:=joinL ((b.lots.flatMap mq).flatMap Word.ws)) (by rw[RV,aH,if_neg j]) [_] rfl
 .intro d_ w r _ A _ hx y v;have C:dI w=.p w.pv:=rfl;have e:=x2 d_;have u:2*d_.length+2<=ai:=by rw[A]at z;simp at z;simp only[ai];omega
  simp only[ChShop.cells,y,hx,C,e,u,go_sem,simprocAttr];refine am A () trivial ?_;simp only[v,vX,mS,xP,mq,ak,aS,bI,uf,Word.pv,xp,bf,bx,go_sem,simprocAttr];rw[e]
end Ch
open Go.IntKind (i64)
namespace Ch
set_option maxRecDepth 4000
def SOk.colours{s}(h:SOk s):s.colour.colours.length<1000000000:=by
 have:=(Cl.sZ h.colour).len;omega
def Db (x:ClBatch):AV:=.p x.pv
def zak(n)(h)(l:List ClBatch):aE (bi n h) (l.map Db)=some (l.map ClBatch.pv):=aW (bH n h) ClBatch.pv l
def zaG(n)(x):below n (Db x)=True:=eq_true trivial
attribute [go_sem] zak zaG
def iB (l:List ChBatch):List ClBatch:=l.map λx=>⟨x.colour,x.grams⟩
def Qi(s)(b)(ex)(n)(F:SOk s)(G:BkOk s b n)(c)(o)(m)(e:iU s b c=.ok (o,m)) :
  aw TP 245 [.ptr 2 1 0 0,.p (.str (bs c))] (B7 s b ex) (λr h'=>r=.ret (.p (.tuple [.slice 1 (o.map Cl.cL) false,.int .i64 m]))/\h'=B7 s b ex):=by
 have C:=G.batches;have z:=F.colours;unfold iU at e;dsimp only at e;split at e
 .cases e
 rename_i K;split at e
 .cases e
 rename_i J;have A:Cl.dj s.colour (an (λx:ClColour=>x.name==bs c) s.colour.colours 0) (cJ b)=0:=by simpa using J
 split at e
 .cases e
 rename_i q I;cases e;refine rN (ag func245 rfl) rfl ?_;simp only[ChShop.cells,go_sem,simprocAttr];refine aa (QZ s.colour.colours (bs c) false z (by omega)) rfl (zm ?_);refine bt 7 2 (by simp only[go_sem,simprocAttr]) (zm ?_);refine aG [0,6,25,26] b.batches (by omega) (τ:=Unit) (λd_ rest _=>True) (λd_ _=>[(7,.slice 7 d_.length 0 d_.length),(27,.p (.int .i64 d_.length))]) (λd_ _=>B7 s b ex++[.row 2 ((iB d_).map Db)]) () trivial ?_ ?_ ?_
 .simp only[ChShop.cells,iB,bx,go_sem,simprocAttr]
 .intro _ _;have hw:iB b.batches=cJ b:=rfl;have i:(cJ b).length=b.batches.length:=by simp only[cJ,dQ]
  have D:=Cl.Ue s.colour (an (λx:ClColour=>x.name==bs c) s.colour.colours 0) (cJ b) (by rw[i];omega);rw[Cl.ml,if_pos A,I]at D;simp only[ChShop.cells,hw,go_sem,simprocAttr];refine zy D ?_ ?_
  .simp only[i,go_sem,simprocAttr];rw[dt (by rw[dQ,i];exact ba _)]
  simp only[go_sem,simprocAttr];refine az (λ_=>?_) (λh=>by cases h);simp only[go_sem,simprocAttr]
 .intro d_ w r _ E _ hx y v;have j:=zt hx ex;have u:d_.length+1<=ai:=by rw[E]at C;simp at C;simp only[ai];omega
  have l:(iB d_).length=d_.length:=by simp[iB]
  simp only[ChShop.cells,y,j,u,l,go_sem,simprocAttr];refine am E () trivial ?_;simp only[v,iB,ak,aS,bf,bx,Db,ClBatch.pv,go_sem,simprocAttr]
def zaN (s:ChShop) (b:ChBooks) (ex:List PV) (e:Int) (r:AEnd) (h':Heap):Prop:=r=.panic (iJ e)/\h'=B7 s b ex
def Qj(s)(b)(ex)(n)(J:SOk s)(M:BkOk s b n)(c)(e)(i:iU s b c=.error e) :
  aw TP 245 [.ptr 2 1 0 0,.p (.str (bs c))] (B7 s b ex) (zaN s b ex e):=by
 have F:=M.batches;have l:=J.colours;refine ci (ag func245 rfl) rfl ?_;simp only[ChShop.cells,go_sem,simprocAttr];by_cases u:an (λx:ClColour=>x.name==bs c) s.colour.colours 0<0
 .have L:e=4:=by
   unfold iU at i;dsimp only at i;rw[if_pos u]at i;cases i;rfl
  subst L;refine t6 (XN s.colour.colours (bs c) false l u) rfl (o9 _) (zm ?_);exact⟨_,[],(bI _).symm,rfl,gJ s b ex,trivial,rfl,rfl⟩
 obtain⟨K,C⟩:Cl.ml s.colour (an (λx:ClColour=>x.name==bs c) s.colour.colours 0) (cJ b)=.tuple [.nilslice,.int .i64 0,.int .i64 e]/\(e==0)=false:=by
  unfold iU at i;dsimp only at i;rw[if_neg u]at i;split at i
  .rename_i q;cases i;rw[Cl.ml,if_neg q];exact⟨rfl,by simpa using q⟩
  .rename_i q;have E:Cl.dj s.colour (an (λx:ClColour=>x.name==bs c) s.colour.colours 0) (cJ b)=0:=by simpa using q
   split at i
   .rename_i N;cases i;rw[Cl.ml,if_pos E,N];exact⟨rfl,rfl⟩
   .cases i
 refine aa (QZ s.colour.colours (bs c) false l (by omega)) rfl (zm ?_);refine bt 7 2 (by simp only[go_sem,simprocAttr]) (zm ?_);refine aG [0,6,25,26] b.batches (by omega) (τ:=Unit) (λd_ rest _=>True) (λd_ _=>[(7,.slice 7 d_.length 0 d_.length),(27,.p (.int .i64 d_.length))]) (λd_ _=>B7 s b ex++[.row 2 ((iB d_).map Db)]) () trivial ?_ ?_ ?_
 .simp only[ChShop.cells,iB,bx,go_sem,simprocAttr]
 .intro _ _;have hw:iB b.batches=cJ b:=rfl;have j:(cJ b).length=b.batches.length:=by simp only[cJ,dQ]
  have G:=Cl.Ue s.colour (an (λx:ClColour=>x.name==bs c) s.colour.colours 0) (cJ b) (by rw[j];omega);rw[K]at G;simp only[ChShop.cells,hw,go_sem,simprocAttr];refine zy G ?_ ?_
  .simp only[j,go_sem,simprocAttr];rw[dt (by rw[dQ,j];exact ba _)]
  simp only[C,go_sem,simprocAttr];refine az (λh=>by cases h) (λ_=>?_);simp only[go_sem,simprocAttr];exact⟨_,_,rfl,rfl,gJ s b ex,trivial,rfl,rfl⟩
 .intro d_ w r _ I _ hx D A;have v:=zt hx ex;have z:d_.length+1<=ai:=by rw[I]at F;simp at F;simp only[ai];omega
  have y:(iB d_).length=d_.length:=by simp[iB]
  simp only[ChShop.cells,D,v,z,y,go_sem,simprocAttr];refine am I () trivial ?_;simp only[A,iB,ak,aS,bf,bx,Db,ClBatch.pv,go_sem,simprocAttr]
def qi{s}{b}{c}{o}{m}(v:SOk s){n}(z:BkOk s b n)(e:iU s b c=.ok (o,m)):o.Perm (List.range b.batches.length)/\0<=m/\m<=210000:=by
 unfold iU at e;dsimp only at e;split at e
 .cases e
 split at e
 .cases e
 split at e
 .cases e
 rename_i q i;cases e;have u:(cJ b).length=b.batches.length:=by simp only[cJ,dQ]
 unfold Cl.qj at i;rw[u]at i;have y:(List.range b.batches.length).length<=7:=by rw[List.length_range];exact z.batches
 have l:=Cl.nV (need:=Cl.fc s.colour (cJ b)) (col:=Cl.ij (cJ b)) (λc j n h=>by
  unfold Cl.fc at h;split at h
  .exact Cl.vp (Cl.sZ v.colour) h
  .cases h) 7 (an (λx:ClColour=>x.name==bs c) s.colour.colours 0) (List.range b.batches.length)
 rw[i]at l;refine⟨Cl.F8 y i,?_,?_⟩
 .exact(l o m rfl).1
 .have:=(l o m rfl).2;omega
def ld (b:ChBooks) (o:List Nat):List Word:=o.map λi=>.s (kH b.batches i)
def Va(b)(o)(m):(ld b o++[Word.n m]).flatMap Word.ws=o.map (kH b.batches)++[aX m]:=by
 rw[vX]
 congr 1
 induction o with
 |nil=>rfl
 |cons x r e=>simp only[ld,bf,mS]at e |-;rw[e];rfl
def CB{s}{b}{n}(e:BkOk s b n)(i):(kH b.batches i).length<=1000:=by
 unfold kH;split
 .rename_i x hx;have h:=(e.waits x (aB hx)).2.2;unfold bl;have:x.name.data.toList.length=x.name.size:=by show x.name.data.toList.length=x.name.data.size;exact AZ
  omega
 .exact cG _
def G0(s)(b)(ex)(n)(A:SOk s)(z:BkOk s b n)(c):aw TP 176 [.ptr 2 1 0 0,.p (.str (bs c))] (B7 s b ex) (mo s b ex (aH s b (.plan c))):=by
 have O:=z.batches;refine ci (ag func176 rfl) rfl ?_;simp only[ChShop.cells,go_sem,simprocAttr]
 cases u:iU s b c with
 |error e=>
  refine vQ (Qj s b ex n A z c e u) (zm ?_)
  exact ez (e:=e) (by simp only[aH,u]) [] (bI _).symm
 |ok q=>
  obtain⟨o,m⟩:=q;obtain⟨K,M,R⟩:=qi A z u;have fl:o.length=b.batches.length:=by rw[K.length_eq,List.length_range]
  refine cw (v:=.p (.tuple [.slice 1 (o.map Cl.cL) false,.int .i64 m])) (h':=B7 s b ex) (Qi s b ex n A z c o m u) (zm ?_);refine bt 7 1 (by simp only[go_sem,simprocAttr]) ?_;simp only[go_sem,simprocAttr];refine aG [0,6,16,17] o (by omega) (τ:=Unit) (λd_ rest _=>True) (λd_ _=>[(7,.slice 7 d_.length 0 d_.length),(18,.p (.int .i64 d_.length))]) (λd_ _=>B7 s b ex++[.row 1 ((ld b d_).map uf)]) () trivial ?_ ?_ ?_
  .simp only[ChShop.cells,ld,bx,go_sem,simprocAttr]
  .intro _ _;have j:(ld b o).length=o.length:=by simp[ld]
   have l:o.length+1<=ai:=by simp only[ai];omega
   simp only[ChShop.cells,j,l,go_sem,simprocAttr];have F:=rp (ld b o++[.n m]) false (by rw[ak,j];simp;omega) (λw hw=>by
    rcases cn.1 hw with hw|hw
    .obtain⟨i,_,rfl⟩:=cA.1 hw;exact CB z i
    .simp at hw;subst hw
     exact⟨M,by omega⟩)
   refine bq F ?_ (.str _) ?_
   .have e:(ld b o).map uf++[AV.p (.iface 3 (.int .i64 m))]=(ld b o++[Word.n m]).map uf:=by rw[aS];rfl
    have N:o.length+1=(ld b o++[Word.n m]).length:=by rw[ak,j];rfl
    simp only[e,LQ,go_sem,simprocAttr];rw[N,if_pos rfl];show some [PV.slice 1 (List.take (ld b o++[Word.n m]).length (List.map Word.pv (ld b o++[Word.n m]))) false]=_;rw[dt (by rw[dQ];exact ba _)]
   simp only[go_sem,simprocAttr];exact jx (b':=b) (ex':=ex) (a:=joinL ((ld b o++[Word.n m]).flatMap Word.ws)) (by rw[Va];simp only[aH,u]) [_] rfl
  .intro d_ w r _ C _ hx I G;have hw:w<b.batches.length:=by
    have:w∈o:=by rw[C];simp
    have:=K.mem_iff.1 this;exact sq.1 this
   obtain⟨y,J⟩:∃y,b.batches[w]?=some y:=⟨_,bL hw⟩
   have D:=zt J ex;have L:kH b.batches w=bl y.name:=by rw[kH,J]
   have E:(w:Int)<(b.batches.length:Int):=by omega
   have l:d_.length+1<=ai:=by rw[C]at fl;simp at fl;simp only[ai];omega
   have j:(ld b d_).length=d_.length:=by simp[ld]
   simp only[ChShop.cells,I,hx,Cl.cL,D,E,l,j,go_sem,simprocAttr];refine am C () trivial ?_;simp only[G,ld,ak,aS,bf,bx,uf,Word.pv,L,xp,go_sem,simprocAttr]
def lU (l:List ChBatch):Int:=(l.map (·.grams)).sum
def nU{s}{b}{n}(e:BkOk s b n):∀d,(∀x,x∈d->x∈b.batches)->0<=lU d/\lU d<=100000*d.length
 |[],_=>by simp[lU]
 |x::r,h=>by
  have i:=nU e r (λy j=>h y (by simp[j]));have hx:=(e.waits x (h x (by simp))).1;simp only[lU,bf,List.sum_cons,bc]at i |-;omega
def zac(s)(b)(ex)(n)(z:SOk s)(i:BkOk s b n)(c):aw TP 178 [.ptr 2 1 0 0,.p (.str (bs c))] (B7 s b ex) (mo s b ex (aH s b (.pour c))):=by
 have K:=i.batches;refine ci (ag func178 rfl) rfl ?_;simp only[ChShop.cells,go_sem,simprocAttr]
 cases u:iU s b c with
 |error e=>
  refine vQ (Qj s b ex n z i c e u) ?_;simp only[go_sem,simprocAttr]
  exact ez (e:=e) (by simp only[aH,u]) [] (bI _).symm
 |ok q=>
  obtain⟨o,m⟩:=q;obtain⟨R,L,O⟩:=qi z i u;refine cw (v:=.p (.tuple [.slice 1 (o.map Cl.cL) false,.int .i64 m])) (h':=B7 s b ex) (Qi s b ex n z i c o m u) ?_;simp only[go_sem,simprocAttr];refine aG [0,6,19,20] b.batches (by omega) (τ:=Unit) (λd_ rest _=>True) (λd_ _=>[(21,.p (.int .i64 d_.length))]) (λd_ _=>B7 s { b with poured:=b.poured+lU d_ } ex) () trivial ?_ ?_ ?_
  .simp only[ChShop.cells,lU,bx,List.sum_nil,uJ,go_sem,simprocAttr]
  .intro _ _;have y:=nU i b.batches (λx hx=>hx);have E:=i.poured;have M:=i.lost;have D:=i.few;have j:i64.wrap (b.lost+m)=b.lost+m:=ah;simp only[ChShop.cells,j,go_sem,simprocAttr];have F:=rp [.n m] true (by simp) (λw hw=>by
    simp only[br,dP,or_false]at hw;subst hw
    exact⟨L,by omega⟩)
   refine aa F rfl ?_;simp only[go_sem,simprocAttr];exact VV (b':={ b with poured:=b.poured+MJ b.batches,batches:=[],lost:=b.lost+m }) (l:=b.batches) (x:=ex) (a:=joinL ([Word.n m].flatMap Word.ws)) (by simp only[aH,u];rfl) rfl [] (bI _).symm
  .intro d_ w r _ A _ hx I G;have C:=zt hx ex;have y:=nU i (d_++[w]) (λx hx=>by rw[A];simp at hx |-;rcases hx with h|h;exact .inl h;exact .inr (.inl h));have J:lU (d_++[w])=lU d_+w.grams:=by simp[lU]
   have N:(d_++[w]).length<=7:=by rw[A]at K;simp at K |-;omega
   have E:=i.poured;have D:=i.few;have j:i64.wrap (b.poured+lU d_+w.grams)=b.poured+(lU d_+w.grams):=by rw[Int.add_assoc];exact ah
   simp only[ChShop.cells,I,C,j,go_sem,simprocAttr];refine am A () trivial ?_;simp only[G,J,ChShop.cells,go_sem,simprocAttr]
def Cp{s}{a}(h:(aI s a).2=0):bm s.kinds.length (aI s a).1=0/\bO s []=0:=by
 unfold aI at h |-;split at h
 .rename_i i;rw[if_pos i];split at h
  .cases h
  .rename_i j;rw[if_neg j];split at h
   .cases h
   .rename_i t l;split at h
    .rename_i e;rw[if_pos e];refine⟨?_,i⟩;unfold jH at e;simp only[eI,beq_iff_eq]at e;exact e.1
    .cases h
 .rename_i i;exact absurd h i
def H3{s}(h:bO s []=0):(hrCheck s).2.2=0:=by
 unfold bO at h;split at h
 .assumption
 .exact h
def Ki{i}{t}(h:bm i t=0):dn t=t.pv:=by
 have:=(eY h).1.two;unfold dn
 cases e:t.marks with
 |nil=>rw[e]at this;simp at this
 |cons m r=>simp only[HrTest.pv,e]
def Py{s}{t}{q}(h:bm q t=0):(ia s t).1.length<=1000/\∀i,i∈(ia s t).1->0<=i/\i<1000000000:=by
 have y:=(eY h).1.len;have v:∀(l:List HrMark) (i:Nat),(kG t i l).length<=l.length/\∀j,j∈kG t i l->0<=j/\j<i+l.length:=by
  intro l
  induction l with
  |nil=>intro i;exact⟨ba _,λj e=>by cases e⟩
  |cons m r u=>
   intro i;have:=u (i+1);rw[kG];refine⟨?_,λj e=>?_⟩
   .rw[ak,bc];have:(if gh (wo t i)=true then [(i:Int)] else []).length<=1:=by split<;>simp
    omega
   .rcases cn.1 e with e|e
    .split at e
     .simp at e;subst e;simp;omega
     .simp at e
    .have:=this.2 j e;simp at this |-;omega
 unfold ia;split
 .unfold p8;split
  .simp
  .have:=v t.marks 0;refine⟨fP this.1 (by omega),λi hi=>?_⟩;have:=this.2 i hi;simp at this;omega
 .simp
def Mp(s)(b:ChBooks)(ex)(t):B7 s { b with tests:=b.tests++[t] } ex =
  [.dead,.dead,.row 23 [.agg ([.slice 3 b.lots.length 0 b.lots.length,.slice 4 (b.batches.length+ex.length) 0 b.batches.length,.slice 5 (b.tests.length+1) 0 (b.tests.length+1),.slice 6 b.boxes.length 0 b.boxes.length,.p (.int .i64 b.poured),.p (.int .i64 b.lost)]++s.cells.map .p)],
  .row 4 (b.lots.map dI),.row 4 (b.batches.map bD++ex.map .p),.row 3 (b.tests.map er++[.p t.pv]),.row 2 (b.boxes.map jK)]:=by
 simp only[B7,ak,aK,aS,bf,bx,er]
def DA:Hints:=dx [(53,.low),(1007052,.sto),(32,.low),(40,.app 37),(5000001,.app 5)]
def XR:cu DA f163=true:=by kernel_rfl
def zaa(s)(b)(ex)(n)(K:SOk s)(J:BkOk s b n)(text):aw TP 163 [.ptr 2 1 0 0,.p (.str (bs text))] (B7 s b ex) (mo s b ex (aH s b (.test text))):=by
 have L:=J.tests;refine ci (dv (by kernel_rfl) rfl XR) rfl ?_;simp only[ChShop.cells,go_sem,simprocAttr];refine aa (L9 s.hour text) rfl ?_;by_cases u:(aI s.hour text).2=0;rotate_left
 .have E:((aI s.hour text).2==0)=false:=by simpa using u
  simp only[dn,E,go_sem,simprocAttr];refine az (λh=>by cases h) (λ_=>?_);refine zm ?_;exact ez (e:=(aI s.hour text).2) (by simp only[aH,if_pos u]) [_] rfl
 obtain⟨z,M⟩:=Cp u;have D:=Ki z;simp only[D,u,HrTest.pv,go_sem,simprocAttr];refine az (λ_=>?_) (λh=>by cases h);refine zm ?_;refine az (λy=>?_) (λy=>?_);rotate_left
 .have q:¬b.tests.length<8:=by simp at y;omega
  refine zm ?_;exact ez (e:=3) (by simp only[aH,if_neg (not_not_intro u),if_pos q]) [_] rfl
 have q:b.tests.length<8:=by simp at y;omega
 have F:¬¬b.tests.length<8:=λh=>h q;have A:b.tests.length+1<=ai:=by simp only[ai];omega
 simp only[A,DA,aD,go_sem,simprocAttr];refine And.intro (.inr ⟨5,_,rfl,rfl⟩) ?_;refine aj (zaB s.hour (aI s.hour text).1) rfl ?_
 have i:aH s b (.test text)=.ok ({ b with tests:=b.tests++[(aI s.hour text).1] },
   if(cf s.hour (aI s.hour text).1).2=0 then joinL [aX (cf s.hour (aI s.hour text).1).1.lo,aX (cf s.hour (aI s.hour text).1).1.hi]
   else joinL (A2::(ia s.hour (aI s.hour text).1).1.map aX)):=by simp only[aH,if_neg (not_not_intro u),if_neg F]
 by_cases v:(cf s.hour (aI s.hour text).1).2=0
 .simp only[DA,v,Span.pv,go_sem,simprocAttr];have j:0<=(cf s.hour (aI s.hour text).1).1.lo/\(cf s.hour (aI s.hour text).1).1.lo<1000000000/\0<=(cf s.hour (aI s.hour text).1).1.hi/\(cf s.hour (aI s.hour text).1).1.hi<1000000000:=by
   have:=pq (eY z).1;unfold cf;split
   .split
    .dsimp only;omega
    .dsimp only;omega
   .dsimp only;omega
  have l:=rp [.n (cf s.hour (aI s.hour text).1).1.lo,.n (cf s.hour (aI s.hour text).1).1.hi] true (by simp) (λw hw=>by
   simp only[br,dP,or_false]at hw;rcases hw with rfl|rfl
   .exact⟨j.1,j.2.1⟩
   .exact⟨j.2.2.1,j.2.2.2⟩)
  refine And.intro rfl ?_;refine aa l rfl (zm ?_);rw[if_pos v]at i;exact jx (ex':=ex) (a:=joinL ([Word.n (cf s.hour (aI s.hour text).1).1.lo,.n (cf s.hour (aI s.hour text).1).1.hi].flatMap Word.ws)) i [_,_] (congrArg (·++[_,_]) (Mp s b ex (aI s.hour text).1).symm)
 .have C:((cf s.hour (aI s.hour text).1).2==0)=false:=by simpa using v
  simp only[DA,aD,C,Span.pv,go_sem,simprocAttr];refine And.intro rfl ?_;refine aj (YJ s.hour (aI s.hour text).1) rfl ?_;simp only[DA,fi,go_sem,simprocAttr];obtain⟨I,G⟩:=Py (s:=s.hour) z;have l:=rp [.s A2,.ns (ia s.hour (aI s.hour text).1).1] true (by simp) (λw hw=>by
   simp only[br,dP,or_false]at hw;rcases hw with rfl|rfl
   .show (3:Nat)<=1000;decide
   .exact⟨I,G⟩)
  refine aa l rfl (zm ?_);rw[if_neg v]at i;exact jx (ex':=ex) (a:=joinL ([Word.s A2,.ns (ia s.hour (aI s.hour text).1).1].flatMap Word.ws)) (by simpa[Word.ws]using i) [_,_] (congrArg (·++[_,_]) (Mp s b ex (aI s.hour text).1).symm)
def XD(t)(rs)(k):Wx.lh (Wx.MM t rs k):=by
 have i:∀(l:List (Nat×Nat)) (p:Span),Wx.lh p->Wx.lh (Wx.joinL (λq=>(Wx.uQ (Wx.iQ t rs q)).map (Wx.eH k q)) l p):=by
  intro l
  induction l with
  |nil=>intro p h;exact h
  |cons q l j=>
   intro p h;rw[Wx.joinL];refine j _ ?_;unfold Wx.uQ;by_cases e:(Wx.iQ t rs q).lo<=(Wx.iQ t rs q).hi
   .rw[if_pos e];have hi:=Wx.Ih e;refine Wx.Eb h ?_;unfold Wx.eH;split
    .omega
    .split
     .dsimp only;omega
     .dsimp only;omega
   .rw[if_neg e];exact h
 exact i _ _ (by unfold Wx.lh;decide)
def Ce{t}{rs}{k}(h:(Wx.bj t rs k).2.2=0):(0<=(Wx.bj t rs k).1.lo/\(Wx.bj t rs k).1.lo<1000000000)/\0<=(Wx.bj t rs k).1.hi/\(Wx.bj t rs k).1.hi<1000000000:=by
 have e:=XD t rs k.toNat;unfold Wx.lh at e;unfold Wx.bj at h |-;split
 .split
  .unfold Wx.jd;split
   .dsimp only;omega
   .split
    .dsimp only;omega
    .split<;>dsimp only<;>omega
  .dsimp only;omega
 .dsimp only;omega
def SOk.waxkinds{s}(h:SOk s):s.wax.kinds.length<1000000000:=by
 have:=(Wx.Hn h.wax).kinds;omega
def Td(s)(x:ChLot):af TP 232 [x.pv,.ptr 1 [.str s] 0 0] (.bool (x.name==s)):=by
 refine ae (ag func232 rfl) rfl ?_;simp[go_sem]
def N9(s)(x:ChBatch):af TP 237 [x.pv,.ptr 1 [.str s] 0 0] (.bool (x.name==s)):=by
 refine ae (ag func237 rfl) rfl ?_;simp[go_sem]
def J7(s)(b:ChBooks)(ex)(t):B7 s { b with lots:=b.lots++[t] } ex =
  [.dead,.dead,.row 23 [.agg ([.slice 3 (b.lots.length+1) 0 (b.lots.length+1),.slice 4 (b.batches.length+ex.length) 0 b.batches.length,.slice 5 b.tests.length 0 b.tests.length,.slice 6 b.boxes.length 0 b.boxes.length,.p (.int .i64 b.poured),.p (.int .i64 b.lost)]++s.cells.map .p)],
  .row 4 (b.lots.map dI++[.p t.pv]),.row 4 (b.batches.map bD++ex.map .p),.row 3 (b.tests.map er),.row 2 (b.boxes.map jK)]:=by
 simp only[B7,ak,aK,aS,bf,bx,dI]
def J3:Hints:=dx [(64,.low),(76,.app 69),(5000001,.app 6)]
def ZE:cu J3 f170=true:=by kernel_rfl
def zbd(s)(b)(ex)(n)(S:SOk s)(X:BkOk s b n)(name kind)(grams)(rs)(L:rs.length<1000000000):aw TP 170 [.ptr 2 1 0 0,.p (.str (bs name)),.p (.str (bs kind)),.p (.int .i64 grams),.p (.slice 1 (rs.map ay) false)] (B7 s b ex) (mo s b ex (aH s b (.lot name kind grams rs))):=by
 have Y:=X.lots;refine ci (dv (by kernel_rfl) rfl ZE) rfl ?_;simp only[ChShop.cells,go_sem,simprocAttr];refine bq (Dn (fv:=.func (.func 232) [] [.ptr 1 [.str (bs name)] 0 0]) b.lots (λy=>y.name==bs name) false 4 rfl (by omega) λy _=>⟨_,_,_,rfl,Td (bs name) y⟩) ?_ (.bool _) ?_
 .simp[go_sem]
 refine zm ?_;refine az (λF=>?_) (λF=>?_);rotate_left
 .have i:(b.lots.any λy=>y.name==bs name)=true:=by simpa using F
  refine zm ?_;exact ez (e:=5) (by simp only[aH,if_pos i]) [_] rfl
 have i:¬(b.lots.any λy=>y.name==bs name)=true:=by
  intro h;rw[h]at F;cases F
 refine zm ?_;by_cases z:an (λx:WxKind=>x.name==bs kind) s.wax.kinds 0<0
 .refine t6 (XP s.wax.kinds (bs kind) false S.waxkinds z) rfl (o9 _) (zm ?_);exact ez (e:=4) (by simp only[aH,if_neg i,if_pos z]) [_] rfl
 refine aa (YP s.wax.kinds (bs kind) false S.waxkinds (by omega)) rfl ?_;by_cases D:1<=grams/\grams<=100000;rotate_left
 .have T:aH s b (.lot name kind grams rs)=.error 7:=by simp only[aH,if_neg i,if_neg z,if_pos D]
  by_cases G:1<=grams
  .have N:decide (grams<=100000)=false:=by simpa using λh=>D ⟨G,h⟩
   have q:decide (1<=grams)=true:=by simpa using G
   refine zo q N ?_;refine az (λh=>by cases h) (λ_=>?_);refine zm ?_;exact ez (e:=7) T [_] rfl
  .have q:decide (1<=grams)=false:=by simpa using G
   refine zn q ?_;refine az (λh=>by cases h) (λ_=>?_);refine zm ?_;exact ez (e:=7) T [_] rfl
 have v:¬¬(1<=grams/\grams<=100000):=λh=>h D;refine zo D.1 D.2 ?_;refine az (λ_=>?_) (λh=>by cases h);refine zm ?_;refine aa (Wx.zav s.wax rs (an (λx:WxKind=>x.name==bs kind) s.wax.kinds 0) L) rfl ?_;by_cases C:(Wx.bj s.wax rs (an (λx:WxKind=>x.name==bs kind) s.wax.kinds 0)).2.2=0;rotate_left
 .have R:((Wx.bj s.wax rs (an (λx:WxKind=>x.name==bs kind) s.wax.kinds 0)).2.2==0)=false:=by simpa using C
  simp only[R,Span.pv,go_sem,simprocAttr];refine az (λh=>by cases h) (λ_=>?_);refine zm ?_;exact ez (e:=(Wx.bj s.wax rs (an (λx:WxKind=>x.name==bs kind) s.wax.kinds 0)).2.2) (by simp only[aH,if_neg i,if_neg z,if_neg v,if_pos C]) [_,_] rfl
 have E:¬(Wx.bj s.wax rs (an (λx:WxKind=>x.name==bs kind) s.wax.kinds 0)).2.2≠0:=λh=>h C;obtain⟨V,U⟩:=Ce C;simp only[C,Span.pv,go_sem,simprocAttr];refine az (λ_=>?_) (λh=>by cases h);refine zm ?_;refine az (λI=>?_) (λI=>?_);rotate_left
 .have u:¬b.lots.length<8:=by simp at I;omega
  refine zm ?_;exact ez (e:=3) (by simp only[aH,if_neg i,if_neg z,if_neg v,if_neg E,if_pos u]) [_,_] rfl
 have u:b.lots.length<8:=by simp at I;omega
 have O:¬¬b.lots.length<8:=λh=>h u;have M:b.lots.length+1<=ai:=by simp only[ai];omega
 have j:aH s b (.lot name kind grams rs)=.ok ({ b with lots:=b.lots++[⟨bs name,an (λx:WxKind=>x.name==bs kind) s.wax.kinds 0,grams,rs⟩] },joinL [jc (Wx.bj s.wax rs (an (λx:WxKind=>x.name==bs kind) s.wax.kinds 0)).2.1,aX (Wx.bj s.wax rs (an (λx:WxKind=>x.name==bs kind) s.wax.kinds 0)).1.lo,aX (Wx.bj s.wax rs (an (λx:WxKind=>x.name==bs kind) s.wax.kinds 0)).1.hi]):=by
  simp only[aH,if_neg i,if_neg z,if_neg v,if_neg E,if_neg O]
 simp only[M,J3,aD,go_sem,simprocAttr];refine And.intro (.inr ⟨3,_,rfl,rfl⟩) ?_;have l:∀w:List UInt8,w.length<=1000->af TP 96 [.slice 1 ([Word.s w,.n (Wx.bj s.wax rs (an (λx:WxKind=>x.name==bs kind) s.wax.kinds 0)).1.lo,.n (Wx.bj s.wax rs (an (λx:WxKind=>x.name==bs kind) s.wax.kinds 0)).1.hi].map Word.pv) true] _:=λw hw=>rp [.s w,.n (Wx.bj s.wax rs (an (λx:WxKind=>x.name==bs kind) s.wax.kinds 0)).1.lo,.n (Wx.bj s.wax rs (an (λx:WxKind=>x.name==bs kind) s.wax.kinds 0)).1.hi] true (by simp) (λx hx=>by
  simp only[br,dP,or_false]at hx;rcases hx with rfl|rfl|rfl
  .exact hw
  .exact V
  .exact U)
 by_cases v1:(Wx.bj s.wax rs (an (λx:WxKind=>x.name==bs kind) s.wax.kinds 0)).2.1=1
 .have A:jc (Wx.bj s.wax rs (an (λx:WxKind=>x.name==bs kind) s.wax.kinds 0)).2.1=B3:=by rw[jc,if_pos v1]
  simp only[v1,J3,go_sem,simprocAttr];refine aa (l B3 (by decide)) rfl (zm ?_);exact jx (ex':=ex) (a:=joinL ([Word.s B3,.n (Wx.bj s.wax rs (an (λx:WxKind=>x.name==bs kind) s.wax.kinds 0)).1.lo,.n (Wx.bj s.wax rs (an (λx:WxKind=>x.name==bs kind) s.wax.kinds 0)).1.hi].flatMap Word.ws)) (by rw[j,A];rfl) [_,_] (congrArg (·++[_,_]) (J7 s b ex ⟨bs name,an (λx:WxKind=>x.name==bs kind) s.wax.kinds 0,grams,rs⟩).symm)
 have K:((Wx.bj s.wax rs (an (λx:WxKind=>x.name==bs kind) s.wax.kinds 0)).2.1==1)=false:=by simpa using v1
 by_cases v2:(Wx.bj s.wax rs (an (λx:WxKind=>x.name==bs kind) s.wax.kinds 0)).2.1=2
 .have A:jc (Wx.bj s.wax rs (an (λx:WxKind=>x.name==bs kind) s.wax.kinds 0)).2.1=tm:=by rw[jc,if_neg v1,if_pos v2]
  simp only[v2,J3,go_sem,simprocAttr];refine aa (l tm (by decide)) rfl (zm ?_);exact jx (ex':=ex) (a:=joinL ([Word.s tm,.n (Wx.bj s.wax rs (an (λx:WxKind=>x.name==bs kind) s.wax.kinds 0)).1.lo,.n (Wx.bj s.wax rs (an (λx:WxKind=>x.name==bs kind) s.wax.kinds 0)).1.hi].flatMap Word.ws)) (by rw[j,A];rfl) [_,_] (congrArg (·++[_,_]) (J7 s b ex ⟨bs name,an (λx:WxKind=>x.name==bs kind) s.wax.kinds 0,grams,rs⟩).symm)
 have J:((Wx.bj s.wax rs (an (λx:WxKind=>x.name==bs kind) s.wax.kinds 0)).2.1==2)=false:=by simpa using v2
 have A:jc (Wx.bj s.wax rs (an (λx:WxKind=>x.name==bs kind) s.wax.kinds 0)).2.1=vh:=by rw[jc,if_neg v1,if_neg v2]
 simp only[K,J,J3,go_sem,simprocAttr];refine aa (l vh (by decide)) rfl (zm ?_);exact jx (ex':=ex) (a:=joinL ([Word.s vh,.n (Wx.bj s.wax rs (an (λx:WxKind=>x.name==bs kind) s.wax.kinds 0)).1.lo,.n (Wx.bj s.wax rs (an (λx:WxKind=>x.name==bs kind) s.wax.kinds 0)).1.hi].flatMap Word.ws)) (by rw[j,A];rfl) [_,_] (congrArg (·++[_,_]) (J7 s b ex ⟨bs name,an (λx:WxKind=>x.name==bs kind) s.wax.kinds 0,grams,rs⟩).symm)
def pp{α}(p):∀(l) (k),an p l k<0\/∃(j:Nat) (x:α),an p l k=((k+j:Nat):Int)/\l[j]?=some x/\p x=true
 |[],k=>.inl (by simp[an])
 |y::l,k=>by
  rw[an];split
  .rename_i h;exact .inr ⟨0,y,by simp,rfl,h⟩
  .rcases pp p l (k+1) with h|⟨j,x,q,i,e⟩
   .exact .inl h
   .exact .inr ⟨j+1,x,by rw[q];congr 1;omega,by simpa using i,e⟩
def RA(s)(b:ChBooks)(ex)(e)(t):B7 s { b with lots:=e,batches:=b.batches++[t] } ex =
  [.dead,.dead,.row 23 [.agg ([.slice 3 e.length 0 e.length,.slice 4 (b.batches.length+1+ex.length) 0 (b.batches.length+1),.slice 5 b.tests.length 0 b.tests.length,.slice 6 b.boxes.length 0 b.boxes.length,.p (.int .i64 b.poured),.p (.int .i64 b.lost)]++s.cells.map .p)],
  .row 4 (e.map dI),.row 4 (b.batches.map bD++[.p t.pv]++ex.map .p),.row 3 (b.tests.map er),.row 2 (b.boxes.map jK)]:=by
 simp only[B7,ak,aK,aS,bf,bx,bD]
def o3(l:List ChBatch)(ex):(l.map ChBatch.pv++ex).take l.length=l.map ChBatch.pv:=eX (by simp)
def Xk(s)(b:ChBooks)(e)(t):B7 s { b with lots:=e,batches:=b.batches++[t] } [] =
  [.dead,.dead,.row 23 [.agg ([.slice 3 e.length 0 e.length,.slice 4 (b.batches.length+1) 0 (b.batches.length+1),.slice 5 b.tests.length 0 b.tests.length,.slice 6 b.boxes.length 0 b.boxes.length,.p (.int .i64 b.poured),.p (.int .i64 b.lost)]++s.cells.map .p)],
  .row 4 (e.map dI),.row 4 (b.batches.map bD++[.p t.pv]),.row 3 (b.tests.map er),.row 2 (b.boxes.map jK)]:=by
 rw[RA,bx,bI];rfl
def TU:Hints:=dx [(77,.low),(89,.app 82),(5000001,.app 6)]
def ZF:cu TU f172=true:=by kernel_rfl
def Ya(s)(b)(ex)(n)(hs:SOk s)(M:BkOk s b n)(name colour lot)(grams):aw TP 172 [.ptr 2 1 0 0,.p (.str (bs name)),.p (.str (bs colour)),.p (.str (bs lot)),.p (.int .i64 grams)] (B7 s b ex) (mo s b ex (aH s b (.batch name colour lot grams))):=by
 have hl:=M.batches;have a2:=M.lots;refine ci (dv (by kernel_rfl) rfl ZF) rfl ?_;simp only[ChShop.cells,go_sem,simprocAttr];refine bq (Dm (fv:=.func (.func 237) [] [.ptr 1 [.str (bs name)] 0 0]) b.batches (λy=>y.name==bs name) false 4 rfl (by omega) λy _=>⟨_,_,_,rfl,N9 (bs name) y⟩) ?_ (.bool _) ?_
 .refine zm ?_;rw[o3]
 refine zm ?_;refine az (λO=>?_) (λO=>?_);rotate_left
 .have i:(b.batches.any λy=>y.name==bs name)=true:=by simpa using O
  refine zm ?_;exact ez (e:=5) (by simp only[aH,if_pos i]) [_] rfl
 have i:¬(b.batches.any λy=>y.name==bs name)=true:=by
  intro h;rw[h]at O;cases O
 refine zm ?_;by_cases q:an (λx:ClColour=>x.name==bs colour) s.colour.colours 0<0
 .refine t6 (XO s.colour.colours (bs colour) false hs.colours q) rfl (o9 _) (zm ?_);exact ez (e:=4) (by simp only[aH,if_neg i,if_pos q]) [_] rfl
 refine aa (YO s.colour.colours (bs colour) false hs.colours (by omega)) rfl (zm ?_);rcases pp (λx:ChLot=>x.name==bs lot) b.lots 0 with N|⟨j,x,D,hx,_⟩
 .refine t6 (XM b.lots (bs lot) false (by omega) N) ?_ (o9 _) ?_
  .simp[go_sem]
  refine zm ?_;exact ez (e:=4) (by simp only[aH,if_neg i,if_neg q,if_pos N]) [_] rfl
 rw[gZ]at D;have a3:j<b.lots.length:=(aC.1 hx).1;have G:(j:Int)<(b.lots.length:Int):=by omega
 have N:¬an (λx:ChLot=>x.name==bs lot) b.lots 0<0:=by rw[D];omega
 have C:¬(j:Int)<0:=by omega
 have I:=YN b.lots (bs lot) false (by omega) (by omega);rw[D]at I;refine bq I ?_ (.int _ _) ?_
 .simp[go_sem]
 by_cases E:1<=grams/\grams<=100000;rotate_left
 .have ha:aH s b (.batch name colour lot grams)=.error 7:=by simp only[aH,if_neg i,if_neg q,if_neg N,if_pos E]
  by_cases L:1<=grams
  .have U:decide (grams<=100000)=false:=by simpa using λh=>E ⟨L,h⟩
   have u:decide (1<=grams)=true:=by simpa using L
   refine zo u U ?_;refine az (λh=>by cases h) (λ_=>?_);refine zm ?_;exact ez (e:=7) ha [_] rfl
  .have u:decide (1<=grams)=false:=by simpa using L
   refine zn u ?_;refine az (λh=>by cases h) (λ_=>?_);refine zm ?_;exact ez (e:=7) ha [_] rfl
 have A:¬¬(1<=grams/\grams<=100000):=λh=>h E;have hA:dI x=.p x.pv:=rfl;refine zo E.1 E.2 ?_;refine az (λ_=>?_) (λh=>by cases h);refine zp G hx hA ?_;refine az (λS=>?_) (λS=>?_);rotate_left
 .have z:¬grams<=x.grams:=by simpa using S
  refine zm ?_;exact ez (e:=9) (by simp only[aH,if_neg i,if_neg q,if_neg A,D,if_neg C,gX,hx,if_pos z]) [_] rfl
 have z:grams<=x.grams:=by simpa using S
 have J:¬¬grams<=x.grams:=λh=>h z;refine zm ?_;refine az (λR=>?_) (λR=>?_);rotate_left
 .have v:¬b.batches.length<7:=by simp at R;omega
  refine zm ?_;exact ez (e:=3) (by simp only[aH,if_neg i,if_neg q,if_neg A,D,if_neg C,gX,hx,if_neg J,if_pos v]) [_] rfl
 have v:b.batches.length<7:=by simp at R;omega
 have a1:¬¬b.batches.length<7:=λh=>h v;have L:=M.grams x (aB hx);have hw:i64.wrap (x.grams-grams)=x.grams-grams:=ah (by omega) (by have:=M.few;omega);have l:aH s b (.batch name colour lot grams)=.ok ({ b with lots:=b.lots.set j { x with grams:=x.grams-grams },batches:=b.batches++[⟨bs name,an (λx:ClColour=>x.name==bs colour) s.colour.colours 0,(j:Int),grams⟩] },vg):=by
  simp only[aH,if_neg i,if_neg q,if_neg A,D,if_neg C,gX,hx,if_neg J,if_neg a1]
 have T:b.batches.length+1<=ai:=by simp only[ai];omega
 have K:(b.lots.map dI).set j (.p (.agg [.str x.name,.int .i64 x.kind,.int .i64 (x.grams-grams),.slice 1 (x.readings.map ay) false]))=(b.lots.set j { x with grams:=x.grams-grams }).map dI:=by rw[we];rfl
 have F:(b.lots.set j { x with grams:=x.grams-grams }).length=b.lots.length:=wh;refine t_ G hx hA hw K ?_
 cases ex with
 |nil=>
  simp only[TU,aD,bx,bI,bS,kx,T,go_sem,simprocAttr];refine And.intro (.inr ⟨4,_,rfl,rfl⟩) ?_;refine jx (ex':=[]) l [.row 1 [.p (.str (bs name))]] ?_
  rw[Xk,F];rfl
 |cons e ex=>
  have a0:(b.batches.map bD++AV.p e::ex.map AV.p).length=b.batches.length+(ex.length+1):=by simp
  have Z:(b.batches.length=b.batches.length+(ex.length+1))=False:=eq_false (by omega);have Y:(b.batches.map bD++AV.p e::ex.map AV.p).take b.batches.length=b.batches.map bD:=eX (by simp);have X:(b.batches.map bD++AV.p e::ex.map AV.p).drop (b.batches.length+1)=ex.map AV.p:=by
   rw[List.drop_append];simp
  have V:b.batches.length+1<=b.batches.length+(ex.length+1):=by omega
  simp only[TU,aD,bc,a0,Z,Y,X,V,go_sem,simprocAttr];refine And.intro (.inr ⟨4,_,rfl,rfl⟩) ?_;refine jx (ex':=ex) l [.row 1 [.p (.str (bs name))]] ?_;rw[RA,F,show b.batches.length+1+ex.length=b.batches.length+(ex.length+1) by omega];rfl
def rz:PV:=.agg [.str .empty,.int .i64 0,.int .i64 0,.int .i64 0]
def VA(l:List ChBatch)(ex:List PV)(i id)(h)(hid:h[id]?=some (.row 4 (l.map bD++ex.map .p)))(hi:i<l.length)(hlen:l.length<=7) :
  aw TP 244 [.slice id (l.length+ex.length) 0 l.length,.p (.int .i64 i),.p (.int .i64 (i+1:Nat))] h
   (λr h'=>r=.ret (.slice id (l.length+ex.length) 0 (l.length-1))/\h'=h.set id (.row 4 ((l.eraseIdx i).map bD++.p rz::ex.map .p))):=by
 refine au (ag func244 rfl) rfl ?_;have h1:(i:Int)<=((i+1:Nat):Int):=by omega
 have h2:((i+1:Nat):Int)<=(l.length:Int):=by omega
 have h2e:((i+1:Nat):Int)<=((l.length+ex.length:Nat):Int):=by omega
 have h3:((i:Int)==((i+1:Nat):Int))=false:=by simp;omega
 have h0:(0:Int)<=(i:Int):=by omega
 have h4:(0:Int)+(l.length:Int)<=((l.length+ex.length:Nat):Int):=by omega
 have h4b:(l.length:Int)<=((l.length+ex.length:Nat):Int):=by omega
 have h5:(i:Int)<=(l.length:Int):=by omega
 have h5e:(i:Int)<=((l.length+ex.length:Nat):Int):=by omega
 have h6:i+1+(l.length-(i+1))<=l.length+ex.length:=by omega
 have h7:¬(i=l.length+ex.length):=by omega
 have hys:List.take (l.length-(i+1)) (List.drop (i+1) (l.map bD++ex.map .p))=(l.drop (i+1)).map bD:=by
  rw[Xm (by rw[dQ];omega),<-List.map_drop,eX (by simp)]
 have h8:i+(l.length-(i+1))=l.length-1:=by omega
 have h9:l.length-1<=l.length+ex.length:=by omega
 obtain⟨z,hz⟩:∃z,List.drop (l.length-1) (l.map bD++ex.map .p)=z::ex.map AV.p:=by
  have:(List.drop (l.length-1) (l.map bD)).length=1:=by simp;omega
  match hd:List.drop (l.length-1) (l.map bD),this with
  |[z],_=>
   refine⟨z,?_⟩;rw[Xm (by rw[dQ];omega),hd];rfl
 have htk0:List.take i (l.map bD++ex.map AV.p)=(l.take i).map bD:=by rw[List.take_append_of_le_length (by rw[dQ];omega),B0]
 have her:(l.take i).map bD++((l.drop (i+1)).map bD++z::ex.map AV.p)=(l.eraseIdx i).map bD++z::ex.map AV.p:=by
  rw[<-dD,<-aS,Ms]
 have hel:(l.eraseIdx i).length=l.length-1:=by rw[wi,if_pos hi]
 have hgs:∀x,(h.set id x)[id]?=some x:=λx=>by rw[jp (aC.1 hid).1]
 have h10:((l.length-1:Nat):Int)<=(l.length:Int):=by omega
 have h10e:((l.length-1:Nat):Int)<=((l.length+ex.length:Nat):Int):=by omega
 have h11:(0:Int)<=((l.length-1:Nat):Int):=by omega
 have h12:l.length-1+1=l.length:=by omega
 have h13:l.length-(l.length-1)=1:=by omega
 have h14:l.length-1+(l.length-(l.length-1))<=l.length+ex.length:=by omega
 have h15:¬((l.length:Int)<=((l.length-1:Nat):Int)):=by omega
 have h16:l.length<=l.length+ex.length:=by omega
 have hle2:((l.eraseIdx i).map bD++z::ex.map AV.p).length=l.length+ex.length:=by simp[hel];omega
 have hle3:(l.length-1+(ex.length+1))=l.length+ex.length:=by omega
 have htk:List.take (l.length-1) (List.map bD (l.eraseIdx i)++z::ex.map AV.p)=List.map bD (l.eraseIdx i):=eX (by rw[dQ,hel]);have ol:List.drop l.length (List.map bD (l.eraseIdx i)++z::ex.map AV.p)=ex.map AV.p:=by
  rw[List.drop_append,Mt (by rw[dQ,hel];omega),dQ,hel,h13];rfl
 simp only[h15,htk,ol,hid,h0,h1,h2,h3,h4,h5,h6,h7,hys,h8,h9,hz,htk0,her,hgs,h10,h11,h12,h13,h16,hle2,Md,Nat.sub_zero,gZ,List.length_drop,dD,sn,GR,GQ,rz,go_sem,simprocAttr];rfl
def Xj(s)(b:ChBooks)(ex)(e)(j)(i:j<b.batches.length):B7 s { b with lots:=e,batches:=b.batches.eraseIdx j } (rz::ex) =
  [.dead,.dead,.row 23 [.agg ([.slice 3 e.length 0 e.length,.slice 4 (b.batches.length+ex.length) 0 (b.batches.length-1),.slice 5 b.tests.length 0 b.tests.length,.slice 6 b.boxes.length 0 b.boxes.length,.p (.int .i64 b.poured),.p (.int .i64 b.lost)]++s.cells.map .p)],
  .row 4 (e.map dI),.row 4 ((b.batches.eraseIdx j).map bD++.p rz::ex.map .p),.row 3 (b.tests.map er),.row 2 (b.boxes.map jK)]:=by
 have q:(b.batches.eraseIdx j).length=b.batches.length-1:=by rw[wi,if_pos i]
 have l:b.batches.length-1+(ex.length+1)=b.batches.length+ex.length:=by omega
 simp only[B7,q,bc,l,bf]
def zag(s)(b)(ex)(n)(S:SOk s)(i:BkOk s b n)(name):aw TP 174 [.ptr 2 1 0 0,.p (.str (bs name))] (B7 s b ex) (mo s b ex (aH s b (.drop name))):=by
 have M:=i.batches;have R:=i.lots;refine ci (ag func174 rfl) rfl ?_;simp only[ChShop.cells,go_sem,simprocAttr];rcases pp (λx:ChBatch=>x.name==bs name) b.batches 0 with L|⟨j,y,A,z,_⟩
 .refine t6 (XL b.batches (bs name) false (by omega) L) ?_ (o9 _) ?_
  .refine zm ?_;rw[o3]
  refine zm ?_;exact ez (e:=4) (by simp only[aH,if_pos L]) [] (bI _).symm
 rw[gZ]at A;have l:j<b.batches.length:=(aC.1 z).1;have J:(j:Int)<(b.batches.length:Int):=by omega
 have F:¬(j:Int)<0:=by omega
 have q:=YM b.batches (bs name) false (by omega) (by omega);rw[A]at q;refine bq q ?_ (.int _ _) ?_
 .refine zm ?_;rw[o3]
 have C:=zt z ex;obtain⟨⟨X,V⟩,⟨O,U⟩,_⟩:=i.waits y (aB z);obtain⟨k,K⟩:=na O;have G:k<b.lots.length:=by omega
 obtain⟨x,hx⟩:∃x,b.lots[k]?=some x:=⟨_,bL G⟩
 have I:(k:Int)<(b.lots.length:Int):=by omega
 have N:dI x=.p x.pv:=rfl;have T:=i.grams x (aB hx);have hw:i64.wrap (x.grams+y.grams)=x.grams+y.grams:=ah (by omega) (by have:=i.few;omega);have D:i64.wrap ((j:Int)+1)=((j+1:Nat):Int):=by rw[ah];rfl
 have u:(b.lots.map dI).set k (.p (.agg [.str x.name,.int .i64 x.kind,.int .i64 (x.grams+y.grams),.slice 1 (x.readings.map ay) false]))=(b.lots.set k { x with grams:=x.grams+y.grams }).map dI:=by rw[we];rfl
 have E:(b.lots.set k { x with grams:=x.grams+y.grams }).length=b.lots.length:=wh;have v:aH s b (.drop name)=.ok ({ b with lots:=b.lots.set k { x with grams:=x.grams+y.grams },batches:=b.batches.eraseIdx j },vg):=by
  simp only[aH,A,if_neg F,gX,z,K,hx]
 simp only[J,C,K,I,hx,N,hw,u,D,go_sem,simprocAttr];refine cw (VA b.batches ex j 4 _ rfl l M) (zm ?_);refine jx (ex':=rz::ex) v [] ?_;rw[Xj _ _ _ _ _ l,E];rfl
end Ch
end Abs
end Go.Proofs.YtgafommgcfhkkaaGreatDoor
