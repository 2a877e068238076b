/- CONTRACTS of the program's functions, and laws on what they return. No conditions but those in the theorems' heads. -/
import Derived.Test.YtmndpldajflenaaGreatDoorBdChkX
set_option linter.all false
set_option maxHeartbeats 1000000
open Go.Proofs.Tryz renaming prog->TP
open Go.Proofs.Tryz
namespace Go.Proofs.YtmndpldajflenaaGreatDoor
namespace Abs
set_option maxRecDepth 4000
structure BdWaxOk (x:BdWax):Prop where
 price:0<=x.price/\x.price<=100000
 melt:0<=x.melt.lo/\x.melt.lo<=x.melt.hi/\x.melt.hi<=2000
 shrink:0<=x.shrink.lo/\x.shrink.lo<=x.shrink.hi/\x.shrink.hi<=1000
 curve:CurveOk x.curve
structure BdWaxesOk (l:List BdWax):Prop where
 len:1<=l.length/\l.length<=5
 wax:∀x,x∈l->BdWaxOk x
def wK (l:List BdWax):Int:=(bdCheck l).2.2
theorem Jx{a}{x}(h:bM a x=0):BdWaxOk x/\ai a x.name=0:=by
 unfold bM at h;split at h
 .rename_i e;split at h
  .rename_i j;split at h
   .cases h
   .rename_i i;simp[ak,ci,aJ]at j i;exact⟨⟨by omega,by omega,by omega,I7 h⟩,e⟩
  .cases h
 .rename_i e;exact absurd h e
theorem iF{α}{f:List ByteArray->α->Int}{e}:∀{l} {a},firstErr f e l a=none->∀x,x∈l->∃b,f b x=0
 |[],_,_,_,hx=>by cases hx
 |y::r,a,h,x,hx=>by
  rw[firstErr]at h;split at h
  .rename_i i;rcases ce.1 hx with rfl|hx
   .exact⟨_,i⟩
   .exact iF h x hx
  .cases h
theorem wx{α}{f:List ByteArray->α->Int}{j}:∀{l} {a} {i e},firstErr f j l a=some (i,e)->e≠0
 |[],_,_,_,h=>by cases h
 |y::r,a,i,e,h=>by
  rw[firstErr]at h;split at h
  .exact wx h
  .rename_i o;cases h;exact o
theorem LZ{l}(h:wK l=0):(1<=l.length/\l.length<=5)/\firstErr bM (·.name) l []=none:=by
 unfold wK bdCheck at h;split at h
 .rename_i j;refine⟨by simp[ak]at j;omega,?_⟩
  cases a:firstErr bM (·.name) l [] with
  |none=>rfl
  |some q=>
   obtain⟨i,e⟩:=q;rw[a]at h;exact absurd h (wx a)
 .cases h
theorem u9{l}(h:wK l=0):BdWaxesOk l:=by
 obtain⟨i,e⟩:=LZ h;exact⟨i,λx hx=>let ⟨b,a⟩:=iF e x hx;(Jx a).1⟩
structure RecOk (m:Nat) (r:List Int):Prop where
 len:r.length=m
 rng:∀n,n∈r->0<=n/\n<=20
 sum:r.sum=20
def uj {α:Type} (f:Nat->α->Int):List α->Nat->Int
 |[],_=>0
 |x::r,i=>f i x+uj f r (i+1)
theorem GQ{α}(f:α->Int):∀(l) (i),uj (λ_ x=>f x) l i=(l.map f).sum
 |[],_=>rfl
 |x::r,i=>by rw[uj,GQ f r,bK,List.sum_cons]
def cF (p:BdWax×Int):PV:=.agg [.str p.1.name,.int .i64 p.1.price,.int .i64 p.1.melt.lo,.int .i64 p.1.melt.hi,.int .i64 p.1.shrink.lo,.int .i64 p.1.shrink.hi,.slice 2 (p.1.curve.map BdPoint.pv) false,.int .i64 p.2]
attribute [go_sem] cF
theorem QL{fv}(l)(f)(b)(sz)(j:sz=8)(z:l.length<=1000)(u:∀(i:Nat) x,l[i]?=some x->jj TP fv [.int .i64 i,cF x] (.int .i64 (f i x))/\-1000000000<=f i x/\f i x<=1000000000) :
  af TP 397 [.slice sz (l.map cF) b,fv] (.int .i64 (uj f l 0)):=by
 subst j;refine aa (ag func397 rfl) rfl ?_;simp only[go_sem,simprocAttr];refine ej [1,7,8] l (by omega) (τ:=Int) (λa rest n=>uj f l 0=n+uj f rest a.length/\-1000000000*(a.length:Int)<=n/\n<=1000000000*(a.length:Int)) (λa n=>[(9,.p (.int .i64 a.length)),(4,.p (.int .i64 n))]) 0 ⟨by simp,by simp,by simp⟩ ?_ ?_ ?_
 .simp only[go_sem,simprocAttr]<;>simp
 .rintro n ⟨e,_⟩
  simp only[go_sem,simprocAttr];rw[e];simp[uj]
 .rintro a x r n y ⟨e,E,D⟩ hx q o
  obtain⟨⟨g,first,cap,rfl,v⟩,C,A⟩:=u _ _ hx;simp only[q,decide_true,hx,cF,go_sem,simprocAttr];refine ae v (by simp[cF]) ?_;have hw:IntKind.i64.wrap (n+f a.length x)=n+f a.length x:=am (by omega) (by omega);simp only[hw,go_sem,simprocAttr];refine aD y (n+f a.length x) ⟨by rw[e,uj];simp;omega,by simp;omega,by simp;omega⟩ ?_;simp only[o,go_sem,simprocAttr]
abbrev Ps:=List (BdWax×Int)
structure PsOk (ps:Ps):Prop where
 len:ps.length<=5
 wax:∀p,p∈ps->BdWaxOk p.1/\0<=p.2/\p.2<=20
def cY (f:BdWax×Int->Int) (ps:Ps):Int:=(ps.map f).sum
def lq (p:BdWax×Int):Int:=p.2*p.1.melt.lo
def lr (p:BdWax×Int):Int:=p.2*p.1.melt.hi
def kZ (p:BdWax×Int):Int:=p.2*p.1.shrink.lo
def nb (p:BdWax×Int):Int:=p.2*p.1.shrink.hi
def jA (p:BdWax×Int):Int:=p.2*p.1.price
def gz (p:BdWax×Int):Int:=20*pp p.1.curve p.2
theorem Fe(n):∀(r) (a),(0<=a.parts/\a.parts<=20/\-300<=a.add/\a.add<=300)->(∀p,p∈r->0<=p.parts/\p.parts<=20/\-300<=p.add/\p.add<=300)->a.parts<=n->(a::r).Pairwise (λa b=>a.parts<b.parts)->-300<=kz a r n/\kz a r n<=300
 |[],a,o,_,_,_=>by rw[kz];omega
 |b::r,a,o,e,q,i=>by
  rw[kz];have l:a.parts<b.parts:=by cases i with|cons h _=>exact h b (by simp)
  split
  .rename_i h;obtain⟨_,_,v,u⟩:=G5 o (e b (by simp)) q h l;have y:=e b (by simp);rcases HW a.add b.add with j|j
   .have:=v j;omega
   .have:=u j;omega
  .rename_i h;exact Fe n r b (e b (by simp)) (λp i=>e p (by simp[i])) (by omega) (by cases i with|cons _ h=>exact h)
theorem QV{c}(h:CurveOk c)(n):-300<=pp c n/\pp c n<=300:=by
 cases c with
 |nil=>simp[pp]
 |cons a r=>
  have i:=h.pt a (by simp);rw[pp];split
  .omega
  .exact Fe n r a i (λp e=>h.pt p (by simp[e])) (by omega) h.up
theorem dR{p}(h:BdWaxOk p.1/\0<=p.2/\p.2<=20):(0<=lq p/\lq p<=40000)/\(0<=lr p/\lr p<=40000)/\(0<=kZ p/\kZ p<=20000)/\(0<=nb p/\nb p<=20000)/\(0<=jA p/\jA p<=2000000)/\-6000<=gz p/\gz p<=6000:=by
 obtain⟨hw,e,a⟩:=h;have o:=hw.melt;have l:=hw.shrink;have j:=hw.price;have i:=QV hw.curve p.2;refine⟨j6 (B:=2000) e a (by omega) (by omega),j6 (B:=2000) e a (by omega) (by omega),j6 (B:=1000) e a (by omega) (by omega),j6 (B:=1000) e a (by omega) (by omega),j6 (B:=100000) e a (by omega) (by omega),?_⟩;unfold gz;omega
theorem zZ{f}{a b}:∀{ps},(∀p,p∈ps->a<=f p/\f p<=b)->a*(ps.length:Int)<=cY f ps/\cY f ps<=b*(ps.length:Int)
 |[],_=>by simp[cY]
 |p::ps,h=>by
  have i:=zZ (f:=f) (ps:=ps) λq e=>h q (by simp[e]);have j:=h p (by simp);simp only[cY,bK,List.sum_cons,dB]at i |-;have o:a*((ps.length+1:Nat):Int)=a*(ps.length:Int)+a:=by rw[Int.natCast_add,Int.mul_add];simp
  have l:b*((ps.length+1:Nat):Int)=b*(ps.length:Int)+b:=by rw[Int.natCast_add,Int.mul_add];simp
  omega
theorem A7{f}{b}{ps}(i:ps.length<=5)(a:0<=b)(h:∀p,p∈ps->-b<=f p/\f p<=b):-(5*b)<=cY f ps/\cY f ps<=5*b:=by
 obtain⟨l,j⟩:=zZ h;have:b*(ps.length:Int)<=b*5:=sA (by omega) a;have e:(-b)*(ps.length:Int)=-(b*(ps.length:Int)):=C5 _ _;omega
theorem Ct(p)(h:BdWaxOk p.1/\0<=p.2/\p.2<=20):af TP 424 [cF p] (.int .i64 (lq p)):=by
 refine aa (ag func424 rfl) rfl ?_;have a:=dR h;have hw:IntKind.i64.wrap (lq p)=lq p:=am (by omega) (by omega);unfold lq at hw |-;simp only[hw,go_sem,simprocAttr]
theorem Cu(p)(h:BdWaxOk p.1/\0<=p.2/\p.2<=20):af TP 425 [cF p] (.int .i64 (lr p)):=by
 refine aa (ag func425 rfl) rfl ?_;have a:=dR h;have hw:IntKind.i64.wrap (lr p)=lr p:=am (by omega) (by omega);unfold lr at hw |-;simp only[hw,go_sem,simprocAttr]
theorem Gm(p)(h:BdWaxOk p.1/\0<=p.2/\p.2<=20):af TP 426 [cF p] (.int .i64 (kZ p)):=by
 refine aa (ag func426 rfl) rfl ?_;have a:=dR h;have hw:IntKind.i64.wrap (kZ p)=kZ p:=am (by omega) (by omega);unfold kZ at hw |-;simp only[hw,go_sem,simprocAttr]
theorem Jf(p)(h:BdWaxOk p.1/\0<=p.2/\p.2<=20):af TP 427 [cF p] (.int .i64 (nb p)):=by
 refine aa (ag func427 rfl) rfl ?_;have a:=dR h;have hw:IntKind.i64.wrap (nb p)=nb p:=am (by omega) (by omega);unfold nb at hw |-;simp only[hw,go_sem,simprocAttr]
theorem Gl(p)(h:BdWaxOk p.1/\0<=p.2/\p.2<=20):af TP 368 [cF p] (.int .i64 (jA p)):=by
 refine aa (ag func368 rfl) rfl ?_;have a:=dR h;have hw:IntKind.i64.wrap (jA p)=jA p:=am (by omega) (by omega);unfold jA at hw |-;simp only[hw,go_sem,simprocAttr]
theorem Gk(p)(h:BdWaxOk p.1/\0<=p.2/\p.2<=20):af TP 428 [cF p] (.int .i64 (gz p)):=by
 refine aa (ag func428 rfl) rfl ?_;have a:=dR h;have hw:IntKind.i64.wrap (gz p)=gz p:=am (by omega) (by omega);unfold gz at hw |-;simp only[go_sem,simprocAttr];refine ae (S7 p.1.curve false p.2 h.1.curve) rfl ?_;simp only[hw,go_sem,simprocAttr]
def rj:AV:=.p (.agg [.str ⟨#[]⟩,.int .i64 0,.int .i64 0,.int .i64 0,.int .i64 0,.int .i64 0,.nilslice,.int .i64 0])
def iA (ps done:Ps):List AV:=(done.map λp=>.p (cF p))++List.replicate (ps.length-done.length) rj
theorem BY{ps a r}{x}(h:ps=a++x::r):(iA ps a).length=ps.length:=by subst h;simp[iA]
theorem BZ{ps a r}{x}(h:ps=a++x::r):(iA ps a)[a.length]?=some rj:=by
 subst h;unfold iA;rw[cG (by simp)];simp
theorem BX{ps a r}{x}(h:ps=a++x::r):(iA ps a).set a.length (.p (cF x))=iA ps (a++[x]):=by
 subst h;have e:(a++x::r).length-a.length=((a++x::r).length-(a++[x]).length)+1:=by simp<;>omega
 unfold iA;rw[sH _ _ (by simp),e,vt];simp
theorem wH(n)(ps a):(∀x,x∈iA ps a->below n x)=True:=by
 refine eq_true λx hx=>?_;rcases ck.1 hx with h|h
 .obtain⟨p,_,rfl⟩:=cX.1 h;trivial
 .rw[List.eq_of_mem_replicate h];trivial
def p8 (ps:Ps):PV:=.slice 8 (ps.map cF) false
attribute [go_sem] p8
theorem S6(ps)(A z)(C:ps.length<=5):af TP 367 [.slice 7 (ps.map λp=>p.1.pv) A,.slice 1 (ps.map λp=>aI p.2) z] (p8 ps):=by
 refine dd (ag func367 rfl) rfl ?_;have j:((ps.length:Nat):Int)<=(ao:Int):=by simp[ao];omega
 have e:List.replicate ps.length rj=iA ps []:=by simp[iA]
 simp only[rj]at e;simp only[j,o9,e,go_sem,simprocAttr];refine bg [1,5,11,12] ps (by omega) (τ:=Unit) (λ_ _ _=>True) (λa _=>[(13,.p (.int .i64 a.length))]) (λa _=>[.row 8 (iA ps a)]) () trivial ?_ ?_ ?_
 .simp only[wH,go_sem,simprocAttr]
 .intro _ _;have q:(iA ps ps)=ps.map λp=>.p (cF p):=by simp[iA]
  simp only[cF]at q;simp only[q,go_sem,simprocAttr];rfl
 .intro a x r _ i _ hx o l;have y:=BY i;have v:=BZ i;have u:=BX i;simp only[rj]at v;simp only[cF]at u;simp only[o,hx,y,v,u,go_sem,simprocAttr];refine aD i () trivial ?_;simp only[l,wH,go_sem,simprocAttr]
theorem Qj{a}(i)(p)(v)(h:jj TP a [cF p] (.int .i64 v)):af TP 398 [.int .i64 i,cF p,.ptr 1 [a] 0 0] (.int .i64 v):=by
 refine aa (ag func398 rfl) rfl ?_;obtain⟨g,first,cap,rfl,e⟩:=h;simp only[go_sem,simprocAttr];refine ae e (by simp[cF]) ?_;simp only[go_sem,simprocAttr]
theorem si{e}(ps)(f)(b)(l:ps.length<=5)(a:∀p,p∈ps->jj TP e [cF p] (.int .i64 (f p))/\-1000000000<=f p/\f p<=1000000000)(j:∃g first cap,e=.func (.func g) first cap) :
  af TP 366 [.slice 8 (ps.map cF) b,e] (.int .i64 (cY f ps)):=by
 refine aa (ag func366 rfl) rfl ?_;obtain⟨g,first,cap,rfl⟩:=j;simp only[go_sem,simprocAttr];refine aU (QL (fv:=.func (.func 398) [] [.ptr 1 [.func (.func g) first cap] 0 0]) ps (λ_ p=>f p) b 8 rfl (by omega) λi p hi=>⟨⟨_,_,_,rfl,Qj i p _ (a p (aG hi)).1⟩,(a p (aG hi)).2⟩) ?_ (.int _ _) ?_
 .simp only[go_sem,simprocAttr]
 .simp only[go_sem,simprocAttr];rw[GQ];rfl
theorem Ay(ps)(b)(h:PsOk ps):af TP 366 [.slice 8 (ps.map cF) b,.func (.func 424) [] []] (.int .i64 (cY lq ps)):=
 si ps lq b h.len (λp a=>⟨⟨_,_,_,rfl,Ct p (h.wax p a)⟩,by have:=dR (h.wax p a);omega⟩) ⟨_,_,_,rfl⟩
theorem Az(ps)(b)(h:PsOk ps):af TP 366 [.slice 8 (ps.map cF) b,.func (.func 425) [] []] (.int .i64 (cY lr ps)):=
 si ps lr b h.len (λp a=>⟨⟨_,_,_,rfl,Cu p (h.wax p a)⟩,by have:=dR (h.wax p a);omega⟩) ⟨_,_,_,rfl⟩
theorem EJ(ps)(b)(h:PsOk ps):af TP 366 [.slice 8 (ps.map cF) b,.func (.func 426) [] []] (.int .i64 (cY kZ ps)):=
 si ps kZ b h.len (λp a=>⟨⟨_,_,_,rfl,Gm p (h.wax p a)⟩,by have:=dR (h.wax p a);omega⟩) ⟨_,_,_,rfl⟩
theorem Ge(ps)(b)(h:PsOk ps):af TP 366 [.slice 8 (ps.map cF) b,.func (.func 427) [] []] (.int .i64 (cY nb ps)):=
 si ps nb b h.len (λp a=>⟨⟨_,_,_,rfl,Jf p (h.wax p a)⟩,by have:=dR (h.wax p a);omega⟩) ⟨_,_,_,rfl⟩
theorem u2(ps)(b)(h:PsOk ps):af TP 366 [.slice 8 (ps.map cF) b,.func (.func 368) [] []] (.int .i64 (cY jA ps)):=
 si ps jA b h.len (λp a=>⟨⟨_,_,_,rfl,Gl p (h.wax p a)⟩,by have:=dR (h.wax p a);omega⟩) ⟨_,_,_,rfl⟩
theorem EI(ps)(b)(h:PsOk ps):af TP 366 [.slice 8 (ps.map cF) b,.func (.func 428) [] []] (.int .i64 (cY gz ps)):=
 si ps gz b h.len (λp a=>⟨⟨_,_,_,rfl,Gk p (h.wax p a)⟩,by have:=dR (h.wax p a);omega⟩) ⟨_,_,_,rfl⟩
theorem GP{ps}(h:PsOk ps):(0<=cY lq ps/\cY lq ps<=200000)/\(0<=cY lr ps/\cY lr ps<=200000)/\(0<=cY kZ ps/\cY kZ ps<=100000)/\(0<=cY nb ps/\cY nb ps<=100000)/\(0<=cY jA ps/\cY jA ps<=10000000)/\-30000<=cY gz ps/\cY gz ps<=30000:=by
 have i:=h.len;have e:∀(f:BdWax×Int->Int) (b:Int),0<=b->(∀p,p∈ps->0<=f p/\f p<=b)->0<=cY f ps/\cY f ps<=5*b:=λf b l j=>by
  have q:=zZ j;have o:=(A7 (f:=f) i l λp a=>by have:=j p a;omega).2;omega
 refine⟨e _ 40000 (by omega) λp a=>(dR (h.wax p a)).1,e _ 40000 (by omega) λp a=>(dR (h.wax p a)).2.1,e _ 20000 (by omega) λp a=>(dR (h.wax p a)).2.2.1,e _ 20000 (by omega) λp a=>(dR (h.wax p a)).2.2.2.1,e _ 2000000 (by omega) λp a=>(dR (h.wax p a)).2.2.2.2.1,?_⟩;exact A7 (b:=6000) i (by omega) λp a=>(dR (h.wax p a)).2.2.2.2.2
def rm (ps:Ps):Span:=⟨cY lq ps+cY gz ps,cY lr ps+cY gz ps⟩
def jv (ps:Ps):Span:=⟨cY kZ ps,cY nb ps⟩
theorem vX(ps)(b)(h:PsOk ps):af TP 418 [.slice 8 (ps.map cF) b] (.tuple [(rm ps).pv,(jv ps).pv]):=by
 refine aa (eI (by kernel_rfl) rfl TV) rfl ?_;have i:=GP h;have e:IntKind.i64.wrap (cY lq ps+cY gz ps)=cY lq ps+cY gz ps:=am (by omega) (by omega);have a:IntKind.i64.wrap (cY lr ps+cY gz ps)=cY lr ps+cY gz ps:=am (by omega) (by omega);simp only[Tu,go_sem,simprocAttr];refine aY ?_;simp only[go_sem,simprocAttr];refine ae (Ay ps b h) rfl ?_;simp only[go_sem,simprocAttr];refine aY ?_;simp only[go_sem,simprocAttr];refine ae (Az ps b h) rfl ?_;simp only[go_sem,simprocAttr];refine aY ?_;simp only[go_sem,simprocAttr];refine ae (EJ ps b h) rfl ?_;simp only[go_sem,simprocAttr];refine aY ?_;simp only[go_sem,simprocAttr];refine ae (Ge ps b h) rfl ?_;simp only[go_sem,simprocAttr];refine aY ?_;simp only[go_sem,simprocAttr];refine ae (EI ps b h) rfl ?_;simp only[go_sem,simprocAttr];refine aY ?_;simp only[aO,e,a,rm,jv,go_sem,simprocAttr]
theorem zU{α β γ:Type}(f:α->γ){l:List α}{r:List β}(h:r.length=l.length):((l.zip r).map λp=>f p.1)=l.map f:=by
 rw[show (λp:α×β=>f p.1)=f∘Prod.fst from rfl,<-q6,List.map_fst_zip (by omega)]
theorem zT{α β γ:Type}(f:β->γ){l:List α}{r}(h:r.length=l.length):((l.zip r).map λp=>f p.2)=r.map f:=by
 rw[show (λp:α×β=>f p.2)=f∘Prod.snd from rfl,<-q6,List.map_snd_zip (by omega)]
theorem s2{l}{r}(a:BdWaxesOk l)(e:∀n,n∈r->0<=n/\n<=20):PsOk (l.zip r):=by
 refine⟨by have:=a.len;simp;omega,λp i=>?_⟩;obtain⟨x,n⟩:=p;obtain⟨o,j⟩:=List.of_mem_zip i;exact⟨a.wax x o,e n j⟩
theorem HA{l}{r}(i e)(j:BdWaxesOk l)(a:r.length=l.length):af TP 367 [.slice 7 (l.map BdWax.pv) i,.slice 1 (r.map aI) e] (p8 (l.zip r)):=by
 have h:=S6 (l.zip r) i e (by have:=j.len;simp;omega);rwa [zU BdWax.pv a,zT aI a]at h
theorem G6{l}(h:BdWaxesOk l):IntKind.i64.wrap ((l.length:Int)-1)=(l.length:Int)-1:=am (by omega) (by have:=h.len;omega)
def KL (a b:Bool):Int:=if a=true then 7 else if b=true then 2 else 0
def pV (w:BdWish):Bool:=!(ci w.melt 0 2000&&ci w.shrink 0 1000)
def ld (w:BdWish):Bool:=aJ w.melt||aJ w.shrink
def iD (l:List BdWax) (w:BdWish):Int:=
 if wK l=0 then
  if w.parts.length=l.length then KL (pV w||w.parts.any λs=>!ci s 0 20) (ld w||w.parts.any aJ)
  else 3
 else wK l
structure WishOk (m:Nat) (w:BdWish):Prop where
 len:w.parts.length=m
 melt:0<=w.melt.lo/\w.melt.lo<=w.melt.hi/\w.melt.hi<=2000
 shrink:0<=w.shrink.lo/\w.shrink.lo<=w.shrink.hi/\w.shrink.hi<=1000
 parts:∀s,s∈w.parts->0<=s.lo/\s.lo<=s.hi/\s.hi<=20
theorem A0{l}{w}(h:iD l w=0):BdWaxesOk l/\WishOk l.length w:=by
 unfold iD at h;split at h
 .rename_i a;split at h
  .rename_i o;refine⟨u9 a,?_⟩;unfold KL at h;split at h
   .cases h
   .rename_i j;split at h
    .cases h
    .rename_i e;simp[pV,ld,ci,ak,aJ]at j e;refine⟨o,by omega,by omega,λs i=>?_⟩;have:=j.2 s i;have:=e.2 s i;omega
  .cases h
 .rename_i a;exact absurd h a
theorem SO(l)(w):af TP 364 [fN l,w.pv] (.int .i64 (iD l w)):=by
 refine aa (ag func364 rfl) rfl ?_;simp only[go_sem,simprocAttr]
 (first|refine ae (xC l) rfl ?_|refine ax (xC l) rfl ?_)
 simp only[ah,go_sem,simprocAttr];refine aK (λC=>?_) (λC=>?_)
 .have e:¬wK l=0:=by simpa[wK]using C
  simp only[iD,if_neg e,go_sem,simprocAttr];rfl
 have e:wK l=0:=by simpa[wK]using C
 have hok:=(u9 e).len;simp only[go_sem,simprocAttr];refine aK (λD=>?_) (λD=>?_)
 .have:¬(w.parts.length=l.length):=by simp[bne]at D;omega
  simp only[iD,if_pos e,if_neg this,go_sem,simprocAttr]
 have v:w.parts.length=l.length:=by simp[bne]at D;omega
 have u:iD l w=KL (pV w||w.parts.any λs=>!ci s 0 20) (ld w||w.parts.any aJ):=by rw[iD,if_pos e,if_pos v]
 rw[u];have y:pV w=!(ak w.melt.lo 0 2000&&ak w.melt.hi 0 2000&&(ak w.shrink.lo 0 1000&&ak w.shrink.hi 0 1000)):=rfl;have A:ld w=(decide (w.melt.hi<w.melt.lo)||decide (w.shrink.hi<w.shrink.lo)):=rfl;simp only[go_sem,simprocAttr];cases E:decide (w.melt.hi<w.melt.lo)
 all_goals
  rw[E]at A;simp only[sC,l6]at A;simp only[go_sem,simprocAttr]
  (first|refine ae (jb 0 2000 [_,_] true (by simp)) rfl ?_|refine ax (jb 0 2000 [_,_] true (by simp)) rfl ?_)
  simp only[bJ,cb,cn,<-ko,go_sem,simprocAttr];cases F:(ak w.melt.lo 0 2000&&ak w.melt.hi 0 2000)
 all_goals
  rw[F]at y;simp only[zS,Bool.false_and,wR]at y;simp only[go_sem,simprocAttr]
  try
   (first|refine ae (jb 0 1000 [_,_] true (by simp)) rfl ?_|refine ax (jb 0 1000 [_,_] true (by simp)) rfl ?_)
   simp only[bJ,cb,cn,<-ko,<-y,go_sem,simprocAttr]
  refine bg [62,63] w.parts (by omega) (τ:=Bool×Bool) (λdone rest q=>(pV w||w.parts.any λs=>!ci s 0 20)=(q.1||rest.any λs=>!ci s 0 20)/\(ld w||w.parts.any aJ)=(q.2||rest.any aJ))
   (λdone q=>[(64,.p (.int .i64 done.length)),(8,.p (.bool q.2)),(9,.p (.bool q.1))]) (λ_ _=>[.row 5 [.p w.pv]]) (pV w,ld w) ⟨rfl,rfl⟩ ?_ ?_ ?_
  .simp only[y,A,go_sem,simprocAttr]<;>simp
  .rintro⟨a,b⟩ ⟨j,i⟩
   dsimp only at j i;rw[j,i];cases a<;>cases b<;>simp only[cb,KL,go_sem,simprocAttr]
  .rintro done x r ⟨a,b⟩ z ⟨j,i⟩ hx G o
   dsimp only at j i;rw[bJ]at j i;cases a<;>cases b<;>simp only[G,hx,go_sem,simprocAttr]
   all_goals
    try
     (first|refine ae (jb 0 20 [_,_] true (by simp)) rfl ?_|refine ax (jb 0 20 [_,_] true (by simp)) rfl ?_)
     simp only[bJ,cb,cn,<-ko,go_sem,simprocAttr]
    first
     |(refine aD z (!ci x 0 20,aJ x) ⟨by simpa using j,by simpa using i⟩ ?_
       simp only[o,ci,aJ,go_sem,simprocAttr];done)
     |(refine aD z (!ci x 0 20,true) ⟨by simpa using j,by simpa using i⟩ ?_
       simp only[o,ci,go_sem,simprocAttr];done)
     |(refine aD z (true,aJ x) ⟨by simpa using j,by simpa using i⟩ ?_
       simp only[o,aJ,go_sem,simprocAttr];done)
     |(refine aD z (true,true) ⟨by simpa using j,by simpa using i⟩ ?_
       simp only[o,go_sem,simprocAttr])
def nK (w:BdWish) (r:List Int):Bool:=(r.zip w.parts).any λq=>!ak q.1 q.2.lo q.2.hi
def jL (l:List BdWax) (w:BdWish) (r:List Int):Int:=
 if nK w r=true then 1
 else if(rm (l.zip r)).lo<20*w.melt.lo then 2
 else if 20*w.melt.hi<(rm (l.zip r)).hi then 3
 else if(jv (l.zip r)).lo<20*w.shrink.lo\/20*w.shrink.hi<(jv (l.zip r)).hi then 4
 else 0
theorem Uy{l}{w}{r}(b)(v:BdWaxesOk l)(hw:WishOk l.length w)(i:r.length=l.length)(y:∀n,n∈r->0<=n/\n<=20) :
  af TP 396 [fN l,w.pv,.slice 1 (r.map aI) b] (.int .i64 (jL l w r)):=by
 refine aa (ag func396 rfl) rfl ?_;have a0:=v.len;have Y:=hw.len;have S:IntKind.i64.wrap (20*w.melt.lo)=20*w.melt.lo:=am (by have:=hw.melt;omega) (by have:=hw.melt;omega);have R:IntKind.i64.wrap (20*w.melt.hi)=20*w.melt.hi:=am (by have:=hw.melt;omega) (by have:=hw.melt;omega);have O:IntKind.i64.wrap (20*w.shrink.lo)=20*w.shrink.lo:=am (by have:=hw.shrink;omega) (by have:=hw.shrink;omega);have N:IntKind.i64.wrap (20*w.shrink.hi)=20*w.shrink.hi:=am (by have:=hw.shrink;omega) (by have:=hw.shrink;omega);have G:((r.zip w.parts).map λq=>q.1)=r:=by have:=zU (λx=>x) (l:=r) (r:=w.parts) (by omega);simpa using this
 have F:((r.zip w.parts).map λq=>q.2)=w.parts:=by have:=zT (λx=>x) (l:=r) (r:=w.parts) (by omega);simpa using this
 have X:(r.zip w.parts).length=r.length:=by simp;omega
 simp only[go_sem,simprocAttr];refine bg [0,2,4,11,12] (r.zip w.parts) (by omega) (τ:=Unit) (λa rest _=>nK w r=rest.any λq=>!ak q.1 q.2.lo q.2.hi) (λa _=>[(13,.p (.int .i64 a.length))]) (λ_ _=>[.row 5 [.p w.pv]]) () rfl ?_ ?_ ?_
 .simp only[go_sem,simprocAttr]<;>simp
 .intro _ z;have e:nK w r=false:=by rw[z];rfl
  have E:¬((r.zip w.parts).length:Int)<(r.length:Int):=by omega
  have U:¬((r.zip w.parts).length:Int)<(l.length:Int):=by omega
  simp only[E,go_sem,simprocAttr]
  first
   |(first|refine ae (HA false b v i) rfl ?_|refine ax (HA false b v i) rfl ?_)
    simp only[go_sem,simprocAttr]
    (first|refine ae (vX (l.zip r) false (s2 v y)) rfl ?_|refine ax (vX (l.zip r) false (s2 v y)) rfl ?_)
   |(first|refine ae (vX false b v i y) rfl ?_|refine ax (vX false b v i y) rfl ?_)
  simp only[S,go_sem,simprocAttr];refine aK (λD=>?_) (λD=>?_)
  .have j:(rm (l.zip r)).lo<20*w.melt.lo:=by simpa using D
   simp only[jL,e,if_pos j,go_sem,simprocAttr]
  have j:¬(rm (l.zip r)).lo<20*w.melt.lo:=by simpa using D
  simp only[R,go_sem,simprocAttr];refine aK (λC=>?_) (λC=>?_)
  .have u:20*w.melt.hi<(rm (l.zip r)).hi:=by simpa using C
   simp only[jL,e,if_neg j,if_pos u,go_sem,simprocAttr]
  have u:¬20*w.melt.hi<(rm (l.zip r)).hi:=by simpa using C
  simp only[O,go_sem,simprocAttr];cases K:decide ((jv (l.zip r)).lo<20*w.shrink.lo)
  .simp only[N,go_sem,simprocAttr];refine aK (λA=>?_) (λA=>?_)
   .have o:(jv (l.zip r)).lo<20*w.shrink.lo\/20*w.shrink.hi<(jv (l.zip r)).hi:=.inr (by simpa using A);simp only[jL,e,if_neg j,if_neg u,if_pos o,go_sem,simprocAttr]
   .have o:¬((jv (l.zip r)).lo<20*w.shrink.lo\/20*w.shrink.hi<(jv (l.zip r)).hi):=by simp at K A;omega
    simp only[jL,e,if_neg j,if_neg u,if_neg o,go_sem,simprocAttr]
  .have o:(jv (l.zip r)).lo<20*w.shrink.lo\/20*w.shrink.hi<(jv (l.zip r)).hi:=.inl (by simpa using K);simp only[jL,e,if_neg j,if_neg u,if_pos o,go_sem,simprocAttr]
 .intro a x rest _ V z hx Z I;have E:(a.length:Int)<(r.length:Int):=by omega
  have U:(a.length:Int)<(l.length:Int):=by omega
  have T:(a.length:Int)<(w.parts.length:Int):=by omega
  have M:r[a.length]?=some x.1:=by rw[<-G,cW,hx];rfl
  have L:w.parts[a.length]?=some x.2:=by rw[<-F,cW,hx];rfl
  simp only[E,T,M,L,go_sem,simprocAttr]
  first
   |(first|refine ae (jb _ _ [_] true (by simp)) rfl ?_|refine ax (jb _ _ [_] true (by simp)) rfl ?_)
   |(first|refine ae (AF _ _ _) rfl ?_|refine ax (AF _ _ _) rfl ?_)
  simp only[bJ,cb,cn,go_sem,simprocAttr];cases J:ak x.1 x.2.lo x.2.hi
  .simp only[go_sem,simprocAttr];have e:nK w r=true:=by rw[z,bJ,J];rfl
   simp only[jL,e,go_sem,simprocAttr]
  .simp only[go_sem,simprocAttr];refine aD V () (by rw[z,bJ,J];rfl) ?_;simp only[I,go_sem,simprocAttr]
def iM (a b:Int):List Int:=(List.range (b+1-a).toNat).map λ(i:Nat)=>a+(i:Int)
theorem Pd(a b):(iM a b).length=(b+1-a).toNat:=by simp[iM]
theorem Pe{a b y}{i:Nat}(h:(iM a b)[i]?=some y):y=a+(i)/\y<=b:=by
 unfold iM at h;rw[cW,bC]at h;obtain⟨k,l,rfl⟩:=h;obtain⟨j,e⟩:=aB.1 l;simp at j e;subst e;exact⟨rfl,by omega⟩
theorem vE{a b y}:y∈iM a b↔a<=y/\y<=b:=by
 unfold iM;rw[cX];constructor
 .rintro⟨i,hi,rfl⟩
  rw[xQ]at hi;omega
 .rintro⟨j,e⟩
  exact⟨(y-a).toNat,by rw[xQ];omega,by omega⟩
def pe:Nat->Int->List (List Int)
 |0,left=>[[left]]
 |k+1,left=>(iM 0 left).flatMap λn=>(pe k (left-n)).map (n::·)
theorem GU:∀(k) (left) (r),0<=left->r∈pe k left->r.length=k+1/\(∀n,n∈r->0<=n/\n<=left)/\r.sum=left
 |0,left,r,q,h=>by
  simp[pe]at h;subst h;refine⟨rfl,λn a=>?_,by simp⟩;simp at a
  omega
 |k+1,left,r,q,h=>by
  rw[pe,xR]at h;obtain⟨n,a,h⟩:=h;rw[cX]at h;obtain⟨t,i,rfl⟩:=h;have u:=vE.1 a;obtain⟨o,l,j⟩:=GU k (left-n) t (by omega) i;refine⟨by simp[o],λm e=>?_,by simp[j];omega⟩;rcases ce.1 e with rfl|e
  .omega
  .have:=l m e;omega
theorem wu(n)(h)(m):∀l,aQ (bV n h) (l.map .p++m)=(aQ (bV n h) m).map (l++·)
 |[]=>by cases a:aQ (bV n h) m<;>simp[a]
 |x::r=>by
  rw[bK,hZ,aQ,wu n h m r,eE];cases aQ (bV n h) m<;>rfl
theorem J6{α β:Type}(f:α->β)(l:List α)(x):(l.map f++[x]).take (l.length+1)=l.map f++[x]:=fC (by simp)
attribute [go_sem] wu J6
def RQ (ls:List (List Int)):PV:=.slice 1 (ls.map λr=>.slice 1 (r.map aI) false) false
attribute [go_sem] RQ
def fits (l:List BdWax) (w:BdWish):List (List Int):=(pe (l.length-1) 20).filter λr=>jL l w r==0
theorem ML{l}(a:BdWaxesOk l){r}(h:r∈pe (l.length-1) 20):RecOk l.length r:=by
 obtain⟨j,i,e⟩:=GU _ _ _ (by omega) h;have:=a.len;exact⟨by omega,i,e⟩
theorem xv{l}{w}(a:BdWaxesOk l){r}(h:r∈fits l w):RecOk l.length r/\jL l w r=0:=by
 obtain⟨i,e⟩:=List.mem_filter.1 h;exact⟨ML a i,by simpa using e⟩
end Abs
end Go.Proofs.YtmndpldajflenaaGreatDoor
