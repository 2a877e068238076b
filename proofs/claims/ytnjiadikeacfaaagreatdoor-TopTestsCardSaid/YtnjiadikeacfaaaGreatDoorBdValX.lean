/- CONTRACTS of the program's functions, and laws on what they return. No conditions but those in the theorems' heads. -/
import Derived.Test.YtnjiadikeacfaaaGreatDoorBdChkX
set_option linter.all false
open Go.Proofs.Tryz renaming prog->TP
namespace Go.Proofs.YtnjiadikeacfaaaGreatDoor
namespace Abs
set_option maxRecDepth 4000
structure BdWaxOk (x:BdWax):Prop where
 price:0<=x.price/\x.price<=100000
 melt:0<=x.melt.lo/\x.melt.lo<=x.melt.hi/\x.melt.hi<=2000
 shrink:0<=x.shrink.lo/\x.shrink.lo<=x.shrink.hi/\x.shrink.hi<=1000
 curve:CurveOk x.curve
structure BdWaxesOk (l:List BdWax):Prop where
 len:1<=l.length/\l.length<=5
 wax:∀x,x∈l->BdWaxOk x
def xS (l:List BdWax):Int:=(bdCheck l).2.2
theorem Ki{before}{x}(h:bX before x=0):BdWaxOk x/\ak before x.name=0:=by
 unfold bX at h;split at h
 .rename_i hn;split at h
  .rename_i hg;split at h
   .cases h
   .rename_i ht;simp[al,cn,aL]at hg ht;exact⟨⟨by omega,by omega,by omega,JR h⟩,hn⟩
  .cases h
 .rename_i hn;exact absurd h hn
theorem iL{α}{f:List ByteArray->α->Int}{nm}:∀{l} {before},firstErr f nm l before=none->∀x,x∈l->∃b,f b x=0
 |[],_,_,_,hx=>by cases hx
 |y::r,before,h,x,hx=>by
  rw[firstErr]at h;split at h
  .rename_i h0;rcases ce.1 hx with rfl|hx
   .exact⟨_,h0⟩
   .exact iL h x hx
  .cases h
theorem xE{α}{f:List ByteArray->α->Int}{nm}:∀{l} {before} {i e},firstErr f nm l before=some (i,e)->e≠0
 |[],_,_,_,h=>by cases h
 |y::r,before,i,e,h=>by
  rw[firstErr]at h;split at h
  .exact xE h
  .rename_i h0;cases h;exact h0
theorem MQ{l}(h:xS l=0):(1<=l.length/\l.length<=5)/\firstErr bX (·.name) l []=none:=by
 unfold xS bdCheck at h;split at h
 .rename_i hg;refine⟨by simp[al]at hg;omega,?_⟩
  cases hf:firstErr bX (·.name) l [] with
  |none=>rfl
  |some q=>
   obtain⟨i,e⟩:=q;rw[hf]at h;exact absurd h (xE hf)
 .cases h
theorem we{l}(h:xS l=0):BdWaxesOk l:=by
 obtain⟨h1,h2⟩:=MQ h;exact⟨h1,λx hx=>let ⟨b,hb⟩:=iL h2 x hx;(Ki hb).1⟩
structure RecOk (m:Nat) (r:List Int):Prop where
 len:r.length=m
 rng:∀n,n∈r->0<=n/\n<=20
 sum:r.sum=20
def u4 {α:Type} (f:Nat->α->Int):List α->Nat->Int
 |[],_=>0
 |x::r,i=>f i x+u4 f r (i+1)
theorem HC{α}(f:α->Int):∀(l) (i),u4 (λ_ x=>f x) l i=(l.map f).sum
 |[],_=>rfl
 |x::r,i=>by rw[u4,HC f r,bD,List.sum_cons]
def cL (p:BdWax×Int):PV:=.agg [.str p.1.name,.int .i64 p.1.price,.int .i64 p.1.melt.lo,.int .i64 p.1.melt.hi,.int .i64 p.1.shrink.lo,.int .i64 p.1.shrink.hi,.slice 2 (p.1.curve.map BdPoint.pv) false,.int .i64 p.2]
attribute [go_sem] cL
theorem RV{fv}(l)(f)(b)(sz)(hsz:sz=8)(hl:l.length<=1000)(hf:∀(i:Nat) x,l[i]?=some x->jo TP fv [.int .i64 i,cL x] (.int .i64 (f i x))/\-1000000000<=f i x/\f i x<=1000000000) :
  af TP 300 [.slice sz (l.map cL) b,fv] (.int .i64 (u4 f l 0)):=by
 subst hsz;refine aa (ah Tryz.func300 rfl (by kernel_rfl)) rfl ?_;simp only[go_sem,simprocAttr];refine ei [1,7,8] l (by omega) (τ:=Int) (λdone rest n=>u4 f l 0=n+u4 f rest done.length/\-1000000000*(done.length:Int)<=n/\n<=1000000000*(done.length:Int)) (λdone n=>[(9,.p (.int .i64 done.length)),(4,.p (.int .i64 n))]) 0 ⟨by simp,by simp,by simp⟩ ?_ ?_ ?_
 .simp only[go_sem,simprocAttr]<;>simp
 .rintro n ⟨e2,_⟩
  simp only[go_sem,simprocAttr];rw[e2];simp[u4]
 .rintro done x r n e1 ⟨e2,e3,e4⟩ hx hlt hnx
  obtain⟨⟨g,first,cap,rfl,hc⟩,e5,e6⟩:=hf _ _ hx;simp only[hlt,decide_true,hx,cL,go_sem,simprocAttr];refine ae hc (by simp[cL]) ?_;have hw:IntKind.i64.wrap (n+f done.length x)=n+f done.length x:=am (by omega) (by omega);simp only[hw,go_sem,simprocAttr];refine aE e1 (n+f done.length x) ⟨by rw[e2,u4];simp;omega,by simp;omega,by simp;omega⟩ ?_;simp only[hnx,go_sem,simprocAttr]
abbrev Ps:=List (BdWax×Int)
structure PsOk (ps:Ps):Prop where
 len:ps.length<=5
 wax:∀p,p∈ps->BdWaxOk p.1/\0<=p.2/\p.2<=20
def cX (f:BdWax×Int->Int) (ps:Ps):Int:=(ps.map f).sum
def lv (p:BdWax×Int):Int:=p.2*p.1.melt.lo
def ly (p:BdWax×Int):Int:=p.2*p.1.melt.hi
def lb (p:BdWax×Int):Int:=p.2*p.1.shrink.lo
def nx (p:BdWax×Int):Int:=p.2*p.1.shrink.hi
def jE (p:BdWax×Int):Int:=p.2*p.1.price
def gB (p:BdWax×Int):Int:=20*pL p.1.curve p.2
theorem F2(n):∀(r) (a),(0<=a.parts/\a.parts<=20/\-300<=a.add/\a.add<=300)->(∀p,p∈r->0<=p.parts/\p.parts<=20/\-300<=p.add/\p.add<=300)->a.parts<=n->(a::r).Pairwise (λa b=>a.parts<b.parts)->-300<=kI a r n/\kI a r n<=300
 |[],a,ha,_,_,_=>by rw[kI];omega
 |b::r,a,ha,hr,hn,hp=>by
  rw[kI];have hab:a.parts<b.parts:=by cases hp with|cons h _=>exact h b (by simp)
  split
  .rename_i h;obtain⟨_,_,h3,h4⟩:=HQ ha (hr b (by simp)) hn h hab;have hb:=hr b (by simp);rcases IF a.add b.add with h5|h5
   .have:=h3 h5;omega
   .have:=h4 h5;omega
  .rename_i h;exact F2 n r b (hr b (by simp)) (λp hp=>hr p (by simp[hp])) (by omega) (by cases hp with|cons _ h=>exact h)
theorem R5{c}(h:CurveOk c)(n):-300<=pL c n/\pL c n<=300:=by
 cases c with
 |nil=>simp[pL]
 |cons a r=>
  have ha:=h.pt a (by simp);rw[pL];split
  .omega
  .exact F2 n r a ha (λp hp=>h.pt p (by simp[hp])) (by omega) h.up
theorem dU{p}(h:BdWaxOk p.1/\0<=p.2/\p.2<=20):(0<=lv p/\lv p<=40000)/\(0<=ly p/\ly p<=40000)/\(0<=lb p/\lb p<=20000)/\(0<=nx p/\nx p<=20000)/\(0<=jE p/\jE p<=2000000)/\-6000<=gB p/\gB p<=6000:=by
 obtain⟨hw,h0,h1⟩:=h;have m1:=hw.melt;have m2:=hw.shrink;have m3:=hw.price;have m4:=R5 hw.curve p.2;refine⟨j9 (B:=2000) h0 h1 (by omega) (by omega),j9 (B:=2000) h0 h1 (by omega) (by omega),j9 (B:=1000) h0 h1 (by omega) (by omega),j9 (B:=1000) h0 h1 (by omega) (by omega),j9 (B:=100000) h0 h1 (by omega) (by omega),?_⟩;unfold gB;omega
theorem AU{f}{a b}:∀{ps},(∀p,p∈ps->a<=f p/\f p<=b)->a*(ps.length:Int)<=cX f ps/\cX f ps<=b*(ps.length:Int)
 |[],_=>by simp[cX]
 |p::ps,h=>by
  have h1:=AU (f:=f) (ps:=ps) λq hq=>h q (by simp[hq]);have h2:=h p (by simp);simp only[cX,bD,List.sum_cons,cc]at h1 |-;have e1:a*((ps.length+1:Nat):Int)=a*(ps.length:Int)+a:=by rw[Int.natCast_add,Int.mul_add];simp
  have e2:b*((ps.length+1:Nat):Int)=b*(ps.length:Int)+b:=by rw[Int.natCast_add,Int.mul_add];simp
  omega
theorem BU{f}{b}{ps}(hl:ps.length<=5)(hb:0<=b)(h:∀p,p∈ps->-b<=f p/\f p<=b):-(5*b)<=cX f ps/\cX f ps<=5*b:=by
 obtain⟨h1,h2⟩:=AU h;have:b*(ps.length:Int)<=b*5:=tk (by omega) hb;have e:(-b)*(ps.length:Int)=-(b*(ps.length:Int)):=za _ _;omega
theorem Dh(p)(h:BdWaxOk p.1/\0<=p.2/\p.2<=20):af TP 328 [cL p] (.int .i64 (lv p)):=by
 refine aa (ah Tryz.func328 rfl (by kernel_rfl)) rfl ?_;have hb:=dU h;have hw:IntKind.i64.wrap (lv p)=lv p:=am (by omega) (by omega);unfold lv at hw |-;simp only[hw,go_sem,simprocAttr]
theorem Di(p)(h:BdWaxOk p.1/\0<=p.2/\p.2<=20):af TP 329 [cL p] (.int .i64 (ly p)):=by
 refine aa (ah Tryz.func329 rfl (by kernel_rfl)) rfl ?_;have hb:=dU h;have hw:IntKind.i64.wrap (ly p)=ly p:=am (by omega) (by omega);unfold ly at hw |-;simp only[hw,go_sem,simprocAttr]
theorem G8(p)(h:BdWaxOk p.1/\0<=p.2/\p.2<=20):af TP 330 [cL p] (.int .i64 (lb p)):=by
 refine aa (ah Tryz.func330 rfl (by kernel_rfl)) rfl ?_;have hb:=dU h;have hw:IntKind.i64.wrap (lb p)=lb p:=am (by omega) (by omega);unfold lb at hw |-;simp only[hw,go_sem,simprocAttr]
theorem J0(p)(h:BdWaxOk p.1/\0<=p.2/\p.2<=20):af TP 331 [cL p] (.int .i64 (nx p)):=by
 refine aa (ah Tryz.func331 rfl (by kernel_rfl)) rfl ?_;have hb:=dU h;have hw:IntKind.i64.wrap (nx p)=nx p:=am (by omega) (by omega);unfold nx at hw |-;simp only[hw,go_sem,simprocAttr]
theorem G7(p)(h:BdWaxOk p.1/\0<=p.2/\p.2<=20):af TP 273 [cL p] (.int .i64 (jE p)):=by
 refine aa (ah Tryz.func273 rfl (by kernel_rfl)) rfl ?_;have hb:=dU h;have hw:IntKind.i64.wrap (jE p)=jE p:=am (by omega) (by omega);unfold jE at hw |-;simp only[hw,go_sem,simprocAttr]
theorem G6(p)(h:BdWaxOk p.1/\0<=p.2/\p.2<=20):af TP 332 [cL p] (.int .i64 (gB p)):=by
 refine aa (ah Tryz.func332 rfl (by kernel_rfl)) rfl ?_;have hb:=dU h;have hw:IntKind.i64.wrap (gB p)=gB p:=am (by omega) (by omega);unfold gB at hw |-;simp only[go_sem,simprocAttr];refine ae (Uv p.1.curve false p.2 h.1.curve) rfl ?_;simp only[hw,go_sem,simprocAttr]
def rL:AV:=.p (.agg [.str ⟨#[]⟩,.int .i64 0,.int .i64 0,.int .i64 0,.int .i64 0,.int .i64 0,.nilslice,.int .i64 0])
def iI (ps done:Ps):List AV:=(done.map λp=>.p (cL p))++List.replicate (ps.length-done.length) rL
theorem CI{ps done r}{x}(h:ps=done++x::r):(iI ps done).length=ps.length:=by subst h;simp[iI]
theorem CJ{ps done r}{x}(h:ps=done++x::r):(iI ps done)[done.length]?=some rL:=by
 subst h;unfold iI;rw[cm (by simp)];simp
theorem CH{ps done r}{x}(h:ps=done++x::r):(iI ps done).set done.length (.p (cL x))=iI ps (done++[x]):=by
 subst h;have e:(done++x::r).length-done.length=((done++x::r).length-(done++[x]).length)+1:=by simp<;>omega
 unfold iI;rw[tt _ _ (by simp),e,IN];simp
theorem xP(n)(ps done):(∀x,x∈iI ps done->below n x)=True:=by
 refine eq_true λx hx=>?_;rcases b7.1 hx with h|h
 .obtain⟨p,_,rfl⟩:=dN.1 h;trivial
 .rw[List.eq_of_mem_replicate h];trivial
def qp (ps:Ps):PV:=.slice 8 (ps.map cL) false
attribute [go_sem] qp
theorem Uu(ps)(b1 b2)(hl:ps.length<=5):af TP 272 [.slice 7 (ps.map λp=>p.1.pv) b1,.slice 1 (ps.map λp=>aG p.2) b2] (qp ps):=by
 refine dd (ah Tryz.func272 rfl (by kernel_rfl)) rfl ?_;have hrm:((ps.length:Nat):Int)<=(ar:Int):=by simp[ar];omega
 have hr0:List.replicate ps.length rL=iI ps []:=by simp[iI]
 simp only[rL]at hr0;simp only[hrm,l4,hr0,go_sem,simprocAttr];refine bm [1,5,11,12] ps (by omega) (τ:=Unit) (λ_ _ _=>True) (λdone _=>[(13,.p (.int .i64 done.length))]) (λdone _=>[.row 8 (iI ps done)]) () trivial ?_ ?_ ?_
 .simp only[xP,go_sem,simprocAttr]
 .intro _ _;have hz:(iI ps ps)=ps.map λp=>.p (cL p):=by simp[iI]
  simp only[cL]at hz;simp only[hz,go_sem,simprocAttr];rfl
 .intro done x r _ e1 _ hx hlt hnx;have h1:=CI e1;have h2:=CJ e1;have h3:=CH e1;simp only[rL]at h2;simp only[cL]at h3;simp only[hlt,hx,h1,h2,h3,go_sem,simprocAttr];refine aE e1 () trivial ?_;simp only[hnx,xP,go_sem,simprocAttr]
theorem Rv{of}(i)(p)(v)(h:jo TP of [cL p] (.int .i64 v)):af TP 301 [.int .i64 i,cL p,.ptr 1 [of] 0 0] (.int .i64 v):=by
 refine aa (ah Tryz.func301 rfl (by kernel_rfl)) rfl ?_;obtain⟨g,first,cap,rfl,hc⟩:=h;simp only[go_sem,simprocAttr];refine ae hc (by simp[cL]) ?_;simp only[go_sem,simprocAttr]
theorem sT{of}(ps)(f)(b)(hl:ps.length<=5)(hof:∀p,p∈ps->jo TP of [cL p] (.int .i64 (f p))/\-1000000000<=f p/\f p<=1000000000)(hne:∃g first cap,of=.func (.func g) first cap) :
  af TP 271 [.slice 8 (ps.map cL) b,of] (.int .i64 (cX f ps)):=by
 refine aa (ah Tryz.func271 rfl (by kernel_rfl)) rfl ?_;obtain⟨g,first,cap,rfl⟩:=hne;simp only[go_sem,simprocAttr];refine aY (RV (fv:=.func (.func 301) [] [.ptr 1 [.func (.func g) first cap] 0 0]) ps (λ_ p=>f p) b 8 rfl (by omega) λi p hi=>⟨⟨_,_,_,rfl,Rv i p _ (hof p (aT hi)).1⟩,(hof p (aT hi)).2⟩) ?_ (.int _ _) ?_
 .simp only[go_sem,simprocAttr]
 .simp only[go_sem,simprocAttr];rw[HC];rfl
theorem Bo(ps)(b)(h:PsOk ps):af TP 271 [.slice 8 (ps.map cL) b,.func (.func 328) [] []] (.int .i64 (cX lv ps)):=
 sT ps lv b h.len (λp hp=>⟨⟨_,_,_,rfl,Dh p (h.wax p hp)⟩,by have:=dU (h.wax p hp);omega⟩) ⟨_,_,_,rfl⟩
theorem Bp(ps)(b)(h:PsOk ps):af TP 271 [.slice 8 (ps.map cL) b,.func (.func 329) [] []] (.int .i64 (cX ly ps)):=
 sT ps ly b h.len (λp hp=>⟨⟨_,_,_,rfl,Di p (h.wax p hp)⟩,by have:=dU (h.wax p hp);omega⟩) ⟨_,_,_,rfl⟩
theorem Fx(ps)(b)(h:PsOk ps):af TP 271 [.slice 8 (ps.map cL) b,.func (.func 330) [] []] (.int .i64 (cX lb ps)):=
 sT ps lb b h.len (λp hp=>⟨⟨_,_,_,rfl,G8 p (h.wax p hp)⟩,by have:=dU (h.wax p hp);omega⟩) ⟨_,_,_,rfl⟩
theorem G1(ps)(b)(h:PsOk ps):af TP 271 [.slice 8 (ps.map cL) b,.func (.func 331) [] []] (.int .i64 (cX nx ps)):=
 sT ps nx b h.len (λp hp=>⟨⟨_,_,_,rfl,J0 p (h.wax p hp)⟩,by have:=dU (h.wax p hp);omega⟩) ⟨_,_,_,rfl⟩
theorem vW(ps)(b)(h:PsOk ps):af TP 271 [.slice 8 (ps.map cL) b,.func (.func 273) [] []] (.int .i64 (cX jE ps)):=
 sT ps jE b h.len (λp hp=>⟨⟨_,_,_,rfl,G7 p (h.wax p hp)⟩,by have:=dU (h.wax p hp);omega⟩) ⟨_,_,_,rfl⟩
theorem Fw(ps)(b)(h:PsOk ps):af TP 271 [.slice 8 (ps.map cL) b,.func (.func 332) [] []] (.int .i64 (cX gB ps)):=
 sT ps gB b h.len (λp hp=>⟨⟨_,_,_,rfl,G6 p (h.wax p hp)⟩,by have:=dU (h.wax p hp);omega⟩) ⟨_,_,_,rfl⟩
theorem HB{ps}(h:PsOk ps):(0<=cX lv ps/\cX lv ps<=200000)/\(0<=cX ly ps/\cX ly ps<=200000)/\(0<=cX lb ps/\cX lb ps<=100000)/\(0<=cX nx ps/\cX nx ps<=100000)/\(0<=cX jE ps/\cX jE ps<=10000000)/\-30000<=cX gB ps/\cX gB ps<=30000:=by
 have hl:=h.len;have key:∀(f:BdWax×Int->Int) (b:Int),0<=b->(∀p,p∈ps->0<=f p/\f p<=b)->0<=cX f ps/\cX f ps<=5*b:=λf b hb hf=>by
  have h1:=AU hf;have h2:=(BU (f:=f) hl hb λp hp=>by have:=hf p hp;omega).2;omega
 refine⟨key _ 40000 (by omega) λp hp=>(dU (h.wax p hp)).1,key _ 40000 (by omega) λp hp=>(dU (h.wax p hp)).2.1,key _ 20000 (by omega) λp hp=>(dU (h.wax p hp)).2.2.1,key _ 20000 (by omega) λp hp=>(dU (h.wax p hp)).2.2.2.1,key _ 2000000 (by omega) λp hp=>(dU (h.wax p hp)).2.2.2.2.1,?_⟩;exact BU (b:=6000) hl (by omega) λp hp=>(dU (h.wax p hp)).2.2.2.2.2
def rO (ps:Ps):Span:=⟨cX lv ps+cX gB ps,cX ly ps+cX gB ps⟩
def jA (ps:Ps):Span:=⟨cX lb ps,cX nx ps⟩
set_option maxHeartbeats 1000000 in
theorem xd(ps)(b)(h:PsOk ps):af TP 322 [.slice 8 (ps.map cL) b] (.tuple [(rO ps).pv,(jA ps).pv]):=by
 refine aa (eA (by kernel_rfl) rfl Vl) rfl ?_;have hb:=HB h;have w1:IntKind.i64.wrap (cX lv ps+cX gB ps)=cX lv ps+cX gB ps:=am (by omega) (by omega);have w2:IntKind.i64.wrap (cX ly ps+cX gB ps)=cX ly ps+cX gB ps:=am (by omega) (by omega);simp only[UV,go_sem,simprocAttr];refine aU ?_;simp only[go_sem,simprocAttr];refine ae (Bo ps b h) rfl ?_;simp only[go_sem,simprocAttr];refine aU ?_;simp only[go_sem,simprocAttr];refine ae (Bp ps b h) rfl ?_;simp only[go_sem,simprocAttr];refine aU ?_;simp only[go_sem,simprocAttr];refine ae (Fx ps b h) rfl ?_;simp only[go_sem,simprocAttr];refine aU ?_;simp only[go_sem,simprocAttr];refine ae (G1 ps b h) rfl ?_;simp only[go_sem,simprocAttr];refine aU ?_;simp only[go_sem,simprocAttr];refine ae (Fw ps b h) rfl ?_;simp only[go_sem,simprocAttr];refine aU ?_;simp only[aV,w1,w2,rO,jA,go_sem,simprocAttr]
theorem AQ{α β γ:Type}(f:α->γ){l:List α}{r:List β}(h:r.length=l.length):((l.zip r).map λp=>f p.1)=l.map f:=by
 rw[show (λp:α×β=>f p.1)=f∘Prod.fst from rfl,<-th,List.map_fst_zip (by omega)]
theorem AP{α β γ:Type}(f:β->γ){l:List α}{r}(h:r.length=l.length):((l.zip r).map λp=>f p.2)=r.map f:=by
 rw[show (λp:α×β=>f p.2)=f∘Prod.snd from rfl,<-th,List.map_snd_zip (by omega)]
theorem tO{l}{r}(hl:BdWaxesOk l)(hr:∀n,n∈r->0<=n/\n<=20):PsOk (l.zip r):=by
 refine⟨by have:=hl.len;simp;omega,λp hp=>?_⟩;obtain⟨x,n⟩:=p;obtain⟨h1,h2⟩:=List.of_mem_zip hp;exact⟨hl.wax x h1,hr n h2⟩
theorem Ip{l}{r}(b1 b2)(hl:BdWaxesOk l)(hlen:r.length=l.length):af TP 272 [.slice 7 (l.map BdWax.pv) b1,.slice 1 (r.map aG) b2] (qp (l.zip r)):=by
 have h:=Uu (l.zip r) b1 b2 (by have:=hl.len;simp;omega);rwa [AQ BdWax.pv hlen,AP aG hlen]at h
theorem HR{l}(h:BdWaxesOk l):IntKind.i64.wrap ((l.length:Int)-1)=(l.length:Int)-1:=am (by omega) (by have:=h.len;omega)
def Lw (a b:Bool):Int:=if a=true then 7 else if b=true then 2 else 0
def qh (w:BdWish):Bool:=!(cn w.melt 0 2000&&cn w.shrink 0 1000)
def li (w:BdWish):Bool:=aL w.melt||aL w.shrink
def iK (l:List BdWax) (w:BdWish):Int:=
 if xS l=0 then
  if w.parts.length=l.length then Lw (qh w||w.parts.any λs=>!cn s 0 20) (li w||w.parts.any aL)
  else 3
 else xS l
structure WishOk (m:Nat) (w:BdWish):Prop where
 len:w.parts.length=m
 melt:0<=w.melt.lo/\w.melt.lo<=w.melt.hi/\w.melt.hi<=2000
 shrink:0<=w.shrink.lo/\w.shrink.lo<=w.shrink.hi/\w.shrink.hi<=1000
 parts:∀s,s∈w.parts->0<=s.lo/\s.lo<=s.hi/\s.hi<=20
theorem BP{l}{w}(h:iK l w=0):BdWaxesOk l/\WishOk l.length w:=by
 unfold iK at h;split at h
 .rename_i he;split at h
  .rename_i hl;refine⟨we he,?_⟩;unfold Lw at h;split at h
   .cases h
   .rename_i ho;split at h
    .cases h
    .rename_i ht;simp[qh,li,cn,al,aL]at ho ht;refine⟨hl,by omega,by omega,λs hs=>?_⟩;have:=ho.2 s hs;have:=ht.2 s hs;omega
  .cases h
 .rename_i he;exact absurd h he
theorem Uh(l)(w):af TP 269 [fM l,w.pv] (.int .i64 (iK l w)):=by
 refine aa (ah Tryz.func269 rfl (by kernel_rfl)) rfl ?_;simp only[go_sem,simprocAttr]
 (first|refine ae (yO l) rfl ?_|refine ay (yO l) rfl ?_)
 simp only[aj,go_sem,simprocAttr];refine aR (λhe=>?_) (λhe=>?_)
 .have he':¬xS l=0:=by simpa[xS]using he
  simp only[iK,if_neg he',go_sem,simprocAttr];rfl
 have he':xS l=0:=by simpa[xS]using he
 have hok:=(we he').len;simp only[go_sem,simprocAttr];refine aR (λhb=>?_) (λhb=>?_)
 .have:¬(w.parts.length=l.length):=by simp[bne]at hb;omega
  simp only[iK,if_pos he',if_neg this,go_sem,simprocAttr]
 have hlen:w.parts.length=l.length:=by simp[bne]at hb;omega
 have hspec:iK l w=Lw (qh w||w.parts.any λs=>!cn s 0 20) (li w||w.parts.any aL):=by rw[iK,if_pos he',if_pos hlen]
 rw[hspec];have ho:qh w=!(al w.melt.lo 0 2000&&al w.melt.hi 0 2000&&(al w.shrink.lo 0 1000&&al w.shrink.hi 0 1000)):=rfl;have ht:li w=(decide (w.melt.hi<w.melt.lo)||decide (w.shrink.hi<w.shrink.lo)):=rfl;simp only[go_sem,simprocAttr];cases ht1:decide (w.melt.hi<w.melt.lo)
 all_goals
  rw[ht1]at ht;simp only[tg,jQ]at ht;simp only[go_sem,simprocAttr]
  (first|refine ae (jf 0 2000 [_,_] true (by simp)) rfl ?_|refine ay (jf 0 2000 [_,_] true (by simp)) rfl ?_)
  simp only[bF,bp,cl,<-iD,go_sem,simprocAttr];cases ho1:(al w.melt.lo 0 2000&&al w.melt.hi 0 2000)
 all_goals
  rw[ho1]at ho;simp only[AO,Bool.false_and,xZ]at ho;simp only[go_sem,simprocAttr]
  try
   (first|refine ae (jf 0 1000 [_,_] true (by simp)) rfl ?_|refine ay (jf 0 1000 [_,_] true (by simp)) rfl ?_)
   simp only[bF,bp,cl,<-iD,<-ho,go_sem,simprocAttr]
  refine bm [62,63] w.parts (by omega) (τ:=Bool×Bool) (λdone rest q=>(qh w||w.parts.any λs=>!cn s 0 20)=(q.1||rest.any λs=>!cn s 0 20)/\(li w||w.parts.any aL)=(q.2||rest.any aL))
   (λdone q=>[(64,.p (.int .i64 done.length)),(8,.p (.bool q.2)),(9,.p (.bool q.1))]) (λ_ _=>[.row 5 [.p w.pv]]) (qh w,li w) ⟨rfl,rfl⟩ ?_ ?_ ?_
  .simp only[ho,ht,go_sem,simprocAttr]<;>simp
  .rintro⟨a,b⟩ ⟨g1,g2⟩
   dsimp only at g1 g2;rw[g1,g2];cases a<;>cases b<;>simp only[bp,Lw,go_sem,simprocAttr]
  .rintro done x r ⟨a,b⟩ e1 ⟨g1,g2⟩ hx hlt hnx
   dsimp only at g1 g2;rw[bF]at g1 g2;cases a<;>cases b<;>simp only[hlt,hx,go_sem,simprocAttr]
   all_goals
    try
     (first|refine ae (jf 0 20 [_,_] true (by simp)) rfl ?_|refine ay (jf 0 20 [_,_] true (by simp)) rfl ?_)
     simp only[bF,bp,cl,<-iD,go_sem,simprocAttr]
    first
     |(refine aE e1 (!cn x 0 20,aL x) ⟨by simpa using g1,by simpa using g2⟩ ?_
       simp only[hnx,cn,aL,go_sem,simprocAttr];done)
     |(refine aE e1 (!cn x 0 20,true) ⟨by simpa using g1,by simpa using g2⟩ ?_
       simp only[hnx,cn,go_sem,simprocAttr];done)
     |(refine aE e1 (true,aL x) ⟨by simpa using g1,by simpa using g2⟩ ?_
       simp only[hnx,aL,go_sem,simprocAttr];done)
     |(refine aE e1 (true,true) ⟨by simpa using g1,by simpa using g2⟩ ?_
       simp only[hnx,go_sem,simprocAttr])
def nS (w:BdWish) (r:List Int):Bool:=(r.zip w.parts).any λq=>!al q.1 q.2.lo q.2.hi
def jS (l:List BdWax) (w:BdWish) (r:List Int):Int:=
 if nS w r=true then 1
 else if(rO (l.zip r)).lo<20*w.melt.lo then 2
 else if 20*w.melt.hi<(rO (l.zip r)).hi then 3
 else if(jA (l.zip r)).lo<20*w.shrink.lo\/20*w.shrink.hi<(jA (l.zip r)).hi then 4
 else 0
theorem VT{l}{w}{r}(b)(hl:BdWaxesOk l)(hw:WishOk l.length w)(hlen:r.length=l.length)(hr:∀n,n∈r->0<=n/\n<=20) :
  af TP 299 [fM l,w.pv,.slice 1 (r.map aG) b] (.int .i64 (jS l w r)):=by
 refine aa (ah Tryz.func299 rfl (by kernel_rfl)) rfl ?_;have hl5:=hl.len;have hwl:=hw.len;have m1:IntKind.i64.wrap (20*w.melt.lo)=20*w.melt.lo:=am (by have:=hw.melt;omega) (by have:=hw.melt;omega);have m2:IntKind.i64.wrap (20*w.melt.hi)=20*w.melt.hi:=am (by have:=hw.melt;omega) (by have:=hw.melt;omega);have m3:IntKind.i64.wrap (20*w.shrink.lo)=20*w.shrink.lo:=am (by have:=hw.shrink;omega) (by have:=hw.shrink;omega);have m4:IntKind.i64.wrap (20*w.shrink.hi)=20*w.shrink.hi:=am (by have:=hw.shrink;omega) (by have:=hw.shrink;omega);have hz1:((r.zip w.parts).map λq=>q.1)=r:=by have:=AQ (λx=>x) (l:=r) (r:=w.parts) (by omega);simpa using this
 have hz2:((r.zip w.parts).map λq=>q.2)=w.parts:=by have:=AP (λx=>x) (l:=r) (r:=w.parts) (by omega);simpa using this
 have hzl:(r.zip w.parts).length=r.length:=by simp;omega
 simp only[go_sem,simprocAttr];refine bm [0,2,4,11,12] (r.zip w.parts) (by omega) (τ:=Unit) (λdone rest _=>nS w r=rest.any λq=>!al q.1 q.2.lo q.2.hi) (λdone _=>[(13,.p (.int .i64 done.length))]) (λ_ _=>[.row 5 [.p w.pv]]) () rfl ?_ ?_ ?_
 .simp only[go_sem,simprocAttr]<;>simp
 .intro _ e2;have e2':nS w r=false:=by rw[e2];rfl
  have g1:¬((r.zip w.parts).length:Int)<(r.length:Int):=by omega
  have g2:¬((r.zip w.parts).length:Int)<(l.length:Int):=by omega
  simp only[g1,go_sem,simprocAttr]
  first
   |(first|refine ae (Ip false b hl hlen) rfl ?_|refine ay (Ip false b hl hlen) rfl ?_)
    simp only[go_sem,simprocAttr]
    (first|refine ae (xd (l.zip r) false (tO hl hr)) rfl ?_|refine ay (xd (l.zip r) false (tO hl hr)) rfl ?_)
   |(first|refine ae (xd false b hl hlen hr) rfl ?_|refine ay (xd false b hl hlen hr) rfl ?_)
  simp only[m1,go_sem,simprocAttr];refine aR (λh1=>?_) (λh1=>?_)
  .have h1':(rO (l.zip r)).lo<20*w.melt.lo:=by simpa using h1
   simp only[jS,e2',if_pos h1',go_sem,simprocAttr]
  have h1':¬(rO (l.zip r)).lo<20*w.melt.lo:=by simpa using h1
  simp only[m2,go_sem,simprocAttr];refine aR (λh2=>?_) (λh2=>?_)
  .have h2':20*w.melt.hi<(rO (l.zip r)).hi:=by simpa using h2
   simp only[jS,e2',if_neg h1',if_pos h2',go_sem,simprocAttr]
  have h2':¬20*w.melt.hi<(rO (l.zip r)).hi:=by simpa using h2
  simp only[m3,go_sem,simprocAttr];cases h3:decide ((jA (l.zip r)).lo<20*w.shrink.lo)
  .simp only[m4,go_sem,simprocAttr];refine aR (λh4=>?_) (λh4=>?_)
   .have h4':(jA (l.zip r)).lo<20*w.shrink.lo\/20*w.shrink.hi<(jA (l.zip r)).hi:=.inr (by simpa using h4);simp only[jS,e2',if_neg h1',if_neg h2',if_pos h4',go_sem,simprocAttr]
   .have h4':¬((jA (l.zip r)).lo<20*w.shrink.lo\/20*w.shrink.hi<(jA (l.zip r)).hi):=by simp at h3 h4;omega
    simp only[jS,e2',if_neg h1',if_neg h2',if_neg h4',go_sem,simprocAttr]
  .have h4':(jA (l.zip r)).lo<20*w.shrink.lo\/20*w.shrink.hi<(jA (l.zip r)).hi:=.inl (by simpa using h3);simp only[jS,e2',if_neg h1',if_neg h2',if_pos h4',go_sem,simprocAttr]
 .intro done x rest _ e1 e2 hx hlt hnx;have g1:(done.length:Int)<(r.length:Int):=by omega
  have g2:(done.length:Int)<(l.length:Int):=by omega
  have g3:(done.length:Int)<(w.parts.length:Int):=by omega
  have x1:r[done.length]?=some x.1:=by rw[<-hz1,cz,hx];rfl
  have x2:w.parts[done.length]?=some x.2:=by rw[<-hz2,cz,hx];rfl
  simp only[g1,g3,x1,x2,go_sem,simprocAttr]
  first
   |(first|refine ae (jf _ _ [_] true (by simp)) rfl ?_|refine ay (jf _ _ [_] true (by simp)) rfl ?_)
   |(first|refine ae (Bu _ _ _) rfl ?_|refine ay (Bu _ _ _) rfl ?_)
  simp only[bF,bp,cl,go_sem,simprocAttr];cases hg:al x.1 x.2.lo x.2.hi
  .simp only[go_sem,simprocAttr];have e2':nS w r=true:=by rw[e2,bF,hg];rfl
   simp only[jS,e2',go_sem,simprocAttr]
  .simp only[go_sem,simprocAttr];refine aE e1 () (by rw[e2,bF,hg];rfl) ?_;simp only[hnx,go_sem,simprocAttr]
def iQ (a b:Int):List Int:=(List.range (b+1-a).toNat).map λ(i:Nat)=>a+(i:Int)
theorem Qm(a b):(iQ a b).length=(b+1-a).toNat:=by simp[iQ]
theorem Qn{a b y}{i:Nat}(h:(iQ a b)[i]?=some y):y=a+(i)/\y<=b:=by
 unfold iQ at h;rw[cz,cd]at h;obtain⟨k,h1,rfl⟩:=h;obtain⟨h2,h3⟩:=ax.1 h1;simp at h2 h3;subst h3;exact⟨rfl,by omega⟩
theorem wP{a b y}:y∈iQ a b↔a<=y/\y<=b:=by
 unfold iQ;rw[dN];constructor
 .rintro⟨i,hi,rfl⟩
  rw[DO]at hi;omega
 .rintro⟨h1,h2⟩
  exact⟨(y-a).toNat,by rw[DO];omega,by omega⟩
def pA:Nat->Int->List (List Int)
 |0,left=>[[left]]
 |k+1,left=>(iQ 0 left).flatMap λn=>(pA k (left-n)).map (n::·)
theorem HI:∀(k) (left) (r),0<=left->r∈pA k left->r.length=k+1/\(∀n,n∈r->0<=n/\n<=left)/\r.sum=left
 |0,left,r,h0,h=>by
  simp[pA]at h;subst h;refine⟨rfl,λn hn=>?_,by simp⟩;simp at hn
  omega
 |k+1,left,r,h0,h=>by
  rw[pA,DN]at h;obtain⟨n,hn,h⟩:=h;rw[dN]at h;obtain⟨t,ht,rfl⟩:=h;have hn':=wP.1 hn;obtain⟨h1,h2,h3⟩:=HI k (left-n) t (by omega) ht;refine⟨by simp[h1],λm hm=>?_,by simp[h3];omega⟩;rcases ce.1 hm with rfl|hm
  .omega
  .have:=h2 m hm;omega
theorem xB(n)(h)(m):∀l,aS (ci n h) (l.map .p++m)=(aS (ci n h) m).map (l++·)
 |[]=>by cases hf:aS (ci n h) m<;>simp[hf]
 |x::r=>by
  rw[bD,eW,aS,xB n h m r,ef];cases aS (ci n h) m<;>rfl
theorem KQ{α β:Type}(f:α->β)(l:List α)(x):(l.map f++[x]).take (l.length+1)=l.map f++[x]:=gv (by simp)
attribute [go_sem] xB KQ
def S6 (ls:List (List Int)):PV:=.slice 1 (ls.map λr=>.slice 1 (r.map aG) false) false
attribute [go_sem] S6
def fits (l:List BdWax) (w:BdWish):List (List Int):=(pA (l.length-1) 20).filter λr=>jS l w r==0
theorem NO{l}(hl:BdWaxesOk l){r}(h:r∈pA (l.length-1) 20):RecOk l.length r:=by
 obtain⟨h1,h2,h3⟩:=HI _ _ _ (by omega) h;have:=hl.len;exact⟨by omega,h2,h3⟩
theorem yG{l}{w}(hl:BdWaxesOk l){r}(h:r∈fits l w):RecOk l.length r/\jS l w r=0:=by
 obtain⟨h1,h2⟩:=List.mem_filter.1 h;exact⟨NO hl h1,by simpa using h2⟩
end Abs
end Go.Proofs.YtnjiadikeacfaaaGreatDoor
