/- CONTRACTS of the program's functions, and laws on what they return. No conditions but those in the theorems' heads. -/
import Derived.Test.YtmndpldajflenaaGreatDoorClChkX
set_option linter.all false
set_option maxHeartbeats 2000000
open Go.Proofs.Tryz renaming prog->TP
namespace Go.Proofs.YtmndpldajflenaaGreatDoor
namespace Abs
namespace Cl
set_option maxRecDepth 4000
def lU (s:ClShop) (l:List ClBatch) (m:Nat):AObj:=.row 6 [.agg [.p (.slice 4 (s.colours.map ClColour.pv) false),.p (.int .i64 s.keep.lo),.p (.int .i64 s.keep.hi),.p (.int .i64 s.rinse),.p (.slice 2 (l.map ClBatch.pv) false),.ref .mp m]]
attribute [go_sem] lU
theorem EC{e j}{a b c}{u}{t}(i:u=.p .nilptr\/u=.ptr 6 1 0 0):jr TP 405 [.ptr 3 1 0 0,.ptr 4 1 0 0] (.pan (.iface 32 (.int .i64 e))) (a::b::c::.row 1 [u]::.row 1 [.p (.int .i64 j)]::t)
  (λr u h'=>r=.ret (.p (.tuple []))/\u=.recd (.iface 32 (.int .i64 e))/\h'=a::b::c::.row 1 [.p .nilptr]::.row 1 [.p (.int .i64 e)]::t):=by
 refine fJ (eI (by kernel_rfl) rfl OJ) rfl ?_;rcases i with rfl|rfl<;>simp only[Tw,aO,mM,ik,bt,go_sem,simprocAttr]
theorem Ll{i j}{h}:jr TP 405 [.ptr i 1 0 0,.ptr j 1 0 0] .ret h (λr u h'=>r=.ret (.p (.tuple []))/\u=.ret/\h'=h):=by
 refine fJ (eI (by kernel_rfl) rfl OJ) rfl ?_;simp only[mM,ik,go_sem,simprocAttr]
theorem da{rs}{R}{T}{e l}{a b c}{u}{t}(i:u=.p .nilptr\/u=.ptr 6 1 0 0)(k:ca TP rs R T [] .ret (a::b::c::.row 1 [.p .nilptr]::.row 1 [.p (.int .i64 e)]::t)) :
  ca TP rs R T [.fn 405 [.ptr 3 1 0 0,.ptr 4 1 0 0]] (.pan (.iface 32 (.int .i64 e))) (a::b::c::.row 1 [u]::.row 1 [.p (.int .i64 l)]::t):=by
 rw[jU];refine(EC i).mono λr u h' j=>?_;obtain⟨rfl,rfl,rfl⟩:=j;exact k
theorem xj{rs}{R}{T}{h}(k:ca TP rs R T [] .ret h):ca TP rs R T [.fn 405 [.ptr 3 1 0 0,.ptr 4 1 0 0]] .ret h:=by
 rw[jU];refine Ll.mono λr u h' a=>?_;obtain⟨rfl,rfl,rfl⟩:=a;exact k
theorem UI(e):af TP 406 [.bool true,.int .i64 e] (.tuple []):=by
 refine aa (ag Tryz.func406 rfl) rfl ?_;simp only[go_sem,simprocAttr]
theorem n8{P}{H}{ops}{rest}{Q}{o}{e}{A}{f}{args}{a}{v}(i:af P f a v)(j:args=a.map .p)
  (h:@WD ⟨P,H,ops,rest,Q⟩ e (A.put o.dst (.p v) A.h)):@L' ⟨P,H,ops,rest,Q,o⟩ e A (.call f args):=by
 subst j;exact .inl ⟨.p v,λ_ _=>pP i,h⟩
theorem IZ(s)(l)(b)(A:s.colours.length<=6)(z y v u q o j):ar TP 407 [.ptr 6 1 0 0,.p b.pv] [z,y,v,u,q,o,lU s l 5,j]
  (λr h'=>h'=[z,y,v,u,q,o,lU s l 5,j,.row 2 [.p b.pv]]/\r=if eJ s b=0 then .ret (.p (.tuple [])) else .panic (.iface 32 (.int .i64 (eJ s b)))):=by
 refine au (eI (by kernel_rfl) rfl TX) rfl ?_;have hw:IntKind.i64.wrap ((s.colours.length:Int)-1)=(s.colours.length:Int)-1:=am (by omega) (by omega);simp only[Tv,aO,hw,go_sem,simprocAttr]
 (first|refine ae (e6 0 ((s.colours.length:Int)-1) [b.colour] true (by simp)) rfl ?_|refine ax (e6 0 ((s.colours.length:Int)-1) [b.colour] true (by simp)) rfl ?_)
 simp only[bJ,cb,cn,nF,go_sem,simprocAttr];cases e:ak b.colour 0 ((s.colours.length:Int)-1)
 .have a:eJ s b=4:=by rw[eJ,e];rfl
  refine Oo λT=>?_;simp only[a,go_sem,simprocAttr]
 refine n8 (UI 4) rfl ?_;simp only[go_sem,simprocAttr];refine ae (e6 1 100000 [_] true (by simp)) rfl ?_;simp only[bJ,cb,cn,nF,go_sem,simprocAttr];cases i:ak b.grams 1 100000
 .have a:eJ s b=7:=by rw[eJ,e,i];rfl
  refine an (λh=>by cases h) λ_=>?_;simp only[a,go_sem,simprocAttr]
 have a:eJ s b=0:=by rw[eJ,e,i];rfl
 refine an (λ_=>?_) (λh=>by cases h);simp only[a,go_sem,simprocAttr]
theorem IY(s)(start)(l)(x)(M:l.length<1000000000):ar TP 386 [.p s.pv,.p (.slice 2 (l.map ClBatch.pv) false),.slice 1 1 0 1] [x,.row 1 [.p (.int .i64 start)]]
  (λr h'=>(dG s start l=0/\ShopOk s/\(∀b,b∈l->BatchOk s b)/\l.length<=7/\r=.ret (.tuple [.ptr 6 1 0 0,.p (.int .i64 0)])/\h'=[x,.row 1 [.p (.int .i64 start)],.row 4 [.p s.pv],.row 1 [.ptr 6 1 0 0],.row 1 [.p (.int .i64 0)],.mp [],lU s l 5]) \/
   (dG s start l≠0/\r=.ret (.p (.tuple [.nilptr,.int .i64 (dG s start l)]))/\∃t,h'=[x,.row 1 [.p (.int .i64 start)],.row 4 [.p s.pv],.row 1 [.p .nilptr],.row 1 [.p (.int .i64 (dG s start l))]]++t)):=by
 refine F8 λC=>?_;have z:aX 7 x:=FY (n:=2) (by decide) (C x (by simp));refine au (ag Tryz.func386 rfl) rfl ?_;simp only[go_sem,simprocAttr];refine ae (o3 s) rfl ?_;simp only[ah,go_sem,simprocAttr];cases J:((clCheck s).2.2==0)
 .have a:¬(clCheck s).2.2=0:=by simpa using J
  have i:dG s start l=(clCheck s).2.2:=by rw[dG,if_neg a]
  refine an (λh=>by cases h) λ_=>?_;simp only[go_sem,simprocAttr];refine da (.inl rfl) ?_;simp only[go_sem,simprocAttr];exact .inr ⟨by rw[i];exact a,by rw[i],[],by rw[i];exact⟨rfl,rfl⟩⟩
 have a:(clCheck s).2.2=0:=by simpa using J
 have F:=rU a;have L:=F.len;have hw:IntKind.i64.wrap ((s.colours.length:Int)-1)=(s.colours.length:Int)-1:=am (by omega) (by omega);refine an (λ_=>?_) (λh=>by cases h);simp only[a,hw,go_sem,simprocAttr];refine aU (e6 0 ((s.colours.length:Int)-1) [start] false (by simp)) ?_ (.bool _) ?_
 .simp only[go_sem,simprocAttr]
 simp only[bJ,cb,cn,nF,go_sem,simprocAttr];cases I:ak start 0 ((s.colours.length:Int)-1)
 .have i:dG s start l=4:=by rw[dG,if_pos a,I];rfl
  refine an (λh=>by cases h) λ_=>?_;simp only[go_sem,simprocAttr];refine da (.inl rfl) ?_;simp only[go_sem,simprocAttr];exact .inr ⟨by rw[i];decide,by rw[i],[],by rw[i];exact⟨rfl,rfl⟩⟩
 have A:dG s start l=r0 s l:=by rw[dG,if_pos a,I];rfl
 refine an (λ_=>?_) (λh=>by cases h);simp only[go_sem,simprocAttr];cases G:decide ((l.length:Int)<=7)
 .have u:¬l.length<=7:=by simp at G;omega
  have i:dG s start l=3:=by rw[A,r0,if_neg u]
  refine an (λh=>by cases h) λ_=>?_;simp only[go_sem,simprocAttr];refine da (.inl rfl) ?_;simp only[go_sem,simprocAttr];exact .inr ⟨by rw[i];decide,by rw[i],[],by rw[i];exact⟨rfl,rfl⟩⟩
 have u:l.length<=7:=by simp at G;omega
 have q:dG s start l=fg s l:=by rw[A,r0,if_pos u]
 refine an (λ_=>?_) (λh=>by cases h);simp only[go_sem,simprocAttr]
 refine bg [6,7,38,39] l (by omega) (τ:=Unit) (λo rest _=>fg s l=fg s rest) (λo _=>[(40,.p (.int .i64 o.length))])
  (λ_ _=>[x,.row 1 [.p (.int .i64 start)],.row 4 [.p s.pv],.row 1 [.ptr 6 1 0 0],.row 1 [.p (.int .i64 0)],.mp [],lU s l 5]) () rfl ?_ ?_ ?_
 .simp only[go_sem,simprocAttr];exact⟨z,show 5<7 by decide⟩
 .intro _ j;rw[fg]at j;simp only[go_sem,simprocAttr];refine xj ?_;simp only[go_sem,simprocAttr];exact .inl ⟨q.trans j,F,zz j,u⟩
 .intro o b r _ K j hx E D;rw[fg]at j;simp only[E,hx,go_sem,simprocAttr];refine cj (IZ s l b (by omega) _ _ _ _ _ _ _) (λv h e=>?_) (λv h e=>?_)
  .obtain⟨rfl,e⟩:=e;by_cases y:eJ s b=0
   .rw[if_pos y]at j e;cases e;simp only[go_sem,simprocAttr];refine aD K () j ?_;simp only[D,go_sem,simprocAttr];exact⟨z,show 5<7 by decide⟩
   .rw[if_neg y]at e;cases e
  .obtain⟨rfl,e⟩:=e;by_cases y:eJ s b=0
   .rw[if_pos y]at e;cases e
   .rw[if_neg y]at j e;cases e;simp only[go_sem,simprocAttr];refine da (.inr rfl) ?_;simp only[go_sem,simprocAttr];exact .inr ⟨by rw[q,j];exact y,by rw[q,j],_,by rw[q,j];exact⟨rfl,rfl⟩⟩
section
variable (need:Int->Nat->Option Int) (col:Nat->Int)
def cz (a b:Option (List Nat×Int)):Option (List Nat×Int):=
 match a,b with
 |none,b=>b
 |a,none=>a
 |some p,some q=>if q.2<p.2 then some q else some p
def gK (i:Nat) (n:Option Int) (r:Option (List Nat×Int)):Option (List Nat×Int):=
 match n,r with
 |some n,some (o,c)=>some (i::o,n+c)
 |_,_=>none
def ff:Nat->Int->List Nat->Option (List Nat×Int)
 |_,_,[]=>some ([],0)
 |0,_,_::_=>none
 |k+1,c,i::l=>(i::l).foldl (λa j=>cz a (gK j (need c j) (ff k (col j) ((i::l).erase j)))) none
def mq:Nat->List Nat->List (List Nat)
 |_,[]=>[[]]
 |0,_::_=>[]
 |k+1,i::l=>(i::l).flatMap λj=>(mq k ((i::l).erase j)).map (j::·)
def iU:Int->List Nat->Option Int
 |_,[]=>some 0
 |c,i::o=>match need c i,iU (col i) o with|some n,some m=>some (n+m)|_,_=>none
def ft (c:Int) (l:List (List Nat)) (a:Option (List Nat×Int)):Option (List Nat×Int):=l.foldl (λa o=>cz a ((iU need col c o).map λn=>(o,n))) a
theorem hG(a):cz a none=a:=by cases a<;>rfl
theorem eX(a):cz none a=a:=by cases a<;>rfl
theorem E0(a b c):cz (cz a b) c=cz a (cz b c):=by
 cases a with
 |none=>simp[eX]
 |some p=>cases b with
  |none=>simp[hG,eX]
  |some q=>cases c with
   |none=>simp[hG]
   |some r=>
    simp only[cz];by_cases i:q.2<p.2
    .rw[if_pos i];by_cases e:r.2<q.2
     .rw[if_pos e];simp only[];rw[if_pos e,if_pos (by omega)]
     .rw[if_neg e];simp only[];rw[if_neg e,if_pos i]
    .rw[if_neg i];by_cases e:r.2<q.2
     .rw[if_pos e]
     .rw[if_neg e];simp only[];rw[if_neg i,if_neg (by omega)]
theorem iR(c):∀(l) (a),ft need col c l a=cz a (ft need col c l none)
 |[],a=>by simp[ft,hG]
 |o::l,a=>by
  have i:=iR c l (cz a ((iU need col c o).map λn=>(o,n)));have e:=iR c l (cz none ((iU need col c o).map λn=>(o,n)));simp only[ft,o8]at i e |-;rw[i,e,eX,E0]
theorem FU(c)(l m)(a):ft need col c (l++m) a=cz (ft need col c l a) (ft need col c m none):=by
 rw[<-iR];simp[ft,zK]
theorem ED(i)(n)(a b):gK i n (cz a b)=cz (gK i n a) (gK i n b):=by
 cases n with
 |none=>cases a<;>cases b<;>simp[cz,gK]
 |some n=>cases a with
  |none=>simp[eX,gK]
  |some p=>cases b with
   |none=>simp[hG,gK]
   |some q=>
    simp only[cz,gK];by_cases h:q.2<p.2
    .rw[if_pos h,if_pos (by omega)]
    .rw[if_neg h,if_neg (by omega)]
theorem Bl(c)(i):∀(l),ft need col c (l.map (i::·)) none=gK i (need c i) (ft need col (col i) l none)
 |[]=>by cases need c i<;>simp[ft,gK]
 |o::l=>by
  have a:=Bl c i l;rw[bK];rw[show ft need col c ((i::o)::l.map (i::·)) none=ft need col c (l.map (i::·)) (cz none ((iU need col c (i::o)).map λn=>(i::o,n))) from rfl];rw[show ft need col (col i) (o::l) none=ft need col (col i) l (cz none ((iU need col (col i) o).map λn=>(o,n))) from rfl];rw[iR need col c _ (cz none _),a,iR need col (col i) l (cz none _),ED,eX,eX,iU];have e:(match need c i,iU need col (col i) o with|some n,some m=>some (n+m)|_,_=>none).map (λn=>(i::o,n))=gK i (need c i) ((iU need col (col i) o).map λn=>(o,n)):=by
   cases need c i<;>cases iU need col (col i) o<;>simp[gK]
  rw[e]
theorem ov{α β:Type}{f g:β->α->β}:∀{l:List α} {b},(∀b x,x∈l->f b x=g b x)->l.foldl f b=l.foldl g b
 |[],_,_=>rfl
 |x::l,b,h=>by rw[o8,o8,h b x (by simp),ov λb y a=>h b y (by simp[a])]
theorem Bk(c)(f):∀(l:List Nat) (a),ft need col c (l.flatMap f) a=l.foldl (λa j=>cz a (ft need col c (f j) none)) a
 |[],a=>rfl
 |j::l,a=>by rw[mC,FU,o8,<-Bk c f l,iR need col c (l.flatMap f) (cz a _),iR need col c (f j) a]
theorem B1:∀(k) (c) (l),l.length<=k->ft need col c (mq k l) none=ff need col k c l
 |k,c,[],h=>by cases k<;>simp[mq,ff,ft,iU,eX]
 |0,c,i::l,h=>by simp at h
 |k+1,c,i::l,h=>by
  rw[mq,ff,Bk];refine ov λa j e=>?_;rw[Bl,B1 k (col j) _ (by rw[List.length_erase_of_mem e];simp at h |-;omega)]
theorem xa(c):∀(l) (o) (n),ft need col c l none=some (o,n)->o∈l/\iU need col c o=some n
 |[],o,n,h=>by simp[ft]at h
 |x::l,o,n,h=>by
  rw[show ft need col c (x::l) none=ft need col c l (cz none ((iU need col c x).map λn=>(x,n))) from rfl,iR,eX]at h
  cases hx:iU need col c x with
  |none=>
   rw[hx,Option.map_none,eX]at h;have:=xa c l o n h
   exact⟨by simp[this.1],this.2⟩
  |some m=>
   rw[hx,jI]at h
   cases a:ft need col c l none with
   |none=>rw[a,hG]at h;cases h;exact⟨by simp,hx⟩
   |some q=>
    rw[a]at h;simp only[cz]at h;split at h
    .cases h;have:=xa c l _ _ a;exact⟨by simp[this.1],this.2⟩
    .cases h;exact⟨by simp,hx⟩
theorem wl:∀(k) (l o),o∈mq k l->o.Perm l
 |k,[],o,h=>by cases k<;>(simp[mq]at h;subst h;exact .refl _)
 |0,i::l,o,h=>by simp[mq]at h
 |k+1,i::l,o,h=>by
  rw[mq,xR]at h;obtain⟨j,e,h⟩:=h;obtain⟨p,a,rfl⟩:=cX.1 h;exact((wl k _ p a).cons j).trans (List.perm_cons_erase e).symm
end
end Cl
end Abs
end Go.Proofs.YtmndpldajflenaaGreatDoor
namespace Go.Proofs.YtmndpldajflenaaGreatDoor
namespace Abs
namespace Cl
def e7 (m:Nat):List Nat:=(List.range 7).filter m.testBit
set_option maxRecDepth 100000 in
theorem pS:∀m,m<128->∀i,i<7->m.testBit i=true->(e7 m).erase i=e7 (m-2^i)/\2^i<=m:=by decide
theorem EY{m i}:i∈e7 m↔i<7/\m.testBit i=true:=by simp[e7]
theorem B0:e7 0=[]:=by decide
set_option maxRecDepth 100000 in
theorem EX:∀m,m<128->e7 m=[]->m=0:=by decide
theorem tI(m):(e7 m).length<=7:=by have:=List.length_filter_le m.testBit (List.range 7);simpa[e7]using this
def kO:Int:=1099511627776
def ib:Option (List Nat×Int)->Int×Int
 |none=>(kO,-2)
 |some (o,n)=>(n,match o with|[]=>-1|i::_=>(i:Int))
section
variable (need:Int->Nat->Option Int) (col:Nat->Int)
def jQ (c:Int) (f:Nat->Int×Int) (p:Int×Int) (j:Nat):Int×Int:=
 match need c j with
 |none=>p
 |some n=>if n+(f j).1<p.1 then(n+(f j).1,(j:Int)) else p
def ny (B:Int) (a:Option (List Nat×Int)):Prop:=∀o n,a=some (o,n)->0<=n/\n<=B
theorem uq{B}{a b}(i:ny B a)(e:ny B b):ny B (cz a b):=by
 intro o n h
 cases a with
 |none=>cases b<;>first|exact e o n h|cases h
 |some p=>
  cases b with
  |none=>exact i o n h
  |some q=>
   simp only[cz]at h;split at h
   .exact e o n h
   .exact i o n h
theorem wd{α:Type}{B}{f:α->Option (List Nat×Int)}:∀(l:List α) (a),ny B a->(∀x,x∈l->ny B (f x))->ny B (l.foldl (λa x=>cz a (f x)) a)
 |[],a,e,_=>e
 |x::l,a,e,h=>wd l _ (uq e (h x (by simp))) λy i=>h y (by simp[i])
theorem mJ(a:∀c j n,need c j=some n->0<=n/\n<=30000):∀(k:Nat) (c) (l),ny (30000*(k)) (ff need col k c l)
 |k,c,[]=>by
  intro o n h
  cases k<;>(simp only[ff,iH,xN]at h;omega)
 |0,c,i::l=>by intro o n h;cases h
 |k+1,c,i::l=>by
  rw[ff];refine wd _ none (λo n h=>by cases h) λj v=>?_;intro o n h;unfold gK at h;split at h
  .rename_i n1 e c1 u q;have z:=a _ _ _ u;have y:=mJ a k (col j) _ e c1 q;cases h;omega
  .cases h
theorem Ks{B}(A:B+30000<kO)(l:∀c j n,need c j=some n->0<=n/\n<=30000)(c)(j){a r}{f}(v:ny (B+30000) a)(i:ny B r)(o:f j=ib r) :
  ib (cz a (gK j (need c j) r))=jQ need c f (ib a) j:=by
 unfold jQ
 cases u:need c j with
 |none=>simp only[gK,hG]
 |some n=>
  have y:=l _ _ _ u;dsimp only;rw[o]
  cases r with
  |none=>
   simp only[gK,hG];rw[if_neg]
   cases a with
   |none=>simp only[ib];omega
   |some p=>have:=v p.1 p.2 rfl;simp only[ib];omega
  |some q=>
   have z:=i q.1 q.2 rfl;simp only[gK]
   cases a with
   |none=>
    simp only[eX,ib]
    exact(if_pos (show n+q.2<kO by omega)).symm
   |some p=>
    simp only[cz,ib];by_cases e:n+q.2<p.2
    .rw[if_pos e];exact(if_pos e).symm
    .rw[if_neg e];exact(if_neg e).symm
theorem ym{B}(u:B+30000<kO)(i:∀c j n,need c j=some n->0<=n/\n<=30000)(c)(r:Nat->Option (List Nat×Int))(e:∀j,ny B (r j)):∀(l:List Nat) (a),ny (B+30000) a ->
  ib (l.foldl (λa j=>cz a (gK j (need c j) (r j))) a)=l.foldl (jQ need c λj=>ib (r j)) (ib a)
 |[],a,_=>rfl
 |j::l,a,q=>by
  rw[o8,o8,<-Ks need u i c j q (e j) rfl];refine ym u i c r e l _ (uq q ?_);intro o n h;unfold gK at h;split at h
  .rename_i n1 v c1 z y;have C:=i _ _ _ z;have A:=e j v c1 y;cases h;omega
  .cases h
def kM (c:Int) (m:Nat):Int×Int:=ib (ff need col 7 c (e7 m))
theorem u6:∀(k) (c) (l),l.length<=k->ff need col (k+1) c l=ff need col k c l
 |0,c,[],_=>rfl
 |0,c,_::_,h=>by simp at h
 |k+1,c,[],_=>rfl
 |k+1,c,i::l,h=>by
  rw[ff,ff];refine ov λa j e=>?_;rw[u6 k (col j) _ (by rw[List.length_erase_of_mem e];simp at h |-;omega)]
theorem wj(c):kM need col c 0=(0,-1):=by
 rw[kM,B0];rfl
theorem FT(q:∀c j n,need c j=some n->0<=n/\n<=30000)(c){m}(u:m<128)(A:m≠0) :
  kM need col c m=(e7 m).foldl (jQ need c λj=>kM need col (col j) (m-2^j)) (kO,-2):=by
 have z:=tI m;unfold kM;rw[<-u6 need col 7 c _ z]
 cases v:e7 m with
 |nil=>exact absurd (EX m u v) A
 |cons i l=>
  rw[ff];have y:=mJ need col q 7;rw[ym need (B:=210000) (by unfold kO;omega) q c (λj=>ff need col 7 (col j) ((i::l).erase j)) (λj o n h=>y _ _ o n h) (i::l) none (λo n h=>by cases h)];refine ov λa j e=>?_;rw[<-v]at e |-;rw[EY]at e;simp only[jQ,(pS m u j e.1 e.2).1]
theorem yY{f:Nat->Option (List Nat×Int)}:∀(l:List Nat) (a) (o) (n),l.foldl (λa j=>cz a (f j)) a=some (o,n)->a=some (o,n)\/∃j,j∈l/\f j=some (o,n)
 |[],a,o,n,h=>.inl h
 |j::l,a,o,n,h=>by
  rcases yY l _ o n h with h|⟨i,hi,h⟩
  .cases a with
   |none=>exact .inr ⟨j,by simp,(eX _).symm.trans h⟩
   |some p=>
    dsimp only at h
    cases e:f j with
    |none=>simp only[e,hG]at h;exact .inl h
    |some q=>
     simp only[e,cz]at h;split at h
     .exact .inr ⟨j,by simp,e.trans h⟩
     .exact .inl h
  .exact .inr ⟨i,by simp[hi],h⟩
theorem LT{k}{c}{i}{l}{o}{n}(h:ff need col (k+1) c (i::l)=some (o,n)):∃j a q,j∈i::l/\o=j::a/\ff need col k (col j) ((i::l).erase j)=some (a,q):=by
 rw[ff]at h;rcases yY _ none o n h with h|⟨j,u,h⟩
 .cases h
 .unfold gK at h;split at h
  .rename_i n1 e c1 y v;cases h;exact⟨j,e,c1,u,rfl,v⟩
  .cases h
theorem Iu{c}{m}(v:m<128)(A:m≠0){o}{n}(h:ff need col 7 c (e7 m)=some (o,n)):∃j e q,j<7/\m.testBit j=true/\o=j::e/\(kM need col c m).2=(j)/\ff need col 7 (col j) (e7 (m-2^j))=some (e,q):=by
 have z:=tI m;have y:kM need col c m=ib (some (o,n)):=by rw[kM,h]
 rw[<-u6 need col 7 c _ z]at h
 cases u:e7 m with
 |nil=>exact absurd (EX m v u) A
 |cons i l=>
  rw[u]at h;obtain⟨j,e,q,a,rfl,h'⟩:=LT need col h;rw[<-u]at a h';rw[EY]at a;rw[(pS m v j a.1 a.2).1]at h';exact⟨j,e,q,a.1,a.2,rfl,by rw[y];rfl,h'⟩
end
end Cl
end Abs
end Go.Proofs.YtmndpldajflenaaGreatDoor
namespace Go.Proofs.YtmndpldajflenaaGreatDoor
namespace Abs
namespace Cl
set_option maxRecDepth 4000
theorem DS(a):∀(c r),mR a c r=-1\/((r)<=mR a c r/\mR a c r<r+c)
 |0,r=>.inl rfl
 |c+1,r=>by
  rw[mR];split
  .rcases DS a c (r+1) with h|h
   .exact .inl h
   .exact .inr (by omega)
  .exact .inr (by omega)
theorem PB(s)(c)(b):-1<=iv s c b/\iv s c b<=3:=by
 have:=DS (nU s c b) 4 0;unfold iv;omega
def s8 (s:ClShop) (c:Int) (b:ClBatch):Option Int:=if iv s c b<0 then none else some (iv s c b*s.rinse)
theorem Ah{s}(e:ShopOk s){c}{b}{n}(h:s8 s c b=some n):0<=n/\n<=30000:=by
 unfold s8 at h;split at h
 .cases h
 .rename_i j;cases h;have i:=PB s c b;have a:=e.rinse;have:=zO i.2 a.2 a.1 (by omega:(0:Int)<=3);exact⟨wP (by omega) a.1,by omega⟩
end Cl
variable {P:Program} {M0:Nat->Prop}
theorem Dy{w:World}{b}{ob}(h:w.heap[b]?=some ob):w.putObj b ob=w:=by
 obtain⟨j,a⟩:=tQ.1 h;have:w.heap.setIfInBounds b ob=w.heap:=by
  apply qg
  .simp
  .intro i o l;rw[Array.getElem_setIfInBounds];split
   .rename_i e;subst e;exact a.symm
   .rfl
 unfold World.putObj;simp only[this]
theorem KG{S}(q:HOk P M0 S){id}{φ}(e:S.h[id]?=some (.memo φ)) :
  nB φ/\∃es,(∀p,p∈es->φ p.1 p.2=true)/\HOk P M0 ⟨S.m,S.h.set id (.mp es),S.w⟩/\Ev S.h.length S ⟨S.m,S.h.set id (.mp es),S.w⟩:=by
 obtain⟨y,es,z,bl,C,i,u,l,j⟩:=q.obj id _ e;have:=jx q (o:=.mp es) (ob:=.map C i) u e l (mr l) (by intro C T f;simp) (.inr (.inr ⟨by simp[AObj.tag],rfl,rfl⟩)) (λA hx=>⟨bl,C,i,rfl,hx,j.mono λv a=>A.keepS⟩);rw[Dy l]at this;exact⟨y,es,z,this⟩
theorem s9{S}(q:HOk P M0 S){id}{es}{φ}(y:nB φ)(z:∀p,p∈es->φ p.1 p.2=true)(e:S.h[id]?=some (.mp es)) :
  HOk P M0 ⟨S.m,S.h.set id (.memo φ),S.w⟩/\Ev S.h.length S ⟨S.m,S.h.set id (.memo φ),S.w⟩:=by
 obtain⟨bl,C,i,u,l,j⟩:=q.obj id _ e;have:=jx q (o:=.memo φ) (ob:=.map C i) u e l (mr l) (by intro C T f;simp) (.inr (.inr ⟨by simp[AObj.tag],rfl,rfl⟩)) (λA hx=>⟨y,es,z,bl,C,i,rfl,hx,j.mono λv a=>A.keepS⟩);rw[Dy l]at this;exact this
theorem IV{f}{args}{h}{R}{id}{φ}(u:h[id]?=some (.memo φ))
  (k:nB φ->∀es,(∀p,p∈es->φ p.1 p.2=true)->ar P f args (h.set id (.mp es)) (λr l=>(l=h\/l=h.set id (.mp es))/\R r h)):ar P f args h R:=by
 intro M0 m w z M y;have C:=(aB.1 u).1;obtain⟨I,es,J,F,A⟩:=KG M u;have:=k I es J M0 m w z F (y.imp λv a _ L=>A.keep L);refine⟨this.1,this.2.mono λe w' hh=>?_⟩;obtain⟨r,l,m',⟨hh,K⟩,E,G,i⟩:=hh;have o:Ev h.length ⟨m,h,w⟩ ⟨m',l,w'⟩:=A.trans (by simpa using E);rcases hh with rfl|rfl
 .exact⟨r,_,m',K,o,G,i⟩
 .have D:(h.set id (.mp es))[id]?=some (.mp es):=fZ C;obtain⟨q,j⟩:=s9 G (φ:=φ) I J D;have S:(h.set id (.mp es)).set id (.memo φ)=h:=by rw[oc];exact je u
  dsimp only at q j;rw[S]at q j;refine⟨r,h,m',K,o.trans (by simpa using j),q,?_⟩
  cases e with
  |returned v'=>
   cases r with
   |panic v=>exact i.elim
   |ret a=>exact j.keep i
  |panicked T=>
   cases r with
   |ret a=>exact i.elim
   |panic v=>
    obtain⟨v',O,N⟩:=i
    exact⟨v',O,j.keep (a:=.p v) N⟩
  |outgrown=>exact i.elim
theorem JW{A}{id}{es}{φ}(j:nB φ)(l:∀p,p∈es->φ p.1 p.2=true)(e:A.h[id]?=some (.mp es)):fS P A { A with h:=A.h.set id (.memo φ) }:=
 ⟨rfl,rfl,λM0 o b cs0 m a w i=>⟨m,by
  have:=s9 (S:=⟨m,A.h,w⟩) i.hok j l e
  exact i.ahead (m':=m) (h':=A.h.set id (.memo φ)) (w':=w) this.2 this.1⟩⟩
variable {H:Hints} {Q:Cont}
end Abs
end Go.Proofs.YtmndpldajflenaaGreatDoor
