/- CONTRACTS of the program's functions, and laws on what they return. No conditions but those in the theorems' heads. -/
import Derived.Test.YtmndpldajflenaaGreatDoorBdValX
import Derived.Test.YtmndpldajflenaaGreatDoorWxMixX
import Derived.Test.YtmndpldajflenaaGreatDoorHrReadX
import Derived.Test.YtmndpldajflenaaGreatDoorWkRunX
import Derived.Shelf.Strings.OnBuilder
set_option linter.all false
set_option maxHeartbeats 2000000
open Go.Proofs.Tryz renaming prog->TP
open Go.Proofs.Tryz
namespace Go.Proofs.YtmndpldajflenaaGreatDoor
namespace Abs
set_option maxRecDepth 4000
def na (l:List BdWax) (w:BdWish):Nat->List Int->Int->List (List Int)
 |0,pre,left=>if jL l w (pre++[left])=0 then [pre++[left]] else []
 |k+1,pre,left=>match w.parts[pre.length]? with
  |some s=>(iM s.lo (if s.hi<left then s.hi else left)).flatMap λn=>na l w k (pre++[n]) (left-n)
  |none=>[]
theorem xZ{a b c}(q:a<=b+1)(o:b<=c):iM a c=iM a b++iM (b+1) c:=by
 unfold iM;obtain⟨m,j⟩:∃m:Nat,(b+1-a).toNat=m:=⟨_,rfl⟩
 obtain⟨k,l⟩:∃k:Nat,(c+1-(b+1)).toNat=k:=⟨_,rfl⟩
 have e:(c+1-a).toNat=m+k:=by omega
 rw[e,j,l,List.range_add,bD,q6]
 congr 1
 apply Ia;intro i _;simp only[Function.comp];omega
theorem JZ{a b}(h:b<a):iM a b=[]:=by
 unfold iM;have:(b+1-a).toNat=0:=by omega
 rw[this];rfl
theorem tx{α β:Type}{f:α->List β}:∀{l:List α},(∀x,x∈l->f x=[])->l.flatMap f=[]
 |[],_=>rfl
 |x::l,h=>by rw[mC,h x (by simp),tx λy a=>h y (by simp[a])];rfl
theorem Nr{β:Type}{f:Int->List β}{lo hi left}(C:0<=lo)(o:∀n,n<lo\/hi<n->f n=[]):(iM 0 left).flatMap f=(iM lo (if hi<left then hi else left)).flatMap f:=by
 obtain⟨m,j⟩:∃m,(if hi<left then hi else left)=m:=⟨_,rfl⟩
 have A:m<=hi:=by rw[<-j];split<;>omega
 have q:m<=left:=by rw[<-j];split<;>omega
 have i:∀n,n<=left->m<n->hi<n:=λn v u=>by rw[<-j]at u;split at u<;>omega
 rw[j];rcases Int.lt_or_le m lo with h|h
 .rw[JZ h];exact tx λn e=>by
   have:=vE.1 e;by_cases v:n<lo
   .exact o n (.inl v)
   .exact o n (.inr (i n this.2 (by omega)))
 .have z:iM 0 left=iM 0 (lo-1)++iM lo left:=by have:=xZ (a:=0) (b:=lo-1) (c:=left) (by omega) (by omega);rwa [Int.sub_add_cancel]at this
  have y:iM lo left=iM lo m++iM (m+1) left:=xZ (by omega) q
  rw[z,y,ub,ub,tx (l:=iM 0 (lo-1)) λn e=>o n (.inl (by have:=vE.1 e;omega)),
   tx (l:=iM (m+1) left) λn e=>o n (.inr (by have:=vE.1 e;exact i n this.2 (by omega)))]
  simp
theorem Pw{l}{w}{a t}{n}{s}(e:w.parts[a.length]?=some s)(j:n<s.lo\/s.hi<n):jL l w (a++n::t)=1:=by
 have:nK w (a++n::t)=true:=by
  unfold nK;rw[C3];refine⟨(n,s),aG (i:=a.length) (List.getElem?_zip_eq_some.2 ⟨by simp,e⟩),?_⟩;simp[ak];omega
 rw[jL,if_pos this]
theorem Hn{l}{w}(hw:WishOk l.length w):∀(k) (a) (left),a.length+k+1=l.length->na l w k a left=((pe k left).map (a++·)).filter λr=>jL l w r==0
 |0,a,left,h=>by
  rw[na,pe]
  simp[List.filter_cons]
 |k+1,a,left,h=>by
  have o:a.length<w.parts.length:=by have:=hw.len;omega
  obtain⟨s,i⟩:∃s,w.parts[a.length]?=some s:=⟨_,bO o⟩
  have j:=hw.parts s (aG i);rw[na,i,pe];dsimp only;have e:∀n,na l w k (a++[n]) (left-n)=(((pe k (left-n)).map (n::·)).map (a++·)).filter λr=>jL l w r==0:=λn=>by
   rw[Hn hw k (a++[n]) (left-n) (by simp;omega)];simp[js]
  simp only[e];have:((((iM 0 left).flatMap λn=>(pe k (left-n)).map (n::·)).map (a++·)).filter λr=>jL l w r==0)=(iM 0 left).flatMap λn=>(((pe k (left-n)).map (n::·)).map (a++·)).filter λr=>jL l w r==0:=by
   rw[List.map_flatMap,List.filter_flatMap]
  rw[this];symm;refine Nr j.1 λn u=>?_;rw[List.filter_eq_nil_iff];intro r q;simp only[q6,cX,Function.comp]at q;obtain⟨t,_,rfl⟩:=q;rw[Pw i u];decide
theorem Nt{l}{w}(a:BdWaxesOk l)(hw:WishOk l.length w):na l w (l.length-1) [] 20=fits l w:=by
 rw[Hn hw _ _ _ (by have:=a.len;simp;omega)];simp[fits]
def vb (l:List BdWax):PV:=.ptr 1 [fN l] 0 0
def u7 (w:BdWish):PV:=.ptr 5 [w.pv] 0 0
attribute [go_sem] vb u7
def l3 (l:List BdWax) (w:BdWish) (n0 id:Nat) (lo:Heap) (cur:List Int) (ext:Heap):Heap:=
 lo++(.row 1 [.ref .yl id]::.row 1 (cur.map λx=>.p (aI x))::.row 1 [.slice (n0+1) l.length 0 l.length] ::
  .row 1 [.func (.func 395) [] [.p (vb l),.ptr (n0+2) 1 0 0,.p (u7 w),.ptr n0 1 0 0,.ptr (n0+3) 1 0 0]]::ext)
theorem qP{lo:Heap}{a}(h:lo.length=a)(t)(j):(lo++t)[a+j]?=t[j]?:=by rw[cG (by omega)];congr 1;omega
theorem o5{lo:Heap}{a}(h:lo.length=a)(t):(lo++t)[a]?=t[0]?:=qP h t 0
theorem qO{lo:Heap}{a}(h:lo.length=a)(t)(j)(x):(lo++t).set (a+j) x=lo++t.set j x:=by
 rw[sH _ _ (by omega)];congr 2;omega
theorem Di{e a:List Int}{v c}(h:e.take a.length=a)(j:e[a.length]?=some c):(e.set a.length v).take (a.length+1)=a++[v]:=by
 have i:=(aB.1 j).1;rw[sG,List.take_set_of_le (by omega),h];simp[i]
theorem OX{l}{w}(hl:BdWaxesOk l)(hw:WishOk l.length w){id I}{N:Nat->Heap->Prop}{Fin:Heap->Prop}{all:List (List Int)}
  (hy:∀(k) (xs) (lo a0) (j),(all.map λr=>r.map aI)[k]?=some xs->N k lo->lo.length=I->a0[j]?=some (.row 1 (xs.map .p)) ->
   rT TP id [.slice (j+I) xs.length 0 xs.length] (lo++a0) (λr h'=>∃i ext,h'=i++a0++ext/\i.length=I /\
    ((r=.ret (.p (.bool true))/\N (k+1) i)\/(r=.ret (.p (.bool false))/\Fin i)))) :
  ∀(k) (a) (left) (lo) (E) (ext) (e) (tl),a.length+k+1=l.length->0<=left->left<=20->(∀n,n∈a->0<=n/\n<=20) ->
   E.length=l.length->E.take a.length=a->e<=all.length->all.drop e=na l w k a left++tl->lo.length=I->N e lo ->
   ar TP 395 [.p (.int .i64 a.length),.p (.int .i64 left),.p (vb l),.ptr (I+2) 1 0 0,.p (u7 w),.ptr I 1 0 0,.ptr (I+3) 1 0 0] (l3 l w I id lo E ext)
    (λr h'=>∃i o u,h'=l3 l w I id i o u/\i.length=I/\((r=.ret (.p (.bool true))/\o.length=l.length/\o.take a.length=a/\∃O,O<=all.length/\all.drop O=tl/\N O i) \/
     (r=.ret (.p (.bool false))/\Fin i)))
 |0,a,left,lo,E,ext,e,tl,h1,h2,h3,h4,V,X,U,G,F,C=>by
  refine au (ag func395 rfl) rfl ?_;have b6:=hl.len;have gg:=qP F;have g0:=o5 F;have ss:=qO F;have a3:IntKind.i64.wrap ((l.length:Int)-1)=(l.length:Int)-1:=G6 hl;have hc:(((a.length:Nat):Int)==(l.length:Int)-1)=true:=by simp;omega
  obtain⟨c,J⟩:∃c,E[a.length]?=some c:=⟨_,bO (by omega)⟩
  have a4:((a.length:Nat):Int)<(l.length:Int):=by omega
  have D:(E.map λx=>AV.p (aI x)).set a.length (.p (aI left))=(E.set a.length left).map λx=>AV.p (aI x):=by rw[CJ]
  have Y:E.set a.length left=a++[left]:=by
   have:=Di (v:=left) X J;rwa [fC (by simp;omega)]at this
  rw[Y]at D;simp only[aI]at D;have A:(a++[left]).length=l.length:=by simp;omega
  have a9:∀n,n∈a++[left]->0<=n/\n<=20:=λn M=>by
   rcases ck.1 M with M|M
   .exact h4 n M
   .simp at M;omega
  simp only[l3,gg,ss,a3,hc,J,a4,V,D,go_sem,simprocAttr];have b4:((a++[left]).map aI).take l.length=(a++[left]).map aI:=fC (by simp;omega);refine aU (Uy false hl hw A a9) ?_ (.int _ _) ?_
  .simp only[gg,A,go_sem,simprocAttr];exact congrArg (λx=>PV.slice 1 x false) b4
  simp only[go_sem,simprocAttr];rw[na]at G;cases hb:(jL l w (a++[left]) != 0)
  rotate_left
  .have a5:¬jL l w (a++[left])=0:=by simpa using hb
   rw[if_neg a5,lc]at G;simp only[go_sem,simprocAttr];first|exact⟨lo,a++[left],ext,rfl,F,.inl ⟨A,by simp,e,U,G,C⟩⟩|exact⟨lo,a++[left],ext,rfl,F,A,by simp,e,U,G,C⟩
  have a5:jL l w (a++[left])=0:=by simpa using hb
  rw[if_pos a5,H5]at G;have Z:all[e]?=some (a++[left]):=by rw[<-List.head?_drop,G];rfl
  have b9:e<all.length:=(aB.1 Z).1;have T:all.drop (e+1)=tl:=by rw[<-qe,G];rfl
  have a2:=hy e ((a++[left]).map aI) lo (.row 1 [.ref .yl id]::.row 1 ((a++[left]).map λx=>.p (aI x))::.row 1 [.slice (I+1) l.length 0 l.length] ::
   .row 1 [.func (.func 395) [] [.p (vb l),.ptr (I+2) 1 0 0,.p (u7 w),.ptr I 1 0 0,.ptr (I+3) 1 0 0]]::ext) 1 (by rw[cW,Z];rfl) C F (by simp)
  rw[dp,A,Nat.add_comm 1 I]at a2;simp only[aI,vb,u7,fN,BdWish.pv]at a2;simp only[gg,g0,go_sem,simprocAttr];refine o6 a2 (λv h' z=>?_) (λv h' z=>?_);rotate_left
  .obtain⟨_,_,_,_,z⟩:=z;rcases z with⟨z,_⟩|⟨z,_⟩<;>cases z
  obtain⟨i,u,rfl,k1,z⟩:=z;rcases z with⟨z,k2⟩|⟨z,k2⟩
  .cases z;simp only[go_sem,simprocAttr];first|exact⟨i,a++[left],ext++u,by simp[l3],k1,.inl ⟨A,by simp,e+1,by omega,T,k2⟩⟩|exact⟨i,a++[left],ext++u,by simp[],k1,A,by simp,e+1,by omega,T,k2⟩
  .cases z;simp only[go_sem,simprocAttr]
   first|exact⟨i,a++[left],ext++u,by simp[l3],k1,.inr k2⟩|exact⟨i,a++[left],ext++u,by simp[],k1,k2⟩
 |k+1,a,left,lo,E,ext,e,tl,h1,h2,h3,h4,V,X,U,G,F,C=>by
  refine au (ag func395 rfl) rfl ?_;have b6:=hl.len;have gg:=qP F;have g0:=o5 F;have ss:=qO F;have a3:IntKind.i64.wrap ((l.length:Int)-1)=(l.length:Int)-1:=G6 hl;have hc:(((a.length:Nat):Int)==(l.length:Int)-1)=false:=by simp;omega
  have b0:a.length<w.parts.length:=by have:=hw.len;omega
  have K:((a.length:Nat):Int)<(w.parts.length:Int):=by omega
  obtain⟨s,hs⟩:∃s,w.parts[a.length]?=some s:=⟨_,bO b0⟩
  have c3:=hw.parts s (aG hs);have b3:IntKind.i64.wrap (((a.length:Nat):Int)+1)=((a.length+1:Nat):Int):=bk (by omega) (by simp[ao];omega) (by omega);rw[na,hs]at G;dsimp only at G;obtain⟨m,hm⟩:∃m,(if s.hi<left then s.hi else left)=m:=⟨_,rfl⟩
  have c4:m<=left:=by rw[<-hm];split<;>omega
  have b8:(if s.hi<left then PV.int .i64 s.hi else PV.int .i64 left)=.int .i64 m:=by rw[<-hm];split<;>rfl
  rw[hm]at G;simp only[l3,a3,hc,hs,K,go_sem,simprocAttr]
  refine fo [0,1,3,4,6] (σ:=List Int×List Int×Heap×List Int×Heap×Nat)
   (λq=>iM s.lo m=q.1++q.2.1/\q.2.2.1.length=I/\q.2.2.2.1.length=l.length/\q.2.2.2.1.take a.length=a/\q.2.2.2.2.2<=all.length/\all.drop q.2.2.2.2.2=(q.2.1.flatMap λn=>na l w k (a++[n]) (left-n))++tl/\N q.2.2.2.2.2 q.2.2.1)
   (λq=>q.2.1.length) (λq=>[(10,.p (.int .i64 (s.lo+(q.1.length:Int))))]) (λq=>l3 l w I id q.2.2.1 q.2.2.2.1 q.2.2.2.2.1) ([],iM s.lo m,lo,E,ext,e) ⟨rfl,F,V,X,U,G,C⟩ (by simp only[l3,go_sem,simprocAttr]) ?_ ?_
  .simp only[go_sem,simprocAttr]<;>simp
  clear V X U G F C gg g0 ss e
  rintro⟨L,rest,i,o,u,e⟩ ⟨e1,F,V,X,U,G,C⟩
  dsimp only at e1 F V X U G C;have gg:=qP F;have g0:=o5 F;have ss:=qO F
  cases rest with
  |nil=>
   have A:=Pd s.lo m;rw[e1,bt]at A;have b7:¬s.lo+(L.length:Int)<=m:=by omega
   simp only[l3,hs,K,hm,b7,go_sem,simprocAttr]
   first|exact⟨i,o,u,rfl,F,.inl ⟨V,X,e,U,by simpa using G,C⟩⟩|exact⟨i,o,u,rfl,F,V,X,e,U,by simpa using G,C⟩
  |cons y r=>
   have b2:(iM s.lo m)[L.length]?=some y:=by rw[e1];simp
   obtain⟨b1,c2⟩:=Pe b2;have b5:s.lo+(L.length:Int)<=m:=by omega
   obtain⟨c,J⟩:∃c,o[a.length]?=some c:=⟨_,bO (by omega)⟩
   have a4:((a.length:Nat):Int)<(l.length:Int):=by omega
   have D:(o.map λx=>AV.p (aI x)).set a.length (.p (aI y))=(o.set a.length y).map λx=>AV.p (aI x):=by rw[CJ]
   have Y:(o.set a.length y).take (a.length+1)=a++[y]:=Di X J;simp only[aI]at D;have a6:IntKind.i64.wrap (left-y)=left-y:=am (by omega) (by omega);have a7:IntKind.i64.wrap (y+1)=y+1:=am (by omega) (by omega);rw[mC,dJ]at G
   have ih:=OX hl hw hy k (a++[y]) (left-y) i (o.set a.length y) u e ((r.flatMap λn=>na l w k (a++[n]) (left-n))++tl) (by simp;omega) (by omega) (by omega)
    (λn M=>by
     rcases ck.1 M with M|M
     .exact h4 n M
     .simp at M;omega) (by simpa using V) (by rw[aL];exact Y) U G F C
   rw[b1]at ih D a6 a7 Y;simp only[l3,gg,ss,hs,K,hm,b5,V,J,a4,D,b3,a6,go_sem,simprocAttr];simp only[l3,vb,u7,fN,BdWish.pv,aI,aL,aV]at ih;refine cj ih (λv h' z=>?_) (λv h' z=>?_);rotate_left
   .obtain⟨_,_,_,_,_,z⟩:=z;rcases z with⟨z,_⟩|⟨z,_⟩<;>cases z
   obtain⟨a1,S,R,rfl,k1,z⟩:=z;rcases z with⟨z,k2,k3,a8,k4,k5,k6⟩|⟨z,k2⟩
   .cases z;simp only[go_sem,simprocAttr];refine br (L++[y],r,a1,S,R,a8) ⟨by simp[e1],k1,k2,?_,k4,k5,k6⟩ (by simp) rfl ?_
    .have:=congrArg (List.take a.length) k3;rw[List.take_take,fa rfl]at this;rwa [CF (by simp)]at this
    .simp only[a7,aL,aV,go_sem,simprocAttr];omega
   .cases z;simp only[go_sem,simprocAttr];first|exact⟨a1,S,R,rfl,k1,.inr k2⟩|exact⟨a1,S,R,rfl,k1,k2⟩
def zb (l:List BdWax) (w:BdWish):PV:=.func (.func 394) [] [vb l,u7 w]
theorem Ni{l}{w}(q:BdWaxesOk l)(hw:WishOk l.length w):O6 TP (zb l w) 1 ((fits l w).map λr=>r.map aI):=by
 refine⟨_,_,_,rfl,λid M Fin o L G hi=>?_⟩;have K:=q.len;have J:=qP (lo:=o) rfl;have R:=o5 (lo:=o) rfl;have C:=qO (lo:=o) rfl;have u:((l.length:Nat):Int)<=(ao:Int):=by simp[ao];omega
 refine au (ag func394 rfl) rfl ?_;simp only[u,o9,dJ,aL,aV,J,C,go_sem,simprocAttr];have e:=OX q hw G (l.length-1) [] 20 o (List.replicate l.length 0) [] 0 [] (by simp;omega) (by omega) (by omega) (by simp) (by simp) (by simp) (by omega) (by rw[Nt q hw];simp) rfl hi;simp only[l3,vb,u7,fN,BdWish.pv,aI,List.map_replicate,dL,Int.cast_ofNat_Int]at e;refine cj e (λv h' a=>?_) (λv h' a=>?_);rotate_left
 .obtain⟨_,_,_,_,_,a⟩:=a;rcases a with⟨a,_⟩|⟨a,_⟩<;>cases a
 obtain⟨i,A,z,rfl,k1,a⟩:=a;have y:∀(k:Nat),k<=(fits l w).length->(fits l w).drop k=[]->k=(fits l w).length:=λk O I=>by
  have:=congrArg List.length I;simp at this;omega
 rcases a with⟨a,k2,N,j,F,E,D⟩|⟨a,k2⟩
 .cases a;simp only[go_sem,simprocAttr];refine⟨i,_,rfl,k1,.inl ?_⟩;have:=y j F E;simpa[<-this]using D
 .cases a;simp only[go_sem,simprocAttr];exact⟨i,_,rfl,k1,.inr k2⟩
theorem ES(l)(w):af TP 365 [fN l,w.pv] (zb l w):=by
 refine dd (ag func365 rfl) rfl ?_;simp only[zb,go_sem,simprocAttr]
theorem El(ps)(K)(id)(h)(j:h[id]?=some (.row 1 (ps.map λp=>.p (aI p.2))))(L:ps.length<=5) :
  ar TP 367 [.p (.slice 7 (ps.map λp=>p.1.pv) K),.slice id ps.length 0 ps.length] h (λr h'=>r=.ret (.p (p8 ps))/\h'=h):=by
 refine oU (ag func367 rfl) rfl ?_;have l:id<h.length:=(aB.1 j).1;have e:∀t,(h++t)[id]?=some (.row 1 (ps.map λp=>.p (aI p.2))):=λt=>by rw[bp l];exact j
 simp only[aI]at e;have G:=qP (lo:=h) rfl;have J:=o5 (lo:=h) rfl;have y:=qO (lo:=h) rfl;have E:∀t x,(h++t).set h.length x=h++t.set 0 x:=λt x=>y t 0 x;have q:((ps.length:Nat):Int)<=(ao:Int):=by simp[ao];omega
 have i:List.replicate ps.length rj=iA ps []:=by simp[iA]
 simp only[rj]at i;simp only[q,o9,i,go_sem,simprocAttr];refine Oh [1,5,11,12] ps (by omega) (τ:=Heap) (λ_ _ _=>True) (λa _=>[(13,.p (.int .i64 a.length))]) (λa ext=>h++(.row 8 (iA ps a)::ext)) [] trivial (by simp only[go_sem,simprocAttr]) ?_ ?_ ?_
 .simp only[go_sem,simprocAttr]
 .intro ext _;have z:(iA ps ps)=ps.map λp=>.p (cF p):=by simp[iA]
  simp only[cF]at z;simp only[z,go_sem,simprocAttr];rfl
 .intro a x r ext o _ hx v u;have F:=BY o;have C:=BZ o;have A:=BX o;simp only[rj]at C;simp only[cF]at A;have I:=o5 (lo:=ext) rfl;have D:∀t x,(ext++t).set ext.length x=ext++t.set 0 x:=λt x=>qO (lo:=ext) rfl t 0 x;simp only[v,hx,F,C,A,e,G,J,y,E,I,D,dJ,aL,go_sem,simprocAttr];refine Oj o _ trivial rfl ?_;simp only[u,go_sem,simprocAttr]
def eV (l:List BdWax) (r:List Int):Int:=cY jA (l.zip r)
def cV (pr:List Int->Int):Option (List Int)->List (List Int)->Option (List Int)
 |b,[]=>b
 |none,r::t=>cV pr (some r) t
 |some b,r::t=>if pr r<pr b then cV pr (some r) t else cV pr (some b) t
theorem nj(a):∀(t) (b) (r),cV a b (t++[r])=cV a (cV a b t) [r]
 |[],b,r=>by cases b<;>rfl
 |x::t,none,r=>by rw[hZ,cV,nj a t,cV]
 |x::t,some b,r=>by
  rw[hZ,cV,cV];split
  .rw[nj a t]
  .rw[nj a t]
theorem lP(a):∀(t) (b) (r),cV a b t=some r->b=some r\/r∈t
 |[],b,r,h=>by cases b<;>simp_all [cV]
 |x::t,none,r,h=>by
  rw[cV]at h;rcases lP a t _ r h with h|h
  .cases h;exact .inr (by simp)
  .exact .inr (by simp[h])
 |x::t,some b,r,h=>by
  rw[cV]at h;split at h
  .rcases lP a t _ r h with h|h
   .cases h;exact .inr (by simp)
   .exact .inr (by simp[h])
  .rcases lP a t _ r h with h|h
   .exact .inl h
   .exact .inr (by simp[h])
theorem uh{α:Type}{l:List α}{k}{x}(h:l[k]?=some x):l.take (k+1)=l.take k++[x]:=by
 rw[sG,h];rfl
def bR (l:List BdWax) (w:BdWish):List Int×Int×Int:=
 if iD l w=0 then
  match cV (eV l) none (fits l w) with
  |none=>([],0,9)
  |some b=>(b,eV l b,0)
 else([],0,iD l w)
def sn (v:List Int×Int×Int):PV:=.tuple [.slice 1 (v.1.map aI) false,.int .i64 v.2.1,.int .i64 v.2.2]
def pG:Option (List Int)->PV
 |none=>.nilslice
 |some b=>.slice 1 (b.map aI) false
def ma (l:List BdWax):Option (List Int)->Int
 |none=>0
 |some b=>eV l b
theorem LM(l)(w):af TP 298 [fN l,w.pv] (sn (bR l w)):=by
 refine gQ (eI (by kernel_rfl) rfl T3) rfl ?_;simp only[TA,go_sem,simprocAttr]
 (first|refine ae (SO l w) rfl ?_|refine ax (SO l w) rfl ?_)
 simp only[go_sem,simprocAttr];refine aK (λX=>?_) (λX=>?_)
 .have u:¬iD l w=0:=by simpa using X
  simp only[sn,bR,if_neg u,go_sem,simprocAttr];first|rfl|exact .inl rfl|exact⟨_,_,rfl,rfl,.inr ⟨rfl,1,rfl⟩,.inl rfl,.inl rfl,trivial⟩|exact⟨_,_,rfl,rfl,.inr ⟨rfl,1,rfl⟩,.inl rfl,trivial⟩|exact⟨_,_,rfl,rfl,.inl rfl,.inl rfl,trivial⟩|exact .inl (.inl rfl)|exact .inl (.inr ⟨rfl,1,rfl⟩)|exact .inr ⟨_,_,rfl,rfl,.inl rfl,.inl rfl,trivial⟩|exact .inr ⟨_,_,rfl,rfl,.inr ⟨rfl,1,rfl⟩,.inl rfl,trivial⟩|exact⟨1,rfl⟩|(simp;done)|(refine .inr ⟨_,_,rfl,rfl,?_⟩;repeat' (first|exact trivial|exact .inl rfl|exact .inr ⟨rfl,1,rfl⟩|refine⟨?_,?_⟩))
 have u:iD l w=0:=by simpa using X
 obtain⟨F,hw⟩:=A0 u;have a9:=F.len;simp only[go_sem,simprocAttr]
 (first|refine ae (ES l w) rfl ?_|refine ax (ES l w) rfl ?_)
 simp only[zb,go_sem,simprocAttr];have E:bR l w=match cV (eV l) none (fits l w) with|none=>([],0,9)|some b=>(b,eV l b,0):=by rw[bR,if_pos u]
 rw[E];have z:∀k b,cV (eV l) none ((fits l w).take k)=some b->RecOk l.length b:=λk b h=>by
  rcases lP _ _ _ _ h with h|h
  .cases h
  .exact(xv F (od h)).1
 refine Q0 (l:=(fits l w).map λr=>r.map aI) (λo k h=>h=[.row 1 [.p (fN l)],.row 5 [.p w.pv],.row 1 [.p (pG (cV (eV l) none ((fits l w).take k)))],.row 1 [.p (.int .i64 (ma l (cV (eV l) none ((fits l w).take k))))],.dblock,o]) (λ_ _=>False)
  rfl (by simp only[zb,go_sem,simprocAttr]) (Ni F hw) dh (by kernel_rfl) rfl (by kernel_rfl) (by kernel_rfl) ?_ ?_ ?_ ?_ (λ_ _ _ h=>h.elim)
 .rintro o k h rfl;simp
 .intro o;simp only[cV,pG,ma,go_sem,simprocAttr]
 .rintro oR oB oD k xs lo q j G rfl _ V
  rw[cW,bC]at G;obtain⟨r,G,rfl⟩:=G;have a:=(xv F (aG G)).1;have A:=s2 F a.rng;have a8:¬(r.map aI=[]):=by
   intro h;have:=congrArg List.length h;have I:=a.len;simp at this;subst this;simp at I;omega
  have y:r≠[]:=λh=>a8 (by rw[h];rfl);rw[uh G,nj];have e:=z k;generalize cV (eV l) none ((fits l w).take k)=Y at e;have J:(r.map aI).take r.length=r.map aI:=fC (by simp);have a7:((l.zip r).map λp=>p.1.pv)=l.map BdWax.pv:=zU BdWax.pv a.len;have a6:((l.zip r).map λp=>AV.p (aI p.2))=r.map λn=>AV.p (aI n):=zT (λn=>AV.p (aI n)) a.len;have Z:(l.zip r).length=r.length:=by simp[a.len]
  have L:∀U T S R O N,ar TP 367 [.p (fN l),.slice (j+6) r.length 0 r.length] (U::T::S::R::O::N::q) (λr' h'=>r'=.ret (.p (p8 (l.zip r)))/\h'=U::T::S::R::O::N::q):=λU T S R O N=>by
   have:=El (l.zip r) false (j+6) (U::T::S::R::O::N::q) (by rw[a6];simpa[js]using V) A.len;rwa [a7,Z]at this
  simp only[fN,p8]at L;simp only[go_sem,simprocAttr];refine cq (L _ _ _ _ _ _) ?_;simp only[go_sem,simprocAttr]
  (first|refine ae (u2 (l.zip r) false A) rfl ?_|refine ax (u2 (l.zip r) false A) rfl ?_)
  simp only[go_sem,simprocAttr];have v:cY jA (l.zip r)=eV l r:=rfl;rw[v]
  cases Y with
  |none=>
   simp only[pG,go_sem,simprocAttr];refine vj (KA r false y (by have:=a.len;omega)) ?_ ?_
   .simp only[V,J,go_sem,simprocAttr]
   simp only[go_sem,simprocAttr];first|refine⟨_,[],?_,rfl,.inl rfl⟩|refine⟨_,[],?_,rfl,rfl⟩
   simp only[cV,pG,ma,bt,go_sem,simprocAttr]
  |some b=>
   have C:=e b rfl;have D:¬(b.map aI=[]):=by
    intro h;have:=congrArg List.length h;have I:=C.len;simp at this;subst this;simp at I;omega
   simp only[pG,ma,D,go_sem,simprocAttr];cases K:decide (eV l r<eV l b)
   .have i:¬eV l r<eV l b:=by simpa using K
    simp only[go_sem,simprocAttr];first|refine⟨_,[],?_,rfl,.inl rfl⟩|refine⟨_,[],?_,rfl,rfl⟩
    simp only[if_neg i,cV,pG,ma,bt,go_sem,simprocAttr]
   .have i:eV l r<eV l b:=by simpa using K
    simp only[go_sem,simprocAttr];refine vj (KA r false y (by have:=a.len;omega)) ?_ ?_
    .simp only[V,J,go_sem,simprocAttr]
    simp only[go_sem,simprocAttr];first|refine⟨_,[],?_,rfl,.inl rfl⟩|refine⟨_,[],?_,rfl,rfl⟩
    simp only[if_pos i,cV,pG,ma,bt,go_sem,simprocAttr]
 .rintro o lo q rfl _
  have M:(fits l w).take (((fits l w).map λr=>r.map aI).length)=fits l w:=by simp
  rw[M];have e:=z (fits l w).length;rw[pw]at e;generalize cV (eV l) none (fits l w)=Y at e;simp only[go_sem,simprocAttr]
  cases Y with
  |none=>
   simp only[pG,sn,bN,go_sem,simprocAttr]
   first|rfl|exact .inl rfl|exact⟨_,_,rfl,rfl,.inr ⟨rfl,1,rfl⟩,.inl rfl,.inl rfl,trivial⟩|exact⟨_,_,rfl,rfl,.inr ⟨rfl,1,rfl⟩,.inl rfl,trivial⟩|exact⟨_,_,rfl,rfl,.inl rfl,.inl rfl,trivial⟩|exact .inl (.inl rfl)|exact .inl (.inr ⟨rfl,1,rfl⟩)|exact .inr ⟨_,_,rfl,rfl,.inl rfl,.inl rfl,trivial⟩|exact .inr ⟨_,_,rfl,rfl,.inr ⟨rfl,1,rfl⟩,.inl rfl,trivial⟩|exact⟨1,rfl⟩|(simp;done)|(refine .inr ⟨_,_,rfl,rfl,?_⟩;repeat' (first|exact trivial|exact .inl rfl|exact .inr ⟨rfl,1,rfl⟩|refine⟨?_,?_⟩))
  |some b=>
   have C:=e b rfl;have D:¬(b.map aI=[]):=by
    intro h;have:=congrArg List.length h;have I:=C.len;simp at this;subst this;simp at I;omega
   simp only[pG,ma,sn,D,bN,aO,go_sem,simprocAttr]
namespace Ch
def uL:List UInt8:=[108,111,116]
def dE:List UInt8:=[98,97,116,99,104]
def kw:List UInt8:=[100,114,111,112]
def vI:List UInt8:=[112,108,97,110]
def vH:List UInt8:=[112,111,117,114]
def nP:List UInt8:=[112,114,111,109,105,115,101]
def Am:List UInt8:=[98,111,120]
def vJ:List UInt8:=[108,111,111,107]
def vG:List UInt8:=[119,105,99,107]
def r7:List UInt8:=[98,108,101,110,100]
def r6:List UInt8:=[115,116,111,99,107]
def jo:List UInt8:=[116,101,115,116,10]
def kX:List UInt8:=[120]
def oH:List UInt8:=[111,107]
def Dc:List UInt8:=[110,111]
def Id:List UInt8:=[111,100,100]
def vv:List UInt8:=[98,114,111,107,101,110]
def OD:List UInt8:=[110,111,110,101]
def CN:List UInt8:=[112,117,114,101]
def vu:List UInt8:=[105,109,112,117,114,101]
def sQ:List UInt8:=[112,101,114,104,97,112,115]
def joinL:List (List UInt8)->List UInt8
 |[]=>[]
 |[x]=>x
 |x::y::r=>x++32::joinL (y::r)
inductive Cmd where
 |lot (name kind:List UInt8) (grams:Int) (rs:List Int)
 |batch (name colour lot:List UInt8) (grams:Int)
 |drop (name:List UInt8)
 |plan (c:List UInt8)
 |pour (c:List UInt8)
 |test (text:List UInt8)
 |promise (kind:List UInt8)
 |box (kind:List UInt8) (hours:Int)
 |look
 |wick (kind:List UInt8) (a b c d:Int)
 |blend (a b c:Int)
 |stock
def Cmd.written:Cmd->Bool
 |.lot _ _ _ _=>true
 |.batch _ _ _ _=>true
 |.drop _=>true
 |.pour _=>true
 |.test _=>true
 |.box _ _=>true
 |_=>false
def fz (l:List UInt8):Option Int:=match jf l with|some v=>if 0<=v/\v<=10000000/\bH v=l then some v else none|none=>none
def cM (l:List UInt8):Option (List UInt8):=if nameOk (bs l)=true then some l else none
def eW:List (List UInt8)->Option (List Int)
 |[]=>some []
 |w::r=>if w=kX then(eW r).map (-1::·) else match fz w with|some n=>(eW r).map (n::·)|none=>none
def fy (v:List UInt8) (ws:List (List UInt8)):Option Cmd:=
 if v=uL then(match ws with|n::k::g::r=>(match cM n,cM k,fz g,eW r with|some n,some k,some g,some r=>some (.lot n k g r)|_,_,_,_=>none)|_=>none)
 else if v=dE then(match ws with|[n,c,l,g]=>(match cM n,cM c,cM l,fz g with|some n,some c,some l,some g=>some (.batch n c l g)|_,_,_,_=>none)|_=>none)
 else if v=kw then(match ws with|[n]=>(cM n).map .drop|_=>none)
 else if v=vI then(match ws with|[n]=>(cM n).map .plan|_=>none)
 else if v=vH then(match ws with|[n]=>(cM n).map .pour|_=>none)
 else if v=nP then(match ws with|[n]=>(cM n).map .promise|_=>none)
 else if v=Am then(match ws with|[n,g]=>(match cM n,fz g with|some n,some g=>some (.box n g)|_,_=>none)|_=>none)
 else if v=vJ then(match ws with|[]=>some .look|_=>none)
 else if v=vG then(match ws with|[n,a,b,c,d]=>(match cM n,fz a,fz b,fz c,fz d with|some n,some a,some b,some c,some d=>some (.wick n a b c d)|_,_,_,_,_=>none)|_=>none)
 else if v=r7 then(match ws with|[a,b,c]=>(match fz a,fz b,fz c with|some a,some b,some c=>some (.blend a b c)|_,_,_=>none)|_=>none)
 else if v=r6 then(match ws with|[]=>some .stock|_=>none)
 else none
def gr (l:List UInt8):Except Int Cmd:=
 if 400<l.length then .error 3
 else if l.take 5=jo then .ok (.test (l.drop 5))
 else match aM 32 l with
  |[]=>.error 6
  |v::ws=>match fy v ws with|some c=>.ok c|none=>.error 6
def bl (s:ByteArray):List UInt8:=s.data.toList
def eS (b:ChBooks):List ClBatch:=b.batches.map λx=>⟨x.colour,x.grams⟩
def mj (n:Int):List UInt8:=if n=1 then CN else if n=2 then sQ else vu
def Mx (l:List ChBatch):Int:=(l.map (·.grams)).sum
def ia (s:ChShop) (a b c:Int):BdWish:=⟨List.replicate s.blend.length ⟨0,20⟩,⟨a,b⟩,⟨0,c⟩⟩
def lA (s:ChShop) (b:ChBooks) (c:List UInt8):Except Int (List Nat×Int):=
 let k:=aq (λx:ClColour=>x.name==bs c) s.colour.colours 0
 if k<0 then .error 4
 else if Cl.dG s.colour k (eS b)≠0 then .error (Cl.dG s.colour k (eS b))
 else match Cl.zy s.colour k (eS b) with|none=>.error 9|some q=>.ok q
def f' (s:ChShop) (b:ChBooks) (kind:List UInt8):Except Int (Int×Int):=
 let k:=aq (λx:HrKind=>x.name==bs kind) s.hour.kinds 0
 if k<0 then .error 4
 else if(eh s.hour b.tests k).2≠0 then .error (eh s.hour b.tests k).2
 else .ok (k,(eh s.hour b.tests k).1)
def qt (l:List ChBatch) (i:Nat):List UInt8:=match l[i]? with|some x=>bl x.name|none=>[]
def aR (s:ChShop) (b:ChBooks):Cmd->Except Int (ChBooks×List UInt8)
 |.lot name kind grams rs=>
  let k:=aq (λx:WxKind=>x.name==bs kind) s.wax.kinds 0
  if b.lots.any (λx=>x.name==bs name)=true then .error 5
  else if k<0 then .error 4
  else if ¬(1<=grams/\grams<=100000) then .error 7
  else if(Wx.bq s.wax rs k).2.2≠0 then .error (Wx.bq s.wax rs k).2.2
  else if ¬b.lots.length<8 then .error 3
  else .ok ({ b with lots:=b.lots++[⟨bs name,k,grams,rs⟩] },joinL [mj (Wx.bq s.wax rs k).2.1,bH (Wx.bq s.wax rs k).1.lo,bH (Wx.bq s.wax rs k).1.hi])
 |.batch name colour lot grams=>
  let c:=aq (λx:ClColour=>x.name==bs colour) s.colour.colours 0
  let i:=aq (λx:ChLot=>x.name==bs lot) b.lots 0
  if b.batches.any (λx=>x.name==bs name)=true then .error 5
  else if c<0 then .error 4
  else if i<0 then .error 4
  else if ¬(1<=grams/\grams<=100000) then .error 7
  else match b.lots[i.toNat]? with
   |none=>.error 4
   |some x=>
    if ¬grams<=x.grams then .error 9
    else if ¬b.batches.length<7 then .error 3
    else .ok ({ b with lots:=b.lots.set i.toNat { x with grams:=x.grams-grams },batches:=b.batches++[⟨bs name,c,i,grams⟩] },oH)
 |.drop name=>
  let i:=aq (λx:ChBatch=>x.name==bs name) b.batches 0
  if i<0 then .error 4
  else match b.batches[i.toNat]? with
   |none=>.error 4
   |some y=>match b.lots[y.lot.toNat]? with
    |none=>.error 4
    |some x=>.ok ({ b with lots:=b.lots.set y.lot.toNat { x with grams:=x.grams+y.grams },batches:=b.batches.eraseIdx i.toNat },oH)
 |.plan c=>match lA s b c with
  |.error e=>.error e
  |.ok (o,n)=>.ok (b,joinL (o.map (qt b.batches)++[bH n]))
 |.pour c=>match lA s b c with
  |.error e=>.error e
  |.ok (_,n)=>.ok ({ b with poured:=b.poured+Mx b.batches,batches:=[],lost:=b.lost+n },bH n)
 |.test text=>
  if(aN s.hour text).2≠0 then .error (aN s.hour text).2
  else if ¬b.tests.length<8 then .error 3
  else .ok ({ b with tests:=b.tests++[(aN s.hour text).1] },
   if(dH s.hour (aN s.hour text).1).2=0 then joinL [bH (dH s.hour (aN s.hour text).1).1.lo,bH (dH s.hour (aN s.hour text).1).1.hi]
   else joinL (Id::(j7 s.hour (aN s.hour text).1).1.map bH))
 |.promise kind=>match f' s b kind with
  |.error e=>.error e
  |.ok (_,n)=>.ok (b,bH n)
 |.box kind hours=>match f' s b kind with
  |.error e=>.error e
  |.ok (k,n)=>if ¬hours<=n then .error 9 else if ¬b.boxes.length<20 then .error 3 else .ok ({ b with boxes:=b.boxes++[⟨k,hours⟩] },oH)
 |.look=>.ok (b,if(ct s.hour b.tests b.boxes).1=[] then oH else joinL (vv::(ct s.hour b.tests b.boxes).1.map bH))
 |.wick kind a b' c d=>
  let i:=aq (λx:Wax=>x.name==bs kind) s.wick.waxes 0
  if i<0 then .error 4
  else match s.wick.waxes[i.toNat]? with
   |none=>.error 4
   |some x=>
    if(Wk.eb s.wick ⟨i,a,b',⟨c,d⟩⟩ x).2≠0 then .error (Wk.eb s.wick ⟨i,a,b',⟨c,d⟩⟩ x).2
    else match s.wick.wicks[(Wk.eb s.wick ⟨i,a,b',⟨c,d⟩⟩ x).1.toNat]? with
     |none=>.error 4
     |some w=>.ok (b,bl w.name)
 |.blend a b' c=>
  if(bR s.blend (ia s a b' c)).2.2≠0 then .error (bR s.blend (ia s a b' c)).2.2
  else .ok (b,joinL ((bR s.blend (ia s a b' c)).1.map bH++[bH (bR s.blend (ia s a b' c)).2.1]))
 |.stock=>.ok (b,if b.lots=[] then OD else joinL (b.lots.flatMap λx=>[bl x.name,bH x.grams]))
def eB (s:ChShop) (b:ChBooks) (l:List UInt8):Except Int (ChBooks×List UInt8×Bool):=
 match gr l with
 |.error e=>.error e
 |.ok c=>match aR s b c with|.error e=>.error e|.ok (b',a)=>.ok (b',a,c.written)
end Ch
end Abs
open Go.Shelf
def lays156_ren:Go.Shelf.Ren:=⟨λ| 156=>103|165=>147|166=>102|169=>104|240=>146|241=>186|276=>185|277=>231|n=>n,λ| 0=>0|3=>3|4=>4|5=>5|9=>9|20=>20|31=>72|37=>205|70=>219|72=>221|75=>223|76=>224|80=>139|127=>281|164=>320|n=>n,λ| n=>n⟩
theorem lays156:Go.Proofs.Lays.n156 TP lays156_ren:={
 mixed:=by kernel_rfl
 f156:=func103.trans (congrArg some (by kernel_rfl))
 f165:=func147.trans (congrArg some (by kernel_rfl))
 f166:=func102.trans (congrArg some (by kernel_rfl))
 f169:=func104.trans (congrArg some (by kernel_rfl))
 f240:=func146.trans (congrArg some (by kernel_rfl))
 f241:=func186.trans (congrArg some (by kernel_rfl))
 f276:=func185.trans (congrArg some (by kernel_rfl))
 f277:=func231.trans (congrArg some (by kernel_rfl))
 t0:=underlying0
 a0:=isAgg0
 z0:=sizeOf0
 v0:=zeroValue0
 t3:=underlying3
 a3:=isAgg3
 z3:=sizeOf3
 v3:=zeroValue3
 t4:=underlying4
 a4:=isAgg4
 z4:=sizeOf4
 v4:=zeroValue4
 t9:=underlying9
 a9:=isAgg9
 z9:=sizeOf9
 v9:=zeroValue9
 t20:=underlying20
 a20:=isAgg20
 z20:=sizeOf20
 v20:=zeroValue20
 t31:=underlying72
 a31:=isAgg72
 z31:=sizeOf72
 v31:=zeroValue72
 t37:=underlying205
 a37:=isAgg205
 z37:=sizeOf205
 v37:=zeroValue205
 t70:=underlying219
 a70:=isAgg219
 z70:=sizeOf219
 v70:=zeroValue219
 t72:=underlying221
 a72:=isAgg221
 z72:=sizeOf221
 v72:=zeroValue221
 t75:=underlying223
 a75:=isAgg223
 z75:=sizeOf223
 v75:=zeroValue223
 t76:=underlying224
 a76:=isAgg224
 z76:=sizeOf224
 v76:=zeroValue224
 t127:=underlying281
 a127:=isAgg281
 z127:=sizeOf281
 v127:=zeroValue281
 t164:=underlying320
 a164:=isAgg320
 z164:=sizeOf320
 v164:=zeroValue320 }
theorem lays156X:Go.Proofs.Builder.Extra TP lays156_ren:={
 sizeBuilder:=by kernel_rfl
 liesBuilder:=by kernel_rfl
 t5:=by kernel_rfl
 a5:=isAgg5
 z5:=sizeOf5
 v5:=zeroValue5
 infoByte:=by kernel_rfl
 cellsByte:=by kernel_rfl
 sizeByte:=by kernel_rfl
 neB5:=Nat.ne_of_beq_eq_false (by kernel_rfl) }
namespace Abs
open Go.RowKit Go.Sort
set_option maxRecDepth 100000
theorem Qi{w:World}{b k}{v}(h:w.cell? ⟨b,k,none⟩=some v):b<w.heap.size:=by
 unfold World.cell? at h;rcases cx b w.heap.size with h'|h'
 .exact h'
 .simp[xM h']at h
theorem UJ(l)(i)(fl)(hl:l.length<=1000000)(hb:(Lib.join l i).length<=1000000000) :
  af TP 103 [.slice 1 (l.map λx=>.str (bs x)) fl,.str (bs i)] (.str (bs (Lib.join l i))):=by
 intro M0 w M hM hg X;obtain⟨u,v,rfl,N,S⟩:=yp X;cases S;refine⟨(λw'=>iZ func103 T9 _ w'),?_⟩;have C:(l.map bs).map (λx:ByteArray=>x.data.toList)=l:=by rw[q6];simp[js,gh]
 have D:∀(e:Ending) (w':World),e=.returned (.string ⟨(Lib.join ((l.map bs).map (·.data.toList)) (bs i).data.toList).toArray⟩)/\Below w.heap.size w w'->∃v',e=Ending.returned v'/\RepP M0 w' v' (.str (bs (Lib.join l i)))/\Fr [] w w':=by
  rintro e w' ⟨rfl,h⟩
  refine⟨_,rfl,?_,lM h⟩;rw[C,gh];exact .str _
 generalize y:l.map (λx=>PV.str (bs x))=xs at N
 cases N with
 |slice f I J E a0 a2 V T=>
  rename_i b off len cap;subst I;have A:xs.length=(l.map bs).length:=by rw[<-y];simp
  cases z:l with
  |nil=>
   subst z;simp only[cf]at y;subst y
   exact(Any.strings_Join_none lays156 lays156X (some ⟨b,off,none⟩) cap (bs i) w).mono λe w' h=>D e w' ⟨h.1,h.2▸Below.refl _ _⟩
  |cons R l0=>
   rw[<-z];have o:∀(j:Nat) x,(l.map bs)[j]?=some x->w.cell? ⟨b,off+j,none⟩=some (.string x):=by
    intro j x F;have G:xs[j]?=some (.str x):=by
     rw[<-y,cW];rw[cW]at F
     cases O:l[j]? with
     |none=>rw[O]at F;cases F
     |some q=>rw[O]at F;cases F;rfl
    have a1:=(aB.1 G).1;have K:=T j 0 _ _ G rfl;have Z:=V j (by omega);rw[Z];have Y:f (j*1+0)=f j:=by simp
    rw[Y]at K;cases U:f j<;>rw[U]at K<;>cases K;rfl
   have L:b<w.heap.size:=Qi (o 0 (bs R) (by rw[z];rfl));have:=Any.strings_Join lays156 lays156X b off cap (l.map bs) (bs i) w o L (by simp;omega) (by rw[<-A];exact J) (by rw[C,gh];omega);rw[<-A]at this
   exact this.mono D
 |empty E=>
  rename_i a cap;have z:l=[]:=by cases l with|nil=>rfl|cons x r=>simp at y
  subst z;exact(Any.strings_Join_none lays156 lays156X a cap (bs i) w).mono λe w' h=>D e w' ⟨h.1,h.2▸Below.refl _ _⟩
end Abs
end Go.Proofs.YtmndpldajflenaaGreatDoor
