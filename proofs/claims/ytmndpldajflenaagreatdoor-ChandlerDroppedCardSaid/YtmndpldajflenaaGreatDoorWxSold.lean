/- CONTRACTS: what of a kind a sample can have, in the program. No conditions but those in th -/
import Derived.Test.YtmndpldajflenaaGreatDoorWxChkX
set_option linter.all false
set_option maxHeartbeats 4000000
open Go.Proofs.Tryz
namespace Go.Proofs.YtmndpldajflenaaGreatDoor
namespace Abs
namespace Wx
set_option maxRecDepth 4000
structure TableOk (t:WxTable):Prop where
 props:t.props.length<=5
 propsL:1<=t.props.length
 kinds:t.kinds.length<=8
 kindsL:1<=t.kinds.length
 error:∀p,p∈t.props->0<=p.error/\p.error<=10000
 len:∀k,k∈t.kinds->k.props.length=t.props.length
 vals:∀k,k∈t.kinds->∀s,s∈k.props->0<=s.lo/\s.lo<=s.hi/\s.hi<=100000
 purity:1<=t.purity/\t.purity<=1000
 names:firstErr (kindErr t.props.length) (·.name) t.kinds []=none
theorem eY{α}{f:List ByteArray->α->Int}{o}:∀{l} {i},firstErr f o l i=none->∀(a) (x) (r),l=a++x::r->f (i++a.map o) x=0
 |[],_,_,a,x,r,e=>by simp at e
 |y::l,i,h,a,x,r,e=>by
  rw[firstErr]at h;split at h
  .rename_i q
   cases a with
   |nil=>
    obtain⟨j,_⟩:=zM e;subst j
    simpa using q
   |cons z a=>
    obtain⟨j,u⟩:=zM e;subst j;have:=eY h a x r u;simpa using this
  .cases h
theorem gy{α}{f:List ByteArray->α->Int}{j}:∀{l} {a} {i e},firstErr f j l a=some (i,e)->e≠0
 |[],_,_,_,h=>by cases h
 |y::r,a,i,e,h=>by
  rw[firstErr]at h;split at h
  .exact gy h
  .rename_i o;cases h;exact o
theorem Dj{t}(h:(wxCheck t).2.2=0):TableOk t:=by
 unfold wxCheck at h;split at h
 .rename_i D;split at h
  .rename_i C
   cases o:firstErr cD (·.name) t.props [] with
   |some q=>obtain⟨i,e⟩:=q;rw[o]at h;exact absurd h (gy o)
   |none=>
    rw[o]at h
    cases u:firstErr (kindErr t.props.length) (·.name) t.kinds [] with
    |some q=>obtain⟨i,e⟩:=q;simp only[tail,u]at h;exact absurd h (gy u)
    |none=>
     simp[ak]at D C;have z:∀k,k∈t.kinds->fG t.props.length k=0:=λk j=>by
      obtain⟨a,r,e⟩:=Mm j;have:=eY u a k r e;unfold kindErr at this;split at this
      .exact this
      .contradiction
     refine⟨by omega,by omega,by omega,by omega,λp y=>?_,λk j=>?_,λk j s A=>?_,by omega,u⟩
     .obtain⟨a,r,e⟩:=Mm y;have:=eY o a p r e;unfold cD kL at this;split at this
      .split at this
       .rename_i l;simpa[ak]using l
       .cases this
      .contradiction
     .have:=z k j;unfold fG at this;split at this
      .assumption
      .cases this
     .have:=z k j;unfold fG at this;split at this
      .split at this
       .cases this
       .split at this
        .cases this
        .rename_i l v;simp only[C3,not_exists,not_and]at l v;have l:=l s A;have v:=v s A;simp[lT,ak]at l v;omega
      .cases this
  .cases h
 .cases h
def j3 (n:Int):Bool:=n==-1||ak n 0 100000
def eM (t:WxTable) (rs:List Int):Int:=if(wxCheck t).2.2=0 then(if rs.length=t.props.length then(if rs.all j3=true then 0 else 7) else 3) else(wxCheck t).2.2
def qo (t:WxTable) (rs:List Int):PV:=.ptr 4 [.agg [.slice 2 (t.props.map WxProp.pv) false,.slice 2 (t.kinds.map WxKind.pv) false,.int .i64 t.purity,.slice 1 (rs.map aI) false]] 0 0
attribute [go_sem] qo
theorem Jg(t)(rs)(u:rs.length<1000000000):af Tryz.prog 348 [t.pv,.slice 1 (rs.map aI) false] (.tuple [if eM t rs=0 then qo t rs else .nilptr,.int .i64 (eM t rs)]):=by
 refine dd (ag func348 rfl) rfl ?_;simp only[go_sem,simprocAttr];refine ae (o3 t) rfl ?_;simp only[ah,go_sem,simprocAttr];cases A:((wxCheck t).2.2 != 0)
 rotate_left
 .have i:¬(wxCheck t).2.2=0:=by simpa using A
  simp only[eM,if_neg i,go_sem,simprocAttr]
 have i:(wxCheck t).2.2=0:=by simpa using A
 simp only[go_sem,simprocAttr];cases z:((rs.length:Int) != (t.props.length:Int))
 rotate_left
 .have j:¬rs.length=t.props.length:=by simp at z;omega
  simp only[eM,if_neg j,i,go_sem,simprocAttr]
 have j:rs.length=t.props.length:=by simp at z;omega
 have q:eM t rs=if rs.all j3=true then 0 else 7:=by rw[eM,if_pos i,if_pos j]
 rw[q];simp only[go_sem,simprocAttr];refine bg [1,2,26,27] rs u (τ:=Unit) (λa rest _=>rs.all j3=rest.all j3) (λa _=>[(28,.p (.int .i64 a.length))]) (λ_ _=>[.row 3 [.p t.pv]]) () rfl ?_ ?_ ?_
 .simp only[go_sem,simprocAttr]<;>simp
 .intro _ e;simp only[e,HV,go_sem,simprocAttr]
 .intro a n r _ C e hx v l;rw[List.all_cons]at e;simp only[v,hx,go_sem,simprocAttr];cases o:(n != -1)
  .have:j3 n=true:=by simp[j3];simp at o;exact .inl o
   rw[this,zS]at e;simp only[go_sem,simprocAttr];refine aD C () e ?_;simp only[l,go_sem,simprocAttr]
  .have D:j3 n=ak n 0 100000:=by simp[j3];simp at o;simp[o]
   simp only[go_sem,simprocAttr];refine ae (e6 0 100000 [_] true (by simp)) rfl ?_;simp only[bJ,cb,cn,go_sem,simprocAttr];rw[D]at e;cases y:ak n 0 100000
   .rw[y,Bool.false_and]at e;simp only[e,go_sem,simprocAttr]
   .rw[y,zS]at e;simp only[go_sem,simprocAttr];refine aD C () e ?_;simp only[l,go_sem,simprocAttr]
theorem sR(a b:Int)(e:0<b):a / b=if a.tmod b<0 then a.tdiv b-1 else a.tdiv b:=by
 have i:=Int.tdiv_eq_ediv (a:=a) (b:=b);have l:=Int.tmod_eq_emod (a:=a) (b:=b);have v:=Int.emod_nonneg a (Int.ne_of_gt e);have u:=Int.emod_lt_of_pos a e;have o:b.sign=1:=Int.sign_eq_one_of_pos e;have q:(b.natAbs:Int)=b:=Int.natAbs_of_nonneg (HX e);rw[o]at i;by_cases j:0<=a\/b ∣ a
 .rw[if_pos j]at i l;rw[if_neg (by omega)];omega
 .rw[if_neg j]at i l;rw[if_pos (by omega)];omega
theorem uZ{a b B}(i:0<b)(o:-B<=a)(l:a<=B)(j:0<=B):-B<=a / b/\a / b<=B:=by
 refine⟨(zR i).2 ?_,?_⟩
 .have:B*1<=B*b:=sA (by omega) j;have e:-B*b=-(B*b):=by rw[C5]
  omega
 .rcases HW 0 a with h|h
  .exact zQ (Int.ediv_le_self b h) l
  .have:=C6 i h;rw[Int.zero_ediv]at this;omega
theorem lz(a b)(l:0<b)(q:-1000000000000000000<=a)(o:a<=1000000000000000000):af Tryz.prog 419 [.int .i64 a,.int .i64 b] (.int .i64 (a / b)):=by
 refine aa (ag func419 rfl) rfl ?_;have i:¬b=0:=by omega
 have y:=uZ l q o (by omega);have e:=sR a b l;have v:IntKind.i64.wrap (a.tdiv b)=a.tdiv b:=by
  split at e
  .exact am (by omega) (by omega)
  .exact am (by omega) (by omega)
 simp only[i,v,go_sem,simprocAttr];cases j:decide (a.tmod b<0)
 .rw[if_neg (by simpa using j)]at e;simp only[e,go_sem,simprocAttr]
 .rw[if_pos (by simpa using j)]at e;have u:IntKind.i64.wrap (a.tdiv b-1)=a.tdiv b-1:=am (by omega) (by omega);simp only[e,u,go_sem,simprocAttr]
def aF (s:Span):Prop:=0<=s.lo/\s.lo<=s.hi/\s.hi<=100000
theorem Sj(x y)(r e)(a b c d)(h)(j:h[a]?=some (.row 2 [.p x.pv]))(i:h[b]?=some (.row 2 [.p y.pv]))(C:h[c]?=some (.row 1 [.p (.int .i64 r)]))(A:h[d]?=some (.row 1 [.p (.int .i64 e)]))
  (hx:aF x) (z:aF y) (D:0<=r/\r<=100000) (E:0<=e/\e<=10000) :
  ar Tryz.prog 402 [.ptr a 1 0 0,.ptr b 1 0 0,.ptr c 1 0 0,.ptr d 1 0 0] h (λq h'=>q=.ret (.p (.tuple [.int .i64 (x.lo-y.lo),.int .i64 (1000*(y.lo-r-e))]))/\h'=h):=by
 refine au (ag func402 rfl) rfl ?_;unfold aF at hx z;have v:IntKind.i64.wrap (x.lo-y.lo)=x.lo-y.lo:=am (by omega) (by omega);have u:IntKind.i64.wrap (y.lo-r)=y.lo-r:=am (by omega) (by omega);have o:IntKind.i64.wrap (y.lo-r-e)=y.lo-r-e:=am (by omega) (by omega);have l:IntKind.i64.wrap (1000*(y.lo-r-e))=1000*(y.lo-r-e):=am (by omega) (by omega);simp only[Span.pv]at j i;simp only[j,i,C,A,v,u,o,l,go_sem,simprocAttr]
theorem Um(y x)(r e)(a b c d)(h)(j:h[a]?=some (.row 2 [.p y.pv]))(i:h[b]?=some (.row 2 [.p x.pv]))(C:h[c]?=some (.row 1 [.p (.int .i64 r)]))(A:h[d]?=some (.row 1 [.p (.int .i64 e)]))
  (hx:aF x) (z:aF y) (D:0<=r/\r<=100000) (E:0<=e/\e<=10000) :
  ar Tryz.prog 403 [.ptr a 1 0 0,.ptr b 1 0 0,.ptr c 1 0 0,.ptr d 1 0 0] h (λq h'=>q=.ret (.p (.tuple [.int .i64 (y.hi-x.hi),.int .i64 (1000*(r-e-y.hi))]))/\h'=h):=by
 refine au (ag func403 rfl) rfl ?_;unfold aF at hx z;have v:IntKind.i64.wrap (y.hi-x.hi)=y.hi-x.hi:=am (by omega) (by omega);have u:IntKind.i64.wrap (r-e)=r-e:=am (by omega) (by omega);have o:IntKind.i64.wrap (r-e-y.hi)=r-e-y.hi:=am (by omega) (by omega);have l:IntKind.i64.wrap (1000*(r-e-y.hi))=1000*(r-e-y.hi):=am (by omega) (by omega);simp only[Span.pv]at j i;simp only[j,i,C,A,v,u,o,l,go_sem,simprocAttr]
def HO (l:Span):Prop:=0<=l.lo/\l.lo<=300000000/\-300000000<=l.hi/\l.hi<=300000000
theorem zY{l}{q}(e:HO l)(j:-300000000<=q.2)(i:q.2<=300000000):HO (cJ l q):=by
 unfold HO cJ at *
 split
 .rename_i h;have:=uZ (a:=-q.2) (B:=300000000) h (by omega) (by omega) (by omega);dsimp only;split<;>omega
 .split
  .rename_i h;have:=uZ (a:=-q.2) (b:=-q.1) (B:=300000000) (by omega) (by omega) (by omega) (by omega);dsimp only;split<;>omega
  .split
   .dsimp only;omega
   .exact e
theorem J4{s}(q)(h:0<q.1):cJ s q=⟨s.lo,if(-q.2) / q.1<s.hi then(-q.2) / q.1 else s.hi⟩:=by rw[cJ,if_pos h]
theorem J3{s}(q)(h:¬0<q.1)(a:q.1<0):cJ s q=⟨if s.lo < -((-q.2) / (-q.1)) then -((-q.2) / (-q.1)) else s.lo,s.hi⟩:=by rw[cJ,if_neg h,if_pos a]
theorem J2{s}(q)(h:¬0<q.1)(e:¬q.1<0)(a:0<q.2):cJ s q=⟨s.lo,s.lo-1⟩:=by rw[cJ,if_neg h,if_neg e,if_pos a]
theorem J1{s}(q)(h:¬0<q.1)(e:¬q.1<0)(a:¬0<q.2):cJ s q=s:=by rw[cJ,if_neg h,if_neg e,if_neg a]
theorem Nj(l x y)(r e)(i a b c d)(h)(hi:h[i]?=some (.row 2 [.p l.pv]))(ha:h[a]?=some (.row 2 [.p x.pv]))(hb:h[b]?=some (.row 2 [.p y.pv]))(hc:h[c]?=some (.row 1 [.p (.int .i64 r)]))(K:h[d]?=some (.row 1 [.p (.int .i64 e)]))
  (f) (hf:h[f]?=some (.row 1 [.func (.func 402) [] [.ptr a 1 0 0,.ptr b 1 0 0,.ptr c 1 0 0,.ptr d 1 0 0],.func (.func 403) [] [.ptr b 1 0 0,.ptr a 1 0 0,.ptr c 1 0 0,.ptr d 1 0 0]]))
  (Y:i≠a) (X:i≠b) (V:i≠c) (U:i≠d) (T:i≠f) (S:HO l) (hx:aF x) (hy:aF y) (hr:0<=r/\r<=100000) (he:0<=e/\e<=10000) :
  ar Tryz.prog 404 [.ptr i 1 0 0,.slice f 2 0 2] h (λq h'=>q=.ret (.p (.tuple []))/\h'=h.set i (.row 2 [.p (cJ (cJ l (x.lo-y.lo,1000*(y.lo-r-e))) (y.hi-x.hi,1000*(r-e-y.hi))).pv])):=by
 refine au (ag func404 rfl) rfl ?_;have hv:=hx;have hw:=hy
 unfold aF at hv hw;have a6:i<h.length:=(aB.1 hi).1;have E:∀v,(h.set i v)[i]?=some v:=λv=>fZ a6;have I:∀v j,i≠j->(h.set i v)[j]?=h[j]?:=λv j hj=>db hj;have G:=zY (q:=(x.lo-y.lo,1000*(y.lo-r-e))) S (by dsimp only;omega) (by dsimp only;omega);have a2:x.lo-y.lo=((x.lo-y.lo,1000*(y.lo-r-e)):Int×Int).1:=rfl;have a0:1000*(y.lo-r-e)=((x.lo-y.lo,1000*(y.lo-r-e)):Int×Int).2:=rfl;have a1:y.hi-x.hi=((y.hi-x.hi,1000*(r-e-y.hi)):Int×Int).1:=rfl;have Z:1000*(r-e-y.hi)=((y.hi-x.hi,1000*(r-e-y.hi)):Int×Int).2:=rfl;generalize a5:((x.lo-y.lo,1000*(y.lo-r-e)):Int×Int)=o at G a2 a0 |-;generalize a4:((y.hi-x.hi,1000*(r-e-y.hi)):Int×Int)=u at a1 Z |-;have R:-300000000<=o.2/\o.2<=300000000/\-300000000<=o.1/\o.1<=300000000:=by rw[<-a5];dsimp only;omega
 have O:-300000000<=u.2/\u.2<=300000000/\-300000000<=u.1/\u.1<=300000000:=by rw[<-a4];dsimp only;omega
 simp only[hf,go_sem,simprocAttr]
 refine fo [0,8,9] (σ:=Nat×Span) (λq=>(q=(0,l)\/q=(1,cJ l o)\/q=(2,cJ (cJ l o) u))) (λq=>2-q.1)
  (λq=>[(10,.p (.int .i64 q.1))]) (λq=>h.set i (.row 2 [.p q.2.pv])) (0,l) (.inl rfl) (nH hi).symm ?_ ?_
 .simp only[go_sem,simprocAttr]
 rintro⟨k,s⟩ L
 have w0:IntKind.i64.wrap (1:Int)=1:=rfl;have w2:IntKind.i64.wrap (2:Int)=2:=rfl;have z:∀n:Int,-300000000<=n->n<=300000000->IntKind.i64.wrap (-n)=-n:=λn h1 h2=>am (by omega) (by omega);rcases L with L|L|L
 .obtain⟨ek,es⟩:=Prod.mk.inj L;have N:=es.symm;subst ek;subst N;have hz:∀v,(h.set i v)[f]?=_:=λv=>(I v f T).trans hf;simp only[hz,go_sem,simprocAttr];refine cq (Sj x y r e a b c d _ (by rw[I _ _ Y];exact ha) (by rw[I _ _ X];exact hb) (by rw[I _ _ V];exact hc) (by rw[I _ _ U];exact K) hx hy hr he) ?_;rw[a2,a0];have a3:∀v,(h.set i v)[i]?=some v:=E;by_cases c1:0<o.1
  .have A:decide (0<o.1)=true:=by simpa using c1
   simp only[A,z _ R.1 R.2.1,E,go_sem,simprocAttr]
   (first|refine ae (lz (-o.2) o.1 c1 (by omega) (by omega)) rfl ?_|refine ax (lz (-o.2) o.1 c1 (by omega) (by omega)) rfl ?_)
   simp only[E,oc,go_sem,simprocAttr];refine br (1,cJ l o) (.inr (.inl rfl)) (by dsimp only;omega) ?_ ?_
   .simp only[go_sem,simprocAttr];rw[J4 (s:=l) o c1]
   .simp only[go_sem,simprocAttr]
  have A:decide (0<o.1)=false:=by simpa using c1
  by_cases F:o.1<0
  .have C:decide (o.1<0)=true:=by simpa using F
   have K:=uZ (a:=-o.2) (b:=-o.1) (B:=300000000) (by omega) (by omega) (by omega) (by omega);simp only[A,C,z _ R.1 R.2.1,z _ R.2.2.1 R.2.2.2,E,go_sem,simprocAttr]
   (first|refine ae (lz (-o.2) (-o.1) (by omega) (by omega) (by omega)) rfl ?_|refine ax (lz (-o.2) (-o.1) (by omega) (by omega) (by omega)) rfl ?_)
   simp only[E,oc,z _ K.1 K.2,go_sem,simprocAttr];refine br (1,cJ l o) (.inr (.inl rfl)) (by dsimp only;omega) ?_ ?_
   .simp only[go_sem,simprocAttr];rw[J3 (s:=l) o c1 F]
   .simp only[go_sem,simprocAttr]
  have C:decide (o.1<0)=false:=by simpa using F
  by_cases J:0<o.2
  .have D:decide (0<o.2)=true:=by simpa using J
   have M:IntKind.i64.wrap (l.lo-1)=l.lo-1:=am (by have:=S.1;have:=S.2.1;omega) (by have:=S.1;have:=S.2.1;omega);simp only[A,C,D,E,oc,M,go_sem,simprocAttr];refine br (1,cJ l o) (.inr (.inl rfl)) (by dsimp only;omega) ?_ ?_
   .simp only[go_sem,simprocAttr];rw[J2 (s:=l) o c1 F J]
   .simp only[go_sem,simprocAttr]
  have D:decide (0<o.2)=false:=by simpa using J
  simp only[A,C,D,go_sem,simprocAttr];refine br (1,cJ l o) (.inr (.inl rfl)) (by dsimp only;omega) ?_ ?_
  .simp only[go_sem,simprocAttr];rw[J1 (s:=l) o c1 F J]
  .simp only[go_sem,simprocAttr]
 .obtain⟨ek,es⟩:=Prod.mk.inj L;have N:=es.symm;subst ek;subst N;have hz:∀v,(h.set i v)[f]?=_:=λv=>(I v f T).trans hf;simp only[hz,go_sem,simprocAttr];refine cq (Um y x r e b a c d _ (by rw[I _ _ X];exact hb) (by rw[I _ _ Y];exact ha) (by rw[I _ _ V];exact hc) (by rw[I _ _ U];exact K) hx hy hr he) ?_;rw[a1,Z];have a3:∀v,(h.set i v)[i]?=some v:=E;by_cases c1:0<u.1
  .have A:decide (0<u.1)=true:=by simpa using c1
   simp only[A,z _ O.1 O.2.1,E,go_sem,simprocAttr]
   (first|refine ae (lz (-u.2) u.1 c1 (by omega) (by omega)) rfl ?_|refine ax (lz (-u.2) u.1 c1 (by omega) (by omega)) rfl ?_)
   simp only[E,oc,go_sem,simprocAttr];refine br (2,cJ (cJ l o) u) (.inr (.inr rfl)) (by dsimp only;omega) ?_ ?_
   .simp only[go_sem,simprocAttr];rw[J4 (s:=(cJ l o)) u c1]
   .simp only[go_sem,simprocAttr]
  have A:decide (0<u.1)=false:=by simpa using c1
  by_cases F:u.1<0
  .have C:decide (u.1<0)=true:=by simpa using F
   have K:=uZ (a:=-u.2) (b:=-u.1) (B:=300000000) (by omega) (by omega) (by omega) (by omega);simp only[A,C,z _ O.1 O.2.1,z _ O.2.2.1 O.2.2.2,E,go_sem,simprocAttr]
   (first|refine ae (lz (-u.2) (-u.1) (by omega) (by omega) (by omega)) rfl ?_|refine ax (lz (-u.2) (-u.1) (by omega) (by omega) (by omega)) rfl ?_)
   simp only[E,oc,z _ K.1 K.2,go_sem,simprocAttr];refine br (2,cJ (cJ l o) u) (.inr (.inr rfl)) (by dsimp only;omega) ?_ ?_
   .simp only[go_sem,simprocAttr];rw[J3 (s:=(cJ l o)) u c1 F]
   .simp only[go_sem,simprocAttr]
  have C:decide (u.1<0)=false:=by simpa using F
  by_cases J:0<u.2
  .have D:decide (0<u.2)=true:=by simpa using J
   have M:IntKind.i64.wrap ((cJ l o).lo-1)=(cJ l o).lo-1:=am (by have:=G.1;have:=G.2.1;omega) (by have:=G.1;have:=G.2.1;omega);simp only[A,C,D,E,oc,M,go_sem,simprocAttr];refine br (2,cJ (cJ l o) u) (.inr (.inr rfl)) (by dsimp only;omega) ?_ ?_
   .simp only[go_sem,simprocAttr];rw[J2 (s:=(cJ l o)) u c1 F J]
   .simp only[go_sem,simprocAttr]
  have D:decide (0<u.2)=false:=by simpa using J
  simp only[A,C,D,go_sem,simprocAttr];refine br (2,cJ (cJ l o) u) (.inr (.inr rfl)) (by dsimp only;omega) ?_ ?_
  .simp only[go_sem,simprocAttr];rw[J1 (s:=(cJ l o)) u c1 F J]
  .simp only[go_sem,simprocAttr]
 .obtain⟨rfl,rfl⟩:=Prod.mk.inj L;simp only[go_sem,simprocAttr]
def nO (t:WxTable) (rs:List Int) (a b:WxKind) (lo hi:Int):Span:=gH ⟨lo,hi⟩ t.props a.props b.props rs
theorem DH{ps:List WxProp}{xs ys:List Span}{r}{l}{k}{p}{x y}{n}(o:ps[k]?=some p)(hx:xs[k]?=some x)(j:ys[k]?=some y) :
  gH l (ps.drop k) (xs.drop k) (ys.drop k) (n::r)=gH (qh l x y p.error n) (ps.drop (k+1)) (xs.drop (k+1)) (ys.drop (k+1)) r:=by
 have v:=(aB.1 o)
 have u:=(aB.1 hx)
 have q:=(aB.1 j)
 obtain⟨i,rfl⟩:=v;obtain⟨e,rfl⟩:=u;obtain⟨a,rfl⟩:=q;rw[zL i,zL e,zL a,gH]
theorem SL(t)(rs)(i j:Nat)(a b)(lo hi)(z:TableOk t)(a0:rs.length=t.props.length)(L:rs.all j3=true)(E:t.kinds[i]?=some a)(D:t.kinds[j]?=some b)(a2:1<=lo/\lo<=1000)(a3:1<=hi/\hi<=1000) :
  af Tryz.prog 385 [qo t rs,.int .i64 i,.int .i64 j,.int .i64 lo,.int .i64 hi] (nO t rs a b lo hi).pv:=by
 refine aa (eI (by kernel_rfl) rfl TZ) rfl ?_;have T:(i:Int)<(t.kinds.length:Int):=by have:=(aB.1 E).1;omega
 have S:(j:Int)<(t.kinds.length:Int):=by have:=(aB.1 D).1;omega
 have a1:=z.props;have a5:=z.len a (aG E);have a4:=z.len b (aG D);simp only[Tx,go_sem,simprocAttr]
 refine bg [0,1,2,10,11,25,26] rs (by omega) (τ:=Span) (λe rest l=>HO l/\nO t rs a b lo hi=gH l (t.props.drop e.length) (a.props.drop e.length) (b.props.drop e.length) rest) (λe _=>[(27,.p (.int .i64 e.length))])
  (λ_ l=>[.row 2 [.p (.agg [.int .i64 0,.int .i64 0])],.row 2 [.p l.pv]]) ⟨lo,hi⟩ ⟨by unfold HO;dsimp only;omega,rfl⟩ ?_ ?_ ?_
 .simp only[go_sem,simprocAttr]
 .intro l ⟨_,o⟩;have:∀(l:Span) (ps:List WxProp) (xs ys:List Span),gH l ps xs ys ([]:List Int)=l:=λl ps xs ys=>by cases ps<;>cases xs<;>cases ys<;>rfl
  rw[this]at o;simp only[o,go_sem,simprocAttr]
 .intro e n r l F ⟨I,o⟩ hx R A;have U:=congrArg List.length F;simp only[aL,dB]at U;obtain⟨p,G⟩:∃p,t.props[e.length]?=some p:=⟨_,bO (by omega)⟩
  obtain⟨x,v⟩:∃x,a.props[e.length]?=some x:=⟨_,bO (by omega)⟩
  obtain⟨y,u⟩:∃y,b.props[e.length]?=some y:=⟨_,bO (by omega)⟩
  rw[DH G v u]at o;have C:(e++[n]).length=e.length+1:=by simp
  have hn:=kC.1 L n (by rw[F];simp);simp only[R,hx,go_sem,simprocAttr];cases X:(n==-1)
  .have hr:0<=n/\n<=100000:=by
    have:¬n=-1:=by simpa using X
    simpa[j3,this,ak]using hn
   have N:¬n=-1:=by omega
   have M:=z.error p (aG G);have K:=z.vals a (aG E) x (aG v);have J:=z.vals b (aG D) y (aG u);have l1:(e.length:Int)<(a.props.length:Int):=by omega
   have Z:(e.length:Int)<(b.props.length:Int):=by omega
   have Y:(e.length:Int)<(t.props.length:Int):=by omega
   rw[qh,if_neg N]at o;simp only[aO,E,D,T,S,G,v,u,l1,Z,Y,go_sem,simprocAttr];refine cq (Nj l x y n p.error 1 3 4 2 5 _ rfl rfl rfl rfl rfl 6 rfl (by decide) (by decide) (by decide) (by decide) (by decide) I K J hr M) ?_;simp only[go_sem,simprocAttr];have V:=zY (q:=(y.hi-x.hi,1000*(n-p.error-y.hi))) (zY (q:=(x.lo-y.lo,1000*(y.lo-n-p.error))) I (by dsimp only;omega) (by dsimp only;omega)) (by dsimp only;omega) (by dsimp only;omega);refine aD F _ ⟨V,by rw[C];exact o⟩ ?_;simp only[A,go_sem,simprocAttr]
  .have O:n=-1:=by simpa using X
   rw[qh,if_pos O]at o;simp only[go_sem,simprocAttr];refine aD F l ⟨I,by rw[C];exact o⟩ ?_;simp only[A,go_sem,simprocAttr]
end Wx
end Abs
end Go.Proofs.YtmndpldajflenaaGreatDoor
