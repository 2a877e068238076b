/- CONTRACTS of the program's functions, and laws on what they return. No conditions but those in the theorems' heads. -/
import Derived.Test.YtmndpldajflenaaGreatDoorLibGoX
set_option linter.all false
set_option maxHeartbeats 1000000
open Go.Proofs.Tryz renaming prog->TP
open Go.Proofs.Tryz
namespace Go.Proofs.YtmndpldajflenaaGreatDoor
namespace Abs
set_option maxRecDepth 4000
theorem QM(lo hi n):af TP 316 [.int .i64 n,.ptr 1 [.int .i64 lo] 0 0,.ptr 1 [.int .i64 hi] 0 0] (.bool (!ak n lo hi)):=by
 refine aa (ag func316 rfl) rfl ?_;simp only[go_sem,simprocAttr];refine aK (λa=>?_) (λa=>?_)<;>simp only[a,go_sem,simprocAttr]<;>simp_all [ak];rw[<-decide_not];congr 1;simp
theorem jb(lo hi)(l:List Int)(b)(a:l.length<1000000000):af TP 251 [.int .i64 lo,.int .i64 hi,.slice 1 (l.map aI) b] (.bool (l.any λn=>!ak n lo hi)):=by
 refine aa (ag func251 rfl) rfl ?_;simp only[go_sem,simprocAttr];refine aU (jC (fv:=.func (.func 316) [] [.ptr 1 [.int .i64 lo] 0 0,.ptr 1 [.int .i64 hi] 0 0]) l (λn=>!ak n lo hi) b 1 rfl a λn _=>⟨_,_,_,rfl,QM lo hi n⟩) ?_ (.bool _) ?_
 .simp only[go_sem,simprocAttr]
 .simp only[go_sem,simprocAttr]
def gZ (last:Int):List BdPoint->Int
 |[]=>0
 |p::r=>if(ak p.parts 0 20&&ak p.add (-300) 300)=true then(if p.parts<=last then 2 else gZ p.parts r) else 7
def dS (c:List BdPoint):Int:=if 6<c.length then 3 else gZ (-1) c
theorem NY(c)(b)(n):af TP 254 [.agg [.slice 2 (c.map BdPoint.pv) b,.int .i64 n]] (.int .i64 (dS c)):=by
 refine aa (ag func254 rfl) rfl ?_;simp only[go_sem,simprocAttr];refine aK (λi=>?_) (λi=>?_)<;>simp only[i,go_sem,simprocAttr]
 .have:6<c.length:=by simp at i;omega
  simp[dS,this]
 .have v:¬6<c.length:=by simp at i;omega
  rw[show dS c=gZ (-1) c by simp[dS,v]];refine bg [11,12] c (by omega) (τ:=Int) (λe rest a=>gZ (-1) c=gZ a rest) (λe a=>[(13,.p (.int .i64 e.length)),(3,.p (.int .i64 a))]) (λ_ _=>[.row 2 [.p (.agg [.slice 2 (c.map BdPoint.pv) b,.int .i64 n])]]) (-1) rfl ?_ ?_ ?_
  .simp only[go_sem,simprocAttr]<;>simp
  .intro a j;simp only[go_sem,simprocAttr];rw[j];rfl
  .intro e x r a y j hx u q;simp only[u,hx,go_sem,simprocAttr];refine ae (jb 0 20 [_] true (by simp)) rfl ?_;simp only[bJ,cb,cn,go_sem,simprocAttr];cases l:ak x.parts 0 20
   .simp only[go_sem,simprocAttr];rw[j,gZ,l];rfl
   simp only[go_sem,simprocAttr];refine ae (jb (-300) 300 [_] true (by simp)) rfl ?_;simp only[bJ,cb,cn,go_sem,simprocAttr];cases o:ak x.add (-300) 300
   .simp only[go_sem,simprocAttr];rw[j,gZ,l,o];rfl
   simp only[go_sem,simprocAttr];refine aK (λi=>?_) (λi=>?_)<;>simp only[i,go_sem,simprocAttr]
   .rw[j,gZ,l,o,qf,if_pos rfl,if_pos (by simpa using i)]
   .refine aD y x.parts (by rw[j,gZ,l,o,qf,if_pos rfl,if_neg (by simpa using i)]) ?_;simp only[q,go_sem,simprocAttr]
def uE (done:List BdPoint):Int:=match done.getLast? with|some p=>p.parts|none=>-1
theorem LD(c)(b):af TP 163 [.slice 2 (c.map BdPoint.pv) b] (.int .i64 (dS c)):=by
 refine aa (ag func163 rfl) rfl ?_;simp only[go_sem,simprocAttr];refine aK (λj=>?_) (λj=>?_)<;>simp only[j,go_sem,simprocAttr]
 .have:6<c.length:=by simp at j;omega
  simp[dS,this]
 .have F:¬6<c.length:=by simp at j;omega
  rw[show dS c=gZ (-1) c by simp[dS,F]];refine ej [0] c (by omega) (τ:=Unit) (λa rest _=>gZ (-1) c=gZ (uE a) rest) (λa _=>[(3,.p (.int .i64 a.length))]) () rfl ?_ ?_ ?_
  .simp only[go_sem,simprocAttr]<;>simp
  .intro _ l;simp only[go_sem,simprocAttr];rw[l];rfl
  .intro a x r _ y l hx i A;simp only[i,hx,go_sem,simprocAttr];refine ae (AF _ _ _) rfl ?_;simp only[go_sem,simprocAttr];cases o:ak x.parts 0 20
   .simp only[go_sem,simprocAttr];rw[l,gZ,o];rfl
   simp only[hx,i,go_sem,simprocAttr];refine ae (AF _ _ _) rfl ?_;simp only[go_sem,simprocAttr];cases v:ak x.add (-300) 300
   .simp only[go_sem,simprocAttr];rw[l,gZ,o,v];rfl
   have G:0<=x.parts:=by simp[ak]at o;omega
   rcases C0 a with rfl|⟨e,d,q⟩
   .simp only[go_sem,simprocAttr];refine aD y () (by rw[l,gZ,o,v,qf,if_pos rfl,if_neg (by simp[uE];omega)];rfl) ?_;simp only[go_sem,simprocAttr]
   .rw[C1]at q;subst q;have C:decide ((0:Int)<(((e++[d]).length:Nat):Int))=true:=by simp<;>omega
    have z:IntKind.i64.wrap ((((e++[d]).length:Nat):Int)-1)=((e.length:Nat):Int):=by
     rw[cl (by simp<;>omega) (by simp[ao]at i |-;omega)];simp
    have E:c[e.length]?=some d:=by rw[y];simp
    have u:((e.length:Nat):Int)<(c.length:Int):=by simp at i;omega
    have D:uE (e++[d])=d.parts:=by simp[uE]
    rw[D]at l;simp only[C,hx,z,E,i,u,go_sem,simprocAttr];refine aK (λj=>?_) (λj=>?_)<;>simp only[j,go_sem,simprocAttr]
    .rw[l,gZ,o,v,qf,if_pos rfl,if_pos (by simpa using j)]
    .refine aD y () (by rw[l,gZ,o,v,qf,if_pos rfl,if_neg (by simpa using j)];simp[uE]) ?_;simp only[A,go_sem,simprocAttr]
def ci (s:Span) (a b:Int):Bool:=ak s.lo a b&&ak s.hi a b
def aJ (s:Span):Bool:=decide (s.hi<s.lo)
def bM (before:List ByteArray) (x:BdWax):Int:=
 if ai before x.name=0 then
  if(ak x.price 0 100000&&(ci x.melt 0 2000&&ci x.shrink 0 1000))=true then
   if(aJ x.melt||aJ x.shrink)=true then 2 else dS x.curve
  else 7
 else ai before x.name
def va:Option (Int×Int)->Int×Int×Int
 |none=>(0,0,0)
 |some (i,e)=>(2,i,e)
def bdCheck (l:List BdWax):Int×Int×Int:=
 if ak l.length 1 5=true then va (firstErr bM (·.name) l []) else(1,0,3)
theorem LN(x y:BdWax):af TP 253 [y.pv,.ptr 7 [x.pv] 0 0] (.bool (y.name==x.name)):=by
 refine aa (ag func253 rfl) rfl ?_;simp only[go_sem,simprocAttr]
theorem kg{e}{x}{a b c}(l:nameOk x.name=a)(j:e.any (λt=>t==x.name)=b)(i:(ak x.price 0 100000&&(ci x.melt 0 2000&&ci x.shrink 0 1000))=c) :
  bM e x=if a=true then(if b=true then 5 else if c=true then(if(aJ x.melt||aJ x.shrink)=true then 2 else dS x.curve) else 7) else 6:=by
 unfold bM ai;rw[l,j,i];cases a<;>cases b<;>rfl
theorem xC(l):af TP 194 [fN l] (ah (bdCheck l)):=by
 refine aa (ag func194 rfl) rfl ?_;simp only[go_sem,simprocAttr];refine ae (jb 1 5 [_] true (by simp)) rfl ?_;simp only[bJ,cb,cn,go_sem,simprocAttr];cases D:ak l.length 1 5
 .simp only[ah,bdCheck,D,go_sem,simprocAttr]
 have X:l.length<=5:=by simp[ak]at D;omega
 have q:bdCheck l=va (firstErr bM (·.name) l []):=by simp[bdCheck,D]
 rw[q];simp only[go_sem,simprocAttr];refine ej [0,11,12] l (by omega) (τ:=Unit) (λa rest _=>firstErr bM (·.name) l []=firstErr bM (·.name) rest (a.map (·.name))) (λa _=>[(13,.p (.int .i64 a.length)),(4,.p (.int .i64 0))]) () rfl ?_ ?_ ?_
 .simp only[go_sem,simprocAttr]<;>simp
 .intro _ E;simp only[go_sem,simprocAttr];rw[E];rfl
 .intro a x r _ U E hx J G;have L:((a.length:Nat):Int)<=(l.length:Int):=by omega
  have F:(l.map BdWax.pv).take a.length=a.map BdWax.pv:=by
   rw[U,bD,fa (by simp)]
  have K:(a.length==l.length)=false:=by simp;omega
  have M:firstErr bM (·.name) l []=if bM (a.map (·.name)) x=0 then firstErr bM (·.name) r ((a++[x]).map (·.name)) else some ((a.length:Int),bM (a.map (·.name)) x):=by
   rw[E,firstErr];simp
  have i:∀e,bM (a.map (·.name)) x=e->e≠0->va (firstErr bM (·.name) l [])=(2,(a.length:Int),e):=by
   intro e V I;rw[M,V,if_neg I];rfl
  simp only[J,hx,go_sem,simprocAttr];refine ae (jh x.name) rfl ?_;simp only[go_sem,simprocAttr];cases u:nameOk x.name
  .simp only[ah,i 6 (by rw[kg u rfl rfl];rfl) (by decide),go_sem,simprocAttr]
  simp only[L,vp,fT,F,K,go_sem,simprocAttr];refine aU (AN (fv:=.func (.func 253) [] [.ptr 7 [x.pv] 0 0]) a (λy=>y.name==x.name) false 7 rfl (by omega) λy _=>⟨_,_,_,rfl,LN x y⟩) ?_ (.bool _) ?_
  .simp only[go_sem,simprocAttr]
  simp only[go_sem,simprocAttr];have j:(a.map (·.name)).any (λt=>t==x.name)=a.any (λy=>y.name==x.name):=by simp only[l5,js]
  cases v:a.any (λy=>y.name==x.name);rotate_left
  .simp only[ah,i 5 (by rw[kg u (j.trans v) rfl];rfl) (by decide),go_sem,simprocAttr]
  simp only[go_sem,simprocAttr];refine ae (jb 0 100000 [_] true (by simp)) rfl ?_;simp only[bJ,cb,cn,go_sem,simprocAttr];have o:(ak x.price 0 100000&&(ci x.melt 0 2000&&ci x.shrink 0 1000))=false->bM (a.map (·.name)) x=7:=λh=>by rw[kg u (j.trans v) h];rfl
  cases T:ak x.price 0 100000
  .simp only[ah,i 7 (o (by rw[T];rfl)) (by decide),go_sem,simprocAttr]
  simp only[go_sem,simprocAttr];refine ae (jb 0 2000 [_,_] true (by simp)) rfl ?_;simp only[bJ,cb,cn,<-ko,go_sem,simprocAttr];cases S:(ak x.melt.lo 0 2000&&ak x.melt.hi 0 2000)
  .simp only[ah,i 7 (o (by rw[ci,S];simp)) (by decide),go_sem,simprocAttr]
  simp only[go_sem,simprocAttr];refine ae (jb 0 1000 [_,_] true (by simp)) rfl ?_;simp only[bJ,cb,cn,<-ko,go_sem,simprocAttr];cases R:(ak x.shrink.lo 0 1000&&ak x.shrink.hi 0 1000)
  .simp only[ah,i 7 (o (by rw[ci,ci,R];simp)) (by decide),go_sem,simprocAttr]
  have A:(ak x.price 0 100000&&(ci x.melt 0 2000&&ci x.shrink 0 1000))=true:=by rw[ci,ci,T,S,R];rfl
  simp only[go_sem,simprocAttr];cases C:decide (x.melt.hi<x.melt.lo);rotate_left
  .simp only[ah,i 2 (by rw[kg u (j.trans v) A,aJ,C];rfl) (by decide),go_sem,simprocAttr]
  simp only[go_sem,simprocAttr];cases O:decide (x.shrink.hi<x.shrink.lo);rotate_left
  .simp only[ah,i 2 (by rw[kg u (j.trans v) A,aJ,aJ,C,O];rfl) (by decide),go_sem,simprocAttr]
  simp only[go_sem,simprocAttr];refine ae (NY x.curve false 0) rfl ?_;simp only[go_sem,simprocAttr];have hw:bM (a.map (·.name)) x=dS x.curve:=by rw[kg u (j.trans v) A,aJ,aJ,C,O];rfl
  cases N:(dS x.curve != 0)
  .have z:dS x.curve=0:=by simpa using N
   simp only[go_sem,simprocAttr];refine aD U () (by rw[M,if_pos (hw.trans z)]) ?_;simp only[G,z,go_sem,simprocAttr]
  .simp only[ah,i _ hw (by simpa using N),go_sem,simprocAttr]
theorem oV(s)(a b):dg s.lo s.hi a b=if ci s a b=true then(if aJ s=true then 2 else 0) else 7:=by
 unfold dg ci aJ;cases ak s.lo a b<;>cases ak s.hi a b<;>simp
def jM (m s:Span):Int:=if(ci m 0 2000&&ci s 0 1000)=true then(if(aJ m||aJ s)=true then 2 else 0) else 7
theorem Gi(m s):af TP 162 [m.pv,s.pv] (.int .i64 (jM m s)):=by
 refine aa (ag func162 rfl) rfl ?_;simp only[go_sem,simprocAttr];refine ax (ox _ _ _ _) rfl ?_;simp only[go_sem,simprocAttr];refine ax (ox _ _ _ _) rfl ?_;simp only[oV,go_sem,simprocAttr];unfold jM;cases ci m 0 2000<;>cases ci s 0 1000<;>cases aJ m<;>cases aJ s<;>simp only[go_sem,simprocAttr]
theorem Gj(l):af TP 128 [fN l] (ah (bdCheck l)):=by
 refine aa (ag func128 rfl) rfl ?_;simp only[go_sem,simprocAttr];refine ae (AF _ _ _) rfl ?_;simp only[go_sem,simprocAttr];cases z:ak l.length 1 5
 .simp only[ah,bdCheck,z,go_sem,simprocAttr]
 have O:l.length<=5:=by simp[ak]at z;omega
 have u:bdCheck l=va (firstErr bM (·.name) l []):=by simp[bdCheck,z]
 rw[u];simp only[go_sem,simprocAttr];refine cp 5 1 (by simp only[go_sem,simprocAttr]) ?_;simp only[go_sem,simprocAttr]
 refine bg [0] l (by omega) (τ:=Unit) (λa rest _=>firstErr bM (·.name) l []=firstErr bM (·.name) rest (a.map (·.name)))
  (λa _=>[(5,.slice 0 a.length 0 a.length),(6,.p (.int .i64 a.length))]) (λa _=>[.row 1 (a.map λx=>.p (.str x.name))]) () rfl ?_ ?_ ?_
 .simp only[go_sem,simprocAttr]<;>simp
 .intro _ A;simp only[go_sem,simprocAttr];rw[A];rfl
 .intro a x r _ N A hx i D;have C:a.length+1<=ao:=by simp[ao];omega
  have J:firstErr bM (·.name) l []=if bM (a.map (·.name)) x=0 then firstErr bM (·.name) r ((a++[x]).map (·.name)) else some ((a.length:Int),bM (a.map (·.name)) x):=by
   rw[A,firstErr];simp
  have q:∀e,bM (a.map (·.name)) x=e->e≠0->va (firstErr bM (·.name) l [])=(2,(a.length:Int),e):=by
   intro e M E;rw[J,M,if_neg E];rfl
  simp only[i,hx,go_sem,simprocAttr];refine aU (i8 x.name (a.map (·.name)) false (a.map λx=>.str x.name) (by simp) (by simp;omega)) ?_ (.int _ _) ?_
  .simp only[go_sem,simprocAttr]
  simp only[C,i,hx,go_sem,simprocAttr];cases v:(ai (a.map (·.name)) x.name==0)
  .have j:ai (a.map (·.name)) x.name≠0:=by simpa using v
   have I:(ai (a.map (·.name)) x.name != 0)=true:=by simp[bne,v]
   simp only[v,I,ah,q _ (by rw[bM,if_neg j]) j,go_sem,simprocAttr]
  have j:ai (a.map (·.name)) x.name=0:=by simpa using v
  simp only[hx,i,go_sem,simprocAttr];refine ae (AF _ _ _) rfl ?_;simp only[go_sem,simprocAttr];cases L:ak x.price 0 100000
  .simp only[ah,q 7 (by simp[bM,j,L]) (by decide),go_sem,simprocAttr]
  simp only[v,hx,i,go_sem,simprocAttr];refine ax (Gi x.melt x.shrink) rfl ?_;simp only[go_sem,simprocAttr];have hw:bM (a.map (·.name)) x=if jM x.melt x.shrink=0 then dS x.curve else jM x.melt x.shrink:=by
   unfold bM jM;rw[if_pos j,L];cases (ci x.melt 0 2000&&ci x.shrink 0 1000)<;>cases (aJ x.melt||aJ x.shrink)<;>rfl
  cases y:(jM x.melt x.shrink==0)
  .have o:jM x.melt x.shrink≠0:=by simpa using y
   have G:(jM x.melt x.shrink != 0)=true:=by simp[bne,y]
   simp only[G,ah,q _ (by rw[hw,if_neg o]) o,go_sem,simprocAttr]
  have o:jM x.melt x.shrink=0:=by simpa using y
  rw[if_pos o]at hw;simp only[hx,i,go_sem,simprocAttr];refine ae (LD x.curve false) rfl ?_;simp only[go_sem,simprocAttr];cases K:(dS x.curve != 0)
  .have F:dS x.curve=0:=by simpa using K
   simp only[go_sem,simprocAttr];refine aD N () (by rw[J,if_pos (hw.trans F)]) ?_;simp only[D,aL,bD,go_sem,simprocAttr]
  .simp only[ah,q _ hw (by simpa using K),go_sem,simprocAttr]
structure CurveOk (c:List BdPoint):Prop where
 len:c.length<=6
 pt:∀p,p∈c->0<=p.parts/\p.parts<=20/\-300<=p.add/\p.add<=300
 up:c.Pairwise λa b=>a.parts<b.parts
theorem DA:∀(c) (e),gZ e c=0->(∀p,p∈c->0<=p.parts/\p.parts<=20/\-300<=p.add/\p.add<=300)/\c.Pairwise (λa b=>a.parts<b.parts)/\∀p,p∈c->e<p.parts
 |[],_,_=>⟨by simp,.nil,by simp⟩
 |q::r,e,h=>by
  rw[gZ]at h;split at h
  .rename_i o;split at h
   .cases h
   .rename_i y;obtain⟨v,u,j⟩:=DA r _ h;have l:0<=q.parts/\q.parts<=20/\-300<=q.add/\q.add<=300:=by simp[ak]at o;omega
    refine⟨?_,.cons (λp i=>j p i) u,?_⟩
    .intro p i;rcases ce.1 i with rfl|i
     .exact l
     .exact v p i
    .intro p i;rcases ce.1 i with rfl|i
     .omega
     .have:=j p i;omega
  .cases h
theorem I7{c}(h:dS c=0):CurveOk c:=by
 unfold dS at h;split at h
 .cases h
 .obtain⟨e,a,_⟩:=DA c _ h;exact⟨by omega,e,a⟩
def oO (a b:BdPoint) (n:Int):Int:=a.add+(b.add-a.add)*(n-a.parts) / (b.parts-a.parts)
def kz (a:BdPoint):List BdPoint->Int->Int
 |[],_=>a.add
 |b::r,n=>if n<=b.parts then oO a b n else kz b r n
def pp:List BdPoint->Int->Int
 |[],_=>0
 |a::r,n=>if n<=a.parts then a.add else kz a r n
theorem PZ(a b:Int)(e:0<b):(if a.tmod b<0 then a.tdiv b-1 else a.tdiv b)=a / b:=by
 have h:=Int.mul_tdiv_add_tmod a b;rcases HW 0 a with i|i
 .have l:=Int.tmod_nonneg b i;rw[if_neg (by omega),Int.tdiv_eq_ediv_of_nonneg i]
 .have l:-b<a.tmod b:=Int.lt_tmod_of_pos a e;have o:a.tmod b<=0:=by
   have:=Int.tmod_nonneg b (a:=-a) (by omega);rw[Int.neg_tmod]at this;omega
  split
  .rename_i j;symm;rw[Int.ediv_eq_iff_of_pos e];have:b*(a.tdiv b-1)=b*a.tdiv b-b:=by rw[Int.mul_sub,Int.mul_one]
   rw[zP];constructor<;>omega
  .rename_i j;symm;rw[Int.ediv_eq_iff_of_pos e];rw[zP];constructor<;>omega
theorem S3(a b)(u:-1000000000000000<=a/\a<=1000000000000000)(o:0<b):af TP 435 [.int .i64 a,.int .i64 b] (.int .i64 (a / b)):=by
 refine aa (ag func435 rfl) rfl ?_;have l:b≠0:=by omega
 have q:-1000000000000000<=a.tdiv b/\a.tdiv b<=1000000000000000:=by
  have v:=Int.natAbs_tdiv_le_natAbs a b;omega
 have hw:IntKind.i64.wrap (a.tdiv b)=a.tdiv b:=am (by omega) (by omega);have j:IntKind.i64.wrap (a.tdiv b-1)=a.tdiv b-1:=am (by omega) (by omega);have e:=PZ a b o;simp only[l,hw,go_sem,simprocAttr];refine aK (λi=>?_) (λi=>?_)<;>simp only[i,j,go_sem,simprocAttr]
 .rw[if_pos (by simpa using i)]at e;exact e
 .rw[if_neg (by simpa using i)]at e;exact e
theorem NO(c:List BdPoint)(b)(n)(i:Nat)(p)(hi:c[i]?=some p):af TP 434 [.agg [.slice 2 (c.map BdPoint.pv) b,.int .i64 n],.int .i64 i] (.bool (decide (n<=p.parts))):=by
 refine aa (ag func434 rfl) rfl ?_;have a:((i:Nat):Int)<(c.length:Int):=by have:=(aB.1 hi).1;omega
 simp only[a,hi,go_sem,simprocAttr]
theorem wB:∀{c:List BdPoint} (n),c.Pairwise (λa b=>a.parts<b.parts)->∃j i,c=j++i/\(∀p,p∈j->p.parts<n)/\∀p,p∈i->n<=p.parts
 |[],_,_=>⟨[],[],rfl,by simp,by simp⟩
 |a::r,n,h=>by
  cases h with
  |cons u q=>
   by_cases o:a.parts<n
   .obtain⟨j,i,e,y,v⟩:=wB n q;refine⟨a::j,i,by rw[e];rfl,λp l=>?_,v⟩;rcases ce.1 l with rfl|l
    .exact o
    .exact y p l
   .refine⟨[],a::r,rfl,by simp,λp l=>?_⟩;rcases ce.1 l with rfl|l
    .omega
    .have:=u p l;omega
theorem B9(n):∀(i) (x a) (e),(∀p,p∈i++[a]->p.parts<n)->kz x (i++a::e) n=kz a e n
 |[],x,a,e,h=>by
  have:=h a (by simp)
  rw[lc,kz,if_neg (by omega)]
 |y::i,x,a,e,h=>by
  have:=h y (by simp);rw[hZ,kz,if_neg (by omega)];exact B9 n i y a e λp j=>h p (by simp at j |-;exact .inr j)
theorem Od{n}(e)(a)(i)(h:∀p,p∈e++[a]->p.parts<n):pp (e++a::i) n=kz a i n:=by
 cases e with
 |nil=>
  have:=h a (by simp)
  rw[lc,pp,if_neg (by omega)]
 |cons y e=>
  have:=h y (by simp);rw[hZ,pp,if_neg (by omega)];exact B9 n e y a i λp j=>h p (by simp at j |-;exact .inr j)
theorem G5{a b}{n}(z:0<=a.parts/\a.parts<=20/\-300<=a.add/\a.add<=300)(y:0<=b.parts/\b.parts<=20/\-300<=b.add/\b.add<=300)(D:a.parts<=n)(C:n<=b.parts)(A:a.parts<b.parts) :
  -20000<=(b.add-a.add)*(n-a.parts)/\(b.add-a.add)*(n-a.parts)<=20000 /\
  ((a.add<=b.add->a.add<=oO a b n/\oO a b n<=b.add)/\(b.add<=a.add->b.add<=oO a b n/\oO a b n<=a.add)):=by
 unfold oO;generalize u:n-a.parts=k;generalize q:b.parts-a.parts=m;generalize v:b.add-a.add=d;have k0:0<=k:=by omega
 have k1:k<=20:=by omega
 have j:k<=m:=by omega
 have m0:0<m:=by omega
 have F:(-600)*k<=d*k:=wQ (by omega) k0;have E:d*k<=600*k:=wQ (by omega) k0;refine⟨by omega,by omega,λh=>?_,λh=>?_⟩
 .have i:0<=d:=by omega
  have o:0<=d*k / m:=Int.ediv_nonneg (wP i k0) (by omega);have l:d*k / m<=d:=by
   have:=C6 m0 (sA j i);rwa [Int.mul_ediv_cancel _ (by omega)]at this
  omega
 .have i:d<=0:=by omega
  have o:d*k / m<=0:=by
   have:=C6 m0 (show d*k<=0 from Int.mul_nonpos_of_nonpos_of_nonneg i k0);simpa using this
  have l:d<=d*k / m:=by
   have e:d*m<=d*k:=Int.mul_le_mul_of_nonpos_left i j;have:=C6 m0 e;rwa [Int.mul_ediv_cancel _ (by omega)]at this
  omega
theorem S7(c)(b)(n)(A:CurveOk c):af TP 432 [.agg [.slice 2 (c.map BdPoint.pv) b,.int .i64 n]] (.int .i64 (pp c n)):=by
 refine aa (eI (by kernel_rfl) rfl TT) rfl ?_;obtain⟨o,j,e,E,D⟩:=wB n A.up;have O:=A.len;have u:o.length<=c.length:=by rw[e];simp
 simp only[Ts,go_sem,simprocAttr];refine aK (λC=>?_) (λC=>?_)
 .have:c=[]:=by simpa using C
  simp only[this,pp,go_sem,simprocAttr]
 simp only[go_sem,simprocAttr];refine ae (Qt (fv:=.func (.func 434) [.agg [.slice 2 (c.map BdPoint.pv) b,.int .i64 n]] []) c.length (λi=>match c[i]? with|some p=>decide (n<=p.parts)|none=>true) (by omega) (λi hi=>?_) o.length u (λi hi=>?_) λi Y N=>?_) rfl ?_
 .have L:c[i]?=some c[i]:=bO hi;rw[L];exact⟨_,_,_,rfl,NO c b n i _ L⟩
 .rw[e,bp hi,bO hi];have:=E _ (HS hi);simp;omega
 .have hh:i-o.length<j.length:=by rw[e]at N;simp at N;omega
  rw[e,cG Y,bO hh];have:=D _ (HS hh);simp;omega
 simp only[go_sem,simprocAttr];rcases C0 o with rfl|⟨l,a,K⟩
 .cases j with
  |nil=>subst e;simp at C
  |cons x j=>
   have hx:=D x (by simp);rw[lc]at e;have Z:c[0]?=some x:=by rw[e];rfl
   have I:(0:Int)<(c.length:Int):=by rw[e];simp<;>omega
   simp only[I,Z,dL,go_sem,simprocAttr];rw[e,pp,if_pos hx]
 .rw[C1]at K;subst K;have J:((((l++[a]).length:Nat):Int)==0)=false:=by simp<;>omega
  have y:IntKind.i64.wrap ((((l++[a]).length:Nat):Int)-1)=((l.length:Nat):Int):=by
   rw[cl (by simp<;>omega) (by simp[ao]at u |-;omega)];simp
  have M:c[l.length]?=some a:=by rw[e];simp
  have z:((l.length:Nat):Int)<(c.length:Int):=by simp at u;omega
  have q:pp c n=kz a j n:=by rw[e];simpa using Od l a j E
  cases j with
  |nil=>
   have v:((((l++[a]).length:Nat):Int)==(c.length:Int))=true:=by rw[e];simp
   simp only[J,v,y,M,z,q,kz,go_sem,simprocAttr]
  |cons x j=>
   have hx:=D x (by simp);have a0:=E a (by simp);have F:c[(l++[a]).length]?=some x:=by rw[e];simp
   have G:(((l++[a]).length:Nat):Int)<(c.length:Int):=by rw[e];simp<;>omega
   have v:((((l++[a]).length:Nat):Int)==(c.length:Int))=false:=by simp only[beq_eq_false_iff_ne];omega
   have pa:=A.pt a (by rw[e];simp);have X:=A.pt x (by rw[e];simp);obtain⟨b1,b2,b3⟩:=G5 pa X (by omega) hx (by omega);have V:IntKind.i64.wrap (x.add-a.add)=x.add-a.add:=am (by omega) (by omega);have U:IntKind.i64.wrap (n-a.parts)=n-a.parts:=am (by omega) (by omega);have T:IntKind.i64.wrap ((x.add-a.add)*(n-a.parts))=(x.add-a.add)*(n-a.parts):=am (by omega) (by omega);have S:IntKind.i64.wrap (x.parts-a.parts)=x.parts-a.parts:=am (by omega) (by omega);have R:IntKind.i64.wrap (oO a x n)=oO a x n:=am (by omega) (by omega);simp only[J,v,y,M,z,F,G,V,U,T,S,aO,go_sem,simprocAttr];refine ax (S3 _ _ (by omega) (by omega)) rfl ?_;simp only[go_sem,simprocAttr];rw[q,kz,if_pos hx];exact R
end Abs
end Go.Proofs.YtmndpldajflenaaGreatDoor
