/- CONTRACTS of functions and laws. No conditions but those in the heads. -/
import Derived.Test.YtgafommgcfhkkaaGreatDoorChDoneX
set_option linter.all false
set_option maxHeartbeats 4000000
open Go.Proofs.Tryz
open Go.IntKind (i64)
namespace Go.Proofs.YtgafommgcfhkkaaGreatDoor
namespace Abs
namespace Ch
set_option maxRecDepth 4000
def o5 (i:Nat) (row:List UInt8):Option (List UInt8):=
 match (aP 32 row).2 with
 |none=>none
 |some line=>if(aP 32 row).1=aX (i:Int)/\line≠[]/\line.length<=400 then some (repL 47 10 line) else none
def nn:Nat->List (List UInt8)->Option (List (List UInt8))
 |_,[]=>none
 |_,[last]=>if last=[] then some [] else none
 |i,row::r::rs=>match o5 i row with|none=>none|some x=>(nn (i+1) (r::rs)).map (x::·)
def cd (text:List UInt8):List (List UInt8)×Int:=
 match nn 1 (aA 10 text) with
 |none=>([],6)
 |some l=>if 40<l.length then([],3) else(l,0)
def dn (text:List UInt8):PV:=.tuple [if(cd text).2=0 then aN (cd text).1 else .nilslice,.int .i64 (cd text).2]
def MV(i):nn i (aA 10 [])=some []:=rfl
def Kj{i}{t}(h:(aP 10 t).2=none)(e:t≠[]):nn i (aA 10 t)=none:=by
 rw[mI h];exact if_neg e
def uM(c)(t):∃a r,aA c t=a::r:=⟨_,_,lW c t⟩
def Ao{i}{t r}(h:(aP 10 t).2=some r):nn i (aA 10 t)=(match o5 i (aP 10 t).1 with|none=>none|some x=>(nn (i+1) (aA 10 r)).map (x::·)):=by
 rw[mH h];obtain⟨a,rs,e⟩:=uM 10 r;rw[e];rfl
def NZ(text)(V:text.length<=2000000):af Tryz.prog 16 [.str (bs text)] (dn text):=by
 refine bF (ag func16 rfl) rfl (zm ?_);refine bt 2 1 (by simp only[go_sem,simprocAttr]) (zm ?_)
 refine dY [] (σ:=List (List UInt8)×List UInt8) (λq=>nn 1 (aA 10 text)=(nn (q.1.length+1) (aA 10 q.2)).map (q.1++·)/\q.2.length+q.1.length<=text.length) (λq=>q.2.length)
  (λq=>[(0,.p (.str (bs q.2))),(2,.slice 0 q.1.length 0 q.1.length),(4,.p (.int .i64 ((q.1.length+1:Nat):Int)))]) (λq=>[.row 1 (q.1.map λx=>.p (.str (bs x)))]) ([],text) ⟨by simp,by simp⟩ rfl ?_ ?_
 .simp[bS,go_sem]
 rintro⟨d_,t⟩ ⟨j,O⟩
 dsimp only at j O;have c0:(⟨#[]⟩:ByteArray)=bs []:=rfl;have c1:(⟨#[10]⟩:ByteArray)=bs [10]:=rfl;have S:(⟨#[32]⟩:ByteArray)=bs [32]:=rfl;have R:(⟨#[47]⟩:ByteArray)=bs [47]:=rfl;by_cases v:t=[]
 .subst v;have G:(bs []==bs [])=true:=by rw[cF];rfl
  rw[MV,i8,bI]at j;refine zo c0 G ?_;have v:List.take d_.length (d_.map λx=>PV.str (bs x))=d_.map λx=>PV.str (bs x):=dt (by simp);have M:∀n h,aE (bi n h) (d_.map λx=>AV.p (PV.str (bs x)))=some (d_.map λx=>.str (bs x)):=λn h=>aW (bH n h) (λx=>PV.str (bs x)) d_;by_cases z:40<d_.length
  .have E:decide ((40:Int)<(d_.length:Int))=true:=decide_eq_true (by omega);have u:dn text=.tuple [.nilslice,.int .i64 3]:=by rw[dn,cd,j];simp only[if_pos z];rfl
   simp[E,u,go_sem]
  .have E:decide ((40:Int)<(d_.length:Int))=false:=decide_eq_false (by omega);have u:dn text=.tuple [aN d_,.int .i64 0]:=by rw[dn,cd,j];simp only[if_neg z];rfl
   simp[E,M,v,u,aN,go_sem]
 .have G:(bs t==bs [])=false:=by rw[cF];simpa using v
  refine zp c0 G c1 ?_;refine aa (vH t 10 (by omega)) rfl (zn S ?_);have T:=si 10 t;refine aa (vH (aP 10 t).1 32 (by omega)) rfl ?_
  cases F:(aP 10 t).2 with
  |none=>
   rw[Kj F v]at j;simp only[BW,go_sem,simprocAttr]
   exact .inl (by rw[dn,cd,j];rfl)
  |some r=>
   rw[Ao F]at j;have K:=xj 10 t r F
   cases l:(aP 32 (aP 10 t).1).2 with
   |none=>
    simp only[q8,BW,go_sem,simprocAttr];have i:o5 (d_.length+1) (aP 10 t).1=none:=by rw[o5,l]
    rw[i]at j
    exact .inl (by rw[dn,cd,j];rfl)
   |some e=>
    simp only[q8,go_sem,simprocAttr];refine aa (Aa ((d_.length+1:Nat):Int) (by omega) (by omega)) rfl ?_;rw[o8 (by omega)];have U:=xj 32 (aP 10 t).1 e l;by_cases C:(aP 32 (aP 10 t).1).1=aX ((d_.length+1:Nat):Int);rotate_left
    .have y:(bs (aP 32 (aP 10 t).1).1==bs (aX ((d_.length+1:Nat):Int)))=false:=by rw[cF];simpa using C
     have i:o5 (d_.length+1) (aP 10 t).1=none:=by rw[o5,l];exact if_neg λh=>C h.1
     rw[i]at j;refine zn y ?_;exact .inl (by rw[dn,cd,j];rfl)
    have y:(bs (aP 32 (aP 10 t).1).1==bs (aX ((d_.length+1:Nat):Int)))=true:=by rw[cF];simpa using C
    by_cases A:e=[]
    .have D:(bs e==bs [])=true:=by rw[cF];simpa using A
     have i:o5 (d_.length+1) (aP 10 t).1=none:=by rw[o5,l];exact if_neg λh=>h.2.1 A
     rw[i]at j;refine zp y c0 D ?_;exact .inl (by rw[dn,cd,j];rfl)
    have D:(bs e==bs [])=false:=by rw[cF];simpa using A
    by_cases N:e.length<=400;rotate_left
    .have I:decide ((400:Int)<(e.length:Int))=true:=decide_eq_true (by omega);have i:o5 (d_.length+1) (aP 10 t).1=none:=by rw[o5,l];exact if_neg λh=>N h.2.2
     rw[i]at j;refine t_ y c0 D @al I ?_;exact .inl (by rw[dn,cd,j];rfl)
    have I:decide ((400:Int)<(e.length:Int))=false:=decide_eq_false (by omega);have i:o5 (d_.length+1) (aP 10 t).1=some (repL 47 10 e):=by rw[o5,l];exact if_pos ⟨C,A,N⟩
    rw[i]at j;simp only[y,c0,D,al,I,c1,R,go_sem,simprocAttr];refine aa (AL e 47 10 (by decide) (by omega)) rfl ?_;have J:d_.length+1<=ai:=by simp[ai];omega
    have L:i64.wrap (((d_.length+1:Nat):Int)+1)=(((d_++[repL 47 10 e]).length+1:Nat):Int):=aO (by omega) (by simp[ai];omega) (by simp);simp only[J,dQ,go_sem,simprocAttr];refine aZ (d_++[repL 47 10 e],r) ⟨?_,?_⟩ K ?_ ?_
    .rw[j];simp[gS]
    .show r.length+(d_++[repL 47 10 e]).length<=text.length;rw[ak,aK];omega
    .simp
    refine zn L ?_;rw[ak,aK]
end Ch
variable {P:Program} {M0:Nat->Prop} {H:Hints} {Q:Cont}
def iL (π:Nat->Nat):AV->AV
 |.ptr id v i o=>.ptr (π id) v i o
 |.slice id v off len=>.slice (π id) v off len
 |a=>a
def m5 (π:Nat->Nat):AV->AV
 |.agg cs=>.agg (cs.map (iL π))
 |a=>iL π a
def Ly (π:Nat->Nat):AObj->AObj
 |.row sz xs=>.row sz (xs.map (m5 π))
 |_=>.dead
def ul:AV->Bool
 |.p _=>true
 |.ptr _ _ _ _=>true
 |.slice _ _ _ _=>true
 |_=>false
def wr:AV->Bool
 |.agg cs=>cs.all ul
 |a=>ul a
def GV:AObj->Bool
 |.row _ xs=>xs.all wr
 |.dead=>true
 |_=>false
def PE{π}{x}{cs}(i:wr x=true)(hx:x.cells=some cs):(m5 π x).cells=some (cs.map (iL π))/\∀c,c∈cs->ul c=true:=by
 cases x with
 |p q=>
  cases q<;>simp[AV.cells]at hx<;>subst hx<;>refine⟨by simp[m5,iL,AV.cells,gS],λc e=>?_⟩<;>simp at e<;>first|(subst e;rfl)|(obtain⟨_,_,rfl⟩:=e;rfl)
 |agg l=>cases hx;exact⟨rfl,λc e=>kl.1 i c e⟩
 |ptr a b c d=>cases hx;exact⟨rfl,λc e=>by simp at e;subst e;rfl⟩
 |slice a b c d=>cases hx;exact⟨rfl,λc e=>by simp at e;subst e;rfl⟩
 |ref a b=>cases i
 |func a b c=>cases i
 |tuple l=>cases i
 |undef=>cases i
def If{π}{c}(e:ul c=true):(iL π c).isCell=c.isCell:=by
 cases c<;>first|rfl|cases e
def EU{A}{T}{h'}(π σ:Nat->Nat)(hπ:∀i,i<A.h.length->π i<A.h.length/\σ (π i)=i)(hσ:∀i,i<A.h.length->σ i<A.h.length/\π (σ i)=i)(hb:A.bs=0)(hd:A.df=[])
  (hs:∀o,o∈A.h->GV o=true) (hh:h'=(List.range A.h.length).map λj=>Ly π (A.h.getD (σ j) .dead)) (hT:∀t,(T t=m5 π (A.tmps t)/\wr (A.tmps t)=true)\/T t=.undef) :
  gU P A { A with tmps:=T,h:=h' }:=
 ⟨rfl,rfl,λM0 S0 b cs0 m a w hr=>by
  have hml:m.length=A.h.length:=hr.hok.len;have hhl:h'.length=A.h.length:=by rw[hh];simp
  obtain⟨m',hm'⟩:∃m',m'=(List.range A.h.length).map λj=>m.getD (σ j) none:=⟨_,rfl⟩
  have hmat:∀j,j<A.h.length->m'[j]?=some (m.getD (σ j) none):=λj hj=>by rw[hm',cX,List.getElem?_range hj];rfl
  have hhat:∀j,j<A.h.length->h'[j]?=some (Ly π (A.h.getD (σ j) .dead)):=λj hj=>by rw[hh,cX,List.getElem?_range hj];rfl
  have hml':m'.length=A.h.length:=by rw[hm'];simp
  have hown:∀b,Own m' b->Own m b:=λb hb=>by
   obtain⟨j,hj⟩:=fN hb;have hjl:j<A.h.length:=by have:=(aC.1 hj).1;omega
   rw[hmat j hjl]at hj;exact aB (cI (kw hj))
  have hown2:∀b,Own m b->Own m' b:=λb hb=>by
   obtain⟨i,hi⟩:=fN hb;have hil:i<A.h.length:=by have:=(aC.1 hi).1;omega
   have h1:=hmat (π i) (hπ i hil).1;rw[(hπ i hil).2,da,hi]at h1;exact aB h1
  have mget:∀i,i<A.h.length->m'.getD (π i) none=m.getD i none:=λi hi=>by
   rw[da,hmat _ (hπ i hi).1,(hπ i hi).2];rfl
  have hget:∀i o,A.h[i]?=some o->h'[π i]?=some (Ly π o):=λi o ho=>by
   have hi:=(aC.1 ho).1;rw[hhat _ (hπ i hi).1,(hπ i hi).2,da,ho];rfl
  have live:∀{id ver:Nat} {X:Nat->Option Nat->Prop},ei ⟨m,A.h,w⟩ id ver X->ei ⟨m',h',w⟩ (π id) ver X:=by
   intro id ver X h;rcases h with h|⟨sz,xs,h,h1,h2⟩
   .exact .inl (hget _ _ h)
   .have hid:=(aC.1 h).1;refine .inr ⟨sz,xs.map (m5 π),hget _ _ h,by simpa using h1,λhe=>?_⟩;show X sz (m'.getD (π id) none);rw[mget id hid];exact h2 (by simpa using he)
  have rep0:∀{v:Value} {a:AV},ul a=true->dw M0 ⟨m,A.h,w⟩ v a->dw M0 ⟨m',h',w⟩ v (iL π a):=by
   intro v a ha h
   cases a with
   |p q=>exact RepP.less (show RepP (Avoid M0 m) w v q from h) λb hb=>hb.imp id (hown b)
   |ptr id ver i o=>exact⟨h.1,live h.2⟩
   |slice id ver off len=>exact⟨h.1,live (X:=sliceAt w v ver off len) h.2⟩
   |ref q id=>cases ha
   |undef=>cases ha
   |agg cs=>cases ha
   |func fn f c=>cases ha
   |tuple vs=>cases ha
  have repS:∀{v:Value} {a:AV},ul a=true->cb M0 ⟨m,A.h,w⟩ v a->cb M0 ⟨m',h',w⟩ v (iL π a):=by
   intro v a ha h
   cases a with
   |p q=>exact rep0 ha h
   |ptr id ver i o=>exact rep0 ha h
   |slice id ver off len=>exact rep0 ha h
   |ref q id=>cases ha
   |undef=>cases ha
   |agg cs=>cases ha
   |func fn f c=>cases ha
   |tuple vs=>cases ha
  have rep:∀{v:Value} {a:AV},wr a=true->Rep M0 ⟨m,A.h,w⟩ v a->Rep M0 ⟨m',h',w⟩ v (m5 π a):=by
   intro v a ha h
   cases a with
   |p q=>exact repS (a:=.p q) rfl h
   |ptr id ver i o=>exact repS (a:=.ptr id ver i o) rfl h
   |slice id ver off len=>exact repS (a:=.slice id ver off len) rfl h
   |agg cs=>
    obtain⟨C,h1,h2,h3,h4⟩:=h;have hall:∀c,c∈cs->ul c=true:=kl.1 ha;refine⟨C,h1,λc hc=>?_,by rw[h3];simp,λi c hi=>?_⟩
    .obtain⟨c0,hc0,rfl⟩:=cA.1 hc;rw[If (hall c0 hc0)];exact h2 c0 hc0
    .rw[cX]at hi
     cases hq:cs[i]? with
     |none=>rw[hq]at hi;cases hi
     |some c0=>
      rw[hq]at hi;cases hi
      exact repS (hall c0 (aB hq)) (h4 i c0 hq)
   |ref q id=>cases ha
   |undef=>cases ha
   |func fn f c=>cases ha
   |tuple vs=>cases ha
  refine⟨m',?_⟩;refine⟨hr.size,λt=>?_,?_,?_,?_,?_,?_⟩
  .show Rep M0 ⟨m',h',w⟩ (a.tmps.getD t undef) (T t);rcases hT t with⟨h1,h2⟩|h1
   .rw[h1];exact rep h2 (hr.tmps t)
   .rw[h1];exact trivial
  .exact
   {len:=by show m'.length=h'.length;omega
    lt:=λb hb=>hr.hok.lt b (hown b hb)
    m0:=λb hb=>⟨(hr.hok.m0 b hb).1,λh=>(hr.hok.m0 b hb).2 (hown b h)⟩
    inj:=λi j b hi hj=>by
     have hi':m'[i]?=some (some b):=hi;have hj':m'[j]?=some (some b):=hj;have hil:i<A.h.length:=by have:=(aC.1 hi').1;omega
     have hjl:j<A.h.length:=by have:=(aC.1 hj').1;omega
     rw[hmat i hil]at hi';rw[hmat j hjl]at hj';have:=hr.hok.inj (σ i) (σ j) b (cI (kw hi')) (cI (kw hj'));rw[<-(hσ i hil).2,<-(hσ j hjl).2,this]
    obj:=λid o ho=>by
     have ho':h'[id]?=some o:=ho;have hid:id<A.h.length:=by have:=(aC.1 ho').1;omega
     rw[hhat id hid]at ho';cases ho';show ObjOk P M0 ⟨m',h',w⟩ (m'.getD id none) _;rw[da,hmat id hid,gY];obtain⟨o,ho⟩:∃o,A.h[σ id]?=some o:=⟨_,bL (hσ id hid).1⟩
     rw[show A.h.getD (σ id) .dead=o by rw[da,ho];rfl];have hso:=hs o (aB ho);have hob:ObjOk P M0 ⟨m,A.h,w⟩ (m.getD (σ id) none) o:=hr.hok.obj _ _ ho
     cases o with
     |row sz xs=>
      rcases hob with⟨h1,h2⟩|⟨b,T',C,h1,h2,h3,h4⟩
      .exact .inl ⟨h1,by rw[h2];rfl⟩
      .refine .inr ⟨b,T',C,h1,h2,by simpa using h3,λi x hx=>?_⟩;rw[cX]at hx
       cases hq:xs[i]? with
       |none=>rw[hq]at hx;cases hx
       |some x0=>
        rw[hq]at hx;cases hx;obtain⟨cs,h5,h6,h7⟩:=h4 i x0 hq;obtain⟨k1,k2⟩:=PE (π:=π) (kl.1 hso x0 (aB hq)) h5;refine⟨cs.map (iL π),k1,by simpa using h6,λj c hc=>?_⟩;rw[cX]at hc
        cases hq2:cs[j]? with
        |none=>rw[hq2]at hc;cases hc
        |some c0=>
         rw[hq2]at hc;cases hc;have hsc:=k2 c0 (aB hq2)
         exact⟨by rw[If hsc];exact(h7 j c0 hq2).1,repS hsc (h7 j c0 hq2).2⟩
     |dead=>exact trivial
     |strIter s p=>cases hso
     |mp es=>cases hso
     |memo f=>cases hso
     |loop n tmps ps assign body st pend=>cases hso
     |dblock=>cases hso
     |bld T' el x=>cases hso
    gl:=hr.hok.gl.fr (λ_ _ _=>rfl) λb hb=>.inl (hown b hb) }
  .exact
   {fr:=hr.ev.fr
    sub:=λx hx=>hr.ev.sub x (hown x hx)
    obj:=λid o hid _=>by
     have hid':id<A.bs:=hid
     omega }
  .exact⟨by show A.bs<=h'.length;omega,hr.le.2⟩
  .have:=hr.df;rw[hd]at this;show DefsRep P M0 _ a.defers A.df;rw[hd]
   cases hds:a.defers with
   |nil=>exact trivial
   |cons d ds=>rw[hds]at this;exact this.elim
  .have:=hr.rc;show RcRep M0 _ b cs0 A.rc;cases hc:A.rc<;>rw[hc]at this<;>first|exact this|skip
   obtain⟨h1,h2,v',cs1,h3,h4⟩:=this
   exact⟨h1,h2,v',cs1,h3,RepP.less h4 λb hb=>hb.imp id (hown b)⟩⟩
def pn{T}:∀(live) (t),(cM (bP T live []) t=T t/\t∈live)\/cM (bP T live []) t=.undef
 |[],_=>.inr rfl
 |k::r,t=>by
  rw[CN,sH];by_cases h:t=k
  .rw[if_pos h];subst h;exact .inl ⟨rfl,List.mem_cons_self⟩
  .rw[if_neg h];rcases pn r t with⟨e,i⟩|e
   .exact .inl ⟨e,wd _ i⟩
   .exact .inr e
def Le{x}{A}(live)(h')(l:List Nat)(r:List Nat)(n)(q:A.h.length=n)(v:(List.range n).all (λi=>decide (l.getD i 0<n)&&decide (r.getD (l.getD i 0) 0=i)&&decide (r.getD i 0<n)&&decide (l.getD (r.getD i 0) 0=i))=true)
  (D:A.bs=0) (C:A.df=[]) (y:A.h.all GV=true) (hh:h'=(List.range n).map λj=>Ly (λi=>l.getD i 0) (A.h.getD (r.getD j 0) .dead)) (z:∀t,t∈live->wr (A.tmps t)=true)
  (k:@W ⟨P,H,.loop x,Q⟩ { n:=A.n,bs:=A.bs,rc:=A.rc,tmps:=cM (bP (λt=>m5 (λi=>l.getD i 0) (A.tmps t)) live []),h:=h',df:=A.df }):@W ⟨P,H,.loop x,Q⟩ A:=by
 have e:∀i,i<n->(l.getD i 0<n/\r.getD (l.getD i 0) 0=i)/\r.getD i 0<n/\l.getD (r.getD i 0) 0=i:=λi hi=>by
  have:=kl.1 v i (sq.2 hi);simp only[eI,decide_eq_true_eq]at this;exact⟨⟨this.1.1.1,this.1.1.2⟩,this.1.2,this.2⟩
 refine eR (EU (λi=>l.getD i 0) (λi=>r.getD i 0) (by rw[q];exact λi hi=>(e i hi).1) (by rw[q];exact λi hi=>(e i hi).2) D C (kl.1 y) (by rw[q];exact hh) (λt=>?_)) k;rcases pn (T:=λt=>m5 (λi=>l.getD i 0) (A.tmps t)) live t with⟨u,E⟩|u
 .exact .inl ⟨u,z t E⟩
 .exact .inr u
def xO (q v:PV):Prop:=∀(M:Nat->Prop) (w:World) (u:Value),RepP M w u q->RepP M w u v
def xO.rfl'{q}:xO q q:=λ_ _ _ h=>h
def tF{P}(N:eV P){H}{f}{fn}{c}{pargs}{v}{rs}{n}(L:P.funcs[f]?=some fn)(u:fn.body=some c)(C:fn.results.toList=rs)(I:fn.ntmps=n)(hok:cu H fn=true)
  (A:pargs.length<=n) (hw:wp P H c (j7 P rs 0 (λ_ r h=>∃q,sg h r=some q/\xO q v)) (start n .no (pargs.map .p) [])):af P f pargs v:=by
 intro M0 w l M K G;have E:eD (Rep M0 ⟨[],[],w⟩) l (pargs.map .p):=by
  refine⟨by simpa using G.1,λi c F=>?_⟩;simp only[cX,bg]at F;obtain⟨q,z,rfl⟩:=F;exact aR ((G.2 i q z).mono (λ_ _ _=>rfl) (λb u=>by
   rcases u with u|u
   .exact .inl u
   .simp[Own]at u))
 have:=kW N (h:=[]) (R:=λr h=>∃q,sg h r=some q/\xO q v) L u C I hok (by simpa using A) hw M0 [] w l (pu M K) E;refine⟨this.1,this.2.mono λe w' h=>?_⟩;obtain⟨r,h',m',⟨q,z,y⟩,D,J,j⟩:=h
 cases e with
 |returned v'=>
  cases r with
  |panic v=>cases z
  |ret a=>exact⟨v',rfl,y _ _ _ (rO (S:=⟨m',h',w'⟩) J j z),D.fr⟩
 |panicked O=>
  cases r with
  |panic v=>cases z
  |ret a=>exact j.elim
 |outgrown=>exact j.elim
def PI{a c d e f x y}:xO (.tuple [.agg [a,.nilslice,c,d,e,f],x,y]) (.tuple [.agg [a,.slice 4 [] false,c,d,e,f],x,y]):=by
 intro M w u h
 cases h with
 |tuple v j=>
  refine .tuple v λi z hi=>?_
  match i,hi with
  |0,hi=>
   cases hi;have C:=j 0 _ rfl;generalize Array.getD _ 0 undef=v0 at C |-
   cases C with
   |agg v q j=>
    refine .agg v (λz l=>?_) λi z hi=>?_
    .simp only[br,dP,or_false]at l q;rcases l with rfl|rfl|l
     .exact q _ (.inl rfl)
     .rfl
     .exact q _ (.inr (.inr l))
    .match i,hi with
     |0,hi=>exact j 0 _ hi
     |1,hi=>
      cases hi;have A:=j 1 _ rfl;generalize Array.getD _ 1 undef=v1 at A |-;cases A
      exact .empty (by simp)
     |i+2,hi=>exact j (i+2) _ hi
  |i+1,hi=>exact j (i+1) _ hi
namespace Ch
set_option maxRecDepth 4000
def cy (s:ChShop):ChBooks->Nat->List (List UInt8)->ChBooks×Int
 |b,_,[]=>(b,-1)
 |b,i,l::r=>match ey s b l with
  |.error _=>(b,(i:Int))
  |.ok (b',_,w)=>if w=true then cy s b' (i+1) r else(b',(i:Int))
def cS (s:ChShop) (text:List UInt8):ChBooks×Int×Int:=
 if(bu s).2.2≠0 then(cK,0,(bu s).2.2)
 else if(cd text).2≠0 then(cK,0,(cd text).2)
 else((cy s cK 0 (cd text).1).1,(cy s cK 0 (cd text).1).2,0)
def jz:PV:=.agg [.nilslice,.nilslice,.nilslice,.nilslice,.int .i64 0,.int .i64 0]
def iE (s:ChShop) (text:List UInt8):PV:=.tuple [if(cS s text).2.2=0 then(cS s text).1.pv else jz,.int .i64 (cS s text).2.1,.int .i64 (cS s text).2.2]
def X7(s)(a e):aw Tryz.prog 48 [.p s.pv] [a,e] (λr h'=>r=.ret (.tuple [.ptr 3 1 0 0,.p (.int .i64 (bu s).2.2)])/\h'=[a,e,.row 17 [.p s.pv],D1 s]):=by
 refine au (ag func48 rfl) rfl (zm ?_);refine aa (BH s) rfl ?_;simp[ao,D1,go_sem]
def sk:AObj:=.row 6 [.p jz]
def wC{t}(h:(cd t).2=0):(cd t).1.length<=40:=by
 unfold cd at h |-;split at h
 .cases h
 .split at h
  .cases h
  .rename_i i e;rw[if_neg e];exact Mz e
def Wc(s)(text)(hl:text.length<=2000000):af Tryz.prog 18 [s.pv,.str (bs text)] (iE s text):=by
 refine tF cH (fn:=f18) (n:=58) (rs:=[.cell 4 54,.tmp 5,.tmp 6]) (by kernel_rfl) rfl rfl rfl za9 (pH rfl) (zm ?_);refine cZ (X7 s _ _) (λv h i=>?_) (λv h i=>by cases i.1);obtain⟨G,rfl⟩:=i;cases G;by_cases z:(bu s).2.2=0;rotate_left
 .have A:((bu s).2.2 != 0)=true:=by simpa using z
  have u:iE s text=.tuple [jz,.int .i64 0,.int .i64 (bu s).2.2]:=by
   have:cS s text=(cK,0,(bu s).2.2):=by rw[cS,if_pos z]
   rw[iE,this];simp only[if_neg z]
  simp only[A,u,jz,go_sem,simprocAttr];exact xO.rfl'
 refine zn z ?_;refine aa (NZ text hl) rfl ?_;by_cases i:(cd text).2=0;rotate_left
 .have A:((cd text).2 != 0)=true:=by simpa using i
  have u:iE s text=.tuple [jz,.int .i64 0,.int .i64 (cd text).2]:=by
   have:cS s text=(cK,0,(cd text).2):=by rw[cS,if_neg (by simpa using z),if_pos i]
   rw[iE,this];simp only[if_neg i]
  simp only[dn,A,u,jz,go_sem,simprocAttr];exact xO.rfl'
 have C:cS s text=((cy s cK 0 (cd text).1).1,(cy s cK 0 (cd text).1).2,0):=by rw[cS,if_neg (by simpa using z),if_neg (by simpa using i)]
 have u:iE s text=.tuple [(cy s cK 0 (cd text).1).1.pv,.int .i64 (cy s cK 0 (cd text).1).2,.int .i64 0]:=by
  rw[iE,C];simp only[if_true]
 have K:=wC i;have Y:=tr z;simp only[dn,i,aN,go_sem,simprocAttr];rw[u];generalize (cd text).1=L at K;have R:L.length<1000000000:=by omega
 refine fC [4,7,32,33,34] 3 4 23 _ (gO s [.slice 4 0 0 0,.p .nilslice,.p .nilslice,.p .nilslice]) (cG _) (cG _) rfl (gL 0 rfl rfl rfl) ?_ ?_ rfl ?_
 .simp[go_sem]
 .simp[D1,go_sem]
 refine zm ?_;refine fC [4,7,32,33,34] 3 4 23 _ (gO s [.slice 4 0 0 0,.slice 5 0 0 0,.p .nilslice,.p .nilslice]) (cG _) (cG _) rfl (gL 1 rfl rfl rfl) ?_ ?_ rfl ?_
 .simp[go_sem]
 .simp[gO,go_sem]
 refine zm ?_;refine fC [4,7,32,33,34] 3 3 23 _ (gO s [.slice 4 0 0 0,.slice 5 0 0 0,.slice 6 0 0 0,.p .nilslice]) (cG _) (cG _) rfl (gL 2 rfl rfl rfl) ?_ ?_ rfl ?_
 .simp[go_sem]
 .simp[gO,go_sem]
 refine zm ?_;refine fC [4,7,32,33,34] 3 2 23 _ (gO s [.slice 4 0 0 0,.slice 5 0 0 0,.slice 6 0 0 0,.slice 7 0 0 0]) (cG _) (cG _) rfl (gL 3 rfl rfl rfl) ?_ ?_ rfl ?_
 .simp[go_sem]
 .simp[gO,go_sem]
 refine zm ?_;refine Le [4,7,32,33,34] ([.row 17 [.p s.pv],.row 17 [.p s.pv],.row 23 [gO s [.slice 3 0 0 0,.slice 4 0 0 0,.slice 5 0 0 0,.slice 6 0 0 0]],.row 4 [],.row 4 [],.row 3 [],.row 2 [],sk]) [0,7,1,2,3,4,5,6] [0,2,3,4,5,6,7,1] 8 rfl (by decide) rfl rfl (by rfl) (by rfl) (by simp only[br,go_sem,simprocAttr];rintro t (rfl|rfl|rfl|rfl|rfl)<;>rfl) ?_;have p1:[0,7,1,2,3,4,5,6].getD 1 0=7:=rfl;have p3:[0,7,1,2,3,4,5,6].getD 3 0=2:=rfl;simp only[m5,iL,p1,p3,go_sem,simprocAttr];refine eR (uh 0) (eR (uh 1) ?_);simp only[gO,go_sem,simprocAttr]
 refine aG [4,7,32,33] L R (τ:=List PV×ChBooks) (λd_ rest q=>cy s cK 0 L=cy s q.2 d_.length rest/\BkOk s q.2 d_.length) (λd_ q=>[(34,.p (.int .i64 d_.length))])
  (λd_ q=>B7 s q.2 q.1++[sk]) ([],cK) ⟨rfl,GZ s⟩ ?_ ?_ ?_
 .simp[cK,bS,bx,bI,sk,jz,go_sem]
 .rintro⟨ex,b⟩ ⟨F,_⟩
  dsimp only at F;rw[F,cy];simp only[sk,jz,o3,yN,zY,vC,yO,go_sem,simprocAttr];exact xO.rfl'
 .rintro d_ l r ⟨ex,b⟩ F ⟨E,M⟩ hx O I
  dsimp only at E M;have T:d_.length+1<=40:=by
   have:=congrArg List.length F;simp at this;omega
  have U:=Ui s b ex d_.length Y M l;have S:=iR (gJ s b ex) (args:=[.ptr 2 1 0 0,.p (.str (bs l))]) (by simp only[go_sem,simprocAttr]) (U.mono λr h' i=>⟨Gh i,i⟩) [sk];simp only[O,hx,go_sem,simprocAttr];refine cZ S (λv h i=>?_) (λv h i=>?_);rotate_left
  .obtain⟨h',_,_,i⟩:=i;unfold qq at i;split at i<;>cases i.1
  obtain⟨h',rfl,_,i⟩:=i;unfold qq at i
  cases j:ey s b l with
  |error e=>
   rw[j]at i;obtain⟨G,rfl⟩:=i;cases G;have y:cy s b d_.length (l::r)=(b,(d_.length:Int)):=by rw[cy,j]
   rw[E,y];simp only[sk,jz,o3,yN,zY,vC,yO,go_sem,simprocAttr]
   exact xO.rfl'
  |ok q=>
   obtain⟨b',a,w⟩:=q;rw[j]at i;obtain⟨G,N⟩:=i;cases G;have J:BkOk s b' (d_.length+1):=by
    have:=Lo (s:=s) (q:=(b,[],[])) (l:=l) Y M T;rw[eP]at this;simp only[j]at this;exact this
   rcases N with⟨ex',rfl⟩|⟨Z,X,V,rfl⟩
   .cases w
    .have y:cy s b d_.length (l::r)=(b',(d_.length:Int)):=by rw[cy,j];rfl
     rw[E,y];simp only[sk,jz,o3,yN,zY,vC,yO,go_sem,simprocAttr];exact xO.rfl'
    .have y:cy s b d_.length (l::r)=cy s b' (d_.length+1) r:=by rw[cy,j];rfl
     simp only[go_sem,simprocAttr];refine am F (ex',b') ⟨by rw[E,y];simp,by simpa using J⟩ ?_;simp only[I,sk,jz,go_sem,simprocAttr]
   .cases w
    .have y:cy s b d_.length (l::r)=(b',(d_.length:Int)):=by rw[cy,j];rfl
     rw[E,y];simp only[sk,jz,yN,vC,yO,go_sem,simprocAttr];rw[Z];exact PI
    .have y:cy s b d_.length (l::r)=cy s b' (d_.length+1) r:=by rw[cy,j];rfl
     refine zm ?_;refine BP [4,7,32,33,34] 4 2 4 23 _ (.agg ([.slice 3 b'.lots.length 0 b'.lots.length,.slice 4 0 0 0,.slice 5 b'.tests.length 0 b'.tests.length,.slice 6 b'.boxes.length 0 b'.boxes.length,.p (.int .i64 b'.poured),.p (.int .i64 b'.lost)]++s.cells.map .p)) (cG _) (cG _) (by show 4<8;decide) (by decide) rfl (gL 1 rfl rfl rfl) ?_ ?_ rfl ?_
     .simp[ids,uY,tI,sf,go_sem]
     .intro o D;change o∈zC s b' X V++[sk]at D;rcases cn.1 D with D|D
      .exact Mo s b' X V o D
      .rw[dW.1 D,sk,jz];intro x hx;rw[dW.1 hx];trivial
     refine zm ?_;refine am F ([],b') ⟨by rw[E,y];simp,by simpa using J⟩ ?_;simp[I,Z,bx,bS,bI,sk,jz,go_sem]
structure Said where
 verb:List UInt8
 names:List (List UInt8)
 numbers:List Int
 text:List UInt8
def Said.pv (x:Said):PV:=.agg [.str (bs x.verb),aN x.names,.slice 1 (x.numbers.map ay) false,.str (bs x.text)]
def gF:List UInt8:=[116,101,115,116]
def bp:Cmd->Said
 |.lot n k g rs=>⟨p7,[n,k],g::rs,[]⟩
 |.batch n c l g=>⟨j2,[n,c,l],[g],[]⟩
 |.drop n=>⟨lg,[n],[],[]⟩
 |.plan c=>⟨l9,[c],[],[]⟩
 |.pour c=>⟨jF,[c],[],[]⟩
 |.test t=>⟨gF,[],[],t⟩
 |.promise k=>⟨fj,[k],[],[]⟩
 |.box k h=>⟨kn,[k],[h],[]⟩
 |.look=>⟨jG,[],[],[]⟩
 |.wick k a b c d=>⟨ji,[k],[a,b,c,d],[]⟩
 |.blend a b c=>⟨gj,[],[a,b,c],[]⟩
 |.stock=>⟨gi,[],[],[]⟩
def ly:Said:=⟨[],[],[],[]⟩
def yd (l:List UInt8):Said×Int:=match gc l with|.error e=>(ly,e)|.ok c=>(bp c,0)
def hH:List (List UInt8)->List Int->List Int×Bool
 |[],m=>(m,true)
 |w::r,m=>if w≠kX/\eC w<0 then(m,false) else hH r (m++[eC w])
def e8 (ws:List (List UInt8)):List UInt8->Nat->List (List UInt8)->List Int->List (List UInt8)×List Int×Bool
 |[],i,n,m=>(n,m,ws.length==i)
 |c::f,i,n,m=>
  if c=114 then(n,(hH (ws.drop i) m).1,(hH (ws.drop i) m).2&&decide (i<=ws.length))
  else match ws[i]? with
   |none=>(n,m,false)
   |some w=>
    if c=97 then(if nameOk (bs w)=true then e8 ws f (i+1) (n++[w]) m else(n++[w],m,false))
    else(if eC w<0 then(n,m++[eC w],false) else e8 ws f (i+1) n (m++[eC w]))
def HJ (v:List UInt8) (q:List (List UInt8)×List Int×Bool):PV:=.tuple [Said.pv ⟨v,q.1,q.2.1,[]⟩,.bool q.2.2]
def uo (v:List UInt8) (n:List (List UInt8)) (m:List Int):AV:=.agg [.p (.str (bs v)),.slice 2 n.length 0 n.length,.slice 3 m.length 0 m.length,.p (.str (bs []))]
def np:AV:=.p (.agg [.str ⟨#[]⟩,.nilslice,.nilslice,.str ⟨#[]⟩])
def tB (v:List UInt8) (n:List (List UInt8)) (m:List Int):Heap:=[.row 4 [np],.row 4 [uo v n m],.row 1 (n.map ng),.row 1 (m.map λx=>.p (ay x))]
def Vj(w):-1<=eC w/\eC w<=10000000:=by
 unfold eC
 cases h:bV w with
 |none=>simp
 |some v=>
  unfold bV at h;split at h
  .split at h
   .rename_i e;cases h;simp only;omega
   .cases h
  .cases h
def We(v)(ws)(f)(hw:ws.length<=1000)(hf:f.length<=1000)(a0:∀w,w∈ws->w.length<=1000):af Tryz.prog 123 [.str (bs v),aN ws,.str (bs f)] (HJ v (e8 ws f 0 [] [])):=by
 refine bF (ag func123 rfl) rfl ?_;have z:((bs f).size:Int)=(f.length:Int):=by rw[al]
 simp only[aN,go_sem,simprocAttr];refine fC [0,1,2,6,8,9] 1 1 4 _ (.agg [.p (.str (bs v)),.slice 2 0 0 0,.p .nilslice,.p (.str ⟨#[]⟩)]) (cG _) (cG _) rfl (gL 1 rfl rfl rfl) ?_ ?_ rfl ?_
 .simp[go_sem]
 .simp[go_sem]
 refine zm ?_;refine fC [0,1,2,6,8,9] 1 1 4 _ (.agg [.p (.str (bs v)),.slice 2 0 0 0,.slice 3 0 0 0,.p (.str ⟨#[]⟩)]) (cG _) (cG _) rfl (gL 2 rfl rfl rfl) ?_ ?_ rfl ?_
 .simp[go_sem]
 .simp[go_sem]
 refine zm ?_
 refine dY [1,2,6,8] (σ:=List UInt8×List UInt8×List (List UInt8)×List Int) (λq=>f=q.1++q.2.1/\e8 ws f 0 [] []=e8 ws q.2.1 q.1.length q.2.2.1 q.2.2.2/\q.2.2.1.length<=q.1.length/\q.2.2.2.length<=q.1.length) (λq=>q.2.1.length)
  (λq=>[(9,.p (.int .i64 q.1.length))]) (λq=>tB v q.2.2.1 q.2.2.2) ([],f,[],[]) ⟨rfl,rfl,ba _,ba _⟩ (by simp only[tB,uo,np,go_sem,simprocAttr];rfl) ?_ ?_
 .simp[go_sem]
 rintro⟨d_,rest,n,m⟩ ⟨M,i,e3,e4⟩
 dsimp only at M i e3 e4;have L:=congrArg List.length M;rw[ak]at L;have N:List.take n.length (n.map λx=>PV.str (bs x))=n.map λx=>PV.str (bs x):=dt (by simp);have a1:n.length+1<=ai:=by simp only[ai];omega
 have U:m.length+1<=ai:=by simp only[ai];omega
 cases rest with
 |nil=>
  have j:¬((d_.length:Int)<(f.length:Int)):=by rw[M];simp
  simp only[z,j,decide_false,tB,uo,np,nJ,N,go_sem,simprocAttr];have F:(((ws.length:Nat):Int)==((f.length:Nat):Int))=(ws.length==d_.length):=by
   rw[km];simp at L |-;omega
  rw[F,i]
  exact .inl rfl
 |cons c r=>
  obtain⟨hx,j⟩:=ca M;rw[bc]at L;have D:(bs f)[d_.length]?=some c:=by rw[tU];exact hx
  have S:i64.wrap ((d_.length:Int)+1)=(((d_++[c]).length:Nat):Int):=aO (by omega) (by simp[ai];omega) (by simp);have a4:decide ((d_.length:Int)<(f.length:Int))=true:=by simpa using j
  by_cases Y:c=114
  .subst Y;have d1:((((114:UInt8).toNat:Nat):Int)==114)=true:=rfl;simp only[z,j,D,tB,uo,np,go_sem,simprocAttr]
   refine dY [1,6,8,9] (σ:=List (List UInt8)×List (List UInt8)×List Int) (λq=>ws.drop d_.length=q.1++q.2.1/\hH (ws.drop d_.length) m=hH q.2.1 q.2.2/\q.2.2.length<=m.length+q.1.length) (λq=>q.2.1.length)
    (λq=>[(10,.p (.int .i64 ((d_.length+q.1.length:Nat):Int)))]) (λq=>tB v n q.2.2) ([],ws.drop d_.length,m) ⟨rfl,rfl,ba _⟩ (by simp[tB,uo,np,go_sem]) ?_ ?_
   .simp only[go_sem,simprocAttr];rfl
   rintro⟨A,rs,m'⟩ ⟨O,C,g3⟩
   dsimp only at O C g3;have gl:=congrArg List.length O;rw[ak,List.length_drop]at gl
   cases rs with
   |nil=>
    rw[bS]at gl;have u:¬(((d_.length+A.length:Nat):Int)<((ws.length:Nat):Int)):=by omega
    simp only[u,decide_false,tB,uo,np,nJ,N,go_sem,simprocAttr];refine .inl ?_;rw[i,e8,if_pos rfl,C];have F:decide (((d_.length:Nat):Int)<=((ws.length:Nat):Int))=decide (d_.length<=ws.length):=by
     rw[km];simp
    rw[F]
    rfl
   |cons w rs=>
    rw[bc]at gl;have u:(((d_.length+A.length:Nat):Int)<((ws.length:Nat):Int)):=by omega
    have y:ws[d_.length+A.length]?=some w:=by
     have:(ws.drop d_.length)[A.length]?=some w:=by rw[O];simp
     rwa [sc]at this
    have G:m'.length+1<=ai:=by simp only[ai];omega
    have a5:=a0 w (aB y);have I:i64.wrap (((d_.length+A.length:Nat):Int)+1)=((d_.length+(A++[w]).length:Nat):Int):=aO (by omega) (by simp[ai];omega) (by simp;omega);have hg:=Vj w;have cx:(⟨#[120]⟩:ByteArray)=bs kX:=rfl;simp only[u,decide_true,y,tB,uo,np,go_sem,simprocAttr];refine aa (N2 w) rfl ?_;rw[hH]at C;by_cases X:w=kX
    .have Z:(bs w==bs kX)=true:=by rw[cF];simpa using X
     rw[if_neg (λh=>h.1 X)]at C;refine t_ y u cx Z G ?_;refine aZ (A++[w],rs,m'++[eC w]) ⟨by rw[O];simp,C,by show (m'++[eC w]).length<=m.length+(A++[w]).length;simp;omega⟩ (dc _) (by simp only[tB,uo,np,ak,aK,aS,go_sem,simprocAttr]) ?_;simp only[I,go_sem,simprocAttr]
    .have Z:(bs w==bs kX)=false:=by rw[cF];simpa using X
     by_cases V:eC w<0
     .have J:decide (eC w<0)=true:=decide_eq_true V;rw[if_pos ⟨X,V⟩]at C;simp only[y,u,cx,Z,J,nJ,N,go_sem,simprocAttr];refine .inl ?_;rw[i,e8,if_pos rfl,C];rfl
     .have J:decide (eC w<0)=false:=decide_eq_false V;rw[if_neg (λh=>V h.2)]at C;simp only[y,u,cx,Z,J,G,go_sem,simprocAttr];refine aZ (A++[w],rs,m'++[eC w]) ⟨by rw[O];simp,C,by show (m'++[eC w]).length<=m.length+(A++[w]).length;simp;omega⟩ (dc _) (by simp only[tB,uo,np,ak,aK,aS,go_sem,simprocAttr]) ?_;simp only[I,go_sem,simprocAttr]
  .have d1:(((c.toNat:Nat):Int)==114)=false:=by
    rw[beq_eq_false_iff_ne];intro e;exact Y (UInt8.toNat_inj.1 (by show c.toNat=114;omega))
   by_cases hi:ws.length<=d_.length
   .have R:decide (((ws.length:Nat):Int)<=(d_.length:Int))=true:=decide_eq_true (by omega);have R:((ws.length:Nat):Int)<=(d_.length:Int):=by omega
    simp only[z,j,D,d1,R,tB,uo,np,nJ,N,go_sem,simprocAttr];rw[i,e8,if_neg Y,vV hi];exact .inl rfl
   .obtain⟨w,l⟩:∃w,ws[d_.length]?=some w:=⟨_,bL (by omega)⟩
    have R:decide (((ws.length:Nat):Int)<=(d_.length:Int))=false:=decide_eq_false (by omega);have E:(d_.length:Int)<(ws.length:Int):=by omega
    by_cases ha:c=97
    .subst ha;have d3:((((97:UInt8).toNat:Nat):Int)==97)=true:=rfl;simp only[z,j,D,R,l,E,tB,uo,np,go_sem,simprocAttr];refine zn a1 ?_;refine zo E l ?_;refine aa (Je (bs w)) rfl ?_;have t2:List.take (n.length+1) (n.map (λx=>PV.str (bs x))++[.str (bs w)])=n.map (λx=>PV.str (bs x))++[.str (bs w)]:=dt (by simp);have a3:∀k h,aE (bi k h) (n.map ng++[.p (.str (bs w))])=some (n.map (λx=>PV.str (bs x))++[.str (bs w)]):=λk h=>by
      have:=nJ k h (n++[w]);simpa[ng]using this
     have K:e8 ws (97::r) d_.length n m=if nameOk (bs w)=true then e8 ws r (d_.length+1) (n++[w]) m else(n++[w],m,false):=by
      rw[e8,if_neg (by decide),l];dsimp only;rw[if_pos rfl]
     rw[K]at i;cases T:nameOk (bs w)
     .simp only[a3,t2,ak,aK,go_sem,simprocAttr];rw[T,if_neg (by simp)]at i;rw[i];refine .inl ?_;simp[HJ,Said.pv,aN,ay]
     .refine zm ?_;refine aZ (d_++[97],r,n++[w],m) ⟨by rw[M];simp,?_,?_,?_⟩ (dc _) (by simp[tB,uo,np,ak,aK,aS,ng,go_sem]) ?_
      .rw[T,if_pos rfl]at i;rw[i,ak,aK]
      .simp;omega
      .simp;omega
      simp[S,go_sem]
    .have d3:(((c.toNat:Nat):Int)==97)=false:=by
      rw[beq_eq_false_iff_ne];intro e;exact ha (UInt8.toNat_inj.1 (by show c.toNat=97;omega))
     simp only[z,j,D,d1,R,d3,l,E,tB,uo,np,go_sem,simprocAttr];refine aj (N2 w) rfl (zp U l E ?_);refine aa (N2 w) rfl ?_;have K:e8 ws (c::r) d_.length n m=if eC w<0 then(n,m++[eC w],false) else e8 ws r (d_.length+1) n (m++[eC w]):=by
      rw[e8,if_neg Y,l];dsimp only;rw[if_neg ha]
     rw[K]at i;have t3:List.take (m.length+1) (m.map (PV.int .i64)++[.int .i64 (eC w)])=m.map (PV.int .i64)++[.int .i64 (eC w)]:=dt (by simp);have a2:∀k h,aE (bi k h) (m.map (λx=>AV.p (PV.int .i64 x))++[.p (.int .i64 (eC w))])=some (m.map (PV.int .i64)++[.int .i64 (eC w)]):=λk h=>by
      have:=aW (bH k h) (PV.int .i64) (m++[eC w]);simpa using this
     by_cases F:eC w<0
     .have J:decide (eC w<0)=true:=decide_eq_true F;rw[if_pos F]at i;simp only[J,nJ,N,a2,t3,ak,aK,go_sem,simprocAttr];rw[i];refine .inl ?_;simp[HJ,Said.pv,aN,ay]
     .have J:decide (eC w<0)=false:=decide_eq_false F;rw[if_neg F]at i;refine zn J ?_;refine aZ (d_++[c],r,n,m++[eC w]) ⟨by rw[M];simp,?_,?_,?_⟩ (dc _) (by simp[tB,uo,np,ak,aK,aS,go_sem]) ?_
      .rw[i,ak,aK]
      .simp;omega
      .simp;omega
      simp[S,go_sem]
def ir:List (List UInt8×List UInt8):=[(p7,[97,97,110,114]),(j2,[97,97,97,110]),(lg,[97]),(l9,[97]),(jF,[97]),(gF,[]),(fj,[97]),(kn,[97,110]),(jG,[]),(ji,[97,110,110,110,110]),(gj,[110,110,110]),(gi,[])]
def YA:af Tryz.prog 122 [] (.tuple [aN (ir.map (·.1)),aN (ir.map (·.2))]):=by
 refine af.lessD (q:=.tuple [.slice 1 ((ir.map (·.1)).map λx=>.str (bs x)) true,.slice 1 ((ir.map (·.2)).map λx=>.str (bs x)) true]) ?_ (PL.tupleL ⟨PL.sliceL rfl (dZ _),PL.sliceL rfl (dZ _),trivial⟩);refine ae (ag func122 rfl) rfl (zm ?_);exact⟨rfl,rfl⟩
def kz (w:List UInt8) (r:List (List UInt8)):List (List UInt8×List UInt8)->Said×Int
 |[]=>(ly,6)
 |(v,f)::t=>if v=w/\v≠gF/\(e8 r f 0 [] []).2.2=true then(⟨v,(e8 r f 0 [] []).1,(e8 r f 0 [] []).2.1,[]⟩,0) else kz w r t
def O3{l}(h:l.take 5=jj):aP 10 l=(gF,some (l.drop 5)):=by
 have:l=jj++l.drop 5:=by rw[<-h,ja]
 generalize l.drop 5=r at this;subst this;rfl
def US{l}(h:¬l.take 5=jj):Lib.indexByte l 10<0\/(0<=Lib.indexByte l 10/\Lib.indexByte l 10<=(l.length:Int)/\l.take (Lib.indexByte l 10).toNat≠gF):=by
 rcases lA 10 l with⟨v,j,e⟩|⟨r,v,j,e⟩
 .left;omega
 .right;have u:=congrArg List.length e;rw[ak]at u;refine⟨by omega,by omega,λi=>h ?_⟩;have q:l.take (aP 10 l).1.length=(aP 10 l).1:=by
   have:=congrArg (List.take (aP 10 l).1.length) e;rw[eX]at this
   .exact this
   .rfl
  rw[j,gX,q]at i;rw[i]at e;rw[e];rfl
def wu (l:List UInt8):Said×Int:=
 if 400<l.length then(ly,3) else if l.take 5=jj then(⟨gF,[],[],l.drop 5⟩,0) else match aA 32 l with|[]=>(ly,6)|w::r=>kz w r ir
def zay(l):af Tryz.prog 51 [.str (bs l)] (.tuple [(wu l).1.pv,.int .i64 (wu l).2]):=by
 have hz:PL (.agg [.str ⟨#[]⟩,.nilslice,.nilslice,.str ⟨#[]⟩]) ly.pv:=PL.aggL rfl ⟨.refl _,.nil _,.nil _,.refl _,trivial⟩;have z:((bs l).size:Int)=(l.length:Int):=by rw[al]
 by_cases V:400<l.length
 .have T:decide ((400:Int)<(l.length:Int))=true:=decide_eq_true (by omega);have F:wu l=(ly,3):=if_pos V;rw[F];refine af.lessD (q:=.tuple [.agg [.str ⟨#[]⟩,.nilslice,.nilslice,.str ⟨#[]⟩],.int .i64 3]) ?_ (PL.tupleL ⟨hz,.refl _,trivial⟩);refine bF (dv (by kernel_rfl) rfl Sd) rfl ?_;simp[z,T,go_sem]
 have T:decide ((400:Int)<(l.length:Int))=false:=decide_eq_false (by omega);by_cases D:l.take 5=jj
 .have y:=O3 D;have F:wu l=(⟨gF,[],[],l.drop 5⟩,0):=by rw[wu,if_neg V,if_pos D]
  rw[F];refine af.lessD (q:=.tuple [.agg [.str (bs gF),.nilslice,.nilslice,.str (bs (l.drop 5))],.int .i64 0]) ?_ (PL.tupleL ⟨PL.aggL rfl ⟨.refl _,.nil _,.nil _,.refl _,trivial⟩,.refl _,trivial⟩);refine bF (dv (by kernel_rfl) rfl Sd) rfl (zo z T ?_);refine aa (Us l (by omega)) rfl ?_;have a1:Lib.indexByte l 10=4:=by
   rcases lA 10 l with⟨E,G,g3⟩|⟨r,E,G,g3⟩
   .rw[y]at E;cases E
   .rw[G,y];rfl
  have a3:5<=l.length:=by
   have:=congrArg List.length D;rw[wg]at this;have h5:jj.length=5:=rfl;omega
  have C:(4:Int)<=((bs l).size:Int):=by rw[al];omega
  have L:(5:Int)<=((bs l).size:Int):=by rw[al];omega
  have Y:(bs l).extract 0 4=bs gF:=by
   rw[dF,qy]
   congr 1
   have:l.take 4=(l.take 5).take 4:=by rw[List.take_take];rfl
   rw[this,D];rfl
  have e5:(bs l).extract 5 (bs l).size=bs (l.drop 5):=by
   rw[dF,al,nS]
  have I:(⟨#[116,101,115,116]⟩:ByteArray)=bs gF:=rfl;have b4:(bs gF==bs gF)=true:=(qm _ _).2 rfl;have w5:i64.wrap 5=5:=rfl;rw[a1];simp[C,L,Y,e5,I,b4,w5,go_sem]
 .obtain⟨w,r,j⟩:=uM 32 l;have F:wu l=kz w r ir:=by rw[wu,if_neg V,if_neg D,j]
  have a0:∀x,x∈w::r->x.length<=400:=λx hx=>by
   have:=uj 32 l x (by rw[j];exact hx);omega
  have a4:r.length<=400:=by
   have:=pc 32 l;rw[j,bc]at this;omega
  have J:=pB l 32 (by omega);rw[j,bG]at J;have I:(⟨#[116,101,115,116]⟩:ByteArray)=bs gF:=rfl;have K:xO (.tuple [.agg [.str ⟨#[]⟩,.nilslice,.nilslice,.str ⟨#[]⟩],.int .i64 6]) (.tuple [ly.pv,.int .i64 6]):=λM x u h=>(PL.tupleL (a:=[.agg [.str ⟨#[]⟩,.nilslice,.nilslice,.str ⟨#[]⟩],.int .i64 6]) (b:=[ly.pv,.int .i64 6]) ⟨hz,.refl _,trivial⟩).rep h;rw[F];refine tF cH (fn:=f51) (n:=74) (rs:=[.cell 2 119,.tmp 3]) (by kernel_rfl) rfl rfl rfl Sd (pH rfl) (zo z T ?_);refine aa (Us l (by omega)) rfl ?_;rcases US D with g|⟨g0,E,G⟩
  case' inl=>
   have b2:decide (0<=Lib.indexByte l 10)=false:=decide_eq_false (by omega);simp[b2,go_sem]
  case' inr=>
   obtain⟨m,hm⟩:=na g0;rw[hm]at E G |-;have b2:decide (0<=((m:Nat):Int))=true:=decide_eq_true (by omega);have C:((m:Nat):Int)<=((bs l).size:Int):=by rw[al];exact E
   have Y:(bs l).extract 0 m=bs (l.take m):=by rw[dF,qy]
   have b4:(bs (l.take m)==bs gF)=false:=by rw[cF];simpa using G
   simp[C,Y,I,b4,go_sem]
  all_goals
   refine aa J rfl (zm ?_);refine aa YA rfl ?_;simp only[aN,go_sem,simprocAttr];refine aG [2,5,6,7] ir (by decide) (τ:=Unit) (λd_ rest _=>kz w r ir=kz w r rest) (λd_ _=>[(8,.p (.int .i64 d_.length))]) (λ_ _=>[.row 4 [np]]) () rfl ?_ ?_ ?_
   .simp[np,bS,go_sem]
   .intro _ e;have i:¬((ir.length:Int)<(ir.length:Int)):=by omega
    simp only[np,i,decide_false,go_sem,simprocAttr];rw[e];exact K
   .rintro d_ ⟨v,f⟩ t _ R e hx i A
    have X:(0:Int)<((r.length+1:Nat):Int):=by omega
    have a2:(1:Int)<=((r.length+1:Nat):Int):=by omega
    rw[kz]at e;by_cases U:v=w;rotate_left
    .have S:(bs v==bs w)=false:=by rw[cF];simpa using U
     rw[if_neg (λh=>U h.1)]at e;simp only[np,i,decide_true,hx,X,Mm,aD,S,go_sem,simprocAttr];refine am R () (by exact e) ?_;simp[A,np,go_sem]
    .subst U;have S:(bs v==bs v)=true:=(qm _ _).2 rfl;by_cases O:v=gF
     .have Z:(bs v==bs gF)=true:=by rw[cF];simpa using O
      rw[if_neg (λh=>h.2.1 O)]at e;simp only[np,i,decide_true,hx,X,Mm,aD,S,I,Z,go_sem,simprocAttr];refine am R () (by exact e) ?_;simp[A,np,go_sem]
     .have Z:(bs v==bs gF)=false:=by rw[cF];simpa using O
      simp only[np,i,decide_true,hx,X,a2,Mm,aD,S,I,Z,go_sem,simprocAttr];have a5:f.length<=5:=by
       have:∀p,p∈ir->p.2.length<=5:=by decide
       exact this (v,f) (by rw[R];simp)
      refine aj (We v r f (by omega) (by omega) (λx hx=>by have:=a0 x (by simp[hx]);omega)) rfl ?_;cases N:(e8 r f 0 [] []).2.2
      .rw[if_neg (λh=>by rw[N]at h;exact absurd h.2.2 (by simp))]at e;simp only[Mm,HJ,N,Said.pv,go_sem,simprocAttr];refine am R () (by exact e) ?_;simp[A,np,go_sem]
      .rw[if_pos ⟨rfl,O,N⟩]at e;rw[e];simp only[Mm,HJ,N,Said.pv,go_sem,simprocAttr];exact xO.rfl'
def eT:List UInt8->List (List UInt8)->Option (List (List UInt8)×List Int)
 |[],[]=>some ([],[])
 |[],_::_=>none
 |c::f,ws=>
  if c=114 then(cV ws).map λl=>([],l)
  else match ws with
   |[]=>none
   |w::r=>
    if c=97 then(match bn w with|none=>none|some x=>(eT f r).map λq=>(x::q.1,q.2))
    else(match bV w with|none=>none|some x=>(eT f r).map λq=>(q.1,x::q.2))
def Fj{w}{v}(h:bV w=some v):eC w=v/\¬v<0:=by
 unfold eC;rw[h];unfold bV at h;split at h
 .split at h
  .rename_i e;cases h;exact⟨rfl,by omega⟩
  .cases h
 .cases h
def yr{w}(h:bV w=none):eC w=-1:=by
 unfold eC;rw[h]
def yo:∀(ws) (m),(hH ws m).2=(cV ws).isSome/\∀l,cV ws=some l->(hH ws m).1=m++l
 |[],m=>⟨rfl,λl h=>by cases h;simp[hH]⟩
 |w::r,m=>by
  by_cases e:w=kX
  .have i:eC w=-1:=yr (by rw[e];decide);obtain⟨C,A⟩:=yo r (m++[eC w]);have q:hH (w::r) m=hH r (m++[eC w]):=by rw[hH,if_neg (λh=>h.1 e)]
   have j:cV (w::r)=(cV r).map (-1::·):=by rw[cV,if_pos e]
   rw[q,j];refine⟨by rw[C];simp,λl h=>?_⟩;obtain⟨y,z,rfl⟩:=bg.1 h;rw[A y z,i];simp
  .cases u:bV w with
   |none=>
    have i:=yr u;have q:hH (w::r) m=(m,false):=by rw[hH,if_pos ⟨e,by omega⟩]
    have j:cV (w::r)=none:=by rw[cV,if_neg e,u]
    rw[q,j]
    exact⟨rfl,λl h=>by cases h⟩
   |some v=>
    obtain⟨i,D⟩:=Fj u;obtain⟨C,A⟩:=yo r (m++[eC w]);have q:hH (w::r) m=hH r (m++[eC w]):=by rw[hH,if_neg (λh=>by rw[i]at h;exact D h.2)]
    have j:cV (w::r)=(cV r).map (v::·):=by rw[cV,if_neg e,u]
    rw[q,j];refine⟨by rw[C];simp,λl h=>?_⟩;obtain⟨y,z,rfl⟩:=bg.1 h;rw[A y z,i];simp
def DR(ws):∀(f) (i) (n) (m),i<=ws.length->(e8 ws f i n m).2.2=(eT f (ws.drop i)).isSome/\∀q,eT f (ws.drop i)=some q->(e8 ws f i n m).1=n++q.1/\(e8 ws f i n m).2.1=m++q.2
 |[],i,n,m,hi=>by
  cases A:ws.drop i with
  |nil=>
   have:=congrArg List.length A;rw[List.length_drop,bS]at this;refine⟨?_,λq h=>by cases h;simp[e8]⟩;simp[e8,eT]
   omega
  |cons w r=>
   have:=congrArg List.length A;rw[List.length_drop,bc]at this;refine⟨?_,λq h=>by cases h⟩;simp[e8,eT]
   omega
 |c::f,i,n,m,hi=>by
  by_cases e:c=114
  .obtain⟨D,C⟩:=yo (ws.drop i) m;have u:e8 ws (c::f) i n m=(n,(hH (ws.drop i) m).1,(hH (ws.drop i) m).2&&decide (i<=ws.length)):=by rw[e8,if_pos e]
   have j:eT (c::f) (ws.drop i)=(cV (ws.drop i)).map λl=>([],l):=by
    cases A:ws.drop i<;>rw[eT,if_pos e]
   rw[u,j];refine⟨by rw[D];simp[hi],λq h=>?_⟩;obtain⟨N,F,rfl⟩:=bg.1 h;exact⟨by simp,C N F⟩
  .cases A:ws.drop i with
   |nil=>
    have:=congrArg List.length A;rw[List.length_drop,bS]at this;have u:e8 ws (c::f) i n m=(n,m,false):=by rw[e8,if_neg e,vV (by omega)]
    have j:eT (c::f) []=none:=by rw[eT,if_neg e]
    rw[u,j]
    exact⟨rfl,λq h=>by cases h⟩
   |cons w r=>
    have hw:ws[i]?=some w:=by
     have:(ws.drop i)[0]?=some w:=by rw[A];rfl
     rwa [sc]at this
    have M:ws.drop (i+1)=r:=by rw[<-vZ,A];rfl
    have G:i+1<=ws.length:=(aC.1 hw).1;by_cases z:c=97
    .cases y:nameOk (bs w) with
     |false=>
      have u:e8 ws (c::f) i n m=(n++[w],m,false):=by rw[e8,if_neg e,hw];(try dsimp only);rw[if_pos z,y,if_neg (by simp)]
      have E:bn w=none:=by rw[bn,y,if_neg (by simp)]
      have j:eT (c::f) (w::r)=none:=by rw[eT,if_neg e];(try dsimp only);rw[if_pos z,E]
      rw[u,j]
      exact⟨rfl,λq h=>by cases h⟩
     |true=>
      have u:e8 ws (c::f) i n m=e8 ws f (i+1) (n++[w]) m:=by rw[e8,if_neg e,hw];(try dsimp only);rw[if_pos z,y,if_pos rfl]
      have E:bn w=some w:=by rw[bn,y,if_pos rfl]
      have j:eT (c::f) (w::r)=(eT f r).map λq=>(w::q.1,q.2):=by rw[eT,if_neg e];(try dsimp only);rw[if_pos z,E]
      obtain⟨D,C⟩:=DR ws f (i+1) (n++[w]) m G;rw[M]at D C;rw[u,j];refine⟨by rw[D];simp,λq h=>?_⟩;obtain⟨I,F,rfl⟩:=bg.1 h;obtain⟨K,J⟩:=C I F;exact⟨by rw[K];simp,J⟩
    .cases y:bV w with
     |none=>
      have L:=yr y;have u:e8 ws (c::f) i n m=(n,m++[eC w],false):=by rw[e8,if_neg e,hw];(try dsimp only);rw[if_neg z,if_pos (by omega)]
      have j:eT (c::f) (w::r)=none:=by rw[eT,if_neg e];(try dsimp only);rw[if_neg z,y]
      rw[u,j]
      exact⟨rfl,λq h=>by cases h⟩
     |some v=>
      obtain⟨L,O⟩:=Fj y;have u:e8 ws (c::f) i n m=e8 ws f (i+1) n (m++[eC w]):=by rw[e8,if_neg e,hw];(try dsimp only);rw[if_neg z,if_neg (by omega)]
      have j:eT (c::f) (w::r)=(eT f r).map λq=>(q.1,v::q.2):=by rw[eT,if_neg e];(try dsimp only);rw[if_neg z,y]
      obtain⟨D,C⟩:=DR ws f (i+1) n (m++[eC w]) G;rw[M]at D C;rw[u,j];refine⟨by rw[D];simp,λq h=>?_⟩;obtain⟨I,F,rfl⟩:=bg.1 h;obtain⟨K,J⟩:=C I F;exact⟨K,by rw[J,L];simp⟩
def MQ(w v)(f)(r)(t)(l:v≠gF):kz w r ((v,f)::t)=if v=w then(match eT f r with|some q=>(⟨v,q.1,q.2,[]⟩,0)|none=>kz w r t) else kz w r t:=by
 obtain⟨e,j⟩:=DR r f 0 [] [] (cG _);rw[qy]at e j;rw[kz];by_cases hw:v=w
 .rw[if_pos hw]
  cases i:eT f r with
  |none=>
   rw[i]at e
   rw[if_neg (λh=>by rw[e]at h;exact absurd h.2.2 (by simp))]
  |some q=>
   rw[i]at e;obtain⟨y,u⟩:=j q i;rw[if_pos ⟨hw,l,e⟩,y,u];rfl
 .rw[if_neg hw,if_neg (λh=>hw h.1)]
end Ch
namespace Ch
set_option maxRecDepth 4000
def Wb(s:ChShop)(j)(u:s.wax.kinds.length<1000000000):af Tryz.prog 189 [s.pv,.str (bs j)] (.int .i64 (an (λx=>x.name==bs j) s.wax.kinds 0)):=by
 refine ae (ag func189 rfl) rfl (zm ?_);refine aG [1,2] s.wax.kinds u (τ:=Unit) (λd r _=>an (λx:WxKind=>x.name==bs j) s.wax.kinds 0=an (λx:WxKind=>x.name==bs j) r d.length) (λd _=>[(5,.p (.int .i64 d.length))]) (λ_ _=>[.row 17 [.p s.pv]]) () rfl ?_ ?_ ?_
 .simp[bS,go_sem]
 .intro _ e;have i:¬((s.wax.kinds.length:Int)<(s.wax.kinds.length:Int)):=by omega
  rw[e];simp[i,decide_false,an,go_sem]
 .intro d x r _ v e hx i l;refine zp i decide_true hx ?_;rw[an]at e
  cases q:(x.name==bs j) with
  |true=>
   rw[q,if_pos rfl]at e;rw[e]
   simp[go_sem]
  |false=>
   rw[q,if_neg (by simp)]at e;refine zm ?_;refine am v () (by rw[e];simp) ?_;simp[l,go_sem]
def zd(s:ChShop)(j)(u:s.colour.colours.length<1000000000):af Tryz.prog 192 [s.pv,.str (bs j)] (.int .i64 (an (λx=>x.name==bs j) s.colour.colours 0)):=by
 refine ae (ag func192 rfl) rfl (zm ?_);refine aG [1,2] s.colour.colours u (τ:=Unit) (λd r _=>an (λx:ClColour=>x.name==bs j) s.colour.colours 0=an (λx:ClColour=>x.name==bs j) r d.length) (λd _=>[(5,.p (.int .i64 d.length))]) (λ_ _=>[.row 17 [.p s.pv]]) () rfl ?_ ?_ ?_
 .simp[bS,go_sem]
 .intro _ e;have i:¬((s.colour.colours.length:Int)<(s.colour.colours.length:Int)):=by omega
  rw[e];simp[i,decide_false,an,go_sem]
 .intro d x r _ v e hx i l;refine zp i decide_true hx ?_;rw[an]at e
  cases q:(x.name==bs j) with
  |true=>
   rw[q,if_pos rfl]at e;rw[e]
   simp[go_sem]
  |false=>
   rw[q,if_neg (by simp)]at e;refine zm ?_;refine am v () (by rw[e];simp) ?_;simp[l,go_sem]
def FU(s:ChShop)(j)(u:s.hour.kinds.length<1000000000):af Tryz.prog 199 [s.pv,.str (bs j)] (.int .i64 (an (λx=>x.name==bs j) s.hour.kinds 0)):=by
 refine ae (ag func199 rfl) rfl (zm ?_);refine aG [1,2] s.hour.kinds u (τ:=Unit) (λd r _=>an (λx:HrKind=>x.name==bs j) s.hour.kinds 0=an (λx:HrKind=>x.name==bs j) r d.length) (λd _=>[(5,.p (.int .i64 d.length))]) (λ_ _=>[.row 17 [.p s.pv]]) () rfl ?_ ?_ ?_
 .simp[bS,go_sem]
 .intro _ e;have i:¬((s.hour.kinds.length:Int)<(s.hour.kinds.length:Int)):=by omega
  rw[e];simp[i,decide_false,an,go_sem]
 .intro d x r _ v e hx i l;refine zp i decide_true hx ?_;rw[an]at e
  cases q:(x.name==bs j) with
  |true=>
   rw[q,if_pos rfl]at e;rw[e]
   simp[go_sem]
  |false=>
   rw[q,if_neg (by simp)]at e;refine zm ?_;refine am v () (by rw[e];simp) ?_;simp[l,go_sem]
def QG(s:ChBooks)(j)(u:s.lots.length<1000000000):af Tryz.prog 190 [s.pv,.str (bs j)] (.int .i64 (an (λx=>x.name==bs j) s.lots 0)):=by
 refine ae (ag func190 rfl) rfl (zm ?_);refine aG [1,2] s.lots u (τ:=Unit) (λd r _=>an (λx:ChLot=>x.name==bs j) s.lots 0=an (λx:ChLot=>x.name==bs j) r d.length) (λd _=>[(5,.p (.int .i64 d.length))]) (λ_ _=>[.row 6 [.p s.pv]]) () rfl ?_ ?_ ?_
 .simp[bS,go_sem]
 .intro _ e;have i:¬((s.lots.length:Int)<(s.lots.length:Int)):=by omega
  rw[e];simp[i,decide_false,an,go_sem]
 .intro d x r _ v e hx i l;refine zp i decide_true hx ?_;rw[an]at e
  cases q:(x.name==bs j) with
  |true=>
   rw[q,if_pos rfl]at e;rw[e]
   simp[go_sem]
  |false=>
   rw[q,if_neg (by simp)]at e;refine zm ?_;refine am v () (by rw[e];simp) ?_;simp[l,go_sem]
def I'(s:ChBooks)(j)(u:s.batches.length<1000000000):af Tryz.prog 193 [s.pv,.str (bs j)] (.int .i64 (an (λx=>x.name==bs j) s.batches 0)):=by
 refine ae (ag func193 rfl) rfl (zm ?_);refine aG [1,2] s.batches u (τ:=Unit) (λd r _=>an (λx:ChBatch=>x.name==bs j) s.batches 0=an (λx:ChBatch=>x.name==bs j) r d.length) (λd _=>[(5,.p (.int .i64 d.length))]) (λ_ _=>[.row 6 [.p s.pv]]) () rfl ?_ ?_ ?_
 .simp[bS,go_sem]
 .intro _ e;have i:¬((s.batches.length:Int)<(s.batches.length:Int)):=by omega
  rw[e];simp[i,decide_false,an,go_sem]
 .intro d x r _ v e hx i l;refine zp i decide_true hx ?_;rw[an]at e
  cases q:(x.name==bs j) with
  |true=>
   rw[q,if_pos rfl]at e;rw[e]
   simp[go_sem]
  |false=>
   rw[q,if_neg (by simp)]at e;refine zm ?_;refine am v () (by rw[e];simp) ?_;simp[l,go_sem]
def ea (l:List Int):List UInt8:=l.flatMap λn=>32::aX n
def M8(d)(n):ea (d++[n])=ea d++32::aX n:=by simp[ea]
def ny:∀d,(∀n,n∈d->0<=n/\n<1000000000)->(ea d).length<=1001*d.length
 |[],_=>ba _
 |n::d,h=>by
  have e:=h n (by simp);have:=j8 e.1 e.2;have:=ny d λm i=>h m (by simp[i]);unfold ea at this |-;simp only[mS,ak,bc];omega
def mf(l)(fl)(G:l.length<=100000)(h:∀n,n∈l->0<=n/\n<1000000000):af Tryz.prog 97 [.slice 1 (l.map ay) fl] (.str (bs (ea l))):=by
 refine ae (ag func97 rfl) rfl (zm ?_);refine aG [0] l (by omega) (τ:=Unit) (λ_ _ _=>True) (λd _=>[(3,.p (.str (bs (ea d)))),(4,.p (.int .i64 d.length))]) (λ_ _=>[]) () trivial ?_ ?_ ?_
 .simp only[bS,go_sem,simprocAttr];rfl
 .intro _ _;have i:¬((l.length:Int)<(l.length:Int)):=by omega
  simp[i,decide_false,go_sem]
 .intro d n r _ j _ C i u;have e:=h n (by rw[j];simp);have y:(⟨#[32]⟩:ByteArray)=bs [32]:=rfl;have E:=ny d λm D=>h m (by rw[j];simp[D]);have v:=congrArg List.length j;rw[ak]at v;have F:=j8 e.1 e.2;have A:(bs (ea d)).size+1<=aM:=by simp[al,aM];omega
  have q:(bs (ea d)).size+(bs [32]).size<=aM:=A;have z:(bs (ea d++[32])).size+(bs (aX n)).size<=aM:=by simp[al,aM];omega
  simp only[i,decide_true,C,q,y,cc,go_sem,simprocAttr];refine aa (js e.1 e.2) rfl (zo @cc z ?_);refine am (Inv:=λ_ _ _=>True) j () trivial ?_;simp[u,M8,dD,BY,go_sem]
end Ch
variable {P:Program} {H:Hints}
def qt (q v:PV):Prop:=∀(M:Nat->Prop) (w:World) (u:Value),RepP M w u q->RepP M w u v
def pk{q:PV}:qt q q:=λ_ _ _ h=>h
def Ft{n:Nat}{l:List PV}{b:Bool}:qt (.slice n l b) (.slice n l false):=λ_ _ _ h=>by
 cases h with
 |slice f e v y u q j i=>exact .slice f e v (λh=>by cases h) u q j i
 |empty e=>exact .empty (by simp)
def RJ{A:AAct}{T:Nat->AV}(K:Nat->Bool)(y:∀t,T t=A.tmps t\/T t=.undef\/∃q v,T t=.p v/\oH (aQ (λi=>!K i) A.h) (A.tmps t)=some q/\qt q v) :
  gU P A { A with tmps:=T,h:=aQ K A.h }:=
 ⟨rfl,rfl,λM0 z b cs0 m a w j=>by
  have e:=j.ahead (m':=cT K m) (h':=aQ K A.h) (w':=w) (s7 ⟨m,A.h,w⟩ K _) (qM j.hok K);refine⟨cT K m,e.size,λt=>?_,e.hok,e.ev,e.le,?_,e.rc⟩
  .show Rep M0 ⟨cT K m,aQ K A.h,w⟩ (a.tmps.getD t undef) (T t);rcases y t with h|h|⟨q,v,h,u,l⟩
   .rw[h];exact e.tmps t
   .rw[h];exact trivial
   .rw[h];exact l _ _ _ (nK (S:=⟨m,A.h,w⟩) j.hok K (j.tmps t) u)
  .exact e.df⟩
def Fv{A:AAct}(f:AV->Option PV)(live:List Nat)(t:Nat):∀l:List (Nat×PV),(∀p,p∈l->∃q,f (A.tmps p.1)=some q/\qt q p.2) ->
  cM ((l.map λp=>(p.1,AV.p p.2))++bP A.tmps live []) t=A.tmps t\/cM ((l.map λp=>(p.1,AV.p p.2))++bP A.tmps live []) t=.undef\/∃q v,cM ((l.map λp=>(p.1,AV.p p.2))++bP A.tmps live []) t=.p v/\f (A.tmps t)=some q/\qt q v
 |[],_=>by
  rcases pn (T:=A.tmps) live t with⟨e,_⟩|e
  .exact .inl e
  .exact .inr (.inl e)
 |p::l,j=>by
  rw[bf,ga,sH];by_cases i:t=p.1
  .rw[if_pos i];subst i;obtain⟨q,e,y⟩:=j p (by simp);exact .inr (.inr ⟨q,p.2,rfl,e,y⟩)
  .rw[if_neg i];exact Fv f live t l λq u=>j q (by simp[u])
def Rx{c:Code}{Q:Ex->AAct->Prop}{A:AAct}(K:Nat->Bool)(live:List Nat)(l:List (Nat×PV))(h':Heap)(hh:aQ K A.h=h')(j:A.df=[])
  (e:∀p,p∈l->∃q,oH (aQ (λi=>!K i) A.h) (A.tmps p.1)=some q/\qt q p.2) (k:SW P H c Q { n:=A.n,bs:=A.bs,rc:=A.rc,tmps:=cM ((l.map λp=>(p.1,AV.p p.2))++bP A.tmps live []),h:=h',df:=[] }):SW P H c Q A:=by
 subst hh;have hw:=RJ (P:=P) (A:=A) (T:=cM ((l.map λp=>(p.1,AV.p p.2))++bP A.tmps live [])) K (λt=>Fv _ live t l e);refine vR hw ?_;rw[j];exact k
def zaM{y:Code}{Q:Ex->AAct->Prop}{A:AAct}:@WQ ⟨fh (SW P H y Q) Q⟩ .normal A=SW P H y Q A:=rfl
attribute [go_sem] zaM
def Ag{x y}{Q}{A}(h:SW P H x (fh (SW P H y Q) Q) A):SW P H (.seq x y) Q A:=
 λM0 F b cs0 n m a w k D I J=>by
  simp only[dV,eI]at D;obtain⟨e,G,C,E,z,j,u,q,i⟩:=h M0 F b cs0 n m a w (.code y::k) D.1 I J
  have pass:∀(l:Ex),l≠.normal->Q l G->uI P (Avoid M0 C) (lone (b.atR a (.code x::.code y::k)) (bR A.rc cs0) w) b (.code y::k) (bR G.rc cs0) E z l ->
    qw P M0 F b cs0 n (lone (b.atR a (.code (.seq x y)::k)) (bR A.rc cs0) w) k Q:=
   λl K j i=>⟨l,G,C,E,z,j,u,q,.of_steps (.one stepR_seq) (.pass (x:=.code y) rfl K i)⟩
  cases e with
  |normal=>exact(j M0 F b cs0 n C E z k D.2 q u).of_steps (.head stepR_seq i)
  |exit id=>exact pass (.exit id) (by simp) j i
  |ret=>exact pass .ret (by simp) j i
  |panic v=>exact pass (.panic v) (by simp) j i
def xy{id}{x}{Q}{A}(h:SW P H x (lE id Q) A):SW P H (.block id x) Q A:=
 λM0 O b cs0 n m a w k N L M=>by
  obtain⟨e,F,C,E,z,y,q,l,i⟩:=h M0 O b cs0 n m a w (.inBlock id::k) N L M
  cases e with
  |normal=>exact⟨.normal,F,C,E,z,y,q,l,.head stepR_block (Steps.trans i (.one stepR_inBlock))⟩
  |exit j=>
   by_cases u:j=id
   .simp only[lE,u,if_true]at y;exact⟨.normal,F,C,E,z,y,q,l,.head stepR_block (i.1 k (by simp[exitTo,u]))⟩
   .simp only[lE,u,if_false]at y;have this:(id==j)=false:=by simp;exact λh=>u h.symm
    have hx:exitTo j (.inBlock id::k)=exitTo j k:=by simp[exitTo,this]
    exact⟨.exit j,F,C,E,z,y,q,l,λK I=>.head stepR_block (i.1 K (by rw[hx];exact I)),
     λI=>let ⟨G,D,J⟩:=i.2 (by rw[hx];exact I);⟨G,D,.head stepR_block J⟩⟩
  |ret=>exact⟨.ret,F,C,E,z,y,q,l,let ⟨G,D⟩:=i;⟨G,.head stepR_block D⟩⟩
  |panic v=>exact⟨.panic v,F,C,E,z,y,q,l,let ⟨v',t,D,J⟩:=i;⟨v',t,D,.head stepR_block J⟩⟩
def Xi{σ}{x}{Q}{A}(V:σ->Prop)(I)(μ)(J)(Z:V J)(h0:gU P A (I J))(hs:∀s,V s->SW P H x (fh (iA P V I μ s) Q) (I s)):SW P H (.loop x) Q A:=
 λM0 z b cs0 n m a w k hc M N=>by
  have R:∀(j:Nat) (s:σ),V s->μ s=j->∀(m:List (Option Nat)) (a:Act) (w:World),Rel P M0 z b cs0 m (I s) a w->(I s).n=n->qw P M0 z b cs0 n (lone (b.atR a (.code x::.inLoop x::k)) (bR (I s).rc cs0) w) k Q:=by
   intro j
   induction j using Nat.strongRecOn with
   |_ j Y=>
    intro s T hj m a w M N;obtain⟨e,O,L,G,F,y,E,D,i⟩:=hs s T M0 z b cs0 n m a w (.inLoop x::k) hc M N
    have pass:∀(C:Ex),C≠.normal->Q C O->uI P (Avoid M0 L) (lone (b.atR a (.code x::.inLoop x::k)) (bR (I s).rc cs0) w) b (.inLoop x::k) (bR O.rc cs0) G F C ->
      qw P M0 z b cs0 n (lone (b.atR a (.code x::.inLoop x::k)) (bR (I s).rc cs0) w) k Q:=
     λC he y i=>⟨C,O,L,G,F,y,E,D,.pass (x:=.inLoop x) rfl he i⟩
    cases e with
    |normal=>
     obtain⟨X,U,S,u,l,hw⟩:=y;obtain⟨K,q⟩:=hw M0 z b cs0 L G F D;have:=Y (μ X) (hj▸S) X U rfl K G F q (u.trans E);rw[l]at this
     exact this.of_steps (Steps.trans i (.one stepR_inLoop))
    |exit id=>exact pass (.exit id) (by simp) y i
    |ret=>exact pass .ret (by simp) y i
    |panic v=>exact pass (.panic v) (by simp) y i
  obtain⟨u,l,hw⟩:=h0;obtain⟨K,q⟩:=hw M0 z b cs0 m a w M;have:=R _ J Z rfl K a w q (u.trans N);rw[l]at this;exact this.of_steps (.one stepR_loop)
def Gg{α τ}{x}{Q}{A}(live)(l)(D:l.length<1000000000)(Inv:List α->List α->τ->Prop)(M)(i)(u)(hi:Inv [] l u)
  (z:oE A.bs A.df A.tmps A.h (bP A.tmps live (M [] u)) (i [] u))
  (q:∀t,Inv l [] t->SW P H x (fh (iA P (qE l Inv) (λs=>gw A live (jB M s) (jB i s)) (λs=>s.2.1.length) (l,[],t)) Q)
   {n:=A.n,bs:=A.bs,rc:=A.rc,tmps:=cM (bP A.tmps live (M l t)),h:=i l t,df:=A.df })
  (e:∀d_ y r t,l=d_++y::r->Inv d_ (y::r) t->l[d_.length]?=some y->((d_.length:Int)<(l.length:Int))->IntKind.i64.wrap ((d_.length:Int)+1)=(((d_++[y]).length:Nat):Int) ->
   SW P H x (fh (iA P (qE l Inv) (λs=>gw A live (jB M s) (jB i s)) (λs=>s.2.1.length) (d_,y::r,t)) Q)
    {n:=A.n,bs:=A.bs,rc:=A.rc,tmps:=cM (bP A.tmps live (M d_ t)),h:=i d_ t,df:=A.df }):SW P H (.loop x) Q A:=by
 refine Xi (qE l Inv) (λs=>gw A live (jB M s) (jB i s)) (λs=>s.2.1.length) ([],l,u) ⟨rfl,hi⟩ (su rfl rfl rfl rfl z) ?_
 rintro⟨d_,rest,t⟩ ⟨j,v⟩
 dsimp only at j v
 cases rest with
 |nil=>
  rw[bI]at j;subst j
  exact q t v
 |cons y r=>
  have C:d_.length<l.length:=by rw[j];simp
  refine e d_ y r t j v ?_ (by omega) ?_
  .subst j;simp
  .rw[ah];simp
variable {P:Program} {M0:Nat->Prop}
def II (h:Heap) (x y:AV):Prop:=∃cs ds,x.cells=some cs/\y.cells=some ds/\ds.length=cs.length/\∀(j:Nat) (c d:AV),cs[j]?=some c->ds[j]?=some d->d=c\/∃q v,d=.p v/\v.isCell=true/\oH h c=some q/\qt q v
def Ak{A}{T}(K)(i s)(xs ys)(X:K i=false)(hx:A.h[i]?=some (.row s xs))(l:ys.length=xs.length)
  (J:∀(n:Nat) (x y),xs[n]?=some x->ys[n]?=some y->II (aQ (λi=>!K i) A.h) x y)
  (hT:∀t,T t=A.tmps t\/T t=.undef\/∃q v,T t=.p v/\oH (aQ (λi=>!K i) A.h) (A.tmps t)=some q/\qt q v) :
  gU P A { A with tmps:=T,h:=(aQ K A.h).set i (.row s ys) }:=
 ⟨rfl,rfl,λM0 S0 b cs0 m a w L=>by
  have a4:i<A.h.length:=(aC.1 hx).1;have a3:(aQ K A.h).length=A.h.length:=by simp[aQ]
  have z:=qM L.hok K;have V:(aQ K A.h)[i]?=some (.row s xs):=by rw[l8 X];exact hx
  have e2:∀base,Ev base ⟨cT K m,aQ K A.h,w⟩ ⟨cT K m,(aQ K A.h).set i (.row s ys),w⟩:=λbase=>
   ⟨Fr.refl _ _,λ_ h=>.inl h,λid o _ M=>by
    by_cases D:id=i
    .subst D;have e:(aQ K A.h)[id]?=some o:=M;rw[V]at e;cases e;exact⟨.row s ys,jp (by omega),.inr (.inl ⟨s,xs,ys,rfl,rfl,.inl ⟨l,rfl⟩⟩)⟩
    .exact⟨o,by show ((aQ K A.h).set i (.row s ys))[id]?=some o;rw[eS (Ne.symm D)];exact M,ObjEv.refl _ _⟩⟩
  have hm:(cT K m).getD i none=m.getD i none:=p5 X
  have Z:HOk P M0 ⟨cT K m,(aQ K A.h).set i (.row s ys),w⟩:=
   {len:=by show (cT K m).length=_;rw[wh];exact z.len
    lt:=z.lt
    m0:=z.m0
    inj:=z.inj
    gl:=(e2 0).glob z.gl
    obj:=λid o M=>by
     by_cases D:id=i
     .subst D;have e:((aQ K A.h).set id (.row s ys))[id]?=some o:=M;rw[jp (by omega)]at e;cases e;have h0:=L.hok.obj id _ hx;have h1:=z.obj id _ V;show ObjOk P M0 _ ((cT K m).getD id none) _;rw[hm];rcases h0 with⟨O,h3⟩|⟨b',T',C,O,h3,h4,h5⟩
      .refine .inl ⟨O,?_⟩;rw[h3]at l;exact pJ.1 l
      .rcases h1 with⟨I,_⟩|⟨R,T1,C1,g2,g3,g4,g5⟩
       .have E:(cT K m).getD id none=none:=I;rw[hm]at E;have:m.getD id none=some b':=O;rw[E]at this;cases this
       .have Y:(cT K m).getD id none=some R:=g2;rw[hm]at Y;have I:m.getD id none=some b':=O;have a2:R=b':=kw (Y.symm.trans I);subst a2;have a1:=kw (Eq.trans (Eq.symm (show w.heap[R]?=some (Obj.cells C T' (0,0)) from h3)) (show w.heap[R]?=some (Obj.cells C1 T1 (0,0)) from g3));cases a1;refine .inr ⟨R,T',C,O,h3,by rw[l];exact h4,λn y hy=>?_⟩;have hn:n<xs.length:=by rw[<-l];exact(aC.1 hy).1
        obtain⟨x,F⟩:∃x,xs[n]?=some x:=⟨_,bL hn⟩
        obtain⟨cs,ds,k1,k2,k3,k4⟩:=J n x y F hy;obtain⟨a6,k5,k6,k7⟩:=h5 n x F;rw[k1]at k5;cases k5;obtain⟨a5,k8,k9,U⟩:=g5 n x F;rw[k1]at k8;cases k8;refine⟨ds,k2,by omega,λj d hd=>?_⟩;have hj:j<cs.length:=by rw[<-k3];exact(aC.1 hd).1
        obtain⟨c,N⟩:∃c,cs[j]?=some c:=⟨_,bL hj⟩
        rcases k4 j c d N hd with rfl|⟨q,v,rfl,a0,hq,G⟩
        .exact⟨(U j _ N).1,(e2 _).keepS (U j _ N).2⟩
        .refine⟨a0,?_⟩;exact G _ _ _ (nK (S:=⟨m,A.h,w⟩) L.hok K (qF (k7 j c N).1 (k7 j c N).2) hq)
     .have e:((aQ K A.h).set i (.row s ys))[id]?=some o:=M;rw[eS (Ne.symm D)]at e
      exact ObjOk.keep (e2 _) (z.obj id o e) (λ_ _=>rfl) }
  have ev:Ev A.h.length ⟨m,A.h,w⟩ ⟨cT K m,(aQ K A.h).set i (.row s ys),w⟩:=(s7 ⟨m,A.h,w⟩ K _).trans (e2 _);have u:=L.ahead ev Z;refine⟨cT K m,u.size,λt=>?_,u.hok,u.ev,u.le,u.df,u.rc⟩;show Rep M0 _ (a.tmps.getD t undef) (T t);rcases hT t with h|h|⟨q,v,h,hq,G⟩
  .rw[h];exact u.tmps t
  .rw[h];exact trivial
  .rw[h];exact G _ _ _ (nK (S:=⟨m,A.h,w⟩) L.hok K (L.tmps t) hq)⟩
def Nf(h):aQ (λi=>!(λ_=>true) i) h=h:=by
 apply pE;intro i;rw[nG];cases h[i]?<;>simp
def lL{f}{args}{h}{v}(O:aw P f args h (λr L=>∃a q,r=.ret a/\oH L a=some q/\qt q v)) :
  aw P f args h (λr h'=>r=.ret (.p v)/\h'=List.replicate h.length .dead):=by
 intro M0 m w D R C;have:=O M0 m w D R C;refine⟨this.1,this.2.mono λe w' hh=>?_⟩;obtain⟨r,h',m',⟨a,q,rfl,N,I⟩,K,G,y⟩:=hh;have u:∀b,¬Own (List.replicate h.length (none:Option Nat)) b:=λb l=>by
  obtain⟨i,hi⟩:=fN (show some b∈List.replicate h.length none from l);rw[AT]at hi;split at hi<;>cases hi
 have A:∃v',e=.returned v'/\Rep M0 ⟨m',h',w'⟩ v' a:=by
  cases e with
  |returned v'=>exact⟨v',rfl,y⟩
  |panicked V=>exact y.elim
  |outgrown=>exact y.elim
 obtain⟨v',rfl,E⟩:=A;refine⟨.ret (.p v),_,List.replicate h.length none,⟨rfl,rfl⟩,⟨K.fr,λb l=>(u b l).elim,λid o J F=>⟨.dead,?_,.inl rfl⟩⟩,?_,?_⟩
 .show (List.replicate h.length AObj.dead)[id]?=some .dead;rw[AT,if_pos J]
 .exact
   {len:=by simp
    lt:=λb l=>(u b l).elim
    m0:=λb l=>⟨(G.m0 b l).1,u b⟩
    inj:=λi j b hi T=>by
     rw[AT]at hi;split at hi<;>cases hi
    obj:=λid o F=>by
     have z:(List.replicate h.length AObj.dead)[id]?=some o:=F;rw[AT]at z;split at z<;>cases z;exact trivial
    gl:=⟨G.gl.1,λb U F=>(u b F).elim⟩ }
 .have M:=nK (S:=⟨m',h',w'⟩) G (λ_=>true) E (q:=q) (by rw[show aQ (λi=>!(λ_:Nat=>true) i) h'=h' from Nf h'];exact N);have:=I _ _ _ M;exact RepP.less this λb l=>by
   rcases l with l|l
   .exact .inl l
   .exact(u b l).elim
def vn{f}{pargs}{v}(y:aw P f (pargs.map .p) [] (λr E=>∃a q,r=.ret a/\oH E a=some q/\qt q v)):af P f pargs v:=by
 intro M0 w l J I F;have D:eD (Rep M0 ⟨[],[],w⟩) l (pargs.map .p):=by
  refine⟨by simpa using F.1,λi c y=>?_⟩;simp only[cX,bg]at y;obtain⟨q,z,rfl⟩:=y;exact aR ((F.2 i q z).mono (λ_ _ _=>rfl) (λb u=>by
   rcases u with u|u
   .exact .inl u
   .simp[Own]at u))
 have:=y M0 [] w l (pu J I) D;refine⟨this.1,this.2.mono λe w' h=>?_⟩;obtain⟨r,h',m',⟨a,q,rfl,z,A⟩,C,G,j⟩:=h
 cases e with
 |returned v'=>exact⟨v',rfl,A _ _ _ (rO (S:=⟨m',h',w'⟩) G j z),C.fr⟩
 |panicked K=>exact j.elim
 |outgrown=>exact j.elim
def PO{q v}(h:PL q v):qt q v:=λ_ _ _ e=>PL.rep h e
def uG{H}{c}{Q}{A}(K)(live)(i s)(xs ys)(h')(q:K i=false)(hx:A.h[i]?=some (.row s xs))(j:ys.length=xs.length)
  (e:∀(n:Nat) (x y),xs[n]?=some x->ys[n]?=some y->II (aQ (λi=>!K i) A.h) x y) (hh:(aQ K A.h).set i (.row s ys)=h')
  (k:SW P H c Q { n:=A.n,bs:=A.bs,rc:=A.rc,tmps:=cM (bP A.tmps live []),h:=h',df:=A.df }):SW P H c Q A:=by
 subst hh;exact vR (Ak (P:=P) (A:=A) (T:=cM (bP A.tmps live [])) K i s xs ys q hx j e λt=>by
  rcases pn (T:=A.tmps) live t with⟨l,_⟩|l
  .exact .inl l
  .exact .inr (.inl l)) k
def NB (h:Heap):List AV->List AV->Prop
 |c::cs,d::ds=>(d=c\/∃q v,d=.p v/\v.isCell=true/\oH h c=some q/\qt q v)/\NB h cs ds
 |[],[]=>True
 |_,_=>False
def yQ{h}:∀{cs ds},NB h cs ds->ds.length=cs.length/\∀(j:Nat) (c d),cs[j]?=some c->ds[j]?=some d->d=c\/∃q v,d=.p v/\v.isCell=true/\oH h c=some q/\qt q v
 |[],[],_=>⟨rfl,λj c d h=>by simp at h⟩
 |c::cs,d::ds,h=>by
  obtain⟨u,l⟩:=yQ h.2;refine⟨by simp[u],λj z y i e=>?_⟩
  cases j with
  |zero=>cases i;cases e;exact h.1
  |succ j=>exact l j z y (by simpa using i) (by simpa using e)
 |[],_::_,h=>h.elim
 |_::_,[],h=>h.elim
def rm{h}{xs}{a b}{cs ds}(z:∀x,x∈xs->x.cells.isSome=true)(C:a.cells=some cs)(A:b.cells=some ds)(q:NB h cs ds) :
  ∀(n:Nat) (x y),(xs++[a])[n]?=some x->(xs++[b])[n]?=some y->II h x y:=by
 intro n x y hx e;rcases GO n xs.length with l|l|l
 .rw[bJ l]at hx e;rw[hx]at e;cases e;obtain⟨i,u⟩:=iM.1 (z x (aB hx));exact⟨i,i,u,u,rfl,λj c d D v=>by rw[D]at v;cases v;exact .inl rfl⟩
 .subst l;rw[dB (ba _),ud]at hx e;cases hx;cases e;exact⟨cs,ds,C,A,(yQ q).1,(yQ q).2⟩
 .rw[vV (by simp;omega)]at hx;cases hx
namespace Ch
set_option maxRecDepth 4000
def sU{P}{H}{c}{Q}{A}(live)(i sz s)(xs ys)(hi:A.bs<=i)(F:A.bs<=A.h.length)(hx:A.h[i]?=some (.row s xs))(u:ys.length=xs.length)
  (l:∀(n:Nat) (x y),xs[n]?=some x->ys[n]?=some y->tG A.h.length x y)
  (D:∀t,t∈live->below A.h.length (A.tmps t)) (C:∀o,o∈A.h->bB A.h.length o) (E:A.df=[])
  (k:SW P H c Q { n:=A.n,bs:=A.bs,rc:=A.rc,tmps:=cM (bP A.tmps live []),h:=A.h.set i (.row s ys)++[.row sz []],df:=A.df }):SW P H c Q A:=by
 have q:i<A.h.length:=(aC.1 hx).1
 have hw:=pK (P:=P) (A:={ A with h:=A.h++[.row sz []] }) (T:=cM (bP A.tmps live [])) A.h.length i sz s xs ys F hi (by simp) (by omega)
  (by rw[bJ q];exact hx) u l (λt=>by
   rcases n6 (T:=A.tmps) live t with⟨v,G⟩|v
   .exact .inl ⟨v,vv (D t G)⟩
   .exact .inr v) (λid o I j=>by
   have z:id<A.h.length:=by
    have:=(aC.1 j).1;simp at this;omega
   rw[bJ z]at j
   exact uv (C o (aB j))) E
 have e:((A.h++[AObj.row sz []]).set A.h.length (.row sz [])).set i (.row s ys)=A.h.set i (.row s ys)++[.row sz []]:=by
  rw[ra _ _ (ba _),ud];show (A.h++[AObj.row sz []]).set i _=_;rw[ue _ _ q]
 refine vR (wk sz) (vR hw ?_);rw[e];exact k
def Se (k:Nat):List AV->List AV->Prop
 |c::cs,d::ds=>(d=c\/(c=.p .nilslice/\d=.slice k 0 0 0))/\Se k cs ds
 |[],[]=>True
 |_,_=>False
def Bl{k}:∀{cs ds},Se k cs ds->ds.length=cs.length/\∀(j:Nat) (c d),cs[j]?=some c->ds[j]?=some d->d=c\/(c=.p .nilslice/\d=.slice k 0 0 0)
 |[],[],_=>⟨rfl,λj c d h=>by simp at h⟩
 |c::cs,d::ds,h=>by
  obtain⟨q,l⟩:=Bl h.2;refine⟨by simp[q],λj v u i e=>?_⟩
  cases j with
  |zero=>cases i;cases e;exact h.1
  |succ j=>exact l j v u (by simpa using i) (by simpa using e)
 |[],_::_,h=>h.elim
 |_::_,[],h=>h.elim
def pW{k}{a b}{cs ds}(j:a.cells=some cs)(i:b.cells=some ds)(h:Se k cs ds):∀(n:Nat) (x y),[a][n]?=some x->[b][n]?=some y->tG k x y:=by
 intro n x y hx e
 cases n with
 |zero=>cases hx;cases e;exact⟨cs,ds,j,i,(Bl h).1,(Bl h).2⟩
 |succ n=>simp at hx
def fQ:PV:=.agg [.nilslice,.nilslice,.nilslice,.nilslice,.int .i64 0,.int .i64 0]
def Qe(s)(b)(z)(n)(O)(I:BkOk O b n)(S:∀x,x∈b.lots->x.readings.length<=ai)(R:∀x,x∈b.tests->x.marks.length<=ai):aw Tryz.prog 110 [.p b.pv] [.row 17 [.p s],.row 6 [.p b.pv],.row 6 [.p z]]
  (λr h'=>r=.ret (.agg [.slice 6 b.lots.length 0 b.lots.length,.slice 7 b.batches.length 0 b.batches.length,.slice 8 b.tests.length 0 b.tests.length,.slice 9 b.boxes.length 0 b.boxes.length,.p (.int .i64 b.poured),.p (.int .i64 b.lost)]) /\
   ∃N M L,h'=[.row 17 [.p s],.row 6 [.p b.pv],.row 6 [.p z],N,M,L,.row 4 (b.lots.map dI),.row 4 (b.batches.map bD),.row 3 (b.tests.map er),.row 2 (b.boxes.map jK)]):=by
 have X:=I.lots;have V:=I.batches;have U:=I.tests;have T:=I.boxes
 refine tK (ag func110 rfl) rfl ?_;refine gP cH (zm ?_);refine gP cH (zm ?_);refine Ag ?_;refine gP cH (zm ?_);refine sU (4::[1,2,3]) 5 4 6 _ [.agg [.slice 6 0 0 0,.p .nilslice,.p .nilslice,.p .nilslice,.p (.int .i64 b.poured),.p (.int .i64 b.lost)]] (by show 3<=5;decide) (by show 3<=6;decide) rfl rfl (pW rfl rfl ⟨.inr ⟨rfl,rfl⟩,.inl rfl,.inl rfl,.inl rfl,.inl rfl,.inl rfl,trivial⟩) ?_ ?_ rfl ?_
 .simp[go_sem]
 .simp[go_sem]
 refine zm ?_;refine sU (4::[1,2,3]) 5 4 6 _ [.agg [.slice 6 0 0 0,.slice 7 0 0 0,.p .nilslice,.p .nilslice,.p (.int .i64 b.poured),.p (.int .i64 b.lost)]] (by show 3<=5;decide) (by show 3<=7;decide) rfl rfl (pW rfl rfl ⟨.inl rfl,.inr ⟨rfl,rfl⟩,.inl rfl,.inl rfl,.inl rfl,.inl rfl,trivial⟩) ?_ ?_ rfl ?_
 .simp[go_sem]
 .simp[go_sem]
 refine zm ?_;refine sU (4::[1,2,3]) 5 3 6 _ [.agg [.slice 6 0 0 0,.slice 7 0 0 0,.slice 8 0 0 0,.p .nilslice,.p (.int .i64 b.poured),.p (.int .i64 b.lost)]] (by show 3<=5;decide) (by show 3<=8;decide) rfl rfl (pW rfl rfl ⟨.inl rfl,.inl rfl,.inr ⟨rfl,rfl⟩,.inl rfl,.inl rfl,.inl rfl,trivial⟩) ?_ ?_ rfl ?_
 .simp[go_sem]
 .simp[go_sem]
 refine zm ?_;refine sU (4::[1,2,3]) 5 2 6 _ [.agg [.slice 6 0 0 0,.slice 7 0 0 0,.slice 8 0 0 0,.slice 9 0 0 0,.p (.int .i64 b.poured),.p (.int .i64 b.lost)]] (by show 3<=5;decide) (by show 3<=9;decide) rfl rfl (pW rfl rfl ⟨.inl rfl,.inl rfl,.inl rfl,.inr ⟨rfl,rfl⟩,.inl rfl,.inl rfl,trivial⟩) ?_ ?_ rfl ?_
 .simp[go_sem]
 .simp[go_sem]
 refine zm ?_;refine xy ?_
 refine Gg [1,2,3] b.lots (by omega) (τ:=Unit) (λ_ _ _=>True) (λd _=>[(4,.p (.int .i64 d.length))])
  (λd _=>[.row 17 [.p s],.row 6 [.p b.pv],.row 6 [.p z],.row 6 [.p b.pv],.row 6 [.p fQ],.row 6 [.agg [.slice 6 d.length 0 d.length,.slice 7 0 0 0,.slice 8 0 0 0,.slice 9 0 0 0,.p (.int .i64 b.poured),.p (.int .i64 b.lost)]],.row 4 (d.map dI),.row 4 [],.row 3 [],.row 2 []]) () trivial ?_ ?_ ?_
 .simp[bS,fQ,ChBooks.pv,go_sem]
 .intro _ _;have j:¬((b.lots.length:Int)<(b.lots.length:Int)):=by omega
  refine gP cH (zo j decide_false ?_);refine gP cH ?_;have G:b.batches.length<=ai:=by simp[ai];omega
  refine zn G ?_;have K:∀l:List ChBatch,List.map AV.p (List.map ChBatch.pv l)=l.map bD:=λl=>by rw[g8];rfl
  have J:∀l:List HrBox,List.map AV.p (List.map HrBox.pv l)=l.map jK:=λl=>by rw[g8];rfl
  refine Ag ?_;refine gP cH (zm ?_);refine xy ?_
  refine Gg [1,2,3] b.tests (by omega) (τ:=Unit) (λ_ _ _=>True) (λd _=>[(6,.p (.int .i64 d.length))])
   (λd _=>[.row 17 [.p s],.row 6 [.p b.pv],.row 6 [.p z],.row 6 [.p b.pv],.row 6 [.p fQ],.row 6 [.agg [.slice 6 b.lots.length 0 b.lots.length,.slice 7 b.batches.length 0 b.batches.length,.slice 8 d.length 0 d.length,.slice 9 0 0 0,.p (.int .i64 b.poured),.p (.int .i64 b.lost)]],.row 4 (b.lots.map dI),.row 4 (b.batches.map bD),.row 3 (d.map er),.row 2 []]) () trivial ?_ ?_ ?_
  .simp[bS,fQ,ChBooks.pv,K,go_sem]
  .intro _ _;have j:¬((b.tests.length:Int)<(b.tests.length:Int)):=by omega
   refine gP cH (zo j decide_false ?_);refine gP cH ?_;have G:b.boxes.length<=ai:=by simp[ai];omega
   refine zn G ?_;refine lS cH ?_;simp only[J,fQ,go_sem,simprocAttr];exact⟨_,_,_,rfl,rfl,rfl⟩
  intro d_ x rest _ C _ hx j A;have F:=congrArg List.length C;rw[ak,bc]at F;have v:d_.length+1<=ai:=by simp[ai];omega
  refine gP cH (zo j decide_true ?_);refine Ag ?_;refine xy ?_;refine gP cH ?_;simp only[j,hx,go_sem,simprocAttr];have u:=R x (by rw[C];simp);refine gP cH ?_;by_cases q:x.marks=[]
  .have e:List.map AV.p (List.map HrMark.pv x.marks)=[]:=by simp[q]
   simp only[if_pos e,if_pos u,go_sem,simprocAttr];refine lS cH (zn v ?_);have E:er x=.p (.agg [.int .i64 x.kind,.int .i64 x.error,.slice 2 [] false]):=by simp[er,HrTest.pv,q]
   refine uG (λi=>decide (10<=i)) [1,2,3,6] 8 3 (d_.map er++[.p (.agg [.int .i64 x.kind,.int .i64 x.error,.slice 2 [] true])]) (d_.map er++[er x]) _ rfl rfl (by simp)
    (rm (cs:=[.p (.int .i64 x.kind),.p (.int .i64 x.error),.p (.slice 2 [] true)]) (ds:=[.p (.int .i64 x.kind),.p (.int .i64 x.error),.p (.slice 2 [] false)]) (λy D=>by obtain⟨z,_,rfl⟩:=cA.1 D;rfl) rfl (by rw[E];rfl) ⟨.inl rfl,.inl rfl,.inr ⟨_,_,rfl,rfl,rfl,Ft⟩,trivial⟩) rfl ?_
   simp only[go_sem,simprocAttr];refine lS cH ?_;simp only[A,aQ,List.mapIdx_cons,List.mapIdx_nil,go_sem,simprocAttr];refine am (Inv:=λ_ _ _=>True) C () trivial ?_;simp only[aS,ak,aK,go_sem,simprocAttr]
  .have e:¬List.map AV.p (List.map HrMark.pv x.marks)=[]:=by simp[q]
   simp only[if_neg e,if_pos u,go_sem,simprocAttr];refine lS cH (zn v ?_)
   refine uG (λi=>decide (10<=i)) [1,2,3,6] 8 3 (d_.map er++[.agg [.p (.int .i64 x.kind),.p (.int .i64 x.error),.slice 11 x.marks.length 0 x.marks.length]]) (d_.map er++[er x]) _ rfl rfl (by simp)
    (rm (cs:=[.p (.int .i64 x.kind),.p (.int .i64 x.error),.slice 11 x.marks.length 0 x.marks.length]) (ds:=[.p (.int .i64 x.kind),.p (.int .i64 x.error),.p (.slice 2 (x.marks.map HrMark.pv) false)]) (λy D=>by obtain⟨z,_,rfl⟩:=cA.1 D;rfl) rfl rfl ⟨.inl rfl,.inl rfl,.inr ⟨.slice 2 (x.marks.map HrMark.pv) false,_,rfl,rfl,?_,pk⟩,trivial⟩) rfl ?_
   .simp only[aQ,List.mapIdx_cons,List.mapIdx_nil,go_sem,simprocAttr]
   simp only[go_sem,simprocAttr];refine lS cH ?_;simp only[A,aQ,List.mapIdx_cons,List.mapIdx_nil,go_sem,simprocAttr];refine am (Inv:=λ_ _ _=>True) C () trivial ?_;simp only[aS,ak,aK,go_sem,simprocAttr]
 intro d_ x rest _ C _ hx j A;have F:=congrArg List.length C;rw[ak,bc]at F;have v:d_.length+1<=ai:=by simp[ai];omega
 refine gP cH (zo j decide_true ?_);refine Ag ?_;refine xy ?_;refine gP cH ?_;simp only[j,hx,go_sem,simprocAttr];have u:=S x (by rw[C];simp);refine gP cH ?_;by_cases q:x.readings=[]
 .have e:List.map AV.p (List.map ay x.readings)=[]:=by simp[q]
  simp only[if_pos e,if_pos u,go_sem,simprocAttr];refine lS cH (zn v ?_);have E:dI x=.p (.agg [.str x.name,.int .i64 x.kind,.int .i64 x.grams,.slice 1 [] false]):=by simp[dI,ChLot.pv,q]
  refine uG (λi=>decide (10<=i)) [1,2,3,4] 6 4 (d_.map dI++[.p (.agg [.str x.name,.int .i64 x.kind,.int .i64 x.grams,.slice 1 [] true])]) (d_.map dI++[dI x]) _ rfl rfl (by simp)
   (rm (cs:=[.p (.str x.name),.p (.int .i64 x.kind),.p (.int .i64 x.grams),.p (.slice 1 [] true)]) (ds:=[.p (.str x.name),.p (.int .i64 x.kind),.p (.int .i64 x.grams),.p (.slice 1 [] false)]) (λy D=>by obtain⟨z,_,rfl⟩:=cA.1 D;rfl) rfl (by rw[E];rfl) ⟨.inl rfl,.inl rfl,.inl rfl,.inr ⟨_,_,rfl,rfl,rfl,Ft⟩,trivial⟩) rfl ?_
  simp only[go_sem,simprocAttr];refine lS cH ?_;simp only[A,aQ,List.mapIdx_cons,List.mapIdx_nil,go_sem,simprocAttr];refine am (Inv:=λ_ _ _=>True) C () trivial ?_;simp only[aS,ak,aK,go_sem,simprocAttr]
 .have e:¬List.map AV.p (List.map ay x.readings)=[]:=by simp[q]
  simp only[if_neg e,if_pos u,go_sem,simprocAttr];refine lS cH (zn v ?_)
  refine uG (λi=>decide (10<=i)) [1,2,3,4] 6 4 (d_.map dI++[.agg [.p (.str x.name),.p (.int .i64 x.kind),.p (.int .i64 x.grams),.slice 11 x.readings.length 0 x.readings.length]]) (d_.map dI++[dI x]) _ rfl rfl (by simp)
   (rm (cs:=[.p (.str x.name),.p (.int .i64 x.kind),.p (.int .i64 x.grams),.slice 11 x.readings.length 0 x.readings.length]) (ds:=[.p (.str x.name),.p (.int .i64 x.kind),.p (.int .i64 x.grams),.p (.slice 1 (x.readings.map ay) false)]) (λy D=>by obtain⟨z,_,rfl⟩:=cA.1 D;rfl) rfl rfl ⟨.inl rfl,.inl rfl,.inl rfl,.inr ⟨.slice 1 (x.readings.map ay) false,_,rfl,rfl,?_,pk⟩,trivial⟩) rfl ?_
  .simp only[aQ,List.mapIdx_cons,List.mapIdx_nil,go_sem,simprocAttr]
  simp only[go_sem,simprocAttr];refine lS cH ?_;simp only[A,aQ,List.mapIdx_cons,List.mapIdx_nil,go_sem,simprocAttr];refine am (Inv:=λ_ _ _=>True) C () trivial ?_;simp only[aS,ak,aK,go_sem,simprocAttr]
end Ch
end Abs
end Go.Proofs.YtgafommgcfhkkaaGreatDoor
