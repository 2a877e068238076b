/- CONTRACTS of the program's functions, and laws on what they return. No conditions but those in the theorems' heads. -/
import Derived.Test.YtoapoaoelpcniaaGreatDoorChApiX
set_option linter.all false
namespace Go.Proofs.YtoapoaoelpcniaaGreatDoor
namespace Abs
namespace Ch
set_option maxRecDepth 4000
def qQ (i:Nat) (row:List UInt8):Option (List UInt8):=
 match (aK 32 row).2 with
 |none=>none
 |some line=>if(aK 32 row).1=be (i:Int)/\line≠[]/\line.length<=400 then some (repL 47 10 line) else none
def qp:Nat->List (List UInt8)->Option (List (List UInt8))
 |_,[]=>none
 |_,[last]=>if last=[] then some [] else none
 |i,row::r::rs=>match qQ i row with|none=>none|some x=>(qp (i+1) (r::rs)).map (x::·)
def dm (text:List UInt8):List (List UInt8)×Int:=
 match qp 1 (aP 10 text) with
 |none=>([],6)
 |some l=>if 40<l.length then([],3) else(l,0)
def dL (text:List UInt8):PV:=.tuple [if(dm text).2=0 then bp (dm text).1 else .nilslice,.int .i64 (dm text).2]
theorem Lb(i):qp i (aP 10 [])=some []:=rfl
theorem Ip{i}{t}(h:(aK 10 t).2=none)(h0:t≠[]):qp i (aP 10 t)=none:=by
 rw[mK h];exact if_neg h0
theorem yW(c)(t):∃a r,aP c t=a::r:=⟨_,_,mh c t⟩
theorem Io{i}{t r}(h:(aK 10 t).2=some r):qp i (aP 10 t)=(match qQ i (aK 10 t).1 with|none=>none|some x=>(qp (i+1) (aP 10 r)).map (x::·)):=by
 rw[mJ h];obtain⟨a,rs,hr⟩:=yW 10 r;rw[hr];rfl
set_option maxHeartbeats 4000000 in
theorem LY(text)(hl:text.length<=2000000):af Tryz.prog 31 [.str (bs text)] (dL text):=by
 refine dj (ah Tryz.func31 rfl (by kernel_rfl)) rfl ?_;simp only[go_sem,simprocAttr];refine cl 2 1 (by simp only[go_sem,simprocAttr]) ?_;simp only[go_sem,simprocAttr]
 refine eC [] (σ:=List (List UInt8)×List UInt8) (λq=>qp 1 (aP 10 text)=(qp (q.1.length+1) (aP 10 q.2)).map (q.1++·)/\q.2.length+q.1.length<=text.length) (λq=>q.2.length)
  (λq=>[(0,.p (.str (bs q.2))),(2,.slice 0 q.1.length 0 q.1.length),(4,.p (.int .i64 ((q.1.length+1:Nat):Int)))]) (λq=>[.row 1 (q.1.map λx=>.p (.str (bs x)))]) ([],text) ⟨by simp,by simp⟩ rfl ?_ ?_
 .simp only[cw,go_sem,simprocAttr]
 rintro⟨done,t⟩ ⟨e1,e2⟩
 dsimp only at e1 e2;have c0:(⟨#[]⟩:ByteArray)=bs []:=rfl;have c1:(⟨#[10]⟩:ByteArray)=bs [10]:=rfl;have c2:(⟨#[32]⟩:ByteArray)=bs [32]:=rfl;have c3:(⟨#[47]⟩:ByteArray)=bs [47]:=rfl;by_cases ht:t=[]
 .subst ht;have h0:(bs []==bs [])=true:=by rw[cc];rfl
  rw[Lb,jX,bC]at e1;simp only[c0,h0,go_sem,simprocAttr];have ht:List.take done.length (done.map λx=>PV.str (bs x))=done.map λx=>PV.str (bs x):=eD (by simp);have hfz:∀n h,aV (cm n h) (done.map λx=>AV.p (PV.str (bs x)))=some (done.map λx=>.str (bs x)):=λn h=>dD (eJ n h) (λx=>PV.str (bs x)) done;by_cases h40:40<done.length
  .have hd:decide ((40:Int)<(done.length:Int))=true:=decide_eq_true (by omega);have hres:dL text=.tuple [.nilslice,.int .i64 3]:=by rw[dL,dm,e1];simp only[if_pos h40];rfl
   simp only[hd,hres,go_sem,simprocAttr]
  .have hd:decide ((40:Int)<(done.length:Int))=false:=decide_eq_false (by omega);have hres:dL text=.tuple [bp done,.int .i64 0]:=by rw[dL,dm,e1];simp only[if_neg h40];rfl
   simp only[hd,hfz,ht,hres,bp,go_sem,simprocAttr]
 .have h0:(bs t==bs [])=false:=by rw[cc];simpa using ht
  simp only[c0,h0,c1,go_sem,simprocAttr];refine ae (uC t 10 (by omega)) rfl ?_;simp only[c2,go_sem,simprocAttr];have hr1:=qZ 10 t;refine ae (uC (aK 10 t).1 32 (by omega)) rfl ?_
  cases hc:(aK 10 t).2 with
  |none=>
   rw[Ip hc ht]at e1;simp only[O9,go_sem,simprocAttr]
   exact .inl (by rw[dL,dm,e1];rfl)
  |some r=>
   rw[Io hc]at e1;have hrl:=wc 10 t r hc
   cases hc2:(aK 32 (aK 10 t).1).2 with
   |none=>
    simp only[KI,O9,go_sem,simprocAttr];have hrw:qQ (done.length+1) (aK 10 t).1=none:=by rw[qQ,hc2]
    rw[hrw]at e1
    exact .inl (by rw[dL,dm,e1];rfl)
   |some line=>
    simp only[KI,go_sem,simprocAttr];refine ae (yL ((done.length+1:Nat):Int) (by omega) (by omega)) rfl ?_;rw[nG (by omega)];have hll:=wc 32 (aK 10 t).1 line hc2;by_cases q1:(aK 32 (aK 10 t).1).1=be ((done.length+1:Nat):Int);rotate_left
    .have b1:(bs (aK 32 (aK 10 t).1).1==bs (be ((done.length+1:Nat):Int)))=false:=by rw[cc];simpa using q1
     have hrw:qQ (done.length+1) (aK 10 t).1=none:=by rw[qQ,hc2];exact if_neg λh=>q1 h.1
     rw[hrw]at e1;simp only[b1,go_sem,simprocAttr];exact .inl (by rw[dL,dm,e1];rfl)
    have b1:(bs (aK 32 (aK 10 t).1).1==bs (be ((done.length+1:Nat):Int)))=true:=by rw[cc];simpa using q1
    by_cases q2:line=[]
    .have b2:(bs line==bs [])=true:=by rw[cc];simpa using q2
     have hrw:qQ (done.length+1) (aK 10 t).1=none:=by rw[qQ,hc2];exact if_neg λh=>h.2.1 q2
     rw[hrw]at e1;simp only[b1,c0,b2,go_sem,simprocAttr];exact .inl (by rw[dL,dm,e1];rfl)
    have b2:(bs line==bs [])=false:=by rw[cc];simpa using q2
    by_cases q3:line.length<=400;rotate_left
    .have b3:decide ((400:Int)<(line.length:Int))=true:=decide_eq_true (by omega);have hrw:qQ (done.length+1) (aK 10 t).1=none:=by rw[qQ,hc2];exact if_neg λh=>q3 h.2.2
     rw[hrw]at e1;simp only[b1,c0,b2,ao,b3,go_sem,simprocAttr];exact .inl (by rw[dL,dm,e1];rfl)
    have b3:decide ((400:Int)<(line.length:Int))=false:=decide_eq_false (by omega);have hrw:qQ (done.length+1) (aK 10 t).1=some (repL 47 10 line):=by rw[qQ,hc2];exact if_pos ⟨q1,q2,q3⟩
    rw[hrw]at e1;simp only[b1,c0,b2,ao,b3,c1,c3,go_sem,simprocAttr];refine ae (zq line 47 10 (by decide) (by omega)) rfl ?_;have hrm:done.length+1<=aw:=by simp[aw];omega
    have hnx:IntKind.i64.wrap (((done.length+1:Nat):Int)+1)=(((done++[repL 47 10 line]).length+1:Nat):Int):=bj (by omega) (by simp[aw];omega) (by simp);simp only[hrm,eF,go_sem,simprocAttr];refine bh (done++[repL 47 10 line],r) ⟨?_,?_⟩ hrl ?_ ?_
    .rw[e1];simp[j5]
    .show r.length+(done++[repL 47 10 line]).length<=text.length;rw[aB,bn];omega
    .simp
    simp only[hnx,go_sem,simprocAttr];rw[aB,bn]
end Ch
variable {P:Program} {M0:Nat->Prop} {H:Hints} {Q:Cont}
def A7 (π:Nat->Nat):AV->AV
 |.ptr id v i o=>.ptr (π id) v i o
 |.slice id v off len=>.slice (π id) v off len
 |a=>a
def A6 (π:Nat->Nat):AV->AV
 |.agg cs=>.agg (cs.map (A7 π))
 |a=>A7 π a
def RP (π:Nat->Nat):AObj->AObj
 |.row sz xs=>.row sz (xs.map (A6 π))
 |_=>.dead
def u9:AV->Bool
 |.p _=>true
 |.ptr _ _ _ _=>true
 |.slice _ _ _ _=>true
 |_=>false
def AL:AV->Bool
 |.agg cs=>cs.all u9
 |a=>u9 a
def RL:AObj->Bool
 |.row _ xs=>xs.all AL
 |.dead=>true
 |_=>false
theorem Ns{π}{x}{cs}(hs:AL x=true)(hx:x.cells=some cs):(A6 π x).cells=some (cs.map (A7 π))/\∀c,c∈cs->u9 c=true:=by
 cases x with
 |p q=>
  cases q<;>simp[AV.cells]at hx<;>subst hx<;>refine⟨by simp[A6,A7,AV.cells,j5],λc hc=>?_⟩<;>simp at hc<;>first|(subst hc;rfl)|(obtain⟨_,_,rfl⟩:=hc;rfl)
 |agg l=>cases hx;exact⟨rfl,λc hc=>lm.1 hs c hc⟩
 |ptr a b c d=>cases hx;exact⟨rfl,λc hc=>by simp at hc;subst hc;rfl⟩
 |slice a b c d=>cases hx;exact⟨rfl,λc hc=>by simp at hc;subst hc;rfl⟩
 |ref a b=>cases hs
 |func a b c=>cases hs
 |tuple l=>cases hs
 |undef=>cases hs
theorem Gu{π}{c}(hs:u9 c=true):(A7 π c).isCell=c.isCell:=by
 cases c<;>first|rfl|cases hs
theorem MA{A}{T}{h'}(π σ:Nat->Nat)(hπ:∀i,i<A.h.length->π i<A.h.length/\σ (π i)=i)(hσ:∀i,i<A.h.length->σ i<A.h.length/\π (σ i)=i)(hb:A.bs=0)(hd:A.df=[])
  (hs:∀o,o∈A.h->RL o=true) (hh:h'=(List.range A.h.length).map λj=>RP π (A.h.getD (σ j) .dead)) (hT:∀t,(T t=A6 π (A.tmps t)/\AL (A.tmps t)=true)\/T t=.undef) :
  f7 P A { A with tmps:=T,h:=h' }:=
 ⟨rfl,rfl,λM0 S0 b cs0 m a w hr=>by
  have hml:m.length=A.h.length:=hr.hok.len;have hhl:h'.length=A.h.length:=by rw[hh];simp
  obtain⟨m',hm'⟩:∃m',m'=(List.range A.h.length).map λj=>m.getD (σ j) none:=⟨_,rfl⟩
  have hmat:∀j,j<A.h.length->m'[j]?=some (m.getD (σ j) none):=λj hj=>by rw[hm',cO,List.getElem?_range hj];rfl
  have hhat:∀j,j<A.h.length->h'[j]?=some (RP π (A.h.getD (σ j) .dead)):=λj hj=>by rw[hh,cO,List.getElem?_range hj];rfl
  have hml':m'.length=A.h.length:=by rw[hm'];simp
  have hown:∀b,Own m' b->Own m b:=λb hb=>by
   obtain⟨j,hj⟩:=dX hb;have hjl:j<A.h.length:=by have:=(aF.1 hj).1;omega
   rw[hmat j hjl]at hj;exact aG (cK (lq hj))
  have hown2:∀b,Own m b->Own m' b:=λb hb=>by
   obtain⟨i,hi⟩:=dX hb;have hil:i<A.h.length:=by have:=(aF.1 hi).1;omega
   have h1:=hmat (π i) (hπ i hil).1;rw[(hπ i hil).2,cd,hi]at h1;exact aG h1
  have mget:∀i,i<A.h.length->m'.getD (π i) none=m.getD i none:=λi hi=>by
   rw[cd,hmat _ (hπ i hi).1,(hπ i hi).2];rfl
  have hget:∀i o,A.h[i]?=some o->h'[π i]?=some (RP π o):=λi o ho=>by
   have hi:=(aF.1 ho).1;rw[hhat _ (hπ i hi).1,(hπ i hi).2,cd,ho];rfl
  have live:∀{id ver:Nat} {X:Nat->Option Nat->Prop},dU ⟨m,A.h,w⟩ id ver X->dU ⟨m',h',w⟩ (π id) ver X:=by
   intro id ver X h;rcases h with h|⟨sz,xs,h,h1,h2⟩
   .exact .inl (hget _ _ h)
   .have hid:=(aF.1 h).1;refine .inr ⟨sz,xs.map (A6 π),hget _ _ h,by simpa using h1,λhe=>?_⟩;show X sz (m'.getD (π id) none);rw[mget id hid];exact h2 (by simpa using he)
  have rep0:∀{v:Value} {a:AV},u9 a=true->cS M0 ⟨m,A.h,w⟩ v a->cS M0 ⟨m',h',w⟩ v (A7 π a):=by
   intro v a ha h
   cases a with
   |p q=>exact RepP.less (show RepP (Avoid M0 m) w v q from h) λb hb=>hb.imp id (hown b)
   |ptr id ver i o=>exact⟨h.1,live h.2⟩
   |slice id ver off len=>exact⟨h.1,live (X:=sliceAt w v ver off len) h.2⟩
   |ref q id=>cases ha
   |undef=>cases ha
   |agg cs=>cases ha
   |func fn f c=>cases ha
   |tuple vs=>cases ha
  have repS:∀{v:Value} {a:AV},u9 a=true->bO M0 ⟨m,A.h,w⟩ v a->bO M0 ⟨m',h',w⟩ v (A7 π a):=by
   intro v a ha h
   cases a with
   |p q=>exact rep0 ha h
   |ptr id ver i o=>exact rep0 ha h
   |slice id ver off len=>exact rep0 ha h
   |ref q id=>cases ha
   |undef=>cases ha
   |agg cs=>cases ha
   |func fn f c=>cases ha
   |tuple vs=>cases ha
  have rep:∀{v:Value} {a:AV},AL a=true->Rep M0 ⟨m,A.h,w⟩ v a->Rep M0 ⟨m',h',w⟩ v (A6 π a):=by
   intro v a ha h
   cases a with
   |p q=>exact repS (a:=.p q) rfl h
   |ptr id ver i o=>exact repS (a:=.ptr id ver i o) rfl h
   |slice id ver off len=>exact repS (a:=.slice id ver off len) rfl h
   |agg cs=>
    obtain⟨C,h1,h2,h3,h4⟩:=h;have hall:∀c,c∈cs->u9 c=true:=lm.1 ha;refine⟨C,h1,λc hc=>?_,by rw[h3];simp,λi c hi=>?_⟩
    .obtain⟨c0,hc0,rfl⟩:=cH.1 hc;rw[Gu (hall c0 hc0)];exact h2 c0 hc0
    .rw[cO]at hi
     cases hq:cs[i]? with
     |none=>rw[hq]at hi;cases hi
     |some c0=>
      rw[hq]at hi;cases hi
      exact repS (hall c0 (aG hq)) (h4 i c0 hq)
   |ref q id=>cases ha
   |undef=>cases ha
   |func fn f c=>cases ha
   |tuple vs=>cases ha
  refine⟨m',?_⟩;refine⟨hr.size,λt=>?_,?_,?_,?_,?_,?_⟩
  .show Rep M0 ⟨m',h',w⟩ (a.tmps.getD t undef) (T t);rcases hT t with⟨h1,h2⟩|h1
   .rw[h1];exact rep h2 (hr.tmps t)
   .rw[h1];exact trivial
  .exact
   {len:=by show m'.length=h'.length;omega
    lt:=λb hb=>hr.hok.lt b (hown b hb)
    m0:=λb hb=>⟨(hr.hok.m0 b hb).1,λh=>(hr.hok.m0 b hb).2 (hown b h)⟩
    inj:=λi j b hi hj=>by
     have hi':m'[i]?=some (some b):=hi;have hj':m'[j]?=some (some b):=hj;have hil:i<A.h.length:=by have:=(aF.1 hi').1;omega
     have hjl:j<A.h.length:=by have:=(aF.1 hj').1;omega
     rw[hmat i hil]at hi';rw[hmat j hjl]at hj';have:=hr.hok.inj (σ i) (σ j) b (cK (lq hi')) (cK (lq hj'));rw[<-(hσ i hil).2,<-(hσ j hjl).2,this]
    obj:=λid o ho=>by
     have ho':h'[id]?=some o:=ho;have hid:id<A.h.length:=by have:=(aF.1 ho').1;omega
     rw[hhat id hid]at ho';cases ho';show ObjOk P M0 ⟨m',h',w⟩ (m'.getD id none) _;rw[cd,hmat id hid,je];obtain⟨o,ho⟩:∃o,A.h[σ id]?=some o:=⟨_,dc (hσ id hid).1⟩
     rw[show A.h.getD (σ id) .dead=o by rw[cd,ho];rfl];have hso:=hs o (aG ho);have hob:ObjOk P M0 ⟨m,A.h,w⟩ (m.getD (σ id) none) o:=hr.hok.obj _ _ ho
     cases o with
     |row sz xs=>
      rcases hob with⟨h1,h2⟩|⟨b,T',C,h1,h2,h3,h4⟩
      .exact .inl ⟨h1,by rw[h2];rfl⟩
      .refine .inr ⟨b,T',C,h1,h2,by simpa using h3,λi x hx=>?_⟩;rw[cO]at hx
       cases hq:xs[i]? with
       |none=>rw[hq]at hx;cases hx
       |some x0=>
        rw[hq]at hx;cases hx;obtain⟨cs,h5,h6,h7⟩:=h4 i x0 hq;obtain⟨k1,k2⟩:=Ns (π:=π) (lm.1 hso x0 (aG hq)) h5;refine⟨cs.map (A7 π),k1,by simpa using h6,λj c hc=>?_⟩;rw[cO]at hc
        cases hq2:cs[j]? with
        |none=>rw[hq2]at hc;cases hc
        |some c0=>
         rw[hq2]at hc;cases hc;have hsc:=k2 c0 (aG hq2)
         exact⟨by rw[Gu hsc];exact(h7 j c0 hq2).1,repS hsc (h7 j c0 hq2).2⟩
     |dead=>exact trivial
     |strIter s p=>cases hso
     |mp es=>cases hso
     |memo f=>cases hso
     |loop n tmps ps assign body st pend=>cases hso
     |dblock=>cases hso
     |bld T' el x=>cases hso
    gl:=hr.hok.gl.fr (λ_ _ _=>rfl) λb hb=>.inl (hown b hb) }
  .exact
   {fr:=hr.ev.fr
    sub:=λx hx=>hr.ev.sub x (hown x hx)
    obj:=λid o hid _=>by
     have hid':id<A.bs:=hid
     omega }
  .exact⟨by show A.bs<=h'.length;omega,hr.le.2⟩
  .have:=hr.df;rw[hd]at this;show DefsRep P M0 _ a.defers A.df;rw[hd]
   cases hds:a.defers with
   |nil=>exact trivial
   |cons d ds=>rw[hds]at this;exact this.elim
  .have:=hr.rc;show RcRep M0 _ b cs0 A.rc;cases hc:A.rc<;>rw[hc]at this<;>first|exact this|skip
   obtain⟨h1,h2,v',cs1,h3,h4⟩:=this
   exact⟨h1,h2,v',cs1,h3,RepP.less h4 λb hb=>hb.imp id (hown b)⟩⟩
theorem xv{T}:∀(live) (t),(cX (bY T live []) t=T t/\t∈live)\/cX (bY T live []) t=.undef
 |[],_=>.inr rfl
 |k::r,t=>by
  rw[Bh,rD];by_cases h:t=k
  .rw[if_pos h];subst h;exact .inl ⟨rfl,List.mem_cons_self⟩
  .rw[if_neg h];rcases xv r t with⟨h1,h2⟩|h1
   .exact .inl ⟨h1,E7 _ h2⟩
   .exact .inr h1
theorem Jk{x}{A}(live)(h')(l:List Nat)(r:List Nat)(n)(hn:A.h.length=n)(hπ:(List.range n).all (λi=>decide (l.getD i 0<n)&&decide (r.getD (l.getD i 0) 0=i)&&decide (r.getD i 0<n)&&decide (l.getD (r.getD i 0) 0=i))=true)
  (hb:A.bs=0) (hd:A.df=[]) (hs:A.h.all RL=true) (hh:h'=(List.range n).map λj=>RP (λi=>l.getD i 0) (A.h.getD (r.getD j 0) .dead)) (hl:∀t,t∈live->AL (A.tmps t)=true)
  (k:@W ⟨P,H,.loop x,Q⟩ { n:=A.n,bs:=A.bs,rc:=A.rc,tmps:=cX (bY (λt=>A6 (λi=>l.getD i 0) (A.tmps t)) live []),h:=h',df:=A.df }):@W ⟨P,H,.loop x,Q⟩ A:=by
 have hall:∀i,i<n->(l.getD i 0<n/\r.getD (l.getD i 0) 0=i)/\r.getD i 0<n/\l.getD (r.getD i 0) 0=i:=λi hi=>by
  have:=lm.1 hπ i (rj.2 hi);simp only[cG,decide_eq_true_eq]at this;exact⟨⟨this.1.1.1,this.1.1.2⟩,this.1.2,this.2⟩
 refine fm (MA (λi=>l.getD i 0) (λi=>r.getD i 0) (by rw[hn];exact λi hi=>(hall i hi).1) (by rw[hn];exact λi hi=>(hall i hi).2) hb hd (lm.1 hs) (by rw[hn];exact hh) (λt=>?_)) k;rcases xv (T:=λt=>A6 (λi=>l.getD i 0) (A.tmps t)) live t with⟨h1,h2⟩|h1
 .exact .inl ⟨h1,hl t h2⟩
 .exact .inr h1
end Abs
end Go.Proofs.YtoapoaoelpcniaaGreatDoor
namespace Go.Proofs.YtoapoaoelpcniaaGreatDoor
namespace Abs
def wB (q v:PV):Prop:=∀(M:Nat->Prop) (w:World) (u:Value),RepP M w u q->RepP M w u v
theorem wB.rfl'{q}:wB q q:=λ_ _ _ h=>h
theorem su{P}(hD:ea P){H}{f}{fn}{c}{pargs}{v}{rs}{n}(hf:P.funcs[f]?=some fn)(hb:fn.body=some c)(hrs:fn.results.toList=rs)(hn:fn.ntmps=n)(hok:cC H fn=true)
  (hlen:pargs.length<=n) (hw:wp P H c (iW P rs 0 (λ_ r h=>∃q,qX h r=some q/\wB q v)) (aZ n .no (pargs.map .p) [])):af P f pargs v:=by
 intro M0 w cargs hM hg ha;have ha':dZ (Rep M0 ⟨[],[],w⟩) cargs (pargs.map .p):=by
  refine⟨by simpa using ha.1,λi c hc=>?_⟩;simp only[cO,cg]at hc;obtain⟨q,hq,rfl⟩:=hc;exact aH ((ha.2 i q hq).mono (λ_ _ _=>rfl) (λb hb=>by
   rcases hb with hb|hb
   .exact .inl hb
   .simp[Own]at hb))
 have:=jT hD (h:=[]) (R:=λr h=>∃q,qX h r=some q/\wB q v) hf hb hrs hn hok (by simpa using hlen) hw M0 [] w cargs (rT hM hg) ha';refine⟨this.1,this.2.mono λe w' h=>?_⟩;obtain⟨r,h',m',⟨q,hq,hless⟩,hev,hk,hend⟩:=h
 cases e with
 |returned v'=>
  cases r with
  |panic v=>cases hq
  |ret a=>exact⟨v',rfl,hless _ _ _ (sE (S:=⟨m',h',w'⟩) hk hend hq),hev.fr⟩
 |panicked ch=>
  cases r with
  |panic v=>cases hq
  |ret a=>exact hend.elim
 |outgrown=>exact hend.elim
theorem Nx{a c d e f x y}:wB (.tuple [.agg [a,.nilslice,c,d,e,f],x,y]) (.tuple [.agg [a,.slice 4 [] false,c,d,e,f],x,y]):=by
 intro M w u h
 cases h with
 |tuple hn hr=>
  refine .tuple hn λi z hi=>?_
  match i,hi with
  |0,hi=>
   cases hi;have h0:=hr 0 _ rfl;generalize Array.getD _ 0 undef=v0 at h0 |-
   cases h0 with
   |agg hn hs hr=>
    refine .agg hn (λz hz=>?_) λi z hi=>?_
    .simp only[ci,iL,or_false]at hz hs;rcases hz with rfl|rfl|hz
     .exact hs _ (.inl rfl)
     .rfl
     .exact hs _ (.inr (.inr hz))
    .match i,hi with
     |0,hi=>exact hr 0 _ hi
     |1,hi=>
      cases hi;have h1:=hr 1 _ rfl;generalize Array.getD _ 1 undef=v1 at h1 |-;cases h1
      exact .empty (by simp)
     |i+2,hi=>exact hr (i+2) _ hi
  |i+1,hi=>exact hr (i+1) _ hi
namespace Ch
set_option maxRecDepth 4000
def dp (s:ChShop):ChBooks->Nat->List (List UInt8)->ChBooks×Int
 |b,_,[]=>(b,-1)
 |b,i,l::r=>match eX s b l with
  |.error _=>(b,(i:Int))
  |.ok (b',_,w)=>if w=true then dp s b' (i+1) r else(b',(i:Int))
def eB (s:ChShop) (text:List UInt8):ChBooks×Int×Int:=
 if(bi s).2.2≠0 then(aJ,0,(bi s).2.2)
 else if(dm text).2≠0 then(aJ,0,(dm text).2)
 else((dp s aJ 0 (dm text).1).1,(dp s aJ 0 (dm text).1).2,0)
def iu:PV:=.agg [.nilslice,.nilslice,.nilslice,.nilslice,.int .i64 0,.int .i64 0]
def lL (s:ChShop) (text:List UInt8):PV:=.tuple [if(eB s text).2.2=0 then(eB s text).1.pv else iu,.int .i64 (eB s text).2.1,.int .i64 (eB s text).2.2]
theorem Vt(s)(a a'):aD Tryz.prog 52 [.p s.pv] [a,a'] (λr h'=>r=.ret (.tuple [.ptr 3 1 0 0,.p (.int .i64 (bi s).2.2)])/\h'=[a,a',.row 17 [.p s.pv],Cu s]):=by
 refine aC (ah Tryz.func52 rfl (by kernel_rfl)) rfl ?_;simp only[go_sem,simprocAttr];refine ae (Hq s) rfl ?_;simp only[al,Cu,go_sem,simprocAttr]
def q9:AObj:=.row 6 [.p iu]
theorem PN{t}(h:(dm t).2=0):(dm t).1.length<=40:=by
 unfold dm at h |-;split at h
 .cases h
 .split at h
  .cases h
  .rename_i h1 h2;rw[if_neg h2];exact KL h2
set_option maxHeartbeats 4000000 in
theorem TI(s)(text)(hl:text.length<=2000000):af Tryz.prog 32 [s.pv,.str (bs text)] (lL s text):=by
 refine su bI (fn:=Tryz.f32) (n:=58) (rs:=[.cell 4 48,.tmp 5,.tmp 6]) (by kernel_rfl) rfl rfl rfl ZX (r7 rfl) ?_;simp only[go_sem,simprocAttr];refine cz (Vt s _ _) (λv h hr=>?_) (λv h hr=>by cases hr.1);obtain⟨hv,rfl⟩:=hr;cases hv;by_cases hc:(bi s).2.2=0;rotate_left
 .have hcn:((bi s).2.2 != 0)=true:=by simpa using hc
  have hres:lL s text=.tuple [iu,.int .i64 0,.int .i64 (bi s).2.2]:=by
   have:eB s text=(aJ,0,(bi s).2.2):=by rw[eB,if_pos hc]
   rw[lL,this];simp only[if_neg hc]
  simp only[hcn,hres,iu,go_sem,simprocAttr];exact wB.rfl'
 simp only[hc,go_sem,simprocAttr];refine ae (LY text hl) rfl ?_;by_cases hr:(dm text).2=0;rotate_left
 .have hcn:((dm text).2 != 0)=true:=by simpa using hr
  have hres:lL s text=.tuple [iu,.int .i64 0,.int .i64 (dm text).2]:=by
   have:eB s text=(aJ,0,(dm text).2):=by rw[eB,if_neg (by simpa using hc),if_pos hr]
   rw[lL,this];simp only[if_neg hr]
  simp only[dL,hcn,hres,iu,go_sem,simprocAttr];exact wB.rfl'
 have hres0:eB s text=((dp s aJ 0 (dm text).1).1,(dp s aJ 0 (dm text).1).2,0):=by rw[eB,if_neg (by simpa using hc),if_neg (by simpa using hr)]
 have hres:lL s text=.tuple [(dp s aJ 0 (dm text).1).1.pv,.int .i64 (dp s aJ 0 (dm text).1).2,.int .i64 0]:=by
  rw[lL,hres0];simp only[if_true]
 have hlen:=PN hr;have hs:=sa hc;simp only[dL,hr,bp,go_sem,simprocAttr];rw[hres];generalize (dm text).1=ls at hlen;have hll:ls.length<1000000000:=by omega
 refine eQ [4,7,32,33,34] 3 4 23 _ (fZ s [.slice 4 0 0 0,.p .nilslice,.p .nilslice,.p .nilslice]) (dY _) (dY _) rfl (fG 0 rfl rfl rfl) ?_ ?_ rfl ?_
 .simp only[go_sem,simprocAttr]
 .simp only[Cu,go_sem,simprocAttr]
 simp only[go_sem,simprocAttr];refine eQ [4,7,32,33,34] 3 4 23 _ (fZ s [.slice 4 0 0 0,.slice 5 0 0 0,.p .nilslice,.p .nilslice]) (dY _) (dY _) rfl (fG 1 rfl rfl rfl) ?_ ?_ rfl ?_
 .simp only[go_sem,simprocAttr]
 .simp only[fZ,go_sem,simprocAttr]
 simp only[go_sem,simprocAttr];refine eQ [4,7,32,33,34] 3 3 23 _ (fZ s [.slice 4 0 0 0,.slice 5 0 0 0,.slice 6 0 0 0,.p .nilslice]) (dY _) (dY _) rfl (fG 2 rfl rfl rfl) ?_ ?_ rfl ?_
 .simp only[go_sem,simprocAttr]
 .simp only[fZ,go_sem,simprocAttr]
 simp only[go_sem,simprocAttr];refine eQ [4,7,32,33,34] 3 2 23 _ (fZ s [.slice 4 0 0 0,.slice 5 0 0 0,.slice 6 0 0 0,.slice 7 0 0 0]) (dY _) (dY _) rfl (fG 3 rfl rfl rfl) ?_ ?_ rfl ?_
 .simp only[go_sem,simprocAttr]
 .simp only[fZ,go_sem,simprocAttr]
 simp only[go_sem,simprocAttr];refine Jk [4,7,32,33,34] ([.row 17 [.p s.pv],.row 17 [.p s.pv],.row 23 [fZ s [.slice 3 0 0 0,.slice 4 0 0 0,.slice 5 0 0 0,.slice 6 0 0 0]],.row 4 [],.row 4 [],.row 3 [],.row 2 [],q9]) [0,7,1,2,3,4,5,6] [0,2,3,4,5,6,7,1] 8 rfl (by decide) rfl rfl (by rfl) (by rfl) (by simp only[ci,go_sem,simprocAttr];rintro t (rfl|rfl|rfl|rfl|rfl)<;>rfl) ?_;have p1:[0,7,1,2,3,4,5,6].getD 1 0=7:=rfl;have p3:[0,7,1,2,3,4,5,6].getD 3 0=2:=rfl;simp only[A6,A7,p1,p3,go_sem,simprocAttr];refine fm (te 0) (fm (te 1) ?_);simp only[fZ,go_sem,simprocAttr]
 refine aQ [4,7,32,33] ls hll (τ:=List PV×ChBooks) (λdone rest q=>dp s aJ 0 ls=dp s q.2 done.length rest/\BkOk s q.2 done.length) (λdone q=>[(34,.p (.int .i64 done.length))])
  (λdone q=>B7 s q.2 q.1++[q9]) ([],aJ) ⟨rfl,RO s⟩ ?_ ?_ ?_
 .simp only[aJ,cw,ck,bC,q9,iu,go_sem,simprocAttr]
 .rintro⟨ex,b⟩ ⟨e1,_⟩
  dsimp only at e1;rw[e1,dp];simp only[q9,iu,nB,xD,yE,ux,xE,go_sem,simprocAttr];exact wB.rfl'
 .rintro done l r ⟨ex,b⟩ e1 ⟨e2,e3⟩ hx hlt hnx
  dsimp only at e2 e3;have hdl:done.length+1<=40:=by
   have:=congrArg List.length e1;simp at this;omega
  have hDn:=RR s b ex done.length hs e3 l;have hfr:=iE (fE s b ex) (args:=[.ptr 2 1 0 0,.p (.str (bs l))]) (by simp only[go_sem,simprocAttr]) (hDn.mono λr h' hr=>⟨Eo hr,hr⟩) [q9];simp only[hlt,hx,go_sem,simprocAttr];refine cz hfr (λv h hr=>?_) (λv h hr=>?_);rotate_left
  .obtain⟨h',_,_,hr⟩:=hr;unfold pc at hr;split at hr<;>cases hr.1
  obtain⟨h',rfl,_,hr⟩:=hr;unfold pc at hr
  cases hdn:eX s b l with
  |error e=>
   rw[hdn]at hr;obtain⟨hv,rfl⟩:=hr;cases hv;have he:dp s b done.length (l::r)=(b,(done.length:Int)):=by rw[dp,hdn]
   rw[e2,he];simp only[q9,iu,nB,xD,yE,ux,xE,go_sem,simprocAttr]
   exact wB.rfl'
  |ok q=>
   obtain⟨b',a,w⟩:=q;rw[hdn]at hr;obtain⟨hv,hx2⟩:=hr;cases hv;have hbk:BkOk s b' (done.length+1):=by
    have:=Jv (s:=s) (q:=(b,[],[])) (l:=l) hs e3 hdl;rw[eR]at this;simp only[hdn]at this;exact this
   rcases hx2 with⟨ex',rfl⟩|⟨h0,l0,x0,rfl⟩
   .cases w
    .have he:dp s b done.length (l::r)=(b',(done.length:Int)):=by rw[dp,hdn];rfl
     rw[e2,he];simp only[q9,iu,nB,xD,yE,ux,xE,go_sem,simprocAttr];exact wB.rfl'
    .have he:dp s b done.length (l::r)=dp s b' (done.length+1) r:=by rw[dp,hdn];rfl
     simp only[go_sem,simprocAttr];refine ak e1 (ex',b') ⟨by rw[e2,he];simp,by simpa using hbk⟩ ?_;simp only[hnx,q9,iu,go_sem,simprocAttr]
   .cases w
    .have he:dp s b done.length (l::r)=(b',(done.length:Int)):=by rw[dp,hdn];rfl
     rw[e2,he];simp only[q9,iu,xD,ux,xE,go_sem,simprocAttr];rw[h0];exact Nx
    .have he:dp s b done.length (l::r)=dp s b' (done.length+1) r:=by rw[dp,hdn];rfl
     simp only[go_sem,simprocAttr];refine Ap [4,7,32,33,34] 4 2 4 23 _ (.agg ([.slice 3 b'.lots.length 0 b'.lots.length,.slice 4 0 0 0,.slice 5 b'.tests.length 0 b'.tests.length,.slice 6 b'.boxes.length 0 b'.boxes.length,.p (.int .i64 b'.poured),.p (.int .i64 b'.lost)]++s.cells.map .p)) (dY _) (dY _) (by show 4<8;decide) (by decide) rfl (fG 1 rfl rfl rfl) ?_ ?_ rfl ?_
     .simp only[sC,tZ,sB,qV,go_sem,simprocAttr]
     .intro o ho;change o∈yf s b' l0 x0++[q9]at ho;rcases dr.1 ho with ho|ho
      .exact Ky s b' l0 x0 o ho
      .rw[gh.1 ho,q9,iu];intro x hx;rw[gh.1 hx];trivial
     simp only[go_sem,simprocAttr];refine ak e1 ([],b') ⟨by rw[e2,he];simp,by simpa using hbk⟩ ?_;simp only[hnx,h0,ck,cw,bC,q9,iu,go_sem,simprocAttr]
end Ch
set_option maxRecDepth 100000
theorem PK(s)(x):(aU s x).1.marks.length<1000000000:=by
 by_cases h:(aU s x).2=0
 .have:=(fS (Dx h).2.1).1.len;omega
 .rw[PM h];simp[dC]
namespace Ch
structure BkIn (b:ChBooks):Prop where
 reads:∀x,x∈b.lots->x.readings.length<1000000000
 marks:∀t,t∈b.tests->t.marks.length<1000000000
theorem Wu{s}{b b'}{c}{a}(hb:BkIn b)(h:aO s b c=.ok (b',a)):BkIn b':=by
 have lset:∀(i:Nat) (x y:ChLot),b.lots[i]?=some x->y.readings=x.readings->∀z,z∈b.lots.set i y->z.readings.length<1000000000:=by
  intro i x y hx hy z hz;rcases un hz with hz|rfl
  .exact hb.reads z hz
  .rw[hy];exact hb.reads x (aG hx)
 cases c with
 |lot name kind grams rs=>
  simp only[aO]at h;split at h
  .cases h
  split at h
  .cases h
  split at h
  .cases h
  split at h
  .cases h
  rename_i hw;split at h
  .cases h
  have hw':(Wx.bD s.wax rs (aA (λx:WxKind=>x.name==bs kind) s.wax.kinds 0)).2.2=0:=Classical.byContradiction hw;have hrs:rs.length<1000000000:=by
   unfold Wx.bD at hw';split at hw'
   .rename_i h0;obtain⟨h1,h2,_⟩:=Wx.tk h0;have:=h1.props;omega
   .contradiction
  cases h;refine⟨λx hx=>?_,hb.marks⟩;rcases dr.1 hx with hx|hx
  .exact hb.reads x hx
  .rw[gh.1 hx];exact hrs
 |batch name colour lot grams=>
  simp only[aO]at h;split at h
  .cases h
  split at h
  .cases h
  split at h
  .cases h
  split at h
  .cases h
  split at h
  .cases h
  rename_i x hx;split at h
  .cases h
  split at h
  .cases h
  cases h
  exact⟨lset _ x _ hx rfl,hb.marks⟩
 |drop name=>
  simp only[aO]at h;split at h
  .cases h
  split at h
  .cases h
  split at h
  .cases h
  rename_i x hx;cases h
  exact⟨lset _ x _ hx rfl,hb.marks⟩
 |plan c=>
  simp only[aO]at h;split at h
  .cases h
  .cases h;exact hb
 |pour c=>
  simp only[aO]at h;split at h
  .cases h
  .cases h;exact⟨hb.reads,hb.marks⟩
 |test text=>
  simp only[aO]at h;split at h
  .cases h
  split at h
  .cases h
  cases h;refine⟨hb.reads,λt ht=>?_⟩;rcases dr.1 ht with ht|ht
  .exact hb.marks t ht
  .rw[gh.1 ht];exact PK _ _
 |promise kind=>
  simp only[aO]at h;split at h
  .cases h
  .cases h;exact hb
 |box kind hours=>
  simp only[aO]at h;split at h
  .cases h
  split at h
  .cases h
  split at h
  .cases h
  cases h;exact⟨hb.reads,hb.marks⟩
 |look=>
  simp only[aO]at h
  cases h;exact hb
 |wick kind a1 b1 c1 d1=>
  simp only[aO]at h;split at h
  .cases h
  split at h
  .cases h
  split at h
  .cases h
  split at h
  .cases h
  cases h;exact hb
 |blend a1 b1 c1=>
  simp only[aO]at h;split at h
  .cases h
  cases h;exact hb
 |stock=>
  simp only[aO]at h;cases h;exact hb
theorem Th{s}{b}{l}{q}(hb:BkIn b)(h:eX s b l=.ok q):BkIn q.1:=by
 unfold eX at h;split at h
 .cases h
 .split at h
  .cases h
  .rename_i ha;cases h;exact Wu hb ha
theorem J2{s}:∀(d:List (List UInt8)) (q),BkIn q.1->BkIn (d.foldl (eR s) q).1
 |[],q,h=>h
 |l::d,q,h=>by
  refine J2 d (eR s q l) ?_;unfold eR;split
  .exact h
  .rename_i hd;exact Th h hd
theorem U0(s)(d):BkIn (bM s d).1:=J2 d _ ⟨λx hx=>(by cases hx),λx hx=>(by cases hx)⟩
end Ch
end Abs
end Go.Proofs.YtoapoaoelpcniaaGreatDoor
