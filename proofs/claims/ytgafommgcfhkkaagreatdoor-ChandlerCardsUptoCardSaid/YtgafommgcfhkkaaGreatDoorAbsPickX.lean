/- CONTRACTS of functions and laws. No conditions but those in the heads. -/
import Derived.Test.YtgafommgcfhkkaaGreatDoorRfFX
import Derived.Test.YtgafommgcfhkkaaGreatDoorChecked
import GoSem.ClaimGoes
import Derived.Test.YtgafommgcfhkkaaGreatDoorCards
import Derived.SevenTiedAt
import Derived.Stop.Joined
import Derived.Deep.DeepHandedRow
import Derived.JoinedCond
import Derived.ChangeMaps5
set_option linter.all false
set_option maxHeartbeats 8000000
open Go.Proofs.Tryz
open Go.IntKind (i64)
namespace Go.Proofs.YtgafommgcfhkkaaGreatDoor
namespace Abs
variable {P:Program} {M0:Nat->Prop}
def sD (ids:List Nat):AV->Prop
 |.p _=>True
 |.slice id _ _ _=>id∈ids
 |_=>False
def pickO (ids:List Nat):AObj->Prop
 |.row _ xs=>∀x,x∈xs->sD ids x
 |.dead=>True
 |_=>False
def pickA (ids:List Nat):AV->Prop
 |.tuple cs=>∀c,c∈cs->sD ids c
 |a=>sD ids a
def mvT (π:Nat->Nat):AV->AV
 |.tuple cs=>.tuple (cs.map (iL π))
 |a=>iL π a
def mvRow (π:Nat->Nat):AObj->AObj
 |.row sz xs=>.row sz (xs.map (iL π))
 |_=>.dead
def pickN (n:Nat) (ids:List Nat) (i:Nat):Nat:=n+ids.idxOf i
structure PickOk (n:Nat) (ids:List Nat) (h:Heap) (a0:AV) (a:AV) (t:Heap):Prop where
 nd:ids.Nodup
 lt:∀i,i∈ids->i<h.length
 t:t=ids.map λi=>mvRow (pickN n ids) (h.getD i .dead)
 o:∀i,i∈ids->pickO ids (h.getD i .dead)
 ok:pickA ids a0
 a:a=mvT (pickN n ids) a0
def Ko{ids}{π}{x}{cs}(e:sD ids x)(hx:x.cells=some cs):(iL π x).cells=some (cs.map (iL π))/\∀c,c∈cs->sD ids c:=by
 cases x with
 |p q=>
  cases q<;>simp[AV.cells]at hx<;>subst hx<;>refine⟨by simp[iL,AV.cells,gS],λc i=>?_⟩<;>simp at i<;>first|(subst i;trivial)|grind[sD]
 |slice a b c d=>grind[AV.cells,iL,sD]
 |agg l=>exact e.elim
 |ptr a b c d=>exact e.elim
 |ref a b=>exact e.elim
 |func a b c=>exact e.elim
 |tuple l=>exact e.elim
 |undef=>exact e.elim
def M2{ids}{π}{c}(e:sD ids c):(iL π c).isCell=c.isCell:=by
 cases c<;>first|rfl|exact e.elim
def CW{f}{args}{pargs0 pargs}{h}(K)(ha:ib (aQ (λi=>!K i) h) args=some pargs0)(hle:vT pargs0 pargs){R}{a}{t}
  (hR:∀r h',R r h'->∃(ids:List Nat) (a0:AV),r=.ret a0/\PickOk h.length ids h' a0 a t) (hc:aw P f (pargs.map .p) [] R) :
  aw P f args h (λr h''=>r=.ret a/\h''=aQ K h++t):=by
 intro M0 m w cargs hS hargs;obtain⟨hl,hg⟩:=vD ha;have hkK:HOk P M0 ⟨cT K m,aQ K h,w⟩:=qM hS K;let M1:Nat->Prop:=λb=>M0 b\/Own (cT K m) b
 have hM1:∀b,M1 b->b<w.heap.size:=λb hb=>hb.elim (λhb=>(hS.m0 b hb).1) (λhb=>hkK.lt b hb);have ha':eD (Rep M1 ⟨[],[],w⟩) cargs (pargs.map .p):=by
  obtain⟨hle1,hle2⟩:=hle.get;refine⟨by rw[hargs.1,hl,hle1];simp,λi c hi=>?_⟩;rw[cX,bg]at hi;obtain⟨q',hq',rfl⟩:=hi;obtain⟨q,hq⟩:∃q,pargs0[i]?=some q:=⟨_,bL (by grind)⟩
  obtain⟨x,h1,h2⟩:=hg i q hq;have:=PL.rep (hle2 i q q' hq hq') (nK (S:=⟨m,h,w⟩) hS K (hargs.2 i x h1) h2);exact RepP.less this λb hb=>by
   rcases hb with hb|hb
   .exact hb
   .simp[Own]at hb
 have:=hc M1 [] w cargs (pu hM1 hS.gl.1) ha';refine⟨this.1,this.2.mono λe w1 hh=>?_⟩;obtain⟨r,h1,m1,hR',hev,hk,hend⟩:=hh;obtain⟨ids,a0,rfl,hp⟩:=hR _ _ hR';have hend':∃v',e=.returned v'/\Rep M1 ⟨m1,h1,w1⟩ v' a0:=by
  cases e with
  |returned v'=>exact⟨v',rfl,hend⟩
  |panicked ch=>exact hend.elim
  |outgrown=>exact hend.elim
 obtain⟨v',rfl,hrep⟩:=hend';have hml:m.length=h.length:=hS.len;have hkm:(cT K m).length=h.length:=by simp[cT,hml]
 have hkh:(aQ K h).length=h.length:=by simp[aQ]
 have hm1l:m1.length=h1.length:=hk.len;obtain⟨m2,hm2⟩:∃m2,m2=cT K m++ids.map (λi=>m1.getD i none):=⟨_,rfl⟩
 have htl:t.length=ids.length:=by rw[hp.t];simp
 have hnew:∀b,Own m1 b->w.heap.size<=b:=λb hb=>by
  rcases hev.sub b hb with h|h
  .simp[Own]at h
  .exact h
 have hown2:∀b,Own m2 b->Own (cT K m) b\/Own m1 b:=λb hb=>by
  grind[Own,cT]
 have hold:∀id,id<h.length->(aQ K h++t)[id]?=(aQ K h)[id]?/\m2.getD id none=(cT K m).getD id none:=λid hid=>
  ⟨bJ (by omega),by grind⟩
 have hpos:∀id,id∈ids->(aQ K h++t)[pickN h.length ids id]?=some (mvRow (pickN h.length ids) (h1.getD id .dead))/\m2.getD (pickN h.length ids id) none=m1.getD id none:=λid hid=>by
  have hx:ids.idxOf id<ids.length:=List.idxOf_lt_length_iff.2 hid;have hxe:ids[ids.idxOf id]?=some id:=by rw[bL hx,List.getElem_idxOf hx]
  constructor
  .rw[dB (by unfold pickN;omega),show pickN h.length ids id-(aQ K h).length=ids.idxOf id by unfold pickN;omega,hp.t,cX,hxe];rfl
  grind[pickN]
 have hev2:Ev (aQ K h).length ⟨cT K m,aQ K h,w⟩ ⟨m2,aQ K h++t,w1⟩:=
  {fr:=⟨hev.fr.os,hev.fr.tape,hev.fr.output,hev.fr.size,λb hb _=>hev.fr.block b hb (by simp[Own]),hev.fr.shape⟩
   sub:=λb hb=>(hown2 b hb).imp id (hnew b)
   obj:=λid o hid ho=>by
    have hid':id<h.length:=by rw[hkh]at hid;exact hid
    refine⟨o,(hold id hid').1.trans ho,?_⟩;show ObjEv ((cT K m).getD id none) o (m2.getD id none) o;rw[(hold id hid').2]
    exact ObjEv.refl _ _ }
 have hav:∀b,Avoid M0 m2 b->Avoid M1 m1 b:=λb hb=>by
  grind[Avoid]
 have live:∀{id ver:Nat} {X:Nat->Option Nat->Prop},id∈ids->ei ⟨m1,h1,w1⟩ id ver X->ei ⟨m2,aQ K h++t,w1⟩ (pickN h.length ids id) ver X:=by
  intro id ver X hid hx;obtain⟨k1,k2⟩:=hpos id hid;rcases hx with hx|⟨sz,xs,hx,g1,g2⟩
  .refine .inl ?_;rw[da,show h1[id]?=some .dead from hx]at k1;exact k1
  .refine .inr ⟨sz,xs.map (iL (pickN h.length ids)),?_,by grind,λhe=>?_⟩
   .rw[da,show h1[id]?=some (.row sz xs) from hx]at k1;exact k1
   grind
 have rep0:∀{v:Value} {c:AV},sD ids c->dw M1 ⟨m1,h1,w1⟩ v c->dw M0 ⟨m2,aQ K h++t,w1⟩ v (iL (pickN h.length ids) c):=by
  intro v c hc hx
  cases c with
  |p q=>exact RepP.less (show RepP (Avoid M1 m1) w1 v q from hx) hav
  |slice id ver off len=>exact⟨hx.1,live (X:=sliceAt w1 v ver off len) hc hx.2⟩
  |ptr id ver i o=>exact hc.elim
  |ref q id=>exact hc.elim
  |undef=>exact hc.elim
  |agg cs=>exact hc.elim
  |func fn f c=>exact hc.elim
  |tuple vs=>exact hc.elim
 have repS:∀{v:Value} {c:AV},sD ids c->cb M1 ⟨m1,h1,w1⟩ v c->cb M0 ⟨m2,aQ K h++t,w1⟩ v (iL (pickN h.length ids) c):=by
  intro v c hc hx
  cases c with
  |p q=>exact rep0 (c:=.p q) hc hx
  |slice id ver off len=>grind[cb,aQ,iL,pickN]
  |ptr id ver i o=>exact hc.elim
  |ref q id=>exact hc.elim
  |undef=>exact hc.elim
  |agg cs=>exact hc.elim
  |func fn f c=>exact hc.elim
  |tuple vs=>exact hc.elim
 have repA:∀{v:Value} {c:AV},sD ids c->eE M1 ⟨m1,h1,w1⟩ v c->eE M0 ⟨m2,aQ K h++t,w1⟩ v (iL (pickN h.length ids) c):=by
  intro v c hc hx
  cases c with
  |p q=>exact rep0 (c:=.p q) hc hx
  |slice id ver off len=>grind[eE,aQ,iL,pickN]
  |ptr id ver i o=>exact hc.elim
  |ref q id=>exact hc.elim
  |undef=>exact hc.elim
  |agg cs=>exact hc.elim
  |func fn f c=>exact hc.elim
  |tuple vs=>exact hc.elim
 have hfin:Rep M0 ⟨m2,aQ K h++t,w1⟩ v' a:=by
  rw[hp.a];have h0:=hp.ok
  cases a0 with
  |tuple cs=>
   obtain⟨C,g1,g2,g3⟩:=hrep;refine⟨C,g1,by grind,λi c hi=>?_⟩;rw[cX,bg]at hi;obtain⟨c0,hc0,rfl⟩:=hi
   exact repA (h0 c0 (aB hc0)) (g3 i c0 hc0)
  |p q=>exact rep0 (c:=.p q) h0 hrep
  |slice id ver off len=>exact rep0 (c:=.slice id ver off len) h0 hrep
  |ptr id ver i o=>exact h0.elim
  |ref q id=>exact h0.elim
  |undef=>exact h0.elim
  |agg cs=>exact h0.elim
  |func fn f c=>exact h0.elim
 have hcat:∀{i b:Nat},m2[i]?=some (some b)->(i<h.length/\(cT K m)[i]?=some (some b))\/(h.length<=i/\∃j,ids[i-h.length]?=some j/\m1[j]?=some (some b)):=by
  intro i b hi;rw[hm2]at hi;rcases dO i h.length with hlt|hge
  .grind
  .grind
 have hdis:∀b,Own (cT K m) b->Own m1 b->False:=λb g1 g2=>(hk.m0 b (.inr g1)).2 g2
 have hokf:HOk P M0 ⟨m2,aQ K h++t,w1⟩:=
  {len:=by grind
   lt:=λb hb=>by
    rcases hown2 b hb with hb|hb
    .exact iy (hkK.lt b hb) hev.fr.size
    .exact hk.lt b hb
   m0:=λb hb=>⟨(hk.m0 b (.inl hb)).1,λhn=>by
    rcases hown2 b hn with hn|hn
    .exact(hkK.m0 b hb).2 hn
    grind⟩
   inj:=λi j b hi hj=>by
    rcases hcat hi with⟨_,g1⟩|⟨l1,x,g1,g2⟩<;>rcases hcat hj with⟨_,g3⟩|⟨l2,y,g3,g4⟩
    .exact hkK.inj i j b g1 g3
    .exact(hdis b (aB g1) (aB g4)).elim
    .exact(hdis b (aB g3) (aB g2)).elim
    .have hxy:=hk.inj x y b g2 g4;subst hxy;have e1:=(aC.1 g1)
     have e2:=(aC.1 g3)
     have:=(List.getElem_inj (h₀:=e1.1) (h₁:=e2.1) hp.nd).1 (e1.2.trans e2.2.symm);omega
   obj:=λid o ho=>by
    have ho':(aQ K h++t)[id]?=some o:=ho;show ObjOk P M0 _ (m2.getD id none) o;rcases dO id h.length with hlt|hge
    .rw[(hold id hlt).1]at ho';rw[(hold id hlt).2];exact(hkK.obj id o ho').keep hev2 λb hb=>hev.fr.block b (hkK.lt b (aB (cI hb))) (by simp[Own])
    .rw[dB (by omega),hkh,hp.t,cX,bg]at ho';obtain⟨j,hj,rfl⟩:=ho';have hjm:=aB hj;have hji:ids.idxOf j=id-h.length:=by
      have e1:=aC.1 hj;have e2:ids.idxOf j<ids.length:=List.idxOf_lt_length_iff.2 hjm;exact(List.getElem_inj (h₀:=e2) (h₁:=e1.1) hp.nd).1 ((List.getElem_idxOf e2).trans e1.2.symm)
     have hid:id=pickN h.length ids j:=by unfold pickN;omega
     rw[hid,(hpos j hjm).2];obtain⟨o,ho⟩:∃o,h1[j]?=some o:=⟨_,bL (hp.lt j hjm)⟩
     have hob:ObjOk P M1 ⟨m1,h1,w1⟩ (m1.getD j none) o:=hk.obj j o ho;have hpo:=hp.o j hjm;rw[show h1.getD j .dead=o by rw[da,ho];rfl]at hpo |-
     cases o with
     |row sz xs=>
      rcases hob with⟨g1,g2⟩|⟨b,T',C,g1,g2,g3,g4⟩
      .grind[ObjOk,aQ,mvRow,pickN]
      .refine .inr ⟨b,T',C,g1,g2,by grind,λi x hx=>?_⟩;rw[cX,bg]at hx;obtain⟨x0,hx0,rfl⟩:=hx;obtain⟨cs,g5,g6,g7⟩:=g4 i x0 hx0;obtain⟨k1,k2⟩:=Ko (π:=pickN h.length ids) (hpo x0 (aB hx0)) g5;refine⟨cs.map (iL (pickN h.length ids)),k1,by grind,λl c hc=>?_⟩;rw[cX,bg]at hc;obtain⟨c0,hc0,rfl⟩:=hc;have hsc:=k2 c0 (aB hc0)
       exact⟨by rw[M2 hsc];grind,repS hsc (g7 l c0 hc0).2⟩
     |dead=>exact trivial
     |strIter s p=>exact hpo.elim
     |mp es=>exact hpo.elim
     |memo f=>exact hpo.elim
     |loop n tmps ps assign body st pend=>exact hpo.elim
     |dblock=>exact hpo.elim
     |bld T' el x=>exact hpo.elim
   gl:=hev2.glob hkK.gl }
 exact⟨.ret a,_,m2,⟨rfl,rfl⟩,(s7 ⟨m,h,w⟩ K _).trans (by grind[Mem.kill,aQ]),hokf,hfin⟩
def rG (r:List Int):AV:=.p (.slice 1 (r.map ay) false)
def mv (L:List (List Int)):List AV:=L.map rG
def fM (L:List (List Int)) (i kk n:Nat):List AV:=(mv L).set i (.slice kk n 0 n)
def lI (r:List Int):List AV:=r.map λn=>.p (ay n)
def mJ(L):(mv L).length=L.length:=by simp[mv]
def iF(L)(i e n):(fM L i e n).length=L.length:=by simp[fM,mv]
def HK{a c}{i}(e n)(h:i<a.length):fM a i e n++mv c=fM (a++c) i e n:=by
 grind[fM,mv]
def Fd{a c}{i}(e n)(h:a.length<=i):mv a++fM c (i-a.length) e n=fM (a++c) i e n:=by
 grind[mv,fM]
def Oz (L:List (List Int)) (i:Nat) (r:List Int) (rr:AEnd) (h':Heap):Prop:=
 ∃id kk,id≠kk/\rr=.ret (.slice id L.length 0 L.length)/\h'[id]?=some (.row 1 (fM L i kk r.length))/\h'[kk]?=some (.row 1 (lI r))
def Sb{n id e N m i}{h'}{L}{r}(l:id≠e)(v:h'[id]?=some (.row 1 (fM L i e m)))(u:h'[e]?=some (.row 1 (lI r))) :
  PickOk n [id,e] h' (.slice id N 0 N) (.slice n N 0 N) [.row 1 (fM L i (n+1) m),.row 1 (lI r)]:=by
 have A:h'.getD id .dead=.row 1 (fM L i e m):=by rw[da,v];rfl
 have z:h'.getD e .dead=.row 1 (lI r):=by rw[da,u];rfl
 have D:pickN n [id,e] id=n:=by simp[pickN]
 have C:pickN n [id,e] e=n+1:=by
  have:List.idxOf e [id,e]=1:=by rw[List.idxOf_cons,show (id==e)=false by simpa using l];simp
  rw[pickN,this]
 refine⟨by simp[l],?_,?_,?_,?_,?_⟩
 .grind
 .simp only[bf,bx,A,z,mvRow]
  congr 2
  .rw[fM,fM,we]
   congr 1
   .rw[mv,g8];rfl
   .rw[iL,C]
  .rw[lI,g8];rfl
 .intro j q;simp only[br,dP,or_false]at q;rcases q with rfl|rfl
  .rw[A];intro x hx;rcases BZ hx with hx|rfl
   .obtain⟨y,_,rfl⟩:=cA.1 hx;trivial
   simp[sD]
  .rw[z];intro x hx;obtain⟨y,_,rfl⟩:=cA.1 hx;trivial
 .show id∈_;simp
 .show _=AV.slice (pickN n [id,e] id) N 0 N;rw[D]
def Qc{P}{f}{args}{pargs0 pargs}{h}(K)(y:ib (aQ (λi=>!K i) h) args=some pargs0)(e:vT pargs0 pargs){L}{i}{r}
  (v:aw P f (pargs.map .p) [] (Oz L i r)):aw P f args h (λl j=>l=.ret (.slice h.length L.length 0 L.length)/\j=aQ K h++[.row 1 (fM L i (h.length+1) r.length),.row 1 (lI r)]):=
 CW K y e (λl h' u=>by
  obtain⟨id,q,D,C,A,z⟩:=u
  exact⟨[id,q],_,C,Sb D A z⟩) v
def Dw{P}{H}{Q}{ops}{rest}{dst}{A}{f}{args}{pargs0 pargs}{L}{i}{r}{h'}
  (l:aw P f (pargs.map .p) [] (Oz L i r)) (K) (n) (q:ib (aQ (λi=>!K i) A.h) args=some pargs0) (e:vT pargs0 pargs) (j:A.h.length=n)
  (hh:aQ K A.h++[.row 1 (fM L i (n+1) r.length),.row 1 (lI r)]=h') (k:@WO ⟨P,H,ops,rest,Q⟩ (A.put dst (.slice n L.length 0 L.length) h')):@WF ⟨P,H,ops,rest,Q,dst⟩ A f args:=by
 subst j;subst hh;exact cw (Qc K q e l) k
def Ls(L)(i e n):List.take L.length (fM L i e n)=fM L i e n:=
 dt (by rw[iF];exact ba _)
def eU{L}{i e m n}(h:e<n):∀x,x∈fM L i e m->below n x:=by
 intro x hx;rcases BZ hx with hx|rfl
 .obtain⟨y,_,rfl⟩:=cA.1 hx;trivial
 .exact h
def iW{r}{n}:∀x,x∈lI r->below n x:=by
 intro x hx;obtain⟨y,_,rfl⟩:=cA.1 hx;trivial
def fp (k:Nat) (begin:List Int) (left:Int):List (List Int):=(eK k left).map (begin++·)
def Co(k)(begin)(left):fp (k+1) begin left=(iC 0 left).flatMap λn=>fp k (begin++[n]) (left-n):=by
 rw[fp,eK,List.map_flatMap]
 congr 1
 funext n;simp[eK,fp]
def Pj{k}{begin}{left}(h:left<=20):(fp k begin left).length<=21^k:=by
 rw[fp,dQ];exact wA k left h
def ID:∀(k) (begin) (left),0<=left->left<=20->k<=4->begin.length+k<=100->∀(i) (r),(fp k begin left)[i]?=some r ->
  aw Tryz.prog 334 [.p (.int .i64 ((k+1:Nat):Int)),.p (.slice 1 (begin.map ay) false),.p (.int .i64 left)] [] (Oz (fp k begin left) i r)
 |0,begin,left,h0,h1,Z,K,i,r,hi=>by
  have U:i=0/\r=begin++[left]:=by
   cases i with
   |zero=>simp[fp,eK]at hi;grind
   |succ i=>simp[fp,eK]at hi
  obtain⟨rfl,rfl⟩:=U;refine au (ag func334 rfl) rfl ?_;have I:(0:Nat)<=ai:=cG _;have G:(1:Nat)<=ai:=by simp[ai]
  have hL:fp 0 begin left=[begin++[left]]:=by simp[fp,eK]
  rw[hL];refine zm ?_
  cases begin with
  |nil=>
   refine zo I G ?_
   exact⟨1,0,by decide,rfl,rfl,rfl⟩
  |cons c cs=>
   simp only[bc]at K;have y1:cs.length+1<=ai:=by simp[ai];omega
   have y2:cs.length+1+1<=ai:=by simp[ai];omega
   simp only[y1,y2,go_sem,simprocAttr]
   exact⟨1,0,by decide,rfl,by simp[fM,mv],by simp[lI,ay]⟩
 |k+1,begin,left,h0,h1,Z,K,i,r,hi=>by
  refine au (ag func334 rfl) rfl ?_;have Y:(((k+1+1:Nat):Int)==1)=false:=by simp<;>omega
  have I:(0:Nat)<=ai:=cG _;have G:(1:Nat)<=ai:=by simp[ai]
  have A:i64.wrap (((k+1+1:Nat):Int)-1)=((k+1:Nat):Int):=by rw[ct (by omega) (by simp[ai];omega)];omega
  have hp:21^k<=194481:=by
   have:=mX (n:=21) (by omega) (show k<=4 by omega);simpa using this
  refine zn Y ?_;refine bt 7 1 (by simp only[go_sem,simprocAttr]) (zm ?_)
  refine aG [0,1,2] (iC 0 left) (by rw[sY];omega) (τ:=List (List Int)×List AV) (λd_ rest q=>q.1=(d_.flatMap λn=>fp k (begin++[n]) (left-n))/\q.1.length<=d_.length*194481/\∀x,x∈q.2->below 4 x)
   (λd_ q=>[(8,.p (.int .i64 d_.length)),(7,.slice 0 q.1.length 0 q.1.length)]) (λ_ q=>if i<q.1.length then [.row 1 (fM q.1 i 3 r.length),.dead,.row 1 q.2,.row 1 (lI r)] else [.row 1 (mv q.1)]) ([],[]) ⟨rfl,by simp,λx hx=>by cases hx⟩ ?_ ?_ ?_
  .rw[if_neg (by simp)];simp[bS,mv,bx,go_sem]
  .rintro⟨e,E⟩ ⟨F,_⟩
   have N:¬(((iC 0 left).length:Nat):Int)<=left:=by rw[sY];omega
   rw[<-Co]at F;dsimp only at F |-;subst F;rw[if_pos (aC.1 hi).1];refine zn N ?_;grind[Oz,fp,fM,lI]
  .rintro d_ y rest ⟨e,E⟩ D ⟨F,e3,L⟩ hx N v
   dsimp only at F e3 L |-;obtain⟨X,a0⟩:=DK hx;rw[Mv]at X;have z:((d_.length:Nat):Int)<=left:=by omega
   have hw:i64.wrap (left-((d_.length:Nat):Int))=left-((d_.length:Nat):Int):=ah;have a1:=Pj (k:=k) (begin:=begin++[(d_.length:Int)]) (left:=left-(d_.length:Int)) (by omega);have V:d_.length<=20:=by omega
   have j:e.length+(fp k (begin++[(d_.length:Int)]) (left-(d_.length:Int))).length<=ai:=by
    have:d_.length*194481<=20*194481:=gp _ V;simp[ai];omega
   have J:=BE k (begin++[(d_.length:Int)]) (left-(d_.length:Int)) false (by omega) (by omega) (by omega) (by simp;omega);have S:=ID k (begin++[(d_.length:Int)]) (left-(d_.length:Int)) (by omega) (by omega) (by omega) (by simp;omega);have C:e++fp k (begin++[(d_.length:Int)]) (left-(d_.length:Int))=((d_++[y]).flatMap λn=>fp k (begin++[n]) (left-n)):=by rw[F,X];simp
   have l:(e++fp k (begin++[(d_.length:Int)]) (left-(d_.length:Int))).length<=(d_++[y]).length*194481:=by simp;omega
   rw[show Cn ((eK k (left-(d_.length:Int))).map ((begin++[(d_.length:Int)])++·))=.slice 1 ((fp k (begin++[(d_.length:Int)]) (left-(d_.length:Int))).map λr=>.slice 1 (r.map ay) false) false from rfl]at J;by_cases c1:i<e.length
   .rw[if_pos c1];generalize fp k (begin++[(d_.length:Int)]) (left-(d_.length:Int))=R at *
    have u:fM e i 3 r.length++(R.map λx=>AV.p (.slice 1 (x.map ay) false))=fM (e++R) i 3 r.length:=HK 3 r.length c1
    cases begin with
    |nil=>
     refine t_ z I G A hw ?_;refine te J 4 1 [ay d_.length] ?_ ?_ ?_ ?_
     .simp[go_sem]
     .simp[go_sem]
     .simp[go_sem]
     refine zo j @iF ?_;refine am D (e++R,E) ⟨C,l,L⟩ ?_;rw[if_pos (by simp;omega)];simp only[v,ak,g8,gS,u,go_sem,simprocAttr]
     exact⟨eU (by decide),L,iW⟩
    |cons c cs=>
     simp only[bc]at K;have y1:cs.length+1<=ai:=by simp[ai];omega
     have y2:cs.length+1+1<=ai:=by simp[ai];omega
     simp only[z,y1,y2,A,hw,go_sem,simprocAttr];refine te J 4 1 ((c::cs++[(d_.length:Int)]).map ay) ?_ ?_ ?_ ?_
     .simp[aS,go_sem]
     .simp[go_sem]
     .simp only[aS,ak,go_sem,simprocAttr]
     refine zo j @iF ?_;refine am D (e++R,E) ⟨C,l,L⟩ ?_;rw[if_pos (by simp;omega)];simp only[v,ak,g8,gS,u,go_sem,simprocAttr];exact⟨eU (by decide),L,iW⟩
   rw[if_neg c1];by_cases c2:i<e.length+(fp k (begin++[(d_.length:Int)]) (left-(d_.length:Int))).length
   .have T:(fp k (begin++[(d_.length:Int)]) (left-(d_.length:Int)))[i-e.length]?=some r:=by
     have O:fp (k+1) begin left=e++(fp k (begin++[(d_.length:Int)]) (left-(d_.length:Int))++(rest.flatMap λn=>fp k (begin++[n]) (left-n))):=by
      rw[Co,D,<-dD,C];simp
     rw[O,dB (by omega),bJ (by omega)]at hi;exact hi
    have M:=S (i-e.length) r T;generalize fp k (begin++[(d_.length:Int)]) (left-(d_.length:Int))=R at *
    have u:mv e++fM R (i-e.length) 3 r.length=fM (e++R) i 3 r.length:=Fd 3 r.length (by omega)
    cases begin with
    |nil=>
     refine t_ z I G A hw ?_;refine Dw (pargs0:=[.int .i64 ((k+1:Nat):Int),.slice 1 (List.map ay ([]++[(d_.length:Int)])) false,.int .i64 (left-(d_.length:Int))]) (pargs:=[.int .i64 ((k+1:Nat):Int),.slice 1 (List.map ay ([]++[(d_.length:Int)])) false,.int .i64 (left-(d_.length:Int))]) M (λi=>i==1) 2 ?_ ⟨.refl _,.refl _,.refl _,trivial⟩ rfl rfl ?_
     .simp[aQ,List.mapIdx_cons,List.mapIdx_nil,go_sem]
     simp only[aQ,List.mapIdx_cons,List.mapIdx_nil,j,mJ,iF,Ls,ba,go_sem,simprocAttr];refine am D (e++R,fM R (i-e.length) 3 r.length) ⟨C,l,eU (by decide)⟩ ?_;rw[if_pos (by simp;omega)];simp only[v,ak,u,go_sem,simprocAttr]
     exact⟨eU (by decide),eU (by decide),iW⟩
    |cons c cs=>
     simp only[bc]at K;have y1:cs.length+1<=ai:=by simp[ai];omega
     have y2:cs.length+1+1<=ai:=by simp[ai];omega
     simp only[z,y1,y2,A,hw,go_sem,simprocAttr];refine Dw (pargs0:=[.int .i64 ((k+1:Nat):Int),.slice 1 (List.map ay ((c::cs)++[(d_.length:Int)])) false,.int .i64 (left-(d_.length:Int))]) (pargs:=[.int .i64 ((k+1:Nat):Int),.slice 1 (List.map ay ((c::cs)++[(d_.length:Int)])) false,.int .i64 (left-(d_.length:Int))]) M (λi=>i==1) 2 ?_ ⟨.refl _,.refl _,.refl _,trivial⟩ rfl rfl ?_
     .simp only[aQ,List.mapIdx_cons,List.mapIdx_nil,aS,ak,go_sem,simprocAttr]
     simp only[aQ,List.mapIdx_cons,List.mapIdx_nil,j,mJ,iF,Ls,ba,go_sem,simprocAttr];refine am D (e++R,fM R (i-e.length) 3 r.length) ⟨C,l,eU (by decide)⟩ ?_;rw[if_pos (by simp;omega)];simp only[v,ak,u,go_sem,simprocAttr];exact⟨eU (by decide),eU (by decide),iW⟩
   .generalize fp k (begin++[(d_.length:Int)]) (left-(d_.length:Int))=R at *
    cases begin with
    |nil=>
     refine t_ z I G A hw ?_;refine te J 1 1 [ay d_.length] ?_ ?_ ?_ ?_
     .simp[go_sem]
     .simp[go_sem]
     .simp[go_sem]
     refine zo j @mJ ?_;refine am D (e++R,[]) ⟨C,l,λx hx=>by cases hx⟩ ?_;rw[if_neg (by simp;omega)];simp only[v,ak,mv,rG,aS,g8,gS,go_sem,simprocAttr]
     rfl
    |cons c cs=>
     simp only[bc]at K;have y1:cs.length+1<=ai:=by simp[ai];omega
     have y2:cs.length+1+1<=ai:=by simp[ai];omega
     simp only[z,y1,y2,A,hw,go_sem,simprocAttr];refine te J 1 1 ((c::cs++[(d_.length:Int)]).map ay) ?_ ?_ ?_ ?_
     .simp[aS,go_sem]
     .simp[go_sem]
     .simp only[aS,ak,go_sem,simprocAttr]
     refine zo j @mJ ?_;refine am D (e++R,[]) ⟨C,l,λx hx=>by cases hx⟩ ?_;rw[if_neg (by simp;omega)];simp only[v,ak,mv,rG,aS,g8,gS,go_sem,simprocAttr];rfl
def Fb(k)(left):fp k [] left=eK k left:=by simp[fp]
def U6{L}{j:Nat}{r}(h:L[j]?=some r):(mv L)[j]?=some (rG r):=by rw[mv,cX,h];rfl
def zO{L}{i j l n}{r}(h:L[j]?=some r):(fM L i l n)[j]?=some (if j=i then .slice l n 0 n else rG r):=by
 by_cases e:j=i
 .subst e;rw[if_pos rfl,fM,jp (by grind[mv])]
 .rw[if_neg e,fM,eS (Ne.symm e)];exact U6 h
def Eg{α:Type}(p):∀(l:List α) (i) (r),(l.filter p)[i]?=some r->∃j,l[j]?=some r/\p r=true/\((l.take j).filter p).length=i
 |[],i,r,h=>by simp at h
 |x::l,i,r,h=>by
  rw[List.filter_cons]at h
  cases e:p x with
  |true=>
   rw[e,if_pos rfl]at h
   cases i with
   |zero=>cases h;exact⟨0,rfl,e,rfl⟩
   |succ i=>
    obtain⟨j,v,u,q⟩:=Eg p l i r (by simpa using h)
    exact⟨j+1,by simpa using v,u,by grind⟩
  |false=>
   rw[e,if_neg (by simp)]at h;obtain⟨j,v,u,q⟩:=Eg p l i r h;exact⟨j+1,by simpa using v,u,by grind⟩
def IH(n)(h)(r):aE (bi n h) (lI r)=some (r.map ay):=aW (bH n h) ay r
def zN(r):(lI r).length=r.length:=by simp[lI]
def KH(l)(w)(S:BdWaxesOk l)(hw:WishOk l.length w)(i)(r)(hi:(fits l w)[i]?=some r):aw Tryz.prog 272 [.p (dg l),.p w.pv] [] (Oz (fits l w) i r):=by
 have a3:=S.len;have a4:=wz S;have hk:((l.length:Nat):Int)=((l.length-1+1:Nat):Int):=by omega
 obtain⟨j,T,I,Y⟩:=Eg _ _ _ _ hi;refine au (ag func272 rfl) rfl (zm ?_);have hR:=ID (l.length-1) [] 20 (by omega) (by omega) (by omega) (by simp;omega) j r (by rw[Fb];exact T);rw[Fb,<-hk]at hR;refine Dw (pargs0:=[.int .i64 l.length,.nilslice,.int .i64 20]) (pargs:=[.int .i64 l.length,.slice 1 [] false,.int .i64 20]) hR (λ_=>false) 1 rfl ⟨.refl _,.nil _,.refl _,trivial⟩ rfl rfl ?_;simp only[aQ,List.mapIdx_cons,List.mapIdx_nil,go_sem,simprocAttr];refine bt 6 1 (by simp only[go_sem,simprocAttr]) (zm ?_);generalize M:eK (l.length-1) 20=R at *
 refine aG [0,3,5] R (by omega) (τ:=List (List Int)) (λd_ rest e=>e=d_.filter (λr=>gb l w r==0)/\e.length<=d_.length/\(j<d_.length->i<e.length))
  (λd_ e=>[(7,.p (.int .i64 d_.length)),(6,.slice 3 e.length 0 e.length)]) (λd e=>[.row 5 [.p w.pv],.row 1 (fM R j 2 r.length),.row 1 (lI r),.row 1 (if j<d.length then fM e i 2 r.length else mv e)]) [] ⟨rfl,by simp,λh=>by simp at h⟩ ?_ ?_ ?_
 .simp only[bS,mv,bx,go_sem,simprocAttr];exact⟨rfl,eU (by decide),iW,λx hx=>by simp at hx⟩
 .rintro e ⟨U,_⟩
  have N:fits l w=e:=by rw[fits,M,U]
  rw[if_pos (aC.1 T).1,N];refine zn @iF ?_;grind[Oz,Span.pv,fM,lI]
 .rintro d_ q rest e D ⟨U,e3,V⟩ hx z A
  have a0:=congrArg List.length D;rw[ak,bc]at a0;have G:e.length+1<=ai:=by simp[ai];omega
  have F:=Bc S (by rw[M,D];simp:q∈eK (l.length-1) 20);have hW:=NO false S hw F.len F.rng;have Z:R.take d_.length=d_:=by rw[D,eX rfl]
  have v:(d_++[q]).filter (λr=>gb l w r==0)=e++if(gb l w q==0)=true then [q] else []:=by rw[Mr,<-U,List.filter_cons];rfl
  by_cases J:d_.length=j
  .subst J;rw[hx]at T;cases T;rw[Z,<-U]at Y;rw[if_pos I]at v;have C:(fM R d_.length 2 r.length)[d_.length]?=some (.slice 2 r.length 0 r.length):=by rw[zO hx,if_pos rfl]
   rw[if_neg (by omega)];refine zp z @iF C ?_;refine pC hW ?_ (.int _ _) ?_
   .simp[IH,zN,go_sem]
   refine zn I ?_;refine t_ z @iF C @mJ G ?_;refine am D (e++[r]) ⟨v.symm,by simp;omega,λ_=>by simp;omega⟩ ?_;rw[if_pos (by simp)];have O:mv e++[AV.slice 2 r.length 0 r.length]=fM (e++[r]) i 2 r.length:=by
    rw[<-Fd 2 r.length (by omega:e.length<=i)]
    congr 1
    rw[show i-e.length=0 by omega];rfl
   simp only[A,O,ak,aK,go_sem,simprocAttr];exact⟨eU (by decide),iW,eU (by decide)⟩
  .have C:(fM R j 2 r.length)[d_.length]?=some (rG q):=by rw[zO hx,if_neg J]
   obtain⟨X,E⟩:∃X,X=if j<d_.length then fM e i 2 r.length else mv e:=⟨_,rfl⟩
   have a2:X.length=e.length:=by
    rw[E];split
    .rw[iF]
    .rw[mJ]
   have K:∀x,x∈X->below 4 x:=by
    rw[E];split
    .exact eU (by decide)
    .intro x hx;obtain⟨y,_,rfl⟩:=cA.1 hx;trivial
   have L:X++[rG q]=if j<(d_++[q]).length then fM (e++[q]) i 2 r.length else mv (e++[q]):=by
    rw[ak,aK,E];by_cases u:j<d_.length
    .grind[fM,mv,rG]
    .grind[fM,mv,rG]
   have a1:X=if j<(d_++[q]).length then fM e i 2 r.length else mv e:=by
    rw[ak,aK,E];by_cases u:j<d_.length
    .grind
    .grind
   rw[<-E];rw[rG]at C L;refine zp z @iF C ?_;refine aj hW rfl (zm ?_);cases hb:(gb l w q==0)
   .rw[hb,if_neg (by simp),bI]at v;refine zm ?_;refine am D e ⟨v.symm,by simp;omega,λh=>V (by grind)⟩ ?_;rw[<-a1];refine zn A ?_;exact⟨eU (by decide),iW,K⟩
   .rw[hb,if_pos rfl]at v;refine zm ?_;refine t_ z @iF C a2 G ?_;refine am D (e++[q]) ⟨v.symm,by simp;omega,λh=>by grind⟩ ?_;rw[<-L];simp only[A,ak,aK,go_sem,simprocAttr];exact⟨eU (by decide),iW,K⟩
def Jt (p:List Int->Int) (q:Nat×List Int) (n:Nat) (r:List Int):Nat×List Int:=if p r<p q.2 then(n,r) else q
def kZ (p:List Int->Int) (q:Nat×List Int):Nat->List (List Int)->Nat×List Int
 |_,[]=>q
 |n,r::t=>kZ p (Jt p q n r) (n+1) t
def F6(p):∀(t) (q) (n) (r),kZ p q n (t++[r])=Jt p (kZ p q n t) (n+t.length) r
 |[],q,n,r=>rfl
 |x::t,q,n,r=>by
  rw[ga,kZ,F6 p t,kZ,bc,show n+1+t.length=n+(t.length+1) by omega]
def Mc(p):∀(t) (q) (n),cE p (some q.2) t=some (kZ p q n t).2
 |[],q,n=>rfl
 |r::t,q,n=>by
  rw[cE,kZ,<-Mc p t];grind[cE,Jt]
def EF(p):∀(t all:List (List Int)) (q) (n),all[q.1]?=some q.2->(∀j r,t[j]?=some r->all[n+j]?=some r)->all[(kZ p q n t).1]?=some (kZ p q n t).2
 |[],all,q,n,h,_=>h
 |r::t,all,q,n,h,e=>by
  rw[kZ];refine EF p t all _ _ ?_ λj i l=>?_
  .unfold Jt;split
   .exact e 0 r rfl
   .exact h
  .have:=e (j+1) i (by simpa using l);grind
def IC(l)(w)(h0:(aJ l w).2.2=0):aw Tryz.prog 203 [.p (dg l),.p w.pv] []
  (λrr h'=>∃kk,rr=.ret (.tuple [.slice kk (aJ l w).1.length 0 (aJ l w).1.length,.p (.int .i64 (aJ l w).2.1),.p (.int .i64 0)])/\h'[kk]?=some (.row 1 (lI (aJ l w).1))):=by
 have R:fe l w=0:=by
  unfold aJ at h0;split at h0
  .assumption
  .exact h0
 obtain⟨hl,hw⟩:=ug R;have b8:=hl.len;have I:aJ l w=match cE (bo l) none (fits l w) with|none=>([],0,9)|some b=>(b,bo l b,0):=by rw[aJ,if_pos R];rfl
 have a8:=C7 w hl;have C:∀r,r∈fits l w->RecOk l.length r:=λr hr=>(tN hl hr).1;have hF:=KH l w hl hw;refine au (ag func203 rfl) rfl (zm ?_)
 (first|refine aa (xm l w) rfl ?_|refine aj (xm l w) rfl ?_)
 have a6:(fe l w != 0)=false:=by simpa using R
 refine zn a6 ?_;generalize fits l w=all at *
 cases all with
 |nil=>rw[I]at h0;cases h0
 |cons x t=>
  obtain⟨q,hq⟩:∃q,kZ (bo l) (0,x) 1 t=q:=⟨_,rfl⟩
  have T:=Mc (bo l) t (0,x) 1;have z:=EF (bo l) t (x::t) (0,x) 1 rfl λj r hj=>by grind
  rw[hq]at T z;obtain⟨i,r⟩:=q;dsimp only at T z;have a4:aJ l w=(r,bo l r,0):=by rw[I,cE,T]
  rw[a4];obtain⟨all,A⟩:∃all,x::t=all:=⟨_,rfl⟩
  rw[A]at z a8 C hF;refine Dw (pargs0:=[dg l,w.pv]) (pargs:=[dg l,w.pv]) (hF i r z) (λ_=>false) 1 rfl ⟨.refl _,.refl _,trivial⟩ rfl rfl ?_;have b5:all.length=t.length+1:=by rw[<-A];rfl
  have a9:(((all.length:Nat):Int)==0)=false:=by rw[beq_eq_false_iff_ne];omega
  have a3:all[0]?=some x:=by rw[<-A];rfl
  have b3:(0:Int)<(all.length:Int):=by omega
  obtain⟨v0,O⟩:∃v,v=if 0=i then AV.slice 2 r.length 0 r.length else rG x:=⟨_,rfl⟩
  have b0:(fM all i 2 r.length)[0]?=some v0:=by rw[zO a3,O]
  have N:∀(j:Nat) (y:List Int),(if j=i then AV.slice 2 r.length 0 r.length else rG y).cells=some [if j=i then AV.slice 2 r.length 0 r.length else rG y]:=λj y=>by split<;>rfl
  have L:v0.cells=some [v0]:=by rw[O];exact N 0 x
  simp only[AV.cells,PV.cells]at L;simp only[aQ,List.mapIdx_cons,List.mapIdx_nil,a9,iF,b3,b0,L,go_sem,simprocAttr]
  have X:∀(v:AV) (y:List Int),(v=rG y\/(v=.slice 2 r.length 0 r.length/\y=r))->RecOk l.length y->aw Tryz.prog 273 [.p (dg l),v] [.row 5 [.p w.pv],.row 1 (fM all i 2 r.length),.row 1 (lI r)]
    (λrr h'=>rr=.ret (.p (.int .i64 (bo l y)))/\h'=[.row 5 [.p w.pv],.row 1 (fM all i 2 r.length),.row 1 (lI r)]):=by
   intro v y Z hy;have hP:=mh false false hl hy.len hy.rng;refine yJ hP ?_ (.int _ _);rcases Z with rfl|⟨rfl,rfl⟩
   .rfl
   .simp[IH,zN,go_sem]
  obtain⟨val,u⟩:∃val:List (List Int)->AV,val=λd=>if(kZ (bo l) (0,x) 1 d).1=i then AV.slice 2 r.length 0 r.length else rG (kZ (bo l) (0,x) 1 d).2:=⟨_,rfl⟩
  have b4:∀d,(val d).cells=some [val d]:=λd=>by simp_all
  have Y:v0=val []:=by rw[O,u];rfl
  have J:∀d e,t=d++e->all[(kZ (bo l) (0,x) 1 d).1]?=some (kZ (bo l) (0,x) 1 d).2:=λd e S=>EF (bo l) d all (0,x) 1 a3 λj y hj=>by
   grind
  have G:∀d e,t=d++e->val d=rG (kZ (bo l) (0,x) 1 d).2\/(val d=.slice 2 r.length 0 r.length/\(kZ (bo l) (0,x) 1 d).2=r):=λd e S=>by
   grind
  have F:∀(v:AV) (y:List Int),(v=rG y\/(v=.slice 2 r.length 0 r.length/\y=r))->below 3 v:=λv y h=>by
   rcases h with rfl|⟨rfl,_⟩
   .exact trivial
   .show 2<3;decide
  rw[Y];refine aG [0,8] t (by omega) (τ:=Unit) (λ_ _ _=>True) (λd _=>[(10,.p (.int .i64 ((d.length+1:Nat):Int))),(9,val d)]) (λ_ _=>[.row 5 [.p w.pv],.row 1 (fM all i 2 r.length),.row 1 (lI r)]) () trivial ?_ ?_ ?_
  .simp only[bS,go_sem,simprocAttr];exact⟨F _ _ (G [] t rfl),eU (by decide),iW⟩
  .intro _ _;have K:¬(((t.length+1:Nat):Int)<(all.length:Int)):=by omega
   have a7:val t=.slice 2 r.length 0 r.length:=by rw[u];simp only[hq,if_true]
   have hok:=C r (aB z);refine zp K @iF a7 ?_;refine cw (X _ r (.inr ⟨rfl,rfl⟩) hok) (zm ?_);simp
  .intro d y e _ e1 _ hx b6 b7;have b1:=congrArg List.length e1;rw[ak,bc]at b1;have K:(((d.length+1:Nat):Int)<(all.length:Int)):=by omega
   have V:all[d.length+1]?=some y:=by rw[<-A,AU];exact hx
   obtain⟨v,Z⟩:∃v,v=if d.length+1=i then AV.slice 2 r.length 0 r.length else rG y:=⟨_,rfl⟩
   have hg:(fM all i 2 r.length)[d.length+1]?=some v:=by rw[zO V,Z]
   have E:v.cells=some [v]:=by rw[Z];exact N _ y
   simp only[AV.cells,PV.cells]at E;have a1:v=rG y\/(v=.slice 2 r.length 0 r.length/\y=r):=by
    rw[Z];split
    .grind
    .simp
   have a5:=C y (aB V);have b2:=C _ (aB (J d (y::e) e1));have D:=F6 (bo l) d (0,x) 1 y;rw[Jt]at D;have a0:i64.wrap (((d.length+1:Nat):Int)+1)=(((d++[y]).length+1:Nat):Int):=by rw[ah];simp
   have a2:=G d (y::e) e1;refine s_ K @iF hg E ?_;refine cw (X v y a1 a5) (zm ?_);refine cw (X (val d) _ a2 b2) (zm ?_);cases hc:decide (bo l y<bo l (kZ (bo l) (0,x) 1 d).2)
   .have U:¬bo l y<bo l (kZ (bo l) (0,x) 1 d).2:=by simpa using hc
    rw[if_neg U]at D;have M:val (d++[y])=val d:=by rw[u];simp only[D]
    refine zm ?_;refine am (Inv:=λ_ _ _=>True) e1 () trivial (zo a0 M ?_);exact⟨F _ _ a2,eU (by decide),iW⟩
   .have U:bo l y<bo l (kZ (bo l) (0,x) 1 d).2:=by simpa using hc
    rw[if_pos U]at D;have M:val (d++[y])=v:=by rw[u,Z];simp only[D,Nat.add_comm 1 d.length]
    refine s_ K @iF hg E ?_;refine am (Inv:=λ_ _ _=>True) e1 () trivial (zo a0 M ?_);exact⟨F _ _ a1,eU (by decide),iW⟩
end Abs
open Go.Proofs.Tryz renaming prog->TP
namespace Abs
namespace Ch
set_option maxRecDepth 4000
def EI (a:List UInt8) (q:Except Int (ChBooks×List UInt8)):PV:=match q with|.error e=>.tuple [.str (bs a),.int .i64 e]|.ok (_,w)=>.tuple [.str (bs w),.int .i64 0]
def BL{a}{q}{e}(h:q=.error e):EI a q=.tuple [.str (bs a),.int .i64 e]:=by subst h;rfl
def Mf{a w}{q}{b}(h:q=.ok (b,w)):EI a q=.tuple [.str (bs w),.int .i64 0]:=by subst h;rfl
def O1{s}{c}{x}(h:(Wk.de s c x).2≠0):(Wk.de s c x).1=0:=by
 unfold Wk.de at h |-;split at h
 .rename_i e;rw[if_pos e];split at h
  .rename_i i;rw[if_pos i]
  .exact absurd rfl h
 .rename_i e;rw[if_neg e]
def QH(s)(b)(G:SOk s)(kind)(a b' c d):af TP 118 [s.pv,(bp (.wick kind a b' c d)).pv] (EI (Ei s b (.wick kind a b' c d)) (aH s b (.wick kind a b' c d))):=by
 have y:=G.wickwaxes;have N:=(Wk.rD G.wick).lw;refine ae (ag Tryz.func118 rfl) rfl ?_;simp only[bp,Said.pv,aN,go_sem,simprocAttr];refine aG [2,3,6] s.wick.waxes y (τ:=Unit) (λd r _=>an (λx:Wax=>x.name==bs kind) s.wick.waxes 0=an (λx:Wax=>x.name==bs kind) r d.length) (λd _=>[(7,.p (.int .i64 d.length))]) (λ_ _=>[.row 17 [.p s.pv],.row 4 [.p (bp (.wick kind a b' c d)).pv]]) () rfl ?_ ?_ ?_
 .simp[bS,bp,Said.pv,aN,go_sem]
 .intro _ i;have l:¬((s.wick.waxes.length:Int)<(s.wick.waxes.length:Int)):=by omega
  have hi:an (λx:Wax=>x.name==bs kind) s.wick.waxes 0<0:=by rw[i];simp[an]
  rw[BL (e:=4) (by simp only[aH,if_pos hi]),Ei,if_pos hi];refine zo l decide_false ?_;rfl
 .intro v x r _ M i hx l z;rw[an]at i;simp only[l,decide_true,hx,bp,Said.pv,aN,go_sem,simprocAttr]
  cases J:(x.name==bs kind) with
  |false=>
   rw[J,if_neg (by simp)]at i;refine zm ?_;refine am M () (by rw[i];simp) ?_
   simp only[z,bp,Said.pv,aN,go_sem,simprocAttr]
  |true=>
   rw[J,if_pos rfl]at i;have j:¬((v.length:Nat):Int)<0:=by omega
   have K:=Wk.Jc s.wick ⟨(v.length:Int),a,b',⟨c,d⟩⟩ x (λL=>by
    obtain⟨x',u⟩:=Wk.Hv L;have:=u.hx;dsimp only at this;rw[gX,hx]at this;cases this
    exact u)
   simp only[go_sem,simprocAttr];refine aj K rfl ?_;by_cases q:(Wk.de s.wick ⟨(v.length:Int),a,b',⟨c,d⟩⟩ x).2=0;rotate_left
   .have E:=O1 q;obtain⟨w,hw⟩:∃w,s.wick.wicks[0]?=some w:=⟨_,bL (by omega)⟩
    have D:(0:Int)<(s.wick.wicks.length:Int):=by omega
    rw[BL (e:=(Wk.de s.wick ⟨(v.length:Int),a,b',⟨c,d⟩⟩ x).2) (by simp only[aH,i,if_neg j,gX,hx,if_pos q]),Ei,i,if_neg j,hw];simp only[E,D,hw,xp,go_sem,simprocAttr]
   have F:=B8 q;obtain⟨k,I⟩:=na F.1;have A:k<s.wick.wicks.length:=by have:=F.2;omega
   obtain⟨w,hw⟩:∃w,s.wick.wicks[k]?=some w:=⟨_,bL A⟩
   have C:(k:Int)<(s.wick.wicks.length:Int):=by omega
   rw[Mf (b:=b) (w:=bl w.name) (by simp only[aH,i,if_neg j,gX,hx,if_neg (not_not_intro q),I,hw])];simp[q,I,C,hw,xp,go_sem]
def KF(s:ChShop)(w)(C:(aJ s.blend w).2.2=0){h}{args}(K)(z:ib (aQ (λi=>!K i) h) args=some [dg s.blend,w.pv]) :
  aw TP 203 args h (λl j=>l=.ret (.tuple [.slice h.length (aJ s.blend w).1.length 0 (aJ s.blend w).1.length,.p (.int .i64 (aJ s.blend w).2.1),.p (.int .i64 0)])/\j=aQ K h++[.row 1 (lI (aJ s.blend w).1)]):=
 CW K z (pargs:=[dg s.blend,w.pv]) ⟨.refl _,.refl _,trivial⟩ (λl h' v=>by
  obtain⟨e,A,u⟩:=v;have g:h'.getD e .dead=.row 1 (lI (aJ s.blend w).1):=by rw[da,u];rfl
  refine⟨[e],_,A,by simp,?_,?_,?_,?_,?_⟩
  .intro i hi;rw[dW]at hi;subst hi;exact(aC.1 u).1
  .simp only[bf,bx,g,mvRow]
   congr 2
   rw[lI,g8];rfl
  .intro i hi;rw[dW]at hi;subst hi;rw[g];intro x hx;obtain⟨y,_,rfl⟩:=cA.1 hx;trivial
  .intro c q;simp only[br,dP,or_false]at q;rcases q with rfl|rfl|rfl
   .show e∈[e];simp
   .trivial
   .trivial
  .simp[mvT,iL,pickN]) (IC s.blend w C)
def JR{P}{H}{Q}{x}{A}(live)(i sz s)(xs ys)(hi:A.bs<=i)(F:A.bs<=A.h.length)(hx:A.h[i]?=some (.row s xs))(u:ys.length=xs.length)
  (l:∀(n:Nat) (x y),xs[n]?=some x->ys[n]?=some y->tG A.h.length x y)
  (D:∀t,t∈live->below A.h.length (A.tmps t)) (C:∀o,o∈A.h->bB A.h.length o) (E:A.df=[])
  (k:@W ⟨P,H,.loop x,Q⟩ { n:=A.n,bs:=A.bs,rc:=A.rc,tmps:=cM (bP A.tmps live []),h:=A.h.set i (.row s ys)++[.row sz []],df:=A.df }):@W ⟨P,H,.loop x,Q⟩ A:=by
 have q:i<A.h.length:=(aC.1 hx).1
 have hw:=pK (P:=P) (A:={ A with h:=A.h++[.row sz []] }) (T:=cM (bP A.tmps live [])) A.h.length i sz s xs ys F hi (by simp) (by omega)
  (by rw[bJ q];exact hx) u l (λt=>by
   rcases n6 (T:=A.tmps) live t with⟨v,G⟩|v
   .exact .inl ⟨v,vv (D t G)⟩
   .exact .inr v) (λid o I j=>by
   have z:id<A.h.length:=by
    have:=(aC.1 j).1;simp at this;omega
   rw[bJ z]at j
   exact uv (C o (aB j))) E
 have e:((A.h++[AObj.row sz []]).set A.h.length (.row sz [])).set i (.row s ys)=A.h.set i (.row s ys)++[.row sz []]:=by
  rw[ra _ _ (ba _),ud];show (A.h++[AObj.row sz []]).set i _=_;rw[ue _ _ q]
 refine eR (wk sz) (eR hw ?_);dsimp only;rw[e];exact k
def TH(s:ChShop)(w)(l:(aJ s.blend w).2.2=0){H}{Q}{ops}{rest}{dst}{A}{args}{h'}
  (K) (n) (j:ib (aQ (λi=>!K i) A.h) args=some [dg s.blend,w.pv]) (e:A.h.length=n) (hh:aQ K A.h++[.row 1 (lI (aJ s.blend w).1)]=h')
  (k:@WO ⟨TP,H,ops,rest,Q⟩ (A.put dst (.tuple [.slice n (aJ s.blend w).1.length 0 (aJ s.blend w).1.length,.p (.int .i64 (aJ s.blend w).2.1),.p (.int .i64 0)]) h')):@WF ⟨TP,H,ops,rest,Q,dst⟩ A 203 args:=by
 subst e;subst hh;exact cw (KF s w l K j) k
def Pz:∀l,l≠[]->ea l=32::joinL (l.map aX)
 |[],h=>absurd rfl h
 |x::t,_=>by rw[bf,sI];simp[ea]
def TG{P}{H}{Q}{ops}{rest}{dst}{A}{f}{args}{pargs}{v}{h'}(e:af P f pargs v)(K)
  (j:ib (aQ (λi=>!K i) A.h) args=some pargs) (hh:aQ K A.h=h') (k:@WO ⟨P,H,ops,rest,Q⟩ (A.put dst (.p v) h')):@WF ⟨P,H,ops,rest,Q,dst⟩ A f args:=by
 subst hh;exact cw (wZ K e j) k
def xE (n:Nat):List AV:=List.replicate n (.p mU)
def NT(s)(b)(O:SOk s)(a b' c):af TP 119 [s.pv,(bp (.blend a b' c)).pv] (EI [] (aH s b (.blend a b' c))):=by
 have U:=Ri O.blend;refine ae (ag Tryz.func119 rfl) rfl ?_;simp only[bp,Said.pv,aN,go_sem,simprocAttr];refine JR (8::[2,7]) 2 2 5 _ [.agg [.slice 3 0 0 0,.p (.int .i64 a),.p (.int .i64 b'),.p (.int .i64 0),.p (.int .i64 c)]] (by show 0<=2;decide) (by show 0<=3;decide) rfl rfl (pW rfl rfl ⟨.inr ⟨rfl,rfl⟩,.inl rfl,.inl rfl,.inl rfl,.inl rfl,trivial⟩) ?_ ?_ rfl ?_
 .simp[go_sem]
 .simp[go_sem]
 refine zm ?_;refine aG [2,7] s.blend (by omega) (τ:=Unit) (λ_ _ _=>True) (λd _=>[(8,.p (.int .i64 d.length))]) (λd _=>[.row 17 [.p s.pv],.row 4 [.p (bp (.blend a b' c)).pv],.row 5 [.agg [.slice 3 d.length 0 d.length,.p (.int .i64 a),.p (.int .i64 b'),.p (.int .i64 0),.p (.int .i64 c)]],.row 2 (xE d.length)]) () trivial ?_ ?_ ?_
 .simp[bS,bp,Said.pv,aN,xE,GQ,go_sem]
 .intro _ _;have u:¬((s.blend.length:Int)<(s.blend.length:Int)):=by omega
  refine zo u decide_false ?_;have A:∀n h,aE (bi n h) (xE s.blend.length)=some (List.replicate s.blend.length mU):=λn h=>by rw[xE,<-List.map_replicate (f:=AV.p)];simpa using aW (bH n h) id (List.replicate s.blend.length mU)
  have z:List.take s.blend.length (List.replicate s.blend.length mU)=List.replicate s.blend.length mU:=dt (by simp);have j:(xE s.blend.length).length=s.blend.length:=by simp[xE]
  by_cases y:(aJ s.blend (e6 s a b' c)).2.2=0;rotate_left
  .have L:((aJ s.blend (e6 s a b' c)).2.2 != 0)=true:=by simpa using y
   rw[BL (e:=(aJ s.blend (e6 s a b' c)).2.2) (by simp only[aH,if_pos y])];refine TG (Jf s.blend (e6 s a b' c)) (λi=>i==3) ?_ rfl ?_
   .rw[DJ];simp[aQ,List.mapIdx_cons,List.mapIdx_nil,A,z,j,dg,go_sem]
   simp only[aQ,List.mapIdx_cons,List.mapIdx_nil,nO,L,go_sem,simprocAttr];rfl
  have K:¬(aJ s.blend (e6 s a b' c)).2.2≠0:=λh=>h y;obtain⟨⟨c1,T⟩,S⟩:=AG y;rw[Mf (b:=b) (w:=joinL ((aJ s.blend (e6 s a b' c)).1.map aX++[aX (aJ s.blend (e6 s a b' c)).2.1])) (by simp only[aH,if_neg K])];refine TH s (e6 s a b' c) y (λi=>i==3) 4 ?_ rfl rfl ?_
  .rw[DJ];simp[aQ,List.mapIdx_cons,List.mapIdx_nil,A,z,j,dg,go_sem]
  generalize (aJ s.blend (e6 s a b' c)).1=R at *
  generalize (aJ s.blend (e6 s a b' c)).2.1=m at *
  have l:R.length+1<=ai:=by simp only[ai];omega
  have F:∀n,n∈R++[m]->0<=n/\n<1000000000:=λn v=>by
   rcases cn.1 v with v|v
   .exact T n v
   .rw[dW]at v;subst v;exact S
  have E:=mf (R++[m]) false (by simp;omega) F;have q:=Pz (R++[m]) (by simp);rw[aS,bf,bx]at q;simp only[aQ,List.mapIdx_cons,List.mapIdx_nil,zN,l,go_sem,simprocAttr];refine bq E ?_ (.str _) ?_
  .have G:∀n h,aE (bi n h) (lI R++[.p (.int .i64 m)])=some ((R++[m]).map ay):=λn h=>by
    rw[show lI R++[AV.p (.int .i64 m)]=lI (R++[m]) by simp[lI,ay]];exact IH n h _
   simp only[G,ak,zN,aK,go_sem,simprocAttr];rw[dt (by simp)]
  have N:(1:Int)<=(((bs (ea (R++[m]))).size:Nat):Int):=by rw[q,al,bc];omega
  have I:(bs (ea (R++[m]))).extract 1 (bs (ea (R++[m]))).size=bs (joinL (R.map aX++[aX m])):=by
   rw[dF,al,nS,q];rfl
  simp[N,I,go_sem]
 .intro d x r _ M _ hx u D;have J:=congrArg List.length M;rw[ak,bc]at J;have l:d.length+1<=ai:=by simp only[ai];omega
  have j:(xE d.length).length=d.length:=by simp[xE]
  have C:xE d.length++[AV.p (.agg [.int .i64 0,.int .i64 20])]=xE (d.length+1):=by rw[xE,xE,List.replicate_succ'];rfl
  refine t_ u decide_true l j C ?_;refine am (Inv:=λ_ _ _=>True) M () trivial ?_;simp only[D,ak,aK,bp,Said.pv,aN,go_sem,simprocAttr];intro x hx;rw[List.eq_of_mem_replicate hx];trivial
def Xh{P}{H}{c}{Q}{A}(live)(h')(l:List Nat)(r:List Nat)(n)(q:A.h.length=n)(v:(List.range n).all (λi=>decide (l.getD i 0<n)&&decide (r.getD (l.getD i 0) 0=i)&&decide (r.getD i 0<n)&&decide (l.getD (r.getD i 0) 0=i))=true)
  (D:A.bs=0) (C:A.df=[]) (y:A.h.all GV=true) (hh:h'=(List.range n).map λj=>Ly (λi=>l.getD i 0) (A.h.getD (r.getD j 0) .dead)) (z:∀t,t∈live->wr (A.tmps t)=true)
  (k:SW P H c Q { n:=A.n,bs:=A.bs,rc:=A.rc,tmps:=cM (bP (λt=>m5 (λi=>l.getD i 0) (A.tmps t)) live []),h:=h',df:=A.df }):SW P H c Q A:=by
 have e:∀i,i<n->(l.getD i 0<n/\r.getD (l.getD i 0) 0=i)/\r.getD i 0<n/\l.getD (r.getD i 0) 0=i:=λi hi=>by
  have:=kl.1 v i (sq.2 hi);simp only[eI,decide_eq_true_eq]at this;exact⟨⟨this.1.1.1,this.1.1.2⟩,this.1.2,this.2⟩
 refine vR (EU (λi=>l.getD i 0) (λi=>r.getD i 0) (by rw[q];exact λi hi=>(e i hi).1) (by rw[q];exact λi hi=>(e i hi).2) D C (kl.1 y) (by rw[q];exact hh) (λt=>?_)) k;rcases pn (T:=λt=>m5 (λi=>l.getD i 0) (A.tmps t)) live t with⟨u,E⟩|u
 .exact .inl ⟨u,z t E⟩
 .exact .inr u
def TZ(b):∀o,o∈B4 b->bB (B4 b).length o:=by
 intro o e;simp only[B4,br,dP,or_false]at e;rcases e with rfl|rfl|rfl|rfl<;>intro x hx<;>obtain⟨y,_,rfl⟩:=cA.1 hx<;>trivial
def Yb{f}{args}{v}(b)(h:aw TP f args (B4 b) (λr h'=>r=.ret (.p v)/\h'=List.replicate 4 .dead))(e:∀a,a∈args->below (B4 b).length a)(t) :
  aw TP f args (B4 b++t) (λr h'=>r=.ret (.p v)/\h'=.dead::.dead::.dead::.dead::t):=
 (iR (TZ b) e (h.mono λr h' i=>⟨by rw[i.2];rfl,i⟩) t).mono λr u i=>by
  obtain⟨h',j,_,q,l⟩:=i;rw[l]at j;exact⟨q,j⟩
def lO{H}{Q}{ops}{rest}{dst}{A}{f}{args args'}{v}(b)
  (h:aw TP f args' (B4 b) (λr h'=>r=.ret (.p v)/\h'=List.replicate 4 .dead)) (e:∀a,a∈args'->below (B4 b).length a) (hx:args=args') (i:A.h.take 4=B4 b)
  (k:@WO ⟨TP,H,ops,rest,Q⟩ (A.put dst (.p v) (.dead::.dead::.dead::.dead::A.h.drop 4))):@WF ⟨TP,H,ops,rest,Q,dst⟩ A f args:=by
 subst hx;have:=Yb b h e (A.h.drop 4);rw[<-i,ja]at this;exact cw this k
def wB:∀{ws} {rs},cV ws=some rs->rs.length=ws.length
 |[],rs,h=>by cases h;rfl
 |w::r,rs,h=>by
  unfold cV at h;split at h
  .simp only[bg]at h;obtain⟨q,e,rfl⟩:=h;simp[wB e]
  .split at h
   .simp only[bg]at h;obtain⟨q,e,rfl⟩:=h;simp[wB e]
   .cases h
def wq(c):∀l,(aA c l).length<=l.length+1
 |[]=>ba _
 |x::r=>by
  have e:=wq c r;unfold aA;split
  .simp;omega
  .split
   .simp
   .rename_i h;rw[h]at e;simp at e |-;omega
def UC (n:Nat):Cmd->Prop
 |.lot _ _ _ rs=>rs.length<n
 |_=>True
def U1{v}{ws}{c}(h:dL v ws=some c):UC ws.length c:=by
 unfold dL at h;split at h
 .split at h
  .split at h
   .rename_i e;cases h;have:=wB e;simp only[UC,bc];omega
   .cases h
  .cases h
 split at h
 .split at h
  .split at h
   .cases h;trivial
   .cases h
  .cases h
 split at h
 .split at h
  .simp only[bg]at h;obtain⟨_,_,rfl⟩:=h;trivial
  .cases h
 split at h
 .split at h
  .simp only[bg]at h;obtain⟨_,_,rfl⟩:=h;trivial
  .cases h
 split at h
 .split at h
  .simp only[bg]at h;obtain⟨_,_,rfl⟩:=h;trivial
  .cases h
 split at h
 .split at h
  .simp only[bg]at h;obtain⟨_,_,rfl⟩:=h;trivial
  .cases h
 split at h
 .split at h
  .split at h
   .cases h;trivial
   .cases h
  .cases h
 split at h
 .split at h
  .cases h;trivial
  .cases h
 split at h
 .split at h
  .split at h
   .cases h;trivial
   .cases h
  .cases h
 split at h
 .split at h
  .split at h
   .cases h;trivial
   .cases h
  .cases h
 split at h
 .split at h
  .cases h;trivial
  .cases h
 .cases h
def Pb{l}{j q}{g}{rs}(h:gc l=.ok (.lot j q g rs)):rs.length<1000000000:=by
 unfold gc at h;split at h
 .cases h
 rename_i y;split at h
 .cases h
 split at h
 .cases h
 .rename_i v ws i;have e:=wq 32 l;rw[i]at e;split at h
  .rename_i c u;cases h;have:rs.length<ws.length:=U1 u;simp at e;omega
  .cases h
def JK{s}{b e}{k}{a b' c d}{w}(h:aH s b (.wick k a b' c d)=.ok (e,w)):e=b:=by
 simp only[aH]at h;split at h
 .cases h
 split at h
 .cases h
 split at h
 .cases h
 split at h
 .cases h
 .cases h;rfl
def Gf{s}{b e}{a b' c}{w}(h:aH s b (.blend a b' c)=.ok (e,w)):e=b:=by
 simp only[aH]at h;split at h
 .cases h
 .cases h;rfl
def z6 (s:ChShop) (b:ChBooks) (l:List UInt8):PV:=match gc l with|.error e=>.tuple [b.pv,.str .empty,.int .i64 e]|.ok c=>jJ s b c
def UZ{l}{e}(h:gc l=.error e):e=3\/e=6:=by
 unfold gc at h;split at h
 .cases h;exact .inl rfl
 .split at h
  .cases h
  .split at h
   .cases h;exact .inr rfl
   .split at h
    .cases h
    .cases h;exact .inr rfl
def VF(b)(t)(v):ib (B4 b++t) [.p v,bA b]=some [v,b.pv]:=by
 have q:∀n h (l:List ChLot),aE (bi n h) (l.map dI)=some (l.map ChLot.pv):=λn h l=>aW (bH n h) ChLot.pv l;have j:∀n h (l:List ChBatch),aE (bi n h) (l.map bD)=some (l.map ChBatch.pv):=λn h l=>aW (bH n h) ChBatch.pv l;have i:∀n h (l:List HrTest),aE (bi n h) (l.map er)=some (l.map HrTest.pv):=λn h l=>aW (bH n h) HrTest.pv l;have e:∀n h (l:List HrBox),aE (bi n h) (l.map jK)=some (l.map HrBox.pv):=λn h l=>aW (bH n h) HrBox.pv l;simp[q,j,i,e,ChBooks.pv,go_sem]
def uD(b)(v w):∀a,a∈[AV.p v,bA b,.p w]->below (B4 b).length a:=by
 intro a i;simp only[br,dP,or_false]at i;rcases i with rfl|rfl|rfl
 .trivial
 .intro c e;simp only[br,dP,or_false]at e;rcases e with rfl|rfl|rfl|rfl|rfl|rfl<;>first|trivial|(show _<4;decide)
 .trivial
def zaI(b)(w):∀a,a∈[bA b,.p w]->below (B4 b).length a:=λa e=>uD b w w a (wd _ e)
def kN{hh}{x}{v}(h:x=.p v):∃i e,x=i/\bi 8 hh i=some e/\qt e v:=by
 subst h;exact⟨_,_,rfl,bH _ _ _,pk⟩
def Xy:(bs p7==(⟨#[108,111,116]⟩:ByteArray))=true:=by and_intros<;>rfl
def RP:(bs j2==(⟨#[108,111,116]⟩:ByteArray))=false/\(bs j2==(⟨#[98,97,116,99,104]⟩:ByteArray))=true:=by and_intros<;>rfl
def UM:(bs lg==(⟨#[108,111,116]⟩:ByteArray))=false/\(bs lg==(⟨#[98,97,116,99,104]⟩:ByteArray))=false/\(bs lg==(⟨#[100,114,111,112]⟩:ByteArray))=true:=by and_intros<;>rfl
def UK:(bs l9==(⟨#[108,111,116]⟩:ByteArray))=false/\(bs l9==(⟨#[98,97,116,99,104]⟩:ByteArray))=false/\(bs l9==(⟨#[100,114,111,112]⟩:ByteArray))=false/\(bs l9==(⟨#[112,108,97,110]⟩:ByteArray))=true:=by and_intros<;>rfl
def UJ:(bs jF==(⟨#[108,111,116]⟩:ByteArray))=false/\(bs jF==(⟨#[98,97,116,99,104]⟩:ByteArray))=false/\(bs jF==(⟨#[100,114,111,112]⟩:ByteArray))=false/\(bs jF==(⟨#[112,108,97,110]⟩:ByteArray))=false/\(bs jF==(⟨#[112,111,117,114]⟩:ByteArray))=true:=by and_intros<;>rfl
def UI:(bs gF==(⟨#[108,111,116]⟩:ByteArray))=false/\(bs gF==(⟨#[98,97,116,99,104]⟩:ByteArray))=false/\(bs gF==(⟨#[100,114,111,112]⟩:ByteArray))=false/\(bs gF==(⟨#[112,108,97,110]⟩:ByteArray))=false/\(bs gF==(⟨#[112,111,117,114]⟩:ByteArray))=false/\(bs gF==(⟨#[116,101,115,116]⟩:ByteArray))=true:=by and_intros<;>rfl
def MG:(bs fj==(⟨#[108,111,116]⟩:ByteArray))=false/\(bs fj==(⟨#[98,97,116,99,104]⟩:ByteArray))=false/\(bs fj==(⟨#[100,114,111,112]⟩:ByteArray))=false/\(bs fj==(⟨#[112,108,97,110]⟩:ByteArray))=false/\(bs fj==(⟨#[112,111,117,114]⟩:ByteArray))=false/\(bs fj==(⟨#[116,101,115,116]⟩:ByteArray))=false/\(bs fj==(⟨#[112,114,111,109,105,115,101]⟩:ByteArray))=true:=by and_intros<;>rfl
def Xz:(bs kn==(⟨#[108,111,116]⟩:ByteArray))=false/\(bs kn==(⟨#[98,97,116,99,104]⟩:ByteArray))=false/\(bs kn==(⟨#[100,114,111,112]⟩:ByteArray))=false/\(bs kn==(⟨#[112,108,97,110]⟩:ByteArray))=false/\(bs kn==(⟨#[112,111,117,114]⟩:ByteArray))=false/\(bs kn==(⟨#[116,101,115,116]⟩:ByteArray))=false/\(bs kn==(⟨#[112,114,111,109,105,115,101]⟩:ByteArray))=false/\(bs kn==(⟨#[98,111,120]⟩:ByteArray))=true:=by and_intros<;>rfl
def UL:(bs jG==(⟨#[108,111,116]⟩:ByteArray))=false/\(bs jG==(⟨#[98,97,116,99,104]⟩:ByteArray))=false/\(bs jG==(⟨#[100,114,111,112]⟩:ByteArray))=false/\(bs jG==(⟨#[112,108,97,110]⟩:ByteArray))=false/\(bs jG==(⟨#[112,111,117,114]⟩:ByteArray))=false/\(bs jG==(⟨#[116,101,115,116]⟩:ByteArray))=false/\(bs jG==(⟨#[112,114,111,109,105,115,101]⟩:ByteArray))=false/\(bs jG==(⟨#[98,111,120]⟩:ByteArray))=false/\(bs jG==(⟨#[108,111,111,107]⟩:ByteArray))=true:=by and_intros<;>rfl
def UH:(bs ji==(⟨#[108,111,116]⟩:ByteArray))=false/\(bs ji==(⟨#[98,97,116,99,104]⟩:ByteArray))=false/\(bs ji==(⟨#[100,114,111,112]⟩:ByteArray))=false/\(bs ji==(⟨#[112,108,97,110]⟩:ByteArray))=false/\(bs ji==(⟨#[112,111,117,114]⟩:ByteArray))=false/\(bs ji==(⟨#[116,101,115,116]⟩:ByteArray))=false/\(bs ji==(⟨#[112,114,111,109,105,115,101]⟩:ByteArray))=false/\(bs ji==(⟨#[98,111,120]⟩:ByteArray))=false/\(bs ji==(⟨#[108,111,111,107]⟩:ByteArray))=false/\(bs ji==(⟨#[119,105,99,107]⟩:ByteArray))=true:=by and_intros<;>rfl
def RO:(bs gj==(⟨#[108,111,116]⟩:ByteArray))=false/\(bs gj==(⟨#[98,97,116,99,104]⟩:ByteArray))=false/\(bs gj==(⟨#[100,114,111,112]⟩:ByteArray))=false/\(bs gj==(⟨#[112,108,97,110]⟩:ByteArray))=false/\(bs gj==(⟨#[112,111,117,114]⟩:ByteArray))=false/\(bs gj==(⟨#[116,101,115,116]⟩:ByteArray))=false/\(bs gj==(⟨#[112,114,111,109,105,115,101]⟩:ByteArray))=false/\(bs gj==(⟨#[98,111,120]⟩:ByteArray))=false/\(bs gj==(⟨#[108,111,111,107]⟩:ByteArray))=false/\(bs gj==(⟨#[119,105,99,107]⟩:ByteArray))=false/\(bs gj==(⟨#[98,108,101,110,100]⟩:ByteArray))=true:=by and_intros<;>rfl
def RN:(bs gi==(⟨#[108,111,116]⟩:ByteArray))=false/\(bs gi==(⟨#[98,97,116,99,104]⟩:ByteArray))=false/\(bs gi==(⟨#[100,114,111,112]⟩:ByteArray))=false/\(bs gi==(⟨#[112,108,97,110]⟩:ByteArray))=false/\(bs gi==(⟨#[112,111,117,114]⟩:ByteArray))=false/\(bs gi==(⟨#[116,101,115,116]⟩:ByteArray))=false/\(bs gi==(⟨#[112,114,111,109,105,115,101]⟩:ByteArray))=false/\(bs gi==(⟨#[98,111,120]⟩:ByteArray))=false/\(bs gi==(⟨#[108,111,111,107]⟩:ByteArray))=false/\(bs gi==(⟨#[119,105,99,107]⟩:ByteArray))=false/\(bs gi==(⟨#[98,108,101,110,100]⟩:ByteArray))=false:=by and_intros<;>rfl
def L7(s)(b)(n)(y:SOk s)(u:BkOk s b n)(hi:BkIn b)(l):af TP 50 [s.pv,b.pv,.str (bs l)] (z6 s b l):=by
 have F:∀x,x∈b.lots->x.readings.length<=ai:=λx hx=>by have:=hi.reads x hx;simp only[ai];omega
 have D:∀x,x∈b.tests->x.marks.length<=ai:=λx hx=>by have:=hi.marks x hx;simp only[ai];omega
 refine vn ?_;refine tK (ag Tryz.func50 rfl) rfl ?_;refine gP cH (zm ?_);refine gP cH (zm ?_);refine cZ (Qe s.pv b fQ n s u F D) (λv h C=>?_) (λv h C=>by cases C.1);obtain⟨e,N,M,L,rfl⟩:=C;cases e;simp only[fQ,go_sem,simprocAttr];refine gP cH (zm ?_);refine aa (NP l) rfl ?_;unfold z6
 cases A:gc l with
 |error e=>
  have G:(e != 0)=true:=by rcases UZ A with rfl|rfl<;>rfl
  simp only[yd,A,ly,Said.pv,aN,go_sem,simprocAttr];refine lS cH (zn G ?_)
  exact⟨_,_,rfl,by refine zm ?_;rfl,pk⟩
 |ok c=>
  simp only[yd,A,Said.pv,aN,go_sem,simprocAttr];refine Rx (λi=>i==3||i==4||i==5) [3,6,7,8,9,10,11] [] _ rfl rfl (λp J=>by cases J) ?_;simp only[aQ,List.mapIdx_cons,List.mapIdx_nil,go_sem,simprocAttr];refine Xh [3,6,7,8,9,10,11] (B4 b++[.row 17 [.p s.pv],.row 6 [.p b.pv],.row 6 [.p fQ],.dead,.dead,.dead,.row 6 [bA b],.row 4 [.p (bp c).pv]]) [4,5,6,7,8,9,0,1,2,3,10,11] [6,7,8,9,0,1,2,3,4,5,10,11] 12 rfl rfl rfl rfl ?_ ?_ ?_ ?_
  .simp[GV,wr,ul,dI,bD,er,jK]
  .rw[show List.range 12=[0,1,2,3,4,5,6,7,8,9,10,11] from rfl];simp[B4,bA,Ly,m5,iL,dI,bD,er,jK,fQ,Said.pv,aN,ChShop.pv,ChBooks.pv,ChShop.cells,ChBooks.cells,dg]
  .intro t I;simp only[br,dP,or_false]at I;rcases I with rfl|rfl|rfl|rfl|rfl|rfl|rfl<;>rfl
  refine lS cH ?_;cases c
  case lot nm kd g rs=>
   have E:rs.length<1000000000:=Pb A;simp only[m5,iL,List.getD_cons_succ,List.getD_cons_zero,fQ,bp,Said.pv,aN,Xy,go_sem,simprocAttr];refine lO b (Qf s b n y u nm kd g rs E) (uD b _ _) (by rfl) (by rfl) ?_;unfold jJ mb lB
   cases j:aH s b (.lot nm kd g rs) with
   |error e=>simp only[ChBooks.pv,go_sem,simprocAttr];exact kN rfl
   |ok q=>simp only[ChBooks.pv,go_sem,simprocAttr];exact kN rfl
  case batch nm cl lt g=>
   simp only[m5,iL,List.getD_cons_succ,List.getD_cons_zero,fQ,bp,Said.pv,aN,RP,go_sem,simprocAttr];refine lO b (Nv s b n y u nm cl lt g) (uD b _ _) (by rfl) (by rfl) ?_;unfold jJ mb lB
   cases j:aH s b (.batch nm cl lt g) with
   |error e=>simp only[ChBooks.pv,go_sem,simprocAttr];exact kN rfl
   |ok q=>simp only[ChBooks.pv,go_sem,simprocAttr];exact kN rfl
  case drop nm=>
   simp only[m5,iL,List.getD_cons_succ,List.getD_cons_zero,fQ,bp,Said.pv,aN,UM,go_sem,simprocAttr];refine lO b (Nw s b n u nm) (zaI b _) (by rfl) (by rfl) ?_;unfold jJ mb lB
   cases j:aH s b (.drop nm) with
   |error e=>simp only[ChBooks.pv,go_sem,simprocAttr];exact kN rfl
   |ok q=>simp only[ChBooks.pv,go_sem,simprocAttr];exact kN rfl
  case plan c=>
   simp only[m5,iL,List.getD_cons_succ,List.getD_cons_zero,fQ,bp,Said.pv,aN,UK,go_sem,simprocAttr];refine lO b (Vx s b n y u c) (uD b _ _) (by rfl) (by rfl) ?_;unfold jJ mb lB
   cases j:aH s b (.plan c) with
   |error e=>simp only[ChBooks.pv,go_sem,simprocAttr];exact kN rfl
   |ok q=>simp only[ChBooks.pv,go_sem,simprocAttr];exact kN rfl
  case pour c=>
   simp only[m5,iL,List.getD_cons_succ,List.getD_cons_zero,fQ,bp,Said.pv,aN,UJ,go_sem,simprocAttr];refine lO b (Vw s b n y u c) (uD b _ _) (by rfl) (by rfl) ?_;unfold jJ mb lB
   cases j:aH s b (.pour c) with
   |error e=>simp only[ChBooks.pv,go_sem,simprocAttr];exact kN rfl
   |ok q=>simp only[ChBooks.pv,go_sem,simprocAttr];exact kN rfl
  case test t=>
   simp only[m5,iL,List.getD_cons_succ,List.getD_cons_zero,fQ,bp,Said.pv,aN,UI,go_sem,simprocAttr];refine lO b (Vv s b n y u t) (uD b _ _) (by rfl) (by rfl) ?_;unfold jJ mb lB
   cases j:aH s b (.test t) with
   |error e=>simp only[ChBooks.pv,go_sem,simprocAttr];exact kN rfl
   |ok q=>simp only[ChBooks.pv,go_sem,simprocAttr];exact kN rfl
  case promise k=>
   simp only[m5,iL,List.getD_cons_succ,List.getD_cons_zero,fQ,bp,Said.pv,aN,MG,go_sem,simprocAttr];refine lO b (Nu s b n y u k) (uD b _ _) (by rfl) (by rfl) ?_;unfold jJ lB
   cases j:aH s b (.promise k) with
   |error e=>simp only[ChBooks.pv,go_sem,simprocAttr];exact kN rfl
   |ok q=>simp only[ChBooks.pv,go_sem,simprocAttr];exact kN rfl
  case box k h=>
   simp only[m5,iL,List.getD_cons_succ,List.getD_cons_zero,fQ,bp,Said.pv,aN,Xz,go_sem,simprocAttr];refine lO b (X4 s b n y u k h) (uD b _ _) (by rfl) (by rfl) ?_;unfold jJ lB
   cases j:aH s b (.box k h) with
   |error e=>simp only[ChBooks.pv,go_sem,simprocAttr];exact kN rfl
   |ok q=>simp only[ChBooks.pv,go_sem,simprocAttr];exact kN rfl
  case look=>
   simp only[m5,iL,List.getD_cons_succ,List.getD_cons_zero,fQ,bp,Said.pv,aN,UL,go_sem,simprocAttr];refine pC (QJ s b n u) (VF b [_,_,_,_,_,_,_,_] _) (.str _) (zm ?_);exact s8 (b':=b) [] rfl rfl rfl
  case wick k a b' c d=>
   simp only[m5,iL,List.getD_cons_succ,List.getD_cons_zero,fQ,bp,Said.pv,aN,UH,go_sem,simprocAttr];refine aa (QH s b y k a b' c d) rfl ?_;unfold EI
   cases j:aH s b (.wick k a b' c d) with
   |error e=>refine zm ?_;rw[jJ];exact uy _ e j rfl rfl
   |ok q=>
    obtain⟨K,w⟩:=q;have z:=JK j;subst z;refine zm ?_;rw[jJ];exact s8 _ j rfl rfl
  case blend a b' c=>
   simp only[m5,iL,List.getD_cons_succ,List.getD_cons_zero,fQ,bp,Said.pv,aN,RO,go_sem,simprocAttr];refine aa (NT s b y a b' c) rfl ?_;unfold EI
   cases j:aH s b (.blend a b' c) with
   |error e=>refine zm ?_;rw[jJ];exact uy _ e j rfl rfl
   |ok q=>
    obtain⟨K,w⟩:=q;have z:=Gf j;subst z;refine zm ?_;rw[jJ];exact s8 _ j rfl rfl
  case stock=>
   simp only[m5,iL,List.getD_cons_succ,List.getD_cons_zero,fQ,bp,Said.pv,aN,RN,go_sem,simprocAttr];refine pC (NR s b n u) (IK b [_,_,_,_,_,_,_,_]) (.str _) (zm ?_);exact s8 (b':=b) [] rfl rfl rfl
end Ch
end Abs
open Go.IntKind (i64)
namespace Abs
namespace Ch
set_option maxRecDepth 4000
def AS{P}{H}{Q}{x}{A}(live)(i s)(cs ds)(h')(hx:A.h[i]?=some (.row s [.p (.agg cs)]))(E:Abs.gO ds=true)(l:vT cs ds)(hh:A.h.set i (.row s [.p (.agg ds)])=h')
  (k:@W ⟨P,H,.loop x,Q⟩ { n:=A.n,bs:=A.bs,rc:=A.rc,tmps:=cM (bP A.tmps live []),h:=h',df:=A.df }):@W ⟨P,H,.loop x,Q⟩ A:=by
 subst hh;have D:aQ (λ_=>false) A.h=A.h:=by
  apply pE;intro j;rw[nG];cases A.h[j]?<;>simp
 have hw:=Ak (P:=P) (A:=A) (T:=cM (bP A.tmps live [])) (λ_=>false) i s [.p (.agg cs)] [.p (.agg ds)] rfl hx rfl (λn a b y F=>by
   cases n with
   |succ n=>simp at y
   |zero=>
    cases y;cases F;refine⟨_,_,rfl,rfl,by have:=l.get.1;simp[PV.cells];omega,λj c d e z=>?_⟩;simp only[PV.cells,cX,bg]at e z;obtain⟨q,C,rfl⟩:=e;obtain⟨v,u,rfl⟩:=z
    exact .inr ⟨q,v,rfl,kl.1 E v (aB u),bH _ _ _,PO (l.get.2 j q v C u)⟩) (λt=>by
  rcases pn (T:=A.tmps) live t with⟨e,_⟩|e
  .exact .inl e
  grind)
 rw[D]at hw;exact eR hw k
def FM{s}{b}{l}{e}(h:ey s b l=.error e):∃a,z6 s b l=.tuple [b.pv,.str a,.int .i64 e]:=by
 unfold ey at h;unfold z6;split at h
 .simp_all
 .rename_i c i;rw[i];split at h
  .rename_i j;cases h;exact⟨_,by simp only[jJ,j,lB];rfl⟩
  .cases h
def BA{s}{b b'}{l a}{w}(h:ey s b l=.ok (b',a,w)):z6 s b l=.tuple [b'.pv,.str (bs a),.int .i64 0]/\∃c,gc l=.ok c/\yd l=(bp c,0)/\w=c.written/\aH s b c=.ok (b',a):=by
 unfold ey at h;split at h
 .cases h
 .rename_i c e;split at h
  .cases h
  .rename_i i;cases h;exact⟨by simp only[z6,e,jJ,i,lB],c,e,by simp only[yd,e],rfl,i⟩
def mK (s:ChShop) (ls:List (List UInt8)):PV:=
 if be s ls=0 then .tuple [(bh s ls).1.pv,aN (bh s ls).2.1,aN (bh s ls).2.2,.int .i64 0]
 else .tuple [fQ,.nilslice,.nilslice,.int .i64 (be s ls)]
def Ep(s)(i):af TP 31 [s.pv,aN i] (mK s i):=by
 refine bF (dv (by kernel_rfl) rfl za7) rfl ?_;simp only[H31,go_sem,simprocAttr];refine aa (u5 s) rfl ?_;simp only[ao,aN,go_sem,simprocAttr];by_cases y:(bu s).2.2=0;rotate_left
 .have V:((bu s).2.2==0)=false:=by simpa using y
  have U:((bu s).2.2 != 0)=true:=by simpa using y
  have D:be s i=(bu s).2.2:=by rw[be,if_neg y]
  simp[V,U,mK,D,if_neg y,fQ,go_sem]
 by_cases J:40<i.length
 .have E:decide ((40:Int)<(i.length:Int))=true:=decide_eq_true (by omega);have D:be s i=3:=by rw[be,if_pos y,if_pos J]
  simp[y,E,mK,D,fQ,go_sem]
 have E:decide ((40:Int)<(i.length:Int))=false:=decide_eq_false (by omega);have D:be s i=0:=by rw[be,if_pos y,if_neg J]
 have N:=tr y;have hl:i.length<1000000000:=by omega
 refine zo y E ?_;refine bt 12 1 (by simp only[go_sem,simprocAttr]) (zm ?_);refine bt 13 1 (by simp only[go_sem,simprocAttr]) (zm ?_);refine AS (12::13::14::[1,2,4,11]) 2 6 [.nilslice,.nilslice,.nilslice,.nilslice,.int .i64 0,.int .i64 0] [.slice 4 [] false,.slice 4 [] false,.slice 3 [] false,.slice 2 [] false,.int .i64 0,.int .i64 0] _ rfl rfl ⟨.nil _,.nil _,.nil _,.nil _,.refl _,.refl _,trivial⟩ rfl (zm ?_);have K:∀d,(bh s d).2.1.length=d.length/\(bh s d).2.2.length<=d.length:=λd=>vi s d;have X:∀d:List (List UInt8),d.length<=40->BkOk s (bh s d).1 d.length:=λd E=>HC N E
 refine aG [1,2,4,11] i hl (τ:=Unit) (λd_ rest _=>True) (λd_ _=>[(12,.slice 3 (bh s d_).2.1.length 0 (bh s d_).2.1.length),(13,.slice 4 (bh s d_).2.2.length 0 (bh s d_).2.2.length),(14,.p (.int .i64 d_.length))])
  (λd_ _=>[.row 17 [.p s.pv],.row 6 [.p fQ],.row 6 [.p (bh s d_).1.pv],.row 1 ((bh s d_).2.1.map ng),.row 1 ((bh s d_).2.2.map ng)]) () trivial ?_ ?_ ?_
 .simp[bh,cK,List.foldl_nil,bS,bx,fQ,ChBooks.pv,go_sem]
 .intro _ _;have j:¬((i.length:Int)<(i.length:Int)):=by omega
  have t1:∀l:List (List UInt8),List.take l.length (l.map λx=>PV.str (bs x))=l.map λx=>PV.str (bs x):=λl=>dt (by simp);simp[j,decide_false,nJ,t1,mK,if_pos D,aN,fQ,ChBooks.pv,go_sem]
 .intro d_ l r _ M _ hx j C;have a0:d_.length+1<=40:=by
   have:=congrArg List.length M;simp at this;omega
  obtain⟨r1,r2⟩:=K d_;have A:bh s (d_++[l])=eP s (bh s d_) l:=by rw[bh,vW];rfl
  have Y:=L7 s (bh s d_).1 d_.length N (X d_ (by omega)) (Pd s d_) l;have v:(bh s d_).2.1.length+1<=ai:=by simp only[ai];omega
  have L:(bh s d_).2.2.length+1<=ai:=by simp only[ai];omega
  refine s_ j decide_true hx @aD ?_;refine aj Y rfl ?_
  cases u:ey s (bh s d_).1 l with
  |error e=>
   obtain⟨a,O⟩:=FM u;have D:=Bz N u;have T:(e != 0)=true:=by rw[bne_iff_ne];omega
   rw[O];have z:eP s (bh s d_) l=((bh s d_).1,(bh s d_).2.1++[joinL [EV,aX e]],(bh s d_).2.2):=by rw[eP,u]
   have I:∀m,m∈[e]->0<=m/\m<1000000000:=λm Z=>by grind
   have S:=mf [e] true (by simp) I;have R:=ny [e] I;have q:2+(bs (ea [e])).size<=aM:=by simp[al,aM]at R |-;omega
   have hj:bs EV++bs (ea [e])=bs (joinL [EV,aX e]):=by rw[cc];simp[ea,joinL]
   simp only[T,ChBooks.pv,go_sem,simprocAttr];refine aa S rfl ?_;simp only[q,v,go_sem,simprocAttr];refine am M () trivial ?_;simp only[C,A,z,ak,aK,aS,bf,bx,ChBooks.pv,go_sem,simprocAttr];show AObj.row 1 (_++[AV.p (PV.str (bs EV++bs (ea [e])))])=_
   rw[hj]
  |ok q=>
   obtain⟨b',a,w⟩:=q;obtain⟨O,c,h1,h2,h3,h4⟩:=BA u;have z:eP s (bh s d_) l=(b',(bh s d_).2.1++[a],if w=true then(bh s d_).2.2++[l] else(bh s d_).2.2):=by rw[eP,u]
   have G:=NP l;rw[h2]at G;have F:=FP (bp c).verb;rw[xT,<-h3]at F;rw[O];simp only[ChBooks.pv,j,hx,go_sem,simprocAttr];refine aa G rfl ?_;simp only[Said.pv,aN,go_sem,simprocAttr];refine aa F rfl ?_;cases w
   .simp only[v,go_sem,simprocAttr];refine am M () trivial ?_;simp only[C,A,z,ak,aK,aS,bf,bx,ChBooks.pv,go_sem,simprocAttr]
   .simp only[v,L,j,hx,go_sem,simprocAttr];refine am M () trivial ?_;simp only[C,A,z,ak,aK,aS,bf,bx,ChBooks.pv,go_sem,simprocAttr]
def zS{x:List UInt8}(h:nameOk (bs x)=true):(47:UInt8)∉x:=by
 unfold nameOk at h;rw[eI]at h;intro e;have:=tH _ _ h.1 47 e;simp at this
def nB{w x:List UInt8}(h:bn w=some x):(47:UInt8)∉w/\x=w:=by
 unfold bn at h;split at h
 .rename_i e;cases h;exact⟨zS e,rfl⟩
 .cases h
def uz(n:Int):(47:UInt8)∉aX n:=by
 intro e;have:=xi n.toNat 47 e;simp at this
def zR{w:List UInt8}{v:Int}(h:bV w=some v):(47:UInt8)∉w:=by
 unfold bV at h;split at h
 .split at h
  .rename_i e;rw[<-e.2.2];exact uz _
  .cases h
 .cases h
def Be:∀{ws:List (List UInt8)} {l:List Int},cV ws=some l->∀w,w∈ws->(47:UInt8)∉w
 |[],_,_,w,hw=>by cases hw
 |x::r,l,h,w,hw=>by
  rw[cV]at h;split at h
  .rename_i hx;obtain⟨i,e,_⟩:=bg.1 h;rcases br.1 hw with rfl|hw
   .rw[hx];decide
   .exact Be e w hw
  .split at h
   .rename_i hx;obtain⟨i,e,_⟩:=bg.1 h;rcases br.1 hw with rfl|hw
    .exact zR hx
    .exact Be e w hw
   .cases h
def A8{a:UInt8}{c:UInt8}(i:a≠c):∀(l:List UInt8),(∀w,w∈aA c l->a∉w)->a∉l
 |[],_=>by simp
 |x::r,h=>by
  unfold aA at h;by_cases hx:x=c
  .rw[if_pos hx]at h;rw[br,not_or];exact⟨λe=>i (e.trans hx),A8 i r λw hw=>h w (wd _ hw)⟩
  .rw[if_neg hx]at h
   cases j:aA c r with
   |nil=>
    have:=lV c r;grind
   |cons b t=>
    rw[j]at h;simp only at h;have q:=h (x::b) (by simp);rw[br,not_or]at q;rw[br,not_or];refine⟨q.1,A8 i r λw hw=>?_⟩;grind
def Pc{v:List UInt8}{ws:List (List UInt8)}{c:Cmd}(h:dL v ws=some c)(hw:c.written=true):∀w,w∈v::ws->(47:UInt8)∉w:=by
 unfold dL at h;split at h
 .rename_i j;split at h
  .split at h
   .rename_i i l u q;cases h;intro w e;simp only[br]at e;rcases e with rfl|rfl|rfl|rfl|e
    .rw[j];decide
    .exact(nB i).1
    .exact(nB l).1
    .exact zR u
    .exact Be q w e
   .cases h
  .cases h
 split at h
 .rename_i j;split at h
  .split at h
   .rename_i i l u q;cases h;intro w e;simp only[br,dP,or_false]at e;rcases e with rfl|rfl|rfl|rfl|rfl
    .rw[j];decide
    .exact(nB i).1
    .exact(nB l).1
    .exact(nB u).1
    .exact zR q
   .cases h
  .cases h
 split at h
 .rename_i j;split at h
  .obtain⟨x,i,rfl⟩:=bg.1 h;intro w e;simp only[br,dP,or_false]at e;rcases e with rfl|rfl
   .rw[j];decide
   .exact(nB i).1
  .cases h
 split at h
 .split at h
  .obtain⟨x,i,rfl⟩:=bg.1 h;cases hw
  .cases h
 split at h
 .rename_i j;split at h
  .obtain⟨x,i,rfl⟩:=bg.1 h;intro w e;simp only[br,dP,or_false]at e;rcases e with rfl|rfl
   .rw[j];decide
   .exact(nB i).1
  .cases h
 split at h
 .split at h
  .obtain⟨x,i,rfl⟩:=bg.1 h;cases hw
  .cases h
 split at h
 .rename_i j;split at h
  .split at h
   .rename_i i l;cases h;intro w e;simp only[br,dP,or_false]at e;rcases e with rfl|rfl|rfl
    .rw[j];decide
    .exact(nB i).1
    .exact zR l
   .cases h
  .cases h
 split at h
 .split at h
  .cases h;cases hw
  .cases h
 split at h
 .split at h
  .split at h
   .cases h;cases hw
   .cases h
  .cases h
 split at h
 .split at h
  .split at h
   .cases h;cases hw
   .cases h
  .cases h
 split at h
 .split at h
  .cases h;cases hw
  .cases h
 .cases h
def UR{s:HrShop}{t:List UInt8}(A:(hrCheck s).2.2=0)(h:(aI s t).2=0):(47:UInt8)∉t:=by
 have E:∀n,bO s []=n->n≠0->(aI s t).2=n:=λn e u=>by grind[aI]
 unfold aI at h;split at h
 .split at h
  .cases h
  .split at h
   .cases h
   .rename_i x hx;split at h
    .rename_i q;unfold jH at q;rw[eI]at q;have z:gQ s x=t:=by simpa using q.2
     rw[<-z];unfold gQ j1;have C:∀c,c∈(((s.kinds[x.kind.toNat]?).map λk=>k.name.data.toList).getD [])->c≠47:=by
      intro c i
      cases l:s.kinds[x.kind.toNat]? with
      |none=>grind
      |some k=>
       rw[l]at i;have v:=(pm A (aB l)).name;have:=zS (x:=k.name.data.toList) (by rw[r6];exact v)
       grind
     have D:∀(j:List HrMark),(47:UInt8)∉(j.map gu).flatten:=by
      intro j
      induction j with
      |nil=>simp
      |cons m j y=>
       rw[bf,DD,cn,not_or];refine⟨?_,y⟩;unfold gu;simp only[cn,not_or];exact⟨⟨⟨uz _,by decide⟩,uz _⟩,by decide⟩
     simp only[cn,not_or];exact⟨⟨⟨⟨⟨by decide,λi=>C 47 i rfl⟩,by decide⟩,uz _⟩,by decide⟩,D _⟩
    .cases h
 omega
def Vq{s:ChShop}{b b':ChBooks}{l a:List UInt8}{c:Cmd}(u:SOk s)(e:gc l=.ok c)(hw:c.written=true)(q:aH s b c=.ok (b',a)):(47:UInt8)∉l:=by
 unfold gc at e;split at e
 .cases e
 split at e
 .rename_i z;cases e;have y:(aI s.hour (l.drop 5)).2=0:=by
   simp only[aH]at q;split at q
   .cases q
   .omega
  have:=UR u.hour y;rw[<-ja 5 l,z,cn,not_or];simp_all[jj]
 .cases i:aA 32 l with
  |nil=>grind
  |cons v ws=>
   rw[i]at e;simp only at e
   cases j:dL v ws with
   |none=>grind
   |some A=>
    rw[j]at e;cases e;refine A8 (c:=32) (by decide) l ?_;rw[i];exact Pc j hw
def ON{s:ChShop}{b:ChBooks}{l:List UInt8}(h:DH s b l≠[]):DH s b l=[l]/\∃c a b',gc l=.ok c/\c.written=true/\aH s b c=.ok (b',a)/\ey s b l=.ok (b',a,true):=by
 unfold DH at h |-
 cases i:gc l with
 |error e=>rw[VQ i]at h;grind
 |ok c=>
  cases j:aH s b c with
  |error e=>rw[VP i j]at h;grind
  |ok x=>
   obtain⟨b',a⟩:=x;have q:=VN i j;grind
def OM{s:ChShop}(j:SOk s):∀(d:List (List UInt8)) (b:ChBooks),∀x,x∈A0 s b d->(47:UInt8)∉x/\x≠[]/\x.length<=400
 |[],b,x,hx=>by cases hx
 |l::d,b,x,hx=>by
  rw[A0,cn]at hx;rcases hx with hx|hx
  .obtain⟨v,c,a,b',i,u,q,_⟩:=ON (λe=>by rw[e]at hx;cases hx);rw[v,dW]at hx;subst hx;refine⟨Vq j i u q,?_,E3 i⟩
   rintro rfl
   cases i
  .exact OM j d _ x hx
def XG(x:List UInt8):(10:UInt8)∉repL 10 47 x:=by
 grind[repL]
def lM:Nat->List (List UInt8)->List UInt8
 |_,[]=>[]
 |i,x::r=>me i x++lM (i+1) r
def At:∀(l:List (List UInt8)) (i:Nat),(l.mapIdx λj x=>me (i+j) x).flatten=lM i l
 |[],_=>rfl
 |x::l,i=>by
  rw[List.mapIdx_cons,DD,lM,<-At l (i+1)]
  grind
def AI(l:List (List UInt8)):dy l=lM 0 l:=by
 rw[<-At l 0];grind[dy,me]
def T5 (b:UInt8):AV:=.p (.int .u8 (b.toNat:Int))
def OU (b:UInt8):PV:=.int .u8 (b.toNat:Int)
def CU:∀l:List UInt8,rM (l.map OU)=some (l.map λb=>(b.toNat:Int))
 |[]=>rfl
 |x::r=>by rw[bf,OU,rM,CU r];rfl
def UP(l):(⟨((l.map λb=>(b.toNat:Int)).map λn=>UInt8.ofNat n.toNat).toArray⟩:ByteArray)=bs l:=by
 rw[g8]
 congr 1
 rw[show ((λn:Int=>UInt8.ofNat n.toNat)∘λb:UInt8=>(b.toNat:Int))=id from funext λb=>by simp,List.map_id]
def zaj(n)(h)(l:List UInt8):aE (bi n h) (l.map T5)=some (l.map OU):=aW (bH n h) OU l
def FV(l)(a b)(N:l≠[])(M:l.length<1000000000):af TP 47 [.str (bs l),.int .u8 a.toNat,.int .u8 b.toNat] (.str (bs (repL a b l))):=by
 refine vn ?_;refine tK (ag Tryz.func47 rfl) rfl ?_;refine gP cH (zm ?_);refine gP cH (zm ?_);refine gP cH (zm ?_);refine bt 7 1 (by simp only[go_sem,simprocAttr]) (zm ?_);refine aG [0,1,2] l M (τ:=Unit) (λ_ _ _=>True) (λd _=>[(7,.slice 0 d.length 0 d.length),(8,.p (.int .i64 d.length))]) (λd _=>[.row 1 ((repL a b d).map T5)]) () trivial ?_ ?_ ?_
 .simp[bS,repL,bx,go_sem]
 .intro _ _;have i:¬((l.length:Int)<(((bs l).size:Nat):Int)):=by rw[al];omega
  have e:(repL a b l).length=l.length:=gD a b l;refine zo i decide_false ?_;refine Rx (λ_=>true) [] [(7,.slice 1 ((repL a b l).map OU) false)] _ rfl rfl ?_ ?_
  .intro p J;rw[dW]at J;subst J;refine⟨_,?_,pk⟩;simp only[aQ,List.mapIdx_cons,List.mapIdx_nil,zaj,e,go_sem,simprocAttr];rw[dt (by simp[e])]
  refine lS cH ?_;obtain⟨x,r,j⟩:∃x r,repL a b l=x::r:=by
   cases L:repL a b l with
   |nil=>grind
   |cons x r=>simp
  have hi:=CU (repL a b l);have K:=UP (repL a b l);rw[j,bf]at hi |-;simp only[hi,go_sem,simprocAttr];rw[j]at K;exact kN (congrArg (λz=>AV.p (.str z)) K)
 .intro d x r _ D _ hx i A;have C:((d.length:Int)<(((bs l).size:Nat):Int)):=by rw[al];exact i
  have G:(bs l)[d.length]?=some x:=by rw[tU];exact hx
  have I:=congrArg List.length D;rw[ak,bc]at I;have v:d.length+1<=ai:=by simp only[ai];omega
  have y:(repL a b d).length=d.length:=gD a b d;have u:repL a b (d++[x])=repL a b d++[if x=a then b else x]:=by simp[repL]
  simp only[C,decide_true,G,go_sem,simprocAttr];cases q:((x.toNat:Int)==(a.toNat:Int))
  .have E:¬x=a:=λh=>by grind
   simp only[v,y,dQ,go_sem,simprocAttr];refine am (Inv:=λ_ _ _=>True) D () trivial ?_;simp only[A,u,if_neg E,aS,ak,aK,T5,bf,bx,go_sem,simprocAttr]
  .have F:x=a:=by
    have O:(x.toNat:Int)=(a.toNat:Int):=by simpa using q
    have:x.toNat=a.toNat:=by omega
    exact UInt8.toNat_inj.1 this
   simp only[v,y,dQ,go_sem,simprocAttr];refine am (Inv:=λ_ _ _=>True) D () trivial ?_;simp only[A,u,if_pos F,aS,ak,aK,T5,bf,bx,go_sem,simprocAttr]
def De:∀(n) (l),l.length=n->l.length<=2000001->(∀x,x∈l->x.length<=400)->(dy l).length<=1500*n
 |0,l,i,_,_=>by
  grind[dy]
 |n+1,l,i,u,j=>by
  obtain⟨e,x,rfl⟩:∃e x,l=e++[x]:=⟨l.dropLast,l.getLast (by grind),(List.dropLast_concat_getLast _).symm⟩
  rw[ak,aK]at i u;have v:=De n e (by omega) (by omega) λy q=>j y (by simp[q]);have hx:=j x (by simp);have z:=j8 (n:=((e.length+1:Nat):Int)) (by omega) (by omega);rw[ro,ak,me];grind[dy,aX,repL]
def ze(l)(N:l.length<=2000001)(hw:∀x,x∈l->x≠[]/\x.length<=400):af TP 41 [aN l] (.str (bs (dy l))):=by
 refine ae (ag Tryz.func41 rfl) rfl ?_;simp only[aN,go_sem,simprocAttr];refine aG [0] l (by omega) (τ:=Unit) (λ_ _ _=>True) (λd _=>[(3,.p (.str (bs (dy d)))),(4,.p (.int .i64 d.length))]) (λ_ _=>[]) () trivial ?_ ?_ ?_
 .simp only[bS,dy,List.mapIdx_nil,List.flatten_nil,go_sem,simprocAttr];rfl
 .intro _ _;have e:¬((l.length:Int)<(l.length:Int)):=by omega
  simp[e,decide_false,go_sem]
 .intro d x r _ i _ hx e q;obtain⟨j,J⟩:=hw x (by rw[i];simp);have u:=congrArg List.length i;rw[ak,bc]at u;have K:=De d.length d rfl (by omega) (λy G=>(hw y (by rw[i];simp[G])).2);have M:=j8 (n:=((d.length+1:Nat):Int)) (by omega) (by omega);have A:i64.wrap ((d.length:Int)+1)=((d.length+1:Nat):Int):=by rw[ah];rfl
  have v:(⟨#[32]⟩:ByteArray)=bs [32]:=rfl;have z:(⟨#[10]⟩:ByteArray)=bs [10]:=rfl;have L:(repL 10 47 x).length=x.length:=gD 10 47 x;have F:(bs (dy d)).size+(bs (aX ((d.length+1:Nat):Int))).size<=aM:=by simp only[al,aM];omega
  have E:(bs (dy d++aX ((d.length+1:Nat):Int))).size+(bs [32]).size<=aM:=by simp only[al,aM,ak,aK];omega
  have D:(bs (dy d++(aX ((d.length+1:Nat):Int)++[32]))).size+(bs (repL 10 47 x)).size<=aM:=by simp only[al,aM,ak,aK];omega
  have C:(bs (dy d++(aX ((d.length+1:Nat):Int)++(32::repL 10 47 x)))).size+(bs [10]).size<=aM:=by simp only[al,aM,ak,bc,bS];omega
  refine zp e decide_true A ?_;refine aj (js (n:=((d.length+1:Nat):Int)) (by omega) (by omega)) rfl ?_;simp only[e,hx,F,E,v,cc,dD,go_sem,simprocAttr];refine aj (FV x 10 47 j (by omega)) rfl ?_;simp only[D,C,z,cc,dD,go_sem,simprocAttr];refine am (Inv:=λ_ _ _=>True) i () trivial ?_;have I:dy (d++[x])=dy d++(aX ((d.length+1:Nat):Int)++([32]++(repL 10 47 x++[10]))):=by rw[ro,me];simp
  simp[q,I,go_sem]
def RH{s}{e}(h:be s e=0):(bu s).2.2=0:=by
 unfold be at h;omega
def S4(s)(i):af TP 15 [s.pv,aN i] (md s i):=by
 refine ae (ag Tryz.func15 rfl) rfl (zm ?_);refine aa (Ep s i) rfl ?_;by_cases e:be s i=0
 .have j:=E6 s i;have l:(bh s i).2.2.length<=40:=by
   have:=(vi s i).2;unfold be at e;split at e
   .omega
   .omega
  simp only[mK,if_pos e,go_sem,simprocAttr];refine aa (ze (bh s i).2.2 (by omega) (λx hx=>⟨by rw[XE]at hx;exact(OM (tr (RH e)) i cK x hx).2.1,j x hx⟩)) rfl ?_;simp[md,if_pos e,go_sem]
 .simp only[mK,if_neg e,fQ,go_sem,simprocAttr];refine aa ((ze [] (by simp) (λx hx=>by cases hx)).argless (args':=[.nilslice]) ⟨.inr ⟨rfl,1,rfl⟩,trivial⟩) rfl ?_;simp only[md,if_neg e,go_sem,simprocAttr];rfl
def iV (i:Nat):Nat:=(aX ((i+1:Nat):Int)).length+1
def jf:Nat->List (List UInt8)->Option (List (List UInt8))
 |_,[]=>some []
 |_,[_]=>some []
 |i,row::r::rs=>if row.length<=iV i\/iV i+400<row.length then none else(jf (i+1) (r::rs)).map (repL 47 10 (row.drop (iV i))::·)
def jW (text:List UInt8):List (List UInt8)×Int:=
 match jf 0 (aA 10 text) with
 |none=>([],6)
 |some l=>if dy l≠text then([],6) else if 40<l.length then([],3) else(l,0)
def sx(c):∀(l w),w∈aA c l->w.length<=l.length
 |[],w,h=>by simp[aA]at h;grind
 |x::r,w,h=>by
  unfold aA at h;split at h
  .rcases br.1 h with rfl|h
   .exact cG _
   .have:=sx c r w h;simp;omega
  .split at h
   .grind
   .rename_i a t e;rcases br.1 h with rfl|h
    .have:=sx c r a (by rw[e];simp);simp;omega
    .have:=sx c r w (by rw[e];simp[h]);simp;omega
def pf (text:List UInt8):PV:=.tuple [if(jW text).2=0 then aN (jW text).1 else .nilslice,.int .i64 (jW text).2]
def Ja(text)(hl:text.length<=2000000):af TP 17 [.str (bs text)] (pf text):=by
 have D:=wq 10 text;obtain⟨i,e,j⟩:∃i e,aA 10 text=i++[e]:=⟨(aA 10 text).dropLast,(aA 10 text).getLast (by rw[lW];simp),(List.dropLast_concat_getLast _).symm⟩
 have a0:i.length<=2000000:=by rw[j]at D;simp at D;omega
 refine bF (ag Tryz.func17 rfl) rfl (zm ?_);refine aa (pB text 10 (by omega)) rfl ?_;simp only[bG,go_sem,simprocAttr];refine bt 5 1 (by simp only[go_sem,simprocAttr]) (zm ?_);rw[j];refine aG [0,4] i (by omega) (τ:=List (List UInt8)) (λd r db=>jf 0 (i++[e])=(jf d.length (r++[e])).map (db++·)/\db.length=d.length/\∀x,x∈db->x≠[]/\x.length<=400) (λd db=>[(5,.slice 0 db.length 0 db.length),(6,.p (.int .i64 d.length))]) (λ_ db=>[.row 1 (db.map ng)]) [] ⟨by simp,rfl,λx hx=>by cases hx⟩ ?_ ?_ ?_
 .simp[bS,bx,go_sem]
 .rintro db ⟨J,z,M⟩
  have E:¬(((i.length:Nat):Int)+1<((i++[e]).length:Int)):=by simp
  have K:i64.wrap ((i.length:Int)+1)=(i.length:Int)+1:=ah;have L:jf 0 (i++[e])=some db:=by rw[J,jb,jf];simp
  have V:=ze db (by omega) M;have l:jW text=if dy db≠text then([],6) else if 40<db.length then([],3) else(db,0):=by rw[jW,j,L]
  have Y:List.take db.length (db.map λx=>PV.str (bs x))=db.map λx=>PV.str (bs x):=dt (by simp);refine zp K E decide_false ?_;refine bq V ?_ (.str _) ?_
  .simp[nJ,aN,Y,go_sem]
  refine zm ?_;have F:=cF (dy db) text;by_cases v:dy db=text;rotate_left
  .have I:(bs (dy db)==bs text)=false:=by rw[F];simpa using v
   rw[if_pos v]at l;simp[I,pf,l,go_sem]
  have I:(bs (dy db)==bs text)=true:=by rw[F];simpa using v
  rw[if_neg (not_not_intro v)]at l;by_cases G:40<db.length
  .have y:decide ((40:Int)<(db.length:Int))=true:=decide_eq_true (by omega);rw[if_pos G]at l;simp only[I,y,pf,l,go_sem,simprocAttr]
  .have y:decide ((40:Int)<(db.length:Int))=false:=decide_eq_false (by omega);rw[if_neg G]at l;simp only[I,y,pf,l,nJ,aN,Y,go_sem,simprocAttr]
 .rintro d row r db J ⟨z,M,L⟩ hx E R
  have U:=congrArg List.length J;rw[ak,bc]at U;have a1:((d.length:Int)+1<((i++[e]).length:Int)):=by rw[ak,aK];omega
  have q:((d.length:Int)<((i++[e]).length:Int)):=by rw[ak,aK];omega
  have u:(i++[e])[d.length]?=some row:=by rw[bJ (by omega)];exact hx
  have K:i64.wrap ((d.length:Int)+1)=((d.length+1:Nat):Int):=by rw[ah];rfl
  have N:((d.length+1:Nat):Int)<((i++[e]).length:Int):=by rw[ak,aK];omega
  have a3:=j8 (n:=((d.length+1:Nat):Int)) (by omega) (by omega);have w2:i64.wrap (((bs (aX ((d.length+1:Nat):Int))).size:Int)+1)=(iV d.length:Int):=by rw[al,iV,ah];rfl
  have a2:iV d.length<=1001:=by unfold iV;omega
  have X:i64.wrap ((iV d.length:Int)+400)=((iV d.length+400:Nat):Int):=by rw[ah];rfl
  have Z:row.length<=text.length:=by
   have:=sx 10 text row (by grind);exact this
  have C:jf d.length (row::r++[e])=if row.length<=iV d.length\/iV d.length+400<row.length then none else(jf (d.length+1) (r++[e])).map (repL 47 10 (row.drop (iV d.length))::·):=by
   cases r<;>rfl
  rw[C]at z;simp only[K,N,decide_true,go_sem,simprocAttr];refine aa (js (n:=((d.length+1:Nat):Int)) (by omega) (by omega)) rfl ?_;simp only[w2,q,u,go_sem,simprocAttr];by_cases h1:row.length<=iV d.length
  .have y:decide ((((bs row).size:Nat):Int)<=(iV d.length:Int))=true:=decide_eq_true (by rw[al];omega);rw[if_pos (.inl h1),Option.map_none]at z;have l:jW text=([],6):=by rw[jW,j,z]
   simp only[y,pf,l,go_sem,simprocAttr]
  have y:decide ((((bs row).size:Nat):Int)<=(iV d.length:Int))=false:=decide_eq_false (by rw[al];omega);by_cases h2:iV d.length+400<row.length
  .have A:decide (((iV d.length+400:Nat):Int)<(((bs row).size:Nat):Int))=true:=decide_eq_true (by rw[al];omega);rw[if_pos (.inr h2),Option.map_none]at z;have l:jW text=([],6):=by rw[jW,j,z]
   simp only[y,q,u,X,A,pf,l,go_sem,simprocAttr]
  have A:decide (((iV d.length+400:Nat):Int)<(((bs row).size:Nat):Int))=false:=decide_eq_false (by rw[al];omega);rw[if_neg (by omega)]at z;have q1:(0:Int)<=(iV d.length:Int):=by omega
  have q2:(iV d.length:Int)<=(((bs row).size:Nat):Int):=by rw[al];omega
  have T:(bs row).extract (iV d.length) (bs row).size=bs (row.drop (iV d.length)):=by rw[dF,al,nS]
  have S:row.drop (iV d.length)≠[]:=λh=>by grind
  have O:db.length+1<=ai:=by simp only[ai];omega
  simp only[y,q,u,X,A,q1,q2,T,go_sem,simprocAttr];refine aa (FV (row.drop (iV d.length)) 47 10 S (by grind)) rfl ?_;simp only[O,go_sem,simprocAttr];refine am J (db++[repL 47 10 (row.drop (iV d.length))]) ⟨?_,?_,?_⟩ ?_
  .rw[z,ak,aK,Option.map_map];simp[gS]
  .simp[M]
  .grind[repL,iV]
  simp only[R,ak,aK,aS,bf,bx,ng,go_sem,simprocAttr]
def Fa{x}(h:(10:UInt8)∉x):repL 10 47 (repL 47 10 x)=x:=by
 induction x with
 |nil=>rfl
 |cons c r i=>
  grind[repL]
def yZ(c):∀{l r},(aP c l).2=some r->l=(aP c l).1++c::r/\c∉(aP c l).1
 |[],r,h=>by simp[aP]at h
 |x::l,r,h=>by
  unfold aP at h |-;by_cases hx:x=c
  .grind
  .rw[if_neg hx]at h |-;obtain⟨j,i⟩:=yZ c (l:=l) h;grind
def Yy{c:UInt8}{a i b b'}(l:c∉a)(j:c∉i)(h:a++c::b=i++c::b'):a=i/\b=b':=by
 have e:=qO b l;rw[h,qO b' j]at e;grind
def U5{i}{e}(q:e≠[])(l:e.length<=400):o5 (i+1) (aX ((i+1:Nat):Int)++32::e)=some (repL 47 10 e):=by
 have j:=rV ((i+1:Nat):Int);rw[o5,qO _ j.2];grind
def R8:∀(n) (t),t.length=n->∀(i) (l),nn (i+1) (aA 10 t)=some l↔jf i (aA 10 t)=some l/\lM i l=t:=by
 intro n
 induction n using Nat.strongRecOn with
 |_ n O=>
  intro t ht i l
  cases D:(aP 10 t).2 with
  |none=>
   rw[mI D];grind[nn,jf,lM]
  |some rest=>
   obtain⟨G,F⟩:=yZ 10 D;have A:rest.length<n:=by
    have:=congrArg List.length G;rw[ak,bc]at this;omega
   have M:=O rest.length A rest rfl (i+1);have L:=Ao (i:=i+1) D;obtain⟨Z,rs,R⟩:=uM 10 rest;have z:jf i (aA 10 t)=if(aP 10 t).1.length<=iV i\/iV i+400<(aP 10 t).1.length then none else(jf (i+1) (aA 10 rest)).map (repL 47 10 ((aP 10 t).1.drop (iV i))::·):=by
    rw[mH D,R,jf]
   generalize hA:(aP 10 t).1=a at *
   have S:=rV ((i+1:Nat):Int);rw[L,z];constructor
   .intro h;split at h
    .cases h
    .rename_i x hx;simp only[bg]at h;obtain⟨C,q,rfl⟩:=h;unfold o5 at hx;split at hx
     .cases hx
     .rename_i e u;split at hx
      .rename_i v;cases hx;obtain⟨c1,V,c3⟩:=v;obtain⟨y,q2⟩:=yZ 32 u;rw[c1]at y;have Y:a.length=iV i+e.length:=by
        rw[y,ak,bc,iV];omega
       have X:0<e.length:=zH.2 V;have ol:a.drop (iV i)=e:=by
        rw[y,show aX ((i+1:Nat):Int)++32::e=(aX ((i+1:Nat):Int)++[32])++e by simp];exact List.drop_left' (by simp[iV])
       obtain⟨k1,I⟩:=(M C).1 q;have j:(10:UInt8)∉e:=λJ=>F (by rw[y];simp[J]);refine⟨?_,?_⟩
       .grind
       .rw[lM,I,me,Fa j,G,y];simp
      .cases hx
   .rintro⟨q,E⟩
    split at q
    .cases q
    rename_i N;simp only[bg]at q;obtain⟨C,q,rfl⟩:=q;rw[lM,me]at E;have T:(aX ((i+1:Nat):Int)++32::repL 10 47 (repL 47 10 (a.drop (iV i))))++10::lM (i+1) C=a++10::rest:=by
     rw[<-G,<-E];simp
    have K:(10:UInt8)∉aX ((i+1:Nat):Int)++32::repL 10 47 (repL 47 10 (a.drop (iV i))):=by
     rw[cn,not_or,br,not_or];exact⟨S.1,by decide,XG _⟩
    obtain⟨k1,I⟩:=Yy K F T;have j:(10:UInt8)∉a.drop (iV i):=λJ=>F (List.mem_of_mem_drop J);rw[Fa j]at k1;rw[<-k1,U5 (λh=>by grind) (by grind),k1];grind
def An(text):jW text=cd text:=by
 unfold jW cd;have h:=R8 _ text rfl 0
 cases e:nn 1 (aA 10 text) with
 |some l=>
  obtain⟨u,j⟩:=(h l).1 e;rw[<-AI]at j;grind
 |none=>
  cases q:jf 0 (aA 10 text) with
  |none=>rfl
  |some l=>
   simp only;by_cases i:dy l=text
   .have:=(h l).2 ⟨q,by rw[<-AI];exact i⟩;grind
   .rw[if_pos i]
def NQ(s)(e):af TP 8 [s.pv,aN e] (if be s e=0 then .tuple [aN (bh s e).2.1,.int .i64 0] else .tuple [.nilslice,.int .i64 (be s e)]):=by
 refine ae (ag Tryz.func8 rfl) rfl (zm ?_);refine aa (Ep s e) rfl ?_;by_cases i:be s e=0
 .simp[mK,i,aN,ChBooks.pv,go_sem]
 .simp[mK,if_neg i,aN,fQ,go_sem]
def S5(s)(e):af TP 11 [s.pv,aN e] (if be s e=0 then .tuple [(bh s e).1.pv,.int .i64 0] else .tuple [.agg [.nilslice,.nilslice,.nilslice,.nilslice,.int .i64 0,.int .i64 0],.int .i64 (be s e)]):=by
 refine ae (ag Tryz.func11 rfl) rfl (zm ?_);refine aa (Ep s e) rfl ?_;by_cases i:be s e=0
 .simp[mK,i,aN,ChBooks.pv,go_sem]
 .simp[mK,if_neg i,aN,fQ,go_sem]
def Y4{s}{b b'}{c}{a}(h:aH s b c=.ok (b',a))(hw:c.written=false):b'=b:=by
 cases c with
 |lot=>cases hw
 |batch=>cases hw
 |drop=>cases hw
 |pour=>cases hw
 |test=>cases hw
 |box=>cases hw
 |plan c=>
  simp only[aH]at h;grind
 |promise k=>
  simp only[aH]at h;grind
 |look=>simp only[aH]at h;cases h;rfl
 |wick=>exact JK h
 |blend=>exact Gf h
 |stock=>simp only[aH]at h;cases h;rfl
def QI(s)(text)(Y:text.length<=2000000):af TP 19 [s.pv,.str (bs text)] (iE s text):=by
 refine bF (dv (by kernel_rfl) rfl za8) rfl ?_;simp only[H19,go_sem,simprocAttr];refine aa (u5 s) rfl ?_;simp only[ao,go_sem,simprocAttr];by_cases v:(bu s).2.2=0;rotate_left
 .have R:((bu s).2.2==0)=false:=by simpa using v
  have O:((bu s).2.2 != 0)=true:=by simpa using v
  have i:cS s text=(cK,0,(bu s).2.2):=by rw[cS,if_pos v]
  simp[R,O,iE,i,if_neg v,jz,go_sem]
 have G:=tr v;refine zn v ?_;have D:=Ja text Y;rw[pf,An]at D;refine aa D rfl ?_;by_cases A:(cd text).2=0;rotate_left
 .have K:((cd text).2 != 0)=true:=by simpa using A
  have i:cS s text=(cK,0,(cd text).2):=by rw[cS,if_neg (not_not_intro v),if_pos A]
  simp[if_neg A,K,iE,i,jz,go_sem]
 have a0:=wC A;have i:cS s text=((cy s cK 0 (cd text).1).1,(cy s cK 0 (cd text).1).2,0):=by rw[cS,if_neg (not_not_intro v),if_neg (not_not_intro A)]
 rw[iE,i];dsimp only;rw[if_pos rfl];simp only[A,aN,go_sem,simprocAttr];generalize (cd text).1=E at *
 refine AS (12::[2,4,10,11]) 2 6 [.nilslice,.nilslice,.nilslice,.nilslice,.int .i64 0,.int .i64 0] [.slice 4 [] false,.slice 4 [] false,.slice 3 [] false,.slice 2 [] false,.int .i64 0,.int .i64 0] _ rfl rfl ⟨.nil _,.nil _,.nil _,.nil _,.refl _,.refl _,trivial⟩ rfl (zm ?_)
 refine aG [2,4,10,11] E (by omega) (τ:=ChBooks) (λd r b=>cy s cK 0 E=cy s b d.length r/\BkOk s b d.length/\BkIn b) (λd_ _=>[(12,.p (.int .i64 d_.length))])
  (λd_ b=>[.row 17 [.p s.pv],.row 6 [.p fQ],.row 6 [.p b.pv]]) cK ⟨rfl,GZ s,⟨λx hx=>(by cases hx),λx hx=>(by cases hx)⟩⟩ ?_ ?_ ?_
 .simp[cK,bS,bx,fQ,ChBooks.pv,go_sem]
 .rintro b ⟨F,_,_⟩
  have j:¬((E.length:Int)<(E.length:Int)):=by omega
  rw[F,cy];simp[j,decide_false,fQ,ChBooks.pv,go_sem]
 .rintro d_ l r b F ⟨y,X,V⟩ hx j L
  have N:d_.length+1<=40:=by
   have:=congrArg List.length F;simp at this;omega
  have T:=L7 s b d_.length G X V l;have z:=NP l;refine s_ j decide_true hx @aD ?_;refine aj T rfl ?_
  cases u:ey s b l with
  |error e=>
   obtain⟨a,I⟩:=FM u;have he:=Bz G u;have M:(e != 0)=true:=by rw[bne_iff_ne];omega
   rw[I];rw[cy,u]at y;rw[y];simp only[j,hx,ChBooks.pv,go_sem,simprocAttr];refine aa z rfl ?_
   simp[M,Said.pv,aN,fQ,go_sem]
  |ok q=>
   obtain⟨b',a,w⟩:=q;obtain⟨I,c,h1,Z,U,J⟩:=BA u;have C:=FP (bp c).verb;rw[xT,<-U]at C;rw[Z]at z;rw[I];rw[cy,u]at y;dsimp only at y;simp only[j,hx,ChBooks.pv,go_sem,simprocAttr];refine aa z rfl ?_;simp only[Said.pv,aN,go_sem,simprocAttr];refine aa C rfl ?_;cases w
   .have S:=Y4 J U.symm;subst S;rw[if_neg (by simp)]at y;rw[y];simp[fQ,ChBooks.pv,go_sem]
   .rw[if_pos rfl]at y;refine zm ?_;refine am F b' ⟨by rw[y];simp,?_,JM V J⟩ ?_
    .have:=JL G X N (Hy h1) J;grind
    simp[L,fQ,ChBooks.pv,go_sem]
end Ch
end Abs
namespace Abs
namespace Ch
set_option maxRecDepth 4000
def Vr(s)(e):af TP 8 [s.pv,aN e] (.tuple [aN (oN s e),.int .i64 (be s e)]):=by
 refine(NQ s e).lessD ?_;unfold oN;by_cases h:be s e=0
 .rw[if_pos h,if_pos h,h];exact .refl _
 .rw[if_neg h,if_neg h];exact PL.tupleL ⟨.nil _,.refl _,trivial⟩
def St(s)(e):af TP 11 [s.pv,aN e] (.tuple [(r7 s e).pv,.int .i64 (be s e)]):=by
 refine(S5 s e).lessD ?_;unfold r7;by_cases h:be s e=0
 .rw[if_pos h,if_pos h,h];exact .refl _
 .rw[if_neg h,if_neg h];exact PL.tupleL ⟨zI,.refl _,trivial⟩
def Ss(s)(e):af TP 15 [s.pv,aN e] (.tuple [.str (bs (dy (qC s e))),.int .i64 (be s e)]):=by
 have:=S4 s e;unfold md at this;unfold qC;by_cases h:be s e=0
 .grind
 .rw[if_neg h]at this;rw[if_neg h];exact this
def Vs(t)(e:t.length<=2000000):af TP 17 [.str (bs t)] (.tuple [aN (cd t).1,.int .i64 (cd t).2]):=by
 refine(Ja t e).lessD ?_;unfold pf;rw[An];by_cases h:(cd t).2=0
 .rw[if_pos h];exact .refl _
 .rw[if_neg h,yn h];exact PL.tupleL ⟨.nil _,.refl _,trivial⟩
def PU(s)(t)(e:t.length<=2000000):af TP 19 [s.pv,.str (bs t)] (.tuple [(cS s t).1.pv,.int .i64 (cS s t).2.1,.int .i64 (cS s t).2.2]):=by
 refine(QI s t e).lessD ?_;unfold iE;by_cases h:(cS s t).2.2=0
 .rw[if_pos h];exact .refl _
 .rw[if_neg h,Cm h];exact PL.tupleL ⟨zI,.refl _,.refl _,trivial⟩
def RG(s)(e):(oN s e).length<1000000000:=by
 unfold oN;split
 .rename_i h;have:=(vi s e).1;have:=(Uj h).2;omega
 .decide
def yi{s}(v:SOk s):∀(q) (b) (n i),BkOk s b n->BkIn b->n+q.length<=40->BkLen (cy s b i q).1
 |[],b,n,i,j,e,_=>xq j e
 |l::r,b,n,i,j,e,C=>by
  rw[bc]at C;rw[cy];split
  .exact xq j e
  .rename_i b' a w A;obtain⟨_,c,k1,_,D,u⟩:=BA A;have z:=JL v j (by omega) (Hy k1) u;have y:=JM e u;split
   .exact yi v r b' (n+1) (i+1) z y (by omega)
   .exact xq z y
def MT(s)(t):BkLen (cS s t).1:=by
 unfold cS;split
 .exact H'
 .rename_i l;split
  .exact H'
  .rename_i j;have i:(bu s).2.2=0:=Classical.byContradiction l;have e:(cd t).2=0:=Classical.byContradiction j;exact yi (tr i) _ _ 0 0 (GZ s) ⟨λx hx=>(by cases hx),λx hx=>(by cases hx)⟩ (by grind[cd])
def MU(t):(cd t).1.length<1000000000:=by
 grind[cd]
def D6(s:ChShop)(e):af TP 3 [s.pv,aN e] (.bool true):=by
 have l:∀n:Int,(n != n)=false:=λn=>by simp
 have q:∀n:Int,(n==n)=true:=λn=>by simp
 have i:=BC (oN s e) (oN s e) (RG s e);rw[show (oN s e==oN s e)=true by simp]at i;have j:=N8 (r7 s e) (Q7 s e);refine ae (ag func3 rfl) rfl (zm ?_);refine aa (BH s) rfl ?_;simp only[ao,go_sem,simprocAttr];refine aa (u5 s) rfl ?_;simp only[ao,l,go_sem,simprocAttr];refine aa (Ni s e) rfl (zm ?_);refine aa (Vr s e) rfl (zm ?_);refine aa i rfl (zn l ?_);refine aa (PX s e) rfl (zm ?_);refine aa (St s e) rfl ?_;simp only[ChBooks.pv,go_sem,simprocAttr];refine aa j rfl (zn q ?_);refine aa Jp rfl ?_;simp[go_sem]
def D7(s:ChShop)(j)(t)(i:t.length<=2000000):af TP 4 [s.pv,aN j,.str (bs t)] (.bool true):=by
 have q:∀n:Int,(n != n)=false:=λn=>by simp
 have v:∀n:Int,(n==n)=true:=λn=>by simp
 have u:∀x:ByteArray,(x==x)=true:=λx=>(qm x x).2 rfl;have e:=BC (cd t).1 (cd t).1 (MU t);rw[show ((cd t).1==(cd t).1)=true by simp]at e;have l:=N8 (cS s t).1 (MT s t);refine ae (ag func4 rfl) rfl (zm ?_);refine aa (PW s j) rfl (zm ?_);refine aa (Ss s j) rfl (zo q u ?_);refine aa (Uh t i) rfl (zm ?_);refine aa (Vs t i) rfl (zm ?_);refine aa e rfl (zn q ?_);refine aa (D' s t i) rfl (zm ?_);refine aa (PU s t i) rfl ?_;simp only[ChBooks.pv,go_sem,simprocAttr];refine aa l rfl (zn v ?_);refine aa Jp rfl ?_;simp[go_sem]
end Ch
set_option maxRecDepth 100000
def fa(cs:List PV):lu true cs=.agg cs:=by
 rfl
def kL{n:Nat}{cs:List PV}(h:dU TP (n+1) 3 cs):∃m,cs=[.int .i64 m]:=by
 obtain⟨m,h,_⟩:=XH (k:=.i64) (by kernel_rfl) h;grind
def jk{n:Nat}{cs:List PV}(h:dU TP (n+2) 30 cs):∃s:Span,cs=[.int .i64 s.lo,.int .i64 s.hi]:=by
 obtain⟨a,_,rfl,i,b,_,rfl,e,rfl⟩:=fg (ts:=[3,3]) (by kernel_rfl) h;obtain⟨x,rfl⟩:=kL i;obtain⟨y,rfl⟩:=kL e;exact⟨⟨x,y⟩,rfl⟩
def P8{n:Nat}{cs:List PV}(h:dU TP (n+3) 154 cs):∃k:HrKind,.agg cs=k.pv:=by
 obtain⟨a,_,rfl,j,b,_,rfl,i,c,_,rfl,e,rfl⟩:=fg (ts:=[9,30,3]) (by kernel_rfl) h;obtain⟨x,rfl,_⟩:=ov (by kernel_rfl) j;obtain⟨y,rfl⟩:=jk i;obtain⟨z,rfl⟩:=kL e;exact⟨⟨x,y,z⟩,rfl⟩
def P7{n:Nat}{cs:List PV}(h:dU TP (n+3) 158 cs):∃k:HrRule,.agg cs=k.pv:=by
 obtain⟨a,_,rfl,j,b,_,rfl,i,c,_,rfl,e,rfl⟩:=fg (ts:=[9,30,30]) (by kernel_rfl) h;obtain⟨x,rfl,_⟩:=ov (by kernel_rfl) j;obtain⟨y,rfl⟩:=jk i;obtain⟨z,rfl⟩:=jk e;exact⟨⟨x,y,z⟩,rfl⟩
def CT{n:Nat}{cs:List PV}(h:dU TP (n+4) 33 cs):∃l:List HrKind,cs=[.slice 4 (l.map HrKind.pv) false]:=by
 obtain⟨xs,rfl,_,hx⟩:=ko (e:=154) (z:=4) (g:=true) (by kernel_rfl) h;obtain⟨l,rfl⟩:=jP HrKind.pv (xs:=xs) λx i=>by
  obtain⟨es,rfl,h⟩:=hx x i;rw[fa];exact P8 h
 grind
def CS{n:Nat}{cs:List PV}(h:dU TP (n+4) 34 cs):∃l:List HrRule,cs=[.slice 5 (l.map HrRule.pv) false]:=by
 obtain⟨xs,rfl,_,hx⟩:=ko (e:=158) (z:=5) (g:=true) (by kernel_rfl) h;obtain⟨l,rfl⟩:=jP HrRule.pv (xs:=xs) λx i=>by
  obtain⟨es,rfl,h⟩:=hx x i;rw[fa];exact P7 h
 grind
def sZ{v:PV}(h:zJ TP 8 36 v):∃s:HrShop,v=s.pv:=by
 obtain⟨cs,rfl,h⟩:=h;rw[show (dp TP 36==some true)=true by kernel_rfl,fa];obtain⟨a,_,rfl,j,b,_,rfl,i,c,_,rfl,e,rfl⟩:=fg (ts:=[33,34,3]) (by kernel_rfl) h;obtain⟨x,rfl⟩:=CT j;obtain⟨y,rfl⟩:=CS i;obtain⟨z,rfl⟩:=kL e;exact⟨⟨x,y,z⟩,rfl⟩
def XA{v:PV}(h:zJ TP 8 9 v):∃x:List UInt8,v=.str (bs x):=by
 obtain⟨cs,rfl,h⟩:=h;rw[show (dp TP 9==some true)=false by kernel_rfl];obtain⟨s,rfl,_⟩:=ov (by kernel_rfl) h;exact⟨s.data.toList,by rw[r6];rfl⟩
namespace Ch
def Vt{n}{cs}(h:dU TP (n+2) 79 cs):∃l:List Int,cs=[.slice 1 (l.map ay) false]:=by
 obtain⟨xs,rfl,_,hx⟩:=ko (e:=3) (z:=1) (g:=false) (by kernel_rfl) h;obtain⟨l,rfl⟩:=jP ay (xs:=xs) λx i=>by
  obtain⟨es,rfl,h⟩:=hx x i;obtain⟨m,rfl⟩:=kL h;exact⟨m,rfl⟩
 grind
def Sw{n}{cs}(h:dU TP (n+3) 128 cs):∃l:List Span,cs=[.slice 2 (l.map Span.pv) false]:=by
 obtain⟨xs,rfl,_,hx⟩:=ko (e:=30) (z:=2) (g:=true) (by kernel_rfl) h;obtain⟨l,rfl⟩:=jP Span.pv (xs:=xs) λx i=>by
  obtain⟨es,rfl,h⟩:=hx x i;rw[fa];obtain⟨s,rfl⟩:=jk h;exact⟨s,rfl⟩
 grind
def P3{n}{cs}(h:dU TP (n+4) 125 cs):∃w:WxProp,.agg cs=w.pv:=by
 obtain⟨a,_,rfl,i,b,_,rfl,e,rfl⟩:=fg (ts:=[9,3]) (by kernel_rfl) h;obtain⟨x,rfl,_⟩:=ov (by kernel_rfl) i;obtain⟨y,rfl⟩:=kL e;exact⟨⟨x,y⟩,rfl⟩
def P4{n}{cs}(h:dU TP (n+4) 130 cs):∃w:WxKind,.agg cs=w.pv:=by
 obtain⟨a,_,rfl,i,b,_,rfl,e,rfl⟩:=fg (ts:=[9,128]) (by kernel_rfl) h;obtain⟨x,rfl,_⟩:=ov (by kernel_rfl) i;obtain⟨y,rfl⟩:=Sw e;exact⟨⟨x,y⟩,rfl⟩
def Np{n}{cs}(h:dU TP (n+2) 209 cs):∃s:BdPoint,.agg cs=s.pv:=by
 obtain⟨a,_,rfl,i,b,_,rfl,e,rfl⟩:=fg (ts:=[3,3]) (by kernel_rfl) h;obtain⟨x,rfl⟩:=kL i;obtain⟨y,rfl⟩:=kL e;exact⟨⟨x,y⟩,rfl⟩
def KB{n}{cs}(h:dU TP (n+3) 135 cs):∃l:List BdPoint,cs=[.slice 2 (l.map BdPoint.pv) false]:=by
 obtain⟨xs,rfl,_,hx⟩:=ko (e:=209) (z:=2) (g:=true) (by kernel_rfl) h;obtain⟨l,rfl⟩:=jP BdPoint.pv (xs:=xs) λx i=>by
  obtain⟨es,rfl,h⟩:=hx x i;rw[fa];exact Np h
 grind
def Sx{n}{cs}(h:dU TP (n+4) 137 cs):∃w:BdWax,.agg cs=w.pv:=by
 obtain⟨a,_,rfl,A,b,_,rfl,q,c,_,rfl,l,d,_,rfl,j,e,_,rfl,i,rfl⟩:=fg (ts:=[9,3,30,30,135]) (by kernel_rfl) h;obtain⟨x,rfl,_⟩:=ov (by kernel_rfl) A;obtain⟨y,rfl⟩:=kL q;obtain⟨z,rfl⟩:=jk l;obtain⟨u,rfl⟩:=jk j;obtain⟨v,rfl⟩:=KB i;exact⟨⟨x,y,z,u,v⟩,rfl⟩
def P5{n}{cs}(h:dU TP (n+4) 146 cs):∃w:Wick,.agg cs=w.pv:=by
 obtain⟨a,_,rfl,j,b,_,rfl,i,c,_,rfl,e,rfl⟩:=fg (ts:=[9,3,30]) (by kernel_rfl) h;obtain⟨x,rfl,_⟩:=ov (by kernel_rfl) j;obtain⟨y,rfl⟩:=kL i;obtain⟨z,rfl⟩:=jk e;exact⟨⟨x,y,z⟩,rfl⟩
def Sv{n}{cs}(h:dU TP (n+4) 150 cs):∃w:Wax,.agg cs=w.pv:=by
 obtain⟨a,_,rfl,A,b,_,rfl,q,c,_,rfl,l,d,_,rfl,j,e,_,rfl,i,rfl⟩:=fg (ts:=[9,30,30,30,3]) (by kernel_rfl) h;obtain⟨x,rfl,_⟩:=ov (by kernel_rfl) A;obtain⟨y,rfl⟩:=jk q;obtain⟨z,rfl⟩:=jk l;obtain⟨u,rfl⟩:=jk j;obtain⟨v,rfl⟩:=kL i;exact⟨⟨x,y,z,u,v⟩,rfl⟩
def KA{n}{cs}(h:dU TP (n+4) 162 cs):∃w:ClColour,.agg cs=w.pv:=by
 obtain⟨a,_,rfl,j,b,_,rfl,i,c,_,rfl,e,rfl⟩:=fg (ts:=[9,30,79]) (by kernel_rfl) h;obtain⟨x,rfl,_⟩:=ov (by kernel_rfl) j;obtain⟨y,rfl⟩:=jk i;obtain⟨z,rfl⟩:=Vt e;exact⟨⟨x,y,z⟩,rfl⟩
def Nm{n}{cs}(h:dU TP (n+5) 22 cs):∃l:List WxProp,cs=[.slice 2 (l.map WxProp.pv) false]:=by
 obtain⟨xs,rfl,_,hx⟩:=ko (e:=125) (z:=2) (g:=true) (by kernel_rfl) h;obtain⟨l,rfl⟩:=jP WxProp.pv (xs:=xs) λx i=>by
  obtain⟨es,rfl,h⟩:=hx x i;rw[fa];exact P3 h
 grind
def Nn{n}{cs}(h:dU TP (n+5) 23 cs):∃l:List WxKind,cs=[.slice 2 (l.map WxKind.pv) false]:=by
 obtain⟨xs,rfl,_,hx⟩:=ko (e:=130) (z:=2) (g:=true) (by kernel_rfl) h;obtain⟨l,rfl⟩:=jP WxKind.pv (xs:=xs) λx i=>by
  obtain⟨es,rfl,h⟩:=hx x i;rw[fa];exact P4 h
 grind
def P9{n}{cs}(h:dU TP (n+5) 26 cs):∃l:List BdWax,cs=[.slice 7 (l.map BdWax.pv) false]:=by
 obtain⟨xs,rfl,_,hx⟩:=ko (e:=137) (z:=7) (g:=true) (by kernel_rfl) h;obtain⟨l,rfl⟩:=jP BdWax.pv (xs:=xs) λx i=>by
  obtain⟨es,rfl,h⟩:=hx x i;rw[fa];exact Sx h
 grind
def No{n}{cs}(h:dU TP (n+5) 27 cs):∃l:List Wick,cs=[.slice 4 (l.map Wick.pv) false]:=by
 obtain⟨xs,rfl,_,hx⟩:=ko (e:=146) (z:=4) (g:=true) (by kernel_rfl) h;obtain⟨l,rfl⟩:=jP Wick.pv (xs:=xs) λx i=>by
  obtain⟨es,rfl,h⟩:=hx x i;rw[fa];exact P5 h
 grind
def P6{n}{cs}(h:dU TP (n+5) 28 cs):∃l:List Wax,cs=[.slice 8 (l.map Wax.pv) false]:=by
 obtain⟨xs,rfl,_,hx⟩:=ko (e:=150) (z:=8) (g:=true) (by kernel_rfl) h;obtain⟨l,rfl⟩:=jP Wax.pv (xs:=xs) λx i=>by
  obtain⟨es,rfl,h⟩:=hx x i;rw[fa];exact Sv h
 grind
def Iz{n}{cs}(h:dU TP (n+5) 37 cs):∃l:List ClColour,cs=[.slice 4 (l.map ClColour.pv) false]:=by
 obtain⟨xs,rfl,_,hx⟩:=ko (e:=162) (z:=4) (g:=true) (by kernel_rfl) h;obtain⟨l,rfl⟩:=jP ClColour.pv (xs:=xs) λx i=>by
  obtain⟨es,rfl,h⟩:=hx x i;rw[fa];exact KA h
 grind
def FO{v}(h:zJ TP 8 41 v):∃s:ChShop,v=s.pv:=by
 obtain⟨cs,rfl,h⟩:=h;rw[show (dp TP 41==some true)=true by kernel_rfl,fa];obtain⟨a,_,rfl,ha,b,_,rfl,hb,c,_,rfl,hc,d,_,rfl,hd,e,_,rfl,Z,rfl⟩:=fg (ts:=[25,26,32,36,39]) (by kernel_rfl) h;obtain⟨a1,_,rfl,I,a2,_,rfl,G,a3,_,rfl,F,rfl⟩:=fg (ts:=[22,23,3]) (by kernel_rfl) ha;obtain⟨R,rfl⟩:=Nm I;obtain⟨O,rfl⟩:=Nn G;obtain⟨N,rfl⟩:=kL F;obtain⟨y,rfl⟩:=P9 hb;obtain⟨c1,_,rfl,E,c2,_,rfl,D,c3,_,rfl,C,c4,_,rfl,A,rfl⟩:=fg (ts:=[27,28,30,30]) (by kernel_rfl) hc;obtain⟨M,rfl⟩:=No E;obtain⟨L,rfl⟩:=P6 D;obtain⟨K,rfl⟩:=jk C;obtain⟨J,rfl⟩:=jk A;obtain⟨d1,_,rfl,z,d2,_,rfl,u,d3,_,rfl,q,rfl⟩:=fg (ts:=[33,34,3]) (by kernel_rfl) hd;obtain⟨Y,rfl⟩:=CT z;obtain⟨X,rfl⟩:=CS u;obtain⟨V,rfl⟩:=kL q;obtain⟨e1,_,rfl,l,e2,_,rfl,j,e3,_,rfl,i,rfl⟩:=fg (ts:=[37,30,3]) (by kernel_rfl) Z;obtain⟨U,rfl⟩:=Iz l;obtain⟨T,rfl⟩:=jk j;obtain⟨S,rfl⟩:=kL i;exact⟨⟨⟨R,O,N⟩,y,⟨M,L,K,J⟩,⟨Y,X,V⟩,⟨U,T,S⟩⟩,rfl⟩
def Ip{v}(h:zJ TP 8 42 v):∃l,v=aN l/\l.length<9223372036854775808:=by
 obtain⟨cs,rfl,h⟩:=h;rw[show (dp TP 42==some true)=false by kernel_rfl];obtain⟨xs,rfl,i,hx⟩:=ko (e:=9) (z:=1) (g:=false) (by kernel_rfl) h;obtain⟨l,rfl⟩:=jP (λx:List UInt8=>PV.str (bs x)) (xs:=xs) λx j=>by
  obtain⟨es,rfl,h⟩:=hx x j;obtain⟨s,rfl,_⟩:=ov (by kernel_rfl) h;exact⟨s.data.toList,by rw[r6];rfl⟩
 refine⟨l,rfl,?_⟩;simp[maxLen]at i;omega
end Ch
end Abs
open Go Abs
def Qk{P:Program}(h:P.funcs.any Func.goes=false)(f:FuncId):P.goes f=false:=by
 have e:∀(i:Nat) (fn:Func),P.funcs[i]?=some fn->fn.goes=false:=λi fn hi=>by
  grind
 unfold Program.goes;grind
def Ax{P:Program}{c:OpenClaim}(e:c.start=.entering)(h:P.funcs.any Func.goes=false):false=c.goesBy P:=by
 unfold OpenClaim.goesBy Program.goesAt Program.goesFrom;rw[e]
 cases P.funcNamed c.func with
 |none=>rfl
 |some f=>simp[Qk h f]
def IG:TP.funcs.any Func.goes=false:=by kernel_rfl
open Go.ChangeShapes Go.WideShapes Go.ChangeAt Go.RowKit
namespace Abs
section
variable {P:Program} {H:Type} {enc:TypeId×Value->H}
def Gt{f:FuncId}{fn:Func}{s:ChangeSpec}{ts:List TypeId}{tb:TypeId}{n base:Nat}(D:fn.params.toList=ts)(C:fn.resultTypes=#[tb])(S:P.underlying tb=some .bool)(hl:laidOutB P=true)
  (hok:∀t,t∈ts->uu P n t=true/\P.readableRec t=true/\t<P.types.size) (l:s.vars=[]) (hs:∀(H:Type) (ds:List (DataW H)),ds.length=ts.length->s.fn H ds={ results:=[.lit (.bool true)],args:=ds })
  {W:World} (hg:vU P W) {args:Array Value} {ds gs:List (DataW H)} {z:List MemPlace} {u I y J:Bool} (A:∀(j:Nat) t v,fn.params[j]?=some t->args[j]?=some v->Value.okWide P W .any base t v)
  (hW:DataW.Whole enc P fn.params.toList s.vars u W args.toList ds gs z)
  (R:∀K,B5 P n ts K->oX xN W args K->af P f K (.bool true)):Calls P f args W λe W'=>∃v,e=.returned v/\s.post enc P fn u I y J W args v W':=by
 have G:=hW;obtain⟨p,q,L,hV,rfl,a4,a1⟩:=hW;rw[l]at hV;obtain⟨rfl,rfl⟩:=trodVars_none hV;rw[D]at L;have O:ds.length=ts.length:=by
  clear a4 a1 G A;generalize args.toList=M at L
  induction ts generalizing M ds p with
  |nil=>obtain⟨rfl,rfl,rfl⟩:=trodAll_nil L;rfl
  |cons t ts ih=>
   obtain⟨v,X,d,a6,a,b,rfl,rfl,rfl,h1,V⟩:=trodAll_cons L;have:∀(ts:List TypeId) (M:List Value) (ds:List (DataW H)) (p:List MemPlace),DataW.TrodAll enc P W 0 (λ_=>true) true ts M ds p->ds.length=ts.length:=by
    intro ts
    induction ts with
    |nil=>intro M ds p h;obtain⟨rfl,rfl,rfl⟩:=trodAll_nil h;rfl
    |cons t ts ih=>intro M ds p h;obtain⟨v,X,d,a6,a,b,rfl,rfl,rfl,h1,V⟩:=trodAll_cons h;grind
   grind
 obtain⟨K,a0,a3,Z⟩:=xV (n:=n) ts args.toList ds p (λt U=>(hok t U).1) (λj t v hj T=>A j t v (by grind) (by simpa using T)) L;have N:oX xN W args K:=⟨by omega,λi c hi=>by simp_all⟩
 obtain⟨_,hc⟩:=R K a0 N xN W args (λb S=>S.elim) hg N;refine hc.mono λe W' he=>?_;obtain⟨v',rfl,T,a5⟩:=he;cases T;have F:=IM a5;have a2:∀x,x∈p->x.block<W.heap.size:=λx hx=>by
  have:=G.lt x (by grind);exact this
 refine⟨_,rfl,?_⟩;have E:=hs H ds O;refine Ff (pa:=p) (pv:=[]) G (λb sp hd=>?_) (λsp Y=>?_) (λsp _=>?_) (by simp) (F.frame _) (λa ha=>F.frozen ha) (ok_one C rfl (okWide_bool_mk S _))
 .rw[bI,E,C];exact trodAll_cons_mk (shut_bool S _) trodAll_mk0
 .rw[bI,E,D];exact BM hl F sp ts _ ds p (λt U=>(hok t U).2) L a2 λx hx=>Y x (by grind)
 .rw[bI,E,l];rfl
end
end Abs
open Go.ChangeShapes Go.WideShapes Go.ChangeAt Go.RowKit
namespace Abs
set_option maxRecDepth 100000
def Vh:∀t,t∈([41,42,9]:List TypeId)->uu TP 8 t=true/\TP.readableRec t=true/\t<TP.types.size:=by
 intro t e;simp only[br,dP,or_false]at e;rcases e with rfl|rfl|rfl
 .exact T9
 .exact T8
 .exact⟨by kernel_rfl,by kernel_rfl,of_decide_eq_true (by kernel_rfl)⟩
def NK:TP.underlying 9=some .string:=by kernel_rfl
def FQ{H:Type}:∀{l:List (DataW H)} {bytes:List UInt8},DataW.lit (.string bytes)∈l->bytes.length<Rows.uptoBulkAll l
 |[],_,h=>by cases h
 |x::r,bytes,h=>by
  rcases br.1 h with rfl|h
  .simp only[Rows.uptoBulkAll,Rows.uptoBulk];omega
  .have:=FQ h;grind[Rows.uptoBulkAll]
def NL(os:Os){H:Type}(enc:TypeId×Value->H):∃x,DataW.whole enc TP ((World.laidAll TP os ax).forCall (λ_ _=>0) ⟨#[],#[.agg #[.slice none 0 0,.slice none 0 0,.int .i64 0,.slice none 0 0,.slice none 0 0,.slice none 0 0,.int .i64 0,.int .i64 0,.int .i64 0,.int .i64 0,.slice none 0 0,.slice none 0 0,.int .i64 0,.slice none 0 0,.int .i64 0,.int .i64 0,.int .i64 0],.slice none 0 0,.string ⟨#[]⟩],[]⟩).memory f4.params.toList Rows.chandlerCardsSpec.vars false #[.agg #[.slice none 0 0,.slice none 0 0,.int .i64 0,.slice none 0 0,.slice none 0 0,.slice none 0 0,.int .i64 0,.int .i64 0,.int .i64 0,.int .i64 0,.slice none 0 0,.slice none 0 0,.int .i64 0,.slice none 0 0,.int .i64 0,.int .i64 0,.int .i64 0],.slice none 0 0,.string ⟨#[]⟩].toList 8=some x/\Rows.uptoSmall H (x.1++x.2.1)=true:=by
 have h:(match DataW.whole enc TP ((World.laidAll TP os ax).forCall (λ_ _=>0) ⟨#[],#[.agg #[.slice none 0 0,.slice none 0 0,.int .i64 0,.slice none 0 0,.slice none 0 0,.slice none 0 0,.int .i64 0,.int .i64 0,.int .i64 0,.int .i64 0,.slice none 0 0,.slice none 0 0,.int .i64 0,.slice none 0 0,.int .i64 0,.int .i64 0,.int .i64 0],.slice none 0 0,.string ⟨#[]⟩],[]⟩).memory f4.params.toList Rows.chandlerCardsSpec.vars false #[.agg #[.slice none 0 0,.slice none 0 0,.int .i64 0,.slice none 0 0,.slice none 0 0,.slice none 0 0,.int .i64 0,.int .i64 0,.int .i64 0,.int .i64 0,.slice none 0 0,.slice none 0 0,.int .i64 0,.slice none 0 0,.int .i64 0,.int .i64 0,.int .i64 0],.slice none 0 0,.string ⟨#[]⟩].toList 8 with
  |some x=>Rows.uptoSmall H (x.1++x.2.1)|none=>false)=true:=by kernel_rfl
 grind
def Kz(os:Os)(e:os.Started)(H:Type)(enc:TypeId×Value->H)(F:Stop.Interp) :
  ReturnsInHanded {} checked os 4 .any ((Rows.OpenSpec.upto Rows.chandlerCardsSpec).preRow enc TP f4 Rows.chandlerCardsUptoRow.domain false Rows.chandlerCardsUptoRow.laid)
   (((Rows.OpenSpec.upto Rows.chandlerCardsSpec).at F).post enc TP f4 false true false false):=by
 obtain⟨x,hx,U⟩:=NL os enc
 refine returnsInHanded_of_row (C:=checked) (s:=Rows.OpenSpec.upto Rows.chandlerCardsSpec) T7 e (by kernel_rfl) func4
  ⟨World.laidAll TP os ax,λ_ _=>0,⟨#[],#[.agg #[.slice none 0 0,.slice none 0 0,.int .i64 0,.slice none 0 0,.slice none 0 0,.slice none 0 0,.int .i64 0,.int .i64 0,.int .i64 0,.int .i64 0,.slice none 0 0,.slice none 0 0,.int .i64 0,.slice none 0 0,.int .i64 0,.int .i64 0,.int .i64 0],.slice none 0 0,.string ⟨#[]⟩],[]⟩,World.laidAll_os _ _ _,World.shaped_of_ZipB (by kernel_rfl) (by kernel_rfl),rfl,(Input.okWide_of_okWideB (P:=TP) (by kernel_rfl)).2,
   OpenSpec.preRow_of_cond 8 hx rfl (λk E=>by cases E;exact U) (by kernel_rfl) (by rw[MakeChecks.laidMetH_plain _ _ _ (by kernel_rfl)];exact laidMet_laidAll _ (by kernel_rfl) (by kernel_rfl)),
   by simp only[Assume.holds];simp⟩ ?_
 intro W base args ds K z j J _ v _ V _ _;have a3:Rows.uptoBulkAll (ds++K)<=1048576:=of_decide_eq_true (v _ rfl);refine Gt (fn:=f4) (ts:=[41,42,9]) (tb:=4) (n:=8) (by kernel_rfl) (by kernel_rfl) (by kernel_rfl) laid Vh rfl ?_ (gok V) j J ?_
 .intro H ds h
  match ds,h with
  |[M,L,d2],_=>rfl
 .rintro qs ⟨v0,r0,rfl,Z,⟨v1,r1,rfl,Y,⟨v2,r2,rfl,X,rfl⟩⟩⟩ D
  obtain⟨O,rfl⟩:=Ch.FO Z;obtain⟨R,rfl,a4⟩:=Ch.Ip Y;obtain⟨i,rfl⟩:=XA X;refine Ch.D7 O R i ?_;obtain⟨p,q,u,_⟩:=J;rw[show f4.params.toList=[41,42,9] by kernel_rfl]at u;obtain⟨a0,a8,M,a6,p0,q0,e0,rfl,_,_,u⟩:=trodAll_cons u;obtain⟨a1,a7,L,a5,p1,q1,rfl,rfl,_,_,u⟩:=trodAll_cons u;obtain⟨N,I,d2,G,p2,q2,rfl,rfl,_,S,u⟩:=trodAll_cons u;have y:args=#[a0,a1,N]++I.toArray:=by apply Array.ext';simpa using e0
  have T:=D.2 2 (.str (bs i)) rfl;subst y;have A:RepP xN W N (.str (bs i)):=by simpa using T
  cases A;obtain⟨s',e1,rfl,_,_⟩:=Go.ChangeMaps.open_string NK (j 2 9 (.string (bs i)) (by kernel_rfl) (by simp)) S;cases e1;have:=FQ (H:=H) (l:=(M::L::DataW.lit (.string (bs i).data.toList)::G)++K) (bytes:=(bs i).data.toList) (by simp);have hx:(bs i).data.toList.length=i.length:=rfl;omega
end Abs
end Go.Proofs.YtgafommgcfhkkaaGreatDoor
