/- CONTRACTS of the program's functions, and laws on what they return. No conditions but those in the theorems' heads. -/
import Derived.Test.YtmndpldajflenaaGreatDoorChMustX
set_option linter.all false
set_option maxHeartbeats 1000000
open Go.Proofs.Tryz renaming prog->TP
open Go.Proofs.Tryz
namespace Go.Proofs.YtmndpldajflenaaGreatDoor
namespace Abs
namespace Ch
set_option maxRecDepth 4000
def kS (x:ChLot):AV:=.p x.pv
def cA (x:ChBatch):AV:=.p x.pv
def oh (x:HrTest):AV:=.p x.pv
def rQ (x:HrBox):AV:=.p x.pv
def B7 (s:ChShop) (b:ChBooks) (ex:List PV):Heap:=
 [.dead,.dead,.row 23 [.agg ([.slice 3 b.lots.length 0 b.lots.length,.slice 4 (b.batches.length+ex.length) 0 b.batches.length,.slice 5 b.tests.length 0 b.tests.length,.slice 6 b.boxes.length 0 b.boxes.length,.p (.int .i64 b.poured),.p (.int .i64 b.lost)]++s.cells.map .p)],
  .row 4 (b.lots.map kS),.row 4 (b.batches.map cA++ex.map .p),.row 3 (b.tests.map oh),.row 2 (b.boxes.map rQ)]
attribute [go_sem] B7
theorem fi(s)(b)(ex):∀o,o∈B7 s b ex->aX 7 o:=by
 intro o e;simp only[B7,ce,fD,or_false]at e;rcases e with rfl|rfl|rfl|rfl|rfl|rfl|rfl
 .trivial
 .trivial
 .intro x hx;simp only[dT]at hx;subst hx;intro c a;simp only[ChShop.cells,bK,cf,ck,ce,fD,or_false]at a;rcases a with(rfl|rfl|rfl|rfl|rfl|rfl)|a
  .show 3<7;decide
  .show 4<7;decide
  .show 5<7;decide
  .show 6<7;decide
  .trivial
  .trivial
  .rcases a with rfl|rfl|rfl|rfl|rfl|rfl|rfl|rfl|rfl|rfl|rfl|rfl|rfl|rfl|rfl|rfl|rfl<;>trivial
 .intro x hx;obtain⟨y,_,rfl⟩:=cX.1 hx;trivial
 .intro x hx;rcases ck.1 hx with hx|hx
  .obtain⟨y,_,rfl⟩:=cX.1 hx;trivial
  .obtain⟨y,_,rfl⟩:=cX.1 hx;trivial
 .intro x hx;obtain⟨y,_,rfl⟩:=cX.1 hx;trivial
 .intro x hx;obtain⟨y,_,rfl⟩:=cX.1 hx;trivial
def vo (s:ChShop) (b:ChBooks) (l:List ChBatch) (ex:List PV):Heap:=
 [.dead,.dead,.row 23 [.agg ([.slice 3 b.lots.length 0 b.lots.length,.p .nilslice,.slice 5 b.tests.length 0 b.tests.length,.slice 6 b.boxes.length 0 b.boxes.length,.p (.int .i64 b.poured),.p (.int .i64 b.lost)]++s.cells.map .p)],
  .row 4 (b.lots.map kS),.row 4 (l.map cA++ex.map .p),.row 3 (b.tests.map oh),.row 2 (b.boxes.map rQ)]
attribute [go_sem] vo
theorem Cb(s)(b)(l)(ex):∀o,o∈vo s b l ex->aX 7 o:=by
 intro o a;by_cases h:o=.row 23 [.agg ([.slice 3 b.lots.length 0 b.lots.length,.p .nilslice,.slice 5 b.tests.length 0 b.tests.length,.slice 6 b.boxes.length 0 b.boxes.length,.p (.int .i64 b.poured),.p (.int .i64 b.lost)]++s.cells.map .p)]
 .subst h;intro x hx;simp only[dT]at hx;subst hx;intro c e;simp only[ChShop.cells,bK,cf,ck,ce,fD,or_false]at e;rcases e with(rfl|rfl|rfl|rfl|rfl|rfl)|e
  .show 3<7;decide
  .trivial
  .show 5<7;decide
  .show 6<7;decide
  .trivial
  .trivial
  .rcases e with rfl|rfl|rfl|rfl|rfl|rfl|rfl|rfl|rfl|rfl|rfl|rfl|rfl|rfl|rfl|rfl|rfl<;>trivial
 .refine fi s { b with batches:=l } ex o ?_;simp only[vo,B7,ce,fD,or_false]at a |-;rcases a with a|a|a|a
  .exact .inl a
  .exact .inr (.inl a)
  .exact absurd a h
  .exact .inr (.inr (.inr a))
def j0 (s:ChShop) (b:ChBooks) (ex:List PV) (q:Except Int (ChBooks×List UInt8)) (r:AEnd) (h':Heap):Prop:=
 match q with
 |.error e=>r=.panic (gc e)/\h'=B7 s b ex
 |.ok (b',a)=>r=.ret (.p (.str (bs a)))/\((∃ex',h'=B7 s b' ex')\/(b'.batches=[]/\∃l x,h'=vo s b' l x))
theorem di{s}{b}{ex}{q}{e}(a:q=.error e){hh}(t)(i:hh=B7 s b ex++t) :
  ∃h' t,hh=h'++t/\h'.length=7/\(∀o,o∈h'->aX h'.length o)/\Ac (.panic (gc e))/\j0 s b ex q (.panic (gc e)) h':=by
 subst a;exact⟨_,t,i,rfl,fi s b ex,trivial,rfl,rfl⟩
theorem gR{s}{b b'}{ex ex'}{q}{a}(e:q=.ok (b',a)){hh}(t)(i:hh=B7 s b' ex'++t) :
  ∃h' t,hh=h'++t/\h'.length=7/\(∀o,o∈h'->aX h'.length o)/\Ac (.ret (.p (.str (bs a))))/\j0 s b ex q (.ret (.p (.str (bs a)))) h':=by
 subst e;exact⟨_,t,i,rfl,fi s b' ex',trivial,rfl,.inl ⟨_,rfl⟩⟩
theorem Qe{s}{b b'}{ex}{l}{x}{q}{a}(e:q=.ok (b',a))(j:b'.batches=[]){hh}(t)(i:hh=vo s b' l x++t) :
  ∃h' t,hh=h'++t/\h'.length=7/\(∀o,o∈h'->aX h'.length o)/\Ac (.ret (.p (.str (bs a))))/\j0 s b ex q (.ret (.p (.str (bs a)))) h':=by
 subst e;exact⟨_,t,i,rfl,Cb s b' l x,trivial,rfl,.inr ⟨j,_,_,rfl⟩⟩
theorem uU(n)(h)(l:List ChLot):aQ (bV n h) (l.map kS)=some (l.map ChLot.pv):=dC (eE n h) ChLot.pv l
theorem No(n)(h)(l:List ChBatch):aQ (bV n h) (l.map cA)=some (l.map ChBatch.pv):=dC (eE n h) ChBatch.pv l
theorem sf(n)(h)(l:List HrTest):aQ (bV n h) (l.map oh)=some (l.map HrTest.pv):=dC (eE n h) HrTest.pv l
theorem uV(n)(h)(l:List HrBox):aQ (bV n h) (l.map rQ)=some (l.map HrBox.pv):=dC (eE n h) HrBox.pv l
theorem vP(n)(h)(l:List ChBatch)(ex):aQ (bV n h) (l.map cA++ex.map .p)=some (l.map ChBatch.pv++ex):=by
 have:=Cl.PP (eE n h) (l.map ChBatch.pv) ex;rw[q6]at this;exact this
theorem HD(l:List ChBatch)(ex:List PV):(l.map cA++ex.map AV.p).length=l.length+ex.length:=by simp
attribute [go_sem] uU No sf uV vP HD
theorem vd{l:List ChBatch}{i:Nat}{x}(h:l[i]?=some x)(ex:List PV):(l.map cA++ex.map AV.p)[i]?=some (.p x.pv):=by
 have hi:i<l.length:=(aB.1 h).1;rw[bp (by simpa using hi),cW,h];rfl
structure BkOk (s:ChShop) (b:ChBooks) (n:Nat):Prop where
 lots:b.lots.length<=8
 batches:b.batches.length<=7
 tests:b.tests.length<=8
 boxes:b.boxes.length<=20
 grams:∀x,x∈b.lots->0<=x.grams/\x.grams<=100000*(n+1)
 names:∀x,x∈b.lots->x.name.size<=20
 waits:∀x,x∈b.batches->(1<=x.grams/\x.grams<=100000)/\(0<=x.lot/\x.lot<b.lots.length)/\x.name.size<=20
 poured:0<=b.poured/\b.poured<=700000*n
 lost:0<=b.lost/\b.lost<=300000*n
 few:n<=40
theorem zw(s):bs (bl s)=s:=sl s
theorem BW(s)(l):∀(e) (i),(∀j,j∈(cE s l i e).1->(i)<=j/\j<i+e.length)/\(cE s l i e).1.length<=e.length/\((cE s l i e).2≠0->(cE s l i e).1=[])
 |[],i=>by simp[cE]
 |b::r,i=>by
  obtain⟨o,u,q⟩:=BW s l r (i+1);rw[cE];split
  .split
   .refine⟨λj a=>?_,?_,λh=>absurd rfl h⟩
    .rcases ck.1 a with a|a
     .split at a
      .simp at a;subst a;simp;omega
      .simp at a
     .have:=o j a;simp at this |-;omega
    .rw[aL,dB];split<;>simp<;>omega
   .exact⟨by simp,by simp,λ_=>rfl⟩
  .exact⟨by simp,by simp,λ_=>rfl⟩
theorem LP(s)(l)(a)(q:a.length<=20):(∀j,j∈(ct s l a).1->0<=j/\j<1000000000)/\(ct s l a).1.length<=1000/\((ct s l a).2≠0->(ct s l a).1=[]):=by
 obtain⟨o,u,i⟩:=BW s l a 0;unfold ct;split
 .split
  .exact⟨by simp,by simp,λ_=>rfl⟩
  .exact⟨λj e=>by have:=o j e;simp at this;omega,by omega,i⟩
 .exact⟨by simp,by simp,λ_=>rfl⟩
theorem IZ(s)(b)(ex)(n)(u:BkOk s b n):ar TP 219 [.ptr 2 1 0 0] (B7 s b ex) (j0 s b ex (aR s b .look)):=by
 obtain⟨k1,k2,o⟩:=LP s.hour b.tests b.boxes u.boxes;refine bz (ag func219 rfl) rfl ?_;simp only[ChShop.cells,go_sem,simprocAttr];refine Rb (PD s.hour b.tests b.boxes) ?_ ?_
 .simp only[go_sem,simprocAttr]
 by_cases i:(ct s.hour b.tests b.boxes).1=[]
 .have e:hP (ct s.hour b.tests b.boxes)=.nilslice\/hP (ct s.hour b.tests b.boxes)=.slice 1 [] false:=by
   unfold hP;split
   .exact .inr (by rw[i];rfl)
   .exact .inl rfl
  have l:aR s b .look=.ok (b,oH):=by rw[aR,if_pos i]
  rcases e with e|e
  all_goals (
   simp only[e,go_sem,simprocAttr]
   exact gR l [] (bt _).symm)
 .have v:(ct s.hour b.tests b.boxes).2=0:=Classical.byContradiction λh=>i (o h);have e:hP (ct s.hour b.tests b.boxes)=.slice 1 ((ct s.hour b.tests b.boxes).1.map aI) false:=by rw[hP,if_pos v];rfl
  have l:aR s b .look=.ok (b,joinL (vv::(ct s.hour b.tests b.boxes).1.map bH)):=by rw[aR,if_neg i]
  have j:(((ct s.hour b.tests b.boxes).1.length:Int)==0)=false:=by
   rw[beq_eq_false_iff_ne];intro h;exact i (sy (by omega))
  simp only[e,j,go_sem,simprocAttr];have q:=oy [.s vv,.ns (ct s.hour b.tests b.boxes).1] true (by simp) (λw hw=>by
   simp only[ce,fD,or_false]at hw;rcases hw with rfl|rfl
   .show (6:Nat)<=1000;decide
   .exact⟨k2,k1⟩)
  refine ae q rfl ?_;simp only[go_sem,simprocAttr];exact gR (a:=joinL ([Word.s vv,.ns (ct s.hour b.tests b.boxes).1].flatMap Word.ws)) (by simpa[Word.ws]using l) [] (bt _).symm
end Ch
theorem vT{c:UInt8}:∀{a:List UInt8} (b:List UInt8),c∉a->aH c (a++c::b)=(a,some b)
 |[],b,_=>by simp[aH]
 |x::a,b,h=>by
  have hx:¬x=c:=λe=>h (by simp[e]);have i:=vT (a:=a) b (λj=>h (CI _ j));rw[hZ,aH,if_neg hx,i]
theorem Ho{c:UInt8}:∀{a:List UInt8},c∉a->aH c a=(a,none)
 |[],_=>rfl
 |x::a,h=>by
  have hx:¬x=c:=λe=>h (by simp[e]);have i:=Ho (a:=a) (λj=>h (CI _ j));rw[aH,if_neg hx,i]
theorem g9{c:UInt8}{a:List UInt8}(b:List UInt8)(h:c∉a):aM c (a++c::b)=a::aM c b:=by
 have e:=vT b h;rw[lH (r:=b) (by rw[e]),e]
theorem rf{c:UInt8}{a:List UInt8}(h:c∉a):aM c a=[a]:=lI (by rw[Ho h])
theorem Ie(c:UInt8)(l:List UInt8):oe c (l++[c])=l:=by simp[oe]
theorem uB:∀(l:List UInt8) (a:Int),dm l a=true->∀c,c∈l->c.toNat=45\/(97<=c.toNat/\c.toNat<=122)
 |[],_,_,c,h=>by cases h
 |x::l,a,h,c,e=>by
  rw[dm]at h;split at h
  .cases h
  .rename_i i;rcases ce.1 e with rfl|e
   .simp[pk]at i;omega
   .exact uB l _ h c e
theorem Ai{b:ByteArray}(h:nameOk b=true):(10:UInt8)∉b.data.toList/\(32:UInt8)∉b.data.toList:=by
 unfold nameOk at h;rw[dQ]at h;have:=uB _ _ h.1;refine⟨λa=>?_,λa=>?_⟩
 .have:=this _ a;simp at this
 .have:=this _ a;simp at this
theorem sg(n:Int):(10:UInt8)∉bH n/\(32:UInt8)∉bH n:=by
 have:=zf n.toNat;refine⟨λa=>?_,λa=>?_⟩
 .have:=this _ a;simp at this
 .have:=this _ a;simp at this
def kp (m:HrMark):List UInt8:=bH m.minute++32::bH m.weight
def lk:List HrMark->List UInt8
 |[]=>[]
 |[m]=>kp m
 |m::q::r=>kp m++10::lk (q::r)
theorem Bt(m:HrMark):jT m=kp m++[10]:=by simp[jT,kp,sp,nl]
theorem vA(m:HrMark):(10:UInt8)∉kp m:=by
 have e:=sg m.minute;have a:=sg m.weight;simp[kp,e.1,a.1]
theorem BK:∀(l:List HrMark),l≠[]->(l.map jT).flatten=lk l++[10]
 |[],h=>absurd rfl h
 |[m],_=>by simp[lk,Bt]
 |m::q::r,_=>by
  have a:=BK (q::r) (by simp);rw[bK,Mk,a,Bt,lk];simp
theorem ya:∀(l:List HrMark),l≠[]->aM 10 (lk l)=l.map kp
 |[],h=>absurd rfl h
 |[m],_=>by rw[lk,rf (vA m)];rfl
 |m::q::r,_=>by
  have a:=ya (q::r) (by simp);rw[lk,g9 _ (vA m),a];rfl
theorem tS:∀(l:List HrMark),l≠[]->aM 10 (lk l++[10])=l.map kp++[[]]
 |[],h=>absurd rfl h
 |[m],_=>by rw[lk,g9 [] (vA m)];rfl
 |m::q::r,_=>by
  have a:=tS (q::r) (by simp);rw[lk,dJ,hZ,g9 _ (vA m),a];rfl
theorem Qd(m:HrMark):aH 32 (kp m)=(bH m.minute,some (bH m.weight)):=vT _ (sg _).2
theorem J9(m:HrMark):aM 32 (kp m)=[bH m.minute,bH m.weight]:=by
 rw[kp,g9 _ (sg _).2,rf (sg _).2]
theorem F1{m:HrMark}(h:0<=m.minute/\m.minute<=1000000/\0<=m.weight/\m.weight<=10000000):du (kp m)=some m:=by
 simp only[du,Qd,xg h.1 (by omega),xg h.2.2.1 h.2.2.2]
theorem we:∀(l a:List HrMark),(∀m,m∈l->0<=m.minute/\m.minute<=1000000/\0<=m.weight/\m.weight<=10000000)->ec a (l.map kp)=some (a++l)
 |[],a,_=>by simp[ec]
 |m::l,a,h=>by
  rw[bK,ec,F1 (h m (by simp))];dsimp only;rw[we l _ λq e=>h q (by simp[e])];simp
theorem xf{n:Int}(a:0<=n)(j:n<=10000000):DQ (bH n)=n:=by
 obtain⟨m,rfl⟩:=sB a;have o:=nS a j;have l:(bH (m:Int)).length≠0:=λh=>qH (m:Int).toNat (sK.1 h);have e:ak ((bH (m:Int)).length:Int) 1 8=true:=by simp[ak];omega
 have i:Lib.decFrom 0 (bH (m:Int))=some m:=by unfold bH;rw[kn];exact wA m
 rw[DQ,e,i];rfl
theorem yF(e:ByteArray):∀(l:List HrKind) (i:Nat) (a:Int),(∀k,k∈l->¬k.name=e)->mw e l i a=a
 |[],_,_,_=>rfl
 |k::r,i,a,h=>by
  have o:(k.name==e)=false:=sE.2 λu=>h k (by simp) ((nv _ _).1 u);rw[mw,o];exact yF e r _ _ λq j=>h q (by simp[j])
theorem yG(j:ByteArray):∀(a:List HrKind) (k:HrKind) (r:List HrKind) (i:Nat) (e:Int),k.name=j->(∀q,q∈r->¬q.name=j)->mw j (a++k::r) i e=((i+a.length:Nat):Int)
 |[],k,r,i,e,o,l=>by
  have u:(k.name==j)=true:=(nv _ _).2 o;rw[lc,mw,u,yF j r _ _ l]
  simp
 |x::a,k,r,i,e,o,l=>by
  rw[hZ,mw,yG j a k r _ _ o l];simp;omega
theorem An{α:Type}(p:α->Bool):∀(a:List α) (k:α) (r:List α) (i:Nat),p k=true->(∀q,q∈a->p q=false)->aq p (a++k::r) i=((i+a.length:Nat):Int)
 |[],k,r,i,e,_=>by simp[aq,e]
 |x::a,k,r,i,e,j=>by
  rw[hZ,aq,j x (by simp)];have:=An p a k r (i+1) e λq l=>j q (by simp[l]);rw[if_neg (by simp),this];simp;omega
theorem IG{s:HrShop}(l:(hrCheck s).2.2=0){n:Nat}{k:HrKind}(a:s.kinds[n]?=some k) :
  s.kinds=s.kinds.take n++k::s.kinds.drop (n+1)/\(s.kinds.take n).length=n/\(∀q,q∈s.kinds.take n->¬q.name=k.name)/\∀q,q∈s.kinds.drop (n+1)->¬q.name=k.name:=by
 have u:=(aB.1 a).1;have o:=zL u;rw[(aB.1 a).2]at o;refine⟨by rw[<-o,mE],by rw[CL];omega,λq j e=>?_,λq j e=>?_⟩
 .obtain⟨i,hi⟩:=eF j;rw[kB]at hi;split at hi
  .rename_i v;have:=uF l hi a e;omega
  .cases hi
 .obtain⟨i,hi⟩:=eF j;rw[qc]at hi;have:=uF l hi a e;omega
theorem yh(s:HrShop):∀(l:List HrMark) (k e:Int) (i:List HrMark),(∀m,m∈l->0<=m.minute/\m.minute<=1000000/\0<=m.weight/\m.weight<=10000000) ->
  vz s false ⟨k,e,i⟩ (l.map kp++[[]])=⟨k,e,i++l⟩
 |[],k,e,i,_=>by simp[vz]
 |m::l,k,e,i,h=>by
  have j:=h m (by simp);have v:=yh s l k e (i++[m]) λq y=>h q (by simp[y]);have o:x8 s false ⟨k,e,i⟩ (kp m)=⟨k,e,i++[m]⟩:=by
   simp only[x8,J9,xf j.1 (show m.minute<=10000000 by omega),xf j.2.2.1 j.2.2.2]
  rw[bK,hZ]
  cases u:l.map kp++[[]] with
  |nil=>simp at u
  |cons a b=>
   rw[vz,o,<-u,v];simp
theorem yo{s:HrShop}{t:HrTest}(R:(hrCheck s).2.2=0)(U:bQ s.kinds.length t=0):mO s (jk s t)=some t/\uy s (jk s t)=t:=by
 obtain⟨hok,k0,k1⟩:=gn U;obtain⟨n,v⟩:=sB k0;have F:n<s.kinds.length:=by omega
 obtain⟨k,y⟩:∃k,s.kinds[n]?=some k:=⟨_,bO F⟩
 have J:=ro R (aG y);obtain⟨A,z⟩:=Ai J.name;obtain⟨M,L⟩:=sg t.error;have i:t.marks≠[]:=by intro h;have:=hok.two;rw[h]at this;simp at this
 have l:jk s t=([116,101,115,116]++32::(k.name.data.toList++32::bH t.error))++10::(lk t.marks++[10]):=by
  rw[jk,v,kn,y,jI,fT,BK _ i];simp[mW,sa,sp,nl]
 have o:(10:UInt8)∉([116,101,115,116]++32::(k.name.data.toList++32::bH t.error)):=by simp[A,M]
 have e:aH 10 (jk s t)=([116,101,115,116]++32::(k.name.data.toList++32::bH t.error),some (lk t.marks++[10])):=by rw[l];exact vT _ o
 have j:aM 32 ([116,101,115,116]++32::(k.name.data.toList++32::bH t.error))=[[116,101,115,116],k.name.data.toList,bH t.error]:=by
  rw[g9 _ (by decide),g9 _ z,rf L]
 obtain⟨O,N,T,S⟩:=IG R y;have K:pY s.kinds (bs k.name.data.toList)=t.kind:=by
  rw[sl,pY,O,An (λq=>q.name==k.name) _ k _ 0 ((nv _ _).2 rfl) (λq V=>sE.2 λX=>T q V ((nv _ _).1 X)),N,v];simp
 have I:mw (bs k.name.data.toList) s.kinds 0 (-1)=t.kind:=by
  rw[sl,O,yG _ _ k _ 0 _ rfl S,N,v];simp
 have G:=xg hok.err.1 (by have:=hok.err.2;omega);have E:=xf hok.err.1 (by have:=hok.err.2;omega);refine⟨?_,?_⟩
 .have hw:oG (jk s t)=[[116,101,115,116],k.name.data.toList,bH t.error]:=by rw[oG,e];exact j
  have u:sY (jk s t)=lk t.marks:=by rw[sY,e];exact Ie _ _
  rw[mO,hw];dsimp only;rw[G,u,ya _ i,we _ _ hok.all,K];rfl
 .have D:aM 10 (jk s t)=([116,101,115,116]++32::(k.name.data.toList++32::bH t.error))::(t.marks.map kp++[[]]):=by
   rw[l,g9 _ o,tS _ i]
  have C:x8 s true ⟨-1,0,[]⟩ ([116,101,115,116]++32::(k.name.data.toList++32::bH t.error))=⟨t.kind,t.error,[]⟩:=by
   simp only[x8,j,I,E]
  rw[uy,D]
  cases u:t.marks.map kp++[[]] with
  |nil=>simp at u
  |cons a b=>
   rw[vz,C,<-u,yh s _ _ _ _ hok.all];simp
theorem uT{s:HrShop}{all:List UInt8}{t:HrTest}:m8 s all t=true↔bQ s.kinds.length t=0/\jk s t=all:=by simp[m8]
theorem DL(s:HrShop):bX s []=(hrCheck s).2.2:=by
 unfold bX;split
 .rename_i h;rw[h];rfl
 .rfl
theorem Bi(s:HrShop)(all:List UInt8):aN s all=vM s all:=by
 rw[aN,vM,DL];split
 .rename_i l;split
  .rfl
  .cases e:m8 s all (uy s all) with
   |true=>
    obtain⟨j,i⟩:=uT.1 e;have:=(yo l j).1;rw[i]at this;rw[this];dsimp only
    rw[e]
   |false=>
    rw[if_neg (by simp)]
    cases o:mO s all with
    |none=>rfl
    |some t=>
     dsimp only;split
     .rename_i a;obtain⟨j,i⟩:=uT.1 a;have:=(yo l j).2;rw[i]at this;rw[this,a]at e;cases e
     .rfl
 .rfl
theorem Kh{s:HrShop}{all:List UInt8}(h:(aN s all).2=0):(hrCheck s).2.2=0/\bQ s.kinds.length (aN s all).1=0/\jk s (aN s all).1=all:=by
 rw[Bi]at h |-;unfold vM at h |-;split at h
 .rename_i e;split at h
  .cases h
  .rename_i i;split at h
   .rename_i a;rw[if_pos e,if_neg i,if_pos a];exact⟨e,uT.1 a⟩
   .cases h
 .contradiction
theorem MO{s:HrShop}{all:List UInt8}(h:(aN s all).2≠0):(aN s all).1=dc:=by
 rw[Bi]at h |-;unfold vM at h |-;split at h
 .split at h
  .rename_i a e;rw[if_pos a,if_pos e]
  .rename_i a e;split at h
   .exact absurd rfl h
   .rename_i i;rw[if_pos a,if_neg e,if_neg i]
 .rename_i a;rw[if_neg a]
theorem tz:∀l:List HrMark,(∀m,m∈l->(jT m).length<=18)->(l.map jT).flatten.length<=18*l.length
 |[],_=>by simp
 |m::l,h=>by
  have i:=h m (by simp);have e:=tz l λq a=>h q (by simp[a]);rw[bK,Mk,aL,dB];omega
set_option maxRecDepth 100000
theorem Ki(t:HrTest):PL (dl t) t.pv:=by
 cases t with
 |mk k e a=>
  cases a with
  |nil=>exact Pz k e
  |cons m a=>exact .refl _
theorem Je(s:HrShop)(all:List UInt8):af TP 272 [s.pv,.str (bs all)] (.tuple [(aN s all).1.pv,.int .i64 (aN s all).2]):=
 (Hy s all).lessD (PL.tupleL ⟨Ki _,.refl _,trivial⟩)
theorem Qx(a c:List Int)(E D:Bool)(A:a.length<1000000000):af TP 73 [.slice 1 (a.map aI) E,.slice 1 (c.map aI) D] (.bool (a==c)):=by
 refine aa (ag func73 rfl) rfl ?_;simp only[go_sem,simprocAttr];refine aK (λi=>?_) (λi=>?_)<;>simp only[i,go_sem,simprocAttr]
 .have:¬(a=c):=λh=>by subst h;simp at i
  simp[this]
 have z:a.length=c.length:=by simp[bne]at i;omega
 refine ej [0,1] a A (τ:=Unit) (λe rest _=>c.take e.length=e) (λe _=>[(5,.p (.int .i64 e.length))]) () (by simp) ?_ ?_ ?_
 .simp only[go_sem,simprocAttr]<;>simp
 .intro _ o;rw[fC (by omega)]at o;subst o;simp only[go_sem,simprocAttr];simp
 .intro e x rest _ C o hx v u;have j:(e.length:Int)<(c.length:Int):=by omega
  obtain⟨y,l⟩:∃y,c[e.length]?=some y:=⟨_,bO (by omega)⟩
  simp only[v,j,hx,l,go_sem,simprocAttr];refine aK (λi=>?_) (λi=>?_)<;>simp only[i,go_sem,simprocAttr]
  .have:¬(a=c):=λh=>by
    subst h;rw[hx]at l;cases l;simp at i
   simp[this]
  .have q:x=y:=by simpa using i
   refine aD C () (by rw[aL,aV,sG,o,l,q];rfl) ?_;simp only[u,go_sem,simprocAttr]
theorem Qo(a b):af TP 175 [.int .i64 a,.int .i64 b] (.agg [.int .i64 a,.int .i64 b]):=by
 refine aa (ag func175 rfl) rfl ?_;simp only[go_sem,simprocAttr]
def CO:HrShop:=⟨[⟨⟨#[97,108,116,97,114]⟩,⟨100000,101000⟩,1000⟩],[⟨⟨#[99,104,117,114,99,104]⟩,⟨1200,2000⟩,⟨90000,110000⟩⟩,⟨⟨#[108,97,109,112]⟩,⟨1400,2000⟩,⟨0,10000000⟩⟩],100⟩
theorem dM:∀l:List PV,zH l l
 |[]=>trivial
 |x::l=>⟨.refl x,dM l⟩
theorem UD:af TP 135 [] CO.pv:=by
 refine af.lessD (q:=.agg [.slice 4 (CO.kinds.map HrKind.pv) true,.slice 5 (CO.rules.map HrRule.pv) true,.int .i64 100]) ?_ (PL.aggL rfl ⟨PL.sliceL rfl (dM _),PL.sliceL rfl (dM _),.refl _,trivial⟩);refine aa (ag func135 rfl) rfl ?_;simp only[go_sem,simprocAttr];repeat' (refine ae (Qo _ _) rfl ?_;simp only[go_sem,simprocAttr])
 exact⟨rfl,rfl⟩
theorem Cf{x:HrK}(hx:HrKOk x):0<=x.promise/\x.promise<=16666/\x.promise*x.rates.hi<=x.k.weight.lo-x.k.rest/\(x.promise<16666->x.k.weight.lo-x.k.rest<x.rates.hi*(x.promise+1)):=by
 have i:=hx.k;have y:=i.lo;have v:=i.rest;have u:=i.less;have q:=hx.pos;have o:=hx.hi
 have j:=Frac.down_le (f:=⟨x.least.top,x.least.below*60⟩) (show (0:Int)<x.rates.hi*60 by omega);simp only[HrK.least]at j;have e:∀n:Int,n*(x.rates.hi*60)=n*x.rates.hi*60:=λn=>(uc _ _ _).symm;have a:∀n:Int,n<=Frac.down ⟨60*(x.k.weight.lo-x.k.rest),x.rates.hi*60⟩↔n*x.rates.hi<=x.k.weight.lo-x.k.rest:=by
  intro n;rw[j n,e n];omega
 rw[HrK.promise,HrK.least];dsimp only;generalize l:Frac.down ⟨60*(x.k.weight.lo-x.k.rest),x.rates.hi*60⟩=D at a |-;have k0:0<=D:=(a 0).2 (by omega);have k1:=(a D).1 (o9 _);have k2:¬(D+1)*x.rates.hi<=x.k.weight.lo-x.k.rest:=λh=>by have:=(a (D+1)).2 h;omega
 split
 .refine⟨k0,by omega,k1,λ_=>?_⟩;rw[zP];omega
 .refine⟨by omega,by omega,(a _).1 (by omega),λh=>by omega⟩
def R9 (l:List HrTest) (k w r:Int):PV:=.agg [.slice 3 (l.map HrTest.pv) false,.int .u8 k,.int .u32 w,.int .u32 r]
attribute [go_sem] R9
namespace Ch
set_option maxRecDepth 4000
structure SOk (s:ChShop):Prop where
 wax:(Wx.wxCheck s.wax).2.2=0
 blend:(bdCheck s.blend).2.2=0
 wick:Wk.shopErr s.wick=0
 hour:(hrCheck s.hour).2.2=0
 colour:(Cl.clCheck s.colour).2.2=0
theorem SOk.kinds{s}(h:SOk s):s.hour.kinds.length<1000000000:=by
 have h:=h.hour;unfold hrCheck at h;split at h
 .rename_i a;simp[ak]at a;omega
 .cases h
theorem Ce{s}{l}{k}(h:(eh s l k).2=0):0<=(eh s l k).1/\(eh s l k).1<=16666:=by
 unfold eh at h |-;split at h
 .rename_i a;rw[if_pos a];have:=Cf (uQ a).1;exact⟨this.1,this.2.1⟩
 .rename_i a;exact absurd h a
def JI (s:ChShop) (b:ChBooks) (ex:List PV) (q:Except Int (Int×Int)) (r:AEnd) (h':Heap):Prop:=
 h'=B7 s b ex/\r=match q with|.error e=>.panic (gc e)|.ok (k,n)=>.ret (.p (.tuple [.int .i64 k,.int .i64 n]))
theorem Ek(s)(b)(ex)(n)(l:SOk s)(o:BkOk s b n)(kind):ar TP 216 [.ptr 2 1 0 0,.p (.str (bs kind))] (B7 s b ex)
  (JI s b ex (f' s b kind)):=by
 have a:=l.kinds;refine bz (ag func216 rfl) rfl ?_;simp only[ChShop.cells,go_sem,simprocAttr];by_cases i:aq (λx:HrKind=>x.name==bs kind) s.hour.kinds 0<0
 .refine qR (RT s.hour.kinds (bs kind) false a i) rfl (me _) ?_;simp only[f',if_pos i,go_sem,simprocAttr];exact⟨_,[],(bt _).symm,rfl,fi s b ex,trivial,rfl,rfl⟩
 refine ae (SU s.hour.kinds (bs kind) false a (by omega)) rfl ?_;simp only[go_sem,simprocAttr];refine Rd (NP s.hour b.tests (aq (λx:HrKind=>x.name==bs kind) s.hour.kinds 0)) ?_ (.tuple (Flat.cons (.int _ _) (Flat.cons (.int _ _) Flat.nil))) ?_
 .simp only[go_sem,simprocAttr]
 simp only[go_sem,simprocAttr];by_cases e:(eh s.hour b.tests (aq (λx:HrKind=>x.name==bs kind) s.hour.kinds 0)).2=0
 .simp only[e,go_sem,simprocAttr];refine an (λ_=>?_) (λh=>by cases h);simp only[f',if_neg i,go_sem,simprocAttr];exact⟨_,[],(bt _).symm,rfl,fi s b ex,trivial,rfl,by simp only[e];rfl⟩
 .have j:((eh s.hour b.tests (aq (λx:HrKind=>x.name==bs kind) s.hour.kinds 0)).2==0)=false:=by simpa using e
  simp only[j,go_sem,simprocAttr];refine an (λh=>by cases h) (λ_=>?_);simp only[f',if_neg i,if_pos e,go_sem,simprocAttr];exact⟨_,[],(bt _).symm,rfl,fi s b ex,trivial,rfl,rfl⟩
theorem wL(s)(b)(ex)(n)(j:SOk s)(l:BkOk s b n)(kind) :
  (∀e,f' s b kind=.error e->ar TP 216 [.ptr 2 1 0 0,.p (.str (bs kind))] (B7 s b ex) (λr h'=>r=.panic (gc e)/\h'=B7 s b ex)) /\
  (∀k n,f' s b kind=.ok (k,n)->(0<=n/\n<=16666)/\ar TP 216 [.ptr 2 1 0 0,.p (.str (bs kind))] (B7 s b ex) (λr h'=>r=.ret (.p (.tuple [.int .i64 k,.int .i64 n]))/\h'=B7 s b ex)):=by
 refine⟨λe o=>(Ek s b ex n j l kind).mono λr h' a=>?_,λk m i=>⟨?_,(Ek s b ex n j l kind).mono λr h' a=>?_⟩⟩
 .unfold JI at a;rw[o]at a;exact⟨a.2,a.1⟩
 .unfold f' at i;dsimp only at i;split at i
  .cases i
  .split at i
   .cases i
   .rename_i _ q;cases i;exact Ce (by simpa using q)
 .unfold JI at a;rw[i]at a;exact⟨a.2,a.1⟩
theorem sw{P}{H}{Q}{ops}{rest}{dst}{A}{f}{args}{e}(i:ar P f args A.h (λr h'=>r=.panic e/\h'=A.h))
  (j:@WQ ⟨Q⟩ (.panic e) A):@WF ⟨P,H,ops,rest,Q,dst⟩ A f args:=
 cj i (λv h a=>by cases a.1) (λv h a=>by obtain⟨e,rfl⟩:=a;cases e;exact j)
theorem Wf(s)(b)(ex)(n)(E:SOk s)(D:BkOk s b n)(kind)(hours):ar TP 218 [.ptr 2 1 0 0,.p (.str (bs kind)),.p (.int .i64 hours)] (B7 s b ex) (j0 s b ex (aR s b (.box kind hours))):=by
 have C:=wL s b ex n E D kind;have F:=D.boxes;refine bz (ag func218 rfl) rfl ?_;simp only[ChShop.cells,go_sem,simprocAttr]
 cases l:f' s b kind with
 |error e=>
  refine sw (C.1 e l) ?_;simp only[go_sem,simprocAttr]
  exact di (e:=e) (by simp only[aR,l]) [] (bt _).symm
 |ok q=>
  obtain⟨k,m⟩:=q;refine cq (v:=.p (.tuple [.int .i64 k,.int .i64 m])) (h':=B7 s b ex) (C.2 k m l).2 ?_;simp only[go_sem,simprocAttr];refine an (λy=>?_) (λy=>?_);rotate_left
  .have j:¬hours<=m:=by simpa using y
   simp only[go_sem,simprocAttr];exact di (e:=9) (by simp only[aR,l,if_pos j]) [] (bt _).symm
  have j:hours<=m:=by simpa using y
  simp only[go_sem,simprocAttr];have o:¬¬hours<=m:=λh=>h j;refine an (λu=>?_) (λu=>?_);rotate_left
  .have i:¬b.boxes.length<20:=by simp at u;omega
   simp only[go_sem,simprocAttr];exact di (e:=3) (by simp only[aR,l,if_neg o,if_pos i]) [] (bt _).symm
  have i:b.boxes.length<20:=by simp at u;omega
  have A:¬¬b.boxes.length<20:=λh=>h i;have z:b.boxes.length+1<=ao:=by simp only[ao];omega
  simp only[z,go_sem,simprocAttr];exact gR (b':={ b with boxes:=b.boxes++[⟨k,hours⟩] }) (ex':=ex) (a:=oH) (by simp only[aR,l,if_neg o,if_neg A]) [] (by simp only[aL,aV,bD,bK,cf,bt,rQ,go_sem,simprocAttr])
def j2 (x:ChLot):List Word:=[.s (bl x.name),.n x.grams]
def q8 (w:Word):AV:=.p w.pv
theorem Hj(n)(h)(l:List Word):aQ (bV n h) (l.map q8)=some (l.map Word.pv):=dC (eE n h) Word.pv l
theorem S8(n)(x):below n (kS x)=True:=eq_true trivial
theorem NZ(n)(x):below n (cA x)=True:=eq_true trivial
theorem QO(n)(x):below n (oh x)=True:=eq_true trivial
theorem S9(n)(x):below n (rQ x)=True:=eq_true trivial
theorem QN(n)(x):below n (q8 x)=True:=eq_true trivial
attribute [go_sem] Hj S8 NZ QO S9 QN
theorem uk(l:List ChLot):(l.flatMap j2).length=2*l.length:=by
 induction l with
 |nil=>rfl
 |cons x r a=>rw[mC,aL,a];simp[j2];omega
theorem MB(l:List ChLot):(l.flatMap j2).flatMap Word.ws=l.flatMap λx=>[bl x.name,bH x.grams]:=by
 rw[List.flatMap_assoc];rfl
theorem Sd(s)(b)(ex)(n)(E:SOk s)(j:BkOk s b n):ar TP 224 [.ptr 2 1 0 0] (B7 s b ex) (j0 s b ex (aR s b .stock)):=by
 have z:=j.lots;refine bz (ag func224 rfl) rfl ?_;simp only[ChShop.cells,go_sem,simprocAttr];refine cp 3 1 (by simp only[go_sem,simprocAttr]) ?_;simp only[go_sem,simprocAttr];refine bg [10,11] b.lots (by omega) (τ:=Unit) (λe rest _=>True) (λe _=>[(3,.slice 7 (e.flatMap j2).length 0 (e.flatMap j2).length),(12,.p (.int .i64 e.length))]) (λe _=>B7 s b ex++[.row 1 ((e.flatMap j2).map q8)]) () trivial ?_ ?_ ?_
 .simp only[ChShop.cells,wN,go_sem,simprocAttr]
 .intro _ _;by_cases l:b.lots=[]
  .have o:(((b.lots.flatMap j2).length:Int)==0)=true:=by rw[l];rfl
   simp only[ChShop.cells,o,go_sem,simprocAttr];exact gR (b':=b) (ex':=ex) (a:=OD) (by simp only[aR,if_pos l]) [_] rfl
  .have o:(((b.lots.flatMap j2).length:Int)==0)=false:=by
    rw[beq_eq_false_iff_ne,uk];intro h;exact l (sy (by omega))
   simp only[ChShop.cells,o,go_sem,simprocAttr];have q:=oy (b.lots.flatMap j2) false (by rw[uk];omega) (λw hw=>by
    obtain⟨x,hx,hw⟩:=xR.1 hw;have D:=j.grams x hx;have I:=j.names x hx;have G:=j.few;have F:(100000:Int)*(n+1)<=100000*41:=by omega
    simp only[j2,ce,fD,or_false]at hw;rcases hw with rfl|rfl
    .show (bl x.name).length<=1000;unfold bl;have:x.name.data.toList.length=x.name.size:=by show x.name.data.toList.length=x.name.data.size;exact wS
     omega
    .exact⟨D.1,by omega⟩)
   refine aU q ?_ (.str _) ?_
   .simp only[go_sem,simprocAttr]
   simp only[go_sem,simprocAttr];refine gR (b':=b) (ex':=ex) (a:=joinL ((b.lots.flatMap j2).flatMap Word.ws)) (by rw[MB,aR,if_neg l]) [_] rfl
 .intro e w r _ A _ hx y v;have C:kS w=.p w.pv:=rfl;have i:=uk e;have u:2*e.length+2<=ao:=by rw[A]at z;simp at z;simp only[ao];omega
  simp only[ChShop.cells,y,hx,C,i,u,go_sem,simprocAttr];refine aD A () trivial ?_;simp only[v,ub,mC,wN,j2,aL,bD,bt,q8,Word.pv,zw,bK,cf,go_sem,simprocAttr];rw[i]
theorem SOk.colours{s}(h:SOk s):s.colour.colours.length<1000000000:=by
 have:=(Cl.rU h.colour).len;omega
def Hq (x:ClBatch):AV:=.p x.pv
theorem Ur(n)(h)(l:List ClBatch):aQ (bV n h) (l.map Hq)=some (l.map ClBatch.pv):=dC (eE n h) ClBatch.pv l
theorem UL(n)(x):below n (Hq x)=True:=eq_true trivial
attribute [go_sem] Ur UL
def j1 (l:List ChBatch):List ClBatch:=l.map λx=>⟨x.colour,x.grams⟩
theorem Ld(s)(b)(ex)(n)(F:SOk s)(G:BkOk s b n)(c)(o)(m)(e:lA s b c=.ok (o,m)) :
  ar TP 289 [.ptr 2 1 0 0,.p (.str (bs c))] (B7 s b ex) (λr h'=>r=.ret (.p (.tuple [.slice 1 (o.map Cl.pH) false,.int .i64 m]))/\h'=B7 s b ex):=by
 have C:=G.batches;have z:=F.colours;unfold lA at e;dsimp only at e;split at e
 .cases e
 rename_i K;split at e
 .cases e
 rename_i J;have A:Cl.dG s.colour (aq (λx:ClColour=>x.name==bs c) s.colour.colours 0) (eS b)=0:=by simpa using J
 split at e
 .cases e
 rename_i q I;cases e;refine oU (ag func289 rfl) rfl ?_;simp only[ChShop.cells,go_sem,simprocAttr];refine ae (LJ s.colour.colours (bs c) false z (by omega)) rfl ?_;simp only[go_sem,simprocAttr];refine cp 7 2 (by simp only[go_sem,simprocAttr]) ?_;simp only[go_sem,simprocAttr];refine bg [0,6,25,26] b.batches (by omega) (τ:=Unit) (λa rest _=>True) (λa _=>[(7,.slice 7 a.length 0 a.length),(27,.p (.int .i64 a.length))]) (λa _=>B7 s b ex++[.row 2 ((j1 a).map Hq)]) () trivial ?_ ?_ ?_
 .simp only[ChShop.cells,j1,cf,go_sem,simprocAttr]
 .intro _ _;have hw:j1 b.batches=eS b:=rfl;have i:(eS b).length=b.batches.length:=by simp only[eS,dp]
  have D:=Cl.OM s.colour (aq (λx:ClColour=>x.name==bs c) s.colour.colours 0) (eS b) (by rw[i];omega);rw[Cl.ry,if_pos A,I]at D;simp only[ChShop.cells,hw,go_sem,simprocAttr];refine vj D ?_ ?_
  .simp only[i,go_sem,simprocAttr];rw[fC (by rw[dp,i];exact ba _)]
  simp only[go_sem,simprocAttr];refine an (λ_=>?_) (λh=>by cases h);simp only[go_sem,simprocAttr]
 .intro a w r _ E _ hx y v;have j:=vd hx ex;have u:a.length+1<=ao:=by rw[E]at C;simp at C;simp only[ao];omega
  have l:(j1 a).length=a.length:=by simp[j1]
  simp only[ChShop.cells,y,j,u,l,go_sem,simprocAttr];refine aD E () trivial ?_;simp only[v,j1,aL,bD,bK,cf,Hq,ClBatch.pv,go_sem,simprocAttr]
def UR (s:ChShop) (b:ChBooks) (ex:List PV) (e:Int) (r:AEnd) (h':Heap):Prop:=r=.panic (gc e)/\h'=B7 s b ex
theorem Le(s)(b)(ex)(n)(I:SOk s)(L:BkOk s b n)(c)(e)(i:lA s b c=.error e) :
  ar TP 289 [.ptr 2 1 0 0,.p (.str (bs c))] (B7 s b ex) (UR s b ex e):=by
 have E:=L.batches;have l:=I.colours;refine bz (ag func289 rfl) rfl ?_;simp only[ChShop.cells,go_sem,simprocAttr];by_cases q:aq (λx:ClColour=>x.name==bs c) s.colour.colours 0<0
 .have K:e=4:=by
   unfold lA at i;dsimp only at i;rw[if_pos q]at i;cases i;rfl
  subst K;refine qR (RW s.colour.colours (bs c) false l q) rfl (me _) ?_;simp only[go_sem,simprocAttr];exact⟨_,[],(bt _).symm,rfl,fi s b ex,trivial,rfl,rfl⟩
 obtain⟨J,A⟩:Cl.ry s.colour (aq (λx:ClColour=>x.name==bs c) s.colour.colours 0) (eS b)=.tuple [.nilslice,.int .i64 0,.int .i64 e]/\(e==0)=false:=by
  unfold lA at i;dsimp only at i;rw[if_neg q]at i;split at i
  .rename_i o;cases i;rw[Cl.ry,if_neg o];exact⟨rfl,by simpa using o⟩
  .rename_i o;have D:Cl.dG s.colour (aq (λx:ClColour=>x.name==bs c) s.colour.colours 0) (eS b)=0:=by simpa using o
   split at i
   .rename_i M;cases i;rw[Cl.ry,if_pos D,M];exact⟨rfl,rfl⟩
   .cases i
 refine ae (LJ s.colour.colours (bs c) false l (by omega)) rfl ?_;simp only[go_sem,simprocAttr];refine cp 7 2 (by simp only[go_sem,simprocAttr]) ?_;simp only[go_sem,simprocAttr];refine bg [0,6,25,26] b.batches (by omega) (τ:=Unit) (λa rest _=>True) (λa _=>[(7,.slice 7 a.length 0 a.length),(27,.p (.int .i64 a.length))]) (λa _=>B7 s b ex++[.row 2 ((j1 a).map Hq)]) () trivial ?_ ?_ ?_
 .simp only[ChShop.cells,j1,cf,go_sem,simprocAttr]
 .intro _ _;have hw:j1 b.batches=eS b:=rfl;have j:(eS b).length=b.batches.length:=by simp only[eS,dp]
  have F:=Cl.OM s.colour (aq (λx:ClColour=>x.name==bs c) s.colour.colours 0) (eS b) (by rw[j];omega);rw[J]at F;simp only[ChShop.cells,hw,go_sem,simprocAttr];refine vj F ?_ ?_
  .simp only[j,go_sem,simprocAttr];rw[fC (by rw[dp,j];exact ba _)]
  simp only[A,go_sem,simprocAttr];refine an (λh=>by cases h) (λ_=>?_);simp only[go_sem,simprocAttr];exact⟨_,_,rfl,rfl,fi s b ex,trivial,rfl,rfl⟩
 .intro a w r _ G _ hx C z;have u:=vd hx ex;have y:a.length+1<=ao:=by rw[G]at E;simp at E;simp only[ao];omega
  have v:(j1 a).length=a.length:=by simp[j1]
  simp only[ChShop.cells,C,u,y,v,go_sem,simprocAttr];refine aD G () trivial ?_;simp only[z,j1,aL,bD,bK,cf,Hq,ClBatch.pv,go_sem,simprocAttr]
theorem tK{s}{b}{c}{o}{m}(u:SOk s){n}(y:BkOk s b n)(a:lA s b c=.ok (o,m)):o.Perm (List.range b.batches.length)/\0<=m/\m<=210000:=by
 unfold lA at a;dsimp only at a;split at a
 .cases a
 split at a
 .cases a
 split at a
 .cases a
 rename_i q e;cases a;have l:(eS b).length=b.batches.length:=by simp only[eS,dp]
 unfold Cl.zy at e;rw[l]at e;have v:(List.range b.batches.length).length<=7:=by rw[List.length_range];exact y.batches
 have i:=Cl.mJ (need:=Cl.iS s.colour (eS b)) (col:=Cl.lE (eS b)) (λc j n h=>by
  unfold Cl.iS at h;split at h
  .exact Cl.Ah (Cl.rU u.colour) h
  .cases h) 7 (aq (λx:ClColour=>x.name==bs c) s.colour.colours 0) (List.range b.batches.length)
 rw[e]at i;refine⟨Cl.B2 v e,?_,?_⟩
 .exact(i o m rfl).1
 .have:=(i o m rfl).2;omega
def jm (b:ChBooks) (o:List Nat):List Word:=o.map λi=>.s (qt b.batches i)
theorem Pt(b)(o)(m):(jm b o++[Word.n m]).flatMap Word.ws=o.map (qt b.batches)++[bH m]:=by
 rw[ub]
 congr 1
 induction o with
 |nil=>rfl
 |cons x r a=>simp only[jm,bK,mC]at a |-;rw[a];rfl
theorem Iy{s}{b}{n}(a:BkOk s b n)(i):(qt b.batches i).length<=1000:=by
 unfold qt;split
 .rename_i x hx;have h:=(a.waits x (aG hx)).2.2;unfold bl;have:x.name.data.toList.length=x.name.size:=by show x.name.data.toList.length=x.name.data.size;exact wS
  omega
 .exact de _
theorem CQ(s)(b)(ex)(n)(C:SOk s)(A:BkOk s b n)(c):ar TP 212 [.ptr 2 1 0 0,.p (.str (bs c))] (B7 s b ex) (j0 s b ex (aR s b (.plan c))):=by
 have R:=A.batches;refine bz (ag func212 rfl) rfl ?_;simp only[ChShop.cells,go_sem,simprocAttr]
 cases z:lA s b c with
 |error e=>
  refine sw (Le s b ex n C A c e z) ?_;simp only[go_sem,simprocAttr]
  exact di (e:=e) (by simp only[aR,z]) [] (bt _).symm
 |ok q=>
  obtain⟨o,m⟩:=q;obtain⟨L,N,S⟩:=tK C A z;have fl:o.length=b.batches.length:=by rw[L.length_eq,List.length_range]
  refine cq (v:=.p (.tuple [.slice 1 (o.map Cl.pH) false,.int .i64 m])) (h':=B7 s b ex) (Ld s b ex n C A c o m z) ?_;simp only[go_sem,simprocAttr];refine cp 7 1 (by simp only[go_sem,simprocAttr]) ?_;simp only[go_sem,simprocAttr];refine bg [0,6,16,17] o (by omega) (τ:=Unit) (λj rest _=>True) (λj _=>[(7,.slice 7 j.length 0 j.length),(18,.p (.int .i64 j.length))]) (λj _=>B7 s b ex++[.row 1 ((jm b j).map q8)]) () trivial ?_ ?_ ?_
  .simp only[ChShop.cells,jm,cf,go_sem,simprocAttr]
  .intro _ _;have l:(jm b o).length=o.length:=by simp[jm]
   have u:o.length+1<=ao:=by simp only[ao];omega
   simp only[ChShop.cells,l,u,go_sem,simprocAttr];have G:=oy (jm b o++[.n m]) false (by rw[aL,l];simp;omega) (λw hw=>by
    rcases ck.1 hw with hw|hw
    .obtain⟨i,_,rfl⟩:=cX.1 hw;exact Iy A i
    .simp at hw;subst hw
     exact⟨N,by omega⟩)
   refine aU G ?_ (.str _) ?_
   .have e:(jm b o).map q8++[AV.p (.iface 3 (.int .i64 m))]=(jm b o++[Word.n m]).map q8:=by rw[bD];rfl
    have O:o.length+1=(jm b o++[Word.n m]).length:=by rw[aL,l];rfl
    simp only[e,Hj,go_sem,simprocAttr];rw[O,if_pos rfl];show some [PV.slice 1 (List.take (jm b o++[Word.n m]).length (List.map Word.pv (jm b o++[Word.n m]))) false]=_;rw[fC (by rw[dp];exact ba _)]
   simp only[go_sem,simprocAttr];exact gR (b':=b) (ex':=ex) (a:=joinL ((jm b o++[Word.n m]).flatMap Word.ws)) (by rw[Pt];simp only[aR,z]) [_] rfl
  .intro j w r _ D _ hx J I;have hw:w<b.batches.length:=by
    have:w∈o:=by rw[D];simp
    have:=L.mem_iff.1 this;exact xQ.1 this
   obtain⟨y,K⟩:∃y,b.batches[w]?=some y:=⟨_,bO hw⟩
   have E:=vd K ex;have M:qt b.batches w=bl y.name:=by rw[qt,K]
   have F:(w:Int)<(b.batches.length:Int):=by omega
   have u:j.length+1<=ao:=by rw[D]at fl;simp at fl;simp only[ao];omega
   have l:(jm b j).length=j.length:=by simp[jm]
   simp only[ChShop.cells,J,hx,Cl.pH,E,F,u,l,go_sem,simprocAttr];refine aD D () trivial ?_;simp only[I,jm,aL,bD,bK,cf,q8,Word.pv,M,zw,go_sem,simprocAttr]
def pb (l:List ChBatch):Int:=(l.map (·.grams)).sum
theorem pC{s}{b}{n}(a:BkOk s b n):∀d,(∀x,x∈d->x∈b.batches)->0<=pb d/\pb d<=100000*d.length
 |[],_=>by simp[pb]
 |x::r,h=>by
  have e:=pC a r (λy i=>h y (by simp[i]));have hx:=(a.waits x (h x (by simp))).1;simp only[pb,bK,List.sum_cons,dB]at e |-;omega
theorem Uk(s)(b)(ex)(n)(A:SOk s)(j:BkOk s b n)(c):ar TP 214 [.ptr 2 1 0 0,.p (.str (bs c))] (B7 s b ex) (j0 s b ex (aR s b (.pour c))):=by
 have L:=j.batches;refine bz (ag func214 rfl) rfl ?_;simp only[ChShop.cells,go_sem,simprocAttr]
 cases y:lA s b c with
 |error e=>
  refine sw (Le s b ex n A j c e y) ?_;simp only[go_sem,simprocAttr]
  exact di (e:=e) (by simp only[aR,y]) [] (bt _).symm
 |ok q=>
  obtain⟨o,m⟩:=q;obtain⟨S,M,R⟩:=tK A j y;refine cq (v:=.p (.tuple [.slice 1 (o.map Cl.pH) false,.int .i64 m])) (h':=B7 s b ex) (Ld s b ex n A j c o m y) ?_;simp only[go_sem,simprocAttr];refine bg [0,6,19,20] b.batches (by omega) (τ:=Unit) (λi rest _=>True) (λi _=>[(21,.p (.int .i64 i.length))]) (λi _=>B7 s { b with poured:=b.poured+pb i } ex) () trivial ?_ ?_ ?_
  .simp only[ChShop.cells,pb,cf,List.sum_nil,ud,go_sem,simprocAttr]
  .intro _ _;have z:=pC j b.batches (λx hx=>hx);have F:=j.poured;have N:=j.lost;have E:=j.few;have u:IntKind.i64.wrap (b.lost+m)=b.lost+m:=am (by omega) (by omega);simp only[ChShop.cells,u,go_sem,simprocAttr];have G:=oy [.n m] true (by simp) (λw hw=>by
    simp only[ce,fD,or_false]at hw;subst hw
    exact⟨M,by omega⟩)
   refine ae G rfl ?_;simp only[go_sem,simprocAttr];exact Qe (b':={ b with poured:=b.poured+Mx b.batches,batches:=[],lost:=b.lost+m }) (l:=b.batches) (x:=ex) (a:=joinL ([Word.n m].flatMap Word.ws)) (by simp only[aR,y];rfl) rfl [] (bt _).symm
  .intro i w r _ C _ hx J I;have D:=vd hx ex;have z:=pC j (i++[w]) (λx hx=>by rw[C];simp at hx |-;rcases hx with h|h;exact .inl h;exact .inr (.inl h));have K:pb (i++[w])=pb i+w.grams:=by simp[pb]
   have O:(i++[w]).length<=7:=by rw[C]at L;simp at L |-;omega
   have F:=j.poured;have E:=j.few;have u:IntKind.i64.wrap (b.poured+pb i+w.grams)=b.poured+(pb i+w.grams):=by rw[Int.add_assoc];exact am (by omega) (by omega)
   simp only[ChShop.cells,J,D,u,go_sem,simprocAttr];refine aD C () trivial ?_;simp only[I,K,ChShop.cells,go_sem,simprocAttr]
end Ch
end Abs
end Go.Proofs.YtmndpldajflenaaGreatDoor
