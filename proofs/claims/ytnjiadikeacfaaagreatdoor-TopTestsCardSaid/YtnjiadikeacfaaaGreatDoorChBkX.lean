/- CONTRACTS of the program's functions, and laws on what they return. No conditions but those in the theorems' heads. -/
import Derived.Test.YtnjiadikeacfaaaGreatDoorChMustX
set_option linter.all false
open Go.Proofs.Tryz renaming prog->TP
namespace Go.Proofs.YtnjiadikeacfaaaGreatDoor
namespace Abs
namespace Ch
set_option maxRecDepth 4000
def kZ (x:ChLot):AV:=.p x.pv
def cC (x:ChBatch):AV:=.p x.pv
def ow (x:HrTest):AV:=.p x.pv
def sA (x:HrBox):AV:=.p x.pv
def B7 (s:ChShop) (b:ChBooks) (ex:List PV):Heap:=
 [.dead,.dead,.row 23 [.agg ([.slice 3 b.lots.length 0 b.lots.length,.slice 4 (b.batches.length+ex.length) 0 b.batches.length,.slice 5 b.tests.length 0 b.tests.length,.slice 6 b.boxes.length 0 b.boxes.length,.p (.int .i64 b.poured),.p (.int .i64 b.lost)]++s.cells.map .p)],
  .row 4 (b.lots.map kZ),.row 4 (b.batches.map cC++ex.map .p),.row 3 (b.tests.map ow),.row 2 (b.boxes.map sA)]
attribute [go_sem] B7
theorem fi(s)(b)(ex):∀o,o∈B7 s b ex->bf 7 o:=by
 intro o ho;simp only[B7,ce,fW,or_false]at ho;rcases ho with rfl|rfl|rfl|rfl|rfl|rfl|rfl
 .trivial
 .trivial
 .intro x hx;simp only[dA]at hx;subst hx;intro c hc;simp only[ChShop.cells,bD,bj,b7,ce,fW,or_false]at hc;rcases hc with(rfl|rfl|rfl|rfl|rfl|rfl)|hc
  .show 3<7;decide
  .show 4<7;decide
  .show 5<7;decide
  .show 6<7;decide
  .trivial
  .trivial
  .rcases hc with rfl|rfl|rfl|rfl|rfl|rfl|rfl|rfl|rfl|rfl|rfl|rfl|rfl|rfl|rfl|rfl|rfl<;>trivial
 .intro x hx;obtain⟨y,_,rfl⟩:=dN.1 hx;trivial
 .intro x hx;rcases b7.1 hx with hx|hx
  .obtain⟨y,_,rfl⟩:=dN.1 hx;trivial
  .obtain⟨y,_,rfl⟩:=dN.1 hx;trivial
 .intro x hx;obtain⟨y,_,rfl⟩:=dN.1 hx;trivial
 .intro x hx;obtain⟨y,_,rfl⟩:=dN.1 hx;trivial
def wu (s:ChShop) (b:ChBooks) (l:List ChBatch) (ex:List PV):Heap:=
 [.dead,.dead,.row 23 [.agg ([.slice 3 b.lots.length 0 b.lots.length,.p .nilslice,.slice 5 b.tests.length 0 b.tests.length,.slice 6 b.boxes.length 0 b.boxes.length,.p (.int .i64 b.poured),.p (.int .i64 b.lost)]++s.cells.map .p)],
  .row 4 (b.lots.map kZ),.row 4 (l.map cC++ex.map .p),.row 3 (b.tests.map ow),.row 2 (b.boxes.map sA)]
attribute [go_sem] wu
theorem CZ(s)(b)(l)(ex):∀o,o∈wu s b l ex->bf 7 o:=by
 intro o ho;by_cases h:o=.row 23 [.agg ([.slice 3 b.lots.length 0 b.lots.length,.p .nilslice,.slice 5 b.tests.length 0 b.tests.length,.slice 6 b.boxes.length 0 b.boxes.length,.p (.int .i64 b.poured),.p (.int .i64 b.lost)]++s.cells.map .p)]
 .subst h;intro x hx;simp only[dA]at hx;subst hx;intro c hc;simp only[ChShop.cells,bD,bj,b7,ce,fW,or_false]at hc;rcases hc with(rfl|rfl|rfl|rfl|rfl|rfl)|hc
  .show 3<7;decide
  .trivial
  .show 5<7;decide
  .show 6<7;decide
  .trivial
  .trivial
  .rcases hc with rfl|rfl|rfl|rfl|rfl|rfl|rfl|rfl|rfl|rfl|rfl|rfl|rfl|rfl|rfl|rfl|rfl<;>trivial
 .refine fi s { b with batches:=l } ex o ?_;simp only[wu,B7,ce,fW,or_false]at ho |-;rcases ho with ho|ho|ho|ho
  .exact .inl ho
  .exact .inr (.inl ho)
  .exact absurd ho h
  .exact .inr (.inr (.inr ho))
def j4 (s:ChShop) (b:ChBooks) (ex:List PV) (q:Except Int (ChBooks×List UInt8)) (r:AEnd) (h':Heap):Prop:=
 match q with
 |.error e=>r=.panic (f9 e)/\h'=B7 s b ex
 |.ok (b',a)=>r=.ret (.p (.str (bs a)))/\((∃ex',h'=B7 s b' ex')\/(b'.batches=[]/\∃l x,h'=wu s b' l x))
theorem dl{s}{b}{ex}{q}{e}(hq:q=.error e){hh}(t)(hd:hh=B7 s b ex++t) :
  ∃h' t,hh=h'++t/\h'.length=7/\(∀o,o∈h'->bf h'.length o)/\A0 (.panic (f9 e))/\j4 s b ex q (.panic (f9 e)) h':=by
 subst hq;exact⟨_,t,hd,rfl,fi s b ex,trivial,rfl,rfl⟩
theorem gX{s}{b b'}{ex ex'}{q}{a}(hq:q=.ok (b',a)){hh}(t)(hd:hh=B7 s b' ex'++t) :
  ∃h' t,hh=h'++t/\h'.length=7/\(∀o,o∈h'->bf h'.length o)/\A0 (.ret (.p (.str (bs a))))/\j4 s b ex q (.ret (.p (.str (bs a)))) h':=by
 subst hq;exact⟨_,t,hd,rfl,fi s b' ex',trivial,rfl,.inl ⟨_,rfl⟩⟩
theorem Rq{s}{b b'}{ex}{l}{x}{q}{a}(hq:q=.ok (b',a))(h0:b'.batches=[]){hh}(t)(hd:hh=wu s b' l x++t) :
  ∃h' t,hh=h'++t/\h'.length=7/\(∀o,o∈h'->bf h'.length o)/\A0 (.ret (.p (.str (bs a))))/\j4 s b ex q (.ret (.p (.str (bs a)))) h':=by
 subst hq;exact⟨_,t,hd,rfl,CZ s b' l x,trivial,rfl,.inr ⟨h0,_,_,rfl⟩⟩
theorem vO(n)(h)(l:List ChLot):aS (ci n h) (l.map kZ)=some (l.map ChLot.pv):=de (ef n h) ChLot.pv l
theorem Ot(n)(h)(l:List ChBatch):aS (ci n h) (l.map cC)=some (l.map ChBatch.pv):=de (ef n h) ChBatch.pv l
theorem sQ(n)(h)(l:List HrTest):aS (ci n h) (l.map ow)=some (l.map HrTest.pv):=de (ef n h) HrTest.pv l
theorem vP(n)(h)(l:List HrBox):aS (ci n h) (l.map sA)=some (l.map HrBox.pv):=de (ef n h) HrBox.pv l
theorem wY(n)(h)(l:List ChBatch)(ex):aS (ci n h) (l.map cC++ex.map .p)=some (l.map ChBatch.pv++ex):=by
 have:=Cl.Q4 (ef n h) (l.map ChBatch.pv) ex;rw[th]at this;exact this
theorem Is(l:List ChBatch)(ex:List PV):(l.map cC++ex.map AV.p).length=l.length+ex.length:=by simp
attribute [go_sem] vO Ot sQ vP wY Is
theorem wi{l:List ChBatch}{i:Nat}{x}(h:l[i]?=some x)(ex:List PV):(l.map cC++ex.map AV.p)[i]?=some (.p x.pv):=by
 have hi:i<l.length:=(ax.1 h).1;rw[aZ (by simpa using hi),cz,h];rfl
structure BkOk (s:ChShop) (b:ChBooks) (n:Nat):Prop where
 lots:b.lots.length<=8
 batches:b.batches.length<=7
 tests:b.tests.length<=8
 boxes:b.boxes.length<=20
 grams:∀x,x∈b.lots->0<=x.grams/\x.grams<=100000*(n+1)
 names:∀x,x∈b.lots->x.name.size<=20
 waits:∀x,x∈b.batches->(1<=x.grams/\x.grams<=100000)/\(0<=x.lot/\x.lot<b.lots.length)/\x.name.size<=20
 poured:0<=b.poured/\b.poured<=700000*n
 lost:0<=b.lost/\b.lost<=300000*n
 few:n<=40
theorem J9(s):bs (bl s)=s:=wb s
theorem CG(s)(l):∀(bx) (i),(∀j,j∈(bR s l i bx).1->(i)<=j/\j<i+bx.length)/\(bR s l i bx).1.length<=bx.length/\((bR s l i bx).2≠0->(bR s l i bx).1=[])
 |[],i=>by simp[bR]
 |b::r,i=>by
  obtain⟨h1,h2,h3⟩:=CG s l r (i+1);rw[bR];split
  .split
   .refine⟨λj hj=>?_,?_,λh=>absurd rfl h⟩
    .rcases b7.1 hj with hj|hj
     .split at hj
      .simp at hj;subst hj;simp;omega
      .simp at hj
     .have:=h1 j hj;simp at this |-;omega
    .rw[aK,cc];split<;>simp<;>omega
   .exact⟨by simp,by simp,λ_=>rfl⟩
  .exact⟨by simp,by simp,λ_=>rfl⟩
theorem MH(s)(l)(bx)(hb:bx.length<=20):(∀j,j∈(bG s l bx).1->0<=j/\j<1000000000)/\(bG s l bx).1.length<=1000/\((bG s l bx).2≠0->(bG s l bx).1=[]):=by
 obtain⟨h1,h2,h3⟩:=CG s l bx 0;unfold bG;split
 .split
  .exact⟨by simp,by simp,λ_=>rfl⟩
  .exact⟨λj hj=>by have:=h1 j hj;simp at this;omega,by omega,h3⟩
 .exact⟨by simp,by simp,λ_=>rfl⟩
theorem JL(s)(b)(ex)(n)(hb:BkOk s b n):aB TP 148 [.ptr 2 1 0 0] (B7 s b ex) (j4 s b ex (aP s b .look)):=by
 obtain⟨k1,k2,k3⟩:=MH s.hour b.tests b.boxes hb.boxes;refine bK (ah Tryz.func148 rfl (by kernel_rfl)) rfl ?_;simp only[ChShop.cells,go_sem,simprocAttr];refine Sm (QN s.hour b.tests b.boxes) ?_ ?_
 .simp only[go_sem,simprocAttr]
 by_cases h0:(bG s.hour b.tests b.boxes).1=[]
 .have hv:ij (bG s.hour b.tests b.boxes)=.nilslice\/ij (bG s.hour b.tests b.boxes)=.slice 1 [] false:=by
   unfold ij;split
   .exact .inr (by rw[h0];rfl)
   .exact .inl rfl
  have ha:aP s b .look=.ok (b,BQ):=by rw[aP,if_pos h0]
  rcases hv with hv|hv
  all_goals (
   simp only[hv,go_sem,simprocAttr]
   exact gX ha [] (bw _).symm)
 .have h2:(bG s.hour b.tests b.boxes).2=0:=Classical.byContradiction λh=>h0 (k3 h);have hv:ij (bG s.hour b.tests b.boxes)=.slice 1 ((bG s.hour b.tests b.boxes).1.map aG) false:=by rw[ij,if_pos h2];rfl
  have ha:aP s b .look=.ok (b,joinL (wC::(bG s.hour b.tests b.boxes).1.map bC)):=by rw[aP,if_neg h0]
  have hlen:(((bG s.hour b.tests b.boxes).1.length:Int)==0)=false:=by
   rw[beq_eq_false_iff_ne];intro h;exact h0 (ot (by omega))
  simp only[hv,hlen,go_sem,simprocAttr];have hs:=oG [.s wC,.ns (bG s.hour b.tests b.boxes).1] true (by simp) (λw hw=>by
   simp only[ce,fW,or_false]at hw;rcases hw with rfl|rfl
   .show (6:Nat)<=1000;decide
   .exact⟨k2,k1⟩)
  refine ae hs rfl ?_;simp only[go_sem,simprocAttr];exact gX (a:=joinL ([Word.s wC,.ns (bG s.hour b.tests b.boxes).1].flatMap Word.ws)) (by simpa[Word.ws]using ha) [] (bw _).symm
end Ch
theorem sS{c:UInt8}:∀{a:List UInt8} (b:List UInt8),c∉a->aH c (a++c::b)=(a,some b)
 |[],b,_=>by simp[aH]
 |x::a,b,h=>by
  have hx:¬x=c:=λe=>h (by simp[e]);have ih:=sS (a:=a) b (λhm=>h (xY _ hm));rw[eW,aH,if_neg hx,ih]
theorem Ib{c:UInt8}:∀{a:List UInt8},c∉a->aH c a=(a,none)
 |[],_=>rfl
 |x::a,h=>by
  have hx:¬x=c:=λe=>h (by simp[e]);have ih:=Ib (a:=a) (λhm=>h (xY _ hm));rw[aH,if_neg hx,ih]
theorem jM{c:UInt8}{a:List UInt8}(b:List UInt8)(h:c∉a):aQ c (a++c::b)=a::aQ c b:=by
 have h1:=sS b h;rw[lH (r:=b) (by rw[h1]),h1]
theorem va{c:UInt8}{a:List UInt8}(h:c∉a):aQ c a=[a]:=lI (by rw[Ib h])
theorem I1(c:UInt8)(l:List UInt8):ov c (l++[c])=l:=by simp[ov]
theorem qO:∀(l:List UInt8) (last:Int),dp l last=true->∀c,c∈l->c.toNat=45\/(97<=c.toNat/\c.toNat<=122)
 |[],_,_,c,h=>by cases h
 |x::l,last,h,c,hc=>by
  rw[dp]at h;split at h
  .cases h
  .rename_i hb;rcases ce.1 hc with rfl|hc
   .simp[pJ]at hb;omega
   .exact qO l _ h c hc
theorem wO{b:ByteArray}(h:nameOk b=true):(10:UInt8)∉b.data.toList/\(32:UInt8)∉b.data.toList:=by
 unfold nameOk at h;rw[dD]at h;have:=qO _ _ h.1;refine⟨λhm=>?_,λhm=>?_⟩
 .have:=this _ hm;simp at this
 .have:=this _ hm;simp at this
theorem q8(n:Int):(10:UInt8)∉bC n/\(32:UInt8)∉bC n:=by
 have:=qa n.toNat;refine⟨λhm=>?_,λhm=>?_⟩
 .have:=this _ hm;simp at this
 .have:=this _ hm;simp at this
def ky (m:HrMark):List UInt8:=bC m.minute++32::bC m.weight
def lq:List HrMark->List UInt8
 |[]=>[]
 |[m]=>ky m
 |m::q::r=>ky m++10::lq (q::r)
theorem Cj(m:HrMark):hH m=ky m++[10]:=by simp[hH,ky,sp,nl]
theorem wI(m:HrMark):(10:UInt8)∉ky m:=by
 have h1:=q8 m.minute;have h2:=q8 m.weight;simp[ky,h1.1,h2.1]
theorem Cx:∀(l:List HrMark),l≠[]->(l.map hH).flatten=lq l++[10]
 |[],h=>absurd rfl h
 |[m],_=>by simp[lq,Cj]
 |m::q::r,_=>by
  have ih:=Cx (q::r) (by simp);rw[bD,DU,ih,Cj,lq];simp
theorem zl:∀(l:List HrMark),l≠[]->aQ 10 (lq l)=l.map ky
 |[],h=>absurd rfl h
 |[m],_=>by rw[lq,va (wI m)];rfl
 |m::q::r,_=>by
  have ih:=zl (q::r) (by simp);rw[lq,jM _ (wI m),ih];rfl
theorem uJ:∀(l:List HrMark),l≠[]->aQ 10 (lq l++[10])=l.map ky++[[]]
 |[],h=>absurd rfl h
 |[m],_=>by rw[lq,jM [] (wI m)];rfl
 |m::q::r,_=>by
  have ih:=uJ (q::r) (by simp);rw[lq,dq,eW,jM _ (wI m),ih];rfl
theorem Rp(m:HrMark):aH 32 (ky m)=(bC m.minute,some (bC m.weight)):=sS _ (q8 _).2
theorem KU(m:HrMark):aQ 32 (ky m)=[bC m.minute,bC m.weight]:=by
 rw[ky,jM _ (q8 _).2,va (q8 _).2]
theorem GL{m:HrMark}(h:0<=m.minute/\m.minute<=1000000/\0<=m.weight/\m.weight<=10000000):dv (ky m)=some m:=by
 simp only[dv,Rp,yt h.1 (by omega),yt h.2.2.1 h.2.2.2]
theorem xn:∀(l acc:List HrMark),(∀m,m∈l->0<=m.minute/\m.minute<=1000000/\0<=m.weight/\m.weight<=10000000)->ea acc (l.map ky)=some (acc++l)
 |[],acc,_=>by simp[ea]
 |m::l,acc,h=>by
  rw[bD,ea,GL (h m (by simp))];dsimp only;rw[xn l _ λq hq=>h q (by simp[hq])];simp
theorem yr{n:Int}(h0:0<=n)(h1:n<=10000000):EG (bC n)=n:=by
 obtain⟨m,rfl⟩:=pq h0;have hl:=kp h0 h1;have hne:(bC (m:Int)).length≠0:=λh=>q9 (m:Int).toNat (tv.1 h);have hg:al ((bC (m:Int)).length:Int) 1 8=true:=by simp[al];omega
 have hf:Lib.decFrom 0 (bC (m:Int))=some m:=by unfold bC;rw[jO];exact xI m
 rw[EG,hg,hf];rfl
theorem zN(nm:ByteArray):∀(l:List HrKind) (i:Nat) (acc:Int),(∀k,k∈l->¬k.name=nm)->mG nm l i acc=acc
 |[],_,_,_=>rfl
 |k::r,i,acc,h=>by
  have hk:(k.name==nm)=false:=IR.2 λhe=>h k (by simp) ((qd _ _).1 he);rw[mG,hk];exact zN nm r _ _ λq hq=>h q (by simp[hq])
theorem zO(nm:ByteArray):∀(a:List HrKind) (k:HrKind) (r:List HrKind) (i:Nat) (acc:Int),k.name=nm->(∀q,q∈r->¬q.name=nm)->mG nm (a++k::r) i acc=((i+a.length:Nat):Int)
 |[],k,r,i,acc,h1,h2=>by
  have hk:(k.name==nm)=true:=(qd _ _).2 h1;rw[gR,mG,hk,zN nm r _ _ h2]
  simp
 |x::a,k,r,i,acc,h1,h2=>by
  rw[eW,mG,zO nm a k r _ _ h1 h2];simp;omega
theorem H1{α:Type}(p:α->Bool):∀(a:List α) (k:α) (r:List α) (i:Nat),p k=true->(∀q,q∈a->p q=false)->az p (a++k::r) i=((i+a.length:Nat):Int)
 |[],k,r,i,h1,_=>by simp[az,h1]
 |x::a,k,r,i,h1,h2=>by
  rw[eW,az,h2 x (by simp)];have:=H1 p a k r (i+1) h1 λq hq=>h2 q (by simp[hq]);rw[if_neg (by simp),this];simp;omega
theorem Js{s:HrShop}(hc:(hrCheck s).2.2=0){n:Nat}{k:HrKind}(hk:s.kinds[n]?=some k) :
  s.kinds=s.kinds.take n++k::s.kinds.drop (n+1)/\(s.kinds.take n).length=n/\(∀q,q∈s.kinds.take n->¬q.name=k.name)/\∀q,q∈s.kinds.drop (n+1)->¬q.name=k.name:=by
 have hl:=(ax.1 hk).1;have h1:=AM hl;rw[(ax.1 hk).2]at h1;refine⟨by rw[<-h1,rC],by rw[Dv];omega,λq hq e=>?_,λq hq e=>?_⟩
 .obtain⟨i,hi⟩:=dz hq;rw[jp]at hi;split at hi
  .rename_i hlt;have:=vw hc hi hk e;omega
  .cases hi
 .obtain⟨i,hi⟩:=dz hq;rw[sc]at hi;have:=vw hc hi hk e;omega
theorem zr(s:HrShop):∀(l:List HrMark) (k e:Int) (acc:List HrMark),(∀m,m∈l->0<=m.minute/\m.minute<=1000000/\0<=m.weight/\m.weight<=10000000) ->
  wH s false ⟨k,e,acc⟩ (l.map ky++[[]])=⟨k,e,acc++l⟩
 |[],k,e,acc,_=>by simp[wH]
 |m::l,k,e,acc,h=>by
  have hm:=h m (by simp);have ih:=zr s l k e (acc++[m]) λq hq=>h q (by simp[hq]);have hst:zj s false ⟨k,e,acc⟩ (ky m)=⟨k,e,acc++[m]⟩:=by
   simp only[zj,KU,yr hm.1 (show m.minute<=10000000 by omega),yr hm.2.2.1 hm.2.2.2]
  rw[bD,eW]
  cases hr:l.map ky++[[]] with
  |nil=>simp at hr
  |cons a b=>
   rw[wH,hst,<-hr,ih];simp
theorem tR{s:HrShop}{t:HrTest}(hc:(hrCheck s).2.2=0)(ht:aO s.kinds.length t=0):nd s (dQ s t)=some t/\vq s (dQ s t)=t:=by
 obtain⟨hok,k0,k1⟩:=eX ht;obtain⟨n,hn⟩:=pq k0;have hnl:n<s.kinds.length:=by omega
 obtain⟨k,hk⟩:∃k,s.kinds[n]?=some k:=⟨_,bA hnl⟩
 have hko:=mH hc (aT hk);obtain⟨n10,n32⟩:=wO hko.name;obtain⟨d10,d32⟩:=q8 t.error;have hms:t.marks≠[]:=by intro h;have:=hok.two;rw[h]at this;simp at this
 have htx:dQ s t=([116,101,115,116]++32::(k.name.data.toList++32::bC t.error))++10::(lq t.marks++[10]):=by
  rw[dQ,hn,jO,hk,mM,kL,Cx _ hms];simp[ka,nJ,sp,nl]
 have hno:(10:UInt8)∉([116,101,115,116]++32::(k.name.data.toList++32::bC t.error)):=by simp[n10,d10]
 have hcut:aH 10 (dQ s t)=([116,101,115,116]++32::(k.name.data.toList++32::bC t.error),some (lq t.marks++[10])):=by rw[htx];exact sS _ hno
 have hwd:aQ 32 ([116,101,115,116]++32::(k.name.data.toList++32::bC t.error))=[[116,101,115,116],k.name.data.toList,bC t.error]:=by
  rw[jM _ (by decide),jM _ n32,va d32]
 obtain⟨s1,s2,s3,s4⟩:=Js hc hk;have hid:ql s.kinds (bs k.name.data.toList)=t.kind:=by
  rw[wb,ql,s1,H1 (λq=>q.name==k.name) _ k _ 0 ((qd _ _).2 rfl) (λq hq=>IR.2 λhe=>s3 q hq ((qd _ _).1 he)),s2,hn];simp
 have hli:mG (bs k.name.data.toList) s.kinds 0 (-1)=t.kind:=by
  rw[wb,s1,zO _ _ k _ 0 _ rfl s4,s2,hn];simp
 have hne:=yt hok.err.1 (by have:=hok.err.2;omega);have hnr:=yr hok.err.1 (by have:=hok.err.2;omega);refine⟨?_,?_⟩
 .have hw:oK (dQ s t)=[[116,101,115,116],k.name.data.toList,bC t.error]:=by rw[oK,hcut];exact hwd
  have hr:tL (dQ s t)=lq t.marks:=by rw[tL,hcut];exact I1 _ _
  rw[nd,hw];dsimp only;rw[hne,hr,zl _ hms,xn _ _ hok.all,hid];rfl
 .have hsp:aQ 10 (dQ s t)=([116,101,115,116]++32::(k.name.data.toList++32::bC t.error))::(t.marks.map ky++[[]]):=by
   rw[htx,jM _ hno,uJ _ hms]
  have hst:zj s true ⟨-1,0,[]⟩ ([116,101,115,116]++32::(k.name.data.toList++32::bC t.error))=⟨t.kind,t.error,[]⟩:=by
   simp only[zj,hwd,hli,hnr]
  rw[vq,hsp]
  cases hr:t.marks.map ky++[[]] with
  |nil=>simp at hr
  |cons a b=>
   rw[wH,hst,<-hr,zr s _ _ _ _ hok.all];simp
theorem rU{s:HrShop}{all:List UInt8}{t:HrTest}:ma s all t=true↔aO s.kinds.length t=0/\dQ s t=all:=by simp[ma]
theorem yq(s:HrShop):bn s []=(hrCheck s).2.2:=by
 unfold bn;split
 .rename_i h;rw[h];rfl
 .rfl
theorem B6(s:HrShop)(all:List UInt8):aM s all=wV s all:=by
 rw[aM,wV,yq];split
 .rename_i hc;split
  .rfl
  .cases hg:ma s all (vq s all) with
   |true=>
    obtain⟨h1,h2⟩:=rU.1 hg;have:=(tR hc h1).1;rw[h2]at this;rw[this];dsimp only
    rw[hg]
   |false=>
    rw[if_neg (by simp)]
    cases hp:nd s all with
    |none=>rfl
    |some t=>
     dsimp only;split
     .rename_i hgt;obtain⟨h1,h2⟩:=rU.1 hgt;have:=(tR hc h1).2;rw[h2]at this;rw[this,hgt]at hg;cases hg
     .rfl
 .rfl
theorem K6{s:HrShop}{all:List UInt8}(h:(aM s all).2=0):(hrCheck s).2.2=0/\aO s.kinds.length (aM s all).1=0/\dQ s (aM s all).1=all:=by
 rw[B6]at h |-;unfold wV at h |-;split at h
 .rename_i hc;split at h
  .cases h
  .rename_i h3;split at h
   .rename_i hg;rw[if_pos hc,if_neg h3,if_pos hg];exact⟨hc,rU.1 hg⟩
   .cases h
 .contradiction
theorem NR{s:HrShop}{all:List UInt8}(h:(aM s all).2≠0):(aM s all).1=dc:=by
 rw[B6]at h |-;unfold wV at h |-;split at h
 .split at h
  .rename_i hc h3;rw[if_pos hc,if_pos h3]
  .rename_i hc h3;split at h
   .exact absurd rfl h
   .rename_i hg;rw[if_pos hc,if_neg h3,if_neg hg]
 .rename_i hc;rw[if_neg hc]
theorem qY:∀l:List HrMark,(∀m,m∈l->(hH m).length<=18)->(l.map hH).flatten.length<=18*l.length
 |[],_=>by simp
 |m::l,h=>by
  have h1:=h m (by simp);have h2:=qY l λq hq=>h q (by simp[hq]);rw[bD,DU,aK,cc];omega
theorem x9{s:HrShop}{t:HrTest}(hc:(hrCheck s).2.2=0)(ht:aO s.kinds.length t=0):(dQ s t).length<=300:=by
 obtain⟨hok,k0,k1⟩:=eX ht;obtain⟨n,hn⟩:=pq k0;have hnl:n<s.kinds.length:=by omega
 obtain⟨k,hk⟩:∃k,s.kinds[n]?=some k:=⟨_,bA hnl⟩
 have hks:=zG (mH hc (aT hk)).name;have hkl:k.name.data.toList.length=k.name.size:=BO;have hel:=kp hok.err.1 (by have:=hok.err.2;omega);have hfl:=qY t.marks λm hm=>by
  have h:=hok.all m hm;have h1:=kp h.1 (by omega);have h2:=kp h.2.2.1 (by omega);simp[hH,sp,nl];omega
 have hml:=hok.len;rw[dQ,hn,jO,hk,mM,kL,aK];simp only[ka,nJ,sp,nl,aK,cc,cH,hkl];omega
theorem B5{s:HrShop}{t:HrTest}(hc:(hrCheck s).2.2=0)(ht:aO s.kinds.length t=0):aM s (dQ s t)=(t,0):=by
 rw[aM,yq,if_pos hc,if_neg (by have:=x9 hc ht;omega),(tR hc ht).1];dsimp only;rw[if_pos (rU.2 ⟨ht,rfl⟩)]
set_option maxRecDepth 100000
theorem K7(t:HrTest):PL (dn t) t.pv:=by
 cases t with
 |mk k e ms=>
  cases ms with
  |nil=>exact QJ k e
  |cons m ms=>exact .refl _
theorem DG(s:HrShop)(all:List UInt8):af TP 28 [s.pv,.str (bs all)] (.tuple [(aM s all).1.pv,.int .i64 (aM s all).2]):=
 (Im s all).lessD (PL.tupleL ⟨K7 _,.refl _,trivial⟩)
theorem Io(a c:List Int)(b1 b2:Bool)(ha:a.length<1000000000):af TP 30 [.slice 1 (a.map aG) b1,.slice 1 (c.map aG) b2] (.bool (a==c)):=by
 refine aa (ah Tryz.func30 rfl (by kernel_rfl)) rfl ?_;simp only[go_sem,simprocAttr];refine aR (λhb=>?_) (λhb=>?_)<;>simp only[hb,go_sem,simprocAttr]
 .have:¬(a=c):=λh=>by subst h;simp at hb
  simp[this]
 have hlen:a.length=c.length:=by simp[bne]at hb;omega
 refine ei [0,1] a ha (τ:=Unit) (λdone rest _=>c.take done.length=done) (λdone _=>[(5,.p (.int .i64 done.length))]) () (by simp) ?_ ?_ ?_
 .simp only[go_sem,simprocAttr]<;>simp
 .intro _ e2;rw[gv (by omega)]at e2;subst e2;simp only[go_sem,simprocAttr];simp
 .intro done x rest _ e1 e2 hx hlt hnx;have hlt2:(done.length:Int)<(c.length:Int):=by omega
  obtain⟨y,hy⟩:∃y,c[done.length]?=some y:=⟨_,bA (by omega)⟩
  simp only[hlt,hlt2,hx,hy,go_sem,simprocAttr];refine aR (λhb=>?_) (λhb=>?_)<;>simp only[hb,go_sem,simprocAttr]
  .have:¬(a=c):=λh=>by
    subst h;rw[hx]at hy;cases hy;simp at hb
   simp[this]
  .have hxy:x=y:=by simpa using hb
   refine aE e1 () (by rw[aK,bt,xW,e2,hy,hxy];rfl) ?_;simp only[hnx,go_sem,simprocAttr]
theorem Ie(a b):af TP 29 [.int .i64 a,.int .i64 b] (.agg [.int .i64 a,.int .i64 b]):=by
 refine aa (ah Tryz.func29 rfl (by kernel_rfl)) rfl ?_;simp only[go_sem,simprocAttr]
def cA:HrShop:=⟨[⟨⟨#[97,108,116,97,114]⟩,⟨100000,101000⟩,1000⟩],[⟨⟨#[99,104,117,114,99,104]⟩,⟨1200,2000⟩,⟨90000,110000⟩⟩,⟨⟨#[108,97,109,112]⟩,⟨1400,2000⟩,⟨0,10000000⟩⟩],100⟩
def et:HrTest:=⟨0,50,[⟨0,100500⟩,⟨60,96500⟩,⟨120,92400⟩]⟩
def qC:HrTest:=⟨0,50,[⟨0,100000⟩,⟨60,96000⟩,⟨120,91000⟩,⟨180,88000⟩]⟩
theorem dM:∀l:List PV,AF l l
 |[]=>trivial
 |x::l=>⟨.refl x,dM l⟩
theorem P0:af TP 20 [] cA.pv:=by
 refine af.lessD (q:=.agg [.slice 4 (cA.kinds.map HrKind.pv) true,.slice 5 (cA.rules.map HrRule.pv) true,.int .i64 100]) ?_ (PL.aggL rfl ⟨PL.sliceL rfl (dM _),PL.sliceL rfl (dM _),.refl _,trivial⟩);refine aa (ah Tryz.func20 rfl (by kernel_rfl)) rfl ?_;simp only[go_sem,simprocAttr];repeat' (refine ae (Ie _ _) rfl ?_;simp only[go_sem,simprocAttr])
 exact⟨rfl,rfl⟩
def rP:List Int->List HrMark
 |a::b::r=>⟨a,b⟩::rP r
 |_=>[]
theorem Mu(l)(b)(hl:l.length<1000000):af TP 66 [.slice 1 (l.map aG) b] (.slice 2 ((rP l).map HrMark.pv) false):=by
 refine eB (ah Tryz.func66 rfl (by kernel_rfl)) rfl ?_;simp only[go_sem,simprocAttr];refine ck 3 2 (by simp only[go_sem,simprocAttr]) ?_;simp only[go_sem,simprocAttr]
 refine fp [0] (σ:=List Int×List Int×List HrMark) (λq=>l=q.1++q.2.1/\rP l=q.2.2++rP q.2.1/\q.2.2.length<=q.1.length) (λq=>q.2.1.length)
  (λq=>[(3,.slice 0 q.2.2.length 0 q.2.2.length),(4,.p (.int .i64 q.1.length))]) (λq=>[.row 2 (q.2.2.map d7)]) ([],l,[]) ⟨rfl,rfl,bi _⟩ ?_ ?_
 .simp only[go_sem,simprocAttr]
 rintro⟨done,rest,acc⟩ ⟨e1,e2,e3⟩
 dsimp only at e1 e2 e3;have hlen:=congrArg List.length e1;simp only[aK]at hlen;have hn1:IntKind.i64.wrap ((done.length:Int)+1)=((done.length+1:Nat):Int):=be (by omega) (by simp[ar];omega) (by omega);have hn2:IntKind.i64.wrap ((done.length:Int)+2)=((done.length+2:Nat):Int):=be (by omega) (by simp[ar];omega) (by omega);have hfz:∀n h (ms:List HrMark),aS (ci n h) (ms.map d7)=some (ms.map HrMark.pv):=λn h ms=>de (ef n h) HrMark.pv ms
 match rest with
 |[]=>
  have hlt:decide ((((done.length+1:Nat)):Int)<(l.length:Int))=false:=by simp at hlen |-;omega
  rw[show rP []=[] from rfl,bw]at e2
  simp only[hn1,hlt,hfz,e2,mS,go_sem,simprocAttr]
 |[a]=>
  have hlt:decide ((((done.length+1:Nat)):Int)<(l.length:Int))=false:=by simp at hlen |-;omega
  rw[show rP [a]=[] from rfl,bw]at e2
  simp only[hn1,hlt,hfz,e2,mS,go_sem,simprocAttr]
 |a::b'::r=>
  simp only[cc]at hlen;have hlt:decide ((((done.length+1:Nat)):Int)<(l.length:Int))=true:=by simp;omega
  have hx1:l[done.length]?=some a:=by rw[e1];simp
  have hx2:l[done.length+1]?=some b':=by rw[e1];simp
  have hl1:(done.length:Int)<(l.length:Int):=by omega
  have hl2:((done.length+1:Nat):Int)<(l.length:Int):=by omega
  have hrm:acc.length+1<=ar:=by simp[ar];omega
  rw[show rP (a::b'::r)=⟨a,b'⟩::rP r from rfl]at e2;simp only[hn1,hlt,hx1,hx2,hl1,hl2,hrm,go_sem,simprocAttr];refine bY (done++[a,b'],r,acc++[⟨a,b'⟩]) ⟨by rw[e1];simp,by rw[e2];simp,by simp;omega⟩ (by simp;omega) ?_;simp only[hn2,aK,ca,go_sem,simprocAttr]
theorem FA:af TP 21 [] et.pv:=by
 refine aa (ah Tryz.func21 rfl (by kernel_rfl)) rfl ?_;simp only[go_sem,simprocAttr];refine ae (Mu [0,100500,60,96500,120,92400] true (by decide)) rfl ?_;simp only[go_sem,simprocAttr];exact⟨rfl,rfl,rfl⟩
theorem X9:af TP 22 [] qC.pv:=by
 refine aa (ah Tryz.func22 rfl (by kernel_rfl)) rfl ?_;simp only[go_sem,simprocAttr];refine ae (Mu [0,100000,60,96000,120,91000,180,88000] true (by decide)) rfl ?_;simp only[go_sem,simprocAttr];exact⟨rfl,rfl,rfl⟩
def tC:List UInt8 := "test altar 50\n0 100500\n60 96500\n120 92400\n".toUTF8.data.toList
theorem X0:cv H0 Tryz.f31=true:=by kernel_rfl
theorem Ub:af TP 31 [] (.str (bs tC)):=by
 refine aa (eA (by kernel_rfl) rfl X0) rfl ?_;simp only[go_sem,simprocAttr];rfl
theorem mR(l:List HrTest)(b:Bool):PL (.slice 3 (l.map HrTest.pv) b) (.slice 3 (l.map HrTest.pv) false):=by
 cases b with
 |false=>exact .refl _
 |true=>
  refine .slice rfl (λy hy=>?_) λi q c h1 h2=>?_
  .obtain⟨t,_,rfl⟩:=dN.1 hy;refine⟨rfl,λc hc=>?_⟩;simp[HrTest.pv,PV.cells]at hc;rcases hc with rfl|rfl|rfl<;>rfl
  .rw[h1]at h2;cases h2;exact .refl _
theorem J'(l:List HrBox)(b:Bool):PL (.slice 2 (l.map HrBox.pv) b) (.slice 2 (l.map HrBox.pv) false):=by
 cases b with
 |false=>exact .refl _
 |true=>
  refine .slice rfl (λy hy=>?_) λi q c h1 h2=>?_
  .obtain⟨t,_,rfl⟩:=dN.1 hy;refine⟨rfl,λc hc=>?_⟩;simp[HrBox.pv,PV.cells]at hc;rcases hc with rfl|rfl<;>rfl
  .rw[h1]at h2;cases h2;exact .refl _
theorem SS:di cA et=(⟨4000,4100⟩,0):=by kernel_rfl
theorem Tv:af TP 19 [cA.pv,et.pv] (.tuple [.agg [.int .i64 4000,.int .i64 4100],.int .i64 0]):=by
 have h:=JZ cA et;rwa [SS]at h
theorem SR:di cA qC=(⟨0,0⟩,9):=by kernel_rfl
theorem Tu:af TP 19 [cA.pv,qC.pv] (.tuple [.agg [.int .i64 0,.int .i64 0],.int .i64 9]):=by
 have h:=JZ cA qC;rwa [SR]at h
theorem U7:jD cA qC=([2],0):=by kernel_rfl
theorem VA:af TP 23 [cA.pv,qC.pv] (.tuple [.slice 1 [.int .i64 2] false,.int .i64 0]):=by
 have h:=Mw cA qC;rwa [U7]at h
theorem Ql:sL cA [et,qC] 0=(⟨3600,4510⟩,0):=by kernel_rfl
theorem QV:af TP 24 [cA.pv,.slice 3 [et.pv,qC.pv] true,.int .i64 0] (.tuple [.agg [.int .i64 3600,.int .i64 4510],.int .i64 0]):=by
 have h:=(Ue cA [et,qC] 0).arglessD (args':=[cA.pv,.slice 3 ([et,qC].map HrTest.pv) true,.int .i64 0]) ⟨.refl _,mR _ true,.refl _,trivial⟩;rwa [Ql]at h
theorem KH:oY cA [et] 0=(⟨1317,1667⟩,0):=by kernel_rfl
theorem LJ:af TP 25 [cA.pv,.slice 3 [et.pv] true,.int .i64 0] (.tuple [.agg [.int .i64 1317,.int .i64 1667],.int .i64 0]):=by
 have h:=(OV cA [et] 0).arglessD (args':=[cA.pv,.slice 3 ([et].map HrTest.pv) true,.int .i64 0]) ⟨.refl _,mR _ true,.refl _,trivial⟩;rwa [KH]at h
theorem KF:cx cA [et] 0=(21,0):=by kernel_rfl
theorem LI:af TP 12 [cA.pv,.slice 3 [et.pv] true,.int .i64 0] (.tuple [.int .i64 21,.int .i64 0]):=by
 have h:=(ux cA [et] 0).arglessD (args':=[cA.pv,.slice 3 ([et].map HrTest.pv) true,.int .i64 0]) ⟨.refl _,mR _ true,.refl _,trivial⟩;rwa [KF]at h
theorem ST:vL cA [et] 0 1=(1,0):=by kernel_rfl
theorem Tw:af TP 26 [cA.pv,.slice 3 [et.pv] true,.int .i64 0,.int .i64 1] (.tuple [.int .i64 1,.int .i64 0]):=by
 have h:=(RR cA [et] 0 1).arglessD (args':=[cA.pv,.slice 3 ([et].map HrTest.pv) true,.int .i64 0,.int .i64 1]) ⟨.refl _,mR _ true,.refl _,.refl _,trivial⟩;rwa [ST]at h
theorem Nx:bG cA [et] [⟨0,21⟩,⟨0,22⟩,⟨0,20⟩]=([1],0):=by kernel_rfl
theorem Od:af TP 27 [cA.pv,.slice 3 [et.pv] true,.slice 2 [.agg [.int .i64 0,.int .i64 21],.agg [.int .i64 0,.int .i64 22],.agg [.int .i64 0,.int .i64 20]] true] (.tuple [.slice 1 [.int .i64 1] false,.int .i64 0]):=by
 have h:=(RU cA [et] [⟨0,21⟩,⟨0,22⟩,⟨0,20⟩]).arglessD (args':=[cA.pv,.slice 3 ([et].map HrTest.pv) true,.slice 2 ([⟨0,21⟩,⟨0,22⟩,⟨0,20⟩].map HrBox.pv) true]) ⟨.refl _,mR _ true,J' _ true,trivial⟩;rwa [Nx]at h
theorem D2:dQ cA et=tC:=by
 simp[dQ,cA,et,ka,hH,nJ,sp,nl,bC,Lib.decDigits];rfl
theorem KG:bn cA [et]=0:=by kernel_rfl
theorem QU:af TP 8 [cA.pv,et.pv] (.tuple [.str (bs tC),.int .i64 0]):=by
 have h:=Mo cA et;rw[qm,if_pos KG,D2]at h;exact h
theorem Tt:af TP 28 [cA.pv,.str (bs tC)] (.tuple [et.pv,.int .i64 0]):=by
 have h:=DG cA tC;have ho:=wM KG;rw[<-D2,B5 ho.1 ho.2,D2]at h;exact h
theorem PT(a:List Int)(b1 b2:Bool)(ha:a.length<1000000000):af TP 30 [.slice 1 (a.map aG) b1,.slice 1 (a.map aG) b2] (.bool true):=by
 have:=Io a a b1 b2 ha;rwa [beq_self_eq_true]at this
theorem QW:af TP 32 [et.pv,et.pv] (.bool true):=by
 have:=MC et et (by decide);rwa [(Ia _ _).2 rfl]at this
theorem I4:(bs tC==bs tC)=true:=(qd _ _).2 rfl
set_option maxHeartbeats 4000000 in
theorem FJ:af TP 6 [] (.bool true):=by
 refine aa (ah Tryz.func6 rfl (by kernel_rfl)) rfl ?_;simp only[go_sem,simprocAttr]
 repeat' first
  |(refine ae P0 rfl ?_;simp only[go_sem,simprocAttr])
  |(refine ae FA rfl ?_;simp only[go_sem,simprocAttr])
  |(refine ae X9 rfl ?_;simp only[go_sem,simprocAttr])
  |(refine ae Tv rfl ?_;simp only[go_sem,simprocAttr])
  |(refine ae Tu rfl ?_;simp only[go_sem,simprocAttr])
  |(refine ae VA rfl ?_;simp only[go_sem,simprocAttr])
  |(refine ae QV rfl ?_;simp only[go_sem,simprocAttr])
  |(refine ae LJ rfl ?_;simp only[go_sem,simprocAttr])
  |(refine ae LI rfl ?_;simp only[go_sem,simprocAttr])
  |(refine ae Tw rfl ?_;simp only[go_sem,simprocAttr])
  |(refine ae Od rfl ?_;simp only[go_sem,simprocAttr])
  |(refine ae QU rfl ?_;simp only[go_sem,simprocAttr])
  |(refine ae Tt rfl ?_;simp only[lZ,go_sem,simprocAttr])
  |(refine ay (Ie _ _) rfl ?_;simp only[lZ,go_sem,simprocAttr])
  |(refine ay (PT [2] false true (by decide)) rfl ?_;simp only[lZ,go_sem,simprocAttr])
  |(refine ay (PT [1] false true (by decide)) rfl ?_;simp only[lZ,go_sem,simprocAttr])
  |(refine ay Ub rfl ?_;simp only[lZ,I4,go_sem,simprocAttr])
  |(refine ay FA rfl ?_;simp only[lZ,go_sem,simprocAttr])
  |(refine ay QW rfl ?_;simp only[lZ,go_sem,simprocAttr])
theorem C5{x:HrK}(hx:HrKOk x):0<=x.promise/\x.promise<=16666/\x.promise*x.rates.hi<=x.k.weight.lo-x.k.rest/\(x.promise<16666->x.k.weight.lo-x.k.rest<x.rates.hi*(x.promise+1)):=by
 have hk:=hx.k;have h1:=hk.lo;have h4:=hk.rest;have h5:=hk.less;have h6:=hx.pos;have h7:=hx.hi
 have hd:=Frac.down_le (f:=⟨x.least.top,x.least.below*60⟩) (show (0:Int)<x.rates.hi*60 by omega);simp only[HrK.least]at hd;have e:∀n:Int,n*(x.rates.hi*60)=n*x.rates.hi*60:=λn=>(uS _ _ _).symm;have key:∀n:Int,n<=Frac.down ⟨60*(x.k.weight.lo-x.k.rest),x.rates.hi*60⟩↔n*x.rates.hi<=x.k.weight.lo-x.k.rest:=by
  intro n;rw[hd n,e n];omega
 rw[HrK.promise,HrK.least];dsimp only;generalize hD:Frac.down ⟨60*(x.k.weight.lo-x.k.rest),x.rates.hi*60⟩=D at key |-;have k0:0<=D:=(key 0).2 (by omega);have k1:=(key D).1 (l4 _);have k2:¬(D+1)*x.rates.hi<=x.k.weight.lo-x.k.rest:=λh=>by have:=(key (D+1)).2 h;omega
 split
 .refine⟨k0,by omega,k1,λ_=>?_⟩;rw[AN];omega
 .refine⟨by omega,by omega,(key _).1 (by omega),λh=>by omega⟩
def Tq (l:List HrTest) (k w r:Int):PV:=.agg [.slice 3 (l.map HrTest.pv) false,.int .u8 k,.int .u32 w,.int .u32 r]
attribute [go_sem] Tq
namespace Ch
set_option maxRecDepth 4000
structure SOk (s:ChShop):Prop where
 wax:(Wx.wxCheck s.wax).2.2=0
 blend:(bdCheck s.blend).2.2=0
 wick:Wk.shopErr s.wick=0
 hour:(hrCheck s.hour).2.2=0
 colour:(Cl.clCheck s.colour).2.2=0
theorem SOk.kinds{s}(h:SOk s):s.hour.kinds.length<1000000000:=by
 have h:=h.hour;unfold hrCheck at h;split at h
 .rename_i h1;simp[al]at h1;omega
 .cases h
theorem C4{s}{l}{k}(h:(cx s l k).2=0):0<=(cx s l k).1/\(cx s l k).1<=16666:=by
 unfold cx at h |-;split at h
 .rename_i h0;rw[if_pos h0];have:=C5 (mI h0).1;exact⟨this.1,this.2.1⟩
 .rename_i h0;exact absurd h h0
def Kt (s:ChShop) (b:ChBooks) (ex:List PV) (q:Except Int (Int×Int)) (r:AEnd) (h':Heap):Prop:=
 h'=B7 s b ex/\r=match q with|.error e=>.panic (f9 e)|.ok (k,n)=>.ret (.p (.tuple [.int .i64 k,.int .i64 n]))
theorem E8(s)(b)(ex)(n)(hs:SOk s)(hb:BkOk s b n)(kind):aB TP 145 [.ptr 2 1 0 0,.p (.str (bs kind))] (B7 s b ex)
  (Kt s b ex (fX s b kind)):=by
 have hk9:=hs.kinds;refine bK (ah Tryz.func145 rfl (by kernel_rfl)) rfl ?_;simp only[ChShop.cells,go_sem,simprocAttr];by_cases h0:az (λx:HrKind=>x.name==bs kind) s.hour.kinds 0<0
 .refine ro (S9 s.hour.kinds (bs kind) false hk9 h0) rfl (mv _) ?_;simp only[fX,if_pos h0,go_sem,simprocAttr];exact⟨_,[],(bw _).symm,rfl,fi s b ex,trivial,rfl,rfl⟩
 refine ae (Um s.hour.kinds (bs kind) false hk9 (by omega)) rfl ?_;simp only[go_sem,simprocAttr];refine Sn (ux s.hour b.tests (az (λx:HrKind=>x.name==bs kind) s.hour.kinds 0)) ?_ (.tuple (Flat.cons (.int _ _) (Flat.cons (.int _ _) Flat.nil))) ?_
 .simp only[go_sem,simprocAttr]
 simp only[go_sem,simprocAttr];by_cases h1:(cx s.hour b.tests (az (λx:HrKind=>x.name==bs kind) s.hour.kinds 0)).2=0
 .simp only[h1,go_sem,simprocAttr];refine au (λ_=>?_) (λh=>by cases h);simp only[fX,if_neg h0,go_sem,simprocAttr];exact⟨_,[],(bw _).symm,rfl,fi s b ex,trivial,rfl,by simp only[h1];rfl⟩
 .have h1':((cx s.hour b.tests (az (λx:HrKind=>x.name==bs kind) s.hour.kinds 0)).2==0)=false:=by simpa using h1
  simp only[h1',go_sem,simprocAttr];refine au (λh=>by cases h) (λ_=>?_);simp only[fX,if_neg h0,if_pos h1,go_sem,simprocAttr];exact⟨_,[],(bw _).symm,rfl,fi s b ex,trivial,rfl,rfl⟩
theorem xT(s)(b)(ex)(n)(hs:SOk s)(hb:BkOk s b n)(kind) :
  (∀e,fX s b kind=.error e->aB TP 145 [.ptr 2 1 0 0,.p (.str (bs kind))] (B7 s b ex) (λr h'=>r=.panic (f9 e)/\h'=B7 s b ex)) /\
  (∀k n,fX s b kind=.ok (k,n)->(0<=n/\n<=16666)/\aB TP 145 [.ptr 2 1 0 0,.p (.str (bs kind))] (B7 s b ex) (λr h'=>r=.ret (.p (.tuple [.int .i64 k,.int .i64 n]))/\h'=B7 s b ex)):=by
 refine⟨λe he=>(E8 s b ex n hs hb kind).mono λr h' hr=>?_,λk m hk=>⟨?_,(E8 s b ex n hs hb kind).mono λr h' hr=>?_⟩⟩
 .unfold Kt at hr;rw[he]at hr;exact⟨hr.2,hr.1⟩
 .unfold fX at hk;dsimp only at hk;split at hk
  .cases hk
  .split at hk
   .cases hk
   .rename_i _ h2;cases hk;exact C4 (by simpa using h2)
 .unfold Kt at hr;rw[hk]at hr;exact⟨hr.2,hr.1⟩
theorem s9{P}{H}{Q}{ops}{rest}{dst}{A}{f}{args}{e}(hc:aB P f args A.h (λr h'=>r=.panic e/\h'=A.h))
  (h2:@WQ ⟨Q⟩ (.panic e) A):@WF ⟨P,H,ops,rest,Q,dst⟩ A f args:=
 cp hc (λv h hr=>by cases hr.1) (λv h hr=>by obtain⟨e,rfl⟩:=hr;cases e;exact h2)
theorem X5(s)(b)(ex)(n)(hs:SOk s)(hb:BkOk s b n)(kind)(hours):aB TP 147 [.ptr 2 1 0 0,.p (.str (bs kind)),.p (.int .i64 hours)] (B7 s b ex) (j4 s b ex (aP s b (.box kind hours))):=by
 have hp:=xT s b ex n hs hb kind;have hl:=hb.boxes;refine bK (ah Tryz.func147 rfl (by kernel_rfl)) rfl ?_;simp only[ChShop.cells,go_sem,simprocAttr]
 cases hq:fX s b kind with
 |error e=>
  refine s9 (hp.1 e hq) ?_;simp only[go_sem,simprocAttr]
  exact dl (e:=e) (by simp only[aP,hq]) [] (bw _).symm
 |ok q=>
  obtain⟨k,m⟩:=q;refine ct (v:=.p (.tuple [.int .i64 k,.int .i64 m])) (h':=B7 s b ex) (hp.2 k m hq).2 ?_;simp only[go_sem,simprocAttr];refine au (λh1=>?_) (λh1=>?_);rotate_left
  .have h1':¬hours<=m:=by simpa using h1
   simp only[go_sem,simprocAttr];exact dl (e:=9) (by simp only[aP,hq,if_pos h1']) [] (bw _).symm
  have h1':hours<=m:=by simpa using h1
  simp only[go_sem,simprocAttr];have h1n:¬¬hours<=m:=λh=>h h1';refine au (λh2=>?_) (λh2=>?_);rotate_left
  .have h2':¬b.boxes.length<20:=by simp at h2;omega
   simp only[go_sem,simprocAttr];exact dl (e:=3) (by simp only[aP,hq,if_neg h1n,if_pos h2']) [] (bw _).symm
  have h2':b.boxes.length<20:=by simp at h2;omega
  have h2n:¬¬b.boxes.length<20:=λh=>h h2';have hrm:b.boxes.length+1<=ar:=by simp only[ar];omega
  simp only[hrm,go_sem,simprocAttr];exact gX (b':={ b with boxes:=b.boxes++[⟨k,hours⟩] }) (ex':=ex) (a:=BQ) (by simp only[aP,hq,if_neg h1n,if_neg h2n]) [] (by simp only[aK,bt,ca,bD,bj,bw,sA,go_sem,simprocAttr])
def j6 (x:ChLot):List Word:=[.s (bl x.name),.n x.grams]
def rE (w:Word):AV:=.p w.pv
theorem H5(n)(h)(l:List Word):aS (ci n h) (l.map rE)=some (l.map Word.pv):=de (ef n h) Word.pv l
theorem Uw(n)(x):below n (kZ x)=True:=eq_true trivial
theorem O4(n)(x):below n (cC x)=True:=eq_true trivial
theorem RY(n)(x):below n (ow x)=True:=eq_true trivial
theorem Ux(n)(x):below n (sA x)=True:=eq_true trivial
theorem RX(n)(x):below n (rE x)=True:=eq_true trivial
attribute [go_sem] H5 Uw O4 RY Ux RX
theorem u5(l:List ChLot):(l.flatMap j6).length=2*l.length:=by
 induction l with
 |nil=>rfl
 |cons x r ih=>rw[mN,aK,ih];simp[j6];omega
theorem ND(l:List ChLot):(l.flatMap j6).flatMap Word.ws=l.flatMap λx=>[bl x.name,bC x.grams]:=by
 rw[List.flatMap_assoc];rfl
theorem TA(s)(b)(ex)(n)(hs:SOk s)(hb:BkOk s b n):aB TP 153 [.ptr 2 1 0 0] (B7 s b ex) (j4 s b ex (aP s b .stock)):=by
 have hl:=hb.lots;refine bK (ah Tryz.func153 rfl (by kernel_rfl)) rfl ?_;simp only[ChShop.cells,go_sem,simprocAttr];refine ck 3 1 (by simp only[go_sem,simprocAttr]) ?_;simp only[go_sem,simprocAttr];refine bm [10,11] b.lots (by omega) (τ:=Unit) (λdone rest _=>True) (λdone _=>[(3,.slice 7 (done.flatMap j6).length 0 (done.flatMap j6).length),(12,.p (.int .i64 done.length))]) (λdone _=>B7 s b ex++[.row 1 ((done.flatMap j6).map rE)]) () trivial ?_ ?_ ?_
 .simp only[ChShop.cells,tm,go_sem,simprocAttr]
 .intro _ _;by_cases h0:b.lots=[]
  .have hz:(((b.lots.flatMap j6).length:Int)==0)=true:=by rw[h0];rfl
   simp only[ChShop.cells,hz,go_sem,simprocAttr];exact gX (b':=b) (ex':=ex) (a:=PG) (by simp only[aP,if_pos h0]) [_] rfl
  .have hz:(((b.lots.flatMap j6).length:Int)==0)=false:=by
    rw[beq_eq_false_iff_ne,u5];intro h;exact h0 (ot (by omega))
   simp only[ChShop.cells,hz,go_sem,simprocAttr];have hsd:=oG (b.lots.flatMap j6) false (by rw[u5];omega) (λw hw=>by
    obtain⟨x,hx,hw⟩:=DN.1 hw;have h1:=hb.grams x hx;have h2:=hb.names x hx;have h3:=hb.few;have h4:(100000:Int)*(n+1)<=100000*41:=by omega
    simp only[j6,ce,fW,or_false]at hw;rcases hw with rfl|rfl
    .show (bl x.name).length<=1000;unfold bl;have:x.name.data.toList.length=x.name.size:=by show x.name.data.toList.length=x.name.data.size;exact BO
     omega
    .exact⟨h1.1,by omega⟩)
   refine aY hsd ?_ (.str _) ?_
   .simp only[go_sem,simprocAttr]
   simp only[go_sem,simprocAttr];refine gX (b':=b) (ex':=ex) (a:=joinL ((b.lots.flatMap j6).flatMap Word.ws)) (by rw[ND,aP,if_neg h0]) [_] rfl
 .intro done w r _ e1 _ hx hlt hnx;have hA:kZ w=.p w.pv:=rfl;have hdl:=u5 done;have hrm:2*done.length+2<=ar:=by rw[e1]at hl;simp at hl;simp only[ar];omega
  simp only[ChShop.cells,hlt,hx,hA,hdl,hrm,go_sem,simprocAttr];refine aE e1 () trivial ?_;simp only[hnx,rB,mN,tm,j6,aK,ca,bw,rE,Word.pv,J9,bD,bj,go_sem,simprocAttr];rw[hdl]
end Ch
end Abs
end Go.Proofs.YtnjiadikeacfaaaGreatDoor
