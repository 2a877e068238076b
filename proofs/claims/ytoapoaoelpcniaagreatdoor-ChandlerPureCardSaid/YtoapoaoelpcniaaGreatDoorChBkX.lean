/- CONTRACTS of the program's functions, and laws on what they return. No conditions but those in the theorems' heads. -/
import Derived.Test.YtoapoaoelpcniaaGreatDoorChMustX
set_option linter.all false
open Go.Proofs.Tryz renaming prog->TP
namespace Go.Proofs.YtoapoaoelpcniaaGreatDoor
namespace Abs
namespace Ch
set_option maxRecDepth 4000
def lT (x:ChLot):AV:=.p x.pv
def cR (x:ChBatch):AV:=.p x.pv
def pW (x:HrTest):AV:=.p x.pv
def uc (x:HrBox):AV:=.p x.pv
def B7 (s:ChShop) (b:ChBooks) (ex:List PV):Heap:=
 [.dead,.dead,.row 23 [.agg ([.slice 3 b.lots.length 0 b.lots.length,.slice 4 (b.batches.length+ex.length) 0 b.batches.length,.slice 5 b.tests.length 0 b.tests.length,.slice 6 b.boxes.length 0 b.boxes.length,.p (.int .i64 b.poured),.p (.int .i64 b.lost)]++s.cells.map .p)],
  .row 4 (b.lots.map lT),.row 4 (b.batches.map cR++ex.map .p),.row 3 (b.tests.map pW),.row 2 (b.boxes.map uc)]
attribute [go_sem] B7
theorem fE(s)(b)(ex):∀o,o∈B7 s b ex->bm 7 o:=by
 intro o ho;simp only[B7,ci,iL,or_false]at ho;rcases ho with rfl|rfl|rfl|rfl|rfl|rfl|rfl
 .trivial
 .trivial
 .intro x hx;simp only[gh]at hx;subst hx;intro c hc;simp only[ChShop.cells,bL,ck,dr,ci,iL,or_false]at hc;rcases hc with(rfl|rfl|rfl|rfl|rfl|rfl)|hc
  .show 3<7;decide
  .show 4<7;decide
  .show 5<7;decide
  .show 6<7;decide
  .trivial
  .trivial
  .rcases hc with rfl|rfl|rfl|rfl|rfl|rfl|rfl|rfl|rfl|rfl|rfl|rfl|rfl|rfl|rfl|rfl|rfl<;>trivial
 .intro x hx;obtain⟨y,_,rfl⟩:=cH.1 hx;trivial
 .intro x hx;rcases dr.1 hx with hx|hx
  .obtain⟨y,_,rfl⟩:=cH.1 hx;trivial
  .obtain⟨y,_,rfl⟩:=cH.1 hx;trivial
 .intro x hx;obtain⟨y,_,rfl⟩:=cH.1 hx;trivial
 .intro x hx;obtain⟨y,_,rfl⟩:=cH.1 hx;trivial
def yf (s:ChShop) (b:ChBooks) (l:List ChBatch) (ex:List PV):Heap:=
 [.dead,.dead,.row 23 [.agg ([.slice 3 b.lots.length 0 b.lots.length,.p .nilslice,.slice 5 b.tests.length 0 b.tests.length,.slice 6 b.boxes.length 0 b.boxes.length,.p (.int .i64 b.poured),.p (.int .i64 b.lost)]++s.cells.map .p)],
  .row 4 (b.lots.map lT),.row 4 (l.map cR++ex.map .p),.row 3 (b.tests.map pW),.row 2 (b.boxes.map uc)]
attribute [go_sem] yf
theorem Er(s)(b)(l)(ex):∀o,o∈yf s b l ex->bm 7 o:=by
 intro o ho;by_cases h:o=.row 23 [.agg ([.slice 3 b.lots.length 0 b.lots.length,.p .nilslice,.slice 5 b.tests.length 0 b.tests.length,.slice 6 b.boxes.length 0 b.boxes.length,.p (.int .i64 b.poured),.p (.int .i64 b.lost)]++s.cells.map .p)]
 .subst h;intro x hx;simp only[gh]at hx;subst hx;intro c hc;simp only[ChShop.cells,bL,ck,dr,ci,iL,or_false]at hc;rcases hc with(rfl|rfl|rfl|rfl|rfl|rfl)|hc
  .show 3<7;decide
  .trivial
  .show 5<7;decide
  .show 6<7;decide
  .trivial
  .trivial
  .rcases hc with rfl|rfl|rfl|rfl|rfl|rfl|rfl|rfl|rfl|rfl|rfl|rfl|rfl|rfl|rfl|rfl|rfl<;>trivial
 .refine fE s { b with batches:=l } ex o ?_;simp only[yf,B7,ci,iL,or_false]at ho |-;rcases ho with ho|ho|ho|ho
  .exact .inl ho
  .exact .inr (.inl ho)
  .exact absurd ho h
  .exact .inr (.inr (.inr ho))
def kP (s:ChShop) (b:ChBooks) (ex:List PV) (q:Except Int (ChBooks×List UInt8)) (r:AEnd) (h':Heap):Prop:=
 match q with
 |.error e=>r=.panic (gE e)/\h'=B7 s b ex
 |.ok (b',a)=>r=.ret (.p (.str (bs a)))/\((∃ex',h'=B7 s b' ex')\/(b'.batches=[]/\∃l x,h'=yf s b' l x))
theorem dJ{s}{b}{ex}{q}{e}(hq:q=.error e){hh}(t)(hd:hh=B7 s b ex++t) :
  ∃h' t,hh=h'++t/\h'.length=7/\(∀o,o∈h'->bm h'.length o)/\Cp (.panic (gE e))/\kP s b ex q (.panic (gE e)) h':=by
 subst hq;exact⟨_,t,hd,rfl,fE s b ex,trivial,rfl,rfl⟩
theorem ik{s}{b b'}{ex ex'}{q}{a}(hq:q=.ok (b',a)){hh}(t)(hd:hh=B7 s b' ex'++t) :
  ∃h' t,hh=h'++t/\h'.length=7/\(∀o,o∈h'->bm h'.length o)/\Cp (.ret (.p (.str (bs a))))/\kP s b ex q (.ret (.p (.str (bs a)))) h':=by
 subst hq;exact⟨_,t,hd,rfl,fE s b' ex',trivial,rfl,.inl ⟨_,rfl⟩⟩
theorem Tr{s}{b b'}{ex}{l}{x}{q}{a}(hq:q=.ok (b',a))(h0:b'.batches=[]){hh}(t)(hd:hh=yf s b' l x++t) :
  ∃h' t,hh=h'++t/\h'.length=7/\(∀o,o∈h'->bm h'.length o)/\Cp (.ret (.p (.str (bs a))))/\kP s b ex q (.ret (.p (.str (bs a)))) h':=by
 subst hq;exact⟨_,t,hd,rfl,Er s b' l x,trivial,rfl,.inr ⟨h0,_,_,rfl⟩⟩
theorem xD(n)(h)(l:List ChLot):aV (cm n h) (l.map lT)=some (l.map ChLot.pv):=dD (eJ n h) ChLot.pv l
theorem Qn(n)(h)(l:List ChBatch):aV (cm n h) (l.map cR)=some (l.map ChBatch.pv):=dD (eJ n h) ChBatch.pv l
theorem ux(n)(h)(l:List HrTest):aV (cm n h) (l.map pW)=some (l.map HrTest.pv):=dD (eJ n h) HrTest.pv l
theorem xE(n)(h)(l:List HrBox):aV (cm n h) (l.map uc)=some (l.map HrBox.pv):=dD (eJ n h) HrBox.pv l
theorem yE(n)(h)(l:List ChBatch)(ex):aV (cm n h) (l.map cR++ex.map .p)=some (l.map ChBatch.pv++ex):=by
 have:=Cl.S6 (eJ n h) (l.map ChBatch.pv) ex;rw[uR]at this;exact this
theorem Kj(l:List ChBatch)(ex:List PV):(l.map cR++ex.map AV.p).length=l.length+ex.length:=by simp
attribute [go_sem] xD Qn ux xE yE Kj
theorem x7{l:List ChBatch}{i:Nat}{x}(h:l[i]?=some x)(ex:List PV):(l.map cR++ex.map AV.p)[i]?=some (.p x.pv):=by
 have hi:i<l.length:=(aF.1 h).1;rw[aX (by simpa using hi),cO,h];rfl
structure BkOk (s:ChShop) (b:ChBooks) (n:Nat):Prop where
 lots:b.lots.length<=8
 batches:b.batches.length<=7
 tests:b.tests.length<=8
 boxes:b.boxes.length<=20
 grams:∀x,x∈b.lots->0<=x.grams/\x.grams<=100000*(n+1)
 names:∀x,x∈b.lots->x.name.size<=20
 waits:∀x,x∈b.batches->(1<=x.grams/\x.grams<=100000)/\(0<=x.lot/\x.lot<b.lots.length)/\x.name.size<=20
 poured:0<=b.poured/\b.poured<=700000*n
 lost:0<=b.lost/\b.lost<=300000*n
 few:n<=40
theorem Fl(s):bs (bl s)=s:=xT s
theorem D'(s)(l):∀(bx) (i),(∀j,j∈(bH s l i bx).1->(i)<=j/\j<i+bx.length)/\(bH s l i bx).1.length<=bx.length/\((bH s l i bx).2≠0->(bH s l i bx).1=[])
 |[],i=>by simp[bH]
 |b::r,i=>by
  obtain⟨h1,h2,h3⟩:=D' s l r (i+1);rw[bH];split
  .split
   .refine⟨λj hj=>?_,?_,λh=>absurd rfl h⟩
    .rcases dr.1 hj with hj|hj
     .split at hj
      .simp at hj;subst hj;simp;omega
      .simp at hj
     .have:=h1 j hj;simp at this |-;omega
    .rw[aB,cu];split<;>simp<;>omega
   .exact⟨by simp,by simp,λ_=>rfl⟩
  .exact⟨by simp,by simp,λ_=>rfl⟩
theorem D9(s)(l)(bx)(hb:bx.length<=20):(∀j,j∈(bq s l bx).1->0<=j/\j<1000000000)/\(bq s l bx).1.length<=1000/\((bq s l bx).2≠0->(bq s l bx).1=[]):=by
 obtain⟨h1,h2,h3⟩:=D' s l bx 0;unfold bq;split
 .split
  .exact⟨by simp,by simp,λ_=>rfl⟩
  .exact⟨λj hj=>by have:=h1 j hj;simp at this;omega,by omega,h3⟩
 .exact⟨by simp,by simp,λ_=>rfl⟩
theorem LK(s)(b)(ex)(n)(hb:BkOk s b n):aD TP 155 [.ptr 2 1 0 0] (B7 s b ex) (kP s b ex (aO s b .look)):=by
 obtain⟨k1,k2,k3⟩:=D9 s.hour b.tests b.boxes hb.boxes;refine bN (ah Tryz.func155 rfl (by kernel_rfl)) rfl ?_;simp only[ChShop.cells,go_sem,simprocAttr];refine Us (SQ s.hour b.tests b.boxes) ?_ ?_
 .simp only[go_sem,simprocAttr]
 by_cases h0:(bq s.hour b.tests b.boxes).1=[]
 .have hv:iK (bq s.hour b.tests b.boxes)=.nilslice\/iK (bq s.hour b.tests b.boxes)=.slice 1 [] false:=by
   unfold iK;split
   .exact .inr (by rw[h0];rfl)
   .exact .inl rfl
  have ha:aO s b .look=.ok (b,uf):=by rw[aO,if_pos h0]
  rcases hv with hv|hv
  all_goals (
   simp only[hv,go_sem,simprocAttr]
   exact ik ha [] (bC _).symm)
 .have h2:(bq s.hour b.tests b.boxes).2=0:=Classical.byContradiction λh=>h0 (k3 h);have hv:iK (bq s.hour b.tests b.boxes)=.slice 1 ((bq s.hour b.tests b.boxes).1.map aI) false:=by rw[iK,if_pos h2];rfl
  have ha:aO s b .look=.ok (b,joinL (mf::(bq s.hour b.tests b.boxes).1.map be)):=by rw[aO,if_neg h0]
  have hlen:(((bq s.hour b.tests b.boxes).1.length:Int)==0)=false:=by
   rw[beq_eq_false_iff_ne];intro h;exact h0 (tK (by omega))
  simp only[hv,hlen,go_sem,simprocAttr];have hs:=qa [.s mf,.ns (bq s.hour b.tests b.boxes).1] true (by simp) (λw hw=>by
   simp only[ci,iL,or_false]at hw;rcases hw with rfl|rfl
   .show (6:Nat)<=1000;decide
   .exact⟨k2,k1⟩)
  refine ae hs rfl ?_;simp only[go_sem,simprocAttr];exact ik (a:=joinL ([Word.s mf,.ns (bq s.hour b.tests b.boxes).1].flatMap Word.ws)) (by simpa[Word.ws]using ha) [] (bC _).symm
end Ch
theorem yH{c}:∀{a} (b),c∉a->aK c (a++c::b)=(a,some b)
 |[],b,_=>by simp[aK]
 |x::a,b,h=>by
  have hx:¬x=c:=λe=>h (by simp[e]);have ih:=yH (a:=a) b (λhm=>h (E7 _ hm));rw[eu,aK,if_neg hx,ih]
theorem J4{c}:∀{a},c∉a->aK c a=(a,none)
 |[],_=>rfl
 |x::a,h=>by
  have hx:¬x=c:=λe=>h (by simp[e]);have ih:=J4 (a:=a) (λhm=>h (E7 _ hm));rw[aK,if_neg hx,ih]
theorem ku{c}{a}(b)(h:c∉a):aP c (a++c::b)=a::aP c b:=by
 have h1:=yH b h;rw[mJ (r:=b) (by rw[h1]),h1]
theorem ti{c}{a}(h:c∉a):aP c a=[a]:=mK (by rw[J4 h])
theorem KV(c)(l):pV c (l++[c])=l:=by simp[pV]
theorem xj:∀(l) (last),dM l last=true->∀c,c∈l->c.toNat=45\/(97<=c.toNat/\c.toNat<=122)
 |[],_,_,c,h=>by cases h
 |x::l,last,h,c,hc=>by
  rw[dM]at h;split at h
  .cases h
  .rename_i hb;rcases ci.1 hc with rfl|hc
   .simp[q8]at hb;omega
   .exact xj l _ h c hc
theorem JG{b}(h:nameOk b=true):(10:UInt8)∉b.data.toList/\(32:UInt8)∉b.data.toList:=by
 unfold nameOk at h;rw[cG]at h;have:=xj _ _ h.1;refine⟨λhm=>?_,λhm=>?_⟩
 .have:=this _ hm;simp at this
 .have:=this _ hm;simp at this
theorem uy(n):(10:UInt8)∉be n/\(32:UInt8)∉be n:=by
 have:=wb n.toNat;refine⟨λhm=>?_,λhm=>?_⟩
 .have:=this _ hm;simp at this
 .have:=this _ hm;simp at this
def lp (m:HrMark):List UInt8:=be m.minute++32::be m.weight
def mo:List HrMark->List UInt8
 |[]=>[]
 |[m]=>lp m
 |m::q::r=>lp m++10::mo (q::r)
theorem DJ(m):kJ m=lp m++[10]:=by simp[kJ,lp,sp,nl]
theorem yn(m):(10:UInt8)∉lp m:=by
 have h1:=uy m.minute;have h2:=uy m.weight;simp[lp,h1.1,h2.1]
theorem DX:∀(l),l≠[]->(l.map kJ).flatten=mo l++[10]
 |[],h=>absurd rfl h
 |[m],_=>by simp[mo,DJ]
 |m::q::r,_=>by
  have ih:=DX (q::r) (by simp);rw[bL,Pc,ih,DJ,mo];simp
theorem AI:∀(l),l≠[]->aP 10 (mo l)=l.map lp
 |[],h=>absurd rfl h
 |[m],_=>by rw[mo,ti (yn m)];rfl
 |m::q::r,_=>by
  have ih:=AI (q::r) (by simp);rw[mo,ku _ (yn m),ih];rfl
theorem wr:∀(l),l≠[]->aP 10 (mo l++[10])=l.map lp++[[]]
 |[],h=>absurd rfl h
 |[m],_=>by rw[mo,ku [] (yn m)];rfl
 |m::q::r,_=>by
  have ih:=wr (q::r) (by simp);rw[mo,cF,eu,ku _ (yn m),ih];rfl
theorem Tq(m):aK 32 (lp m)=(be m.minute,some (be m.weight)):=yH _ (uy _).2
theorem MS(m):aP 32 (lp m)=[be m.minute,be m.weight]:=by
 rw[lp,ku _ (uy _).2,ti (uy _).2]
theorem IA{m}(h:0<=m.minute/\m.minute<=1000000/\0<=m.weight/\m.weight<=10000000):dS (lp m)=some m:=by
 simp only[dS,Tq,vv h.1 (by omega),vv h.2.2.1 h.2.2.2]
theorem yZ:∀(l acc),(∀m,m∈l->0<=m.minute/\m.minute<=1000000/\0<=m.weight/\m.weight<=10000000)->eH acc (l.map lp)=some (acc++l)
 |[],acc,_=>by simp[eH]
 |m::l,acc,h=>by
  rw[bL,eH,IA (h m (by simp))];dsimp only;rw[yZ l _ λq hq=>h q (by simp[hq])];simp
theorem zR{n}(h0:0<=n)(h1:n<=10000000):Gq (be n)=n:=by
 obtain⟨m,rfl⟩:=nx h0;have hl:=nU h0 h1;have hne:(be (m:Int)).length≠0:=λh=>l6 (m:Int).toNat (yi.1 h);have hg:ar ((be (m:Int)).length:Int) 1 8=true:=by simp[ar];omega
 have hf:Lib.decFrom 0 (be (m:Int))=some m:=by unfold be;rw[g7];exact t7 m
 rw[Gq,hg,hf];rfl
theorem Bc(nm):∀(l) (i) (acc),(∀k,k∈l->¬k.name=nm)->nQ nm l i acc=acc
 |[],_,_,_=>rfl
 |k::r,i,acc,h=>by
  have hk:(k.name==nm)=false:=Pa.2 λhe=>h k (by simp) ((gv _ _).1 he);rw[nQ,hk];exact Bc nm r _ _ λq hq=>h q (by simp[hq])
theorem Bd(nm):∀(a) (k) (r) (i) (acc),k.name=nm->(∀q,q∈r->¬q.name=nm)->nQ nm (a++k::r) i acc=((i+a.length:Nat):Int)
 |[],k,r,i,acc,h1,h2=>by
  have hk:(k.name==nm)=true:=(gv _ _).2 h1;rw[ky,nQ,hk,Bc nm r _ _ h2]
  simp
 |x::a,k,r,i,acc,h1,h2=>by
  rw[eu,nQ,Bd nm a k r _ _ h1 h2];simp;omega
theorem JW{α}(p:α->Bool):∀(a) (k) (r) (i),p k=true->(∀q,q∈a->p q=false)->aA p (a++k::r) i=((i+a.length:Nat):Int)
 |[],k,r,i,h1,_=>by simp[aA,h1]
 |x::a,k,r,i,h1,h2=>by
  rw[eu,aA,h2 x (by simp)];have:=JW p a k r (i+1) h1 λq hq=>h2 q (by simp[hq]);rw[if_neg (by simp),this];simp;omega
theorem Lr{s}(hc:(hrCheck s).2.2=0){n}{k}(hk:s.kinds[n]?=some k) :
  s.kinds=s.kinds.take n++k::s.kinds.drop (n+1)/\(s.kinds.take n).length=n/\(∀q,q∈s.kinds.take n->¬q.name=k.name)/\∀q,q∈s.kinds.drop (n+1)->¬q.name=k.name:=by
 have hl:=(aF.1 hk).1;have h1:=nX hl;rw[(aF.1 hk).2]at h1;refine⟨by rw[<-h1,lr],by rw[s5];omega,λq hq e=>?_,λq hq e=>?_⟩
 .obtain⟨i,hi⟩:=dX hq;rw[pg]at hi;split at hi
  .rename_i hlt;have:=sy hc hi hk e;omega
  .cases hi
 .obtain⟨i,hi⟩:=dX hq;rw[nb]at hi;have:=sy hc hi hk e;omega
theorem AP(s):∀(l) (k e) (acc),(∀m,m∈l->0<=m.minute/\m.minute<=1000000/\0<=m.weight/\m.weight<=10000000) ->
  ym s false ⟨k,e,acc⟩ (l.map lp++[[]])=⟨k,e,acc++l⟩
 |[],k,e,acc,_=>by simp[ym]
 |m::l,k,e,acc,h=>by
  have hm:=h m (by simp);have ih:=AP s l k e (acc++[m]) λq hq=>h q (by simp[hq]);have hst:AG s false ⟨k,e,acc⟩ (lp m)=⟨k,e,acc++[m]⟩:=by
   simp only[AG,MS,zR hm.1 (show m.minute<=10000000 by omega),zR hm.2.2.1 hm.2.2.2]
  rw[bL,eu]
  cases hr:l.map lp++[[]] with
  |nil=>simp at hr
  |cons a b=>
   rw[ym,hst,<-hr,ih];simp
theorem AU{s}{t}(hc:(hrCheck s).2.2=0)(ht:bV s.kinds.length t=0):oq s (jY s t)=some t/\xf s (jY s t)=t:=by
 obtain⟨hok,k0,k1⟩:=fS ht;obtain⟨n,hn⟩:=nx k0;have hnl:n<s.kinds.length:=by omega
 obtain⟨k,hk⟩:∃k,s.kinds[n]?=some k:=⟨_,dc hnl⟩
 have hko:=tx hc (aG hk);obtain⟨n10,n32⟩:=JG hko.name;obtain⟨d10,d32⟩:=uy t.error;have hms:t.marks≠[]:=by intro h;have:=hok.two;rw[h]at this;simp at this
 have htx:jY s t=([116,101,115,116]++32::(k.name.data.toList++32::be t.error))++10::(mo t.marks++[10]):=by
  rw[jY,hn,g7,hk,jX,je,DX _ hms];simp[oE,us,sp,nl]
 have hno:(10:UInt8)∉([116,101,115,116]++32::(k.name.data.toList++32::be t.error)):=by simp[n10,d10]
 have hcut:aK 10 (jY s t)=([116,101,115,116]++32::(k.name.data.toList++32::be t.error),some (mo t.marks++[10])):=by rw[htx];exact yH _ hno
 have hwd:aP 32 ([116,101,115,116]++32::(k.name.data.toList++32::be t.error))=[[116,101,115,116],k.name.data.toList,be t.error]:=by
  rw[ku _ (by decide),ku _ n32,ti d32]
 obtain⟨s1,s2,s3,s4⟩:=Lr hc hk;have hid:rS s.kinds (bs k.name.data.toList)=t.kind:=by
  rw[xT,rS,s1,JW (λq=>q.name==k.name) _ k _ 0 ((gv _ _).2 rfl) (λq hq=>Pa.2 λhe=>s3 q hq ((gv _ _).1 he)),s2,hn];simp
 have hli:nQ (bs k.name.data.toList) s.kinds 0 (-1)=t.kind:=by
  rw[xT,s1,Bd _ _ k _ 0 _ rfl s4,s2,hn];simp
 have hne:=vv hok.err.1 (by have:=hok.err.2;omega);have hnr:=zR hok.err.1 (by have:=hok.err.2;omega);refine⟨?_,?_⟩
 .have hw:qf (jY s t)=[[116,101,115,116],k.name.data.toList,be t.error]:=by rw[qf,hcut];exact hwd
  have hr:vk (jY s t)=mo t.marks:=by rw[vk,hcut];exact KV _ _
  rw[oq,hw];dsimp only;rw[hne,hr,AI _ hms,yZ _ _ hok.all,hid];rfl
 .have hsp:aP 10 (jY s t)=([116,101,115,116]++32::(k.name.data.toList++32::be t.error))::(t.marks.map lp++[[]]):=by
   rw[htx,ku _ hno,wr _ hms]
  have hst:AG s true ⟨-1,0,[]⟩ ([116,101,115,116]++32::(k.name.data.toList++32::be t.error))=⟨t.kind,t.error,[]⟩:=by
   simp only[AG,hwd,hli,hnr]
  rw[xf,hsp]
  cases hr:t.marks.map lp++[[]] with
  |nil=>simp at hr
  |cons a b=>
   rw[ym,hst,<-hr,AP s _ _ _ _ hok.all];simp
theorem xC{s}{all}{t}:oO s all t=true↔bV s.kinds.length t=0/\jY s t=all:=by simp[oO]
theorem Gk(s):bS s []=(hrCheck s).2.2:=by
 unfold bS;split
 .rename_i h;rw[h];rfl
 .rfl
theorem Dw(s)(all):aU s all=yz s all:=by
 rw[aU,yz,Gk];split
 .rename_i hc;split
  .rfl
  .cases hg:oO s all (xf s all) with
   |true=>
    obtain⟨h1,h2⟩:=xC.1 hg;have:=(AU hc h1).1;rw[h2]at this;rw[this];dsimp only
    rw[hg]
   |false=>
    rw[if_neg (by simp)]
    cases hp:oq s all with
    |none=>rfl
    |some t=>
     dsimp only;split
     .rename_i hgt;obtain⟨h1,h2⟩:=xC.1 hgt;have:=(AU hc h1).2;rw[h2]at this;rw[this,hgt]at hg;cases hg
     .rfl
 .rfl
theorem Dx{s}{all}(h:(aU s all).2=0):(hrCheck s).2.2=0/\bV s.kinds.length (aU s all).1=0/\jY s (aU s all).1=all:=by
 rw[Dw]at h |-;unfold yz at h |-;split at h
 .rename_i hc;split at h
  .cases h
  .rename_i h3;split at h
   .rename_i hg;rw[if_pos hc,if_neg h3,if_pos hg];exact⟨hc,xC.1 hg⟩
   .cases h
 .contradiction
theorem PM{s}{all}(h:(aU s all).2≠0):(aU s all).1=dC:=by
 rw[Dw]at h |-;unfold yz at h |-;split at h
 .split at h
  .rename_i hc h3;rw[if_pos hc,if_pos h3]
  .rename_i hc h3;split at h
   .exact absurd rfl h
   .rename_i hg;rw[if_pos hc,if_neg h3,if_neg hg]
 .rename_i hc;rw[if_neg hc]
theorem vW:∀l:List HrMark,(∀m,m∈l->(kJ m).length<=18)->(l.map kJ).flatten.length<=18*l.length
 |[],_=>by simp
 |m::l,h=>by
  have h1:=h m (by simp);have h2:=vW l λq hq=>h q (by simp[hq]);rw[bL,Pc,aB,cu];omega
set_option maxRecDepth 100000
theorem M3(t):PL (dL t) t.pv:=by
 cases t with
 |mk k e ms=>
  cases ms with
  |nil=>exact SM k e
  |cons m ms=>exact .refl _
theorem LY(s)(all):af TP 197 [s.pv,.str (bs all)] (.tuple [(aU s all).1.pv,.int .i64 (aU s all).2]):=
 (Kc s all).lessD (PL.tupleL ⟨M3 _,.refl _,trivial⟩)
theorem TL(a c:List Int)(b1 b2)(ha:a.length<1000000000):af TP 26 [.slice 1 (a.map aI) b1,.slice 1 (c.map aI) b2] (.bool (a==c)):=by
 refine aa (ah Tryz.func26 rfl (by kernel_rfl)) rfl ?_;simp only[go_sem,simprocAttr];refine aT (λhb=>?_) (λhb=>?_)<;>simp only[hb,go_sem,simprocAttr]
 .have:¬(a=c):=λh=>by subst h;simp at hb
  simp[this]
 have hlen:a.length=c.length:=by simp[bne]at hb;omega
 refine eM [0,1] a ha (τ:=Unit) (λdone rest _=>c.take done.length=done) (λdone _=>[(5,.p (.int .i64 done.length))]) () (by simp) ?_ ?_ ?_
 .simp only[go_sem,simprocAttr]<;>simp
 .intro _ e2;rw[eD (by omega)]at e2;subst e2;simp only[go_sem,simprocAttr];simp
 .intro done x rest _ e1 e2 hx hlt hnx;have hlt2:(done.length:Int)<(c.length:Int):=by omega
  obtain⟨y,hy⟩:∃y,c[done.length]?=some y:=⟨_,dc (by omega)⟩
  simp only[hlt,hlt2,hx,hy,go_sem,simprocAttr];refine aT (λhb=>?_) (λhb=>?_)<;>simp only[hb,go_sem,simprocAttr]
  .have:¬(a=c):=λh=>by
    subst h;rw[hx]at hy;cases hy;simp at hb
   simp[this]
  .have hxy:x=y:=by simpa using hb
   refine ak e1 () (by rw[aB,bn,s6,e2,hy,hxy];rfl) ?_;simp only[hnx,go_sem,simprocAttr]
theorem TB(a b):af TP 108 [.int .i64 a,.int .i64 b] (.agg [.int .i64 a,.int .i64 b]):=by
 refine aa (ah Tryz.func108 rfl (by kernel_rfl)) rfl ?_;simp only[go_sem,simprocAttr]
def Fb:HrShop:=⟨[⟨⟨#[97,108,116,97,114]⟩,⟨100000,101000⟩,1000⟩],[⟨⟨#[99,104,117,114,99,104]⟩,⟨1200,2000⟩,⟨90000,110000⟩⟩,⟨⟨#[108,97,109,112]⟩,⟨1400,2000⟩,⟨0,10000000⟩⟩],100⟩
theorem dv:∀l,B2 l l
 |[]=>trivial
 |x::l=>⟨.refl x,dv l⟩
theorem XW:af TP 62 [] Fb.pv:=by
 refine af.lessD (q:=.agg [.slice 4 (Fb.kinds.map HrKind.pv) true,.slice 5 (Fb.rules.map HrRule.pv) true,.int .i64 100]) ?_ (PL.aggL rfl ⟨PL.sliceL rfl (dv _),PL.sliceL rfl (dv _),.refl _,trivial⟩);refine aa (ah Tryz.func62 rfl (by kernel_rfl)) rfl ?_;simp only[go_sem,simprocAttr];repeat' (refine ae (TB _ _) rfl ?_;simp only[go_sem,simprocAttr])
 exact⟨rfl,rfl⟩
def sP (s:Span) (n:Int):Int:=s.lo+n%(s.hi-s.lo+1)
theorem Ek{s}(h:s.lo<=s.hi)(n):s.lo<=sP s n/\sP s n<=s.hi:=by
 have h1:=Int.emod_nonneg n (show s.hi-s.lo+1≠0 by omega);have h2:=Int.emod_lt_of_pos n (show 0<s.hi-s.lo+1 by omega);unfold sP;omega
theorem kU{x:HrK}(hx:HrKOk x):0<=x.promise/\x.promise<=16666/\x.promise*x.rates.hi<=x.k.weight.lo-x.k.rest/\(x.promise<16666->x.k.weight.lo-x.k.rest<x.rates.hi*(x.promise+1)):=by
 have hk:=hx.k;have h1:=hk.lo;have h4:=hk.rest;have h5:=hk.less;have h6:=hx.pos;have h7:=hx.hi
 have hd:=Frac.down_le (f:=⟨x.least.top,x.least.below*60⟩) (show (0:Int)<x.rates.hi*60 by omega);simp only[HrK.least]at hd;have e:∀n:Int,n*(x.rates.hi*60)=n*x.rates.hi*60:=λn=>(wD _ _ _).symm;have key:∀n:Int,n<=Frac.down ⟨60*(x.k.weight.lo-x.k.rest),x.rates.hi*60⟩↔n*x.rates.hi<=x.k.weight.lo-x.k.rest:=by
  intro n;rw[hd n,e n];omega
 rw[HrK.promise,HrK.least];dsimp only;generalize hD:Frac.down ⟨60*(x.k.weight.lo-x.k.rest),x.rates.hi*60⟩=D at key |-;have k0:0<=D:=(key 0).2 (by omega);have k1:=(key D).1 (ir _);have k2:¬(D+1)*x.rates.hi<=x.k.weight.lo-x.k.rest:=λh=>by have:=(key (D+1)).2 h;omega
 split
 .refine⟨k0,by omega,k1,λ_=>?_⟩;rw[sZ];omega
 .refine⟨by omega,by omega,(key _).1 (by omega),λh=>by omega⟩
theorem GE{s:HrShop}{l:List HrTest}{j:Int}(h:¬(hrLook s l j).2=0):nR s l j=(⟨0,0⟩,(hrLook s l j).2)/\tA s l j=(⟨0,0⟩,(hrLook s l j).2)/\dz s l j=(0,(hrLook s l j).2):=by
 rw[nR,tA,dz,if_neg h,if_neg h,if_neg h];exact⟨rfl,rfl,rfl⟩
theorem xm{s:HrShop}{l:List HrTest}{j:Int}(h:(hrLook s l j).2=0):nR s l j=((hrLook s l j).1.rates,0)/\tA s l j=((hrLook s l j).1.minutes,0)/\dz s l j=((hrLook s l j).1.promise,0):=by
 rw[nR,tA,dz,if_pos h,if_pos h,if_pos h];exact⟨rfl,rfl,rfl⟩
def Vl (l:List HrTest) (k w r:Int):PV:=.agg [.slice 3 (l.map HrTest.pv) false,.int .u8 k,.int .u32 w,.int .u32 r]
attribute [go_sem] Vl
namespace Ch
set_option maxRecDepth 4000
structure SOk (s:ChShop):Prop where
 wax:(Wx.wxCheck s.wax).2.2=0
 blend:(bdCheck s.blend).2.2=0
 wick:Wk.shopErr s.wick=0
 hour:(hrCheck s.hour).2.2=0
 colour:(Cl.clCheck s.colour).2.2=0
theorem SOk.kinds{s}(h:SOk s):s.hour.kinds.length<1000000000:=by
 have h:=h.hour;unfold hrCheck at h;split at h
 .rename_i h1;simp[ar]at h1;omega
 .cases h
theorem Ew{s}{l}{k}(h:(dz s l k).2=0):0<=(dz s l k).1/\(dz s l k).1<=16666:=by
 unfold dz at h |-;split at h
 .rename_i h0;rw[if_pos h0];have:=kU (iD h0).1;exact⟨this.1,this.2.1⟩
 .rename_i h0;exact absurd h h0
def Mt (s:ChShop) (b:ChBooks) (ex:List PV) (q:Except Int (Int×Int)) (r:AEnd) (h':Heap):Prop:=
 h'=B7 s b ex/\r=match q with|.error e=>.panic (gE e)|.ok (k,n)=>.ret (.p (.tuple [.int .i64 k,.int .i64 n]))
theorem GQ(s)(b)(ex)(n)(hs:SOk s)(hb:BkOk s b n)(kind):aD TP 152 [.ptr 2 1 0 0,.p (.str (bs kind))] (B7 s b ex)
  (Mt s b ex (fA s b kind)):=by
 have hk9:=hs.kinds;refine bN (ah Tryz.func152 rfl (by kernel_rfl)) rfl ?_;simp only[ChShop.cells,go_sem,simprocAttr];by_cases h0:aA (λx:HrKind=>x.name==bs kind) s.hour.kinds 0<0
 .refine sS (U5 s.hour.kinds (bs kind) false hk9 h0) rfl (nI _) ?_;simp only[fA,if_pos h0,go_sem,simprocAttr];exact⟨_,[],(bC _).symm,rfl,fE s b ex,trivial,rfl,rfl⟩
 refine ae (V' s.hour.kinds (bs kind) false hk9 (by omega)) rfl ?_;simp only[go_sem,simprocAttr];refine Ut (QV s.hour b.tests (aA (λx:HrKind=>x.name==bs kind) s.hour.kinds 0)) ?_ (.tuple (Flat.cons (.int _ _) (Flat.cons (.int _ _) Flat.nil))) ?_
 .simp only[go_sem,simprocAttr]
 simp only[go_sem,simprocAttr];by_cases h1:(dz s.hour b.tests (aA (λx:HrKind=>x.name==bs kind) s.hour.kinds 0)).2=0
 .simp only[h1,go_sem,simprocAttr];refine az (λ_=>?_) (λh=>by cases h);simp only[fA,if_neg h0,go_sem,simprocAttr];exact⟨_,[],(bC _).symm,rfl,fE s b ex,trivial,rfl,by simp only[h1];rfl⟩
 .have h1':((dz s.hour b.tests (aA (λx:HrKind=>x.name==bs kind) s.hour.kinds 0)).2==0)=false:=by simpa using h1
  simp only[h1',go_sem,simprocAttr];refine az (λh=>by cases h) (λ_=>?_);simp only[fA,if_neg h0,if_pos h1,go_sem,simprocAttr];exact⟨_,[],(bC _).symm,rfl,fE s b ex,trivial,rfl,rfl⟩
theorem zx(s)(b)(ex)(n)(hs:SOk s)(hb:BkOk s b n)(kind) :
  (∀e,fA s b kind=.error e->aD TP 152 [.ptr 2 1 0 0,.p (.str (bs kind))] (B7 s b ex) (λr h'=>r=.panic (gE e)/\h'=B7 s b ex)) /\
  (∀k n,fA s b kind=.ok (k,n)->(0<=n/\n<=16666)/\aD TP 152 [.ptr 2 1 0 0,.p (.str (bs kind))] (B7 s b ex) (λr h'=>r=.ret (.p (.tuple [.int .i64 k,.int .i64 n]))/\h'=B7 s b ex)):=by
 refine⟨λe he=>(GQ s b ex n hs hb kind).mono λr h' hr=>?_,λk m hk=>⟨?_,(GQ s b ex n hs hb kind).mono λr h' hr=>?_⟩⟩
 .unfold Mt at hr;rw[he]at hr;exact⟨hr.2,hr.1⟩
 .unfold fA at hk;dsimp only at hk;split at hk
  .cases hk
  .split at hk
   .cases hk
   .rename_i _ h2;cases hk;exact Ew (by simpa using h2)
 .unfold Mt at hr;rw[hk]at hr;exact⟨hr.2,hr.1⟩
theorem uN{P}{H}{Q}{ops}{rest}{dst}{A}{f}{args}{e}(hc:aD P f args A.h (λr h'=>r=.panic e/\h'=A.h))
  (h2:@WQ ⟨Q⟩ (.panic e) A):@WF ⟨P,H,ops,rest,Q,dst⟩ A f args:=
 cz hc (λv h hr=>by cases hr.1) (λv h hr=>by obtain⟨e,rfl⟩:=hr;cases e;exact h2)
theorem Z2(s)(b)(ex)(n)(hs:SOk s)(hb:BkOk s b n)(kind)(hours):aD TP 154 [.ptr 2 1 0 0,.p (.str (bs kind)),.p (.int .i64 hours)] (B7 s b ex) (kP s b ex (aO s b (.box kind hours))):=by
 have hp:=zx s b ex n hs hb kind;have hl:=hb.boxes;refine bN (ah Tryz.func154 rfl (by kernel_rfl)) rfl ?_;simp only[ChShop.cells,go_sem,simprocAttr]
 cases hq:fA s b kind with
 |error e=>
  refine uN (hp.1 e hq) ?_;simp only[go_sem,simprocAttr]
  exact dJ (e:=e) (by simp only[aO,hq]) [] (bC _).symm
 |ok q=>
  obtain⟨k,m⟩:=q;refine cJ (v:=.p (.tuple [.int .i64 k,.int .i64 m])) (h':=B7 s b ex) (hp.2 k m hq).2 ?_;simp only[go_sem,simprocAttr];refine az (λh1=>?_) (λh1=>?_);rotate_left
  .have h1':¬hours<=m:=by simpa using h1
   simp only[go_sem,simprocAttr];exact dJ (e:=9) (by simp only[aO,hq,if_pos h1']) [] (bC _).symm
  have h1':hours<=m:=by simpa using h1
  simp only[go_sem,simprocAttr];have h1n:¬¬hours<=m:=λh=>h h1';refine az (λh2=>?_) (λh2=>?_);rotate_left
  .have h2':¬b.boxes.length<20:=by simp at h2;omega
   simp only[go_sem,simprocAttr];exact dJ (e:=3) (by simp only[aO,hq,if_neg h1n,if_pos h2']) [] (bC _).symm
  have h2':b.boxes.length<20:=by simp at h2;omega
  have h2n:¬¬b.boxes.length<20:=λh=>h h2';have hrm:b.boxes.length+1<=aw:=by simp only[aw];omega
  simp only[hrm,go_sem,simprocAttr];exact ik (b':={ b with boxes:=b.boxes++[⟨k,hours⟩] }) (ex':=ex) (a:=uf) (by simp only[aO,hq,if_neg h1n,if_neg h2n]) [] (by simp only[aB,bn,cj,bL,ck,bC,uc,go_sem,simprocAttr])
def kR (x:ChLot):List Word:=[.s (bl x.name),.n x.grams]
def td (w:Word):AV:=.p w.pv
theorem JZ(n)(h)(l:List Word):aV (cm n h) (l.map td)=some (l.map Word.pv):=dD (eJ n h) Word.pv l
theorem Wl(n)(x):below n (lT x)=True:=eq_true trivial
theorem Q4(n)(x):below n (cR x)=True:=eq_true trivial
theorem T6(n)(x):below n (pW x)=True:=eq_true trivial
theorem Wm(n)(x):below n (uc x)=True:=eq_true trivial
theorem T5(n)(x):below n (td x)=True:=eq_true trivial
attribute [go_sem] JZ Wl Q4 T6 Wm T5
theorem wN(l:List ChLot):(l.flatMap kR).length=2*l.length:=by
 induction l with
 |nil=>rfl
 |cons x r ih=>rw[mF,aB,ih];simp[kR];omega
theorem Pw(l:List ChLot):(l.flatMap kR).flatMap Word.ws=l.flatMap λx=>[bl x.name,be x.grams]:=by
 rw[List.flatMap_assoc];rfl
theorem Vp(s)(b)(ex)(n)(hs:SOk s)(hb:BkOk s b n):aD TP 160 [.ptr 2 1 0 0] (B7 s b ex) (kP s b ex (aO s b .stock)):=by
 have hl:=hb.lots;refine bN (ah Tryz.func160 rfl (by kernel_rfl)) rfl ?_;simp only[ChShop.cells,go_sem,simprocAttr];refine cl 3 1 (by simp only[go_sem,simprocAttr]) ?_;simp only[go_sem,simprocAttr];refine aQ [10,11] b.lots (by omega) (τ:=Unit) (λdone rest _=>True) (λdone _=>[(3,.slice 7 (done.flatMap kR).length 0 (done.flatMap kR).length),(12,.p (.int .i64 done.length))]) (λdone _=>B7 s b ex++[.row 1 ((done.flatMap kR).map td)]) () trivial ?_ ?_ ?_
 .simp only[ChShop.cells,zA,go_sem,simprocAttr]
 .intro _ _;by_cases h0:b.lots=[]
  .have hz:(((b.lots.flatMap kR).length:Int)==0)=true:=by rw[h0];rfl
   simp only[ChShop.cells,hz,go_sem,simprocAttr];exact ik (b':=b) (ex':=ex) (a:=RG) (by simp only[aO,if_pos h0]) [_] rfl
  .have hz:(((b.lots.flatMap kR).length:Int)==0)=false:=by
    rw[beq_eq_false_iff_ne,wN];intro h;exact h0 (tK (by omega))
   simp only[ChShop.cells,hz,go_sem,simprocAttr];have hsd:=qa (b.lots.flatMap kR) false (by rw[wN];omega) (λw hw=>by
    obtain⟨x,hx,hw⟩:=zB.1 hw;have h1:=hb.grams x hx;have h2:=hb.names x hx;have h3:=hb.few;have h4:(100000:Int)*(n+1)<=100000*41:=by omega
    simp only[kR,ci,iL,or_false]at hw;rcases hw with rfl|rfl
    .show (bl x.name).length<=1000;unfold bl;have:x.name.data.toList.length=x.name.size:=by show x.name.data.toList.length=x.name.data.size;exact uX
     omega
    .exact⟨h1.1,by omega⟩)
   refine bf hsd ?_ (.str _) ?_
   .simp only[go_sem,simprocAttr]
   simp only[go_sem,simprocAttr];refine ik (b':=b) (ex':=ex) (a:=joinL ((b.lots.flatMap kR).flatMap Word.ws)) (by rw[Pw,aO,if_neg h0]) [_] rfl
 .intro done w r _ e1 _ hx hlt hnx;have hA:lT w=.p w.pv:=rfl;have hdl:=wN done;have hrm:2*done.length+2<=aw:=by rw[e1]at hl;simp at hl;simp only[aw];omega
  simp only[ChShop.cells,hlt,hx,hA,hdl,hrm,go_sem,simprocAttr];refine ak e1 () trivial ?_;simp only[hnx,Dd,mF,zA,kR,aB,cj,bC,td,Word.pv,Fl,bL,ck,go_sem,simprocAttr];rw[hdl]
theorem SOk.colours{s}(h:SOk s):s.colour.colours.length<1000000000:=by
 have:=(Cl.uh h.colour).len;omega
def D4 (x:ClBatch):AV:=.p x.pv
theorem XK(n)(h)(l:List ClBatch):aV (cm n h) (l.map D4)=some (l.map ClBatch.pv):=dD (eJ n h) ClBatch.pv l
theorem X5(n)(x):below n (D4 x)=True:=eq_true trivial
attribute [go_sem] XK X5
def gx (l:List ChBatch):List ClBatch:=l.map λx=>⟨x.colour,x.grams⟩
theorem N1(s)(b)(ex)(n)(hs:SOk s)(hb:BkOk s b n)(c)(o)(m)(hq:jK s b c=.ok (o,m)) :
  aD TP 217 [.ptr 2 1 0 0,.p (.str (bs c))] (B7 s b ex) (λr h'=>r=.ret (.p (.tuple [.slice 1 (o.map Cl.lA) false,.int .i64 m]))/\h'=B7 s b ex):=by
 have hl:=hb.batches;have hc9:=hs.colours;unfold jK at hq;dsimp only at hq;split at hq
 .cases hq
 rename_i h0;split at hq
 .cases hq
 rename_i h1;have h1':Cl.dH s.colour (aA (λx:ClColour=>x.name==bs c) s.colour.colours 0) (cy b)=0:=by simpa using h1
 split at hq
 .cases hq
 rename_i q h2;cases hq;refine qz (ah Tryz.func217 rfl (by kernel_rfl)) rfl ?_;simp only[ChShop.cells,go_sem,simprocAttr];refine ae (Ou s.colour.colours (bs c) false hc9 (by omega)) rfl ?_;simp only[go_sem,simprocAttr];refine cl 7 2 (by simp only[go_sem,simprocAttr]) ?_;simp only[go_sem,simprocAttr];refine aQ [0,6,25,26] b.batches (by omega) (τ:=Unit) (λdone rest _=>True) (λdone _=>[(7,.slice 7 done.length 0 done.length),(27,.p (.int .i64 done.length))]) (λdone _=>B7 s b ex++[.row 2 ((gx done).map D4)]) () trivial ?_ ?_ ?_
 .simp only[ChShop.cells,gx,ck,go_sem,simprocAttr]
 .intro _ _;have hw:gx b.batches=cy b:=rfl;have hwl:(cy b).length=b.batches.length:=by simp only[cy,eF]
  have hB:=Cl.Lm s.colour (aA (λx:ClColour=>x.name==bs c) s.colour.colours 0) (cy b) (by rw[hwl];omega);rw[Cl.qc,if_pos h1',h2]at hB;simp only[ChShop.cells,hw,go_sem,simprocAttr];refine yc hB ?_ ?_
  .simp only[hwl,go_sem,simprocAttr];rw[eD (by rw[eF,hwl];exact bB _)]
  simp only[go_sem,simprocAttr];refine az (λ_=>?_) (λh=>by cases h);simp only[go_sem,simprocAttr]
 .intro done w r _ e1 _ hx hlt hnx;have hx':=x7 hx ex;have hrm:done.length+1<=aw:=by rw[e1]at hl;simp at hl;simp only[aw];omega
  have hwd:(gx done).length=done.length:=by simp[gx]
  simp only[ChShop.cells,hlt,hx',hrm,hwd,go_sem,simprocAttr];refine ak e1 () trivial ?_;simp only[hnx,gx,aB,cj,bL,ck,D4,ClBatch.pv,go_sem,simprocAttr]
def Yc (s:ChShop) (b:ChBooks) (ex:List PV) (e:Int) (r:AEnd) (h':Heap):Prop:=r=.panic (gE e)/\h'=B7 s b ex
theorem N2(s)(b)(ex)(n)(hs:SOk s)(hb:BkOk s b n)(c)(e)(hq:jK s b c=.error e) :
  aD TP 217 [.ptr 2 1 0 0,.p (.str (bs c))] (B7 s b ex) (Yc s b ex e):=by
 have hl:=hb.batches;have hc9:=hs.colours;refine bN (ah Tryz.func217 rfl (by kernel_rfl)) rfl ?_;simp only[ChShop.cells,go_sem,simprocAttr];by_cases h0:aA (λx:ClColour=>x.name==bs c) s.colour.colours 0<0
 .have he:e=4:=by
   unfold jK at hq;dsimp only at hq;rw[if_pos h0]at hq;cases hq;rfl
  subst he;refine sS (U8 s.colour.colours (bs c) false hc9 h0) rfl (nI _) ?_;simp only[go_sem,simprocAttr];exact⟨_,[],(bC _).symm,rfl,fE s b ex,trivial,rfl,rfl⟩
 obtain⟨hp,hne⟩:Cl.qc s.colour (aA (λx:ClColour=>x.name==bs c) s.colour.colours 0) (cy b)=.tuple [.nilslice,.int .i64 0,.int .i64 e]/\(e==0)=false:=by
  unfold jK at hq;dsimp only at hq;rw[if_neg h0]at hq;split at hq
  .rename_i h1;cases hq;rw[Cl.qc,if_neg h1];exact⟨rfl,by simpa using h1⟩
  .rename_i h1;have h1':Cl.dH s.colour (aA (λx:ClColour=>x.name==bs c) s.colour.colours 0) (cy b)=0:=by simpa using h1
   split at hq
   .rename_i h2;cases hq;rw[Cl.qc,if_pos h1',h2];exact⟨rfl,rfl⟩
   .cases hq
 refine ae (Ou s.colour.colours (bs c) false hc9 (by omega)) rfl ?_;simp only[go_sem,simprocAttr];refine cl 7 2 (by simp only[go_sem,simprocAttr]) ?_;simp only[go_sem,simprocAttr];refine aQ [0,6,25,26] b.batches (by omega) (τ:=Unit) (λdone rest _=>True) (λdone _=>[(7,.slice 7 done.length 0 done.length),(27,.p (.int .i64 done.length))]) (λdone _=>B7 s b ex++[.row 2 ((gx done).map D4)]) () trivial ?_ ?_ ?_
 .simp only[ChShop.cells,gx,ck,go_sem,simprocAttr]
 .intro _ _;have hw:gx b.batches=cy b:=rfl;have hwl:(cy b).length=b.batches.length:=by simp only[cy,eF]
  have hB:=Cl.Lm s.colour (aA (λx:ClColour=>x.name==bs c) s.colour.colours 0) (cy b) (by rw[hwl];omega);rw[hp]at hB;simp only[ChShop.cells,hw,go_sem,simprocAttr];refine yc hB ?_ ?_
  .simp only[hwl,go_sem,simprocAttr];rw[eD (by rw[eF,hwl];exact bB _)]
  simp only[hne,go_sem,simprocAttr];refine az (λh=>by cases h) (λ_=>?_);simp only[go_sem,simprocAttr];exact⟨_,_,rfl,rfl,fE s b ex,trivial,rfl,rfl⟩
 .intro done w r _ e1 _ hx hlt hnx;have hx':=x7 hx ex;have hrm:done.length+1<=aw:=by rw[e1]at hl;simp at hl;simp only[aw];omega
  have hwd:(gx done).length=done.length:=by simp[gx]
  simp only[ChShop.cells,hlt,hx',hrm,hwd,go_sem,simprocAttr];refine ak e1 () trivial ?_;simp only[hnx,gx,aB,cj,bL,ck,D4,ClBatch.pv,go_sem,simprocAttr]
theorem rL{s}{b}{c}{o}{m}(hs:SOk s){n}(hb:BkOk s b n)(hq:jK s b c=.ok (o,m)):o.Perm (List.range b.batches.length)/\0<=m/\m<=210000:=by
 unfold jK at hq;dsimp only at hq;split at hq
 .cases hq
 split at hq
 .cases hq
 split at hq
 .cases hq
 rename_i q h2;cases hq;have hwl:(cy b).length=b.batches.length:=by simp only[cy,eF]
 unfold Cl.BR at h2;rw[hwl]at h2;have hl:(List.range b.batches.length).length<=7:=by rw[List.length_range];exact hb.batches
 have hS:=Cl.od (need:=Cl.jw s.colour (cy b)) (col:=Cl.mI (cy b)) (λc j n h=>by
  unfold Cl.jw at h;split at h
  .exact Cl.Cv (Cl.uh hs.colour) h
  .cases h) 7 (aA (λx:ClColour=>x.name==bs c) s.colour.colours 0) (List.range b.batches.length)
 rw[h2]at hS;refine⟨Cl.Ef hl h2,?_,?_⟩
 .exact(hS o m rfl).1
 .have:=(hS o m rfl).2;omega
def jZ (b:ChBooks) (o:List Nat):List Word:=o.map λi=>.s (ij b.batches i)
theorem SE(b)(o)(m):(jZ b o++[Word.n m]).flatMap Word.ws=o.map (ij b.batches)++[be m]:=by
 rw[Dd]
 congr 1
 induction o with
 |nil=>rfl
 |cons x r ih=>simp only[jZ,bL,mF]at ih |-;rw[ih];rfl
theorem Ll{s}{b}{n}(hb:BkOk s b n)(i):(ij b.batches i).length<=1000:=by
 unfold ij;split
 .rename_i x hx;have h:=(hb.waits x (aG hx)).2.2;unfold bl;have:x.name.data.toList.length=x.name.size:=by show x.name.data.toList.length=x.name.data.size;exact uX
  omega
 .exact dY _
theorem Fg(s)(b)(ex)(n)(hs:SOk s)(hb:BkOk s b n)(c):aD TP 148 [.ptr 2 1 0 0,.p (.str (bs c))] (B7 s b ex) (kP s b ex (aO s b (.plan c))):=by
 have hl:=hb.batches;refine bN (ah Tryz.func148 rfl (by kernel_rfl)) rfl ?_;simp only[ChShop.cells,go_sem,simprocAttr]
 cases hq:jK s b c with
 |error e=>
  refine uN (N2 s b ex n hs hb c e hq) ?_;simp only[go_sem,simprocAttr]
  exact dJ (e:=e) (by simp only[aO,hq]) [] (bC _).symm
 |ok q=>
  obtain⟨o,m⟩:=q;obtain⟨f1,f2,f3⟩:=rL hs hb hq;have fl:o.length=b.batches.length:=by rw[f1.length_eq,List.length_range]
  refine cJ (v:=.p (.tuple [.slice 1 (o.map Cl.lA) false,.int .i64 m])) (h':=B7 s b ex) (N1 s b ex n hs hb c o m hq) ?_;simp only[go_sem,simprocAttr];refine cl 7 1 (by simp only[go_sem,simprocAttr]) ?_;simp only[go_sem,simprocAttr];refine aQ [0,6,16,17] o (by omega) (τ:=Unit) (λdone rest _=>True) (λdone _=>[(7,.slice 7 done.length 0 done.length),(18,.p (.int .i64 done.length))]) (λdone _=>B7 s b ex++[.row 1 ((jZ b done).map td)]) () trivial ?_ ?_ ?_
  .simp only[ChShop.cells,jZ,ck,go_sem,simprocAttr]
  .intro _ _;have hpl:(jZ b o).length=o.length:=by simp[jZ]
   have hrm:o.length+1<=aw:=by simp only[aw];omega
   simp only[ChShop.cells,hpl,hrm,go_sem,simprocAttr];have hsd:=qa (jZ b o++[.n m]) false (by rw[aB,hpl];simp;omega) (λw hw=>by
    rcases dr.1 hw with hw|hw
    .obtain⟨i,_,rfl⟩:=cH.1 hw;exact Ll hb i
    .simp at hw;subst hw
     exact⟨f2,by omega⟩)
   refine bf hsd ?_ (.str _) ?_
   .have e:(jZ b o).map td++[AV.p (.iface 3 (.int .i64 m))]=(jZ b o++[Word.n m]).map td:=by rw[cj];rfl
    have e2:o.length+1=(jZ b o++[Word.n m]).length:=by rw[aB,hpl];rfl
    simp only[e,JZ,go_sem,simprocAttr];rw[e2,if_pos rfl];show some [PV.slice 1 (List.take (jZ b o++[Word.n m]).length (List.map Word.pv (jZ b o++[Word.n m]))) false]=_;rw[eD (by rw[eF];exact bB _)]
   simp only[go_sem,simprocAttr];exact ik (b':=b) (ex':=ex) (a:=joinL ((jZ b o++[Word.n m]).flatMap Word.ws)) (by rw[SE];simp only[aO,hq]) [_] rfl
  .intro done w r _ e1 _ hx hlt hnx;have hw:w<b.batches.length:=by
    have:w∈o:=by rw[e1];simp
    have:=f1.mem_iff.1 this;exact rj.1 this
   obtain⟨y,hy⟩:∃y,b.batches[w]?=some y:=⟨_,dc hw⟩
   have hx':=x7 hy ex;have hn:ij b.batches w=bl y.name:=by rw[ij,hy]
   have hwB:(w:Int)<(b.batches.length:Int):=by omega
   have hrm:done.length+1<=aw:=by rw[e1]at fl;simp at fl;simp only[aw];omega
   have hpl:(jZ b done).length=done.length:=by simp[jZ]
   simp only[ChShop.cells,hlt,hx,Cl.lA,hx',hwB,hrm,hpl,go_sem,simprocAttr];refine ak e1 () trivial ?_;simp only[hnx,jZ,aB,cj,bL,ck,td,Word.pv,hn,Fl,go_sem,simprocAttr]
def qO (l:List ChBatch):Int:=(l.map (·.grams)).sum
theorem rp{s}{b}{n}(hb:BkOk s b n):∀d,(∀x,x∈d->x∈b.batches)->0<=qO d/\qO d<=100000*d.length
 |[],_=>by simp[qO]
 |x::r,h=>by
  have ih:=rp hb r (λy hy=>h y (by simp[hy]));have hx:=(hb.waits x (h x (by simp))).1;simp only[qO,bL,List.sum_cons,cu]at ih |-;omega
set_option maxHeartbeats 1000000 in
theorem XD(s)(b)(ex)(n)(hs:SOk s)(hb:BkOk s b n)(c):aD TP 150 [.ptr 2 1 0 0,.p (.str (bs c))] (B7 s b ex) (kP s b ex (aO s b (.pour c))):=by
 have hl:=hb.batches;refine bN (ah Tryz.func150 rfl (by kernel_rfl)) rfl ?_;simp only[ChShop.cells,go_sem,simprocAttr]
 cases hq:jK s b c with
 |error e=>
  refine uN (N2 s b ex n hs hb c e hq) ?_;simp only[go_sem,simprocAttr]
  exact dJ (e:=e) (by simp only[aO,hq]) [] (bC _).symm
 |ok q=>
  obtain⟨o,m⟩:=q;obtain⟨f1,f2,f3⟩:=rL hs hb hq;refine cJ (v:=.p (.tuple [.slice 1 (o.map Cl.lA) false,.int .i64 m])) (h':=B7 s b ex) (N1 s b ex n hs hb c o m hq) ?_;simp only[go_sem,simprocAttr];refine aQ [0,6,19,20] b.batches (by omega) (τ:=Unit) (λdone rest _=>True) (λdone _=>[(21,.p (.int .i64 done.length))]) (λdone _=>B7 s { b with poured:=b.poured+qO done } ex) () trivial ?_ ?_ ?_
  .simp only[ChShop.cells,qO,ck,List.sum_nil,mb,go_sem,simprocAttr]
  .intro _ _;have hsum:=rp hb b.batches (λx hx=>hx);have hw1:=hb.poured;have hw2:=hb.lost;have hw3:=hb.few;have hwr:IntKind.i64.wrap (b.lost+m)=b.lost+m:=aj (by omega) (by omega);simp only[ChShop.cells,hwr,go_sem,simprocAttr];have hsd:=qa [.n m] true (by simp) (λw hw=>by
    simp only[ci,iL,or_false]at hw;subst hw
    exact⟨f2,by omega⟩)
   refine ae hsd rfl ?_;simp only[go_sem,simprocAttr];exact Tr (b':={ b with poured:=b.poured+j8 b.batches,batches:=[],lost:=b.lost+m }) (l:=b.batches) (x:=ex) (a:=joinL ([Word.n m].flatMap Word.ws)) (by simp only[aO,hq];rfl) rfl [] (bC _).symm
  .intro done w r _ e1 _ hx hlt hnx;have hx':=x7 hx ex;have hsum:=rp hb (done++[w]) (λx hx=>by rw[e1];simp at hx |-;rcases hx with h|h;exact .inl h;exact .inr (.inl h));have hdw:qO (done++[w])=qO done+w.grams:=by simp[qO]
   have hdl:(done++[w]).length<=7:=by rw[e1]at hl;simp at hl |-;omega
   have hw1:=hb.poured;have hw3:=hb.few;have hwr:IntKind.i64.wrap (b.poured+qO done+w.grams)=b.poured+(qO done+w.grams):=by rw[Int.add_assoc];exact aj (by omega) (by omega)
   simp only[ChShop.cells,hlt,hx',hwr,go_sem,simprocAttr];refine ak e1 () trivial ?_;simp only[hnx,hdw,ChShop.cells,go_sem,simprocAttr]
end Ch
end Abs
end Go.Proofs.YtoapoaoelpcniaaGreatDoor
