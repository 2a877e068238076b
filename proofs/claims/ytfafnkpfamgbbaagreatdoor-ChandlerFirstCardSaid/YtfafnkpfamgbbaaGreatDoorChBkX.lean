/-
  CONTRACTS: chandler: the books in memory; questions. No conditions but those in the theore
  PLAIN LAWS: what is written is read. No program in sight. No conditions but those in the t
-/
import Derived.Test.YtfafnkpfamgbbaaGreatDoorAbsCutX
import Derived.Test.YtfafnkpfamgbbaaGreatDoorChMustX
import Derived.Test.YtfafnkpfamgbbaaGreatDoorAbsFrame
import Derived.Test.YtfafnkpfamgbbaaGreatDoorHrReadX
set_option linter.unusedSimpArgs false
set_option linter.unusedVariables false
namespace Go.Proofs.YtfafnkpfamgbbaaGreatDoor
namespace Abs
namespace Ch
set_option maxRecDepth 4000
def kj (x:ChLot):AV:=.p x.pv
def cj (x:ChBatch):AV:=.p x.pv
def nC (x:HrTest):AV:=.p x.pv
def rd (x:HrBox):AV:=.p x.pv
def B7 (s:ChShop) (b:ChBooks) (ex:List PV):Heap :=
 [.dead,.dead,.row 23 [.agg ([.slice 3 b.lots.length 0 b.lots.length,.slice 4 (b.batches.length+ex.length) 0 b.batches.length,.slice 5 b.tests.length 0 b.tests.length,.slice 6 b.boxes.length 0 b.boxes.length,.p (.int .i64 b.poured),.p (.int .i64 b.lost)]++s.cells.map .p)],
  .row 4 (b.lots.map kj),.row 4 (b.batches.map cj++ex.map .p),.row 3 (b.tests.map nC),.row 2 (b.boxes.map rd)]
attribute [go_sem] B7
theorem eB (s) (b) (ex):∀ o,o∈B7 s b ex->aV 7 o:=by
 intro o ho;simp only [B7,cz,eQ,or_false] at ho;rcases ho with rfl | rfl | rfl | rfl | rfl | rfl | rfl
 .trivial
 .trivial
 .intro x hx;simp only [dR] at hx;subst hx;intro c hc;simp only [ChShop.cells,bQ,cO,bX,cz,eQ,or_false] at hc;rcases hc with (rfl | rfl | rfl | rfl | rfl | rfl) | hc
  .show 3<7;decide
  .show 4<7;decide
  .show 5<7;decide
  .show 6<7;decide
  .trivial
  .trivial
  .rcases hc with rfl | rfl | rfl | rfl | rfl | rfl | rfl | rfl | rfl | rfl | rfl | rfl | rfl | rfl | rfl | rfl | rfl<;>trivial
 .intro x hx;obtain ⟨y,_,rfl⟩:=dD.1 hx;trivial
 .intro x hx;rcases bX.1 hx with hx | hx
  .obtain ⟨y,_,rfl⟩:=dD.1 hx;trivial
  .obtain ⟨y,_,rfl⟩:=dD.1 hx;trivial
 .intro x hx;obtain ⟨y,_,rfl⟩:=dD.1 hx;trivial
 .intro x hx;obtain ⟨y,_,rfl⟩:=dD.1 hx;trivial
def uV (s:ChShop) (b:ChBooks) (l:List ChBatch) (ex:List PV):Heap :=
 [.dead,.dead,.row 23 [.agg ([.slice 3 b.lots.length 0 b.lots.length,.p .nilslice,.slice 5 b.tests.length 0 b.tests.length,.slice 6 b.boxes.length 0 b.boxes.length,.p (.int .i64 b.poured),.p (.int .i64 b.lost)]++s.cells.map .p)],
  .row 4 (b.lots.map kj),.row 4 (l.map cj++ex.map .p),.row 3 (b.tests.map nC),.row 2 (b.boxes.map rd)]
attribute [go_sem] uV
theorem Bk (s) (b) (l) (ex):∀ o,o∈uV s b l ex->aV 7 o:=by
 intro o ho;by_cases h:o=.row 23 [.agg ([.slice 3 b.lots.length 0 b.lots.length,.p .nilslice,.slice 5 b.tests.length 0 b.tests.length,.slice 6 b.boxes.length 0 b.boxes.length,.p (.int .i64 b.poured),.p (.int .i64 b.lost)]++s.cells.map .p)]
 .subst h;intro x hx;simp only [dR] at hx;subst hx;intro c hc;simp only [ChShop.cells,bQ,cO,bX,cz,eQ,or_false] at hc;rcases hc with (rfl | rfl | rfl | rfl | rfl | rfl) | hc
  .show 3<7;decide
  .trivial
  .show 5<7;decide
  .show 6<7;decide
  .trivial
  .trivial
  .rcases hc with rfl | rfl | rfl | rfl | rfl | rfl | rfl | rfl | rfl | rfl | rfl | rfl | rfl | rfl | rfl | rfl | rfl<;>trivial
 .refine eB s { b with batches:=l } ex o ?_;simp only [uV,B7,cz,eQ,or_false] at ho |-;rcases ho with ho | ho | ho | ho
  .exact .inl ho
  .exact .inr (.inl ho)
  .exact absurd ho h
  .exact .inr (.inr (.inr ho))
def jz (s:ChShop) (b:ChBooks) (ex:List PV) (q:Except Int (ChBooks×List UInt8)) (r:AEnd) (h':Heap):Prop :=
 match q with
 |.error e=>r=.panic (fo e)/\h'=B7 s b ex
 |.ok (b',a)=>r=.ret (.p (.str (bs a)))/\((∃ ex',h'=B7 s b' ex')\/(b'.batches=[]/\∃ l x,h'=uV s b' l x))
theorem cL {s} {b} {ex} {q} {e} (hq:q=.error e) {hh} (t) (hd:hh=B7 s b ex++t) :
  ∃ h' t,hh=h'++t/\h'.length=7/\(∀ o,o∈h'->aV h'.length o)/\zq (.panic (fo e))/\jz s b ex q (.panic (fo e)) h':=by
 subst hq;exact ⟨_,t,hd,rfl,eB s b ex,trivial,rfl,rfl⟩
theorem gc {s} {b b'} {ex ex'} {q} {a} (hq:q=.ok (b',a)) {hh} (t) (hd:hh=B7 s b' ex'++t) :
  ∃ h' t,hh=h'++t/\h'.length=7/\(∀ o,o∈h'->aV h'.length o)/\zq (.ret (.p (.str (bs a))))/\jz s b ex q (.ret (.p (.str (bs a)))) h':=by
 subst hq;exact ⟨_,t,hd,rfl,eB s b' ex',trivial,rfl,.inl ⟨_,rfl⟩⟩
theorem O8 {s} {b b'} {ex} {l} {x} {q} {a} (hq:q=.ok (b',a)) (h0:b'.batches=[]) {hh} (t) (hd:hh=uV s b' l x++t) :
  ∃ h' t,hh=h'++t/\h'.length=7/\(∀ o,o∈h'->aV h'.length o)/\zq (.ret (.p (.str (bs a))))/\jz s b ex q (.ret (.p (.str (bs a)))) h':=by
 subst hq;exact ⟨_,t,hd,rfl,Bk s b' l x,trivial,rfl,.inr ⟨h0,_,_,rfl⟩⟩
theorem uu (n) (h) (l:List ChLot):aO (bV n h) (l.map kj)=some (l.map ChLot.pv):=cZ (dO n h) ChLot.pv l
theorem L1 (n) (h) (l:List ChBatch):aO (bV n h) (l.map cj)=some (l.map ChBatch.pv):=cZ (dO n h) ChBatch.pv l
theorem rD (n) (h) (l:List HrTest):aO (bV n h) (l.map nC)=some (l.map HrTest.pv):=cZ (dO n h) HrTest.pv l
theorem uv (n) (h) (l:List HrBox):aO (bV n h) (l.map rd)=some (l.map HrBox.pv):=cZ (dO n h) HrBox.pv l
theorem vC (n) (h) (l:List ChBatch) (ex):aO (bV n h) (l.map cj++ex.map .p)=some (l.map ChBatch.pv++ex):=by
 have:=Cl.OL (dO n h) (l.map ChBatch.pv) ex;rw [tD] at this;exact this
theorem GB (l:List ChBatch) (ex:List PV):(l.map cj++ex.map AV.p).length=l.length+ex.length:=by simp
attribute [go_sem] uu L1 rD uv vC GB
theorem uM {l:List ChBatch} {i:Nat} {x} (h:l[i]?=some x) (ex:List PV):(l.map cj++ex.map AV.p)[i]?=some (.p x.pv):=by
 have hi:i<l.length:=(ar.1 h).1;rw [aS (by simpa using hi),cg,h];rfl
structure BkOk (s:ChShop) (b:ChBooks) (n:Nat):Prop where
 lots:b.lots.length<=8
 batches:b.batches.length<=7
 tests:b.tests.length<=8
 boxes:b.boxes.length<=20
 grams:∀ x,x∈b.lots->0<=x.grams/\x.grams<=100000*(n+1)
 names:∀ x,x∈b.lots->x.name.size<=20
 waits:∀ x,x∈b.batches->(1<=x.grams/\x.grams<=100000)/\(0<=x.lot/\x.lot<b.lots.length)/\x.name.size<=20
 poured:0<=b.poured/\b.poured<=700000*n
 lost:0<=b.lost/\b.lost<=300000*n
 few:n<=40
theorem Ih (s):bs (bl s)=s:=uH s
theorem A5 (s) (l):∀ (bx) (i),(∀ j,j∈(cm s l i bx).1->(i)<=j/\j<i+bx.length)/\(cm s l i bx).1.length<=bx.length/\((cm s l i bx).2≠0->(cm s l i bx).1=[])
 |[],i=>by simp [cm]
 |b::r,i=>by
  obtain ⟨h1,h2,h3⟩:=A5 s l r (i+1);rw [cm];split
  .split
   .refine ⟨λj hj=>?_,?_,λh=>absurd rfl h⟩
    .rcases bX.1 hj with hj | hj
     .split at hj
      .simp at hj;subst hj;simp;omega
      .simp at hj
     .have:=h1 j hj;simp at this |-;omega
    .rw [aP,e9];split<;>simp<;>omega
   .exact ⟨by simp,by simp,λ_=>rfl⟩
  .exact ⟨by simp,by simp,λ_=>rfl⟩
theorem Kr (s) (l) (bx) (hb:bx.length<=20):(∀ j,j∈(cb s l bx).1->0<=j/\j<1000000000)/\(cb s l bx).1.length<=1000/\((cb s l bx).2≠0->(cb s l bx).1=[]):=by
 obtain ⟨h1,h2,h3⟩:=A5 s l bx 0;unfold cb;split
 .split
  .exact ⟨by simp,by simp,λ_=>rfl⟩
  .exact ⟨λj hj=>by have:=h1 j hj;simp at this;omega,by omega,h3⟩
 .exact ⟨by simp,by simp,λ_=>rfl⟩
theorem HU (s) (b) (ex) (n) (hb:BkOk s b n):ay Tryz.prog 118 [.ptr 2 1 0 0] (B7 s b ex) (jz s b ex (aU s b .look)):=by
 obtain ⟨k1,k2,k3⟩:=Kr s.hour b.tests b.boxes hb.boxes;refine bv (ai (by kernel_rfl) rfl VQ) rfl ?_;simp only [ChShop.cells,go_sem,simprocAttr];refine P6 (Oz s.hour b.tests b.boxes) ?_ ?_
 .simp only [go_sem,simprocAttr]
 by_cases h0:(cb s.hour b.tests b.boxes).1=[]
 .have hv:gE (cb s.hour b.tests b.boxes)=.nilslice\/gE (cb s.hour b.tests b.boxes)=.slice 1 [] false:=by
   unfold gE;split
   .exact .inr (by rw [h0];rfl)
   .exact .inl rfl
  have ha:aU s b .look=.ok (b,Ai):=by rw [aU,if_pos h0]
  rcases hv with hv | hv
  all_goals (
   simp only [hv,go_sem,simprocAttr]
   exact gc ha [] (bF _).symm)
 .have h2:(cb s.hour b.tests b.boxes).2=0:=Classical.byContradiction λh=>h0 (k3 h);have hv:gE (cb s.hour b.tests b.boxes)=.slice 1 ((cb s.hour b.tests b.boxes).1.map aJ) false:=by rw [gE,if_pos h2];rfl
  have ha:aU s b .look=.ok (b,joinL (u6::(cb s.hour b.tests b.boxes).1.map bO)):=by rw [aU,if_neg h0]
  have hlen:(((cb s.hour b.tests b.boxes).1.length:Int)==0)=false:=by
   rw [beq_eq_false_iff_ne];intro h;exact h0 (rT (by omega))
  simp only [hv,hlen,go_sem,simprocAttr];have hs:=nH [.s u6,.ns (cb s.hour b.tests b.boxes).1] true (by simp) (λw hw=>by
   simp only [cz,eQ,or_false] at hw;rcases hw with rfl | rfl
   .show (6:Nat)<=1000;decide
   .exact ⟨k2,k1⟩)
  refine ae hs rfl ?_;simp only [go_sem,simprocAttr];exact gc (a:=joinL ([Word.s u6,.ns (cb s.hour b.tests b.boxes).1].flatMap Word.ws)) (by simpa [Word.ws] using ha) [] (bF _).symm
end Ch
theorem vE {c}:∀ {a} (b),c∉a->aF c (a++c::b)=(a,some b)
 |[],b,_=>by simp [aF]
 |x::a,b,h=>by
  have hx:¬ x=c:=λe=>h (by simp [e]);have ih:=vE (a:=a) b (λhm=>h (Nc _ hm));rw [gQ,aF,if_neg hx,ih]
theorem Gm {c}:∀ {a},c∉a->aF c a=(a,none)
 |[],_=>rfl
 |x::a,h=>by
  have hx:¬ x=c:=λe=>h (by simp [e]);have ih:=Gm (a:=a) (λhm=>h (Nc _ hm));rw [aF,if_neg hx,ih]
theorem j6 {c} {a} (b) (h:c∉a):aN c (a++c::b)=a::aN c b:=by
 have h1:=vE b h;rw [kU (r:=b) (by rw [h1]),h1]
theorem tP {c} {a} (h:c∉a):aN c a=[a]:=kV (by rw [Gm h])
theorem Hc (c) (l):nB c (l++[c])=l:=by simp [nB]
theorem ub:∀ (l) (last),kh l last=true->∀ c,c∈l->c.toNat=45\/(97<=c.toNat/\c.toNat<=122)
 |[],_,_,c,h=>by cases h
 |x::l,last,h,c,hc=>by
  rw [kh] at h;split at h
  .cases h
  .rename_i hb;rcases cz.1 hc with rfl | hc
   .simp [z7] at hb;omega
   .exact ub l _ h c hc
theorem Ox {b} (h:nameOk b=true):(10:UInt8)∉b.data.toList/\(32:UInt8)∉b.data.toList:=by
 unfold nameOk at h;rw [dA] at h;have:=ub _ _ h.1;refine ⟨λhm=>?_,λhm=>?_⟩
 .have:=this _ hm;simp at this
 .have:=this _ hm;simp at this
theorem rE (n):(10:UInt8)∉bO n/\(32:UInt8)∉bO n:=by
 have:=yH n.toNat;refine ⟨λhm=>?_,λhm=>?_⟩
 .have:=this _ hm;simp at this
 .have:=this _ hm;simp at this
def jR (m:HrMark):List UInt8:=bO m.minute++32::bO m.weight
def kG:List HrMark->List UInt8
 |[]=>[]
 |[m]=>jR m
 |m::q::r=>jR m++10::kG (q::r)
theorem AG (m):jp m=jR m++[10]:=by simp [jp,jR,sp,nl]
theorem ve (m):(10:UInt8)∉jR m:=by
 have h1:=rE m.minute;have h2:=rE m.weight;simp [jR,h1.1,h2.1]
theorem AS:∀ (l),l≠[]->(l.map jp).flatten=kG l++[10]
 |[],h=>absurd rfl h
 |[m],_=>by simp [kG,AG]
 |m::q::r,_=>by
  have ih:=AS (q::r) (by simp);rw [bQ,G8,ih,AG,kG];simp
theorem xG:∀ (l),l≠[]->aN 10 (kG l)=l.map jR
 |[],h=>absurd rfl h
 |[m],_=>by rw [kG,tP (ve m)];rfl
 |m::q::r,_=>by
  have ih:=xG (q::r) (by simp);rw [kG,j6 _ (ve m),ih];rfl
theorem tq:∀ (l),l≠[]->aN 10 (kG l++[10])=l.map jR++[[]]
 |[],h=>absurd rfl h
 |[m],_=>by rw [kG,j6 [] (ve m)];rfl
 |m::q::r,_=>by
  have ih:=tq (q::r) (by simp);rw [kG,di,gQ,j6 _ (ve m),ih];rfl
theorem O7 (m):aF 32 (jR m)=(bO m.minute,some (bO m.weight)):=vE _ (rE _).2
theorem IY (m):aN 32 (jR m)=[bO m.minute,bO m.weight]:=by
 rw [jR,j6 _ (rE _).2,tP (rE _).2]
theorem E4 {m} (h:0<=m.minute/\m.minute<=1000000/\0<=m.weight/\m.weight<=10000000):cS (jR m)=some m:=by
 simp only [cS,O7,wQ h.1 (by omega),wQ h.2.2.1 h.2.2.2]
theorem vQ:∀ (l acc),(∀ m,m∈l->0<=m.minute/\m.minute<=1000000/\0<=m.weight/\m.weight<=10000000)->dF acc (l.map jR)=some (acc++l)
 |[],acc,_=>by simp [dF]
 |m::l,acc,h=>by
  rw [bQ,dF,E4 (h m (by simp))];dsimp only;rw [vQ l _ λq hq=>h q (by simp [hq])];simp
theorem wP {n} (h0:0<=n) (h1:n<=10000000):CU (bO n)=n:=by
 obtain ⟨m,rfl⟩:=qL h0;have hl:=nh h0 h1;have hne:(bO (m:Int)).length≠0:=λh=>uA (m:Int).toNat (uZ.1 h);have hg:az ((bO (m:Int)).length:Int) 1 8=true:=by simp [az];omega
 have hf:Lib.decFrom 0 (bO (m:Int))=some m:=by unfold bO;rw [hH];exact wg m
 rw [CU,hg,hf];rfl
theorem yd (nm):∀ (l) (i) (acc),(∀ k,k∈l->¬ k.name=nm)->lS nm l i acc=acc
 |[],_,_,_=>rfl
 |k::r,i,acc,h=>by
  have hk:(k.name==nm)=false:=GZ.2 λhe=>h k (by simp) ((qG _ _).1 he);rw [lS,hk];exact yd nm r _ _ λq hq=>h q (by simp [hq])
theorem ye (nm):∀ (a) (k) (r) (i) (acc),k.name=nm->(∀ q,q∈r->¬ q.name=nm)->lS nm (a++k::r) i acc=((i+a.length:Nat):Int)
 |[],k,r,i,acc,h1,h2=>by
  have hk:(k.name==nm)=true:=(qG _ _).2 h1;rw [lX,lS,hk,yd nm r _ _ h2]
  simp
 |x::a,k,r,i,acc,h1,h2=>by
  rw [gQ,lS,ye nm a k r _ _ h1 h2];simp;omega
theorem Ge {α} (p:α->Bool):∀ (a) (k) (r) (i),p k=true->(∀ q,q∈a->p q=false)->au p (a++k::r) i=((i+a.length:Nat):Int)
 |[],k,r,i,h1,_=>by simp [au,h1]
 |x::a,k,r,i,h1,h2=>by
  rw [gQ,au,h2 x (by simp)];have:=Ge p a k r (i+1) h1 λq hq=>h2 q (by simp [hq]);rw [if_neg (by simp),this];simp;omega
theorem HD {s} (hc:(hrCheck s).2.2=0) {n} {k} (hk:s.kinds[n]?=some k) :
  s.kinds=s.kinds.take n++k::s.kinds.drop (n+1)/\(s.kinds.take n).length=n/\(∀ q,q∈s.kinds.take n->¬ q.name=k.name)/\∀ q,q∈s.kinds.drop (n+1)->¬ q.name=k.name:=by
 have hl:=(ar.1 hk).1;have h1:=u4 hl;rw [(ar.1 hk).2] at h1;refine ⟨by rw [<-h1,ol],by rw [wy];omega,λq hq e=>?_,λq hq e=>?_⟩
 .obtain ⟨i,hi⟩:=cX hq;rw [oH] at hi;split at hi
  .rename_i hlt;have:=ue hc hi hk e;omega
  .cases hi
 .obtain ⟨i,hi⟩:=cX hq;rw [ny] at hi;have:=ue hc hi hk e;omega
theorem xL (s):∀ (l) (k e) (acc),(∀ m,m∈l->0<=m.minute/\m.minute<=1000000/\0<=m.weight/\m.weight<=10000000) ->
  vd s false ⟨k,e,acc⟩ (l.map jR++[[]])=⟨k,e,acc++l⟩
 |[],k,e,acc,_=>by simp [vd]
 |m::l,k,e,acc,h=>by
  have hm:=h m (by simp);have ih:=xL s l k e (acc++[m]) λq hq=>h q (by simp [hq]);have hst:xE s false ⟨k,e,acc⟩ (jR m)=⟨k,e,acc++[m]⟩:=by
   simp only [xE,IY,wP hm.1 (show m.minute<=10000000 by omega),wP hm.2.2.1 hm.2.2.2]
  rw [bQ,gQ]
  cases hr:l.map jR++[[]] with
  |nil=>simp at hr
  |cons a b =>
   rw [vd,hst,<-hr,ih];simp
theorem xP {s} {t} (hc:(hrCheck s).2.2=0) (ht:bL s.kinds.length t=0):mh s (iO s t)=some t/\t7 s (iO s t)=t:=by
 obtain ⟨hok,k0,k1⟩:=fz ht;obtain ⟨n,hn⟩:=qL k0;have hnl:n<s.kinds.length:=by omega
 obtain ⟨k,hk⟩:∃ k,s.kinds[n]?=some k:=⟨_,b6 hnl⟩
 have hko:=qy hc (aI hk);obtain ⟨n10,n32⟩:=Ox hko.name;obtain ⟨d10,d32⟩:=rE t.error;have hms:t.marks≠[]:=by intro h;have:=hok.two;rw [h] at this;simp at this
 have htx:iO s t=([116,101,115,116]++32::(k.name.data.toList++32::bO t.error))++10::(kG t.marks++[10]):=by
  rw [iO,hn,hH,hk,mT,gY,AS _ hms];simp [mr,rv,sp,nl]
 have hno:(10:UInt8)∉([116,101,115,116]++32::(k.name.data.toList++32::bO t.error)):=by simp [n10,d10]
 have hcut:aF 10 (iO s t)=([116,101,115,116]++32::(k.name.data.toList++32::bO t.error),some (kG t.marks++[10])):=by rw [htx];exact vE _ hno
 have hwd:aN 32 ([116,101,115,116]++32::(k.name.data.toList++32::bO t.error))=[[116,101,115,116],k.name.data.toList,bO t.error]:=by
  rw [j6 _ (by decide),j6 _ n32,tP d32]
 obtain ⟨s1,s2,s3,s4⟩:=HD hc hk;have hid:pq s.kinds (bs k.name.data.toList)=t.kind:=by
  rw [uH,pq,s1,Ge (λq=>q.name==k.name) _ k _ 0 ((qG _ _).2 rfl) (λq hq=>GZ.2 λhe=>s3 q hq ((qG _ _).1 he)),s2,hn];simp
 have hli:lS (bs k.name.data.toList) s.kinds 0 (-1)=t.kind:=by
  rw [uH,s1,ye _ _ k _ 0 _ rfl s4,s2,hn];simp
 have hne:=wQ hok.err.1 (by have:=hok.err.2;omega);have hnr:=wP hok.err.1 (by have:=hok.err.2;omega);refine ⟨?_,?_⟩
 .have hw:nL (iO s t)=[[116,101,115,116],k.name.data.toList,bO t.error]:=by rw [nL,hcut];exact hwd
  have hr:sv (iO s t)=kG t.marks:=by rw [sv,hcut];exact Hc _ _
  rw [mh,hw];dsimp only;rw [hne,hr,xG _ hms,vQ _ _ hok.all,hid];rfl
 .have hsp:aN 10 (iO s t)=([116,101,115,116]++32::(k.name.data.toList++32::bO t.error))::(t.marks.map jR++[[]]):=by
   rw [htx,j6 _ hno,tq _ hms]
  have hst:xE s true ⟨-1,0,[]⟩ ([116,101,115,116]++32::(k.name.data.toList++32::bO t.error))=⟨t.kind,t.error,[]⟩:=by
   simp only [xE,hwd,hli,hnr]
  rw [t7,hsp]
  cases hr:t.marks.map jR++[[]] with
  |nil=>simp at hr
  |cons a b =>
   rw [vd,hst,<-hr,xL s _ _ _ _ hok.all];simp
theorem ut {s} {all} {t}:mF s all t=true↔bL s.kinds.length t=0/\iO s t=all:=by simp [mF]
theorem CP (s):bS s []=(hrCheck s).2.2:=by
 unfold bS;split
 .rename_i h;rw [h];rfl
 .rfl
theorem Aw (s) (all):aM s all=vw s all:=by
 rw [aM,vw,CP];split
 .rename_i hc;split
  .rfl
  .cases hg:mF s all (t7 s all) with
   |true =>
    obtain ⟨h1,h2⟩:=ut.1 hg;have:=(xP hc h1).1;rw [h2] at this;rw [this];dsimp only
    rw [hg]
   |false =>
    rw [if_neg (by simp)]
    cases hp:mh s all with
    |none=>rfl
    |some t =>
     dsimp only;split
     .rename_i hgt;obtain ⟨h1,h2⟩:=ut.1 hgt;have:=(xP hc h1).2;rw [h2] at this;rw [this,hgt] at hg;cases hg
     .rfl
 .rfl
theorem I6 {s} {all} (h:(aM s all).2=0):(hrCheck s).2.2=0/\bL s.kinds.length (aM s all).1=0/\iO s (aM s all).1=all:=by
 rw [Aw] at h |-;unfold vw at h |-;split at h
 .rename_i hc;split at h
  .cases h
  .rename_i h3;split at h
   .rename_i hg;rw [if_pos hc,if_neg h3,if_pos hg];exact ⟨hc,ut.1 hg⟩
   .cases h
 .contradiction
theorem Lv {s} {all} (h:(aM s all).2≠0):(aM s all).1=cH:=by
 rw [Aw] at h |-;unfold vw at h |-;split at h
 .split at h
  .rename_i hc h3;rw [if_pos hc,if_pos h3]
  .rename_i hc h3;split at h
   .exact absurd rfl h
   .rename_i hg;rw [if_pos hc,if_neg h3,if_neg hg]
 .rename_i hc;rw [if_neg hc]
theorem sU:∀ l:List HrMark,(∀ m,m∈l->(jp m).length<=18)->(l.map jp).flatten.length<=18*l.length
 |[],_=>by simp
 |m::l,h=>by
  have h1:=h m (by simp);have h2:=sU l λq hq=>h q (by simp [hq]);rw [bQ,G8,aP,e9];omega
end Abs
end Go.Proofs.YtfafnkpfamgbbaaGreatDoor
