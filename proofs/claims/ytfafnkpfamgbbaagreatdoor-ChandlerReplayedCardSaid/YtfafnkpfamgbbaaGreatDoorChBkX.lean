/-
  CONTRACTS: chandler: the books in memory; questions. No conditions but those in the theore
  PLAIN LAWS: what is written is read. No program in sight. No conditions but those in the t
  CONTRACTS: the helpers of the laws of layer 9: the examples, and that they are answered as
  CONTRACTS: the laws HourKept and HourRules. No conditions but those in the theorems' heads
  CONTRACTS: chandler: promise, box, stock. No conditions but those in the theorems' heads.
  CONTRACTS: chandler: best, plan, pour. No conditions but those in the theorems' heads.
-/
import Derived.Test.YtfafnkpfamgbbaaGreatDoorAbsCutX
import Derived.Test.YtfafnkpfamgbbaaGreatDoorChMustX
import Derived.Test.YtfafnkpfamgbbaaGreatDoorAbsFrame
import Derived.Test.YtfafnkpfamgbbaaGreatDoorHrReadX
set_option linter.unusedSimpArgs false
set_option linter.unusedVariables false
open Go.Proofs.Tryz renaming prog->TP
namespace Go.Proofs.YtfafnkpfamgbbaaGreatDoor
namespace Abs
namespace Ch
set_option maxRecDepth 4000
def ll (x:ChLot):AV:=.p x.pv
def cG (x:ChBatch):AV:=.p x.pv
def oX (x:HrTest):AV:=.p x.pv
def sR (x:HrBox):AV:=.p x.pv
def B7 (s:ChShop) (b:ChBooks) (ex:List PV):Heap :=
 [.dead,.dead,.row 23 [.agg ([.slice 3 b.lots.length 0 b.lots.length,.slice 4 (b.batches.length+ex.length) 0 b.batches.length,.slice 5 b.tests.length 0 b.tests.length,.slice 6 b.boxes.length 0 b.boxes.length,.p (.int .i64 b.poured),.p (.int .i64 b.lost)]++s.cells.map .p)],
  .row 4 (b.lots.map ll),.row 4 (b.batches.map cG++ex.map .p),.row 3 (b.tests.map oX),.row 2 (b.boxes.map sR)]
attribute [go_sem] B7
theorem fo (s) (b) (ex):∀ o,o∈B7 s b ex->bi 7 o:=by
 intro o ho;simp only [B7,bw,eD,or_false] at ho;rcases ho with rfl | rfl | rfl | rfl | rfl | rfl | rfl
 .trivial
 .trivial
 .intro x hx;simp only [fT] at hx;subst hx;intro c hc;simp only [ChShop.cells,bB,cm,ea,bw,eD,or_false] at hc;rcases hc with (rfl | rfl | rfl | rfl | rfl | rfl) | hc
  .show 3<7;decide
  .show 4<7;decide
  .show 5<7;decide
  .show 6<7;decide
  .trivial
  .trivial
  .rcases hc with rfl | rfl | rfl | rfl | rfl | rfl | rfl | rfl | rfl | rfl | rfl | rfl | rfl | rfl | rfl | rfl | rfl<;>trivial
 .intro x hx;obtain ⟨y,_,rfl⟩:=ec.1 hx;trivial
 .intro x hx;rcases ea.1 hx with hx | hx
  .obtain ⟨y,_,rfl⟩:=ec.1 hx;trivial
  .obtain ⟨y,_,rfl⟩:=ec.1 hx;trivial
 .intro x hx;obtain ⟨y,_,rfl⟩:=ec.1 hx;trivial
 .intro x hx;obtain ⟨y,_,rfl⟩:=ec.1 hx;trivial
def wR (s:ChShop) (b:ChBooks) (l:List ChBatch) (ex:List PV):Heap :=
 [.dead,.dead,.row 23 [.agg ([.slice 3 b.lots.length 0 b.lots.length,.p .nilslice,.slice 5 b.tests.length 0 b.tests.length,.slice 6 b.boxes.length 0 b.boxes.length,.p (.int .i64 b.poured),.p (.int .i64 b.lost)]++s.cells.map .p)],
  .row 4 (b.lots.map ll),.row 4 (l.map cG++ex.map .p),.row 3 (b.tests.map oX),.row 2 (b.boxes.map sR)]
attribute [go_sem] wR
theorem Du (s) (b) (l) (ex):∀ o,o∈wR s b l ex->bi 7 o:=by
 intro o ho;by_cases h:o=.row 23 [.agg ([.slice 3 b.lots.length 0 b.lots.length,.p .nilslice,.slice 5 b.tests.length 0 b.tests.length,.slice 6 b.boxes.length 0 b.boxes.length,.p (.int .i64 b.poured),.p (.int .i64 b.lost)]++s.cells.map .p)]
 .subst h;intro x hx;simp only [fT] at hx;subst hx;intro c hc;simp only [ChShop.cells,bB,cm,ea,bw,eD,or_false] at hc;rcases hc with (rfl | rfl | rfl | rfl | rfl | rfl) | hc
  .show 3<7;decide
  .trivial
  .show 5<7;decide
  .show 6<7;decide
  .trivial
  .trivial
  .rcases hc with rfl | rfl | rfl | rfl | rfl | rfl | rfl | rfl | rfl | rfl | rfl | rfl | rfl | rfl | rfl | rfl | rfl<;>trivial
 .refine fo s { b with batches:=l } ex o ?_;simp only [wR,B7,bw,eD,or_false] at ho |-;rcases ho with ho | ho | ho | ho
  .exact .inl ho
  .exact .inr (.inl ho)
  .exact absurd ho h
  .exact .inr (.inr (.inr ho))
def kr (s:ChShop) (b:ChBooks) (ex:List PV) (q:Except Int (ChBooks×List UInt8)) (r:AEnd) (h':Heap):Prop :=
 match q with
 |.error e=>r=.panic (gp e)/\h'=B7 s b ex
 |.ok (b',a)=>r=.ret (.p (.str (bs a)))/\((∃ ex',h'=B7 s b' ex')\/(b'.batches=[]/\∃ l x,h'=wR s b' l x))
theorem dv {s} {b} {ex} {q} {e} (hq:q=.error e) {hh} (t) (hd:hh=B7 s b ex++t) :
  ∃ h' t,hh=h'++t/\h'.length=7/\(∀ o,o∈h'->bi h'.length o)/\Br (.panic (gp e))/\kr s b ex q (.panic (gp e)) h':=by
 subst hq;exact ⟨_,t,hd,rfl,fo s b ex,trivial,rfl,rfl⟩
theorem g7 {s} {b b'} {ex ex'} {q} {a} (hq:q=.ok (b',a)) {hh} (t) (hd:hh=B7 s b' ex'++t) :
  ∃ h' t,hh=h'++t/\h'.length=7/\(∀ o,o∈h'->bi h'.length o)/\Br (.ret (.p (.str (bs a))))/\kr s b ex q (.ret (.p (.str (bs a)))) h':=by
 subst hq;exact ⟨_,t,hd,rfl,fo s b' ex',trivial,rfl,.inl ⟨_,rfl⟩⟩
theorem RV {s} {b b'} {ex} {l} {x} {q} {a} (hq:q=.ok (b',a)) (h0:b'.batches=[]) {hh} (t) (hd:hh=wR s b' l x++t) :
  ∃ h' t,hh=h'++t/\h'.length=7/\(∀ o,o∈h'->bi h'.length o)/\Br (.ret (.p (.str (bs a))))/\kr s b ex q (.ret (.p (.str (bs a)))) h':=by
 subst hq;exact ⟨_,t,hd,rfl,Du s b' l x,trivial,rfl,.inr ⟨h0,_,_,rfl⟩⟩
theorem wn (n) (h) (l:List ChLot):aU (ci n h) (l.map ll)=some (l.map ChLot.pv):=dq (er n h) ChLot.pv l
theorem OC (n) (h) (l:List ChBatch):aU (ci n h) (l.map cG)=some (l.map ChBatch.pv):=dq (er n h) ChBatch.pv l
theorem tg (n) (h) (l:List HrTest):aU (ci n h) (l.map oX)=some (l.map HrTest.pv):=dq (er n h) HrTest.pv l
theorem wq (n) (h) (l:List HrBox):aU (ci n h) (l.map sR)=some (l.map HrBox.pv):=dq (er n h) HrBox.pv l
theorem xu (n) (h) (l:List ChBatch) (ex):aU (ci n h) (l.map cG++ex.map .p)=some (l.map ChBatch.pv++ex):=by
 have:=Cl.Ry (er n h) (l.map ChBatch.pv) ex;rw [tH] at this;exact this
theorem I0 (l:List ChBatch) (ex:List PV):(l.map cG++ex.map AV.p).length=l.length+ex.length:=by simp
attribute [go_sem] wn OC tg wq xu I0
theorem wI {l:List ChBatch} {i:Nat} {x} (h:l[i]?=some x) (ex:List PV):(l.map cG++ex.map AV.p)[i]?=some (.p x.pv):=by
 have hi:i<l.length:=(aE.1 h).1;rw [be (by simpa using hi),cv,h];rfl
structure BkOk (s:ChShop) (b:ChBooks) (n:Nat):Prop where
 lots:b.lots.length<=8
 batches:b.batches.length<=7
 tests:b.tests.length<=8
 boxes:b.boxes.length<=20
 grams:∀ x,x∈b.lots->0<=x.grams/\x.grams<=100000*(n+1)
 names:∀ x,x∈b.lots->x.name.size<=20
 waits:∀ x,x∈b.batches->(1<=x.grams/\x.grams<=100000)/\(0<=x.lot/\x.lot<b.lots.length)/\x.name.size<=20
 poured:0<=b.poured/\b.poured<=700000*n
 lost:0<=b.lost/\b.lost<=300000*n
 few:n<=40
theorem KI (s):bs (bl s)=s:=tr s
theorem Dd (s) (l):∀ (bx) (i),(∀ j,j∈(cO s l i bx).1->(i)<=j/\j<i+bx.length)/\(cO s l i bx).1.length<=bx.length/\((cO s l i bx).2≠0->(cO s l i bx).1=[])
 |[],i=>by simp [cO]
 |b::r,i=>by
  obtain ⟨h1,h2,h3⟩:=Dd s l r (i+1);rw [cO];split
  .split
   .refine ⟨λj hj=>?_,?_,λh=>absurd rfl h⟩
    .rcases ea.1 hj with hj | hj
     .split at hj
      .simp at hj;subst hj;simp;omega
      .simp at hj
     .have:=h1 j hj;simp at this |-;omega
    .rw [aI,ct];split<;>simp<;>omega
   .exact ⟨by simp,by simp,λ_=>rfl⟩
  .exact ⟨by simp,by simp,λ_=>rfl⟩
theorem M2 (s) (l) (bx) (hb:bx.length<=20):(∀ j,j∈(cz s l bx).1->0<=j/\j<1000000000)/\(cz s l bx).1.length<=1000/\((cz s l bx).2≠0->(cz s l bx).1=[]):=by
 obtain ⟨h1,h2,h3⟩:=Dd s l bx 0;unfold cz;split
 .split
  .exact ⟨by simp,by simp,λ_=>rfl⟩
  .exact ⟨λj hj=>by have:=h1 j hj;simp at this;omega,by omega,h3⟩
 .exact ⟨by simp,by simp,λ_=>rfl⟩
theorem Kh (s) (b) (ex) (n) (hb:BkOk s b n):aC TP 118 [.ptr 2 1 0 0] (B7 s b ex) (kr s b ex (aR s b .look)):=by
 obtain ⟨k1,k2,k3⟩:=M2 s.hour b.tests b.boxes hb.boxes;refine bO (ai (by kernel_rfl) rfl YP) rfl ?_;simp only [ChShop.cells,go_sem,simprocAttr];refine SS (Rl s.hour b.tests b.boxes) ?_ ?_
 .simp only [go_sem,simprocAttr]
 by_cases h0:(cz s.hour b.tests b.boxes).1=[]
 .have hv:io (cz s.hour b.tests b.boxes)=.nilslice\/io (cz s.hour b.tests b.boxes)=.slice 1 [] false:=by
   unfold io;split
   .exact .inr (by rw [h0];rfl)
   .exact .inl rfl
  have ha:aR s b .look=.ok (b,Cf):=by rw [aR,if_pos h0]
  rcases hv with hv | hv
  all_goals (
   simp only [hv,go_sem,simprocAttr]
   exact g7 ha [] (aW _).symm)
 .have h2:(cz s.hour b.tests b.boxes).2=0:=Classical.byContradiction λh=>h0 (k3 h);have hv:io (cz s.hour b.tests b.boxes)=.slice 1 ((cz s.hour b.tests b.boxes).1.map aK) false:=by rw [io,if_pos h2];rfl
  have ha:aR s b .look=.ok (b,joinL (xa::(cz s.hour b.tests b.boxes).1.map bH)):=by rw [aR,if_neg h0]
  have hlen:(((cz s.hour b.tests b.boxes).1.length:Int)==0)=false:=by
   rw [beq_eq_false_iff_ne];intro h;exact h0 (uW (by omega))
  simp only [hv,hlen,go_sem,simprocAttr];have hs:=ph [.s xa,.ns (cz s.hour b.tests b.boxes).1] true (by simp) (λw hw=>by
   simp only [bw,eD,or_false] at hw;rcases hw with rfl | rfl
   .show (6:Nat)<=1000;decide
   .exact ⟨k2,k1⟩)
  refine ae hs rfl ?_;simp only [go_sem,simprocAttr];exact g7 (a:=joinL ([Word.s xa,.ns (cz s.hour b.tests b.boxes).1].flatMap Word.ws)) (by simpa [Word.ws] using ha) [] (aW _).symm
end Ch
theorem tj {c}:∀ {a} (b),c∉a->aH c (a++c::b)=(a,some b)
 |[],b,_=>by simp [aH]
 |x::a,b,h=>by
  have hx:¬ x=c:=λe=>h (by simp [e]);have ih:=tj (a:=a) b (λhm=>h (tQ _ hm));rw [hG,aH,if_neg hx,ih]
theorem IJ {c}:∀ {a},c∉a->aH c a=(a,none)
 |[],_=>rfl
 |x::a,h=>by
  have hx:¬ x=c:=λe=>h (by simp [e]);have ih:=IJ (a:=a) (λhm=>h (tQ _ hm));rw [aH,if_neg hx,ih]
theorem j4 {c} {a} (b) (h:c∉a):aJ c (a++c::b)=a::aJ c b:=by
 have h1:=tj b h;rw [l5 (r:=b) (by rw [h1]),h1]
theorem vC {c} {a} (h:c∉a):aJ c a=[a]:=l6 (by rw [IJ h])
theorem Jx (c) (l):oW c (l++[c])=l:=by simp [oW]
theorem ru:∀ (l) (last),dz l last=true->∀ c,c∈l->c.toNat=45\/(97<=c.toNat/\c.toNat<=122)
 |[],_,_,c,h=>by cases h
 |x::l,last,h,c,hc=>by
  rw [dz] at h;split at h
  .cases h
  .rename_i hb;rcases bw.1 hc with rfl | hc
   .simp [qg] at hb;omega
   .exact ru l _ h c hc
theorem xj {b} (h:nameOk b=true):(10:UInt8)∉b.data.toList/\(32:UInt8)∉b.data.toList:=by
 unfold nameOk at h;rw [cK] at h;have:=ru _ _ h.1;refine ⟨λhm=>?_,λhm=>?_⟩
 .have:=this _ hm;simp at this
 .have:=this _ hm;simp at this
theorem rG (n):(10:UInt8)∉bH n/\(32:UInt8)∉bH n:=by
 have:=qG n.toNat;refine ⟨λhm=>?_,λhm=>?_⟩
 .have:=this _ hm;simp at this
 .have:=this _ hm;simp at this
def kP (m:HrMark):List UInt8:=bH m.minute++32::bH m.weight
def lO:List HrMark->List UInt8
 |[]=>[]
 |[m]=>kP m
 |m::q::r=>kP m++10::lO (q::r)
theorem CJ (m):jh m=kP m++[10]:=by simp [jh,kP,sp,nl]
theorem xe (m):(10:UInt8)∉kP m:=by
 have h1:=rG m.minute;have h2:=rG m.weight;simp [kP,h1.1,h2.1]
theorem CX:∀ (l),l≠[]->(l.map jh).flatten=lO l++[10]
 |[],h=>absurd rfl h
 |[m],_=>by simp [lO,CJ]
 |m::q::r,_=>by
  have ih:=CX (q::r) (by simp);rw [bB,Ek,ih,CJ,lO];simp
theorem zF:∀ (l),l≠[]->aJ 10 (lO l)=l.map kP
 |[],h=>absurd rfl h
 |[m],_=>by rw [lO,vC (xe m)];rfl
 |m::q::r,_=>by
  have ih:=zF (q::r) (by simp);rw [lO,j4 _ (xe m),ih];rfl
theorem uY:∀ (l),l≠[]->aJ 10 (lO l++[10])=l.map kP++[[]]
 |[],h=>absurd rfl h
 |[m],_=>by rw [lO,j4 [] (xe m)];rfl
 |m::q::r,_=>by
  have ih:=uY (q::r) (by simp);rw [lO,cE,hG,j4 _ (xe m),ih];rfl
theorem RU (m):aH 32 (kP m)=(bH m.minute,some (bH m.weight)):=tj _ (rG _).2
theorem Ls (m):aJ 32 (kP m)=[bH m.minute,bH m.weight]:=by
 rw [kP,j4 _ (rG _).2,vC (rG _).2]
theorem He {m} (h:0<=m.minute/\m.minute<=1000000/\0<=m.weight/\m.weight<=10000000):dG (kP m)=some m:=by
 simp only [dG,RU,uk h.1 (by omega),uk h.2.2.1 h.2.2.2]
theorem xI:∀ (l acc),(∀ m,m∈l->0<=m.minute/\m.minute<=1000000/\0<=m.weight/\m.weight<=10000000)->em acc (l.map kP)=some (acc++l)
 |[],acc,_=>by simp [em]
 |m::l,acc,h=>by
  rw [bB,em,He (h m (by simp))];dsimp only;rw [xI l _ λq hq=>h q (by simp [hq])];simp
theorem yK {n} (h0:0<=n) (h1:n<=10000000):Fc (bH n)=n:=by
 obtain ⟨m,rfl⟩:=p4 h0;have hl:=nn h0 h1;have hne:(bH (m:Int)).length≠0:=λh=>lz (m:Int).toNat (Bc.1 h);have hg:ar ((bH (m:Int)).length:Int) 1 8=true:=by simp [ar];omega
 have hf:Lib.decFrom 0 (bH (m:Int))=some m:=by unfold bH;rw [iH];exact sN m
 rw [Fc,hg,hf];rfl
theorem Ae (nm):∀ (l) (i) (acc),(∀ k,k∈l->¬ k.name=nm)->nh nm l i acc=acc
 |[],_,_,_=>rfl
 |k::r,i,acc,h=>by
  have hk:(k.name==nm)=false:=Js.2 λhe=>h k (by simp) ((pk _ _).1 he);rw [nh,hk];exact Ae nm r _ _ λq hq=>h q (by simp [hq])
theorem Af (nm):∀ (a) (k) (r) (i) (acc),k.name=nm->(∀ q,q∈r->¬ q.name=nm)->nh nm (a++k::r) i acc=((i+a.length:Nat):Int)
 |[],k,r,i,acc,h1,h2=>by
  have hk:(k.name==nm)=true:=(pk _ _).2 h1;rw [oq,nh,hk,Ae nm r _ _ h2]
  simp
 |x::a,k,r,i,acc,h1,h2=>by
  rw [hG,nh,Af nm a k r _ _ h1 h2];simp;omega
theorem IB {α} (p:α->Bool):∀ (a) (k) (r) (i),p k=true->(∀ q,q∈a->p q=false)->aA p (a++k::r) i=((i+a.length:Nat):Int)
 |[],k,r,i,h1,_=>by simp [aA,h1]
 |x::a,k,r,i,h1,h2=>by
  rw [hG,aA,h2 x (by simp)];have:=IB p a k r (i+1) h1 λq hq=>h2 q (by simp [hq]);rw [if_neg (by simp),this];simp;omega
theorem J1 {s} (hc:(hrCheck s).2.2=0) {n} {k} (hk:s.kinds[n]?=some k) :
  s.kinds=s.kinds.take n++k::s.kinds.drop (n+1)/\(s.kinds.take n).length=n/\(∀ q,q∈s.kinds.take n->¬ q.name=k.name)/\∀ q,q∈s.kinds.drop (n+1)->¬ q.name=k.name:=by
 have hl:=(aE.1 hk).1;have h1:=oV hl;rw [(aE.1 hk).2] at h1;refine ⟨by rw [<-h1,kZ],by rw [tK];omega,λq hq e=>?_,λq hq e=>?_⟩
 .obtain ⟨i,hi⟩:=eX hq;rw [jG] at hi;split at hi
  .rename_i hlt;have:=vY hc hi hk e;omega
  .cases hi
 .obtain ⟨i,hi⟩:=eX hq;rw [mz] at hi;have:=vY hc hi hk e;omega
theorem zM (s):∀ (l) (k e) (acc),(∀ m,m∈l->0<=m.minute/\m.minute<=1000000/\0<=m.weight/\m.weight<=10000000) ->
  xd s false ⟨k,e,acc⟩ (l.map kP++[[]])=⟨k,e,acc++l⟩
 |[],k,e,acc,_=>by simp [xd]
 |m::l,k,e,acc,h=>by
  have hm:=h m (by simp);have ih:=zM s l k e (acc++[m]) λq hq=>h q (by simp [hq]);have hst:zD s false ⟨k,e,acc⟩ (kP m)=⟨k,e,acc++[m]⟩:=by
   simp only [zD,Ls,yK hm.1 (show m.minute<=10000000 by omega),yK hm.2.2.1 hm.2.2.2]
  rw [bB,hG]
  cases hr:l.map kP++[[]] with
  |nil=>simp at hr
  |cons a b =>
   rw [xd,hst,<-hr,ih];simp
theorem zQ {s} {t} (hc:(hrCheck s).2.2=0) (ht:b9 s.kinds.length t=0):nJ s (iK s t)=some t/\vP s (iK s t)=t:=by
 obtain ⟨hok,k0,k1⟩:=gz ht;obtain ⟨n,hn⟩:=p4 k0;have hnl:n<s.kinds.length:=by omega
 obtain ⟨k,hk⟩:∃ k,s.kinds[n]?=some k:=⟨_,bE hnl⟩
 have hko:=pI hc (aL hk);obtain ⟨n10,n32⟩:=xj hko.name;obtain ⟨d10,d32⟩:=rG t.error;have hms:t.marks≠[]:=by intro h;have:=hok.two;rw [h] at this;simp at this
 have htx:iK s t=([116,101,115,116]++32::(k.name.data.toList++32::bH t.error))++10::(lO t.marks++[10]):=by
  rw [iK,hn,iH,hk,lD,fX,CX _ hms];simp [mb,sk,sp,nl]
 have hno:(10:UInt8)∉([116,101,115,116]++32::(k.name.data.toList++32::bH t.error)):=by simp [n10,d10]
 have hcut:aH 10 (iK s t)=([116,101,115,116]++32::(k.name.data.toList++32::bH t.error),some (lO t.marks++[10])):=by rw [htx];exact tj _ hno
 have hwd:aJ 32 ([116,101,115,116]++32::(k.name.data.toList++32::bH t.error))=[[116,101,115,116],k.name.data.toList,bH t.error]:=by
  rw [j4 _ (by decide),j4 _ n32,vC d32]
 obtain ⟨s1,s2,s3,s4⟩:=J1 hc hk;have hid:qP s.kinds (bs k.name.data.toList)=t.kind:=by
  rw [tr,qP,s1,IB (λq=>q.name==k.name) _ k _ 0 ((pk _ _).2 rfl) (λq hq=>Js.2 λhe=>s3 q hq ((pk _ _).1 he)),s2,hn];simp
 have hli:nh (bs k.name.data.toList) s.kinds 0 (-1)=t.kind:=by
  rw [tr,s1,Af _ _ k _ 0 _ rfl s4,s2,hn];simp
 have hne:=uk hok.err.1 (by have:=hok.err.2;omega);have hnr:=yK hok.err.1 (by have:=hok.err.2;omega);refine ⟨?_,?_⟩
 .have hw:pq (iK s t)=[[116,101,115,116],k.name.data.toList,bH t.error]:=by rw [pq,hcut];exact hwd
  have hr:ub (iK s t)=lO t.marks:=by rw [ub,hcut];exact Jx _ _
  rw [nJ,hw];dsimp only;rw [hne,hr,zF _ hms,xI _ _ hok.all,hid];rfl
 .have hsp:aJ 10 (iK s t)=([116,101,115,116]++32::(k.name.data.toList++32::bH t.error))::(t.marks.map kP++[[]]):=by
   rw [htx,j4 _ hno,uY _ hms]
  have hst:zD s true ⟨-1,0,[]⟩ ([116,101,115,116]++32::(k.name.data.toList++32::bH t.error))=⟨t.kind,t.error,[]⟩:=by
   simp only [zD,hwd,hli,hnr]
  rw [vP,hsp]
  cases hr:t.marks.map kP++[[]] with
  |nil=>simp at hr
  |cons a b =>
   rw [xd,hst,<-hr,zM s _ _ _ _ hok.all];simp
theorem wm {s} {all} {t}:mI s all t=true↔b9 s.kinds.length t=0/\iK s t=all:=by simp [mI]
theorem E7 (s):cd s []=(hrCheck s).2.2:=by
 unfold cd;split
 .rename_i h;rw [h];rfl
 .rfl
theorem Cw (s) (all):aP s all=xq s all:=by
 rw [aP,xq,E7];split
 .rename_i hc;split
  .rfl
  .cases hg:mI s all (vP s all) with
   |true =>
    obtain ⟨h1,h2⟩:=wm.1 hg;have:=(zQ hc h1).1;rw [h2] at this;rw [this];dsimp only
    rw [hg]
   |false =>
    rw [if_neg (by simp)]
    cases hp:nJ s all with
    |none=>rfl
    |some t =>
     dsimp only;split
     .rename_i hgt;obtain ⟨h1,h2⟩:=wm.1 hgt;have:=(zQ hc h1).2;rw [h2] at this;rw [this,hgt] at hg;cases hg
     .rfl
 .rfl
theorem Lz {s} {all} (h:(aP s all).2=0):(hrCheck s).2.2=0/\b9 s.kinds.length (aP s all).1=0/\iK s (aP s all).1=all:=by
 rw [Cw] at h |-;unfold xq at h |-;split at h
 .rename_i hc;split at h
  .cases h
  .rename_i h3;split at h
   .rename_i hg;rw [if_pos hc,if_neg h3,if_pos hg];exact ⟨hc,wm.1 hg⟩
   .cases h
 .contradiction
theorem N3 {s} {all} (h:(aP s all).2≠0):(aP s all).1=dp:=by
 rw [Cw] at h |-;unfold xq at h |-;split at h
 .split at h
  .rename_i hc h3;rw [if_pos hc,if_pos h3]
  .rename_i hc h3;split at h
   .exact absurd rfl h
   .rename_i hg;rw [if_pos hc,if_neg h3,if_neg hg]
 .rename_i hc;rw [if_neg hc]
theorem uC:∀ l:List HrMark,(∀ m,m∈l->(jh m).length<=18)->(l.map jh).flatten.length<=18*l.length
 |[],_=>by simp
 |m::l,h=>by
  have h1:=h m (by simp);have h2:=uC l λq hq=>h q (by simp [hq]);rw [bB,Ek,aI,ct];omega
set_option maxRecDepth 100000
theorem LA (t):PL (dy t) t.pv:=by
 cases t with
 |mk k e ms =>
  cases ms with
  |nil=>exact Rh k e
  |cons m ms=>exact .refl _
theorem Kv (s) (all):ah TP 166 [s.pv,.str (bs all)] (.tuple [(aP s all).1.pv,.int .i64 (aP s all).2]) :=
 (IU s all).lessD (PL.tupleL ⟨LA _,.refl _,trivial⟩)
theorem Se (a c:List Int) (b1 b2) (ha:a.length<1000000000):ah TP 36 [.slice 1 (a.map aK) b1,.slice 1 (c.map aK) b2] (.bool (a==c)):=by
 refine aa (ai (by kernel_rfl) rfl zb9) rfl ?_;simp only [go_sem,simprocAttr];refine aT (λhb=>?_) (λhb=>?_)<;>simp only [hb,go_sem,simprocAttr]
 .have:¬ (a=c):=λh=>by subst h;simp at hb
  simp [this]
 have hlen:a.length=c.length:=by simp [bne] at hb;omega
 refine ez [0,1] a ha (τ:=Unit) (λdone rest _=>c.take done.length=done) (λdone _=>[(5,.p (.int .i64 done.length))]) () (by simp) ?_ ?_ ?_
 .simp only [go_sem,simprocAttr]<;>simp
 .intro _ e2;rw [ga (by omega)] at e2;subst e2;simp only [go_sem,simprocAttr];simp
 .intro done x rest _ e1 e2 hx hlt hnx;have hlt2:(done.length:Int)<(c.length:Int):=by omega
  obtain ⟨y,hy⟩:∃ y,c[done.length]?=some y:=⟨_,bE (by omega)⟩
  simp only [hlt,hlt2,hx,hy,go_sem,simprocAttr];refine aT (λhb=>?_) (λhb=>?_)<;>simp only [hb,go_sem,simprocAttr]
  .have:¬ (a=c):=λh=>by
    subst h;rw [hx] at hy;cases hy;simp at hb
   simp [this]
  .have hxy:x=y:=by simpa using hb
   refine aF e1 () (by rw [aI,bh,yp,e2,hy,hxy];rfl) ?_;simp only [hnx,go_sem,simprocAttr]
theorem R5 (a b):ah TP 81 [.int .i64 a,.int .i64 b] (.agg [.int .i64 a,.int .i64 b]):=by
 refine aa (ai (by kernel_rfl) rfl zbw) rfl ?_;simp only [go_sem,simprocAttr]
def D8:HrShop:=⟨[⟨⟨#[97,108,116,97,114]⟩,⟨100000,101000⟩,1000⟩],[⟨⟨#[99,104,117,114,99,104]⟩,⟨1200,2000⟩,⟨90000,110000⟩⟩,⟨⟨#[108,97,109,112]⟩,⟨1400,2000⟩,⟨0,10000000⟩⟩],100⟩
theorem dj:∀ l,A6 l l
 |[]=>trivial
 |x::l=>⟨.refl x,dj l⟩
theorem Zu:ah TP 51 [] D8.pv:=by
 refine ah.lessD (q:=.agg [.slice 4 (D8.kinds.map HrKind.pv) true,.slice 5 (D8.rules.map HrRule.pv) true,.int .i64 100]) ?_ (PL.aggL rfl ⟨PL.sliceL rfl (dj _),PL.sliceL rfl (dj _),.refl _,trivial⟩);refine aa (ai (by kernel_rfl) rfl zbW) rfl ?_;simp only [go_sem,simprocAttr];repeat' (refine ae (R5 _ _) rfl ?_;simp only [go_sem,simprocAttr])
 exact ⟨rfl,rfl⟩
theorem Dz {x} (hx:HrKOk x):0<=x.promise/\x.promise<=16666/\x.promise*x.rates.hi<=x.k.weight.lo-x.k.rest/\(x.promise<16666->x.k.weight.lo-x.k.rest<x.rates.hi*(x.promise+1)):=by
 have hk:=hx.k;have h1:=hk.lo;have h4:=hk.rest;have h5:=hk.less;have h6:=hx.pos;have h7:=hx.hi
 have hd:=Frac.down_le (f:=⟨x.least.top,x.least.below*60⟩) (show (0:Int)<x.rates.hi*60 by omega);simp only [HrK.least] at hd;have e:∀ n:Int,n*(x.rates.hi*60)=n*x.rates.hi*60:=λn=>(vh _ _ _).symm;have key:∀ n:Int,n<=Frac.down ⟨60*(x.k.weight.lo-x.k.rest),x.rates.hi*60⟩↔n*x.rates.hi<=x.k.weight.lo-x.k.rest:=by
  intro n;rw [hd n,e n];omega
 rw [HrK.promise,HrK.least];dsimp only;generalize hD:Frac.down ⟨60*(x.k.weight.lo-x.k.rest),x.rates.hi*60⟩=D at key |-;have k0:0<=D:=(key 0).2 (by omega);have k1:=(key D).1 (pZ _);have k2:¬ (D+1)*x.rates.hi<=x.k.weight.lo-x.k.rest:=λh=>by have:=(key (D+1)).2 h;omega
 split
 .refine ⟨k0,by omega,k1,λ_=>?_⟩;rw [wY];omega
 .refine ⟨by omega,by omega,(key _).1 (by omega),λh=>by omega⟩
def TZ (l:List HrTest) (k w r:Int):PV:=.agg [.slice 3 (l.map HrTest.pv) false,.int .u8 k,.int .u32 w,.int .u32 r]
attribute [go_sem] TZ
namespace Ch
set_option maxRecDepth 4000
structure SOk (s:ChShop):Prop where
 wax:(Wx.wxCheck s.wax).2.2=0
 blend:(bdCheck s.blend).2.2=0
 wick:Wk.shopErr s.wick=0
 hour:(hrCheck s.hour).2.2=0
 colour:(Cl.clCheck s.colour).2.2=0
theorem SOk.kinds {s} (h:SOk s):s.hour.kinds.length<1000000000:=by
 have h:=h.hour;unfold hrCheck at h;split at h
 .rename_i h1;simp [ar] at h1;omega
 .cases h
theorem Dy {s} {l} {k} (h:(ep s l k).2=0):0<=(ep s l k).1/\(ep s l k).1<=16666:=by
 unfold ep at h |-;split at h
 .rename_i h0;rw [if_pos h0];have:=Dz (wj h0).1;exact ⟨this.1,this.2.1⟩
 .rename_i h0;exact absurd h h0
def K4 (s:ChShop) (b:ChBooks) (ex:List PV) (q:Except Int (Int×Int)) (r:AEnd) (h':Heap):Prop :=
 h'=B7 s b ex/\r=match q with | .error e=>.panic (gp e) | .ok (k,n)=>.ret (.p (.tuple [.int .i64 k,.int .i64 n]))
theorem FF (s) (b) (ex) (n) (hs:SOk s) (hb:BkOk s b n) (kind):aC TP 115 [.ptr 2 1 0 0,.p (.str (bs kind))] (B7 s b ex)
  (K4 s b ex (gb s b kind)):=by
 have hk9:=hs.kinds;refine bO (ai (by kernel_rfl) rfl YS) rfl ?_;simp only [ChShop.cells,go_sem,simprocAttr];by_cases h0:aA (λx:HrKind=>x.name==bs kind) s.hour.kinds 0<0
 .refine rS (TD s.hour.kinds (bs kind) false hk9 h0) rfl (mX _) ?_;simp only [gb,if_pos h0,go_sem,simprocAttr];exact ⟨_,[],(aW _).symm,rfl,fo s b ex,trivial,rfl,rfl⟩
 refine ae (UN s.hour.kinds (bs kind) false hk9 (by omega)) rfl ?_;simp only [go_sem,simprocAttr];refine Cc (O4 s.hour b.tests (aA (λx:HrKind=>x.name==bs kind) s.hour.kinds 0)) ?_ (.tuple (Flat.cons (.int _ _) (Flat.cons (.int _ _) Flat.nil))) ?_
 .simp only [go_sem,simprocAttr]
 simp only [go_sem,simprocAttr];by_cases h1:(ep s.hour b.tests (aA (λx:HrKind=>x.name==bs kind) s.hour.kinds 0)).2=0
 .simp only [h1,go_sem,simprocAttr];refine az (λ_=>?_) (λh=>by cases h);simp only [gb,if_neg h0,go_sem,simprocAttr];exact ⟨_,[],(aW _).symm,rfl,fo s b ex,trivial,rfl,by simp only [h1];rfl⟩
 .have h1':((ep s.hour b.tests (aA (λx:HrKind=>x.name==bs kind) s.hour.kinds 0)).2==0)=false:=by simpa using h1
  simp only [h1',go_sem,simprocAttr];refine az (λh=>by cases h) (λ_=>?_);simp only [gb,if_neg h0,if_pos h1,go_sem,simprocAttr];exact ⟨_,[],(aW _).symm,rfl,fo s b ex,trivial,rfl,rfl⟩
theorem yh (s) (b) (ex) (n) (hs:SOk s) (hb:BkOk s b n) (kind) :
  (∀ e,gb s b kind=.error e->aC TP 115 [.ptr 2 1 0 0,.p (.str (bs kind))] (B7 s b ex) (λr h'=>r=.panic (gp e)/\h'=B7 s b ex)) /\
  (∀ k n,gb s b kind=.ok (k,n)->(0<=n/\n<=16666)/\aC TP 115 [.ptr 2 1 0 0,.p (.str (bs kind))] (B7 s b ex) (λr h'=>r=.ret (.p (.tuple [.int .i64 k,.int .i64 n]))/\h'=B7 s b ex)):=by
 refine ⟨λe he=>(FF s b ex n hs hb kind).mono λr h' hr=>?_,λk m hk=>⟨?_,(FF s b ex n hs hb kind).mono λr h' hr=>?_⟩⟩
 .unfold K4 at hr;rw [he] at hr;exact ⟨hr.2,hr.1⟩
 .unfold gb at hk;dsimp only at hk;split at hk
  .cases hk
  .split at hk
   .cases hk
   .rename_i _ h2;cases hk;exact Dy (by simpa using h2)
 .unfold K4 at hr;rw [hk] at hr;exact ⟨hr.2,hr.1⟩
theorem tE {P} {H} {Q} {ops} {rest} {dst} {A} {f} {args} {e} (hc:aC P f args A.h (λr h'=>r=.panic e/\h'=A.h))
  (h2:@WQ ⟨Q⟩ (.panic e) A):@WF ⟨P,H,ops,rest,Q,dst⟩ A f args :=
 cq hc (λv h hr=>by cases hr.1) (λv h hr=>by obtain ⟨e,rfl⟩:=hr;cases e;exact h2)
theorem zcx (s) (b) (ex) (n) (hs:SOk s) (hb:BkOk s b n) (kind) (hours):aC TP 117 [.ptr 2 1 0 0,.p (.str (bs kind)),.p (.int .i64 hours)] (B7 s b ex) (kr s b ex (aR s b (.box kind hours))):=by
 have hp:=yh s b ex n hs hb kind;have hl:=hb.boxes;refine bO (ai (by kernel_rfl) rfl YQ) rfl ?_;simp only [ChShop.cells,go_sem,simprocAttr]
 cases hq:gb s b kind with
 |error e =>
  refine tE (hp.1 e hq) ?_;simp only [go_sem,simprocAttr]
  exact dv (e:=e) (by simp only [aR,hq]) [] (aW _).symm
 |ok q =>
  obtain ⟨k,m⟩:=q;refine cy (v:=.p (.tuple [.int .i64 k,.int .i64 m])) (h':=B7 s b ex) (hp.2 k m hq).2 ?_;simp only [go_sem,simprocAttr];refine az (λh1=>?_) (λh1=>?_);rotate_left
  .have h1':¬ hours<=m:=by simpa using h1
   simp only [go_sem,simprocAttr];exact dv (e:=9) (by simp only [aR,hq,if_pos h1']) [] (aW _).symm
  have h1':hours<=m:=by simpa using h1
  simp only [go_sem,simprocAttr];have h1n:¬ ¬ hours<=m:=λh=>h h1';refine az (λh2=>?_) (λh2=>?_);rotate_left
  .have h2':¬ b.boxes.length<20:=by simp at h2;omega
   simp only [go_sem,simprocAttr];exact dv (e:=3) (by simp only [aR,hq,if_neg h1n,if_pos h2']) [] (aW _).symm
  have h2':b.boxes.length<20:=by simp at h2;omega
  have h2n:¬ ¬ b.boxes.length<20:=λh=>h h2';have hrm:b.boxes.length+1<=aw:=by simp only [aw];omega
  simp only [hrm,go_sem,simprocAttr];exact g7 (b':={ b with boxes:=b.boxes++[⟨k,hours⟩] }) (ex':=ex) (a:=Cf) (by simp only [aR,hq,if_neg h1n,if_neg h2n]) [] (by simp only [aI,bh,bA,bB,cm,aW,sR,go_sem,simprocAttr])
def ku (x:ChLot):List Word:=[.s (bl x.name),.n x.grams]
def rZ (w:Word):AV:=.p w.pv
theorem IE (n) (h) (l:List Word):aU (ci n h) (l.map rZ)=some (l.map Word.pv):=dq (er n h) Word.pv l
theorem UY (n) (x):below n (ll x)=True:=eq_true trivial
theorem Pc (n) (x):below n (cG x)=True:=eq_true trivial
theorem Sv (n) (x):below n (oX x)=True:=eq_true trivial
theorem UZ (n) (x):below n (sR x)=True:=eq_true trivial
theorem Su (n) (x):below n (rZ x)=True:=eq_true trivial
attribute [go_sem] IE UY Pc Sv UZ Su
theorem vu (l:List ChLot):(l.flatMap ku).length=2*l.length:=by
 induction l with
 |nil=>rfl
 |cons x r ih=>rw [kR,aI,ih];simp [ku];omega
theorem NO (l:List ChLot):(l.flatMap ku).flatMap Word.ws=l.flatMap λx=>[bl x.name,bH x.grams]:=by
 rw [List.flatMap_assoc];rfl
theorem T4 (s) (b) (ex) (n) (hs:SOk s) (hb:BkOk s b n):aC TP 123 [.ptr 2 1 0 0] (B7 s b ex) (kr s b ex (aR s b .stock)):=by
 have hl:=hb.lots;refine bO (ai (by kernel_rfl) rfl YK) rfl ?_;simp only [ChShop.cells,go_sem,simprocAttr];refine cg 3 1 (by simp only [go_sem,simprocAttr]) ?_;simp only [go_sem,simprocAttr];refine br [10,11] b.lots (by omega) (τ:=Unit) (λdone rest _=>True) (λdone _=>[(3,.slice 7 (done.flatMap ku).length 0 (done.flatMap ku).length),(12,.p (.int .i64 done.length))]) (λdone _=>B7 s b ex++[.row 1 ((done.flatMap ku).map rZ)]) () trivial ?_ ?_ ?_
 .simp only [ChShop.cells,yn,go_sem,simprocAttr]
 .intro _ _;by_cases h0:b.lots=[]
  .have hz:(((b.lots.flatMap ku).length:Int)==0)=true:=by rw [h0];rfl
   simp only [ChShop.cells,hz,go_sem,simprocAttr];exact g7 (b':=b) (ex':=ex) (a:=PS) (by simp only [aR,if_pos h0]) [_] rfl
  .have hz:(((b.lots.flatMap ku).length:Int)==0)=false:=by
    rw [beq_eq_false_iff_ne,vu];intro h;exact h0 (uW (by omega))
   simp only [ChShop.cells,hz,go_sem,simprocAttr];have hsd:=ph (b.lots.flatMap ku) false (by rw [vu];omega) (λw hw=>by
    obtain ⟨x,hx,hw⟩:=En.1 hw;have h1:=hb.grams x hx;have h2:=hb.names x hx;have h3:=hb.few;have h4:(100000:Int)*(n+1)<=100000*41:=by omega
    simp only [ku,bw,eD,or_false] at hw;rcases hw with rfl | rfl
    .show (bl x.name).length<=1000;unfold bl;have:x.name.data.toList.length=x.name.size:=by show x.name.data.toList.length=x.name.data.size;exact yj
     omega
    .exact ⟨h1.1,by omega⟩)
   refine bf hsd ?_ (.str _) ?_
   .simp only [go_sem,simprocAttr]
   simp only [go_sem,simprocAttr];refine g7 (b':=b) (ex':=ex) (a:=joinL ((b.lots.flatMap ku).flatMap Word.ws)) (by rw [NO,aR,if_neg h0]) [_] rfl
 .intro done w r _ e1 _ hx hlt hnx;have hA:ll w=.p w.pv:=rfl;have hdl:=vu done;have hrm:2*done.length+2<=aw:=by rw [e1] at hl;simp at hl;simp only [aw];omega
  simp only [ChShop.cells,hlt,hx,hA,hdl,hrm,go_sem,simprocAttr];refine aF e1 () trivial ?_;simp only [hnx,vg,kR,yn,ku,aI,bA,aW,rZ,Word.pv,KI,bB,cm,go_sem,simprocAttr];rw [hdl]
theorem SOk.colours {s} (h:SOk s):s.colour.colours.length<1000000000:=by
 have:=(Cl.xc h.colour).len;omega
def IL (x:ClBatch):AV:=.p x.pv
theorem Zi (n) (h) (l:List ClBatch):aU (ci n h) (l.map IL)=some (l.map ClBatch.pv):=dq (er n h) ClBatch.pv l
theorem ZE (n) (x):below n (IL x)=True:=eq_true trivial
attribute [go_sem] Zi ZE
def kt (l:List ChBatch):List ClBatch:=l.map λx=>⟨x.colour,x.grams⟩
theorem Mq (s) (b) (ex) (n) (hs:SOk s) (hb:BkOk s b n) (c) (o) (m) (hq:lW s b c=.ok (o,m)) :
  aC TP 186 [.ptr 2 1 0 0,.p (.str (bs c))] (B7 s b ex) (λr h'=>r=.ret (.p (.tuple [.slice 1 (o.map Cl.qu) false,.int .i64 m]))/\h'=B7 s b ex):=by
 have hl:=hb.batches;have hc9:=hs.colours;unfold lW at hq;dsimp only at hq;split at hq
 .cases hq
 rename_i h0;split at hq
 .cases hq
 rename_i h1;have h1':Cl.dR s.colour (aA (λx:ClColour=>x.name==bs c) s.colour.colours 0) (eV b)=0:=by simpa using h1
 split at hq
 .cases hq
 rename_i q h2;cases hq;refine pL (ai (by kernel_rfl) rfl Qa) rfl ?_;simp only [ChShop.cells,go_sem,simprocAttr];refine ae (MU s.colour.colours (bs c) false hc9 (by omega)) rfl ?_;simp only [go_sem,simprocAttr];refine cg 7 2 (by simp only [go_sem,simprocAttr]) ?_;simp only [go_sem,simprocAttr];refine br [0,6,25,26] b.batches (by omega) (τ:=Unit) (λdone rest _=>True) (λdone _=>[(7,.slice 7 done.length 0 done.length),(27,.p (.int .i64 done.length))]) (λdone _=>B7 s b ex++[.row 2 ((kt done).map IL)]) () trivial ?_ ?_ ?_
 .simp only [ChShop.cells,kt,cm,go_sem,simprocAttr]
 .intro _ _;have hw:kt b.batches=eV b:=rfl;have hwl:(eV b).length=b.batches.length:=by simp only [eV,dL]
  have hB:=Cl.Qi s.colour (aA (λx:ClColour=>x.name==bs c) s.colour.colours 0) (eV b) (by rw [hwl];omega);rw [Cl.su,if_pos h1',h2] at hB;simp only [ChShop.cells,hw,go_sem,simprocAttr];refine wN hB ?_ ?_
  .simp only [hwl,go_sem,simprocAttr];rw [ga (by rw [dL,hwl];exact bM _)]
  simp only [go_sem,simprocAttr];refine az (λ_=>?_) (λh=>by cases h);simp only [go_sem,simprocAttr]
 .intro done w r _ e1 _ hx hlt hnx;have hx':=wI hx ex;have hrm:done.length+1<=aw:=by rw [e1] at hl;simp at hl;simp only [aw];omega
  have hwd:(kt done).length=done.length:=by simp [kt]
  simp only [ChShop.cells,hlt,hx',hrm,hwd,go_sem,simprocAttr];refine aF e1 () trivial ?_;simp only [hnx,kt,aI,bA,bB,cm,IL,ClBatch.pv,go_sem,simprocAttr]
def ZK (s:ChShop) (b:ChBooks) (ex:List PV) (e:Int) (r:AEnd) (h':Heap):Prop:=r=.panic (gp e)/\h'=B7 s b ex
theorem Mr (s) (b) (ex) (n) (hs:SOk s) (hb:BkOk s b n) (c) (e) (hq:lW s b c=.error e) :
  aC TP 186 [.ptr 2 1 0 0,.p (.str (bs c))] (B7 s b ex) (ZK s b ex e):=by
 have hl:=hb.batches;have hc9:=hs.colours;refine bO (ai (by kernel_rfl) rfl Qa) rfl ?_;simp only [ChShop.cells,go_sem,simprocAttr];by_cases h0:aA (λx:ClColour=>x.name==bs c) s.colour.colours 0<0
 .have he:e=4:=by
   unfold lW at hq;dsimp only at hq;rw [if_pos h0] at hq;cases hq;rfl
  subst he;refine rS (TG s.colour.colours (bs c) false hc9 h0) rfl (mX _) ?_;simp only [go_sem,simprocAttr];exact ⟨_,[],(aW _).symm,rfl,fo s b ex,trivial,rfl,rfl⟩
 obtain ⟨hp,hne⟩:Cl.su s.colour (aA (λx:ClColour=>x.name==bs c) s.colour.colours 0) (eV b)=.tuple [.nilslice,.int .i64 0,.int .i64 e]/\(e==0)=false:=by
  unfold lW at hq;dsimp only at hq;rw [if_neg h0] at hq;split at hq
  .rename_i h1;cases hq;rw [Cl.su,if_neg h1];exact ⟨rfl,by simpa using h1⟩
  .rename_i h1;have h1':Cl.dR s.colour (aA (λx:ClColour=>x.name==bs c) s.colour.colours 0) (eV b)=0:=by simpa using h1
   split at hq
   .rename_i h2;cases hq;rw [Cl.su,if_pos h1',h2];exact ⟨rfl,rfl⟩
   .cases hq
 refine ae (MU s.colour.colours (bs c) false hc9 (by omega)) rfl ?_;simp only [go_sem,simprocAttr];refine cg 7 2 (by simp only [go_sem,simprocAttr]) ?_;simp only [go_sem,simprocAttr];refine br [0,6,25,26] b.batches (by omega) (τ:=Unit) (λdone rest _=>True) (λdone _=>[(7,.slice 7 done.length 0 done.length),(27,.p (.int .i64 done.length))]) (λdone _=>B7 s b ex++[.row 2 ((kt done).map IL)]) () trivial ?_ ?_ ?_
 .simp only [ChShop.cells,kt,cm,go_sem,simprocAttr]
 .intro _ _;have hw:kt b.batches=eV b:=rfl;have hwl:(eV b).length=b.batches.length:=by simp only [eV,dL]
  have hB:=Cl.Qi s.colour (aA (λx:ClColour=>x.name==bs c) s.colour.colours 0) (eV b) (by rw [hwl];omega);rw [hp] at hB;simp only [ChShop.cells,hw,go_sem,simprocAttr];refine wN hB ?_ ?_
  .simp only [hwl,go_sem,simprocAttr];rw [ga (by rw [dL,hwl];exact bM _)]
  simp only [hne,go_sem,simprocAttr];refine az (λh=>by cases h) (λ_=>?_);simp only [go_sem,simprocAttr];exact ⟨_,_,rfl,rfl,fo s b ex,trivial,rfl,rfl⟩
 .intro done w r _ e1 _ hx hlt hnx;have hx':=wI hx ex;have hrm:done.length+1<=aw:=by rw [e1] at hl;simp at hl;simp only [aw];omega
  have hwd:(kt done).length=done.length:=by simp [kt]
  simp only [ChShop.cells,hlt,hx',hrm,hwd,go_sem,simprocAttr];refine aF e1 () trivial ?_;simp only [hnx,kt,aI,bA,bB,cm,IL,ClBatch.pv,go_sem,simprocAttr]
theorem uO {s} {b} {c} {o} {m} (hs:SOk s) {n} (hb:BkOk s b n) (hq:lW s b c=.ok (o,m)):o.Perm (List.range b.batches.length)/\0<=m/\m<=210000:=by
 unfold lW at hq;dsimp only at hq;split at hq
 .cases hq
 split at hq
 .cases hq
 split at hq
 .cases hq
 rename_i q h2;cases hq;have hwl:(eV b).length=b.batches.length:=by simp only [eV,dL]
 unfold Cl.AT at h2;rw [hwl] at h2;have hl:(List.range b.batches.length).length<=7:=by rw [List.length_range];exact hb.batches
 have hS:=Cl.nC (need:=Cl.je s.colour (eV b)) (col:=Cl.l4 (eV b)) (λc j n h=>by
  unfold Cl.je at h;split at h
  .exact Cl.Bw (Cl.xc hs.colour) h
  .cases h) 7 (aA (λx:ClColour=>x.name==bs c) s.colour.colours 0) (List.range b.batches.length)
 rw [h2] at hS;refine ⟨Cl.Dk hl h2,?_,?_⟩
 .exact (hS o m rfl).1
 .have:=(hS o m rfl).2;omega
def jH (b:ChBooks) (o:List Nat):List Word:=o.map λi=>.s (rv b.batches i)
theorem Q8 (b) (o) (m):(jH b o++[Word.n m]).flatMap Word.ws=o.map (rv b.batches)++[bH m]:=by
 rw [vg]
 congr 1
 induction o with
 |nil=>rfl
 |cons x r ih=>simp only [jH,bB,kR] at ih |-;rw [ih];rfl
theorem JV {s} {b} {n} (hb:BkOk s b n) (i):(rv b.batches i).length<=1000:=by
 unfold rv;split
 .rename_i x hx;have h:=(hb.waits x (aL hx)).2.2;unfold bl;have:x.name.data.toList.length=x.name.size:=by show x.name.data.toList.length=x.name.data.size;exact yj
  omega
 .exact dD _
theorem Ea (s) (b) (ex) (n) (hs:SOk s) (hb:BkOk s b n) (c):aC TP 111 [.ptr 2 1 0 0,.p (.str (bs c))] (B7 s b ex) (kr s b ex (aR s b (.plan c))):=by
 have hl:=hb.batches;refine bO (ai (by kernel_rfl) rfl YW) rfl ?_;simp only [ChShop.cells,go_sem,simprocAttr]
 cases hq:lW s b c with
 |error e =>
  refine tE (Mr s b ex n hs hb c e hq) ?_;simp only [go_sem,simprocAttr]
  exact dv (e:=e) (by simp only [aR,hq]) [] (aW _).symm
 |ok q =>
  obtain ⟨o,m⟩:=q;obtain ⟨f1,f2,f3⟩:=uO hs hb hq;have fl:o.length=b.batches.length:=by rw [f1.length_eq,List.length_range]
  refine cy (v:=.p (.tuple [.slice 1 (o.map Cl.qu) false,.int .i64 m])) (h':=B7 s b ex) (Mq s b ex n hs hb c o m hq) ?_;simp only [go_sem,simprocAttr];refine cg 7 1 (by simp only [go_sem,simprocAttr]) ?_;simp only [go_sem,simprocAttr];refine br [0,6,16,17] o (by omega) (τ:=Unit) (λdone rest _=>True) (λdone _=>[(7,.slice 7 done.length 0 done.length),(18,.p (.int .i64 done.length))]) (λdone _=>B7 s b ex++[.row 1 ((jH b done).map rZ)]) () trivial ?_ ?_ ?_
  .simp only [ChShop.cells,jH,cm,go_sem,simprocAttr]
  .intro _ _;have hpl:(jH b o).length=o.length:=by simp [jH]
   have hrm:o.length+1<=aw:=by simp only [aw];omega
   simp only [ChShop.cells,hpl,hrm,go_sem,simprocAttr];have hsd:=ph (jH b o++[.n m]) false (by rw [aI,hpl];simp;omega) (λw hw=>by
    rcases ea.1 hw with hw | hw
    .obtain ⟨i,_,rfl⟩:=ec.1 hw;exact JV hb i
    .simp at hw;subst hw
     exact ⟨f2,by omega⟩)
   refine bf hsd ?_ (.str _) ?_
   .have e:(jH b o).map rZ++[AV.p (.iface 3 (.int .i64 m))]=(jH b o++[Word.n m]).map rZ:=by rw [bA];rfl
    have e2:o.length+1=(jH b o++[Word.n m]).length:=by rw [aI,hpl];rfl
    simp only [e,IE,go_sem,simprocAttr];rw [e2,if_pos rfl];show some [PV.slice 1 (List.take (jH b o++[Word.n m]).length (List.map Word.pv (jH b o++[Word.n m]))) false]=_;rw [ga (by rw [dL];exact bM _)]
   simp only [go_sem,simprocAttr];exact g7 (b':=b) (ex':=ex) (a:=joinL ((jH b o++[Word.n m]).flatMap Word.ws)) (by rw [Q8];simp only [aR,hq]) [_] rfl
  .intro done w r _ e1 _ hx hlt hnx;have hw:w<b.batches.length:=by
    have:w∈o:=by rw [e1];simp
    have:=f1.mem_iff.1 this;exact Be.1 this
   obtain ⟨y,hy⟩:∃ y,b.batches[w]?=some y:=⟨_,bE hw⟩
   have hx':=wI hy ex;have hn:rv b.batches w=bl y.name:=by rw [rv,hy]
   have hwB:(w:Int)<(b.batches.length:Int):=by omega
   have hrm:done.length+1<=aw:=by rw [e1] at fl;simp at fl;simp only [aw];omega
   have hpl:(jH b done).length=done.length:=by simp [jH]
   simp only [ChShop.cells,hlt,hx,Cl.qu,hx',hwB,hrm,hpl,go_sem,simprocAttr];refine aF e1 () trivial ?_;simp only [hnx,jH,aI,bA,bB,cm,rZ,Word.pv,hn,KI,go_sem,simprocAttr]
def p5 (l:List ChBatch):Int:=(l.map (·.grams)).sum
theorem qo {s} {b} {n} (hb:BkOk s b n):∀ d,(∀ x,x∈d->x∈b.batches)->0<=p5 d/\p5 d<=100000*d.length
 |[],_=>by simp [p5]
 |x::r,h=>by
  have ih:=qo hb r (λy hy=>h y (by simp [hy]));have hx:=(hb.waits x (h x (by simp))).1;simp only [p5,bB,List.sum_cons,ct] at ih |-;omega
set_option maxHeartbeats 1000000 in
theorem Zb (s) (b) (ex) (n) (hs:SOk s) (hb:BkOk s b n) (c):aC TP 113 [.ptr 2 1 0 0,.p (.str (bs c))] (B7 s b ex) (kr s b ex (aR s b (.pour c))):=by
 have hl:=hb.batches;refine bO (ai (by kernel_rfl) rfl YU) rfl ?_;simp only [ChShop.cells,go_sem,simprocAttr]
 cases hq:lW s b c with
 |error e =>
  refine tE (Mr s b ex n hs hb c e hq) ?_;simp only [go_sem,simprocAttr]
  exact dv (e:=e) (by simp only [aR,hq]) [] (aW _).symm
 |ok q =>
  obtain ⟨o,m⟩:=q;obtain ⟨f1,f2,f3⟩:=uO hs hb hq;refine cy (v:=.p (.tuple [.slice 1 (o.map Cl.qu) false,.int .i64 m])) (h':=B7 s b ex) (Mq s b ex n hs hb c o m hq) ?_;simp only [go_sem,simprocAttr];refine br [0,6,19,20] b.batches (by omega) (τ:=Unit) (λdone rest _=>True) (λdone _=>[(21,.p (.int .i64 done.length))]) (λdone _=>B7 s { b with poured:=b.poured+p5 done } ex) () trivial ?_ ?_ ?_
  .simp only [ChShop.cells,p5,cm,List.sum_nil,vb,go_sem,simprocAttr]
  .intro _ _;have hsum:=qo hb b.batches (λx hx=>hx);have hw1:=hb.poured;have hw2:=hb.lost;have hw3:=hb.few;have hwr:IntKind.i64.wrap (b.lost+m)=b.lost+m:=ax (by omega) (by omega);simp only [ChShop.cells,hwr,go_sem,simprocAttr];have hsd:=ph [.n m] true (by simp) (λw hw=>by
    simp only [bw,eD,or_false] at hw;subst hw
    exact ⟨f2,by omega⟩)
   refine ae hsd rfl ?_;simp only [go_sem,simprocAttr];exact RV (b':={ b with poured:=b.poured+NK b.batches,batches:=[],lost:=b.lost+m }) (l:=b.batches) (x:=ex) (a:=joinL ([Word.n m].flatMap Word.ws)) (by simp only [aR,hq];rfl) rfl [] (aW _).symm
  .intro done w r _ e1 _ hx hlt hnx;have hx':=wI hx ex;have hsum:=qo hb (done++[w]) (λx hx=>by rw [e1];simp at hx |-;rcases hx with h | h;exact .inl h;exact .inr (.inl h));have hdw:p5 (done++[w])=p5 done+w.grams:=by simp [p5]
   have hdl:(done++[w]).length<=7:=by rw [e1] at hl;simp at hl |-;omega
   have hw1:=hb.poured;have hw3:=hb.few;have hwr:IntKind.i64.wrap (b.poured+p5 done+w.grams)=b.poured+(p5 done+w.grams):=by rw [Int.add_assoc];exact ax (by omega) (by omega)
   simp only [ChShop.cells,hlt,hx',hwr,go_sem,simprocAttr];refine aF e1 () trivial ?_;simp only [hnx,hdw,ChShop.cells,go_sem,simprocAttr]
end Ch
end Abs
end Go.Proofs.YtfafnkpfamgbbaaGreatDoor
