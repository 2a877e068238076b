/- CONTRACTS of functions and laws. No conditions but those in the heads. -/
import Derived.Test.YtgafommgcfhkkaaGreatDoorChReadCX
set_option linter.all false
set_option maxHeartbeats 4000000
open Go.Proofs.Tryz renaming prog->TP
open Go.Proofs.Tryz
open Go.IntKind (i64)
namespace Go.Proofs.YtgafommgcfhkkaaGreatDoor
namespace Abs
namespace Ch
set_option maxRecDepth 4000
def B4 (b:ChBooks):Heap:=[.row 4 (b.lots.map dI),.row 4 (b.batches.map bD),.row 3 (b.tests.map er),.row 2 (b.boxes.map jK)]
def bA (b:ChBooks):AV:=.agg [.slice 0 b.lots.length 0 b.lots.length,.slice 1 b.batches.length 0 b.batches.length,.slice 2 b.tests.length 0 b.tests.length,.slice 3 b.boxes.length 0 b.boxes.length,.p (.int .i64 b.poured),.p (.int .i64 b.lost)]
attribute [go_sem] B4 bA
def mb (b:ChBooks) (q:Except Int (ChBooks×List UInt8)):PV:=match q with|.error e=>.tuple [b.pv,.str .empty,.int .i64 e]|.ok (b',a)=>.tuple [b'.pv,.str (bs a),.int .i64 0]
def fu{α}(p:α->Bool):∀(l) (k),decide (0<=an p l k)=l.any p
 |[],_=>rfl
 |x::r,k=>by
  rw[an,bZ]
  cases p x with
  |true=>rw[if_pos rfl];simp
  |false=>rw[if_neg (by simp),fu p r (k+1)];rfl
def yP(b)(t)(v w):oH (B4 b++t) (.tuple [bA b,.p v,.p w])=some (.tuple [b.pv,v,w]):=by
 have q:∀n h (l:List ChLot),aE (bi n h) (l.map dI)=some (l.map ChLot.pv):=λn h l=>aW (bH n h) ChLot.pv l;have j:∀n h (l:List ChBatch),aE (bi n h) (l.map bD)=some (l.map ChBatch.pv):=λn h l=>aW (bH n h) ChBatch.pv l;have i:∀n h (l:List HrTest),aE (bi n h) (l.map er)=some (l.map HrTest.pv):=λn h l=>aW (bH n h) HrTest.pv l;have e:∀n h (l:List HrBox),aE (bi n h) (l.map jK)=some (l.map HrBox.pv):=λn h l=>aW (bH n h) HrBox.pv l;simp[q,j,i,e,ChBooks.pv,go_sem]
def sN(b)(t)(v):ib (B4 b++t) [bA b,.p v]=some [b.pv,v]:=by
 have q:∀n h (l:List ChLot),aE (bi n h) (l.map dI)=some (l.map ChLot.pv):=λn h l=>aW (bH n h) ChLot.pv l;have j:∀n h (l:List ChBatch),aE (bi n h) (l.map bD)=some (l.map ChBatch.pv):=λn h l=>aW (bH n h) ChBatch.pv l;have i:∀n h (l:List HrTest),aE (bi n h) (l.map er)=some (l.map HrTest.pv):=λn h l=>aW (bH n h) HrTest.pv l;have e:∀n h (l:List HrBox),aE (bi n h) (l.map jK)=some (l.map HrBox.pv):=λn h l=>aW (bH n h) HrBox.pv l;simp[q,j,i,e,ChBooks.pv,go_sem]
def jn{b}{hh}{a}{q}(e)(u:q=.error e)(i:hh.take 4=B4 b)(v:a=.tuple [bA b,.p (.str .empty),.p (.int .i64 e)]) :
  ∃l j,a=l/\bi 8 hh l=some j/\qt j (mb b q):=by
 subst u;subst v;exact⟨_,_,rfl,by have h:=yP b (hh.drop 4) (.str .empty) (.int .i64 e);rw[<-i,ja]at h;exact h,pk⟩
def rU{b b'}{hh}{a}{q}{w}(l:q=.ok (b',w))(e:hh.take 4=B4 b')(u:a=.tuple [bA b',.p (.str (bs w)),.p (.int .i64 0)]) :
  ∃j i,a=j/\bi 8 hh j=some i/\qt i (mb b q):=by
 subst l;subst u;exact⟨_,_,rfl,by have h:=yP b' (hh.drop 4) (.str (bs w)) (.int .i64 0);rw[<-e,ja]at h;exact h,pk⟩
def Hu(t)(rs)(k):(Wx.bj t rs k).2.1=0\/(Wx.bj t rs k).2.1=1\/(Wx.bj t rs k).2.1=2:=by
 unfold Wx.bj;split
 .split
  .unfold Wx.jd;split
   .exact .inl rfl
   .split
    .exact .inr (.inl rfl)
    .split
     .exact .inl rfl
     .exact .inr (.inr rfl)
  .exact .inl rfl
 .exact .inl rfl
def Qf(s)(b)(n)(hs:SOk s)(N:BkOk s b n)(q j)(g)(rs)(V:rs.length<1000000000) :
  aw TP 111 [.p s.pv,bA b,.p (bp (.lot q j g rs)).pv] (B4 b) (λr h'=>r=.ret (.p (mb b (aH s b (.lot q j g rs))))/\h'=List.replicate 4 .dead):=by
 have a5:=N.lots;have a4:=N.batches;have a3:=N.tests;have a2:=N.boxes
 refine lL ?_;refine au (dv (by kernel_rfl) rfl Z4) rfl ?_;simp only[bp,Said.pv,aN,Zw,aD,go_sem,simprocAttr];refine aj (Wb s j hs.waxkinds) rfl ?_;have a0:(0:Int)<((rs.length+1:Nat):Int):=by omega
 have Z:(1:Int)<=((rs.length+1:Nat):Int):=by omega
 refine zp @aD a0 Z ?_;refine pC (pargs:=[b.pv,.str (bs q)]) (QG b q (by omega)) (sN b [_,_,_,_] _) (.int _ _) ?_;have M:=fu (λx:ChLot=>x.name==bs q) b.lots 0;refine zn M ?_;cases h1:(b.lots.any λx=>x.name==bs q)
 rotate_left
 .refine zm ?_;exact jn 5 (by simp only[aH,if_pos h1]) rfl rfl
 have C:¬(b.lots.any λy=>y.name==bs q)=true:=by simp[h1]
 refine zm ?_;cases h2:decide (an (λx:WxKind=>x.name==bs j) s.wax.kinds 0<0);rotate_left
 .have u:an (λx:WxKind=>x.name==bs j) s.wax.kinds 0<0:=by simpa using h2
  refine zm ?_;exact jn 4 (by simp only[aH,if_neg C,if_pos u]) rfl rfl
 have u:¬an (λx:WxKind=>x.name==bs j) s.wax.kinds 0<0:=by simpa using h2
 refine zm ?_;cases T:(decide (g<1)||decide (100000<g))
 rotate_left
 .have a1:¬(1<=g/\g<=100000):=by simp at T;omega
  have ha:aH s b (.lot q j g rs)=.error 7:=by simp only[aH,if_neg C,if_neg u,if_pos a1]
  cases A:decide (g<1)
  .have z:decide (100000<g)=true:=by simpa[A]using T
   refine zn z ?_;exact jn 7 ha rfl rfl
  .refine zm ?_;exact jn 7 ha rfl rfl
 obtain⟨A,z⟩:decide (g<1)=false/\decide (100000<g)=false:=by simpa using T
 have J:¬¬(1<=g/\g<=100000):=by simp at A z;omega
 refine zo A z ?_;refine aa (Wx.S8 s.wax rs (an (λx:WxKind=>x.name==bs j) s.wax.kinds 0) V) rfl ?_;have F:(Wx.bj s.wax rs (an (λx:WxKind=>x.name==bs j) s.wax.kinds 0)).2.2=0->aH s b (.lot q j g rs)=if ¬b.lots.length<8 then .error 3 else .ok ({ b with lots:=b.lots++[⟨bs q,an (λx:WxKind=>x.name==bs j) s.wax.kinds 0,g,rs⟩] },joinL [jc (Wx.bj s.wax rs (an (λx:WxKind=>x.name==bs j) s.wax.kinds 0)).2.1,aX (Wx.bj s.wax rs (an (λx:WxKind=>x.name==bs j) s.wax.kinds 0)).1.lo,aX (Wx.bj s.wax rs (an (λx:WxKind=>x.name==bs j) s.wax.kinds 0)).1.hi]):=λh=>by
  simp only[aH,if_neg C,if_neg u,if_neg J,if_neg (λhn:(Wx.bj s.wax rs (an (λx:WxKind=>x.name==bs j) s.wax.kinds 0)).2.2≠0=>hn h)]
 have E:(Wx.bj s.wax rs (an (λx:WxKind=>x.name==bs j) s.wax.kinds 0)).2.2≠0->aH s b (.lot q j g rs)=.error (Wx.bj s.wax rs (an (λx:WxKind=>x.name==bs j) s.wax.kinds 0)).2.2:=λh=>by
  simp only[aH,if_neg C,if_neg u,if_neg J,if_pos h]
 have K:=Hu s.wax rs (an (λx:WxKind=>x.name==bs j) s.wax.kinds 0);have Y:=λh=>Ce (t:=s.wax) (rs:=rs) (k:=an (λx:WxKind=>x.name==bs j) s.wax.kinds 0) h;generalize Wx.bj s.wax rs (an (λx:WxKind=>x.name==bs j) s.wax.kinds 0)=S at *
 cases O:(S.2.2 != 0)
 rotate_left
 .have v:S.2.2≠0:=by simpa using O
  simp only[Span.pv,O,go_sem,simprocAttr];exact jn S.2.2 (E v) rfl rfl
 have v:S.2.2=0:=by simpa using O
 have i:=F v;obtain⟨r1,r2⟩:=Y v;simp only[Span.pv,O,go_sem,simprocAttr];cases h5:((b.lots.length:Int)==8)
 rotate_left
 .have D:¬b.lots.length<8:=by simp at h5;omega
  rw[if_pos D]at i;refine zm ?_;exact jn 3 i rfl rfl
 have D:¬¬b.lots.length<8:=by simp at h5;omega
 rw[if_neg D]at i;have X:b.lots.length+1<=ai:=by simp only[ai];omega
 refine zo @aD X ?_;have L:=mf [S.1.lo,S.1.hi] true (by simp) (λm I=>by
  simp only[br,dP,or_false]at I;rcases I with rfl|rfl
  .exact r1
  .exact r2)
 have G:S.2.1=0\/S.2.1=1\/S.2.1=2:=K;have l:∀w:List UInt8,jc S.2.1=w->bs w++bs (ea [S.1.lo,S.1.hi])=bs (joinL [jc S.2.1,aX S.1.lo,aX S.1.hi]):=λw h=>by
  rw[h,cc];simp[ea,joinL]
 have U:=ny [S.1.lo,S.1.hi] (λm I=>by
  simp only[br,dP,or_false]at I;rcases I with rfl|rfl
  .exact r1
  .exact r2)
 have R:∀k:Nat,k<=100->k+(bs (ea [S.1.lo,S.1.hi])).size<=aM:=λk hk=>by simp only[al,aM,bc,bS]at U |-;omega
 have q4:=R 4 (by decide);have q6:=R 6 (by decide);have q7:=R 7 (by decide);rcases G with G|G|G<;>rw[G]at l i<;>refine zn G ?_<;>refine aj L rfl ?_<;>refine zp q4 q6 q7 ?_
 .have e:=l vh rfl;exact rU (w:=joinL [jc 0,aX S.1.lo,aX S.1.hi]) i (by simp[B4,dI,ChLot.pv]) (by simp[bA];exact e)
 .have e:=l B3 rfl;exact rU (w:=joinL [jc 1,aX S.1.lo,aX S.1.hi]) i (by simp[B4,dI,ChLot.pv]) (by simp[bA];exact e)
 .have e:=l tm rfl;exact rU (w:=joinL [jc 2,aX S.1.lo,aX S.1.hi]) i (by simp[B4,dI,ChLot.pv]) (by simp[bA];exact e)
def sI:∀(w) (l),joinL (w::l.map aX)=w++ea l
 |w,[]=>by simp[joinL,ea]
 |w,n::l=>by
  rw[bf,joinL,sI (aX n) l]
  .simp[ea]
def QJ(s)(b)(n)(v:BkOk s b n):af TP 117 [s.pv,b.pv] (.str (bs (if(bQ s.hour b.tests b.boxes).1=[] then vg else joinL (sX::(bQ s.hour b.tests b.boxes).1.map aX)))):=by
 obtain⟨k1,A,z⟩:=F1 s.hour b.tests b.boxes v.boxes;have u:=NY s.hour b.tests b.boxes;generalize (bQ s.hour b.tests b.boxes).1=l at *
 generalize (bQ s.hour b.tests b.boxes).2=e at *
 refine ae (ag func117 rfl) rfl (zm ?_);refine aa u rfl ?_;by_cases j:l=[]
 .subst j;simp only[fi,go_sem,simprocAttr];rfl
 .have i:((l.length:Int)==0)=false:=by
   rw[beq_eq_false_iff_ne];intro h;exact j (qx (by omega))
  rw[if_neg j,sI];simp only[fi,i,go_sem,simprocAttr];refine aa (mf l false (by omega) k1) rfl ?_;have y:=ny l k1;have q:6+(bs (ea l)).size<=aM:=by simp only[al,aM];omega
  refine zn q ?_;exact cc sX (ea l)
def sl (l:List ChLot):List (List UInt8):=l.flatMap λx=>[bl x.name,aX x.grams]
def yG(w)(a c):joinL (w++[a,c])=(if w=[] then [] else joinL w++[32])++a++32::c:=by
 induction w with
 |nil=>rfl
 |cons x w e=>
  cases w with
  |nil=>simp[joinL]
  |cons y w=>
   rw[ga,ga,joinL,<-ga,e,if_neg (by simp),if_neg (by simp),joinL];simp
def A7(d)(x):sl (d++[x])=sl d++[bl x.name,aX x.grams]:=by simp[sl]
def UV(d):sl d=[]↔d=[]:=by cases d<;>simp[sl]
def UW:∀d,(∀x,x∈d->0<=x.grams/\x.grams<1000000000)->(∀x,x∈d->x.name.size<=20)->(joinL (sl d)).length<=2000*d.length:=by
 intro d
 induction i:d.length generalizing d with
 |zero=>
  intro _ _
  rw[pJ.1 i];exact ba _
 |succ k v=>
  intro u q;obtain⟨e,x,rfl⟩:∃e x,d=e++[x]:=⟨d.dropLast,d.getLast (by intro h;rw[h]at i;cases i),(List.dropLast_concat_getLast _).symm⟩
  have:=v e (by simp at i;omega) (λy j=>u y (by simp[j])) (λy j=>q y (by simp[j]));have l:=u x (by simp);have A:=j8 l.1 l.2;have z:(bl x.name).length<=20:=q x (by simp);rw[A7,yG];split<;>simp<;>omega
def NR(s)(b)(n)(I:BkOk s b n):af TP 120 [b.pv] (.str (bs (if b.lots=[] then MF else joinL (sl b.lots)))):=by
 have a1:=I.lots;have G:∀x,x∈b.lots->0<=x.grams/\x.grams<1000000000:=λx hx=>by have h1:=I.grams x hx;have h2:=I.few;omega
 have F:=I.names;refine ae (ag func120 rfl) rfl (zm ?_);refine aG [1] b.lots (by omega) (τ:=Unit) (λ_ _ _=>True) (λd _=>[(3,.p (.str (bs (joinL (sl d))))),(4,.p (.int .i64 d.length))]) (λ_ _=>[.row 6 [.p b.pv]]) () trivial ?_ ?_ ?_
 .simp only[bS,go_sem,simprocAttr];rfl
 .intro _ _;have i:¬((b.lots.length:Int)<(b.lots.length:Int)):=by omega
  refine zo i decide_false ?_;have N:(bs (joinL (sl b.lots))==(⟨#[]⟩:ByteArray))=decide (b.lots=[]):=by
   rw[show (⟨#[]⟩:ByteArray)=bs [] from rfl,cF];rcases AW b.lots with h|⟨e,x,h⟩
   .rw[h];rfl
   .rw[h,AX,A7,yG];split<;>simp
  rw[N];by_cases J:b.lots=[]
  .rw[if_pos J];refine zo J decide_true ?_;rfl
  .rw[if_neg J];simp[J,decide_false,go_sem]
 intro d x r _ l _ hx i D;have M:=congrArg List.length l;rw[ak,bc]at M;have Z:=UW d (λy K=>G y (by rw[l];simp[K])) (λy K=>F y (by rw[l];simp[K]));have v:=G x (by rw[l];simp);have E:=mf [x.grams] true (by simp) (λm S=>by rw[dW]at S;subst S;exact v);have L:(bl x.name).length<=20:=F x (by rw[l];simp);have a0:=j8 v.1 v.2;have j:∀n:Int,ea [n]=32::aX n:=λn=>by simp[ea]
 have q:=A7 d x;have u:=yG (sl d) (bl x.name) (aX x.grams);obtain⟨w,C⟩:∃w,x.name=bs w:=⟨bl x.name,(xp x.name).symm⟩
 have O:bl x.name=w:=by rw[C];rfl
 rw[O]at L q u;have R:(⟨#[32]⟩:ByteArray)=bs [32]:=rfl;have Y:(bs (joinL (sl d))).size+(bs [32]).size<=aM:=by simp[al,aM];omega
 have X:(bs (joinL (sl d))).size+(bs w).size<=aM:=by simp[al,aM];omega
 have V:(bs (joinL (sl d)++[32])).size+(bs w).size<=aM:=by simp[al,aM];omega
 have U:(bs (joinL (sl d)++w)).size+(bs (ea [x.grams])).size<=aM:=by rw[j];simp[al,aM];omega
 have T:(bs (joinL (sl d)++32::w)).size+(bs (ea [x.grams])).size<=aM:=by rw[j];simp[al,aM];omega
 refine zo i decide_true ?_;cases A:decide ((0:Int)<(d.length:Int))
 .have z:d=[]:=by have:=of_decide_eq_false A;exact pJ.1 (by omega)
  refine t_ i hx C @cc X ?_;refine aj E rfl (zo @cc U ?_);refine am (Inv:=λ_ _ _=>True) l () trivial (zn D ?_);rw[q,u,j,z];rfl
 .have z:¬sl d=[]:=λh=>by rw[(UV d).1 h]at A;simp at A
  simp only[i,hx,C,cc,Y,R,V,dD,go_sem,simprocAttr];refine aj E rfl ?_;simp only[cc,T,dD,go_sem,simprocAttr];refine am (Inv:=λ_ _ _=>True) l () trivial (zn D ?_);rw[q,u,j,if_neg z];simp
def Nv(s)(b)(n)(hs:SOk s)(E:BkOk s b n)(v F lt)(g) :
  aw TP 112 [.p s.pv,bA b,.p (bp (.batch v F lt g)).pv] (B4 b) (λr h'=>r=.ret (.p (mb b (aH s b (.batch v F lt g))))/\h'=List.replicate 4 .dead):=by
 have a5:=E.lots;have a4:=E.batches;have a3:=E.tests;have a2:=E.boxes
 refine lL ?_;refine au (ag func112 rfl) rfl ?_;simp only[bp,Said.pv,aN,go_sem,simprocAttr];refine aj (zd s F hs.colours) rfl (zm ?_);refine pC (pargs:=[b.pv,.str (bs lt)]) (QG b lt (by omega)) (sN b [_,_,_,_] _) (.int _ _) (zm ?_);refine pC (pargs:=[b.pv,.str (bs v)]) (I' b v (by omega)) (sN b [_,_,_,_] _) (.int _ _) ?_;have K:=fu (λx:ChBatch=>x.name==bs v) b.batches 0;refine zn K ?_;cases h1:(b.batches.any λx=>x.name==bs v)
 rotate_left
 .refine zm ?_;exact jn 5 (by simp only[aH,if_pos h1]) rfl rfl
 have q:¬(b.batches.any λy=>y.name==bs v)=true:=by simp[h1]
 refine zm ?_;generalize D:an (λx:ClColour=>x.name==bs F) s.colour.colours 0=c at *
 cases h2:decide (c<0);rotate_left
 .have e:c<0:=by simpa using h2
  refine zm ?_;exact jn 4 (by simp only[aH,D,if_neg q,if_pos e]) rfl rfl
 have e:¬c<0:=by simpa using h2
 rcases pp (λx:ChLot=>x.name==bs lt) b.lots 0 with Z|⟨j,x,C,hx,_⟩
 .have A:decide (an (λx:ChLot=>x.name==bs lt) b.lots 0<0)=true:=by simpa using Z
  refine zn A ?_;exact jn 4 (by simp only[aH,D,if_neg q,if_neg e,if_pos Z]) rfl rfl
 rw[gZ]at C;have u:¬((j:Nat):Int)<0:=by omega
 have A:decide (((j:Nat):Int)<0)=false:=by simpa using u
 have a0:j<b.lots.length:=(aC.1 hx).1;have G:((j:Nat):Int)<(b.lots.length:Int):=by omega
 refine zo C A ?_;cases M:(decide (g<1)||decide (100000<g))
 rotate_left
 .have T:¬(1<=g/\g<=100000):=by simp at M;omega
  have U:aH s b (.batch v F lt g)=.error 7:=by simp only[aH,D,C,if_neg q,if_neg e,if_neg u,if_pos T]
  cases l:decide (g<1)
  .have i:decide (100000<g)=true:=by simpa[l]using M
   refine zn i ?_;exact jn 7 U rfl rfl
  .refine zm ?_;exact jn 7 U rfl rfl
 obtain⟨l,i⟩:decide (g<1)=false/\decide (100000<g)=false:=by simpa using M
 have z:¬¬(1<=g/\g<=100000):=by simp at l i;omega
 have V:(b.lots.map dI)[j]?=some (.p x.pv):=by rw[cX,hx];rfl
 refine s_ l i G V ?_;cases Y:decide (x.grams<g);rotate_left
 .have S:¬g<=x.grams:=by simp at Y;omega
  refine zm ?_;exact jn 9 (by simp only[aH,D,C,if_neg q,if_neg e,if_neg u,if_neg z,gX,hx,if_pos S]) rfl rfl
 have I:¬¬g<=x.grams:=by simp at Y;omega
 refine zm ?_;cases X:((b.batches.length:Int)==7)
 rotate_left
 .have R:¬b.batches.length<7:=by simp at X;omega
  refine zm ?_;exact jn 3 (by simp only[aH,D,C,if_neg q,if_neg e,if_neg u,if_neg z,gX,hx,if_neg I,if_pos R]) rfl rfl
 have O:¬¬b.batches.length<7:=by simp at X;omega
 have a1:=E.grams x (aB hx);have hw:i64.wrap (x.grams-g)=x.grams-g:=ah (by simp at l i;omega) (by have:=E.few;simp at l i;omega);have L:aH s b (.batch v F lt g)=.ok ({ b with lots:=b.lots.set j { x with grams:=x.grams-g },batches:=b.batches++[⟨bs v,c,(j:Int),g⟩] },vg):=by
  simp only[aH,D,C,if_neg q,if_neg e,if_neg u,if_neg z,gX,hx,if_neg I,if_neg O]
 have N:b.batches.length+1<=ai:=by simp only[ai];omega
 have J:(b.lots.map dI).set j (.p (.agg [.str x.name,.int .i64 x.kind,.int .i64 (x.grams-g),.slice 1 (x.readings.map ay) false]))=(b.lots.set j { x with grams:=x.grams-g }).map dI:=by rw[we];rfl
 refine t_ N hw G V J ?_;exact rU (w:=vg) L (by simp[B4,bD,ChBatch.pv]) (by simp[bA];rfl)
def NA(b:ChBooks)(e)(t)(V)(i v w)(j:bi 6 ([.row 4 (b.lots.map dI),e,.row 3 (b.tests.map er),.row 2 (b.boxes.map jK)]++t) V=some i) :
  bi 8 ([.row 4 (b.lots.map dI),e,.row 3 (b.tests.map er),.row 2 (b.boxes.map jK)]++t) (.tuple [.agg [.slice 0 b.lots.length 0 b.lots.length,V,.slice 2 b.tests.length 0 b.tests.length,.slice 3 b.boxes.length 0 b.boxes.length,.p (.int .i64 b.poured),.p (.int .i64 b.lost)],.p v,.p w]) =
   some (.tuple [.agg [.slice 4 (b.lots.map ChLot.pv) false,i,.slice 3 (b.tests.map HrTest.pv) false,.slice 2 (b.boxes.map HrBox.pv) false,.int .i64 b.poured,.int .i64 b.lost],v,w]):=by
 have y:∀n h (l:List ChLot),aE (bi n h) (l.map dI)=some (l.map ChLot.pv):=λn h l=>aW (bH n h) ChLot.pv l;have u:∀n h (l:List HrTest),aE (bi n h) (l.map er)=some (l.map HrTest.pv):=λn h l=>aW (bH n h) HrTest.pv l;have q:∀n h (l:List HrBox),aE (bi n h) (l.map jK)=some (l.map HrBox.pv):=λn h l=>aW (bH n h) HrBox.pv l;simp only[ga,jb]at j;simp[y,u,q,j,go_sem]
def LR(h)(i)(l:List ChBatch)(hi:h[i]?=some (.row 4 (l.map bD))):bi 6 h (.slice i l.length 0 l.length)=some (.slice 4 (l.map ChBatch.pv) false):=by
 have e:∀n h,aE (bi n h) (l.map bD)=some (l.map ChBatch.pv):=λn h=>aW (bH n h) ChBatch.pv l;simp[hi,e,go_sem]
def G2{b b'}{hh}{a}{q}{w}(V)(i)(l)(y:q=.ok (b',w))
  (e:hh.take 4=[.row 4 (b'.lots.map dI),l,.row 3 (b'.tests.map er),.row 2 (b'.boxes.map jK)]) (A:bi 6 hh V=some i) (j:PL i (.slice 4 (b'.batches.map ChBatch.pv) false))
  (z:a=.tuple [.agg [.slice 0 b'.lots.length 0 b'.lots.length,V,.slice 2 b'.tests.length 0 b'.tests.length,.slice 3 b'.boxes.length 0 b'.boxes.length,.p (.int .i64 b'.poured),.p (.int .i64 b'.lost)],.p (.str (bs w)),.p (.int .i64 0)]) :
  ∃v u,a=v/\bi 8 hh v=some u/\qt u (mb b q):=by
 subst y;subst z;have h:=NA b' l (hh.drop 4) V i (.str (bs w)) (.int .i64 0) (by rw[<-e,ja];exact A);rw[<-e,ja]at h;exact⟨_,_,rfl,h,PO (PL.tupleL ⟨PL.aggL rfl ⟨.refl _,j,.refl _,.refl _,.refl _,.refl _,trivial⟩,.refl _,.refl _,trivial⟩)⟩
def Nw(s)(b)(n)(u:BkOk s b n)(q) :
  aw TP 113 [bA b,.p (bp (.drop q)).pv] (B4 b) (λr h'=>r=.ret (.p (mb b (aH s b (.drop q))))/\h'=List.replicate 4 .dead):=by
 have a6:=u.lots;have a5:=u.batches;have a4:=u.tests;have a3:=u.boxes
 refine lL ?_;refine au (dv (by kernel_rfl) rfl Z3) rfl ?_;simp only[bp,Said.pv,aN,Zv,aD,go_sem,simprocAttr];refine pC (pargs:=[b.pv,.str (bs q)]) (I' b q (by omega)) (sN b [_,_,_] _) (.int _ _) ?_;rcases pp (λx:ChBatch=>x.name==bs q) b.batches 0 with h3|⟨j,y,N,M,_⟩
 .have a1:decide (an (λx:ChBatch=>x.name==bs q) b.batches 0<0)=true:=by simpa using h3
  refine zn a1 ?_;exact jn 4 (by simp only[aH,if_pos h3]) rfl rfl
 rw[gZ]at N;have a2:j<b.batches.length:=(aC.1 M).1;have F:(j:Int)<(b.batches.length:Int):=by omega
 have R:¬(j:Int)<0:=by omega
 have D:decide ((j:Int)<0)=false:=by simpa using R
 obtain⟨⟨g1,g2⟩,⟨g3,g4⟩,_⟩:=u.waits y (aB M);obtain⟨k,T⟩:=na g3;have a0:k<b.lots.length:=by omega
 obtain⟨x,hx⟩:∃x,b.lots[k]?=some x:=⟨_,bL a0⟩
 have E:(k:Int)<(b.lots.length:Int):=by omega
 have Y:dI x=.p x.pv:=rfl;have hg:=u.grams x (aB hx);have hw:i64.wrap (x.grams+y.grams)=x.grams+y.grams:=ah (by omega) (by have:=u.few;omega);have v:i64.wrap ((j:Int)+1)=((j+1:Nat):Int):=by rw[ah];rfl
 have i:(b.lots.map dI).set k (.p (.agg [.str x.name,.int .i64 x.kind,.int .i64 (x.grams+y.grams),.slice 1 (x.readings.map ay) false]))=(b.lots.set k { x with grams:=x.grams+y.grams }).map dI:=by rw[we];rfl
 have C:(b.lots.set k { x with grams:=x.grams+y.grams }).length=b.lots.length:=wh;have e:aH s b (.drop q)=.ok ({ b with lots:=b.lots.set k { x with grams:=x.grams+y.grams },batches:=b.batches.eraseIdx j },vg):=by
  simp only[aH,N,if_neg R,gX,M,T,hx]
 have K:(b.batches.map bD)[j]?=some (.p y.pv):=by rw[cX,M];rfl
 have J:(0:Int)<=(j:Int):=by omega
 have I:(j:Int)<=(b.batches.length:Int):=by omega
 have G:((j+1:Nat):Int)<=(b.batches.length:Int):=by omega
 obtain⟨A,B,l,L⟩:∃A B,b.batches=A++y::B/\A.length=j:=⟨b.batches.take j,b.batches.drop (j+1),by
  obtain⟨h1,h2⟩:=aC.1 M
  rw[<-h2,List.getElem_cons_drop,ja],by simp;omega⟩
 have V:List.take j (b.batches.map bD)=A.map bD:=by rw[<-B0,l,<-L,eX rfl]
 have X:List.drop (j+1) (b.batches.map bD)=B.map bD:=by
  rw[<-List.map_drop,l,<-L,List.drop_append];simp
 have hE:b.batches.eraseIdx j=A++B:=by
  rw[Ms,l,<-L,eX rfl,List.drop_append];simp
 have S:=congrArg List.length l;rw[ak,bc]at S;rw[hE]at e;have c1:j<=b.batches.length:=by omega
 have O:A.length<=ai:=by simp only[ai];omega
 have c3:B.length<=ai:=by simp only[ai];omega
 have c4:j+1+(b.batches.length-(j+1))<=b.batches.length:=by omega
 have Z:List.take (b.batches.length-(j+1)) (B.map bD)=B.map bD:=dt (by simp;omega);have U:A.length+B.length<=ai:=by simp only[ai];omega
 cases A with
 |nil=>
  simp only[bS,gZ,jb]at O U e
  cases B with
  |nil=>
   simp only[aD,N,D,F,K,T,E,hx,Y,hw,i,v,J,I,G,Nat.sub_zero,c1,V,X,O,c4,bx,List.take_nil,bS,go_sem,simprocAttr];refine And.intro (by first|exact .inl ⟨_,rfl⟩|exact .inr ⟨_,_,rfl,rfl⟩) ?_
   exact G2 (.p (.slice 4 [] true)) (.slice 4 [] true) (.row 4 (b.batches.map bD)) e (by simp[]) rfl (PL.sliceL rfl trivial) (by simp[C];rfl)
  |cons z B=>
   simp only[bc]at c3 U;rw[bf]at Z;simp only[aD,N,D,F,K,T,E,hx,Y,hw,i,v,J,I,G,Nat.sub_zero,c1,V,X,O,c3,c4,Z,bx,go_sem,simprocAttr];refine And.intro (by first|exact .inl ⟨_,rfl⟩|exact .inr ⟨_,_,rfl,rfl⟩) ?_
   exact G2 (.slice 8 (B.length+1) 0 (B.length+1)) (.slice 4 ((z::B).map ChBatch.pv) false) (.row 4 (b.batches.map bD)) e (by simp[]) (LR _ 8 (z::B) rfl) (.refl _) (by simp[C];rfl)
 |cons a A=>
  simp only[bc]at O U;simp only[aD,N,D,F,K,T,E,hx,Y,hw,i,v,J,I,G,Nat.sub_zero,c1,V,X,O,c4,Z,U,go_sem,simprocAttr];refine And.intro (by first|exact .inl ⟨_,rfl⟩|exact .inr ⟨_,_,rfl,rfl⟩) ?_;exact G2 (.slice 8 (A.length+1+B.length) 0 (A.length+1+B.length)) (.slice 4 (((a::A)++B).map ChBatch.pv) false) (.row 4 (b.batches.map bD)) e (by simp[]) (by rw[show A.length+1+B.length=((a::A)++B).length by simp;omega];exact LR _ 8 ((a::A)++B) (by simp)) (.refl _) (by simp[C];rfl)
end Ch
set_option maxRecDepth 100000
def R7(s:HrShop)(x:List UInt8):(aI s x).1.marks.length<1000000000:=by
 by_cases h:(aI s x).2=0
 .have:=(eY (Pk h).2.1).1.len;omega
 .rw[R9 h];simp[cQ]
namespace Ch
structure BkIn (b:ChBooks):Prop where
 reads:∀x,x∈b.lots->x.readings.length<1000000000
 marks:∀t,t∈b.tests->t.marks.length<1000000000
def JM{s}{b b'}{c}{a}(e:BkIn b)(h:aH s b c=.ok (b',a)):BkIn b':=by
 have j:∀(i:Nat) (x y:ChLot),b.lots[i]?=some x->y.readings=x.readings->∀z,z∈b.lots.set i y->z.readings.length<1000000000:=by
  intro i x y hx A z u;rcases vr u with u|rfl
  .exact e.reads z u
  .rw[A];exact e.reads x (aB hx)
 cases c with
 |lot name kind grams rs=>
  simp only[aH]at h;split at h
  .cases h
  split at h
  .cases h
  split at h
  .cases h
  split at h
  .cases h
  rename_i hw;split at h
  .cases h
  have q:(Wx.bj s.wax rs (an (λx:WxKind=>x.name==bs kind) s.wax.kinds 0)).2.2=0:=Classical.byContradiction hw;have v:rs.length<1000000000:=by
   unfold Wx.bj at q;split at q
   .rename_i D;obtain⟨C,G,_⟩:=Wx.ye D;have:=C.props;omega
   .contradiction
  cases h;refine⟨λx hx=>?_,e.marks⟩;rcases cn.1 hx with hx|hx
  .exact e.reads x hx
  .rw[dW.1 hx];exact v
 |batch name colour lot grams=>
  simp only[aH]at h;split at h
  .cases h
  split at h
  .cases h
  split at h
  .cases h
  split at h
  .cases h
  split at h
  .cases h
  rename_i x hx;split at h
  .cases h
  split at h
  .cases h
  cases h
  exact⟨j _ x _ hx rfl,e.marks⟩
 |drop name=>
  simp only[aH]at h;split at h
  .cases h
  split at h
  .cases h
  split at h
  .cases h
  rename_i x hx;cases h
  exact⟨j _ x _ hx rfl,e.marks⟩
 |plan c=>
  simp only[aH]at h;split at h
  .cases h
  .cases h;exact e
 |pour c=>
  simp only[aH]at h;split at h
  .cases h
  .cases h;exact⟨e.reads,e.marks⟩
 |test text=>
  simp only[aH]at h;split at h
  .cases h
  split at h
  .cases h
  cases h;refine⟨e.reads,λt l=>?_⟩;rcases cn.1 l with l|l
  .exact e.marks t l
  .rw[dW.1 l];exact R7 _ _
 |promise kind=>
  simp only[aH]at h;split at h
  .cases h
  .cases h;exact e
 |box kind hours=>
  simp only[aH]at h;split at h
  .cases h
  split at h
  .cases h
  split at h
  .cases h
  cases h;exact⟨e.reads,e.marks⟩
 |look=>
  simp only[aH]at h
  cases h;exact e
 |wick kind F E c1 I=>
  simp only[aH]at h;split at h
  .cases h
  split at h
  .cases h
  split at h
  .cases h
  split at h
  .cases h
  cases h;exact e
 |blend F E c1=>
  simp only[aH]at h;split at h
  .cases h
  cases h;exact e
 |stock=>
  simp only[aH]at h;cases h;exact e
def VO{s}{b}{l}{q}(e:BkIn b)(h:ey s b l=.ok q):BkIn q.1:=by
 unfold ey at h;split at h
 .cases h
 .split at h
  .cases h
  .rename_i i;cases h;exact JM e i
def LU{s}:∀(d:List (List UInt8)) (q),BkIn q.1->BkIn (d.foldl (eP s) q).1
 |[],q,h=>h
 |l::d,q,h=>by
  refine LU d (eP s q l) ?_;unfold eP;split
  .exact h
  .rename_i e;exact VO h e
def Pd(s)(d):BkIn (bh s d).1:=LU d _ ⟨λx hx=>(by cases hx),λx hx=>(by cases hx)⟩
def oN (s:ChShop) (ls:List (List UInt8)):List (List UInt8):=if be s ls=0 then(bh s ls).2.1 else []
def r7 (s:ChShop) (ls:List (List UInt8)):ChBooks:=if be s ls=0 then(bh s ls).1 else cK
def qC (s:ChShop) (ls:List (List UInt8)):List (List UInt8):=if be s ls=0 then(bh s ls).2.2 else []
def zI:PL jz cK.pv:=PL.aggL rfl ⟨.nil _,.nil _,.nil _,.nil _,.refl _,.refl _,trivial⟩
def Ni(s)(e):af TP 7 [s.pv,aN e] (.tuple [aN (oN s e),.int .i64 (be s e)]):=by
 refine(SY s e).lessD ?_;unfold oN;by_cases h:be s e=0
 .rw[if_pos h,if_pos h,h];exact .refl _
 .rw[if_neg h,if_neg h];exact PL.tupleL ⟨.nil _,.refl _,trivial⟩
def PX(s)(e):af TP 10 [s.pv,aN e] (.tuple [(r7 s e).pv,.int .i64 (be s e)]):=by
 refine(YU s e).lessD ?_;unfold r7;by_cases h:be s e=0
 .rw[if_pos h,if_pos h,h];exact .refl _
 .rw[if_neg h,if_neg h];exact PL.tupleL ⟨zI,.refl _,trivial⟩
def PW(s)(e):af TP 14 [s.pv,aN e] (.tuple [.str (bs (dy (qC s e))),.int .i64 (be s e)]):=by
 have:=YT s e;unfold md at this;unfold qC;by_cases h:be s e=0
 .rw[if_pos h,<-h]at this;rw[if_pos h];exact this
 .rw[if_neg h]at this;rw[if_neg h];exact this
def yn{t}(h:(cd t).2≠0):(cd t).1=[]:=by
 unfold cd at h |-;split
 .rfl
 .split
  .rfl
  .rename_i l e i;rw[e]at h;simp only[if_neg i]at h;exact absurd rfl h
def Uh(t)(e:t.length<=2000000):af TP 16 [.str (bs t)] (.tuple [aN (cd t).1,.int .i64 (cd t).2]):=by
 refine(NZ t e).lessD ?_;unfold dn;by_cases h:(cd t).2=0
 .rw[if_pos h];exact .refl _
 .rw[if_neg h,yn h];exact PL.tupleL ⟨.nil _,.refl _,trivial⟩
def Cm{s}{t}(h:(cS s t).2.2≠0):(cS s t).1=cK:=by
 unfold cS at h |-;split
 .rfl
 .split
  .rfl
  .rename_i i e;rw[if_neg i,if_neg e]at h;exact absurd rfl h
def D'(s)(t)(e:t.length<=2000000):af TP 18 [s.pv,.str (bs t)] (.tuple [(cS s t).1.pv,.int .i64 (cS s t).2.1,.int .i64 (cS s t).2.2]):=by
 refine(Wc s t e).lessD ?_;unfold iE;by_cases h:(cS s t).2.2=0
 .rw[if_pos h];exact .refl _
 .rw[if_neg h,Cm h];exact PL.tupleL ⟨zI,.refl _,.refl _,trivial⟩
def BC(a c)(A:a.length<1000000000):af TP 9 [aN a,aN c] (.bool (a==c)):=by
 refine ae (ag func9 rfl) rfl ?_;simp only[aN,go_sem,simprocAttr];refine aT (λe=>?_) (λe=>?_)<;>refine zn e ?_
 .have:¬(a=c):=λh=>by subst h;simp at e
  simp[this]
 have z:a.length=c.length:=by simp[bne]at e;omega
 refine eZ [0,1] a A (τ:=Unit) (λd_ rest _=>c.take d_.length=d_) (λd_ _=>[(5,.p (.int .i64 d_.length))]) () (by simp) ?_ ?_ ?_
 .simp only[go_sem,simprocAttr]<;>simp
 .intro _ l;rw[dt (by omega)]at l;subst l;refine zm ?_;simp
 .intro d_ x rest _ C l hx v u;have i:(d_.length:Int)<(c.length:Int):=by omega
  obtain⟨y,j⟩:∃y,c[d_.length]?=some y:=⟨_,bL (by omega)⟩
  refine t_ v i hx j @cF ?_;cases e:(x==y)
  .refine zm ?_;have:¬(a=c):=λh=>by
    subst h;rw[hx]at j;cases j;simp at e
   simp[this]
  .have q:x=y:=by simpa using e
   refine zm ?_;refine am C () (by rw[ak,aK,wb,l,j,q];rfl) ?_;simp[u,go_sem]
structure BkLen (b:ChBooks):Prop where
 lots:b.lots.length<1000000000
 batches:b.batches.length<1000000000
 tests:b.tests.length<1000000000
 boxes:b.boxes.length<1000000000
 readings:∀x,x∈b.lots->x.readings.length<1000000000
 marks:∀t,t∈b.tests->t.marks.length<1000000000
def N8(b)(h:BkLen b):af TP 12 [b.pv,b.pv] (.bool true):=by
 refine ae (dv (by kernel_rfl) rfl zba) rfl ?_;have A:∀n:Int,(n != n)=false:=λn=>by simp
 have z:∀x:ByteArray,(x==x)=true:=λx=>(qm x x).2 rfl;refine zn A ?_;refine aG [2,3] b.lots h.lots (τ:=Unit) (λ_ _ _=>True) (λd_ _=>[(5,.p (.int .i64 d_.length))]) (λ_ _=>[.row 6 [.p b.pv],.row 6 [.p b.pv]]) () trivial ?_ ?_ ?_
 .simp[bS,go_sem]
 rotate_left
 .intro d_ x rest _ j _ hx i e;have l:x∈b.lots:=by rw[j];simp
  simp only[i,decide_true,hx,Mn,aD,A,z,go_sem,simprocAttr];refine aa (Wg x.readings x.readings false false (h.readings x l)) rfl ?_;rw[show (x.readings==x.readings)=true by simp];refine zm ?_;refine am j () trivial ?_;simp[e,go_sem]
 intro _ _;have y:¬((b.lots.length:Int)<(b.lots.length:Int)):=by omega
 refine zo y decide_false ?_;refine aG [2,3] b.batches h.batches (τ:=Unit) (λ_ _ _=>True) (λd_ _=>[(8,.p (.int .i64 d_.length))]) (λ_ _=>[.row 6 [.p b.pv],.row 6 [.p b.pv]]) () trivial ?_ ?_ ?_
 .simp[bS,go_sem]
 rotate_left
 .intro d_ x rest _ j _ hx i e;have l:x∈b.batches:=by rw[j];simp
  simp only[i,decide_true,hx,Mn,aD,z,go_sem,simprocAttr];rw[show (x.colour==x.colour&&(x.lot==x.lot&&x.grams==x.grams))=true by simp];refine zm ?_;refine am j () trivial ?_;simp[e,go_sem]
 intro _ _;have v:¬((b.batches.length:Int)<(b.batches.length:Int)):=by omega
 refine zo v decide_false ?_;refine aG [2,3] b.tests h.tests (τ:=Unit) (λ_ _ _=>True) (λd_ _=>[(9,.p (.int .i64 d_.length))]) (λ_ _=>[.row 6 [.p b.pv],.row 6 [.p b.pv]]) () trivial ?_ ?_ ?_
 .simp[bS,go_sem]
 rotate_left
 .intro d_ x rest _ j _ hx i e;have l:x∈b.tests:=by rw[j];simp
  simp only[i,decide_true,hx,Mn,aD,go_sem,simprocAttr];refine aj (YQ x x (h.marks x l)) rfl ?_;rw[show C9 x x=true by rw[VJ]];simp only[Mn,go_sem,simprocAttr];refine am j () trivial ?_;simp[e,go_sem]
 intro _ _;have u:¬((b.tests.length:Int)<(b.tests.length:Int)):=by omega
 refine zo u decide_false ?_;refine aG [2,3] b.boxes h.boxes (τ:=Unit) (λ_ _ _=>True) (λd_ _=>[(10,.p (.int .i64 d_.length))]) (λ_ _=>[.row 6 [.p b.pv],.row 6 [.p b.pv]]) () trivial ?_ ?_ ?_
 .simp[bS,go_sem]
 rotate_left
 .intro d_ x rest _ j _ hx i e;have l:x∈b.boxes:=by rw[j];simp
  simp only[i,decide_true,hx,Mn,aD,go_sem,simprocAttr];rw[show (x.kind==x.kind&&x.hours==x.hours)=true by simp];refine zm ?_;refine am j () trivial ?_;simp[e,go_sem]
 intro _ _;have q:¬((b.boxes.length:Int)<(b.boxes.length:Int)):=by omega
 simp[q,decide_false,go_sem]
def RM:WxTable:=⟨[⟨⟨#[109,101,108,116]⟩,5⟩,⟨⟨#[97,99,105,100]⟩,2⟩],[⟨⟨#[98,101,101,115]⟩,[⟨620,640⟩,⟨17,22⟩]⟩,⟨⟨#[112,97,114,97,102,102,105,110]⟩,[⟨540,580⟩,⟨0,0⟩]⟩,⟨⟨#[116,97,108,108,111,119]⟩,[⟨420,460⟩,⟨2,10⟩]⟩],950⟩
def GU:Shop:=⟨[⟨⟨#[116,104,105,110]⟩,10,⟨16,18⟩⟩,⟨⟨#[109,105,100]⟩,14,⟨20,24⟩⟩,⟨⟨#[102,97,116]⟩,20,⟨30,36⟩⟩],[⟨⟨#[98,101,101,115]⟩,⟨100,100⟩,⟨150,160⟩,⟨1000,1100⟩,1⟩],⟨20,45⟩,⟨500,1000⟩⟩
def Q9:List BdWax:=[⟨⟨#[98,101,101,115]⟩,1200,⟨620,640⟩,⟨90,100⟩,[]⟩,⟨⟨#[112,97,114,97,102,102,105,110]⟩,200,⟨540,580⟩,⟨110,150⟩,[]⟩,⟨⟨#[104,97,114,100]⟩,400,⟨690,700⟩,⟨60,70⟩,[⟨0,0⟩,⟨2,20⟩,⟨4,30⟩]⟩]
def LY:ClShop:=⟨[⟨⟨#[119,104,105,116,101]⟩,⟨10,20⟩,[1000,1000,1000]⟩,⟨⟨#[114,101,100]⟩,⟨10,20⟩,[2,1000,50]⟩,⟨⟨#[98,108,97,99,107]⟩,⟨20,40⟩,[1,5,1000]⟩],⟨100,200⟩,50⟩
def fG:ChShop:=⟨RM,Q9,GU,GW,LY⟩
def ft:List (List UInt8):=[[108,111,116,32,111,108,100,32,98,101,101,115,32,53,48,48,48,32,54,52,51,32,49,54],[108,111,116,32,110,101,119,32,98,101,101,115,32,57,48,48,48,32,54,48,48,32,57],[108,111,116,32,111,100,100,32,98,101,101,115,32,57,48,48,48,32,55,48,48,32,120],[98,97,116,99,104,32,97,32,98,108,97,99,107,32,111,108,100,32,50,48,48,48],[98,97,116,99,104,32,98,32,119,104,105,116,101,32,111,108,100,32,50,48,48,48],[98,97,116,99,104,32,99,32,114,101,100,32,111,108,100,32,50,48,48,48],[98,97,116,99,104,32,99,32,114,101,100,32,110,101,119,32,50,48,48,48],[112,108,97,110,32,98,108,97,99,107],[112,111,117,114,32,98,108,97,99,107],[115,116,111,99,107],[116,101,115,116,10,116,101,115,116,32,97,108,116,97,114,32,53,48,10,48,32,49,48,48,53,48,48,10,54,48,32,57,54,53,48,48,10,49,50,48,32,57,50,52,48,48,10],[112,114,111,109,105,115,101,32,97,108,116,97,114],[98,111,120,32,97,108,116,97,114,32,50,49],[98,111,120,32,97,108,116,97,114,32,50,50],[116,101,115,116,10,116,101,115,116,32,97,108,116,97,114,32,48,10,48,32,49,48,48,48,48,48,10,54,48,32,57,53,48,48,48,10],[108,111,111,107],[119,105,99,107,32,98,101,101,115,32,51,48,48,32,49,48,32,48,32,50,48],[98,108,101,110,100,32,53,54,48,32,54,50,48,32,49,52,48]]
def zu:List (List UInt8):=[[112,117,114,101,32,57,54,55,32,49,48,48,48],[105,109,112,117,114,101,32,51,49,57,32,54,52,55],[110,111,32,57],[111,107],[111,107],[110,111,32,57],[111,107],[97,32,98,32,99,32,49,48,48],[49,48,48],[111,108,100,32,49,48,48,48,32,110,101,119,32,55,48,48,48],[52,48,48,48,32,52,49,48,48],[50,49],[111,107],[110,111,32,57],[53,48,48,48,32,53,48,48,48],[98,114,111,107,101,110,32,48],[109,105,100],[49,32,49,55,32,50,32,53,52,48,48]]
def mC:List UInt8:=[49,32,108,111,116,32,111,108,100,32,98,101,101,115,32,53,48,48,48,32,54,52,51,32,49,54,10,50,32,108,111,116,32,110,101,119,32,98,101,101,115,32,57,48,48,48,32,54,48,48,32,57,10,51,32,98,97,116,99,104,32,97,32,98,108,97,99,107,32,111,108,100,32,50,48,48,48,10,52,32,98,97,116,99,104,32,98,32,119,104,105,116,101,32,111,108,100,32,50,48,48,48,10,53,32,98,97,116,99,104,32,99,32,114,101,100,32,110,101,119,32,50,48,48,48,10,54,32,112,111,117,114,32,98,108,97,99,107,10,55,32,116,101,115,116,47,116,101,115,116,32,97,108,116,97,114,32,53,48,47,48,32,49,48,48,53,48,48,47,54,48,32,57,54,53,48,48,47,49,50,48,32,57,50,52,48,48,47,10,56,32,98,111,120,32,97,108,116,97,114,32,50,49,10,57,32,116,101,115,116,47,116,101,115,116,32,97,108,116,97,114,32,48,47,48,32,49,48,48,48,48,48,47,54,48,32,57,53,48,48,48,47,10]
def V8(a b):af TP 148 [.int .i64 a,.int .i64 b] (.agg [.int .i64 a,.int .i64 b]):=by
 refine ae (ag func148 rfl) rfl ?_;simp[go_sem]
def V7(a b):af TP 149 [.int .i64 a,.int .i64 b] (.agg [.int .i64 a,.int .i64 b]):=by
 refine ae (ag func149 rfl) rfl ?_;simp[go_sem]
def V6(a b):af TP 150 [.int .i64 a,.int .i64 b] (.agg [.int .i64 a,.int .i64 b]):=by
 refine ae (ag func150 rfl) rfl ?_;simp[go_sem]
def V4(a b):af TP 152 [.int .i64 a,.int .i64 b] (.agg [.int .i64 a,.int .i64 b]):=by
 refine ae (ag func152 rfl) rfl ?_;simp[go_sem]
def V3:af TP 98 [] RM.pv:=by
 refine af.lessD (q:=.agg [.slice 2 (RM.props.map WxProp.pv) true,.slice 2 [.agg [.str ⟨#[98,101,101,115]⟩,.slice 2 [.agg [.int .i64 620,.int .i64 640],.agg [.int .i64 17,.int .i64 22]] true],.agg [.str ⟨#[112,97,114,97,102,102,105,110]⟩,.slice 2 [.agg [.int .i64 540,.int .i64 580],.agg [.int .i64 0,.int .i64 0]] true],.agg [.str ⟨#[116,97,108,108,111,119]⟩,.slice 2 [.agg [.int .i64 420,.int .i64 460],.agg [.int .i64 2,.int .i64 10]] true]] true,.int .i64 950]) ?_ ?_
 .refine ae (ag func98 rfl) rfl (zm ?_);repeat' (refine aa (V8 _ _) rfl ?_;simp[go_sem])
  rfl
 .exact PL.aggL rfl ⟨PL.sliceL rfl (dZ _),PL.sliceL rfl ⟨PL.aggL rfl ⟨.refl _,PL.sliceL rfl (dZ _),trivial⟩,PL.aggL rfl ⟨.refl _,PL.sliceL rfl (dZ _),trivial⟩,PL.aggL rfl ⟨.refl _,PL.sliceL rfl (dZ _),trivial⟩,trivial⟩,.refl _,trivial⟩
def V1:af TP 99 [] (dg Q9):=by
 refine af.lessD (q:=.slice 7 [.agg [.str ⟨#[98,101,101,115]⟩,.int .i64 1200,.int .i64 620,.int .i64 640,.int .i64 90,.int .i64 100,.nilslice],.agg [.str ⟨#[112,97,114,97,102,102,105,110]⟩,.int .i64 200,.int .i64 540,.int .i64 580,.int .i64 110,.int .i64 150,.nilslice],
   .agg [.str ⟨#[104,97,114,100]⟩,.int .i64 400,.int .i64 690,.int .i64 700,.int .i64 60,.int .i64 70,.slice 2 [.agg [.int .i64 0,.int .i64 0],.agg [.int .i64 2,.int .i64 20],.agg [.int .i64 4,.int .i64 30]] true]] true) ?_ ?_
 .refine ae (ag func99 rfl) rfl (zm ?_);repeat' (refine aa (V7 _ _) rfl ?_;simp[go_sem])
 .refine PL.sliceL rfl ⟨PL.aggL rfl ⟨.refl _,.refl _,.refl _,.refl _,.refl _,.refl _,.nil _,trivial⟩,PL.aggL rfl ⟨.refl _,.refl _,.refl _,.refl _,.refl _,.refl _,.nil _,trivial⟩,
   PL.aggL rfl ⟨.refl _,.refl _,.refl _,.refl _,.refl _,.refl _,PL.sliceL rfl (dZ _),trivial⟩,trivial⟩
def Yz:af TP 100 [] GU.pv:=by
 refine af.lessD (q:=.agg [.slice 4 (GU.wicks.map Wick.pv) true,.slice 8 (GU.waxes.map Wax.pv) true,.int .i64 20,.int .i64 45,.int .i64 500,.int .i64 1000]) ?_ ?_
 .refine ae (ag func100 rfl) rfl (zm ?_);repeat' (refine aa (V6 _ _) rfl ?_;simp[go_sem])
  exact⟨rfl,rfl⟩
 .exact PL.aggL rfl ⟨PL.sliceL rfl (dZ _),PL.sliceL rfl (dZ _),.refl _,.refl _,.refl _,.refl _,trivial⟩
def Ti:af TP 102 [] LY.pv:=by
 refine af.lessD (q:=.agg [.slice 4 [.agg [.str ⟨#[119,104,105,116,101]⟩,.int .i64 10,.int .i64 20,.slice 1 [.int .i64 1000,.int .i64 1000,.int .i64 1000] true],.agg [.str ⟨#[114,101,100]⟩,.int .i64 10,.int .i64 20,.slice 1 [.int .i64 2,.int .i64 1000,.int .i64 50] true],.agg [.str ⟨#[98,108,97,99,107]⟩,.int .i64 20,.int .i64 40,.slice 1 [.int .i64 1,.int .i64 5,.int .i64 1000] true]] true,.int .i64 100,.int .i64 200,.int .i64 50]) ?_ ?_
 .refine ae (ag func102 rfl) rfl (zm ?_);repeat' (refine aa (V4 _ _) rfl ?_;simp[go_sem])
 .exact PL.aggL rfl ⟨PL.sliceL rfl ⟨PL.aggL rfl ⟨.refl _,.refl _,.refl _,PL.sliceL rfl (dZ _),trivial⟩,PL.aggL rfl ⟨.refl _,.refl _,.refl _,PL.sliceL rfl (dZ _),trivial⟩,PL.aggL rfl ⟨.refl _,.refl _,.refl _,PL.sliceL rfl (dZ _),trivial⟩,trivial⟩,.refl _,.refl _,.refl _,trivial⟩
def zc:af TP 34 [] fG.pv:=by
 refine ae (ag func34 rfl) rfl (zm ?_);refine aa V3 rfl (zm ?_);refine aa V1 rfl (zm ?_);refine aa Yz rfl (zm ?_);refine aa zaw rfl (zm ?_);refine aa Ti rfl (zm ?_);and_intros<;>rfl
def Eu:af TP 35 [] (aN ft):=by
 refine af.lessD (q:=.slice 1 (ft.map λx=>.str (bs x)) true) ?_ (PL.sliceL rfl (dZ _));refine ae (ag func35 rfl) rfl (zm ?_);rfl
def zaF:af TP 36 [] (aN zu):=by
 refine af.lessD (q:=.slice 1 (zu.map λx=>.str (bs x)) true) ?_ (PL.sliceL rfl (dZ _));refine ae (ag func36 rfl) rfl (zm ?_);rfl
def Sc:cu H0 f37=true:=by kernel_rfl
def Wv:af TP 37 [] (.str (bs mC)):=by
 refine ae (dv (by kernel_rfl) rfl Sc) rfl (zm ?_);rfl
def xe:be fG ft=0:=by kernel_rfl
def Yd:(bh fG ft).2.1=zu:=by kernel_rfl
def VI:(bh fG ft).1=(cS fG mC).1:=by kernel_rfl
def Yg:(bh fG ft).1.lots.length=2:=by kernel_rfl
def Yh:((bh fG ft).1.lots[0]?).map (·.grams)=some 1000:=by kernel_rfl
def zal:((bh fG ft).1.poured,(bh fG ft).1.lost,(bh fG ft).1.tests.length,(bh fG ft).1.boxes.length)=(6000,100,2,1):=by kernel_rfl
def VH:dy (bh fG ft).2.2=mC:=by kernel_rfl
def Ye:((cd mC).1.length,(cd mC).2)=(9,0):=by kernel_rfl
def SL:(cS fG mC).2=(-1,0):=by kernel_rfl
def Tv:List UInt8:=[49,32,115,116,111,99,107,10]
def zam:(cS fG Tv).2=(0,0):=by kernel_rfl
def PC:ChShop:=⟨⟨[],[],0⟩,[],⟨[],[],⟨0,0⟩,⟨0,0⟩⟩,⟨[],[],0⟩,⟨[],⟨0,0⟩,0⟩⟩
def Yf:be PC []=3:=by kernel_rfl
def Uj{s}{i}(h:be s i=0):(bu s).2.2=0/\i.length<=40:=by
 unfold be at h;split at h
 .rename_i e;split at h
  .cases h
  .exact⟨e,by omega⟩
 .rename_i e;exact absurd h e
def xq{s}{b}{n}(h:BkOk s b n)(hi:BkIn b):BkLen b:=
 ⟨by have:=h.lots;omega,by have:=h.batches;omega,by have:=h.tests;omega,by have:=h.boxes;omega,hi.reads,hi.marks⟩
def H':BkLen cK:=⟨by decide,by decide,by decide,by decide,λx hx=>(by cases hx),λx hx=>(by cases hx)⟩
def E8{s}{e}(h:be s e=0):BkLen (bh s e).1:=by
 obtain⟨j,i⟩:=Uj h;exact xq (HC (tr j) i) (Pd s e)
def Q7(s)(e):BkLen (r7 s e):=by
 unfold r7;split
 .rename_i h;exact E8 h
 .exact H'
def Jp:af TP 13 [] (.bool true):=by
 have F:oN fG ft=zu:=by rw[oN,if_pos xe,Yd]
 have E:qC fG ft=(bh fG ft).2.2:=by rw[qC,if_pos xe]
 refine ae (ag func13 rfl) rfl (zm ?_);refine aa zc rfl (zm ?_);refine aa Eu rfl (zm ?_);refine aa (Ni fG ft) rfl ?_;rw[xe,F];refine zm ?_;refine aa zc rfl (zm ?_);refine aa Eu rfl (zm ?_);refine aa (PX fG ft) rfl ?_;rw[xe,r7,if_pos xe];refine zm ?_;refine aa zc rfl (zm ?_);refine aa Eu rfl (zm ?_);refine aa (PW fG ft) rfl ?_;rw[xe,E,VH];refine zm ?_;refine aa (Uh mC (by decide)) rfl (zm ?_);refine aa zc rfl (zm ?_);refine aa (D' fG mC (by decide)) rfl ?_;rw[SL];refine zm ?_;refine aa zc rfl ?_;have l:(⟨#[49,32,115,116,111,99,107,10]⟩:ByteArray)=bs Tv:=rfl;refine zn l ?_;refine aa (D' fG Tv (by decide)) rfl ?_;rw[zam];refine zm ?_;refine aa ((Ni PC []).arglessD (args':=[.agg [.nilslice,.nilslice,.int .i64 0,.nilslice,.nilslice,.nilslice,.int .i64 0,.int .i64 0,.int .i64 0,.int .i64 0,.nilslice,.nilslice,.int .i64 0,.nilslice,.int .i64 0,.int .i64 0,.int .i64 0],.nilslice]) ⟨PL.aggL rfl ⟨.nil _,.nil _,.refl _,.nil _,.nil _,.nil _,.refl _,.refl _,.refl _,.refl _,.nil _,.nil _,.refl _,.nil _,.refl _,.refl _,.refl _,trivial⟩,.nil _,trivial⟩) rfl ?_;rw[Yf];obtain⟨n1,q,v,u⟩:(bh fG ft).1.poured=6000/\(bh fG ft).1.lost=100/\(bh fG ft).1.tests.length=2/\(bh fG ft).1.boxes.length=1:=by
  have:=zal;simpa only[zD]using this
 obtain⟨C,A⟩:(cd mC).1.length=9/\(cd mC).2=0:=by
  have:=Ye;simpa only[zD]using this
 obtain⟨x,hx,D⟩:=bg.1 Yh;have i:=Yg;have e:=E8 xe;rw[<-VI];simp only[A,Hc,go_sem,simprocAttr];generalize (bh fG ft).1=G at n1 q v u hx i e;have z:(zu==zu)=true:=by simp
 have y:(bs mC==bs mC)=true:=(qm _ _).2 rfl;refine aa zaF rfl ?_;simp only[Hc,go_sem,simprocAttr];refine aa (BC zu zu (by decide)) rfl ?_;rw[z];simp only[Hc,i,hx,D,n1,q,v,u,go_sem,simprocAttr];refine aa Wv rfl ?_;simp only[Hc,y,C,aN,go_sem,simprocAttr];have j:=N8 G e;simp only[ChBooks.pv,ChBooks.cells,n1,q]at j;refine aa j rfl ?_;simp[Hc,go_sem]
end Ch
namespace Ch
set_option maxRecDepth 100000
set_option maxRecDepth 4000
def gC (w:List UInt8):Option (List (List UInt8)×List Int)->Said×Int
 |some q=>(⟨w,q.1,q.2,[]⟩,0)
 |none=>(ly,6)
def Hz(w)(r)(hw:w≠gF):∀t,w∉t.map (·.1)->kz w r t=(ly,6)
 |[],_=>rfl
 |(v,f)::t,h=>by
  rw[bf,br,not_or]at h;rw[kz,if_neg (λe=>h.1 e.1.symm)];exact Hz w r hw t h.2
def Cj(w)(r)(hw:w≠gF):∀t,(t.map (·.1)).Nodup->kz w r t=gC w ((t.lookup w).bind λf=>eT f r)
 |[],_=>rfl
 |(v,f)::t,h=>by
  rw[bf,GS]at h;by_cases i:v=w
  .subst i;rw[MQ _ _ _ _ _ hw,if_pos rfl,List.lookup_cons_self]
   cases j:eT f r with
   |none=>
    rw[iv,j]
    exact Hz v r hw t h.1
   |some q=>simp[gC,j]
  .have l:(w==v)=false:=by simpa using λe=>i e.symm
   rw[List.lookup_cons,l,<-Cj w r hw t h.2,kz,if_neg (λe=>i e.1)]
def E5(r):∀t,kz gF r t=(ly,6)
 |[]=>rfl
 |(v,f)::t=>by
  rw[kz,if_neg (λe=>e.2.1 e.1)];exact E5 r t
def LD(w):∀t:List (List UInt8×List UInt8),w∉t.map (·.1)->t.lookup w=none
 |[],_=>rfl
 |(v,f)::t,h=>by
  rw[bf,br,not_or]at h;have e:(w==v)=false:=by simpa using h.1
  rw[List.lookup_cons,e];exact LD w t h.2
def gT:Option Cmd->Said×Int
 |some c=>(bp c,0)
 |none=>(ly,6)
def O4:(ir.map (·.1)).Nodup:=by decide
def R2(w)(r):kz w r ir=gT (dL w r):=by
 by_cases y:w=gF
 .subst y;rw[E5];rfl
 rw[Cj w r y ir O4];by_cases E:w=p7
 .subst E;rw[show ir.lookup p7=some [97,97,110,114] from rfl];unfold dL;rw[if_pos rfl,iv]
  match r with
  |[]=>rfl
  |[n]=>cases e:bn n<;>simp[eT,gC,gT,e]
  |[n,k]=>cases e:bn n<;>cases i:bn k<;>simp[eT,gC,gT,e,i]
  |n::k::g::rs=>cases e:bn n<;>cases i:bn k<;>cases j:bV g<;>cases q:cV rs<;>simp[eT,gC,gT,bp,e,i,j,q]
 by_cases e:w=j2
 .subst e;rw[show ir.lookup j2=some [97,97,97,110] from rfl];unfold dL;rw[if_neg (by decide),if_pos rfl,iv]
  match r with
  |[]=>rfl
  |[n]=>cases e:bn n<;>simp[eT,gC,gT,e]
  |[n,k]=>cases e:bn n<;>cases i:bn k<;>simp[eT,gC,gT,e,i]
  |[n,k,l]=>cases e:bn n<;>cases i:bn k<;>cases j:bn l<;>simp[eT,gC,gT,e,i,j]
  |[n,k,l,g]=>cases e:bn n<;>cases i:bn k<;>cases j:bn l<;>cases q:bV g<;>simp[eT,gC,gT,bp,e,i,j,q]
  |n::k::l::g::x::rs=>cases e:bn n<;>cases i:bn k<;>cases j:bn l<;>cases q:bV g<;>simp[eT,gC,gT,e,i,j,q]
 by_cases i:w=lg
 .subst i;rw[show ir.lookup lg=some [97] from rfl];unfold dL;rw[if_neg (by decide),if_neg (by decide),if_pos rfl,iv]
  match r with
  |[]=>rfl
  |[n]=>cases e:bn n<;>simp[eT,gC,gT,bp,e]
  |n::k::t=>cases e:bn n<;>simp[eT,gC,gT,e]
 by_cases j:w=l9
 .subst j;rw[show ir.lookup l9=some [97] from rfl];unfold dL;rw[if_neg (by decide),if_neg (by decide),if_neg (by decide),if_pos rfl,iv]
  match r with
  |[]=>rfl
  |[n]=>cases e:bn n<;>simp[eT,gC,gT,bp,e]
  |n::k::t=>cases e:bn n<;>simp[eT,gC,gT,e]
 by_cases q:w=jF
 .subst q;rw[show ir.lookup jF=some [97] from rfl];unfold dL;rw[if_neg (by decide),if_neg (by decide),if_neg (by decide),if_neg (by decide),if_pos rfl,iv]
  match r with
  |[]=>rfl
  |[n]=>cases e:bn n<;>simp[eT,gC,gT,bp,e]
  |n::k::t=>cases e:bn n<;>simp[eT,gC,gT,e]
 by_cases u:w=fj
 .subst u;rw[show ir.lookup fj=some [97] from rfl];unfold dL;rw[if_neg (by decide),if_neg (by decide),if_neg (by decide),if_neg (by decide),if_neg (by decide),if_pos rfl,iv]
  match r with
  |[]=>rfl
  |[n]=>cases e:bn n<;>simp[eT,gC,gT,bp,e]
  |n::k::t=>cases e:bn n<;>simp[eT,gC,gT,e]
 by_cases D:w=kn
 .subst D;rw[show ir.lookup kn=some [97,110] from rfl];unfold dL;rw[if_neg (by decide),if_neg (by decide),if_neg (by decide),if_neg (by decide),if_neg (by decide),if_neg (by decide),if_pos rfl,iv]
  match r with
  |[]=>rfl
  |[n]=>cases e:bn n<;>simp[eT,gC,gT,e]
  |[n,g]=>cases e:bn n<;>cases i:bV g<;>simp[eT,gC,gT,bp,e,i]
  |n::g::x::t=>cases e:bn n<;>cases i:bV g<;>simp[eT,gC,gT,e,i]
 by_cases C:w=jG
 .subst C;rw[show ir.lookup jG=some [] from rfl];unfold dL;rw[if_neg (by decide),if_neg (by decide),if_neg (by decide),if_neg (by decide),if_neg (by decide),if_neg (by decide),if_neg (by decide),if_pos rfl,iv]
  match r with
  |[]=>rfl
  |n::t=>rfl
 by_cases A:w=ji
 .subst A;rw[show ir.lookup ji=some [97,110,110,110,110] from rfl];unfold dL;rw[if_neg (by decide),if_neg (by decide),if_neg (by decide),if_neg (by decide),if_neg (by decide),if_neg (by decide),if_neg (by decide),if_neg (by decide),if_pos rfl,iv]
  match r with
  |[]=>rfl
  |[n]=>cases e:bn n<;>simp[eT,gC,gT,e]
  |[n,a]=>cases e:bn n<;>cases i:bV a<;>simp[eT,gC,gT,e,i]
  |[n,a,b]=>cases e:bn n<;>cases i:bV a<;>cases j:bV b<;>simp[eT,gC,gT,e,i,j]
  |[n,a,b,c]=>cases e:bn n<;>cases i:bV a<;>cases j:bV b<;>cases q:bV c<;>simp[eT,gC,gT,e,i,j,q]
  |[n,a,b,c,d]=>cases e:bn n<;>cases i:bV a<;>cases j:bV b<;>cases q:bV c<;>cases u:bV d<;>simp[eT,gC,gT,bp,e,i,j,q,u]
  |n::a::b::c::d::x::t=>cases e:bn n<;>cases i:bV a<;>cases j:bV b<;>cases q:bV c<;>cases u:bV d<;>simp[eT,gC,gT,e,i,j,q,u]
 by_cases z:w=gj
 .subst z;rw[show ir.lookup gj=some [110,110,110] from rfl];unfold dL;rw[if_neg (by decide),if_neg (by decide),if_neg (by decide),if_neg (by decide),if_neg (by decide),if_neg (by decide),if_neg (by decide),if_neg (by decide),if_neg (by decide),if_pos rfl,iv]
  match r with
  |[]=>rfl
  |[a]=>cases e:bV a<;>simp[eT,gC,gT,e]
  |[a,b]=>cases e:bV a<;>cases i:bV b<;>simp[eT,gC,gT,e,i]
  |[a,b,c]=>cases e:bV a<;>cases i:bV b<;>cases j:bV c<;>simp[eT,gC,gT,bp,e,i,j]
  |a::b::c::x::t=>cases e:bV a<;>cases i:bV b<;>cases j:bV c<;>simp[eT,gC,gT,e,i,j]
 by_cases v:w=gi
 .subst v;rw[show ir.lookup gi=some [] from rfl];unfold dL;rw[if_neg (by decide),if_neg (by decide),if_neg (by decide),if_neg (by decide),if_neg (by decide),if_neg (by decide),if_neg (by decide),if_neg (by decide),if_neg (by decide),if_neg (by decide),if_pos rfl,iv]
  match r with
  |[]=>rfl
  |n::t=>rfl
 have F:ir.lookup w=none:=LD w ir (by simp[ir,E,e,i,j,q,u,D,C,A,z,v,y]);rw[F];unfold dL;rw[if_neg E,if_neg e,if_neg i,if_neg j,if_neg q,if_neg u,if_neg D,if_neg C,if_neg A,if_neg z,if_neg v];rfl
def U4(l):wu l=yd l:=by
 unfold wu yd gc;split
 .rfl
 split
 .rfl
 cases e:aA 32 l with
 |nil=>rfl
 |cons w r=>
  simp only;rw[R2];cases dL w r<;>rfl
def NP(l):af TP 51 [.str (bs l)] (.tuple [(yd l).1.pv,.int .i64 (yd l).2]):=by
 rw[<-U4];exact zay l
def lR (v:List UInt8):Bool:=v==p7||v==j2||v==lg||v==jF||v==gF||v==kn
def FP(v):af TP 52 [.str (bs v)] (.bool (lR v)):=by
 refine ae (ag Tryz.func52 rfl) rfl ?_;have c0:(⟨#[108,111,116]⟩:ByteArray)=bs p7:=rfl;have c1:(⟨#[98,97,116,99,104]⟩:ByteArray)=bs j2:=rfl;have C:(⟨#[100,114,111,112]⟩:ByteArray)=bs lg:=rfl;have A:(⟨#[112,111,117,114]⟩:ByteArray)=bs jF:=rfl;have z:(⟨#[116,101,115,116]⟩:ByteArray)=bs gF:=rfl;have y:(⟨#[98,111,120]⟩:ByteArray)=bs kn:=rfl;simp only[c0,c1,C,A,z,y,cF,go_sem,simprocAttr];cases e:(v==p7)
 rotate_left
 .simp[lR,oZ,e,go_sem]
 refine zn @cF ?_;cases i:(v==j2)
 rotate_left
 .simp[lR,oZ,Bool.or_true,e,i,go_sem]
 refine zn @cF ?_;cases j:(v==lg)
 rotate_left
 .simp[lR,oZ,Bool.or_true,e,i,j,go_sem]
 refine zn @cF ?_;cases l:(v==jF)
 rotate_left
 .simp[lR,oZ,Bool.or_true,e,i,j,l,go_sem]
 refine zn @cF ?_;cases q:(v==gF)
 rotate_left
 .simp[lR,oZ,Bool.or_true,e,i,j,l,q,go_sem]
 refine zn @cF ?_;cases u:(v==kn)
 rotate_left
 .simp[lR,Bool.or_true,e,i,j,l,q,u,go_sem]
 simp only[lR,e,i,j,l,q,u];rfl
def xT(c):lR (bp c).verb=c.written:=by
 cases c<;>rfl
def On (s:ChShop) (b:ChBooks) (l:List UInt8):List UInt8:=match ey s b l with|.error e=>joinL [EV,aX e]|.ok (_,a,_)=>a
def Js (s:ChShop) (b:ChBooks) (l:List UInt8):ChBooks:=match ey s b l with|.error _=>b|.ok (b',_,_)=>b'
def DH (s:ChShop) (b:ChBooks) (l:List UInt8):List (List UInt8):=match ey s b l with|.error _=>[]|.ok (_,_,w)=>if w=true then [l] else []
def UU(s:ChShop)(q:ChBooks×List (List UInt8)×List (List UInt8))(l:List UInt8):eP s q l=(Js s q.1 l,q.2.1++[On s q.1 l],q.2.2++DH s q.1 l):=by
 unfold eP Js On DH
 cases ey s q.1 l with
 |error e=>simp
 |ok x=>
  obtain⟨b,a,w⟩:=x;cases w<;>simp
def VQ{s:ChShop}{b:ChBooks}{l:List UInt8}{e:Int}(i:gc l=.error e):ey s b l=.error e:=by simp[ey,i]
def VP{s:ChShop}{b:ChBooks}{l:List UInt8}{c:Cmd}{e:Int}(i:gc l=.ok c)(j:aH s b c=.error e):ey s b l=.error e:=by simp[ey,i,j]
def VN{s:ChShop}{b b':ChBooks}{l a:List UInt8}{c:Cmd}(e:gc l=.ok c)(i:aH s b c=.ok (b',a)):ey s b l=.ok (b',a,c.written):=by simp[ey,e,i]
def JI (s:ChShop):ChBooks->List (List UInt8)->List (List UInt8)
 |_,[]=>[]
 |b,l::r=>On s b l::JI s (Js s b l) r
def Jr (s:ChShop):ChBooks->List (List UInt8)->ChBooks
 |b,[]=>b
 |b,l::r=>Jr s (Js s b l) r
def A0 (s:ChShop):ChBooks->List (List UInt8)->List (List UInt8)
 |_,[]=>[]
 |b,l::r=>DH s b l++A0 s (Js s b l) r
def LT(s:ChShop):∀(d:List (List UInt8)) (q:ChBooks×List (List UInt8)×List (List UInt8)),d.foldl (eP s) q=(Jr s q.1 d,q.2.1++JI s q.1 d,q.2.2++A0 s q.1 d)
 |[],q=>by simp[Jr,JI,A0]
 |l::d,q=>by
  rw[pD,LT s d,UU];simp[Jr,JI,A0]
def XE(s:ChShop)(d:List (List UInt8)):bh s d=(Jr s cK d,JI s cK d,A0 s cK d):=by
 rw[bh,LT];simp
def Ic(b)(C:b.batches.length<=1000):il TP 195 [b.pv] (.slice 2 ((cJ b).map ClBatch.pv) false):=by
 refine e9 (ag Tryz.func195 rfl) rfl (zm ?_);refine bt 3 2 (by simp only[go_sem,simprocAttr]) (zm ?_);refine aG [1] b.batches (by omega) (τ:=Unit) (λ_ _ _=>True) (λd _=>[(3,.slice 1 d.length 0 d.length),(4,.p (.int .i64 d.length))]) (λd _=>[.row 6 [.p b.pv],.row 2 ((iB d).map Db)]) () trivial ?_ ?_ ?_
 .simp only[iB,bx,bS,go_sem,simprocAttr]
 .intro _ _;have e:¬((b.batches.length:Int)<(b.batches.length:Int)):=by omega
  have hw:iB b.batches=cJ b:=rfl;have i:(cJ b).length=b.batches.length:=by simp only[cJ,dQ]
  have z:List.take b.batches.length ((cJ b).map ClBatch.pv)=(cJ b).map ClBatch.pv:=dt (by rw[dQ,i];exact ba _);have A:∀n h (l:List ClBatch),aE (iI n h) (l.map Db)=some (l.map ClBatch.pv):=λn h l=>j6 n h ClBatch.pv (λ_=>rfl) l;simp only[e,decide_false,hw,z,i,A,go_sem,simprocAttr]
 .intro d x r _ y _ hx e u;have v:=congrArg List.length y;rw[ak]at v;have q:d.length+1<=ai:=by simp only[ai];omega
  have j:(iB d).length=d.length:=by simp[iB]
  simp only[e,hx,q,j,dQ,go_sem,simprocAttr];refine am (Inv:=λ_ _ _=>True) y () trivial ?_;simp only[u,iB,ak,aS,bf,bx,Db,ClBatch.pv,go_sem,simprocAttr]
def IK(b)(t):ib (B4 b++t) [bA b]=some [b.pv]:=by
 have q:∀n h (l:List ChLot),aE (bi n h) (l.map dI)=some (l.map ChLot.pv):=λn h l=>aW (bH n h) ChLot.pv l;have j:∀n h (l:List ChBatch),aE (bi n h) (l.map bD)=some (l.map ChBatch.pv):=λn h l=>aW (bH n h) ChBatch.pv l;have i:∀n h (l:List HrTest),aE (bi n h) (l.map er)=some (l.map HrTest.pv):=λn h l=>aW (bH n h) HrTest.pv l;have e:∀n h (l:List HrBox),aE (bi n h) (l.map jK)=some (l.map HrBox.pv):=λn h l=>aW (bH n h) HrBox.pv l;simp[q,j,i,e,ChBooks.pv,go_sem]
def F9{s}{b}{c}{k e}(q:an (λx=>x.name==bs c) s.colour.colours 0=k)(j:¬k<0)(i:iU s b c=.error e) :
  Cl.ml s.colour k (cJ b)=.tuple [.nilslice,.int .i64 0,.int .i64 e]/\(e != 0)=true:=by
 unfold iU at i;dsimp only at i;rw[q,if_neg j]at i;split at i
 .rename_i j;cases i;rw[Cl.ml,if_neg j];exact⟨rfl,by simpa using j⟩
 .rename_i j;have l:Cl.dj s.colour k (cJ b)=0:=by simpa using j
  split at i
  .rename_i u;cases i;rw[Cl.ml,if_pos l,u];exact⟨rfl,rfl⟩
  .cases i
def Dp{s}{b}{c}{k}{o}{m}(l:an (λx=>x.name==bs c) s.colour.colours 0=k)(i:¬k<0)(e:iU s b c=.ok (o,m)) :
  Cl.ml s.colour k (cJ b)=.tuple [.slice 1 (o.map Cl.cL) false,.int .i64 m,.int .i64 0]:=by
 unfold iU at e;dsimp only at e;rw[l,if_neg i]at e;split at e
 .cases e
 .rename_i i;have j:Cl.dj s.colour k (cJ b)=0:=by simpa using i
  split at e
  .cases e
  .rename_i q;cases e;rw[Cl.ml,if_pos j,q]
def uq (b:ChBooks) (o:List Nat):List UInt8:=o.flatMap λi=>kH b.batches i++[32]
def DZ{b}(e:∀i,(kH b.batches i).length<=1000):∀o,(uq b o).length<=1001*o.length
 |[]=>ba _
 |i::o=>by
  have j:=DZ e o;have l:=e i;unfold uq at j |-;simp only[mS,ak,bc,bS];omega
def HU(b)(d):∀o,joinL (o.map (kH b.batches)++[d])=uq b o++d
 |[]=>rfl
 |i::o=>by
  have l:=HU b d o;have e:uq b (i::o)=kH b.batches i++32::uq b o:=by simp[uq]
  rw[e]
  cases o with
  |nil=>simp[joinL,uq]
  |cons j o=>
   rw[bf,bf,ga,ga,joinL];rw[bf,ga]at l;rw[l];simp
def Vx(s)(b)(n)(S:SOk s)(D:BkOk s b n)(c) :
  aw TP 114 [.p s.pv,bA b,.p (bp (.plan c)).pv] (B4 b) (λr h'=>r=.ret (.p (mb b (aH s b (.plan c))))/\h'=List.replicate 4 .dead):=by
 have hl:=D.batches;have a0:(cJ b).length=b.batches.length:=by simp only[cJ,dQ]
 refine lL ?_;refine au (dv (by kernel_rfl) rfl Uc) rfl ?_;simp only[bp,Said.pv,aN,TY,aD,go_sem,simprocAttr];refine aj (zd s c S.colours) rfl (zm ?_);generalize C:an (λx:ClColour=>x.name==bs c) s.colour.colours 0=k at *
 cases U:decide (k<0);rotate_left
 .have i:k<0:=by simpa using U
  refine zm ?_;exact jn 4 (by simp only[aH,iU,C,if_pos i]) rfl rfl
 have i:¬k<0:=by simpa using U
 refine zn @aD ?_;refine Af (pargs:=[b.pv]) (Ic b (by omega)) (IK b [_,_,_,_]) (zm ?_);refine aj (Cl.Jg s.colour k (cJ b) (by omega)) rfl ?_
 cases v:iU s b c with
 |error e=>
  obtain⟨hp,L⟩:=F9 C i v;rw[hp];refine zn L ?_
  exact jn e (by simp only[aH,v]) rfl rfl
 |ok q=>
  obtain⟨o,m⟩:=q;rw[Dp C i v];obtain⟨X,V,f3⟩:=qi S D v;have fl:o.length=b.batches.length:=by rw[X.length_eq,List.length_range]
  have l:=CB D;have M:(bs l9==(⟨#[112,108,97,110]⟩:ByteArray))=true:=rfl;refine zn M ?_;refine aG [4,6,10,11] o (by omega) (τ:=Unit) (λ_ _ _=>True) (λd _=>[(13,.p (.str (bs (uq b d)))),(14,.p (.int .i64 d.length))]) (λd _=>B4 b++[.row 17 [.p s.pv],.row 6 [bA b],.row 4 [.p (bp (.plan c)).pv],.row 6 [.p fQ]]) () trivial ?_ ?_ ?_
  .simp only[bS,fQ,bp,Said.pv,aN,go_sem,simprocAttr];rfl
  .intro _ _;have u:¬((o.length:Int)<(o.length:Int)):=by omega
   have I:=DZ l o;have a1:=j8 V (by omega:m<1000000000);have q:(bs (uq b o)).size+(bs (aX m)).size<=aM:=by simp[al,aM];omega
   simp only[u,decide_false,fQ,bp,Said.pv,aN,aD,go_sem,simprocAttr];refine aj (js V (by omega)) rfl (zn q ?_);refine rU (b':=b) (w:=joinL (o.map (kH b.batches)++[aX m])) ?_ ?_ ?_
   .simp only[aH,v]
   .rfl
   .rw[HU];rfl
  .intro d x r _ E _ hx u K;have hw:x<b.batches.length:=by
    have:x∈o:=by rw[E];simp
    exact sq.1 (X.mem_iff.1 this)
   obtain⟨y,R⟩:∃y,b.batches[x]?=some y:=⟨_,bL hw⟩
   have F:(b.batches.map bD)[x]?=some (.p y.pv):=by rw[cX,R];rfl
   have T:kH b.batches x=bl y.name:=by rw[kH,R]
   have G:(x:Int)<(b.batches.length:Int):=by omega
   have N:=congrArg List.length E;rw[ak,bc]at N;have I:=DZ l d;have j:=l x;rw[T]at j;obtain⟨w,z⟩:∃w,y.name=bs w:=⟨bl y.name,(xp y.name).symm⟩
   have A:bl y.name=w:=by rw[z];rfl
   rw[A]at j;have O:(⟨#[32]⟩:ByteArray)=bs [32]:=rfl;have Z:(bs (uq b d)).size+(bs w).size<=aM:=by simp[al,aM];omega
   have Y:(bs (uq b d++w)).size+(bs [32]).size<=aM:=by simp[al,aM];omega
   have J:uq b (d++[x])=uq b d++(w++[32]):=by simp[uq,T,A]
   simp only[u,decide_true,hx,Cl.cL,F,G,z,Z,Y,O,cc,aD,go_sem,simprocAttr];refine am (Inv:=λ_ _ _=>True) E () trivial ?_;simp[K,J,fQ,bp,Said.pv,aN,dD,go_sem]
def Vw(s)(b)(n)(L:SOk s)(i:BkOk s b n)(c) :
  aw TP 114 [.p s.pv,bA b,.p (bp (.pour c)).pv] (B4 b) (λr h'=>r=.ret (.p (mb b (aH s b (.pour c))))/\h'=List.replicate 4 .dead):=by
 have U:=i.batches;have S:(cJ b).length=b.batches.length:=by simp only[cJ,dQ]
 refine lL ?_;refine au (dv (by kernel_rfl) rfl Uc) rfl ?_;simp only[bp,Said.pv,aN,TY,aD,go_sem,simprocAttr];refine aj (zd s c L.colours) rfl (zm ?_);generalize z:an (λx:ClColour=>x.name==bs c) s.colour.colours 0=k at *
 cases M:decide (k<0);rotate_left
 .have j:k<0:=by simpa using M
  refine zm ?_;exact jn 4 (by simp only[aH,iU,z,if_pos j]) rfl rfl
 have j:¬k<0:=by simpa using M
 refine zn @aD ?_;refine Af (pargs:=[b.pv]) (Ic b (by omega)) (IK b [_,_,_,_]) (zm ?_);refine aj (Cl.Jg s.colour k (cJ b) (by omega)) rfl ?_
 cases v:iU s b c with
 |error e=>
  obtain⟨O,G⟩:=F9 z j v;rw[O];refine zn G ?_
  exact jn e (by simp only[aH,v]) rfl rfl
 |ok q=>
  obtain⟨o,m⟩:=q;rw[Dp z j v];obtain⟨X,R,V⟩:=qi L i v;have I:(bs jF==(⟨#[112,108,97,110]⟩:ByteArray))=false:=rfl;refine zn I ?_;refine aG [4,6,11] b.batches (by omega) (τ:=Unit) (λ_ _ _=>True) (λd _=>[(15,.p (.int .i64 d.length))]) (λd _=>B4 b++[.row 17 [.p s.pv],.row 6 [bA { b with poured:=b.poured+lU d }],.row 4 [.p (bp (.pour c)).pv],.row 6 [.p fQ]]) () trivial ?_ ?_ ?_
  .simp[bS,fQ,bp,Said.pv,aN,lU,bx,List.sum_nil,uJ,go_sem]
  .intro _ _;have u:¬((b.batches.length:Int)<(b.batches.length:Int)):=by omega
   have y:=nU i b.batches (λx hx=>hx);have E:=i.poured;have T:=i.lost;have D:=i.few;have l:IntKind.i64.wrap (b.lost+m)=b.lost+m:=ah;simp only[u,decide_false,fQ,bp,Said.pv,aN,aD,l,go_sem,simprocAttr];refine aj (js R (by omega)) rfl (zm ?_);exact G2 (b':={ b with poured:=b.poured+MJ b.batches,batches:=[],lost:=b.lost+m }) (w:=aX m) (.p .nilslice) .nilslice (.row 4 (b.batches.map bD)) (by simp only[aH,v]) rfl rfl (.nil 4) rfl
  .intro d x r _ A _ hx u F;have C:(b.batches.map bD)[d.length]?=some (.p x.pv):=by rw[cX,hx];rfl
   have K:=congrArg List.length A;rw[ak,bc]at K;have y:=nU i (d++[x]) (λx hx=>by rw[A];simp at hx |-;rcases hx with h|h;exact .inl h;exact .inr (.inl h));have J:lU (d++[x])=lU d+x.grams:=by simp[lU]
   have N:(d++[x]).length<=7:=by simp;omega
   have E:=i.poured;have D:=i.few;have l:IntKind.i64.wrap (b.poured+lU d+x.grams)=b.poured+(lU d+x.grams):=by rw[Int.add_assoc];exact ah
   refine t_ u decide_true C l @aD ?_;refine am (Inv:=λ_ _ _=>True) A () trivial ?_;simp[F,J,fQ,bp,Said.pv,aN,go_sem]
def Ei (s:ChShop) (b:ChBooks):Cmd->List UInt8
 |.promise kind=>if an (λx:HrKind=>x.name==bs kind) s.hour.kinds 0<0 then [] else if(aY s.hour b.tests (an (λx:HrKind=>x.name==bs kind) s.hour.kinds 0)).2≠0 then aX 0 else []
 |.box kind _=>if an (λx:HrKind=>x.name==bs kind) s.hour.kinds 0<0 then [] else if(aY s.hour b.tests (an (λx:HrKind=>x.name==bs kind) s.hour.kinds 0)).2≠0 then aX 0 else []
 |.wick kind _ _ _ _=>if an (λx:Wax=>x.name==bs kind) s.wick.waxes 0<0 then [] else match s.wick.wicks[0]? with|none=>[]|some w=>bl w.name
 |_=>[]
def lB (a:List UInt8) (b:ChBooks) (q:Except Int (ChBooks×List UInt8)):PV:=match q with|.error e=>.tuple [b.pv,.str (bs a),.int .i64 e]|.ok (b',a)=>.tuple [b'.pv,.str (bs a),.int .i64 0]
def jJ (s:ChShop) (b:ChBooks) (c:Cmd):PV:=lB (Ei s b c) b (aH s b c)
def uy{b}{hh}{x}{q}(a)(e)(u:q=.error e)(i:hh.take 4=B4 b)(v:x=.tuple [bA b,.p (.str (bs a)),.p (.int .i64 e)]) :
  ∃l j,x=l/\bi 8 hh l=some j/\qt j (lB a b q):=by
 subst u;subst v;exact⟨_,_,rfl,by have h:=yP b (hh.drop 4) (.str (bs a)) (.int .i64 e);rw[<-i,ja]at h;exact h,pk⟩
def s8{b b'}{hh}{x}{q}{w}(a)(j:q=.ok (b',w))(e:hh.take 4=B4 b')(u:x=.tuple [bA b',.p (.str (bs w)),.p (.int .i64 0)]) :
  ∃l i,x=l/\bi 8 hh l=some i/\qt i (lB a b q):=by
 have:=rU (b:=b) j e u;subst j;exact this
def Vv(s)(b)(n)(O:SOk s)(L:BkOk s b n)(text) :
  aw TP 115 [.p s.pv,bA b,.p (bp (.test text)).pv] (B4 b) (λr h'=>r=.ret (.p (mb b (aH s b (.test text))))/\h'=List.replicate 4 .dead):=by
 have S:=L.tests;refine lL ?_;refine au (dv (by kernel_rfl) rfl Z2) rfl ?_;simp only[bp,Said.pv,aN,Zu,go_sem,simprocAttr];refine aa (S9 s.hour text) rfl ?_;by_cases j:(aI s.hour text).2=0;rotate_left
 .have D:((aI s.hour text).2==0)=false:=by simpa using j
  have C:((aI s.hour text).2 != 0)=true:=by simpa using j
  simp only[D,C,HrTest.pv,go_sem,simprocAttr];exact jn (aI s.hour text).2 (by simp only[aH,if_pos j]) rfl rfl
 obtain⟨K,T⟩:=Cp j;simp only[j,HrTest.pv,go_sem,simprocAttr];cases J:((b.tests.length:Int)==8)
 rotate_left
 .have F:¬b.tests.length<8:=by simp at J;omega
  refine zm ?_;exact jn 3 (by simp only[aH,if_neg (not_not_intro j),if_pos F]) rfl rfl
 have E:¬¬b.tests.length<8:=by simp at J;omega
 have z:b.tests.length+1<=ai:=by simp only[ai];omega
 have e:aH s b (.test text)=.ok ({ b with tests:=b.tests++[(aI s.hour text).1] },
   if(cf s.hour (aI s.hour text).1).2=0 then joinL [aX (cf s.hour (aI s.hour text).1).1.lo,aX (cf s.hour (aI s.hour text).1).1.hi]
   else joinL (A2::(ia s.hour (aI s.hour text).1).1.map aX)):=by simp only[aH,if_neg (not_not_intro j),if_neg E]
 refine zn z ?_;refine aa (Ta s.hour (aI s.hour text).1) rfl ?_;obtain⟨N,G⟩:=Py (s:=s.hour) K;have i:0<=(cf s.hour (aI s.hour text).1).1.lo/\(cf s.hour (aI s.hour text).1).1.lo<1000000000/\0<=(cf s.hour (aI s.hour text).1).1.hi/\(cf s.hour (aI s.hour text).1).1.hi<1000000000:=by
  have:=pq (eY K).1;unfold cf;split
  .split
   .dsimp only;omega
   .dsimp only;omega
  .dsimp only;omega
 have u:=Wd s.hour (aI s.hour text).1;by_cases y:(cf s.hour (aI s.hour text).1).2=0
 .rw[if_pos y]at e;simp only[y,Span.pv,aD,go_sem,simprocAttr];generalize (cf s.hour (aI s.hour text).1).1=R at *
  refine aj (js i.1 i.2.1) rfl (zm ?_);have hh:∀m,m∈[R.hi]->0<=m/\m<1000000000:=λm I=>by rw[dW]at I;subst I;exact i.2.2
  refine aj (mf [R.hi] true (by simp) hh) rfl ?_;have v:=ny [R.hi] hh;have M:=j8 i.1 i.2.1;have q:(bs (aX R.lo)).size+(bs (ea [R.hi])).size<=aM:=by simp[al,aM]at v |-;omega
  refine zn q ?_;exact rU (w:=joinL [aX R.lo,aX R.hi]) e (by simp[B4,er,HrTest.pv]) (by simp[bA,ea,joinL,cc])
 .rw[if_neg y]at e;have A:((cf s.hour (aI s.hour text).1).2==0)=false:=by simpa using y
  simp only[A,Span.pv,go_sem,simprocAttr];refine aa u rfl ?_;simp only[fi,aD,go_sem,simprocAttr];generalize (ia s.hour (aI s.hour text).1).1=l at *
  refine aj (mf l false (by omega) G) rfl ?_;have v:=ny l G;have q:3+(bs (ea l)).size<=aM:=by simp only[al,aM];omega
  refine zn q ?_;exact rU (w:=joinL (A2::l.map aX)) e (by simp[B4,er,HrTest.pv]) (by simp[bA,sI];exact cc A2 (ea l))
def yq{s}{l}{k}(h:(aY s l k).2≠0):(aY s l k).1=0:=by
 unfold aY at h |-;split at h
 .exact absurd rfl h
 .rename_i e;rw[if_neg e]
def FF(b)(t)(v w):ib (B4 b++t) [.p v,.slice 2 b.tests.length 0 b.tests.length,.p w]=some [v,.slice 3 (b.tests.map HrTest.pv) false,w]:=by
 have e:∀n h (l:List HrTest),aE (bi n h) (l.map er)=some (l.map HrTest.pv):=λn h l=>aW (bH n h) HrTest.pv l;simp[e,go_sem]
def X4(s)(b)(n)(I:SOk s)(J:BkOk s b n)(kind)(hours) :
  aw TP 116 [.p s.pv,bA b,.p (bp (.box kind hours)).pv] (B4 b) (λr h'=>r=.ret (.p (jJ s b (.box kind hours)))/\h'=List.replicate 4 .dead):=by
 have L:=J.boxes;refine lL ?_;refine au (dv (by kernel_rfl) rfl Ub) rfl ?_;simp only[bp,Said.pv,aN,TX,aD,go_sem,simprocAttr];refine aj (FU s kind I.kinds) rfl (zm ?_);unfold jJ;have K:Ei s b (.box kind hours)=if an (λx:HrKind=>x.name==bs kind) s.hour.kinds 0<0 then [] else if(aY s.hour b.tests (an (λx:HrKind=>x.name==bs kind) s.hour.kinds 0)).2≠0 then aX 0 else []:=rfl
 rw[K];generalize q:an (λx:HrKind=>x.name==bs kind) s.hour.kinds 0=k at *
 cases G:decide (k<0);rotate_left
 .have e:k<0:=by simpa using G
  rw[if_pos e];refine zm ?_;exact uy [] 4 (by simp only[aH,ej,q,if_pos e]) rfl rfl
 have e:¬k<0:=by simpa using G
 rw[if_neg e];refine zm ?_;refine bq (u4 s.hour b.tests k) (FF b [_,_,_,_] _ _) (.tuple (Flat.cons (.int _ _) (Flat.cons (.int _ _) Flat.nil))) ?_;by_cases i:(aY s.hour b.tests k).2=0;rotate_left
 .have D:((aY s.hour b.tests k).2 != 0)=true:=by simpa using i
  rw[if_pos i];have C:=yq i;refine zp D C @aD ?_;refine aj (js (n:=0) (by omega) (by omega)) rfl (zm ?_);exact uy (aX 0) (aY s.hour b.tests k).2 (by simp only[aH,ej,q,if_neg e,if_pos i]) rfl rfl
 rw[if_neg (not_not_intro i)];have j:ej s b kind=.ok (k,(aY s.hour b.tests k).1):=by simp only[ej,q,if_neg e,if_neg (not_not_intro i)]
 have v:(bs kn==(⟨#[112,114,111,109,105,115,101]⟩:ByteArray))=false:=rfl;refine zo i v ?_;generalize (aY s.hour b.tests k).1=m at *
 cases F:decide (m<hours);rotate_left
 .have A:¬hours<=m:=by simpa using F
  refine zm ?_;exact uy [] 9 (by simp only[aH,j,if_pos A]) rfl rfl
 have l:¬¬hours<=m:=by simp at F;omega
 refine zm ?_;cases E:((b.boxes.length:Int)==20)
 rotate_left
 .have z:¬b.boxes.length<20:=by simp at E;omega
  refine zm ?_;exact uy [] 3 (by simp only[aH,j,if_neg l,if_pos z]) rfl rfl
 have y:¬¬b.boxes.length<20:=by simp at E;omega
 have u:b.boxes.length+1<=ai:=by simp only[ai];omega
 refine zo u @aD ?_;exact s8 (b':={ b with boxes:=b.boxes++[⟨k,hours⟩] }) (w:=vg) [] (by simp only[aH,j,if_neg l,if_neg y]) (by simp[B4,jK,HrBox.pv]) (by simp[bA];rfl)
def Nu(s)(b)(n)(A:SOk s)(E:BkOk s b n)(kind) :
  aw TP 116 [.p s.pv,bA b,.p (bp (.promise kind)).pv] (B4 b) (λr h'=>r=.ret (.p (jJ s b (.promise kind)))/\h'=List.replicate 4 .dead):=by
 refine lL ?_;refine au (dv (by kernel_rfl) rfl Ub) rfl ?_;simp only[bp,Said.pv,aN,TX,aD,go_sem,simprocAttr];refine aj (FU s kind A.kinds) rfl (zm ?_);unfold jJ;have C:Ei s b (.promise kind)=if an (λx:HrKind=>x.name==bs kind) s.hour.kinds 0<0 then [] else if(aY s.hour b.tests (an (λx:HrKind=>x.name==bs kind) s.hour.kinds 0)).2≠0 then aX 0 else []:=rfl
 rw[C];generalize j:an (λx:HrKind=>x.name==bs kind) s.hour.kinds 0=k at *
 cases y:decide (k<0);rotate_left
 .have e:k<0:=by simpa using y
  rw[if_pos e];refine zm ?_;exact uy [] 4 (by simp only[aH,ej,j,if_pos e]) rfl rfl
 have e:¬k<0:=by simpa using y
 rw[if_neg e];refine zm ?_;refine bq (u4 s.hour b.tests k) (FF b [_,_,_,_] _ _) (.tuple (Flat.cons (.int _ _) (Flat.cons (.int _ _) Flat.nil))) ?_;by_cases i:(aY s.hour b.tests k).2=0;rotate_left
 .have v:((aY s.hour b.tests k).2 != 0)=true:=by simpa using i
  rw[if_pos i];have u:=yq i;refine zp v u @aD ?_;refine aj (js (n:=0) (by omega) (by omega)) rfl (zm ?_);exact uy (aX 0) (aY s.hour b.tests k).2 (by simp only[aH,ej,j,if_neg e,if_pos i]) rfl rfl
 rw[if_neg (not_not_intro i)];have l:ej s b kind=.ok (k,(aY s.hour b.tests k).1):=by simp only[ej,j,if_neg e,if_neg (not_not_intro i)]
 obtain⟨z,D⟩:=xG i;have q:(bs fj==(⟨#[112,114,111,109,105,115,101]⟩:ByteArray))=true:=rfl;refine zp i q @aD ?_;refine aj (js z (by omega)) rfl (zm ?_);exact s8 (w:=aX (aY s.hour b.tests k).1) [] (by simp only[aH,l]) rfl rfl
end Ch
end Abs
end Go.Proofs.YtgafommgcfhkkaaGreatDoor
