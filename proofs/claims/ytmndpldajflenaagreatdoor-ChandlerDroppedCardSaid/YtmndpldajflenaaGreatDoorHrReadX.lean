/- CONTRACTS of the program's functions, and laws on what they return. No conditions but those in the theorems' heads. -/
import Derived.Test.YtmndpldajflenaaGreatDoorHrUseX
set_option linter.all false
set_option maxHeartbeats 4000000
open Go.Proofs.Tryz renaming prog->TP
namespace Go.Proofs.YtmndpldajflenaaGreatDoor
namespace Abs
set_option maxRecDepth 4000
def du (p:List UInt8):Option HrMark:=
 match (aH 32 p).2 with
 |none=>none
 |some b=>match jf (aH 32 p).1 with
  |none=>none
  |some m=>match jf b with
   |none=>none
   |some w=>some ⟨m,w⟩
def ec:List HrMark->List (List UInt8)->Option (List HrMark)
 |acc,[]=>some acc
 |acc,p::r=>match du p with
  |none=>none
  |some m=>ec (acc++[m]) r
def oG (all:List UInt8):List (List UInt8):=aM 32 (aH 10 all).1
def sY (all:List UInt8):List UInt8:=oe 10 ((aH 10 all).2.getD [])
def pY (l:List HrKind) (nm:ByteArray):Int:=aq (λk=>k.name==nm) l 0
def mO (s:HrShop) (all:List UInt8):Option HrTest:=
 match oG all with
 |[_,w1,w2]=>match jf w2 with
  |none=>none
  |some e=>(ec [] (aM 10 (sY all))).map λms=>⟨pY s.kinds (bs w1),e,ms⟩
 |_=>none
def dc:HrTest:=⟨0,0,[]⟩
def m8 (s:HrShop) (all:List UInt8) (t:HrTest):Bool:=(bQ s.kinds.length t==0)&&(jk s t==all)
def aN (s:HrShop) (all:List UInt8):HrTest×Int:=
 if bX s []=0 then
  if 300<all.length then(dc,3)
  else match mO s all with
   |none=>(dc,6)
   |some t=>if m8 s all t=true then(t,0) else(dc,6)
 else(dc,bX s [])
theorem pc:∀(a) (e) (b),ec e (a++b)=(ec e a).bind λi=>ec i b
 |[],_,_=>rfl
 |p::r,e,b=>by
  rw[hZ,ec,ec]
  cases du p with
  |none=>rfl
  |some m=>exact pc r _ b
theorem pE:∀(a) (e i),ec e a=some i->i.length=e.length+a.length
 |[],_,_,h=>by cases h;rfl
 |p::r,e,i,h=>by
  rw[ec]at h
  cases j:du p with
  |none=>rw[j]at h;cases h
  |some m=>
   rw[j]at h;have:=pE r _ _ h;simp at this |-;omega
theorem A9(c):∀(l p),p∈aM c l->p.length<=l.length:=by
 intro l;generalize o:l.length=n
 induction n using Nat.strongRecOn generalizing l with
 |ind n i=>
  intro p a
  cases e:(aH c l).2 with
  |none=>
   rw[lI e,dT]at a
   subst a;omega
  |some r=>
   rw[lH e,ce]at a;have j:=tF c l r e;rcases a with rfl|a
   .rcases ll c l with⟨h,_⟩|⟨_,_,_,h⟩
    .rw[h]at e;cases e
    .have:=congrArg List.length h;simp at this;omega
   .have:=i r.length (by omega) r rfl p a;omega
theorem J0(c)(l):(oe c l).length<=l.length:=by
 unfold oe;split
 .simp
 .exact ba _
theorem qI(c)(l):((aH c l).2.getD []).length<=l.length:=by
 cases a:(aH c l).2 with
 |none=>simp
 |some r=>have:=tF c l r a;simp;omega
theorem pj(c)(l):(aH c l).1.length<=l.length:=by
 rcases ll c l with⟨_,h,_⟩|⟨r,_,_,h⟩
 .rw[h];exact ba _
 .have:=congrArg List.length h;simp at this;omega
def lV:PV:=.agg [.int .i64 0,.int .i64 0,.nilslice]
theorem SD{i j}{a b c}{o}{h}(hi:h[i]?=some (.row 3 [.p (.agg [a,b,c])]))(q:h[j]?=some (.row 1 [.p (.int .i64 o)]))(l:i≠j) :
  jr TP 333 [.ptr i 1 0 0,.ptr j 1 0 0] (.pan gJ) h
  (λr u h'=>r=.ret (.p (.tuple []))/\u=.recd gJ/\h'=(h.set i (.row 3 [.p lV])).set j (.row 1 [.p (.int .i64 6)])):=by
 refine fJ (eI (by kernel_rfl) rfl Ix) rfl ?_;have e:=(aB.1 hi).1;have y:∀x,(h.set i x)[i]?=some x:=λx=>fZ e;have v:∀x,(h.set i x)[j]?=some (.row 1 [.p (.int .i64 o)]):=λx=>by rw[db l];exact q
 simp only[mM,ik,hi,gJ,y,v,Oz,aO,lV,bt,go_sem,simprocAttr]
theorem rG{rs}{R}{T}{i j}{a b c}{q}{h}(hi:h[i]?=some (.row 3 [.p (.agg [a,b,c])]))(o:h[j]?=some (.row 1 [.p (.int .i64 q)]))(e:i≠j)
  (k:ca TP rs R T [] .ret ((h.set i (.row 3 [.p lV])).set j (.row 1 [.p (.int .i64 6)]))) :
  ca TP rs R T [.fn 333 [.ptr i 1 0 0,.ptr j 1 0 0]] (.pan gJ) h:=by
 rw[jU];refine(SD hi o e).mono λr u h' l=>?_;obtain⟨rfl,rfl,rfl⟩:=l;exact k
theorem SE{i j}{a b}{q n}{o}{h}(hi:h[i]?=some (.row 3 [.agg [.p a,.p b,.slice q n 0 n]]))(v:h[j]?=some (.row 1 [.p (.int .i64 o)]))(l:i≠j) :
  jr TP 333 [.ptr i 1 0 0,.ptr j 1 0 0] (.pan gJ) h
  (λr u h'=>r=.ret (.p (.tuple []))/\u=.recd gJ/\h'=(h.set i (.row 3 [.p lV])).set j (.row 1 [.p (.int .i64 6)])):=by
 refine fJ (eI (by kernel_rfl) rfl Ix) rfl ?_;have e:=(aB.1 hi).1;have z:∀x,(h.set i x)[i]?=some x:=λx=>fZ e;have y:∀x,(h.set i x)[j]?=some (.row 1 [.p (.int .i64 o)]):=λx=>by rw[db l];exact v
 simp only[mM,ik,hi,gJ,z,y,Oz,aO,lV,bt,go_sem,simprocAttr]
theorem rH{rs}{R}{T}{i j}{a b}{q n}{v}{h}(hi:h[i]?=some (.row 3 [.agg [.p a,.p b,.slice q n 0 n]]))(o:h[j]?=some (.row 1 [.p (.int .i64 v)]))(e:i≠j)
  (k:ca TP rs R T [] .ret ((h.set i (.row 3 [.p lV])).set j (.row 1 [.p (.int .i64 6)]))) :
  ca TP rs R T [.fn 333 [.ptr i 1 0 0,.ptr j 1 0 0]] (.pan gJ) h:=by
 rw[jU];refine(SE hi o e).mono λr u h' l=>?_;obtain⟨rfl,rfl,rfl⟩:=l;exact k
theorem P3{i j}{h}:jr TP 333 [.ptr i 1 0 0,.ptr j 1 0 0] .ret h (λr u h'=>r=.ret (.p (.tuple []))/\u=.ret/\h'=h):=by
 refine fJ (eI (by kernel_rfl) rfl Ix) rfl ?_;simp only[mM,ik,go_sem,simprocAttr]
theorem D7{rs}{R}{T}{i j}{h}(k:ca TP rs R T [] .ret h):ca TP rs R T [.fn 333 [.ptr i 1 0 0,.ptr j 1 0 0]] .ret h:=by
 rw[jU];refine P3.mono λr u h' a=>?_;obtain⟨rfl,rfl,rfl⟩:=a;exact k
theorem UE(k:HrKind)(i a e):af TP 336 [k.pv,.ptr 1 [bF [i,a,e]] 0 0] (.bool (k.name==bs a)):=by
 refine aa (ag Tryz.func336 rfl) rfl ?_;simp only[bF,bK,go_sem,simprocAttr]
def dl (t:HrTest):PV:=.agg [.int .i64 t.kind,.int .i64 t.error,match t.marks with|[]=>.nilslice|m::ms=>.slice 2 ((m::ms).map HrMark.pv) false]
def wU (k e:Int) (ms:List HrMark):AObj:=match ms with|[]=>.row 3 [.p (.agg [.int .i64 k,.int .i64 e,.nilslice])]|m::r=>.row 3 [.agg [.p (.int .i64 k),.p (.int .i64 e),.slice 9 (m::r).length 0 (m::r).length]]
def tf (ms:List HrMark):Heap:=match ms with|[]=>[]|m::r=>[.row 2 ((m::r).map eO)]
def j4 (s:HrShop) (ws:List (List UInt8)) (k e:Int) (d o:AObj) (x:List UInt8) (ms:List HrMark):Heap:=
 [.row 3 [.p s.pv],wU k e ms,.row 1 [.p (.int .i64 0)],.row 1 [.p (bF ws)],.row 1 [.p (.str (bs x))],.row 1 [.p (.str (bs [10]))],.row 1 [.p (.int .i64 0)],d,o]++tf ms
theorem Hy(s)(all):af TP 272 [s.pv,.str (bs all)] (.tuple [dl (aN s all).1,.int .i64 (aN s all).2]):=by
 refine dd (eI (by kernel_rfl) rfl T4) rfl ?_;simp only[go_sem,simprocAttr];refine ae (af.argless (args':=[s.pv,.nilslice]) (nV s [] false (by simp)) ⟨.inl rfl,.inr ⟨rfl,3,rfl⟩,trivial⟩) rfl ?_;simp only[go_sem,simprocAttr];have b7:bX s []=(hrCheck s).2.2:=by
  unfold bX;split
  .rename_i h;rw[h];rfl
  .rfl
 cases h0:(bX s [] != 0)
 rotate_left
 .have J:¬bX s []=0:=by simpa using h0
  have u:aN s all=(dc,bX s []):=by rw[aN,if_neg J]
  rw[u];simp only[vn,aO,dl,dc,go_sem,simprocAttr]
 have J:bX s []=0:=by simpa using h0
 have a8:(hrCheck s).2.2=0:=by rw[<-b7,J]
 have c5:=lZ a8;have b3:((bs all).size:Int)=(all.length:Int):=by rw[aj]
 simp only[b3,go_sem,simprocAttr];cases h3:decide ((300:Int)<(all.length:Int));rotate_left
 .have a1:300<all.length:=by simp at h3;omega
  have u:aN s all=(dc,3):=by rw[aN,if_pos J,if_pos a1]
  rw[u];simp only[dl,dc,J,go_sem,simprocAttr]
 have a1:¬300<all.length:=by simp at h3;omega
 have u:aN s all=(match mO s all with|none=>(dc,6)|some t=>if m8 s all t=true then(t,0) else(dc,6)):=by rw[aN,if_pos J,if_neg a1]
 rw[u];have a3:(⟨#[10]⟩:ByteArray)=bs [10]:=rfl;have a2:(⟨#[32]⟩:ByteArray)=bs [32]:=rfl;simp only[a3,J,go_sem,simprocAttr];refine ae (sj all 10 (by omega)) rfl ?_;simp only[a2,go_sem,simprocAttr];have c2:=pj 10 all;refine ae (BS (aH 10 all).1 32 (by omega)) rfl ?_;have a4:aM 32 (aH 10 all).1=oG all:=rfl;rw[a4];simp only[bF,go_sem,simprocAttr];refine n7 (λC=>?_) (λC=>?_);rotate_left
 .have b5:mO s all=none:=by
   unfold mO;split
   .rename_i M G I hw;rw[hw]at C;cases C
   .rfl
  rw[b5];simp only[go_sem,simprocAttr];refine rG rfl rfl (by decide) ?_;simp only[lV,dl,dc,go_sem,simprocAttr]
 obtain⟨M,G,I,hw⟩:∃M G I,oG all=[M,G,I]:=by
  have c4:((oG all).length:Int)=3:=by simpa using C
  have hl:(oG all).length=3:=by omega
  match h:oG all,hl with
  |[a,b,c],_=>exact⟨a,b,c,rfl⟩
 have b2:mO s all=(match jf I with|none=>none|some e=>(ec [] (aM 10 (sY all))).map λi=>⟨pY s.kinds (bs G),e,i⟩):=by
  rw[mO,hw]
 rw[b2,hw];simp only[bK,cf,go_sem,simprocAttr];refine aU (oz (fv:=.func (.func 336) [] [.ptr 1 [bF [M,G,I]] 0 0]) s.kinds (λk=>k.name==bs G) false 4 rfl (by omega) λk _=>⟨_,_,_,rfl,UE k M G I⟩) ?_ (.int _ _) ?_
 .simp only[bF,bK,cf,go_sem,simprocAttr]
 have b9:aq (λk=>k.name==bs G) s.kinds 0=pY s.kinds (bs G):=rfl;rw[b9];have c3:I.length<=all.length:=iI (A9 32 (aH 10 all).1 I (by rw[a4,hw];simp)) c2;simp only[go_sem,simprocAttr]
 cases a6:jf I with
 |none=>
  refine cj (m7 (by omega) a6 _) (λv h N=>by cases N.1) (λv h N=>?_);obtain⟨N,rfl⟩:=N;cases N;simp only[go_sem,simprocAttr];refine rG rfl rfl (by decide) ?_
  simp only[lV,dl,dc,go_sem,simprocAttr]
 |some e=>
  refine ae (sk (by omega) a6) rfl ?_;simp only[a3,go_sem,simprocAttr];refine ae (Gf ((aH 10 all).2.getD []) 10 (by have:=qI 10 all;omega)) rfl ?_;have a5:oe 10 ((aH 10 all).2.getD [])=sY all:=rfl;rw[a5];have b4:(sY all).length<=300:=by
   have h1:=qI 10 all;have h2:=J0 10 ((aH 10 all).2.getD []);rw[a5]at h2;omega
  generalize pY s.kinds (bs G)=L;generalize sY all=rest at b4;simp only[a3,go_sem,simprocAttr];refine cq (La rest 10 _) ?_;simp only[go_sem,simprocAttr];have b0:∀x i o,(j4 s [M,G,I] L e .dblock o x i)[8]?=some o:=λx i o=>by cases i<;>rfl
  refine Fi (f:=399) (args:=[.ref .yl 8,.ptr 5 1 0 0,.ptr 4 1 0 0,.ptr 6 1 0 0])
   (R:=λr h=>(r=.ret (.p (.tuple []))/\∃x i o,ec [] (aM 10 rest)=some i/\h=j4 s [M,G,I] L e .dblock o x i)\/∃v,r=.panic v/\v=gJ/\ec [] (aM 10 rest)=none/\∃x i o,h=j4 s [M,G,I] L e .dblock o x i)
   rfl (by simp only[go_sem,simprocAttr]) dh (by kernel_rfl) (by kernel_rfl) (by kernel_rfl) (λoR oB oD F=>?_) (λv h N=>?_)
  rotate_left
  .rcases N with⟨N,_⟩|⟨v',N,rfl,K,x,i,o,rfl⟩
   .cases N
   cases N;rw[K]
   cases i with
   |nil=>
    simp only[j4,wU,tf,bN,go_sem,simprocAttr];refine rG rfl rfl (by decide) ?_
    simp only[lV,dl,dc,go_sem,simprocAttr]
   |cons m i=>
    simp only[j4,wU,tf,bN,go_sem,simprocAttr];refine rH rfl rfl (by decide) ?_;simp only[lV,dl,dc,go_sem,simprocAttr]
  refine(Se rest 10 (by omega) 8 4 5 6 _ (λq x h=>∃i,ec [] q=some i/\h=j4 s [M,G,I] L e .dblock oR x i) (λq x h=>∃i,ec [] q=some i/\h=j4 s [M,G,I] L e .dblock oR x i)
   (λv h=>v=gJ/\ec [] (aM 10 rest)=none/\∃x i o,h=j4 s [M,G,I] L e .dblock o x i) ?_ ?_ ?_ ?_ ?_).mono ?_
  .rintro q x h ⟨i,_,rfl⟩
   cases i<;>exact⟨rfl,rfl,rfl⟩
  .rintro q x h ⟨i,_,rfl⟩
   cases i<;>exact⟨rfl,rfl,rfl⟩
  .rintro q x h u ⟨i,A,rfl⟩
   have b6:(aH 10 x).1.length<=300:=by
    have:=A9 10 rest (aH 10 x).1 (by rw[u,ck,lg];exact .inr (by simp));omega
   obtain⟨O,U⟩:∃O,aM 10 x=(aH 10 x).1::O:=⟨_,lg 10 x⟩
   rw[U]at u;generalize (aH 10 x).1=p at b6 U u;have j:ec [] (aM 10 rest)=(match du p with|none=>none|some m=>ec (i++[m]) O):=by
    rw[u,pc,A,n9,ec]
   have S:∀m,du p=some m->ec [] (q++[p])=some (i++[m]):=λm hm=>by
    rw[pc,A,n9,ec,hm];rfl
   have c6:=pj 32 p;have a9:=qI 32 p;refine F _ _ _ rfl (b0 _ _ _) ?_;clear F;have a7:i.length<=301:=by
    have h1:=pE _ _ _ A;have h2:=rg 10 rest;have h3:=congrArg List.length u;simp at h1 h3;omega
   cases i with
   |nil=>
    have Y:(1:Nat)<=ao:=by simp[ao]
    simp only[j4,wU,tf,a2,go_sem,simprocAttr];refine ae (sj p 32 (by omega)) rfl ?_;simp only[go_sem,simprocAttr];refine n7 (λC=>?_) (λC=>?_);rotate_left
    .have l:du p=none:=by
      unfold du
      cases hq:(aH 32 p).2 with
      |none=>rfl
      |some b=>rw[hq]at C;cases C
     rw[l]at j;simp only[go_sem,simprocAttr];exact⟨rfl,_,rfl,rfl,j,x,[],oB,rfl⟩
    obtain⟨b,E⟩:=fp.1 C;rw[E,fT]at a9 |-;simp only[vn,aO,go_sem,simprocAttr]
    cases z:jf (aH 32 p).1 with
    |none=>
     have l:du p=none:=by simp only[du,E,z]
     rw[l]at j;refine rA (m7 (by omega) z _) λT=>?_;simp only[go_sem,simprocAttr]
     exact⟨rfl,_,rfl,rfl,j,x,[],oB,rfl⟩
    |some a=>
     refine n8 (sk (by omega) z) rfl ?_;simp only[vn,go_sem,simprocAttr]
     cases D:jf b with
     |none=>
      have l:du p=none:=by simp only[du,E,z,D]
      rw[l]at j;refine rA (m7 (by omega) D _) λT=>?_;simp only[go_sem,simprocAttr]
      exact⟨rfl,_,rfl,rfl,j,x,[],oB,rfl⟩
     |some w=>
      have l:du p=some ⟨a,w⟩:=by simp only[du,E,z,D]
      have Z:=S _ l;refine n8 (sk (by omega) D) rfl ?_;simp only[vn,Y,aV,go_sem,simprocAttr]
      exact⟨rfl,.inl ⟨_,Z,rfl⟩⟩
   |cons m0 i=>
    simp only[dB]at a7;have Y:i.length+1+1<=ao:=by simp[ao];omega
    simp only[j4,wU,tf,a2,go_sem,simprocAttr];refine ae (sj p 32 (by omega)) rfl ?_;simp only[go_sem,simprocAttr];refine n7 (λC=>?_) (λC=>?_);rotate_left
    .have l:du p=none:=by
      unfold du
      cases hq:(aH 32 p).2 with
      |none=>rfl
      |some b=>rw[hq]at C;cases C
     rw[l]at j;simp only[go_sem,simprocAttr];exact⟨rfl,_,rfl,rfl,j,x,m0::i,oB,rfl⟩
    obtain⟨b,E⟩:=fp.1 C;rw[E,fT]at a9 |-;simp only[vn,aO,go_sem,simprocAttr]
    cases z:jf (aH 32 p).1 with
    |none=>
     have l:du p=none:=by simp only[du,E,z]
     rw[l]at j;refine rA (m7 (by omega) z _) λT=>?_;simp only[go_sem,simprocAttr]
     exact⟨rfl,_,rfl,rfl,j,x,m0::i,oB,rfl⟩
    |some a=>
     refine n8 (sk (by omega) z) rfl ?_;simp only[vn,go_sem,simprocAttr]
     cases D:jf b with
     |none=>
      have l:du p=none:=by simp only[du,E,z,D]
      rw[l]at j;refine rA (m7 (by omega) D _) λT=>?_;simp only[go_sem,simprocAttr]
      exact⟨rfl,_,rfl,rfl,j,x,m0::i,oB,rfl⟩
     |some w=>
      have l:du p=some ⟨a,w⟩:=by simp only[du,E,z,D]
      have Z:=S _ l;refine n8 (sk (by omega) D) rfl ?_;simp only[vn,Y,aV,go_sem,simprocAttr];refine⟨rfl,.inl ⟨_,Z,?_⟩⟩;simp[j4,wU,tf,HrMark.pv,eO,HrShop.pv]
  .rintro q x y h ⟨i,A,rfl⟩ hc
   refine⟨i,A,?_⟩;cases i<;>rfl
  .exact⟨[],rfl,rfl⟩
  .rintro r h (⟨rfl,x,hx,i,A,rfl⟩|⟨v,rfl,rfl,K,hh⟩)
   rotate_left
   .exact⟨.inr ⟨_,rfl,rfl,K,hh⟩,λv hv=>by cases hv⟩
   refine⟨.inl ⟨rfl,x,i,oR,A,rfl⟩,λv hv=>.inl ⟨b0 _ _ _,?_⟩⟩;rw[A];clear F;have a7:i.length<=301:=by
    have h1:=pE _ _ _ A;have h2:=rg 10 rest;simp at h1;omega
   have b8:i≠[]:=by
    rintro rfl
    have h1:=pE _ _ _ A;have h2:=mH 10 rest;simp at h1;omega
   cases i with
   |nil=>exact absurd rfl b8
   |cons m0 i=>
   have a0:∀n h,aQ (bV n h) (i.map eO)=some (i.map HrMark.pv):=λn h=>dC (eE n h) HrMark.pv i;have V:List.take (i.length+1) (.agg [.int .i64 m0.minute,.int .i64 m0.weight]::List.map HrMark.pv i)=.agg [.int .i64 m0.minute,.int .i64 m0.weight]::List.map HrMark.pv i:=fC (by simp);simp only[j4,wU,tf,go_sem,simprocAttr];refine aU (BV s ⟨L,e,m0::i⟩ (by omega)) ?_ (.int _ _) ?_
   .simp only[a0,V,go_sem,simprocAttr]
   simp only[go_sem,simprocAttr];cases X:(bQ s.kinds.length ⟨L,e,m0::i⟩==0)
   .have hg:m8 s all ⟨L,e,m0::i⟩=false:=by rw[m8,X];rfl
    simp only[go_sem,simprocAttr];refine n7 (λC=>by cases C) (λ_=>?_);simp only[bN,go_sem,simprocAttr];refine rH rfl rfl (by decide) ?_;simp only[lV,dl,dc,hg,go_sem,simprocAttr]
   have b1:bQ s.kinds.length ⟨L,e,m0::i⟩=0:=by simpa using X
   simp only[go_sem,simprocAttr];refine aU (UB s ⟨L,e,m0::i⟩ a8 b1) ?_ (.str _) ?_
   .simp only[a0,V,go_sem,simprocAttr]
   simp only[dy,go_sem,simprocAttr];have hg:m8 s all ⟨L,e,m0::i⟩=(jk s ⟨L,e,m0::i⟩==all):=by rw[m8,X];rfl
   refine n7 (λC=>?_) (λC=>?_)
   .rw[C]at hg;simp only[bN,go_sem,simprocAttr];refine D7 ?_;simp only[a0,V,dl,hg,go_sem,simprocAttr]
   .rw[C]at hg;simp only[bN,go_sem,simprocAttr];refine rH rfl rfl (by decide) ?_;simp only[lV,dl,dc,hg,go_sem,simprocAttr]
def DQ (l:List UInt8):Int:=if ak (l.length:Int) 1 8=true then(match Lib.decFrom 0 l with|some n=>(n:Int)|none=>-1) else -1
def zc (a b:HrTest):Bool:=(a.kind==b.kind)&&(a.error==b.error)&&decide (a.marks=b.marks)
theorem PU(a b):zc a b=true↔a=b:=by
 cases a;cases b;simp[zc,and_assoc]
theorem PE(x y:HrMark):((x.minute==y.minute)&&(x.weight==y.weight))=decide (x=y):=by
 cases x;cases y;rw[sD];simp
theorem S1(a b)(T:a.marks.length<1000000000):af TP 74 [a.pv,b.pv] (.bool (zc a b)):=by
 refine aa (ag Tryz.func74 rfl) rfl ?_;simp only[go_sem,simprocAttr];cases O:(a.kind != b.kind)
 rotate_left
 .have i:(a.kind==b.kind)=false:=by simpa[bne]using O
  simp only[zc,i,go_sem,simprocAttr]
 have i:(a.kind==b.kind)=true:=by simpa[bne]using O
 simp only[go_sem,simprocAttr];cases N:(a.error != b.error)
 rotate_left
 .have j:(a.error==b.error)=false:=by simpa[bne]using N
  simp only[zc,i,j,go_sem,simprocAttr]
 have j:(a.error==b.error)=true:=by simpa[bne]using N
 simp only[go_sem,simprocAttr];cases J:((a.marks.length:Int) != (b.marks.length:Int))
 rotate_left
 .have E:¬a.marks=b.marks:=by
   intro h;rw[h]at J;simp at J
  simp only[zc,i,j,E,decide_false,go_sem,simprocAttr]
 have E:a.marks.length=b.marks.length:=by
  have:((a.marks.length:Int))=(b.marks.length:Int):=by simpa using J
  omega
 have K:zc a b=decide (a.marks=b.marks):=by rw[zc,i,j];rfl
 rw[K];simp only[go_sem,simprocAttr]
 refine gL [2,3] (σ:=List HrMark×List HrMark×List HrMark) (λq=>a.marks=q.1++q.2.1/\b.marks=q.1++q.2.2) (λq=>q.2.1.length)
  (λq=>[(5,.p (.int .i64 q.1.length))]) (λ_=>[.row 3 [.p a.pv],.row 3 [.p b.pv]]) ([],a.marks,b.marks) ⟨rfl,rfl⟩ ?_ ?_
 .simp only[go_sem,simprocAttr]
 rintro⟨e,G,A⟩ ⟨o,l⟩
 dsimp only at o l;have v:=congrArg List.length o;have D:=congrArg List.length l;simp only[aL]at v D
 cases G with
 |nil=>
  have C:A=[]:=by
   have:A.length=0:=by simp at v;omega
   exact sK.1 this
  have u:¬((e.length:Int)<(a.marks.length:Int)):=by rw[o];simp
  have I:a.marks=b.marks:=by rw[o,l,C]
  have R:¬((e.length:Int)<(b.marks.length:Int)):=by rw[l,C];simp
  rw[show decide (a.marks=b.marks)=true by simpa using I]
  simp only[u,decide_false,go_sem,simprocAttr]
 |cons x G=>
  cases A with
  |nil=>simp at v D;omega
  |cons y A=>
   obtain⟨hx,u⟩:=eT o;obtain⟨S,F⟩:=eT l;have L:IntKind.i64.wrap ((e.length:Int)+1)=(((e++[x]).length:Nat):Int):=bk (by omega) (by simp[ao];omega) (by simp);simp only[u,decide_true,hx,S,F,PE,go_sem,simprocAttr];cases M:decide (x=y)
   .have z:¬x=y:=by simpa using M
    have I:¬a.marks=b.marks:=by
     rw[o,l];intro h;have:=List.append_cancel_left h;exact z (zM this).1
    rw[show decide (a.marks=b.marks)=false by simpa using I];simp only[go_sem,simprocAttr]
   .have z:x=y:=by simpa using M
    subst z;simp only[go_sem,simprocAttr];refine cc (e++[x],G,A) ⟨by rw[o];simp,by rw[l];simp⟩ (jJ _) ?_;simp only[L,go_sem,simprocAttr]
theorem af.arglessD{P}{f}{args args'}{v}(u:af P f args v)(h:zH args' args):af P f args' v:=by
 intro M0 w a y o j;obtain⟨l,z⟩:=h.get;refine u M0 w a y o ⟨by rw[j.1,l],λi c hi=>?_⟩;obtain⟨q,e⟩:∃q,args'[i]?=some q:=⟨_,bO (by rw[l];exact(aB.1 hi).1)⟩
 exact(z i q c e hi).rep (j.2 i q e)
theorem Pz(k e):PL (.agg [.int .i64 k,.int .i64 e,.nilslice]) (HrTest.pv ⟨k,e,[]⟩):=.aggL rfl ⟨.refl _,.refl _,.nil 2,trivial⟩
def mw (nm:ByteArray):List HrKind->Nat->Int->Int
 |[],_,acc=>acc
 |k::r,i,acc=>mw nm r (i+1) (if k.name==nm then(i:Int) else acc)
def x8 (s:HrShop) (first:Bool) (t:HrTest) (p:List UInt8):HrTest:=
 match first,aM 32 p with
 |true,[_,w1,w2]=>⟨mw (bs w1) s.kinds 0 t.kind,DQ w2,t.marks⟩
 |false,[w0,w1]=>⟨t.kind,t.error,t.marks++[⟨DQ w0,DQ w1⟩]⟩
 |_,_=>t
def vz (s:HrShop):Bool->HrTest->List (List UInt8)->HrTest
 |_,t,[]=>t
 |_,t,[_]=>t
 |f,t,p::q::r=>vz s false (x8 s f t p) (q::r)
def uy (s:HrShop) (all:List UInt8):HrTest:=vz s true ⟨-1,0,[]⟩ (aM 10 all)
def vM (s:HrShop) (all:List UInt8):HrTest×Int:=
 if(hrCheck s).2.2=0 then
  if 300<all.length then(dc,3) else if m8 s all (uy s all)=true then(uy s all,0) else(dc,6)
 else(dc,(hrCheck s).2.2)
end Abs
end Go.Proofs.YtmndpldajflenaaGreatDoor
