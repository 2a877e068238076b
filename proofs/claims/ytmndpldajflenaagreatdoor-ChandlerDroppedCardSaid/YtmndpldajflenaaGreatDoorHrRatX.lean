/- CONTRACTS of the program's functions, and laws on what they return. No conditions but those in the theorems' heads. -/
import Derived.Test.YtmndpldajflenaaGreatDoorHrChkX
import Derived.Shelf.LaysM
import Derived.Shelf.LaysC
import Derived.Shelf.Strconv.Itoa3
import Derived.Shelf.Strconv.AtoiAll
import Derived.Shelf.Strconv.ErrVarAll
import Derived.Shelf.Strings.Search3
import Derived.Shelf.Strings.Count
set_option linter.all false
set_option maxHeartbeats 2000000
open Go.Proofs.Tryz renaming prog->TP
open Go.Proofs.Tryz
namespace Go.Proofs.YtmndpldajflenaaGreatDoor
namespace Abs
set_option maxRecDepth 4000
def Frac.le (f g:Frac):Prop:=f.top*g.below<=g.top*f.below
theorem Frac.lt_iff(f g:Frac):f.lt g=true↔¬g.le f:=by
 simp only[Frac.lt,Frac.le,decide_eq_true_eq];omega
theorem Frac.lt_false(f g:Frac):f.lt g=false↔g.le f:=by
 simp only[Frac.lt,Frac.le,decide_eq_false_iff_not];omega
theorem Frac.le_refl(f:Frac):f.le f:=o9 _
theorem Frac.le_total(f g:Frac):f.le g\/g.le f:=by simp only[Frac.le];omega
theorem Frac.le_trans{f g h:Frac}(e:0<f.below)(a:0<g.below)(hh:0<h.below)(j:f.le g)(i:g.le h):f.le h:=by
 unfold Frac.le at *
 have q:f.top*g.below*h.below<=g.top*f.below*h.below:=wQ j (HX hh);have o:g.top*h.below*f.below<=h.top*g.below*f.below:=wQ i (HX e);have l:f.top*h.below*g.below<=h.top*f.below*g.below:=by
  have y:f.top*h.below*g.below=f.top*g.below*h.below:=by rw[uc,zP h.below,<-uc]
  have v:g.top*f.below*h.below=g.top*h.below*f.below:=by rw[uc,zP f.below,<-uc]
  have u:h.top*f.below*g.below=h.top*g.below*f.below:=by rw[uc,zP f.below,<-uc]
  omega
 exact Int.le_of_mul_le_mul_right l a
theorem Frac.le_int(f:Frac)(n):f.le ⟨n,1⟩↔f.top<=n*f.below:=by simp[Frac.le]
theorem Frac.int_le(f)(n):Frac.le ⟨n,1⟩ f↔n*f.below<=f.top:=by simp[Frac.le]
theorem Frac.down_le{f:Frac}(a:0<f.below)(n):n<=f.down↔n*f.below<=f.top:=zR a
theorem Frac.up_le{f:Frac}(e:0<f.below)(n):f.up<=n↔f.top<=n*f.below:=by
 unfold Frac.up;have:=zR (a:=-n) (b:=-f.top) e;rw[C5]at this;constructor
 .intro h;have:=this.1 (by omega);omega
 .intro h;have:=this.2 (by omega);omega
def FB (l:List (Frac×Frac)) (q:Frac×Frac):Prop:=
 ((∃p,p∈l/\p.1=q.1)/\∀p,p∈l->p.1.le q.1)/\((∃p,p∈l/\p.2=q.2)/\∀p,p∈l->q.2.le p.2)
theorem IJ{l}{q p}(u:∀x,x∈l->jq x)(E:FB l q)(i:jq q)(o:jq p):FB (l++[p]) (iz q p):=by
 have n1:q.1≠⟨0,0⟩:=λh=>by have:=i.2.2.1;rw[h]at this;exact absurd this (by decide)
 have C:q.2≠⟨0,0⟩:=λh=>by have:=i.2.2.2;rw[h]at this;exact absurd this (by decide)
 obtain⟨⟨⟨x,hx,ex⟩,A⟩,⟨y,D,F⟩,v⟩:=E;unfold iz iV iW;simp only[decide_eq_false n1,decide_eq_false C,l6];refine⟨?_,?_⟩
 .dsimp only;cases e:q.1.lt p.1
  .rw[Frac.lt_false]at e;refine⟨⟨x,by simp[hx],ex⟩,λz a=>?_⟩;rcases ck.1 a with a|a
   .exact A z a
   .rw[dT.1 a];exact e
  .have j:q.1.le p.1:=(Frac.le_total _ _).resolve_right (by rw[Frac.lt_iff]at e;exact e);refine⟨⟨p,by simp,rfl⟩,λz a=>?_⟩;rcases ck.1 a with a|a
   .exact Frac.le_trans (u z a).2.2.1 i.2.2.1 o.2.2.1 (A z a) j
   .rw[dT.1 a];exact Frac.le_refl _
 .dsimp only;cases e:p.2.lt q.2
  .rw[Frac.lt_false]at e;refine⟨⟨y,by simp[D],F⟩,λz a=>?_⟩;rcases ck.1 a with a|a
   .exact v z a
   .rw[dT.1 a];exact e
  .have j:p.2.le q.2:=(Frac.le_total _ _).resolve_right (by rw[Frac.lt_iff]at e;exact e);refine⟨⟨p,by simp,rfl⟩,λz a=>?_⟩;rcases ck.1 a with a|a
   .exact Frac.le_trans o.2.2.2 i.2.2.2 (u z a).2.2.2 j (v z a)
   .rw[dT.1 a];exact Frac.le_refl _
theorem y':∀(r l) (q),(∀x,x∈l++r->jq x)->FB l q->jq q->FB (l++r) (r.foldl iz q)
 |[],l,q,_,h,_=>by simpa using h
 |p::r,l,q,a,h,e=>by
  have i:=a p (by simp);have:=y' r (l++[p]) (iz q p) (by simpa using a) (IJ (λx hx=>a x (by simp[hx])) h e i) (xp (.inr e) i);simpa using this
theorem yi{t}(hok:TestOk t):FB (fc t) (ea t):=by
 have a:=l9 hok;have j:=DK hok.two;unfold ea
 cases l:fc t with
 |nil=>exact absurd l j
 |cons p r=>
  rw[l]at a;have i:=a p (by simp);have e:iz ir p=p:=by simp[iz,iV,iW,ir]
  rw[o8,e];have:=y' r [p] p (by simpa using a) ⟨⟨⟨p,by simp,rfl⟩,by simp[Frac.le_refl]⟩,⟨p,by simp,rfl⟩,by simp[Frac.le_refl]⟩ i;simpa using this
def ie (t:HrTest):Bool:=(dv t).2
theorem MT{t}(hok:TestOk t):ie t=true↔∀p,p∈fc t->∀q,q∈fc t->p.1.le q.2:=by
 have j:=yi hok;have o:=l9 hok;have l:=w8 hok;have e:ie t=true↔(ea t).1.le (ea t).2:=by
  rw[ie,dv];dsimp only;rw[C7,Frac.lt_false]
 rw[e];constructor
 .intro h p a q i;exact Frac.le_trans (o p a).2.2.1 l.2.2.2 (o q i).2.2.2 (Frac.le_trans (o p a).2.2.1 l.2.2.1 l.2.2.2 (j.1.2 p a) h) (j.2.2 q i)
 .intro h;obtain⟨⟨p,a,v⟩,_⟩:=j.1;obtain⟨⟨q,i,u⟩,_⟩:=j.2;rw[<-v,<-u];exact h p a q i
theorem uY:∀(l) (e),kf e l=false->(∀m,m∈l->e<m.minute)/\l.Pairwise λa b=>a.minute<b.minute
 |[],_,_=>⟨λ_ h=>(fD h).elim,.nil⟩
 |m::r,e,h=>by
  rw[kf,Mo]at h;have o:e<m.minute:=by simpa using h.1
  have ⟨i,j⟩:=uY r m.minute h.2;refine⟨λx hx=>?_,.cons i j⟩;rcases ce.1 hx with rfl|hx
  .exact o
  .have:=i x hx;omega
theorem gn{e}{t}(h:bQ e t=0):TestOk t/\0<=t.kind/\t.kind<e:=by
 unfold bQ at h;split at h
 .rename_i u;split at h
  .rename_i q;split at h
   .rename_i o;split at h
    .rename_i i;split at h
     .cases h
     .rename_i l;simp[ak]at u q o;have a:=uY _ _ (sE.2 l);rw[kC]at i;refine⟨⟨⟨by omega,λm j=>?_,by omega⟩,by omega,a.2⟩,by omega,by omega⟩;have:=i m j;simp[mT,ak]at this;omega
    .cases h
   .cases h
  .cases h
 .cases h
theorem GY{s}{t}(h:bX s [t]=0):(hrCheck s).2.2=0/\bQ s.kinds.length t=0:=by
 unfold bX at h;split at h
 .rename_i a;refine⟨a,?_⟩;simp only[cL]at h;split at h<;>assumption
 .contradiction
def dH (s:HrShop) (t:HrTest):Span×Int:=if bX s [t]=0 then(if ie t=true then((dv t).1,0) else(⟨0,0⟩,9)) else(⟨0,0⟩,bX s [t])
theorem UH(s)(t):af TP 273 [s.pv,t.pv] (.tuple [(dH s t).1.pv,.int .i64 (dH s t).2]):=by
 refine aa (ag func273 rfl) rfl ?_;simp only[go_sem,simprocAttr];refine aU (nV s [t] true (by simp)) (by simp only[go_sem,simprocAttr]) (.int _ _) ?_;simp only[go_sem,simprocAttr];cases i:(bX s [t] != 0)
 rotate_left
 .have a:¬bX s [t]=0:=by simpa using i
  simp only[dH,if_neg a,go_sem,simprocAttr]
 have a:bX s [t]=0:=by simpa using i
 have hok:=(gn (GY a).2).1;simp only[go_sem,simprocAttr];refine ae (zj t hok) rfl ?_;simp only[Span.pv,go_sem,simprocAttr];cases e:(dv t).2
 .simp only[dH,a,ie,e,go_sem,simprocAttr]
 .simp only[dH,a,ie,e,go_sem,simprocAttr]
def tU {α:Type}:List α->List (α×α)
 |[]=>[]
 |x::r=>r.map (λy=>(x,y))++tU r
theorem pF{α}(x:α):∀l,∀q,q∈tU (l++[x])↔q∈tU l\/∃y,y∈l/\q=(y,x)
 |[],q=>by simp[tU]
 |z::l,q=>by
  rw[hZ,tU,tU,ck,ck,pF x l,bD,ck];simp only[bK,cf,ce,fD,or_false];constructor
  .rintro((h|h)|h|⟨y,a,h⟩)
   .exact .inl (.inl h)
   .exact .inr ⟨z,.inl rfl,h⟩
   .exact .inl (.inr h)
   .exact .inr ⟨y,.inr a,h⟩
  .rintro((h|h)|⟨y,rfl|a,h⟩)
   .exact .inl (.inl h)
   .exact .inr (.inl h)
   .exact .inl (.inr h)
   .exact .inr (.inr ⟨y,a,h⟩)
theorem wm(e):∀(rest i) (q),(q∈hI e i rest\/∃p,p∈tU i/\q=lp e p.1 p.2)↔∃p,p∈tU (i++rest)/\q=lp e p.1 p.2
 |[],i,q=>by simp[hI]
 |b::r,i,q=>by
  have:=wm e r (i++[b]) q;rw[dJ,H5]at this;rw[<-this,hI,ck,cX];constructor
  .rintro((⟨a,l,h⟩|h)|⟨p,j,h⟩)
   .exact .inr ⟨(a,b),(pF b i _).2 (.inr ⟨a,l,rfl⟩),h.symm⟩
   .exact .inl h
   .exact .inr ⟨p,(pF b i _).2 (.inl j),h⟩
  .rintro(h|⟨p,j,h⟩)
   .exact .inl (.inr h)
   .rcases(pF b i _).1 j with j|⟨a,l,rfl⟩
    .exact .inr ⟨p,j,h⟩
    .exact .inl (.inl ⟨a,l,h.symm⟩)
theorem KH(t)(q):q∈fc t↔∃p,p∈tU t.marks/\q=lp t.error p.1 p.2:=by
 have:=wm t.error t.marks [] q;simpa[tU,fc]using this
def eO (m:HrMark):AV:=.p m.pv
attribute [go_sem] eO
def te:AV:=.p (.agg [.int .i64 0,.int .i64 0])
theorem PN(l)(b)(h)(j:l≠[])(o:l.length<=10) :
  ar TP 344 [.p (.slice 2 (l.map HrMark.pv) b)] h (λr h'=>r=.ret (.slice h.length l.length 0 l.length)/\h'=h++[.row 2 (l.map eO)]):=by
 refine au (ag func344 rfl) rfl ?_;have i:¬(l.map HrMark.pv=[]):=by simpa using j
 have e:l.length<=ao:=by simp[ao];omega
 have q:(l.map HrMark.pv).map AV.p=l.map eO:=by simp[eO]
 have a:¬(l.map eO=[]):=by simpa using j
 simp only[i,e,q,a,go_sem,simprocAttr]
theorem Nk(l:List HrMark)(i id)(h)(hid:h[id]?=some (.row 2 (l.map eO)))(hi:i<l.length)(hlen:l.length<=10) :
  ar TP 343 [.slice id l.length 0 l.length,.p (.int .i64 i),.p (.int .i64 (i+1:Nat))] h
   (λr h'=>r=.ret (.slice id l.length 0 (l.length-1))/\h'=h.set id (.row 2 ((l.eraseIdx i).map eO++[te]))):=by
 refine au (ag func343 rfl) rfl ?_;have h1:(i:Int)<=((i+1:Nat):Int):=by omega
 have h2:((i+1:Nat):Int)<=(l.length:Int):=by omega
 have h3:((i:Int)==((i+1:Nat):Int))=false:=by simp;omega
 have h0:(0:Int)<=(i:Int):=by omega
 have h4:(0:Int)+(l.length:Int)<=(l.length:Int):=by omega
 have h5:(i:Int)<=(l.length:Int):=by omega
 have h6:i+1+(l.length-(i+1))<=l.length:=by omega
 have h7:¬(i=l.length):=by omega
 have hys:List.take (l.length-(i+1)) (List.drop (i+1) (List.map eO l))=(l.drop (i+1)).map eO:=by
  rw[<-List.map_drop,fC (by simp)]
 have h8:i+(l.length-(i+1))=l.length-1:=by omega
 have h9:l.length-1<=l.length:=by omega
 obtain⟨z,hz⟩:∃z,List.drop (l.length-1) (List.map eO l)=[z]:=by
  have:(List.drop (l.length-1) (List.map eO l)).length=1:=by simp;omega
  match hd:List.drop (l.length-1) (List.map eO l),this with
  |[z],_=>exact⟨z,rfl⟩
 have her:List.take i (List.map eO l)++((l.drop (i+1)).map eO++[z])=(l.eraseIdx i).map eO++[z]:=by
  rw[<-dJ,<-List.map_take,<-bD,Ru]
 have hel:(l.eraseIdx i).length=l.length-1:=by rw[sJ,if_pos hi]
 have hgs:∀x,(h.set id x)[id]?=some x:=λx=>by rw[fZ (aB.1 hid).1]
 have h10:((l.length-1:Nat):Int)<=(l.length:Int):=by omega
 have h11:(0:Int)<=((l.length-1:Nat):Int):=by omega
 have h12:l.length-1+1=l.length:=by omega
 have h13:l.length-(l.length-1)=1:=by omega
 have h14:l.length-1+(l.length-(l.length-1))<=l.length:=by omega
 have h15:¬((l.length:Int)<=((l.length-1:Nat):Int)):=by omega
 have htk:List.take (l.length-1) (List.map eO (l.eraseIdx i)++[z])=List.map eO (l.eraseIdx i):=fa (by rw[dp,hel]);have sa:List.drop l.length (List.map eO (l.eraseIdx i)++[z])=[]:=HU (by simp[hel];omega);simp only[h15,htk,sa,hid,h0,h1,h2,h3,h4,h5,h6,h7,hys,h8,h9,hz,her,hel,hgs,h10,h11,h12,h13,Nat.sub_zero,gV,List.length_drop,dJ,oc,aL,aV,ba,bt,vt,H6,te,go_sem,simprocAttr]
def xe (l:List Int):PV:=.slice 1 (l.map aI) false
def wo (t:HrTest) (i:Nat):HrTest:={ t with marks:=t.marks.eraseIdx i }
def mQ (t:HrTest):Nat->List HrMark->List Int
 |_,[]=>[]
 |i,_::r=>(if ie (wo t i)=true then [(i:Int)] else [])++mQ t (i+1) r
def vN (t:HrTest):List Int:=if ie t=true then [] else mQ t 0 t.marks
theorem TD{t}(hok:TestOk t){i}(l:3<=t.marks.length):TestOk (wo t i):=by
 have a:(t.marks.eraseIdx i).Sublist t.marks:=List.eraseIdx_sublist ..;have e:(t.marks.eraseIdx i).length<=t.marks.length/\2<=(t.marks.eraseIdx i).length:=by
  rw[sJ];split<;>omega
 exact⟨⟨iI e.1 hok.len,λm j=>hok.all m (a.subset j),hok.err⟩,e.2,hok.sorted.sublist a⟩
theorem MS{t}(hok:TestOk t)(h:t.marks.length=2):ie t=true:=by
 rw[MT hok]
 match l:t.marks,h with
 |[a,b],_=>
  intro p j q i;have e:fc t=[lp t.error a b]:=by simp[fc,hI,l]
  rw[e,dT]at j i;subst j i;have o:=l9 hok (lp t.error a b) (by rw[e];simp);have v:0<b.minute-a.minute:=o.2.2.1;have u:=hok.err;show _*_<=_*_;simp only[lp];exact wQ (by omega) (by omega)
def j7 (s:HrShop) (t:HrTest):List Int×Int:=if bX s [t]=0 then(vN t,0) else([],bX s [t])
theorem SS(s)(t):af TP 274 [s.pv,t.pv] (.tuple [xe (j7 s t).1,.int .i64 (j7 s t).2]):=by
 refine gQ (ag func274 rfl) rfl ?_;simp only[go_sem,simprocAttr];refine aU (nV s [t] true (by simp)) (by simp only[go_sem,simprocAttr]) (.int _ _) ?_;simp only[go_sem,simprocAttr];cases h0:(bX s [t] != 0)
 rotate_left
 .have h0':¬bX s [t]=0:=by simpa using h0
  simp only[j7,if_neg h0',xe,cf,go_sem,simprocAttr];exact⟨_,_,rfl,rfl,.inr ⟨rfl,1,rfl⟩,.inl rfl,trivial⟩
 have h0':bX s [t]=0:=by simpa using h0
 have hok:=(gn (GY h0').2).1;have hsp:j7 s t=(vN t,0):=by rw[j7,if_pos h0']
 rw[hsp];simp only[go_sem,simprocAttr];refine ae (zj t hok) rfl ?_;simp only[go_sem,simprocAttr];cases h1:(dv t).2;rotate_left
 .simp only[vN,ie,h1,xe,cf,go_sem,simprocAttr];exact⟨_,_,rfl,rfl,.inr ⟨rfl,1,rfl⟩,.inl rfl,trivial⟩
 have hnp:¬ie t=true:=by simp[ie,h1]
 have h3:3<=t.marks.length:=by
  rcases cx t.marks.length 3 with h|h
  .have:=hok.two;exact absurd (MS hok (by omega)) hnp
  .exact h
 have hlen:=hok.len;have hne:t.marks≠[]:=by intro h;rw[h]at h3;simp at h3
 have hsp2:vN t=mQ t 0 t.marks:=by rw[vN,if_neg hnp]
 rw[hsp2];simp only[go_sem,simprocAttr];refine cp 4 1 (by simp only[go_sem,simprocAttr]) ?_;simp only[go_sem,simprocAttr]
 refine fo [3,8,28] (σ:=List HrMark×List HrMark×List Int×AObj×Heap)
  (λq=>t.marks=q.1++q.2.1/\mQ t 0 t.marks=q.2.2.1++mQ t q.1.length q.2.1/\q.2.2.1.length<=q.1.length/\(q.2.2.2.1=.row 3 [.p t.pv]\/∃id ver n,q.2.2.2.1=.row 3 [.agg [.p (.int .i64 t.kind),.p (.int .i64 t.error),.slice id ver 0 n]])) (λq=>q.2.1.length)
  (λq=>[(4,.slice 3 q.2.2.1.length 0 q.2.2.1.length),(29,.p (.int .i64 q.1.length))]) (λq=>[.row 3 [.p s.pv],q.2.2.2.1,.row 2 [.p (dv t).1.pv],.row 1 (q.2.2.1.map λn=>.p (aI n))]++q.2.2.2.2) ([],t.marks,[],.row 3 [.p t.pv],[]) ⟨rfl,rfl,ba _,.inl rfl⟩ (by simp only[Span.pv,cf,bt,go_sem,simprocAttr]) ?_ ?_
 .simp only[go_sem,simprocAttr]
 rintro⟨done,rest,out,a,g⟩ ⟨e1,e2,e3,ha⟩
 dsimp only at e1 e2 e3 ha
 cases rest with
 |nil=>
  have hlt:¬((done.length:Int)<(t.marks.length:Int)):=by rw[e1];simp
  rw[mQ,bt]at e2;simp only[hlt,decide_false,e2,xe,go_sem,simprocAttr]
  exact .inl rfl
 |cons b r=>
  obtain⟨hx,hlt⟩:=eT e1;have hlen1:=congrArg List.length e1;simp only[aL,dB]at hlen1;have hi:done.length<t.marks.length:=by omega
  have hnx:IntKind.i64.wrap ((done.length:Int)+1)=(((done++[b]).length:Nat):Int):=bk (by omega) (by simp[ao];omega) (by simp);have hn1:IntKind.i64.wrap ((done.length:Int)+1)=((done.length+1:Nat):Int):=by rw[hnx];simp
  have hwo:=TD hok (i:=done.length) h3;simp only[hlt,decide_true,go_sem,simprocAttr];refine cq (PN t.marks false _ hne hlen) ?_;simp only[hn1,go_sem,simprocAttr];have g0:=kU (lo:=g) rfl;have s0:=m5 (lo:=g) rfl;have gg:=kT (lo:=g) rfl;have ss:=m4 (lo:=g) rfl;refine cq (Nk t.marks done.length _ _ (by simp) hi hlen) ?_;have hrm:out.length+1<=ao:=by simp[ao];omega
  have hog:mQ t done.length (b::r)=(if ie (wo t done.length)=true then [((done.length:Nat):Int)] else [])++mQ t (done.length+1) r:=rfl;rw[hog]at e2;have hfz:∀n h,aQ (bV n h) (List.map eO (t.marks.eraseIdx done.length)++[te])=some ((wo t done.length).marks.map HrMark.pv++[.agg [.int .i64 0,.int .i64 0]]):=by
   intro n h;have e:List.map eO (t.marks.eraseIdx done.length)++[te]=List.map AV.p ((wo t done.length).marks.map HrMark.pv++[.agg [.int .i64 0,.int .i64 0]]):=by simp[eO,te,wo]
   rw[e];exact dC (eE n h) id _ |>.trans (by simp)
  have htk2:List.take (t.marks.length-1) ((t.marks.eraseIdx done.length).map HrMark.pv++[.agg [.int .i64 0,.int .i64 0]])=(t.marks.eraseIdx done.length).map HrMark.pv:=by
   rw[fa (by rw[dp,sJ,if_pos hi])]
  have hel2:(t.marks.eraseIdx done.length).length+1=t.marks.length:=by rw[sJ,if_pos hi];omega
  have hfl:t.marks.length-1<=t.marks.length:=by omega
  rcases ha with rfl|⟨id,ver,n,rfl⟩ <;>
  (simp only[s0,go_sem,simprocAttr]
   refine aU (zj (wo t done.length) hwo) ?_ (.tuple ?_) ?_
   .simp only[g0,hfz,htk2,hel2,aL,aV,wo,go_sem,simprocAttr]
   .exact Flat.cons (.agg (Flat.cons (.int _ _) (Flat.cons (.int _ _) Flat.nil))) (Flat.cons (.bool _) Flat.nil)
   simp only[dJ,aL,aV,gg,ss,go_sem,simprocAttr];cases hp:(dv (wo t done.length)).2
   .simp only[go_sem,simprocAttr];refine br (done++[b],r,out,_,g++[AObj.row 2 (List.map eO (t.marks.eraseIdx done.length)++[te]),AObj.row 2 [AV.p (PV.agg [PV.int IntKind.i64 (dv (wo t done.length)).fst.lo,PV.int IntKind.i64 (dv (wo t done.length)).fst.hi])]]) ⟨by rw[e1];simp,by rw[e2,if_neg (by rw[ie,hp];simp)];simp,by simp;omega,.inr ⟨g.length+1+1+1+1,t.marks.length,t.marks.length-1,rfl⟩⟩ (jJ _) ?_ ?_
    .simp only[go_sem,simprocAttr]
    .simp only[hnx,go_sem,simprocAttr]
   .simp only[aV,hrm,go_sem,simprocAttr];refine br (done++[b],r,out++[((done.length:Nat):Int)],_,g++[AObj.row 2 (List.map eO (t.marks.eraseIdx done.length)++[te]),AObj.row 2 [AV.p (PV.agg [PV.int IntKind.i64 (dv (wo t done.length)).fst.lo,PV.int IntKind.i64 (dv (wo t done.length)).fst.hi])]]) ⟨by rw[e1];simp,by rw[e2,if_pos (by rw[ie,hp])];simp,by simp;omega,.inr ⟨g.length+1+1+1+1,t.marks.length,t.marks.length-1,rfl⟩⟩ (jJ _) ?_ ?_
    .simp only[go_sem,simprocAttr];rw[bD];rfl
    .simp only[hnx,aL,aV,go_sem,simprocAttr])
end Abs
open Go.Shelf
def laysM171_ren:Go.Shelf.Ren:=⟨λ| 171=>101|243=>145|246=>184|283=>227|284=>228|285=>229|286=>230|129=>301|317=>300|318=>302|319=>303|320=>304|337=>370|338=>371|n=>n,λ| 3=>3|9=>9|2=>2|4=>4|171=>339|0=>0|53=>340|37=>205|5=>5|173=>343|212=>408|51=>237|20=>20|213=>409|46=>347|232=>528|233=>529|n=>n,λ| 17=>1|18=>6|19=>7|n=>n⟩
theorem laysM171:Go.Proofs.LaysM.n171 TP laysM171_ren:={
 mixed:=by kernel_rfl
 f129:=func301.trans (congrArg some (by kernel_rfl))
 f171:=func101.trans (congrArg some (by kernel_rfl))
 f243:=func145.trans (congrArg some (by kernel_rfl))
 f246:=func184.trans (congrArg some (by kernel_rfl))
 f283:=func227.trans (congrArg some (by kernel_rfl))
 f284:=func228.trans (congrArg some (by kernel_rfl))
 f285:=func229.trans (congrArg some (by kernel_rfl))
 f286:=func230.trans (congrArg some (by kernel_rfl))
 f317:=func300.trans (congrArg some (by kernel_rfl))
 f318:=func302.trans (congrArg some (by kernel_rfl))
 f319:=func303.trans (congrArg some (by kernel_rfl))
 f320:=func304.trans (congrArg some (by kernel_rfl))
 f337:=func370.trans (congrArg some (by kernel_rfl))
 f338:=func371.trans (congrArg some (by kernel_rfl))
 t0:=underlying0
 a0:=isAgg0
 z0:=sizeOf0
 v0:=zeroValue0
 t2:=underlying2
 a2:=isAgg2
 z2:=sizeOf2
 v2:=zeroValue2
 t3:=underlying3
 a3:=isAgg3
 z3:=sizeOf3
 v3:=zeroValue3
 t4:=underlying4
 a4:=isAgg4
 z4:=sizeOf4
 v4:=zeroValue4
 t5:=underlying5
 a5:=isAgg5
 z5:=sizeOf5
 v5:=zeroValue5
 t9:=underlying9
 a9:=isAgg9
 z9:=sizeOf9
 v9:=zeroValue9
 t20:=underlying20
 a20:=isAgg20
 z20:=sizeOf20
 v20:=zeroValue20
 t37:=underlying205
 a37:=isAgg205
 z37:=sizeOf205
 v37:=zeroValue205
 t46:=underlying347
 a46:=isAgg347
 z46:=sizeOf347
 v46:=zeroValue347
 t51:=underlying237
 a51:=isAgg237
 z51:=sizeOf237
 v51:=zeroValue237
 t53:=underlying340
 a53:=isAgg340
 z53:=sizeOf340
 v53:=zeroValue340
 t171:=underlying339
 a171:=isAgg339
 z171:=sizeOf339
 v171:=zeroValue339
 t173:=underlying343
 a173:=isAgg343
 z173:=sizeOf343
 v173:=zeroValue343
 t212:=underlying408
 a212:=isAgg408
 z212:=sizeOf408
 v212:=zeroValue408
 t213:=underlying409
 a213:=isAgg409
 z213:=sizeOf409
 t232:=underlying528
 a232:=isAgg528
 z232:=sizeOf528
 v232:=zeroValue528
 t233:=underlying529
 a233:=isAgg529
 z233:=sizeOf529
 v233:=zeroValue529
 g17:=by kernel_rfl
 g18:=by kernel_rfl
 g19:=by kernel_rfl
 i0:=by kernel_rfl
 i2:=by kernel_rfl
 i3:=by kernel_rfl
 i4:=by kernel_rfl
 i5:=by kernel_rfl
 i9:=by kernel_rfl
 i20:=by kernel_rfl
 i37:=by kernel_rfl
 i46:=by kernel_rfl
 i51:=by kernel_rfl
 i53:=by kernel_rfl
 i171:=by kernel_rfl
 i173:=by kernel_rfl
 i212:=by kernel_rfl
 i232:=by kernel_rfl
 i233:=by kernel_rfl
 m17:=by kernel_rfl
 m18:=by kernel_rfl
 m19:=by kernel_rfl }
def laysC172_ren:Go.Shelf.Ren:=⟨λ| 172=>150|244=>191|245=>192|247=>238|279=>239|280=>240|281=>241|282=>242|287=>307|316=>308|171=>101|205=>309|321=>372|322=>373|243=>145|246=>184|283=>227|284=>228|285=>229|286=>230|129=>301|317=>300|318=>302|319=>303|320=>304|337=>370|338=>371|n=>n,λ| 9=>9|3=>3|75=>223|76=>224|4=>4|5=>5|167=>348|37=>205|0=>0|85=>349|2=>2|168=>351|53=>340|175=>413|46=>347|210=>416|127=>281|145=>494|143=>492|21=>21|171=>339|173=>343|212=>408|51=>237|20=>20|213=>409|232=>528|233=>529|80=>139|n=>n,λ| 15=>2|16=>3|17=>1|18=>6|19=>7|n=>n⟩
theorem laysC172:Go.Proofs.LaysC.n172 TP laysC172_ren:={
 mixed:=by kernel_rfl
 f129:=func301.trans (congrArg some (by kernel_rfl))
 f171:=func101.trans (congrArg some (by kernel_rfl))
 f172:=func150.trans (congrArg some (by kernel_rfl))
 f205:=func309.trans (congrArg some (by kernel_rfl))
 f243:=func145.trans (congrArg some (by kernel_rfl))
 f244:=func191.trans (congrArg some (by kernel_rfl))
 f245:=func192.trans (congrArg some (by kernel_rfl))
 f246:=func184.trans (congrArg some (by kernel_rfl))
 f247:=func238.trans (congrArg some (by kernel_rfl))
 f279:=func239.trans (congrArg some (by kernel_rfl))
 f280:=func240.trans (congrArg some (by kernel_rfl))
 f281:=func241.trans (congrArg some (by kernel_rfl))
 f282:=func242.trans (congrArg some (by kernel_rfl))
 f283:=func227.trans (congrArg some (by kernel_rfl))
 f284:=func228.trans (congrArg some (by kernel_rfl))
 f285:=func229.trans (congrArg some (by kernel_rfl))
 f286:=func230.trans (congrArg some (by kernel_rfl))
 f287:=func307.trans (congrArg some (by kernel_rfl))
 f316:=func308.trans (congrArg some (by kernel_rfl))
 f317:=func300.trans (congrArg some (by kernel_rfl))
 f318:=func302.trans (congrArg some (by kernel_rfl))
 f319:=func303.trans (congrArg some (by kernel_rfl))
 f320:=func304.trans (congrArg some (by kernel_rfl))
 f321:=func372.trans (congrArg some (by kernel_rfl))
 f322:=func373.trans (congrArg some (by kernel_rfl))
 f337:=func370.trans (congrArg some (by kernel_rfl))
 f338:=func371.trans (congrArg some (by kernel_rfl))
 t0:=underlying0
 a0:=isAgg0
 z0:=sizeOf0
 v0:=zeroValue0
 t2:=underlying2
 a2:=isAgg2
 z2:=sizeOf2
 v2:=zeroValue2
 t3:=underlying3
 a3:=isAgg3
 z3:=sizeOf3
 v3:=zeroValue3
 t4:=underlying4
 a4:=isAgg4
 z4:=sizeOf4
 v4:=zeroValue4
 t5:=underlying5
 a5:=isAgg5
 z5:=sizeOf5
 v5:=zeroValue5
 t9:=underlying9
 a9:=isAgg9
 z9:=sizeOf9
 v9:=zeroValue9
 t20:=underlying20
 a20:=isAgg20
 z20:=sizeOf20
 v20:=zeroValue20
 t21:=underlying21
 a21:=isAgg21
 z21:=sizeOf21
 v21:=zeroValue21
 t37:=underlying205
 a37:=isAgg205
 z37:=sizeOf205
 v37:=zeroValue205
 t46:=underlying347
 a46:=isAgg347
 z46:=sizeOf347
 v46:=zeroValue347
 t51:=underlying237
 a51:=isAgg237
 z51:=sizeOf237
 v51:=zeroValue237
 t53:=underlying340
 a53:=isAgg340
 z53:=sizeOf340
 v53:=zeroValue340
 t75:=underlying223
 a75:=isAgg223
 z75:=sizeOf223
 v75:=zeroValue223
 t76:=underlying224
 a76:=isAgg224
 z76:=sizeOf224
 v76:=zeroValue224
 t85:=underlying349
 a85:=isAgg349
 z85:=sizeOf349
 v85:=zeroValue349
 t127:=underlying281
 a127:=isAgg281
 z127:=sizeOf281
 v127:=zeroValue281
 t143:=underlying492
 a143:=isAgg492
 z143:=sizeOf492
 v143:=zeroValue492
 t145:=underlying494
 a145:=isAgg494
 z145:=sizeOf494
 v145:=zeroValue494
 t167:=underlying348
 a167:=isAgg348
 z167:=sizeOf348
 v167:=zeroValue348
 t168:=underlying351
 a168:=isAgg351
 z168:=sizeOf351
 v168:=zeroValue351
 t171:=underlying339
 a171:=isAgg339
 z171:=sizeOf339
 v171:=zeroValue339
 t173:=underlying343
 a173:=isAgg343
 z173:=sizeOf343
 v173:=zeroValue343
 t175:=underlying413
 a175:=isAgg413
 z175:=sizeOf413
 v175:=zeroValue413
 t210:=underlying416
 a210:=isAgg416
 z210:=sizeOf416
 v210:=zeroValue416
 t212:=underlying408
 a212:=isAgg408
 z212:=sizeOf408
 v212:=zeroValue408
 t213:=underlying409
 a213:=isAgg409
 z213:=sizeOf409
 t232:=underlying528
 a232:=isAgg528
 z232:=sizeOf528
 v232:=zeroValue528
 t233:=underlying529
 a233:=isAgg529
 z233:=sizeOf529
 v233:=zeroValue529
 g15:=by kernel_rfl
 g16:=by kernel_rfl
 g17:=by kernel_rfl
 g18:=by kernel_rfl
 g19:=by kernel_rfl
 t80:=underlying139
 a80:=isAgg139
 z80:=sizeOf139
 v80:=zeroValue139
 i0:=by kernel_rfl
 i2:=by kernel_rfl
 i3:=by kernel_rfl
 i4:=by kernel_rfl
 i5:=by kernel_rfl
 i9:=by kernel_rfl
 i20:=by kernel_rfl
 i21:=by kernel_rfl
 i37:=by kernel_rfl
 i46:=by kernel_rfl
 i51:=by kernel_rfl
 i53:=by kernel_rfl
 i75:=by kernel_rfl
 i76:=by kernel_rfl
 i80:=by kernel_rfl
 i85:=by kernel_rfl
 i127:=by kernel_rfl
 i143:=by kernel_rfl
 i145:=by kernel_rfl
 i167:=by kernel_rfl
 i168:=by kernel_rfl
 i171:=by kernel_rfl
 i173:=by kernel_rfl
 i175:=by kernel_rfl
 i210:=by kernel_rfl
 i212:=by kernel_rfl
 i232:=by kernel_rfl
 i233:=by kernel_rfl
 m15:=by kernel_rfl
 m16:=by kernel_rfl
 m17:=by kernel_rfl
 m18:=by kernel_rfl
 m19:=by kernel_rfl
 c0:=by kernel_rfl
 c2:=by kernel_rfl
 c3:=by kernel_rfl
 c4:=by kernel_rfl
 c5:=by kernel_rfl
 c9:=by kernel_rfl
 c20:=by kernel_rfl
 c21:=by kernel_rfl
 c37:=by kernel_rfl
 c46:=by kernel_rfl
 c51:=by kernel_rfl
 c53:=by kernel_rfl
 c75:=by kernel_rfl
 c76:=by kernel_rfl
 c80:=by kernel_rfl
 c85:=by kernel_rfl
 c127:=by kernel_rfl
 c143:=by kernel_rfl
 c145:=by kernel_rfl
 c167:=by kernel_rfl
 c168:=by kernel_rfl
 c171:=by kernel_rfl
 c173:=by kernel_rfl
 c175:=by kernel_rfl
 c210:=by kernel_rfl
 c212:=by kernel_rfl
 c213:=by kernel_rfl
 c232:=by kernel_rfl
 c233:=by kernel_rfl }
def lays219_ren:Go.Shelf.Ren:=⟨λ| 219=>187|217=>232|225=>233|224=>234|267=>235|266=>305|314=>306|n=>n,λ| 9=>9|3=>3|4=>4|5=>5|46=>347|146=>411|51=>237|n=>n,λ| 1=>0|n=>n⟩
theorem lays219:Go.Proofs.Lays.n219 TP lays219_ren:={
 mixed:=by kernel_rfl
 f217:=func232.trans (congrArg some (by kernel_rfl))
 f219:=func187.trans (congrArg some (by kernel_rfl))
 f224:=func234.trans (congrArg some (by kernel_rfl))
 f225:=func233.trans (congrArg some (by kernel_rfl))
 f266:=func305.trans (congrArg some (by kernel_rfl))
 f267:=func235.trans (congrArg some (by kernel_rfl))
 f314:=func306.trans (congrArg some (by kernel_rfl))
 t3:=underlying3
 a3:=isAgg3
 z3:=sizeOf3
 v3:=zeroValue3
 t4:=underlying4
 a4:=isAgg4
 z4:=sizeOf4
 v4:=zeroValue4
 t5:=underlying5
 a5:=isAgg5
 z5:=sizeOf5
 v5:=zeroValue5
 t9:=underlying9
 a9:=isAgg9
 z9:=sizeOf9
 v9:=zeroValue9
 t46:=underlying347
 a46:=isAgg347
 z46:=sizeOf347
 v46:=zeroValue347
 t51:=underlying237
 a51:=isAgg237
 z51:=sizeOf237
 v51:=zeroValue237
 t146:=underlying411
 a146:=isAgg411
 z146:=sizeOf411
 v146:=zeroValue411
 g1:=by kernel_rfl }
def lays143_ren:Go.Shelf.Ren:=⟨λ| 143=>190|219=>187|217=>232|225=>233|224=>234|267=>235|266=>305|314=>306|n=>n,λ| 9=>9|3=>3|4=>4|5=>5|46=>347|146=>411|51=>237|n=>n,λ| 1=>0|n=>n⟩
theorem lays143:Go.Proofs.Lays.n143 TP lays143_ren:={
 mixed:=by kernel_rfl
 f143:=func190.trans (congrArg some (by kernel_rfl))
 f217:=func232.trans (congrArg some (by kernel_rfl))
 f219:=func187.trans (congrArg some (by kernel_rfl))
 f224:=func234.trans (congrArg some (by kernel_rfl))
 f225:=func233.trans (congrArg some (by kernel_rfl))
 f266:=func305.trans (congrArg some (by kernel_rfl))
 f267:=func235.trans (congrArg some (by kernel_rfl))
 f314:=func306.trans (congrArg some (by kernel_rfl))
 t3:=underlying3
 a3:=isAgg3
 z3:=sizeOf3
 v3:=zeroValue3
 t4:=underlying4
 a4:=isAgg4
 z4:=sizeOf4
 v4:=zeroValue4
 t5:=underlying5
 a5:=isAgg5
 z5:=sizeOf5
 v5:=zeroValue5
 t9:=underlying9
 a9:=isAgg9
 z9:=sizeOf9
 v9:=zeroValue9
 t46:=underlying347
 a46:=isAgg347
 z46:=sizeOf347
 v46:=zeroValue347
 t51:=underlying237
 a51:=isAgg237
 z51:=sizeOf237
 v51:=zeroValue237
 t146:=underlying411
 a146:=isAgg411
 z146:=sizeOf411
 v146:=zeroValue411
 g1:=by kernel_rfl }
def lays138_ren:Go.Shelf.Ren:=⟨λ| 138=>189|195=>236|218=>237|143=>190|219=>187|217=>232|225=>233|224=>234|267=>235|266=>305|314=>306|n=>n,λ| 9=>9|3=>3|4=>4|5=>5|0=>0|46=>347|146=>411|51=>237|n=>n,λ| 1=>0|n=>n⟩
theorem lays138:Go.Proofs.Lays.n138 TP lays138_ren:={
 mixed:=by kernel_rfl
 f138:=func189.trans (congrArg some (by kernel_rfl))
 f143:=func190.trans (congrArg some (by kernel_rfl))
 f195:=func236.trans (congrArg some (by kernel_rfl))
 f217:=func232.trans (congrArg some (by kernel_rfl))
 f218:=func237.trans (congrArg some (by kernel_rfl))
 f219:=func187.trans (congrArg some (by kernel_rfl))
 f224:=func234.trans (congrArg some (by kernel_rfl))
 f225:=func233.trans (congrArg some (by kernel_rfl))
 f266:=func305.trans (congrArg some (by kernel_rfl))
 f267:=func235.trans (congrArg some (by kernel_rfl))
 f314:=func306.trans (congrArg some (by kernel_rfl))
 t0:=underlying0
 a0:=isAgg0
 z0:=sizeOf0
 v0:=zeroValue0
 t3:=underlying3
 a3:=isAgg3
 z3:=sizeOf3
 v3:=zeroValue3
 t4:=underlying4
 a4:=isAgg4
 z4:=sizeOf4
 v4:=zeroValue4
 t5:=underlying5
 a5:=isAgg5
 z5:=sizeOf5
 v5:=zeroValue5
 t9:=underlying9
 a9:=isAgg9
 z9:=sizeOf9
 v9:=zeroValue9
 t46:=underlying347
 a46:=isAgg347
 z46:=sizeOf347
 v46:=zeroValue347
 t51:=underlying237
 a51:=isAgg237
 z51:=sizeOf237
 v51:=zeroValue237
 t146:=underlying411
 a146:=isAgg411
 z146:=sizeOf411
 v146:=zeroValue411
 g1:=by kernel_rfl }
end Go.Proofs.YtmndpldajflenaaGreatDoor
