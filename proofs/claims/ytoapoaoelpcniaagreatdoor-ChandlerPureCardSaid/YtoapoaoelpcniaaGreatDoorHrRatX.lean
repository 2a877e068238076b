/- CONTRACTS of the program's functions, and laws on what they return. No conditions but those in the theorems' heads. -/
import Derived.Test.YtoapoaoelpcniaaGreatDoorHrTstX
import Derived.Shelf.LaysM
import Derived.Shelf.LaysC
import Derived.Shelf.Strconv.Itoa3
import Derived.Shelf.Strconv.AtoiAll
import Derived.Shelf.Strconv.ErrVarAll
import Derived.Shelf.Strings.Search3
import Derived.Shelf.Strings.Count
set_option linter.all false
open Go.Proofs.Tryz renaming prog->TP
namespace Go.Proofs.YtoapoaoelpcniaaGreatDoor
namespace Abs
set_option maxRecDepth 4000
def Frac.le (f g:Frac):Prop:=f.top*g.below<=g.top*f.below
theorem Frac.lt_iff(f g:Frac):f.lt g=true↔¬g.le f:=by
 simp only[Frac.lt,Frac.le,decide_eq_true_eq];omega
theorem Frac.lt_false(f g:Frac):f.lt g=false↔g.le f:=by
 simp only[Frac.lt,Frac.le,decide_eq_false_iff_not];omega
theorem Frac.le_refl(f:Frac):f.le f:=ir _
theorem Frac.le_total(f g:Frac):f.le g\/g.le f:=by simp only[Frac.le];omega
theorem Frac.le_trans{f g h:Frac}(hf:0<f.below)(hg:0<g.below)(hh:0<h.below)(h1:f.le g)(h2:g.le h):f.le h:=by
 unfold Frac.le at *
 have e1:f.top*g.below*h.below<=g.top*f.below*h.below:=pU h1 (E6 hh);have e2:g.top*h.below*f.below<=h.top*g.below*f.below:=pU h2 (E6 hf);have e3:f.top*h.below*g.below<=h.top*f.below*g.below:=by
  have a1:f.top*h.below*g.below=f.top*g.below*h.below:=by rw[wD,sZ h.below,<-wD]
  have a2:g.top*f.below*h.below=g.top*h.below*f.below:=by rw[wD,sZ f.below,<-wD]
  have a3:h.top*f.below*g.below=h.top*g.below*f.below:=by rw[wD,sZ f.below,<-wD]
  omega
 exact Int.le_of_mul_le_mul_right e3 hg
theorem Frac.le_int(f:Frac)(n):f.le ⟨n,1⟩↔f.top<=n*f.below:=by simp[Frac.le]
theorem Frac.int_le(f)(n):Frac.le ⟨n,1⟩ f↔n*f.below<=f.top:=by simp[Frac.le]
theorem Frac.down_le{f:Frac}(hf:0<f.below)(n):n<=f.down↔n*f.below<=f.top:=B5 hf
theorem Frac.up_le{f:Frac}(hf:0<f.below)(n):f.up<=n↔f.top<=n*f.below:=by
 unfold Frac.up;have:=B5 (a:=-n) (b:=-f.top) hf;rw[Ft]at this;constructor
 .intro h;have:=this.1 (by omega);omega
 .intro h;have:=this.2 (by omega);omega
def Ia (l:List (Frac×Frac)) (q:Frac×Frac):Prop:=
 ((∃p,p∈l/\p.1=q.1)/\∀p,p∈l->p.1.le q.1)/\((∃p,p∈l/\p.2=q.2)/\∀p,p∈l->q.2.le p.2)
theorem Lu{l}{q p}(hl:∀x,x∈l->j2 x)(hq:Ia l q)(hqB:j2 q)(hp:j2 p):Ia (l++[p]) (ja q p):=by
 have n1:q.1≠⟨0,0⟩:=λh=>by have:=hqB.2.2.1;rw[h]at this;exact absurd this (by decide)
 have n2:q.2≠⟨0,0⟩:=λh=>by have:=hqB.2.2.2;rw[h]at this;exact absurd this (by decide)
 obtain⟨⟨⟨x,hx,ex⟩,h1⟩,⟨y,hy,ey⟩,h2⟩:=hq;unfold ja jy jz;simp only[decide_eq_false n1,decide_eq_false n2,rf];refine⟨?_,?_⟩
 .dsimp only;cases hc:q.1.lt p.1
  .rw[Frac.lt_false]at hc;refine⟨⟨x,by simp[hx],ex⟩,λz hz=>?_⟩;rcases dr.1 hz with hz|hz
   .exact h1 z hz
   .rw[gh.1 hz];exact hc
  .have hc':q.1.le p.1:=(Frac.le_total _ _).resolve_right (by rw[Frac.lt_iff]at hc;exact hc);refine⟨⟨p,by simp,rfl⟩,λz hz=>?_⟩;rcases dr.1 hz with hz|hz
   .exact Frac.le_trans (hl z hz).2.2.1 hqB.2.2.1 hp.2.2.1 (h1 z hz) hc'
   .rw[gh.1 hz];exact Frac.le_refl _
 .dsimp only;cases hc:p.2.lt q.2
  .rw[Frac.lt_false]at hc;refine⟨⟨y,by simp[hy],ey⟩,λz hz=>?_⟩;rcases dr.1 hz with hz|hz
   .exact h2 z hz
   .rw[gh.1 hz];exact hc
  .have hc':p.2.le q.2:=(Frac.le_total _ _).resolve_right (by rw[Frac.lt_iff]at hc;exact hc);refine⟨⟨p,by simp,rfl⟩,λz hz=>?_⟩;rcases dr.1 hz with hz|hz
   .exact Frac.le_trans hp.2.2.2 hqB.2.2.2 (hl z hz).2.2.2 hc' (h2 z hz)
   .rw[gh.1 hz];exact Frac.le_refl _
theorem By:∀(r l) (q),(∀x,x∈l++r->j2 x)->Ia l q->j2 q->Ia (l++r) (r.foldl ja q)
 |[],l,q,_,h,_=>by simpa using h
 |p::r,l,q,hb,h,hq=>by
  have hp:=hb p (by simp);have:=By r (l++[p]) (ja q p) (by simpa using hb) (Lu (λx hx=>hb x (by simp[hx])) h hq hp) (zY (.inr hq) hp);simpa using this
theorem AQ{t}(hok:TestOk t):Ia (fp t) (eE t):=by
 have hB:=nD hok;have hne:=Gj hok.two;unfold eE
 cases hp:fp t with
 |nil=>exact absurd hp hne
 |cons p r=>
  rw[hp]at hB;have hpB:=hB p (by simp);have e:ja i6 p=p:=by simp[ja,jy,jz,i6]
  rw[nd,e];have:=By r [p] p (by simpa using hB) ⟨⟨⟨p,by simp,rfl⟩,by simp[Frac.le_refl]⟩,⟨p,by simp,rfl⟩,by simp[Frac.le_refl]⟩ hpB;simpa using this
def iA (t:HrTest):Bool:=(dN t).2
theorem PR{t}(hok:TestOk t):iA t=true↔∀p,p∈fp t->∀q,q∈fp t->p.1.le q.2:=by
 have hb:=AQ hok;have hB:=nD hok;have hr:=zL hok;have e:iA t=true↔(eE t).1.le (eE t).2:=by
  rw[iA,dN];dsimp only;rw[Fu,Frac.lt_false]
 rw[e];constructor
 .intro h p hp q hq;exact Frac.le_trans (hB p hp).2.2.1 hr.2.2.2 (hB q hq).2.2.2 (Frac.le_trans (hB p hp).2.2.1 hr.2.2.1 hr.2.2.2 (hb.1.2 p hp) h) (hb.2.2 q hq)
 .intro h;obtain⟨⟨p,hp,e1⟩,_⟩:=hb.1;obtain⟨⟨q,hq,e2⟩,_⟩:=hb.2;rw[<-e1,<-e2];exact h p hp q hq
theorem xH:∀(l) (last),lg last l=false->(∀m,m∈l->last<m.minute)/\l.Pairwise λa b=>a.minute<b.minute
 |[],_,_=>⟨λ_ h=>(iL h).elim,.nil⟩
 |m::r,last,h=>by
  rw[lg,KJ]at h;have h1:last<m.minute:=by simpa using h.1
  have ⟨h2,h3⟩:=xH r m.minute h.2;refine⟨λx hx=>?_,.cons h2 h3⟩;rcases ci.1 hx with rfl|hx
  .exact h1
  .have:=h2 x hx;omega
theorem fS{nk}{t}(h:bV nk t=0):TestOk t/\0<=t.kind/\t.kind<nk:=by
 unfold bV at h;split at h
 .rename_i h1;split at h
  .rename_i h2;split at h
   .rename_i h3;split at h
    .rename_i h4;split at h
     .cases h
     .rename_i h5;simp[ar]at h1 h2 h3;have h5':=xH _ _ (Pa.2 h5);rw[lm]at h4;refine⟨⟨⟨by omega,λm hm=>?_,by omega⟩,by omega,h5'.2⟩,by omega,by omega⟩;have:=h4 m hm;simp[oA,ar]at this;omega
    .cases h
   .cases h
  .cases h
 .cases h
theorem JE{s}{t}(h:bS s [t]=0):(hrCheck s).2.2=0/\bV s.kinds.length t=0:=by
 unfold bS at h;split at h
 .rename_i hc;refine⟨hc,?_⟩;simp only[cr]at h;split at h<;>assumption
 .contradiction
def d9 (s:HrShop) (t:HrTest):Span×Int:=if bS s [t]=0 then(if iA t=true then((dN t).1,0) else(⟨0,0⟩,9)) else(⟨0,0⟩,bS s [t])
theorem X1(s)(t):af TP 198 [s.pv,t.pv] (.tuple [(d9 s t).1.pv,.int .i64 (d9 s t).2]):=by
 refine aa (ah Tryz.func198 rfl (by kernel_rfl)) rfl ?_;simp only[go_sem,simprocAttr];refine bf (mA s [t] true (by simp)) (by simp only[go_sem,simprocAttr]) (.int _ _) ?_;simp only[go_sem,simprocAttr];cases h0:(bS s [t] != 0)
 rotate_left
 .have h0':¬bS s [t]=0:=by simpa using h0
  simp only[d9,if_neg h0',go_sem,simprocAttr]
 have h0':bS s [t]=0:=by simpa using h0
 have hok:=(fS (JE h0').2).1;simp only[go_sem,simprocAttr];refine ae (BH t hok) rfl ?_;simp only[Span.pv,go_sem,simprocAttr];cases h1:(dN t).2
 .simp only[d9,h0',iA,h1,go_sem,simprocAttr]
 .simp only[d9,h0',iA,h1,go_sem,simprocAttr]
def wv {α:Type}:List α->List (α×α)
 |[]=>[]
 |x::r=>r.map (λy=>(x,y))++wv r
theorem rv{α}(x:α):∀l,∀q,q∈wv (l++[x])↔q∈wv l\/∃y,y∈l/\q=(y,x)
 |[],q=>by simp[wv]
 |z::l,q=>by
  rw[eu,wv,wv,dr,dr,rv x l,cj,dr];simp only[bL,ck,ci,iL,or_false];constructor
  .rintro((h|h)|h|⟨y,hy,h⟩)
   .exact .inl (.inl h)
   .exact .inr ⟨z,.inl rfl,h⟩
   .exact .inl (.inr h)
   .exact .inr ⟨y,.inr hy,h⟩
  .rintro((h|h)|⟨y,rfl|hy,h⟩)
   .exact .inl (.inl h)
   .exact .inr (.inl h)
   .exact .inl (.inr h)
   .exact .inr (.inr ⟨y,hy,h⟩)
theorem y8(e):∀(rest done) (q),(q∈iH e done rest\/∃p,p∈wv done/\q=mq e p.1 p.2)↔∃p,p∈wv (done++rest)/\q=mq e p.1 p.2
 |[],done,q=>by simp[iH]
 |b::r,done,q=>by
  have:=y8 e r (done++[b]) q;rw[cF,KQ]at this;rw[<-this,iH,dr,cH];constructor
  .rintro((⟨a,ha,h⟩|h)|⟨p,hp,h⟩)
   .exact .inr ⟨(a,b),(rv b done _).2 (.inr ⟨a,ha,rfl⟩),h.symm⟩
   .exact .inl h
   .exact .inr ⟨p,(rv b done _).2 (.inl hp),h⟩
  .rintro(h|⟨p,hp,h⟩)
   .exact .inl (.inr h)
   .rcases(rv b done _).1 hp with hp|⟨a,ha,rfl⟩
    .exact .inr ⟨p,hp,h⟩
    .exact .inl (.inl ⟨a,ha,h.symm⟩)
theorem Nu(t)(q):q∈fp t↔∃p,p∈wv t.marks/\q=mq t.error p.1 p.2:=by
 have:=y8 t.error t.marks [] q;simpa[wv,fp]using this
def e8 (m:HrMark):AV:=.p m.pv
attribute [go_sem] e8
def vG:AV:=.p (.agg [.int .i64 0,.int .i64 0])
theorem S4(l)(b)(h)(hl:l≠[])(hlen:l.length<=10) :
  aD TP 263 [.p (.slice 2 (l.map HrMark.pv) b)] h (λr h'=>r=.ret (.slice h.length l.length 0 l.length)/\h'=h++[.row 2 (l.map e8)]):=by
 refine aC (ah Tryz.func263 rfl (by kernel_rfl)) rfl ?_;have hne:¬(l.map HrMark.pv=[]):=by simpa using hl
 have hrm:l.length<=aw:=by simp[aw];omega
 have hm:(l.map HrMark.pv).map AV.p=l.map e8:=by simp[e8]
 have hne2:¬(l.map e8=[]):=by simpa using hl
 simp only[hne,hrm,hm,hne2,go_sem,simprocAttr]
theorem Qk(l:List HrMark)(i id)(h)(hid:h[id]?=some (.row 2 (l.map e8)))(hi:i<l.length)(hlen:l.length<=10) :
  aD TP 262 [.slice id l.length 0 l.length,.p (.int .i64 i),.p (.int .i64 (i+1:Nat))] h
   (λr h'=>r=.ret (.slice id l.length 0 (l.length-1))/\h'=h.set id (.row 2 ((l.eraseIdx i).map e8++[vG]))):=by
 refine aC (ah Tryz.func262 rfl (by kernel_rfl)) rfl ?_;have h1:(i:Int)<=((i+1:Nat):Int):=by omega
 have h2:((i+1:Nat):Int)<=(l.length:Int):=by omega
 have h3:((i:Int)==((i+1:Nat):Int))=false:=by simp;omega
 have h0:(0:Int)<=(i:Int):=by omega
 have h4:(0:Int)+(l.length:Int)<=(l.length:Int):=by omega
 have h5:(i:Int)<=(l.length:Int):=by omega
 have h6:i+1+(l.length-(i+1))<=l.length:=by omega
 have h7:¬(i=l.length):=by omega
 have hys:List.take (l.length-(i+1)) (List.drop (i+1) (List.map e8 l))=(l.drop (i+1)).map e8:=by
  rw[<-List.map_drop,eD (by simp)]
 have h8:i+(l.length-(i+1))=l.length-1:=by omega
 have h9:l.length-1<=l.length:=by omega
 obtain⟨z,hz⟩:∃z,List.drop (l.length-1) (List.map e8 l)=[z]:=by
  have:(List.drop (l.length-1) (List.map e8 l)).length=1:=by simp;omega
  match hd:List.drop (l.length-1) (List.map e8 l),this with
  |[z],_=>exact⟨z,rfl⟩
 have her:List.take i (List.map e8 l)++((l.drop (i+1)).map e8++[z])=(l.eraseIdx i).map e8++[z]:=by
  rw[<-cF,<-At,<-cj,UL]
 have hel:(l.eraseIdx i).length=l.length-1:=by rw[uW,if_pos hi]
 have hgs:∀x,(h.set id x)[id]?=some x:=λx=>by rw[jf (aF.1 hid).1]
 have h10:((l.length-1:Nat):Int)<=(l.length:Int):=by omega
 have h11:(0:Int)<=((l.length-1:Nat):Int):=by omega
 have h12:l.length-1+1=l.length:=by omega
 have h13:l.length-(l.length-1)=1:=by omega
 have h14:l.length-1+(l.length-(l.length-1))<=l.length:=by omega
 have h15:¬((l.length:Int)<=((l.length-1:Nat):Int)):=by omega
 have htk:List.take (l.length-1) (List.map e8 (l.eraseIdx i)++[z])=List.map e8 (l.eraseIdx i):=gk (by rw[eF,hel]);have us:List.drop l.length (List.map e8 (l.eraseIdx i)++[z])=[]:=KE (by simp[hel];omega);simp only[h15,htk,us,hid,h0,h1,h2,h3,h4,h5,h6,h7,hys,h8,h9,hz,her,hel,hgs,h10,h11,h12,h13,Nat.sub_zero,iq,List.length_drop,cF,rg,aB,bn,bB,bC,KB,Pe,vG,go_sem,simprocAttr]
def mG (l:List Int):PV:=.slice 1 (l.map aI) false
def wo (t:HrTest) (i:Nat):HrTest:={ t with marks:=t.marks.eraseIdx i }
def ov (t:HrTest):Nat->List HrMark->List Int
 |_,[]=>[]
 |i,_::r=>(if iA (wo t i)=true then [(i:Int)] else [])++ov t (i+1) r
def yC (t:HrTest):List Int:=if iA t=true then [] else ov t 0 t.marks
theorem W9{t}(hok:TestOk t){i}(h3:3<=t.marks.length):TestOk (wo t i):=by
 have hs:(t.marks.eraseIdx i).Sublist t.marks:=List.eraseIdx_sublist ..;have hl:(t.marks.eraseIdx i).length<=t.marks.length/\2<=(t.marks.eraseIdx i).length:=by
  rw[uW];split<;>omega
 exact⟨⟨lH hl.1 hok.len,λm hm=>hok.all m (hs.subset hm),hok.err⟩,hl.2,hok.sorted.sublist hs⟩
theorem PQ{t}(hok:TestOk t)(h:t.marks.length=2):iA t=true:=by
 rw[PR hok]
 match hm:t.marks,h with
 |[a,b],_=>
  intro p hp q hq;have e:fp t=[mq t.error a b]:=by simp[fp,iH,hm]
  rw[e,gh]at hp hq;subst hp hq;have h1:=nD hok (mq t.error a b) (by rw[e];simp);have h2:0<b.minute-a.minute:=h1.2.2.1;have h3:=hok.err;show _*_<=_*_;simp only[mq];exact pU (by omega) (by omega)
def kW (s:HrShop) (t:HrTest):List Int×Int:=if bS s [t]=0 then(yC t,0) else([],bS s [t])
set_option maxHeartbeats 2000000 in
theorem V8(s)(t):af TP 199 [s.pv,t.pv] (.tuple [mG (kW s t).1,.int .i64 (kW s t).2]):=by
 refine dj (ah Tryz.func199 rfl (by kernel_rfl)) rfl ?_;simp only[go_sem,simprocAttr];refine bf (mA s [t] true (by simp)) (by simp only[go_sem,simprocAttr]) (.int _ _) ?_;simp only[go_sem,simprocAttr];cases h0:(bS s [t] != 0)
 rotate_left
 .have h0':¬bS s [t]=0:=by simpa using h0
  simp only[kW,if_neg h0',mG,ck,go_sem,simprocAttr];exact⟨_,_,rfl,rfl,.inr ⟨rfl,1,rfl⟩,.inl rfl,trivial⟩
 have h0':bS s [t]=0:=by simpa using h0
 have hok:=(fS (JE h0').2).1;have hsp:kW s t=(yC t,0):=by rw[kW,if_pos h0']
 rw[hsp];simp only[go_sem,simprocAttr];refine ae (BH t hok) rfl ?_;simp only[go_sem,simprocAttr];cases h1:(dN t).2;rotate_left
 .simp only[yC,iA,h1,mG,ck,go_sem,simprocAttr];exact⟨_,_,rfl,rfl,.inr ⟨rfl,1,rfl⟩,.inl rfl,trivial⟩
 have hnp:¬iA t=true:=by simp[iA,h1]
 have h3:3<=t.marks.length:=by
  rcases dF t.marks.length 3 with h|h
  .have:=hok.two;exact absurd (PQ hok (by omega)) hnp
  .exact h
 have hlen:=hok.len;have hne:t.marks≠[]:=by intro h;rw[h]at h3;simp at h3
 have hsp2:yC t=ov t 0 t.marks:=by rw[yC,if_neg hnp]
 rw[hsp2];simp only[go_sem,simprocAttr];refine cl 4 1 (by simp only[go_sem,simprocAttr]) ?_;simp only[go_sem,simprocAttr]
 refine eC [3,8,28] (σ:=List HrMark×List HrMark×List Int×AObj×Heap)
  (λq=>t.marks=q.1++q.2.1/\ov t 0 t.marks=q.2.2.1++ov t q.1.length q.2.1/\q.2.2.1.length<=q.1.length/\(q.2.2.2.1=.row 3 [.p t.pv]\/∃id ver n,q.2.2.2.1=.row 3 [.agg [.p (.int .i64 t.kind),.p (.int .i64 t.error),.slice id ver 0 n]])) (λq=>q.2.1.length)
  (λq=>[(4,.slice 3 q.2.2.1.length 0 q.2.2.1.length),(29,.p (.int .i64 q.1.length))]) (λq=>[.row 3 [.p s.pv],q.2.2.2.1,.row 2 [.p (dN t).1.pv],.row 1 (q.2.2.1.map λn=>.p (aI n))]++q.2.2.2.2) ([],t.marks,[],.row 3 [.p t.pv],[]) ⟨rfl,rfl,bB _,.inl rfl⟩ (by simp only[Span.pv,ck,bC,go_sem,simprocAttr]) ?_ ?_
 .simp only[go_sem,simprocAttr]
 rintro⟨done,rest,out,a,g⟩ ⟨e1,e2,e3,ha⟩
 dsimp only at e1 e2 e3 ha
 cases rest with
 |nil=>
  have hlt:¬((done.length:Int)<(t.marks.length:Int)):=by rw[e1];simp
  rw[ov,bC]at e2;simp only[hlt,decide_false,e2,mG,go_sem,simprocAttr]
  exact .inl rfl
 |cons b r=>
  obtain⟨hx,hlt⟩:=d8 e1;have hlen1:=congrArg List.length e1;simp only[aB,cu]at hlen1;have hi:done.length<t.marks.length:=by omega
  have hnx:IntKind.i64.wrap ((done.length:Int)+1)=(((done++[b]).length:Nat):Int):=bj (by omega) (by simp[aw];omega) (by simp);have hn1:IntKind.i64.wrap ((done.length:Int)+1)=((done.length+1:Nat):Int):=by rw[hnx];simp
  have hwo:=W9 hok (i:=done.length) h3;simp only[hlt,decide_true,go_sem,simprocAttr];refine cJ (S4 t.marks false _ hne hlen) ?_;simp only[hn1,go_sem,simprocAttr];have g0:=k8 (lo:=g) rfl;have s0:=mT (lo:=g) rfl;have gg:=k7 (lo:=g) rfl;have ss:=mS (lo:=g) rfl;refine cJ (Qk t.marks done.length _ _ (by simp) hi hlen) ?_;have hrm:out.length+1<=aw:=by simp[aw];omega
  have hog:ov t done.length (b::r)=(if iA (wo t done.length)=true then [((done.length:Nat):Int)] else [])++ov t (done.length+1) r:=rfl;rw[hog]at e2;have hfz:∀n h,aV (cm n h) (List.map e8 (t.marks.eraseIdx done.length)++[vG])=some ((wo t done.length).marks.map HrMark.pv++[.agg [.int .i64 0,.int .i64 0]]):=by
   intro n h;have e:List.map e8 (t.marks.eraseIdx done.length)++[vG]=List.map AV.p ((wo t done.length).marks.map HrMark.pv++[.agg [.int .i64 0,.int .i64 0]]):=by simp[e8,vG,wo]
   rw[e];exact dD (eJ n h) id _ |>.trans (by simp)
  have htk2:List.take (t.marks.length-1) ((t.marks.eraseIdx done.length).map HrMark.pv++[.agg [.int .i64 0,.int .i64 0]])=(t.marks.eraseIdx done.length).map HrMark.pv:=by
   rw[gk (by rw[eF,uW,if_pos hi])]
  have hel2:(t.marks.eraseIdx done.length).length+1=t.marks.length:=by rw[uW,if_pos hi];omega
  have hfl:t.marks.length-1<=t.marks.length:=by omega
  rcases ha with rfl|⟨id,ver,n,rfl⟩ <;>
  (simp only[s0,go_sem,simprocAttr]
   refine bf (BH (wo t done.length) hwo) ?_ (.tuple ?_) ?_
   .simp only[g0,hfz,htk2,hel2,aB,bn,wo,go_sem,simprocAttr]
   .exact Flat.cons (.agg (Flat.cons (.int _ _) (Flat.cons (.int _ _) Flat.nil))) (Flat.cons (.bool _) Flat.nil)
   simp only[cF,aB,bn,gg,ss,go_sem,simprocAttr];cases hp:(dN (wo t done.length)).2
   .simp only[go_sem,simprocAttr];refine bh (done++[b],r,out,_,g++[AObj.row 2 (List.map e8 (t.marks.eraseIdx done.length)++[vG]),AObj.row 2 [AV.p (PV.agg [PV.int IntKind.i64 (dN (wo t done.length)).fst.lo,PV.int IntKind.i64 (dN (wo t done.length)).fst.hi])]]) ⟨by rw[e1];simp,by rw[e2,if_neg (by rw[iA,hp];simp)];simp,by simp;omega,.inr ⟨g.length+1+1+1+1,t.marks.length,t.marks.length-1,rfl⟩⟩ (j4 _) ?_ ?_
    .simp only[go_sem,simprocAttr]
    .simp only[hnx,go_sem,simprocAttr]
   .simp only[bn,hrm,go_sem,simprocAttr];refine bh (done++[b],r,out++[((done.length:Nat):Int)],_,g++[AObj.row 2 (List.map e8 (t.marks.eraseIdx done.length)++[vG]),AObj.row 2 [AV.p (PV.agg [PV.int IntKind.i64 (dN (wo t done.length)).fst.lo,PV.int IntKind.i64 (dN (wo t done.length)).fst.hi])]]) ⟨by rw[e1];simp,by rw[e2,if_pos (by rw[iA,hp])];simp,by simp;omega,.inr ⟨g.length+1+1+1+1,t.marks.length,t.marks.length-1,rfl⟩⟩ (j4 _) ?_ ?_
    .simp only[go_sem,simprocAttr];rw[cj];rfl
    .simp only[hnx,aB,bn,go_sem,simprocAttr])
end Abs
open Go.Shelf
def Tryz.laysM171_ren:Go.Shelf.Ren:=⟨λ| 171=>68|243=>113|246=>164|283=>231|284=>232|285=>233|286=>234|129=>296|317=>295|318=>297|319=>298|320=>299|337=>318|338=>319|n=>n,λ| 3=>3|9=>9|2=>2|4=>4|171=>319|0=>0|53=>320|37=>141|5=>5|173=>323|212=>388|51=>85|20=>20|213=>389|46=>318|232=>434|233=>435|n=>n,λ| 17=>1|18=>6|19=>7|n=>n⟩
theorem Tryz.laysM171:Go.Proofs.LaysM.n171 TP Tryz.laysM171_ren:={
 mixed:=by kernel_rfl
 f129:=Tryz.func296.trans (congrArg some (by kernel_rfl))
 f171:=Tryz.func68.trans (congrArg some (by kernel_rfl))
 f243:=Tryz.func113.trans (congrArg some (by kernel_rfl))
 f246:=Tryz.func164.trans (congrArg some (by kernel_rfl))
 f283:=Tryz.func231.trans (congrArg some (by kernel_rfl))
 f284:=Tryz.func232.trans (congrArg some (by kernel_rfl))
 f285:=Tryz.func233.trans (congrArg some (by kernel_rfl))
 f286:=Tryz.func234.trans (congrArg some (by kernel_rfl))
 f317:=Tryz.func295.trans (congrArg some (by kernel_rfl))
 f318:=Tryz.func297.trans (congrArg some (by kernel_rfl))
 f319:=Tryz.func298.trans (congrArg some (by kernel_rfl))
 f320:=Tryz.func299.trans (congrArg some (by kernel_rfl))
 f337:=Tryz.func318.trans (congrArg some (by kernel_rfl))
 f338:=Tryz.func319.trans (congrArg some (by kernel_rfl))
 t0:=Tryz.underlying0
 a0:=Tryz.isAgg0
 z0:=Tryz.sizeOf0
 v0:=Tryz.zeroValue0
 t2:=Tryz.underlying2
 a2:=Tryz.isAgg2
 z2:=Tryz.sizeOf2
 v2:=Tryz.zeroValue2
 t3:=Tryz.underlying3
 a3:=Tryz.isAgg3
 z3:=Tryz.sizeOf3
 v3:=Tryz.zeroValue3
 t4:=Tryz.underlying4
 a4:=Tryz.isAgg4
 z4:=Tryz.sizeOf4
 v4:=Tryz.zeroValue4
 t5:=Tryz.underlying5
 a5:=Tryz.isAgg5
 z5:=Tryz.sizeOf5
 v5:=Tryz.zeroValue5
 t9:=Tryz.underlying9
 a9:=Tryz.isAgg9
 z9:=Tryz.sizeOf9
 v9:=Tryz.zeroValue9
 t20:=Tryz.underlying20
 a20:=Tryz.isAgg20
 z20:=Tryz.sizeOf20
 v20:=Tryz.zeroValue20
 t37:=Tryz.underlying141
 a37:=Tryz.isAgg141
 z37:=Tryz.sizeOf141
 v37:=Tryz.zeroValue141
 t46:=Tryz.underlying318
 a46:=Tryz.isAgg318
 z46:=Tryz.sizeOf318
 v46:=Tryz.zeroValue318
 t51:=Tryz.underlying85
 a51:=Tryz.isAgg85
 z51:=Tryz.sizeOf85
 v51:=Tryz.zeroValue85
 t53:=Tryz.underlying320
 a53:=Tryz.isAgg320
 z53:=Tryz.sizeOf320
 v53:=Tryz.zeroValue320
 t171:=Tryz.underlying319
 a171:=Tryz.isAgg319
 z171:=Tryz.sizeOf319
 v171:=Tryz.zeroValue319
 t173:=Tryz.underlying323
 a173:=Tryz.isAgg323
 z173:=Tryz.sizeOf323
 v173:=Tryz.zeroValue323
 t212:=Tryz.underlying388
 a212:=Tryz.isAgg388
 z212:=Tryz.sizeOf388
 v212:=Tryz.zeroValue388
 t213:=Tryz.underlying389
 a213:=Tryz.isAgg389
 z213:=Tryz.sizeOf389
 t232:=Tryz.underlying434
 a232:=Tryz.isAgg434
 z232:=Tryz.sizeOf434
 v232:=Tryz.zeroValue434
 t233:=Tryz.underlying435
 a233:=Tryz.isAgg435
 z233:=Tryz.sizeOf435
 v233:=Tryz.zeroValue435
 g17:=by kernel_rfl
 g18:=by kernel_rfl
 g19:=by kernel_rfl
 i0:=by kernel_rfl
 i2:=by kernel_rfl
 i3:=by kernel_rfl
 i4:=by kernel_rfl
 i5:=by kernel_rfl
 i9:=by kernel_rfl
 i20:=by kernel_rfl
 i37:=by kernel_rfl
 i46:=by kernel_rfl
 i51:=by kernel_rfl
 i53:=by kernel_rfl
 i171:=by kernel_rfl
 i173:=by kernel_rfl
 i212:=by kernel_rfl
 i232:=by kernel_rfl
 i233:=by kernel_rfl
 m17:=by kernel_rfl
 m18:=by kernel_rfl
 m19:=by kernel_rfl }
def Tryz.laysC172_ren:Go.Shelf.Ren:=⟨λ| 172=>140|244=>201|245=>202|247=>265|279=>266|280=>267|281=>268|282=>269|287=>304|316=>305|171=>68|205=>306|321=>322|322=>323|243=>113|246=>164|283=>231|284=>232|285=>233|286=>234|129=>296|317=>295|318=>297|319=>298|320=>299|337=>318|338=>319|n=>n,λ| 9=>9|3=>3|75=>175|76=>176|4=>4|5=>5|167=>345|37=>141|0=>0|85=>346|2=>2|168=>348|53=>320|175=>398|46=>318|210=>401|127=>225|145=>420|143=>418|21=>21|171=>319|173=>323|212=>388|51=>85|20=>20|213=>389|232=>434|233=>435|80=>117|n=>n,λ| 15=>4|16=>5|17=>1|18=>6|19=>7|n=>n⟩
theorem Tryz.laysC172:Go.Proofs.LaysC.n172 TP Tryz.laysC172_ren:={
 mixed:=by kernel_rfl
 f129:=Tryz.func296.trans (congrArg some (by kernel_rfl))
 f171:=Tryz.func68.trans (congrArg some (by kernel_rfl))
 f172:=Tryz.func140.trans (congrArg some (by kernel_rfl))
 f205:=Tryz.func306.trans (congrArg some (by kernel_rfl))
 f243:=Tryz.func113.trans (congrArg some (by kernel_rfl))
 f244:=Tryz.func201.trans (congrArg some (by kernel_rfl))
 f245:=Tryz.func202.trans (congrArg some (by kernel_rfl))
 f246:=Tryz.func164.trans (congrArg some (by kernel_rfl))
 f247:=Tryz.func265.trans (congrArg some (by kernel_rfl))
 f279:=Tryz.func266.trans (congrArg some (by kernel_rfl))
 f280:=Tryz.func267.trans (congrArg some (by kernel_rfl))
 f281:=Tryz.func268.trans (congrArg some (by kernel_rfl))
 f282:=Tryz.func269.trans (congrArg some (by kernel_rfl))
 f283:=Tryz.func231.trans (congrArg some (by kernel_rfl))
 f284:=Tryz.func232.trans (congrArg some (by kernel_rfl))
 f285:=Tryz.func233.trans (congrArg some (by kernel_rfl))
 f286:=Tryz.func234.trans (congrArg some (by kernel_rfl))
 f287:=Tryz.func304.trans (congrArg some (by kernel_rfl))
 f316:=Tryz.func305.trans (congrArg some (by kernel_rfl))
 f317:=Tryz.func295.trans (congrArg some (by kernel_rfl))
 f318:=Tryz.func297.trans (congrArg some (by kernel_rfl))
 f319:=Tryz.func298.trans (congrArg some (by kernel_rfl))
 f320:=Tryz.func299.trans (congrArg some (by kernel_rfl))
 f321:=Tryz.func322.trans (congrArg some (by kernel_rfl))
 f322:=Tryz.func323.trans (congrArg some (by kernel_rfl))
 f337:=Tryz.func318.trans (congrArg some (by kernel_rfl))
 f338:=Tryz.func319.trans (congrArg some (by kernel_rfl))
 t0:=Tryz.underlying0
 a0:=Tryz.isAgg0
 z0:=Tryz.sizeOf0
 v0:=Tryz.zeroValue0
 t2:=Tryz.underlying2
 a2:=Tryz.isAgg2
 z2:=Tryz.sizeOf2
 v2:=Tryz.zeroValue2
 t3:=Tryz.underlying3
 a3:=Tryz.isAgg3
 z3:=Tryz.sizeOf3
 v3:=Tryz.zeroValue3
 t4:=Tryz.underlying4
 a4:=Tryz.isAgg4
 z4:=Tryz.sizeOf4
 v4:=Tryz.zeroValue4
 t5:=Tryz.underlying5
 a5:=Tryz.isAgg5
 z5:=Tryz.sizeOf5
 v5:=Tryz.zeroValue5
 t9:=Tryz.underlying9
 a9:=Tryz.isAgg9
 z9:=Tryz.sizeOf9
 v9:=Tryz.zeroValue9
 t20:=Tryz.underlying20
 a20:=Tryz.isAgg20
 z20:=Tryz.sizeOf20
 v20:=Tryz.zeroValue20
 t21:=Tryz.underlying21
 a21:=Tryz.isAgg21
 z21:=Tryz.sizeOf21
 v21:=Tryz.zeroValue21
 t37:=Tryz.underlying141
 a37:=Tryz.isAgg141
 z37:=Tryz.sizeOf141
 v37:=Tryz.zeroValue141
 t46:=Tryz.underlying318
 a46:=Tryz.isAgg318
 z46:=Tryz.sizeOf318
 v46:=Tryz.zeroValue318
 t51:=Tryz.underlying85
 a51:=Tryz.isAgg85
 z51:=Tryz.sizeOf85
 v51:=Tryz.zeroValue85
 t53:=Tryz.underlying320
 a53:=Tryz.isAgg320
 z53:=Tryz.sizeOf320
 v53:=Tryz.zeroValue320
 t75:=Tryz.underlying175
 a75:=Tryz.isAgg175
 z75:=Tryz.sizeOf175
 v75:=Tryz.zeroValue175
 t76:=Tryz.underlying176
 a76:=Tryz.isAgg176
 z76:=Tryz.sizeOf176
 v76:=Tryz.zeroValue176
 t85:=Tryz.underlying346
 a85:=Tryz.isAgg346
 z85:=Tryz.sizeOf346
 v85:=Tryz.zeroValue346
 t127:=Tryz.underlying225
 a127:=Tryz.isAgg225
 z127:=Tryz.sizeOf225
 v127:=Tryz.zeroValue225
 t143:=Tryz.underlying418
 a143:=Tryz.isAgg418
 z143:=Tryz.sizeOf418
 v143:=Tryz.zeroValue418
 t145:=Tryz.underlying420
 a145:=Tryz.isAgg420
 z145:=Tryz.sizeOf420
 v145:=Tryz.zeroValue420
 t167:=Tryz.underlying345
 a167:=Tryz.isAgg345
 z167:=Tryz.sizeOf345
 v167:=Tryz.zeroValue345
 t168:=Tryz.underlying348
 a168:=Tryz.isAgg348
 z168:=Tryz.sizeOf348
 v168:=Tryz.zeroValue348
 t171:=Tryz.underlying319
 a171:=Tryz.isAgg319
 z171:=Tryz.sizeOf319
 v171:=Tryz.zeroValue319
 t173:=Tryz.underlying323
 a173:=Tryz.isAgg323
 z173:=Tryz.sizeOf323
 v173:=Tryz.zeroValue323
 t175:=Tryz.underlying398
 a175:=Tryz.isAgg398
 z175:=Tryz.sizeOf398
 v175:=Tryz.zeroValue398
 t210:=Tryz.underlying401
 a210:=Tryz.isAgg401
 z210:=Tryz.sizeOf401
 v210:=Tryz.zeroValue401
 t212:=Tryz.underlying388
 a212:=Tryz.isAgg388
 z212:=Tryz.sizeOf388
 v212:=Tryz.zeroValue388
 t213:=Tryz.underlying389
 a213:=Tryz.isAgg389
 z213:=Tryz.sizeOf389
 t232:=Tryz.underlying434
 a232:=Tryz.isAgg434
 z232:=Tryz.sizeOf434
 v232:=Tryz.zeroValue434
 t233:=Tryz.underlying435
 a233:=Tryz.isAgg435
 z233:=Tryz.sizeOf435
 v233:=Tryz.zeroValue435
 g15:=by kernel_rfl
 g16:=by kernel_rfl
 g17:=by kernel_rfl
 g18:=by kernel_rfl
 g19:=by kernel_rfl
 t80:=Tryz.underlying117
 a80:=Tryz.isAgg117
 z80:=Tryz.sizeOf117
 v80:=Tryz.zeroValue117
 i0:=by kernel_rfl
 i2:=by kernel_rfl
 i3:=by kernel_rfl
 i4:=by kernel_rfl
 i5:=by kernel_rfl
 i9:=by kernel_rfl
 i20:=by kernel_rfl
 i21:=by kernel_rfl
 i37:=by kernel_rfl
 i46:=by kernel_rfl
 i51:=by kernel_rfl
 i53:=by kernel_rfl
 i75:=by kernel_rfl
 i76:=by kernel_rfl
 i80:=by kernel_rfl
 i85:=by kernel_rfl
 i127:=by kernel_rfl
 i143:=by kernel_rfl
 i145:=by kernel_rfl
 i167:=by kernel_rfl
 i168:=by kernel_rfl
 i171:=by kernel_rfl
 i173:=by kernel_rfl
 i175:=by kernel_rfl
 i210:=by kernel_rfl
 i212:=by kernel_rfl
 i232:=by kernel_rfl
 i233:=by kernel_rfl
 m15:=by kernel_rfl
 m16:=by kernel_rfl
 m17:=by kernel_rfl
 m18:=by kernel_rfl
 m19:=by kernel_rfl
 c0:=by kernel_rfl
 c2:=by kernel_rfl
 c3:=by kernel_rfl
 c4:=by kernel_rfl
 c5:=by kernel_rfl
 c9:=by kernel_rfl
 c20:=by kernel_rfl
 c21:=by kernel_rfl
 c37:=by kernel_rfl
 c46:=by kernel_rfl
 c51:=by kernel_rfl
 c53:=by kernel_rfl
 c75:=by kernel_rfl
 c76:=by kernel_rfl
 c80:=by kernel_rfl
 c85:=by kernel_rfl
 c127:=by kernel_rfl
 c143:=by kernel_rfl
 c145:=by kernel_rfl
 c167:=by kernel_rfl
 c168:=by kernel_rfl
 c171:=by kernel_rfl
 c173:=by kernel_rfl
 c175:=by kernel_rfl
 c210:=by kernel_rfl
 c212:=by kernel_rfl
 c213:=by kernel_rfl
 c232:=by kernel_rfl
 c233:=by kernel_rfl }
def Tryz.lays219_ren:Go.Shelf.Ren:=⟨λ| 219=>163|217=>227|225=>228|224=>229|267=>230|266=>293|314=>294|n=>n,λ| 9=>9|3=>3|4=>4|5=>5|46=>318|146=>385|51=>85|n=>n,λ| 1=>0|n=>n⟩
theorem Tryz.lays219:Go.Proofs.Lays.n219 TP Tryz.lays219_ren:={
 mixed:=by kernel_rfl
 f217:=Tryz.func227.trans (congrArg some (by kernel_rfl))
 f219:=Tryz.func163.trans (congrArg some (by kernel_rfl))
 f224:=Tryz.func229.trans (congrArg some (by kernel_rfl))
 f225:=Tryz.func228.trans (congrArg some (by kernel_rfl))
 f266:=Tryz.func293.trans (congrArg some (by kernel_rfl))
 f267:=Tryz.func230.trans (congrArg some (by kernel_rfl))
 f314:=Tryz.func294.trans (congrArg some (by kernel_rfl))
 t3:=Tryz.underlying3
 a3:=Tryz.isAgg3
 z3:=Tryz.sizeOf3
 v3:=Tryz.zeroValue3
 t4:=Tryz.underlying4
 a4:=Tryz.isAgg4
 z4:=Tryz.sizeOf4
 v4:=Tryz.zeroValue4
 t5:=Tryz.underlying5
 a5:=Tryz.isAgg5
 z5:=Tryz.sizeOf5
 v5:=Tryz.zeroValue5
 t9:=Tryz.underlying9
 a9:=Tryz.isAgg9
 z9:=Tryz.sizeOf9
 v9:=Tryz.zeroValue9
 t46:=Tryz.underlying318
 a46:=Tryz.isAgg318
 z46:=Tryz.sizeOf318
 v46:=Tryz.zeroValue318
 t51:=Tryz.underlying85
 a51:=Tryz.isAgg85
 z51:=Tryz.sizeOf85
 v51:=Tryz.zeroValue85
 t146:=Tryz.underlying385
 a146:=Tryz.isAgg385
 z146:=Tryz.sizeOf385
 v146:=Tryz.zeroValue385
 g1:=by kernel_rfl }
def Tryz.lays143_ren:Go.Shelf.Ren:=⟨λ| 143=>166|219=>163|217=>227|225=>228|224=>229|267=>230|266=>293|314=>294|n=>n,λ| 9=>9|3=>3|4=>4|5=>5|46=>318|146=>385|51=>85|n=>n,λ| 1=>0|n=>n⟩
theorem Tryz.lays143:Go.Proofs.Lays.n143 TP Tryz.lays143_ren:={
 mixed:=by kernel_rfl
 f143:=Tryz.func166.trans (congrArg some (by kernel_rfl))
 f217:=Tryz.func227.trans (congrArg some (by kernel_rfl))
 f219:=Tryz.func163.trans (congrArg some (by kernel_rfl))
 f224:=Tryz.func229.trans (congrArg some (by kernel_rfl))
 f225:=Tryz.func228.trans (congrArg some (by kernel_rfl))
 f266:=Tryz.func293.trans (congrArg some (by kernel_rfl))
 f267:=Tryz.func230.trans (congrArg some (by kernel_rfl))
 f314:=Tryz.func294.trans (congrArg some (by kernel_rfl))
 t3:=Tryz.underlying3
 a3:=Tryz.isAgg3
 z3:=Tryz.sizeOf3
 v3:=Tryz.zeroValue3
 t4:=Tryz.underlying4
 a4:=Tryz.isAgg4
 z4:=Tryz.sizeOf4
 v4:=Tryz.zeroValue4
 t5:=Tryz.underlying5
 a5:=Tryz.isAgg5
 z5:=Tryz.sizeOf5
 v5:=Tryz.zeroValue5
 t9:=Tryz.underlying9
 a9:=Tryz.isAgg9
 z9:=Tryz.sizeOf9
 v9:=Tryz.zeroValue9
 t46:=Tryz.underlying318
 a46:=Tryz.isAgg318
 z46:=Tryz.sizeOf318
 v46:=Tryz.zeroValue318
 t51:=Tryz.underlying85
 a51:=Tryz.isAgg85
 z51:=Tryz.sizeOf85
 v51:=Tryz.zeroValue85
 t146:=Tryz.underlying385
 a146:=Tryz.isAgg385
 z146:=Tryz.sizeOf385
 v146:=Tryz.zeroValue385
 g1:=by kernel_rfl }
def Tryz.lays138_ren:Go.Shelf.Ren:=⟨λ| 138=>165|195=>235|218=>236|143=>166|219=>163|217=>227|225=>228|224=>229|267=>230|266=>293|314=>294|n=>n,λ| 9=>9|3=>3|4=>4|5=>5|0=>0|46=>318|146=>385|51=>85|n=>n,λ| 1=>0|n=>n⟩
theorem Tryz.lays138:Go.Proofs.Lays.n138 TP Tryz.lays138_ren:={
 mixed:=by kernel_rfl
 f138:=Tryz.func165.trans (congrArg some (by kernel_rfl))
 f143:=Tryz.func166.trans (congrArg some (by kernel_rfl))
 f195:=Tryz.func235.trans (congrArg some (by kernel_rfl))
 f217:=Tryz.func227.trans (congrArg some (by kernel_rfl))
 f218:=Tryz.func236.trans (congrArg some (by kernel_rfl))
 f219:=Tryz.func163.trans (congrArg some (by kernel_rfl))
 f224:=Tryz.func229.trans (congrArg some (by kernel_rfl))
 f225:=Tryz.func228.trans (congrArg some (by kernel_rfl))
 f266:=Tryz.func293.trans (congrArg some (by kernel_rfl))
 f267:=Tryz.func230.trans (congrArg some (by kernel_rfl))
 f314:=Tryz.func294.trans (congrArg some (by kernel_rfl))
 t0:=Tryz.underlying0
 a0:=Tryz.isAgg0
 z0:=Tryz.sizeOf0
 v0:=Tryz.zeroValue0
 t3:=Tryz.underlying3
 a3:=Tryz.isAgg3
 z3:=Tryz.sizeOf3
 v3:=Tryz.zeroValue3
 t4:=Tryz.underlying4
 a4:=Tryz.isAgg4
 z4:=Tryz.sizeOf4
 v4:=Tryz.zeroValue4
 t5:=Tryz.underlying5
 a5:=Tryz.isAgg5
 z5:=Tryz.sizeOf5
 v5:=Tryz.zeroValue5
 t9:=Tryz.underlying9
 a9:=Tryz.isAgg9
 z9:=Tryz.sizeOf9
 v9:=Tryz.zeroValue9
 t46:=Tryz.underlying318
 a46:=Tryz.isAgg318
 z46:=Tryz.sizeOf318
 v46:=Tryz.zeroValue318
 t51:=Tryz.underlying85
 a51:=Tryz.isAgg85
 z51:=Tryz.sizeOf85
 v51:=Tryz.zeroValue85
 t146:=Tryz.underlying385
 a146:=Tryz.isAgg385
 z146:=Tryz.sizeOf385
 v146:=Tryz.zeroValue385
 g1:=by kernel_rfl }
end Go.Proofs.YtoapoaoelpcniaaGreatDoor
