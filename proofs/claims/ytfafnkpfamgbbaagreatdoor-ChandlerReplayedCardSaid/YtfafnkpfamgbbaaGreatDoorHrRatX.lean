/-
  CONTRACTS: Rate; ref.Possible. No conditions but those in the theorems' heads.
  CONTRACTS: marks that are odd; a test without a mark. No conditions but those in the theor
  THE LIBRARY'S CONTRACTS AT THIS PROGRAM: what they ask of its bodies and types, written by
-/
import Derived.Test.YtfafnkpfamgbbaaGreatDoorAbsCutX
import Derived.Test.YtfafnkpfamgbbaaGreatDoorHrChkX
import Derived.Shelf.LaysM
import Derived.Shelf.LaysC
import Derived.Shelf.Strconv.Itoa3
import Derived.Shelf.Strconv.AtoiAll
import Derived.Shelf.Strconv.ErrVarAll
import Derived.Shelf.Strings.Search3
import Derived.Shelf.Strings.Count
import Derived.Test.YtfafnkpfamgbbaaGreatDoorProg
set_option linter.unusedSimpArgs false
set_option linter.unusedVariables false
open Go.Proofs.Tryz renaming prog->TP
namespace Go.Proofs.YtfafnkpfamgbbaaGreatDoor
namespace Abs
set_option maxRecDepth 4000
def Frac.le (f g:Frac):Prop:=f.top*g.below<=g.top*f.below
theorem Frac.lt_iff (f g:Frac):f.lt g=true↔¬ g.le f:=by
 simp only [Frac.lt,Frac.le,decide_eq_true_eq];omega
theorem Frac.lt_false (f g:Frac):f.lt g=false↔g.le f:=by
 simp only [Frac.lt,Frac.le,decide_eq_false_iff_not];omega
theorem Frac.le_refl (f:Frac):f.le f:=pZ _
theorem Frac.le_total (f g:Frac):f.le g\/g.le f:=by simp only [Frac.le];omega
theorem Frac.le_trans {f g h:Frac} (hf:0<f.below) (hg:0<g.below) (hh:0<h.below) (h1:f.le g) (h2:g.le h):f.le h:=by
 unfold Frac.le at *
 have e1:f.top*g.below*h.below<=g.top*f.below*h.below:=yi h1 (D1 hh);have e2:g.top*h.below*f.below<=h.top*g.below*f.below:=yi h2 (D1 hf);have e3:f.top*h.below*g.below<=h.top*f.below*g.below:=by
  have a1:f.top*h.below*g.below=f.top*g.below*h.below:=by rw [vh,wY h.below,<-vh]
  have a2:g.top*f.below*h.below=g.top*h.below*f.below:=by rw [vh,wY f.below,<-vh]
  have a3:h.top*f.below*g.below=h.top*g.below*f.below:=by rw [vh,wY f.below,<-vh]
  omega
 exact Int.le_of_mul_le_mul_right e3 hg
theorem Frac.le_int (f:Frac) (n):f.le ⟨n,1⟩↔f.top<=n*f.below:=by simp [Frac.le]
theorem Frac.int_le (f) (n):Frac.le ⟨n,1⟩ f↔n*f.below<=f.top:=by simp [Frac.le]
theorem Frac.down_le {f:Frac} (hf:0<f.below) (n):n<=f.down↔n*f.below<=f.top:=w8 hf
theorem Frac.up_le {f:Frac} (hf:0<f.below) (n):f.up<=n↔f.top<=n*f.below:=by
 unfold Frac.up;have:=w8 (a:=-n) (b:=-f.top) hf;rw [Ep] at this;constructor
 .intro h;have:=this.1 (by omega);omega
 .intro h;have:=this.2 (by omega);omega
def GR (l:List (Frac×Frac)) (q:Frac×Frac):Prop :=
 ((∃ p,p∈l/\p.1=q.1)/\∀ p,p∈l->p.1.le q.1)/\((∃ p,p∈l/\p.2=q.2)/\∀ p,p∈l->q.2.le p.2)
theorem J4 {l} {q p} (hl:∀ x,x∈l->jL x) (hq:GR l q) (hqB:jL q) (hp:jL p):GR (l++[p]) (iM q p):=by
 have n1:q.1≠⟨0,0⟩:=λh=>by have:=hqB.2.2.1;rw [h] at this;exact absurd this (by decide)
 have n2:q.2≠⟨0,0⟩:=λh=>by have:=hqB.2.2.2;rw [h] at this;exact absurd this (by decide)
 obtain ⟨⟨⟨x,hx,ex⟩,h1⟩,⟨y,hy,ey⟩,h2⟩:=hq;unfold iM ji jj;simp only [decide_eq_false n1,decide_eq_false n2,mN];refine ⟨?_,?_⟩
 .dsimp only;cases hc:q.1.lt p.1
  .rw [Frac.lt_false] at hc;refine ⟨⟨x,by simp [hx],ex⟩,λz hz=>?_⟩;rcases ea.1 hz with hz | hz
   .exact h1 z hz
   .rw [fT.1 hz];exact hc
  .have hc':q.1.le p.1:=(Frac.le_total _ _).resolve_right (by rw [Frac.lt_iff] at hc;exact hc);refine ⟨⟨p,by simp,rfl⟩,λz hz=>?_⟩;rcases ea.1 hz with hz | hz
   .exact Frac.le_trans (hl z hz).2.2.1 hqB.2.2.1 hp.2.2.1 (h1 z hz) hc'
   .rw [fT.1 hz];exact Frac.le_refl _
 .dsimp only;cases hc:p.2.lt q.2
  .rw [Frac.lt_false] at hc;refine ⟨⟨y,by simp [hy],ey⟩,λz hz=>?_⟩;rcases ea.1 hz with hz | hz
   .exact h2 z hz
   .rw [fT.1 hz];exact hc
  .have hc':p.2.le q.2:=(Frac.le_total _ _).resolve_right (by rw [Frac.lt_iff] at hc;exact hc);refine ⟨⟨p,by simp,rfl⟩,λz hz=>?_⟩;rcases ea.1 hz with hz | hz
   .exact Frac.le_trans hp.2.2.2 hqB.2.2.2 (hl z hz).2.2.2 hc' (h2 z hz)
   .rw [fT.1 hz];exact Frac.le_refl _
theorem AB:∀ (r l) (q),(∀ x,x∈l++r->jL x)->GR l q->jL q->GR (l++r) (r.foldl iM q)
 |[],l,q,_,h,_=>by simpa using h
 |p::r,l,q,hb,h,hq=>by
  have hp:=hb p (by simp);have:=AB r (l++[p]) (iM q p) (by simpa using hb) (J4 (λx hx=>hb x (by simp [hx])) h hq hp) (yQ (.inr hq) hp);simpa using this
theorem zN {t} (hok:TestOk t):GR (fe t) (ef t):=by
 have hB:=mT hok;have hne:=E6 hok.two;unfold ef
 cases hp:fe t with
 |nil=>exact absurd hp hne
 |cons p r =>
  rw [hp] at hB;have hpB:=hB p (by simp);have e:iM iI p=p:=by simp [iM,ji,jj,iI]
  rw [my,e];have:=AB r [p] p (by simpa using hB) ⟨⟨⟨p,by simp,rfl⟩,by simp [Frac.le_refl]⟩,⟨p,by simp,rfl⟩,by simp [Frac.le_refl]⟩ hpB;simpa using this
def iv (t:HrTest):Bool:=(dH t).2
theorem N8 {t} (hok:TestOk t):iv t=true↔∀ p,p∈fe t->∀ q,q∈fe t->p.1.le q.2:=by
 have hb:=zN hok;have hB:=mT hok;have hr:=yD hok;have e:iv t=true↔(ef t).1.le (ef t).2:=by
  rw [iv,dH];dsimp only;rw [zt,Frac.lt_false]
 rw [e];constructor
 .intro h p hp q hq;exact Frac.le_trans (hB p hp).2.2.1 hr.2.2.2 (hB q hq).2.2.2 (Frac.le_trans (hB p hp).2.2.1 hr.2.2.1 hr.2.2.2 (hb.1.2 p hp) h) (hb.2.2 q hq)
 .intro h;obtain ⟨⟨p,hp,e1⟩,_⟩:=hb.1;obtain ⟨⟨q,hq,e2⟩,_⟩:=hb.2;rw [<-e1,<-e2];exact h p hp q hq
theorem wu:∀ (l) (last),kI last l=false->(∀ m,m∈l->last<m.minute)/\l.Pairwise λa b=>a.minute<b.minute
 |[],_,_=>⟨λ_ h=>(eD h).elim,.nil⟩
 |m::r,last,h=>by
  rw [kI,Nu] at h;have h1:last<m.minute:=by simpa using h.1
  have ⟨h2,h3⟩:=wu r m.minute h.2;refine ⟨λx hx=>?_,.cons h2 h3⟩;rcases bw.1 hx with rfl | hx
  .exact h1
  .have:=h2 x hx;omega
theorem gz {nk} {t} (h:b9 nk t=0):TestOk t/\0<=t.kind/\t.kind<nk:=by
 unfold b9 at h;split at h
 .rename_i h1;split at h
  .rename_i h2;split at h
   .rename_i h3;split at h
    .rename_i h4;split at h
     .cases h
     .rename_i h5;simp [ar] at h1 h2 h3;have h5':=wu _ _ (Js.2 h5);rw [iV] at h4;refine ⟨⟨⟨by omega,λm hm=>?_,by omega⟩,by omega,h5'.2⟩,by omega,by omega⟩;have:=h4 m hm;simp [nO,ar] at this;omega
    .cases h
   .cases h
  .cases h
 .cases h
theorem Ij {s} {t} (h:cd s [t]=0):(hrCheck s).2.2=0/\b9 s.kinds.length t=0:=by
 unfold cd at h;split at h
 .rename_i hc;refine ⟨hc,?_⟩;simp only [cV] at h;split at h<;>assumption
 .contradiction
def dS (s:HrShop) (t:HrTest):Span×Int:=if cd s [t]=0 then (if iv t=true then ((dH t).1,0) else (⟨0,0⟩,9)) else (⟨0,0⟩,cd s [t])
theorem ZA (s) (t):ah TP 167 [s.pv,t.pv] (.tuple [(dS s t).1.pv,.int .i64 (dS s t).2]):=by
 refine aa (ai (by kernel_rfl) rfl Yf) rfl ?_;simp only [go_sem,simprocAttr];refine bf (oK s [t] true (by simp)) (by simp only [go_sem,simprocAttr]) (.int _ _) ?_;simp only [go_sem,simprocAttr];cases h0:(cd s [t] != 0)
 rotate_left
 .have h0':¬ cd s [t]=0:=by simpa using h0
  simp only [dS,if_neg h0',go_sem,simprocAttr]
 have h0':cd s [t]=0:=by simpa using h0
 have hok:=(gz (Ij h0').2).1;simp only [go_sem,simprocAttr];refine ae (AK t hok) rfl ?_;simp only [Span.pv,go_sem,simprocAttr];cases h1:(dH t).2
 .simp only [dS,h0',iv,h1,go_sem,simprocAttr]
 .simp only [dS,h0',iv,h1,go_sem,simprocAttr]
def u0 {α:Type}:List α->List (α×α)
 |[]=>[]
 |x::r=>r.map (λy=>(x,y))++u0 r
theorem qr {α} (x:α):∀ l,∀ q,q∈u0 (l++[x])↔q∈u0 l\/∃ y,y∈l/\q=(y,x)
 |[],q=>by simp [u0]
 |z::l,q=>by
  rw [hG,u0,u0,ea,ea,qr x l,bA,ea];simp only [bB,cm,bw,eD,or_false];constructor
  .rintro ((h | h) | h | ⟨y,hy,h⟩)
   .exact .inl (.inl h)
   .exact .inr ⟨z,.inl rfl,h⟩
   .exact .inl (.inr h)
   .exact .inr ⟨y,.inr hy,h⟩
  .rintro ((h | h) | ⟨y,rfl | hy,h⟩)
   .exact .inl (.inl h)
   .exact .inr (.inl h)
   .exact .inl (.inr h)
   .exact .inr (.inr ⟨y,hy,h⟩)
theorem xO (e):∀ (rest done) (q),(q∈ij e done rest\/∃ p,p∈u0 done/\q=lP e p.1 p.2)↔∃ p,p∈u0 (done++rest)/\q=lP e p.1 p.2
 |[],done,q=>by simp [ij]
 |b::r,done,q=>by
  have:=xO e r (done++[b]) q;rw [cE,Jc] at this;rw [<-this,ij,ea,ec];constructor
  .rintro ((⟨a,ha,h⟩ | h) | ⟨p,hp,h⟩)
   .exact .inr ⟨(a,b),(qr b done _).2 (.inr ⟨a,ha,rfl⟩),h.symm⟩
   .exact .inl h
   .exact .inr ⟨p,(qr b done _).2 (.inl hp),h⟩
  .rintro (h | ⟨p,hp,h⟩)
   .exact .inl (.inr h)
   .rcases (qr b done _).1 hp with hp | ⟨a,ha,rfl⟩
    .exact .inr ⟨p,hp,h⟩
    .exact .inl (.inl ⟨a,ha,h.symm⟩)
theorem LX (t) (q):q∈fe t↔∃ p,p∈u0 t.marks/\q=lP t.error p.1 p.2:=by
 have:=xO t.error t.marks [] q;simpa [u0,fe] using this
def eO (m:HrMark):AV:=.p m.pv
attribute [go_sem] eO
def uq:AV:=.p (.agg [.int .i64 0,.int .i64 0])
theorem Rw (l) (b) (h) (hl:l≠[]) (hlen:l.length<=10) :
  aC TP 239 [.p (.slice 2 (l.map HrMark.pv) b)] h (λr h'=>r=.ret (.slice h.length l.length 0 l.length)/\h'=h++[.row 2 (l.map eO)]):=by
 refine aB (ai (by kernel_rfl) rfl Xq) rfl ?_;have hne:¬ (l.map HrMark.pv=[]):=by simpa using hl
 have hrm:l.length<=aw:=by simp [aw];omega
 have hm:(l.map HrMark.pv).map AV.p=l.map eO:=by simp [eO]
 have hne2:¬ (l.map eO=[]):=by simpa using hl
 simp only [hne,hrm,hm,hne2,go_sem,simprocAttr]
theorem Oz (l:List HrMark) (i id) (h) (hid:h[id]?=some (.row 2 (l.map eO))) (hi:i<l.length) (hlen:l.length<=10) :
  aC TP 238 [.slice id l.length 0 l.length,.p (.int .i64 i),.p (.int .i64 (i+1:Nat))] h
   (λr h'=>r=.ret (.slice id l.length 0 (l.length-1))/\h'=h.set id (.row 2 ((l.eraseIdx i).map eO++[uq]))):=by
 refine aB (ai (by kernel_rfl) rfl Xr) rfl ?_;have h1:(i:Int)<=((i+1:Nat):Int):=by omega
 have h2:((i+1:Nat):Int)<=(l.length:Int):=by omega
 have h3:((i:Int)==((i+1:Nat):Int))=false:=by simp;omega
 have h0:(0:Int)<=(i:Int):=by omega
 have h4:(0:Int)+(l.length:Int)<=(l.length:Int):=by omega
 have h5:(i:Int)<=(l.length:Int):=by omega
 have h6:i+1+(l.length-(i+1))<=l.length:=by omega
 have h7:¬ (i=l.length):=by omega
 have hys:List.take (l.length-(i+1)) (List.drop (i+1) (List.map eO l))=(l.drop (i+1)).map eO:=by
  rw [<-List.map_drop,ga (by simp)]
 have h8:i+(l.length-(i+1))=l.length-1:=by omega
 have h9:l.length-1<=l.length:=by omega
 obtain ⟨z,hz⟩:∃ z,List.drop (l.length-1) (List.map eO l)=[z]:=by
  have:(List.drop (l.length-1) (List.map eO l)).length=1:=by simp;omega
  match hd:List.drop (l.length-1) (List.map eO l),this with
  |[z],_=>exact ⟨z,rfl⟩
 have her:List.take i (List.map eO l)++((l.drop (i+1)).map eO++[z])=(l.eraseIdx i).map eO++[z]:=by
  rw [<-cE,<-Ej,<-bA,Tc]
 have hel:(l.eraseIdx i).length=l.length-1:=by rw [tO,if_pos hi]
 have hgs:∀ x,(h.set id x)[id]?=some x:=λx=>by rw [iP (aE.1 hid).1]
 have h10:((l.length-1:Nat):Int)<=(l.length:Int):=by omega
 have h11:(0:Int)<=((l.length-1:Nat):Int):=by omega
 have h12:l.length-1+1=l.length:=by omega
 have h13:l.length-(l.length-1)=1:=by omega
 have h14:l.length-1+(l.length-(l.length-1))<=l.length:=by omega
 have h15:¬ ((l.length:Int)<=((l.length-1:Nat):Int)):=by omega
 have htk:List.take (l.length-1) (List.map eO (l.eraseIdx i)++[z])=List.map eO (l.eraseIdx i):=d9 (by rw [dL,hel]);have sk:List.drop l.length (List.map eO (l.eraseIdx i)++[z])=[]:=DV (by simp [hel];omega);simp only [h15,htk,sk,hid,h0,h1,h2,h3,h4,h5,h6,h7,hys,h8,h9,hz,her,hel,hgs,h10,h11,h12,h13,Nat.sub_zero,jv,List.length_drop,cE,tL,aI,bh,bM,aW,Jg,Jo,uq,go_sem,simprocAttr]
def yI (l:List Int):PV:=.slice 1 (l.map aK) false
def wo (t:HrTest) (i:Nat):HrTest:={ t with marks:=t.marks.eraseIdx i }
def nL (t:HrTest):Nat->List HrMark->List Int
 |_,[]=>[]
 |i,_::r=>(if iv (wo t i)=true then [(i:Int)] else [])++nL t (i+1) r
def xr (t:HrTest):List Int:=if iv t=true then [] else nL t 0 t.marks
theorem VP {t} (hok:TestOk t) {i} (h3:3<=t.marks.length):TestOk (wo t i):=by
 have hs:(t.marks.eraseIdx i).Sublist t.marks:=List.eraseIdx_sublist ..;have hl:(t.marks.eraseIdx i).length<=t.marks.length/\2<=(t.marks.eraseIdx i).length:=by
  rw [tO];split<;>omega
 exact ⟨⟨pn hl.1 hok.len,λm hm=>hok.all m (hs.subset hm),hok.err⟩,hl.2,hok.sorted.sublist hs⟩
theorem N7 {t} (hok:TestOk t) (h:t.marks.length=2):iv t=true:=by
 rw [N8 hok]
 match hm:t.marks,h with
 |[a,b],_ =>
  intro p hp q hq;have e:fe t=[lP t.error a b]:=by simp [fe,ij,hm]
  rw [e,fT] at hp hq;subst hp hq;have h1:=mT hok (lP t.error a b) (by rw [e];simp);have h2:0<b.minute-a.minute:=h1.2.2.1;have h3:=hok.err;show _*_<=_*_;simp only [lP];exact yi (by omega) (by omega)
def kB (s:HrShop) (t:HrTest):List Int×Int:=if cd s [t]=0 then (xr t,0) else ([],cd s [t])
set_option maxHeartbeats 2000000 in
theorem UL (s) (t):ah TP 168 [s.pv,t.pv] (.tuple [yI (kB s t).1,.int .i64 (kB s t).2]):=by
 refine dC (ai (by kernel_rfl) rfl Ye) rfl ?_;simp only [go_sem,simprocAttr];refine bf (oK s [t] true (by simp)) (by simp only [go_sem,simprocAttr]) (.int _ _) ?_;simp only [go_sem,simprocAttr];cases h0:(cd s [t] != 0)
 rotate_left
 .have h0':¬ cd s [t]=0:=by simpa using h0
  simp only [kB,if_neg h0',yI,cm,go_sem,simprocAttr];exact ⟨_,_,rfl,rfl,.inr ⟨rfl,1,rfl⟩,.inl rfl,trivial⟩
 have h0':cd s [t]=0:=by simpa using h0
 have hok:=(gz (Ij h0').2).1;have hsp:kB s t=(xr t,0):=by rw [kB,if_pos h0']
 rw [hsp];simp only [go_sem,simprocAttr];refine ae (AK t hok) rfl ?_;simp only [go_sem,simprocAttr];cases h1:(dH t).2;rotate_left
 .simp only [xr,iv,h1,yI,cm,go_sem,simprocAttr];exact ⟨_,_,rfl,rfl,.inr ⟨rfl,1,rfl⟩,.inl rfl,trivial⟩
 have hnp:¬ iv t=true:=by simp [iv,h1]
 have h3:3<=t.marks.length:=by
  rcases dr t.marks.length 3 with h | h
  .have:=hok.two;exact absurd (N7 hok (by omega)) hnp
  .exact h
 have hlen:=hok.len;have hne:t.marks≠[]:=by intro h;rw [h] at h3;simp at h3
 have hsp2:xr t=nL t 0 t.marks:=by rw [xr,if_neg hnp]
 rw [hsp2];simp only [go_sem,simprocAttr];refine cg 4 1 (by simp only [go_sem,simprocAttr]) ?_;simp only [go_sem,simprocAttr]
 refine dZ [3,8,28] (σ:=List HrMark×List HrMark×List Int×AObj×Heap)
  (λq=>t.marks=q.1++q.2.1/\nL t 0 t.marks=q.2.2.1++nL t q.1.length q.2.1/\q.2.2.1.length<=q.1.length/\(q.2.2.2.1=.row 3 [.p t.pv]\/∃ id ver n,q.2.2.2.1=.row 3 [.agg [.p (.int .i64 t.kind),.p (.int .i64 t.error),.slice id ver 0 n]])) (λq=>q.2.1.length)
  (λq=>[(4,.slice 3 q.2.2.1.length 0 q.2.2.1.length),(29,.p (.int .i64 q.1.length))]) (λq=>[.row 3 [.p s.pv],q.2.2.2.1,.row 2 [.p (dH t).1.pv],.row 1 (q.2.2.1.map λn=>.p (aK n))]++q.2.2.2.2) ([],t.marks,[],.row 3 [.p t.pv],[]) ⟨rfl,rfl,bM _,.inl rfl⟩ (by simp only [Span.pv,cm,aW,go_sem,simprocAttr]) ?_ ?_
 .simp only [go_sem,simprocAttr]
 rintro ⟨done,rest,out,a,g⟩ ⟨e1,e2,e3,ha⟩
 dsimp only at e1 e2 e3 ha
 cases rest with
 |nil =>
  have hlt:¬ ((done.length:Int)<(t.marks.length:Int)):=by rw [e1];simp
  rw [nL,aW] at e2;simp only [hlt,decide_false,e2,yI,go_sem,simprocAttr]
  exact .inl rfl
 |cons b r =>
  obtain ⟨hx,hlt⟩:=de e1;have hlen1:=congrArg List.length e1;simp only [aI,ct] at hlen1;have hi:done.length<t.marks.length:=by omega
  have hnx:IntKind.i64.wrap ((done.length:Int)+1)=(((done++[b]).length:Nat):Int):=ba (by omega) (by simp [aw];omega) (by simp);have hn1:IntKind.i64.wrap ((done.length:Int)+1)=((done.length+1:Nat):Int):=by rw [hnx];simp
  have hwo:=VP hok (i:=done.length) h3;simp only [hlt,decide_true,go_sem,simprocAttr];refine cy (Rw t.marks false _ hne hlen) ?_;simp only [hn1,go_sem,simprocAttr];have g0:=lq (lo:=g) rfl;have s0:=nV (lo:=g) rfl;have gg:=lp (lo:=g) rfl;have ss:=nU (lo:=g) rfl;refine cy (Oz t.marks done.length _ _ (by simp) hi hlen) ?_;have hrm:out.length+1<=aw:=by simp [aw];omega
  have hog:nL t done.length (b::r)=(if iv (wo t done.length)=true then [((done.length:Nat):Int)] else [])++nL t (done.length+1) r:=rfl;rw [hog] at e2;have hfz:∀ n h,aU (ci n h) (List.map eO (t.marks.eraseIdx done.length)++[uq])=some ((wo t done.length).marks.map HrMark.pv++[.agg [.int .i64 0,.int .i64 0]]):=by
   intro n h;have e:List.map eO (t.marks.eraseIdx done.length)++[uq]=List.map AV.p ((wo t done.length).marks.map HrMark.pv++[.agg [.int .i64 0,.int .i64 0]]):=by simp [eO,uq,wo]
   rw [e];exact dq (er n h) id _ |>.trans (by simp)
  have htk2:List.take (t.marks.length-1) ((t.marks.eraseIdx done.length).map HrMark.pv++[.agg [.int .i64 0,.int .i64 0]])=(t.marks.eraseIdx done.length).map HrMark.pv:=by
   rw [d9 (by rw [dL,tO,if_pos hi])]
  have hel2:(t.marks.eraseIdx done.length).length+1=t.marks.length:=by rw [tO,if_pos hi];omega
  have hfl:t.marks.length-1<=t.marks.length:=by omega
  rcases ha with rfl | ⟨id,ver,n,rfl⟩ <;>
  (simp only [s0,go_sem,simprocAttr]
   refine bf (AK (wo t done.length) hwo) ?_ (.tuple ?_) ?_
   .simp only [g0,hfz,htk2,hel2,aI,bh,wo,go_sem,simprocAttr]
   .exact Flat.cons (.agg (Flat.cons (.int _ _) (Flat.cons (.int _ _) Flat.nil))) (Flat.cons (.bool _) Flat.nil)
   simp only [cE,aI,bh,gg,ss,go_sem,simprocAttr];cases hp:(dH (wo t done.length)).2
   .simp only [go_sem,simprocAttr];refine aZ (done++[b],r,out,_,g++[AObj.row 2 (List.map eO (t.marks.eraseIdx done.length)++[uq]),AObj.row 2 [AV.p (PV.agg [PV.int IntKind.i64 (dH (wo t done.length)).fst.lo,PV.int IntKind.i64 (dH (wo t done.length)).fst.hi])]]) ⟨by rw [e1];simp,by rw [e2,if_neg (by rw [iv,hp];simp)];simp,by simp;omega,.inr ⟨g.length+1+1+1+1,t.marks.length,t.marks.length-1,rfl⟩⟩ (j3 _) ?_ ?_
    .simp only [go_sem,simprocAttr]
    .simp only [hnx,go_sem,simprocAttr]
   .simp only [bh,hrm,go_sem,simprocAttr];refine aZ (done++[b],r,out++[((done.length:Nat):Int)],_,g++[AObj.row 2 (List.map eO (t.marks.eraseIdx done.length)++[uq]),AObj.row 2 [AV.p (PV.agg [PV.int IntKind.i64 (dH (wo t done.length)).fst.lo,PV.int IntKind.i64 (dH (wo t done.length)).fst.hi])]]) ⟨by rw [e1];simp,by rw [e2,if_pos (by rw [iv,hp])];simp,by simp;omega,.inr ⟨g.length+1+1+1+1,t.marks.length,t.marks.length-1,rfl⟩⟩ (j3 _) ?_ ?_
    .simp only [go_sem,simprocAttr];rw [bA];rfl
    .simp only [hnx,aI,bh,go_sem,simprocAttr])
end Abs
open Go.Shelf
def Tryz.laysM171_ren:Go.Shelf.Ren:=⟨λ| 171=>32 | 243=>54 | 246=>84 | 283=>129 | 284=>130 | 285=>131 | 286=>132 | 129=>199 | 317=>198 | 318=>200 | 319=>201 | 320=>202 | 337=>271 | 338=>272 | n=>n,λ| 3=>3 | 9=>9 | 2=>2 | 4=>4 | 171=>198 | 0=>0 | 53=>199 | 37=>82 | 5=>5 | 173=>202 | 212=>268 | 51=>264 | 20=>20 | 213=>269 | 46=>197 | 232=>397 | 233=>398 | n=>n,λ| 17=>1 | 18=>6 | 19=>7 | n=>n⟩
theorem Tryz.laysM171:Go.Proofs.LaysM.n171 TP Tryz.laysM171_ren:={
 mixed:=by kernel_rfl
 f129:=Tryz.func199.trans (congrArg some (by kernel_rfl))
 f171:=Tryz.func32.trans (congrArg some (by kernel_rfl))
 f243:=Tryz.func54.trans (congrArg some (by kernel_rfl))
 f246:=Tryz.func84.trans (congrArg some (by kernel_rfl))
 f283:=Tryz.func129.trans (congrArg some (by kernel_rfl))
 f284:=Tryz.func130.trans (congrArg some (by kernel_rfl))
 f285:=Tryz.func131.trans (congrArg some (by kernel_rfl))
 f286:=Tryz.func132.trans (congrArg some (by kernel_rfl))
 f317:=Tryz.func198.trans (congrArg some (by kernel_rfl))
 f318:=Tryz.func200.trans (congrArg some (by kernel_rfl))
 f319:=Tryz.func201.trans (congrArg some (by kernel_rfl))
 f320:=Tryz.func202.trans (congrArg some (by kernel_rfl))
 f337:=Tryz.func271.trans (congrArg some (by kernel_rfl))
 f338:=Tryz.func272.trans (congrArg some (by kernel_rfl))
 t0:=Tryz.underlying0
 a0:=Tryz.isAgg0
 z0:=Tryz.sizeOf0
 v0:=Tryz.zeroValue0
 t2:=Tryz.underlying2
 a2:=Tryz.isAgg2
 z2:=Tryz.sizeOf2
 v2:=Tryz.zeroValue2
 t3:=Tryz.underlying3
 a3:=Tryz.isAgg3
 z3:=Tryz.sizeOf3
 v3:=Tryz.zeroValue3
 t4:=Tryz.underlying4
 a4:=Tryz.isAgg4
 z4:=Tryz.sizeOf4
 v4:=Tryz.zeroValue4
 t5:=Tryz.underlying5
 a5:=Tryz.isAgg5
 z5:=Tryz.sizeOf5
 v5:=Tryz.zeroValue5
 t9:=Tryz.underlying9
 a9:=Tryz.isAgg9
 z9:=Tryz.sizeOf9
 v9:=Tryz.zeroValue9
 t20:=Tryz.underlying20
 a20:=Tryz.isAgg20
 z20:=Tryz.sizeOf20
 v20:=Tryz.zeroValue20
 t37:=Tryz.underlying82
 a37:=Tryz.isAgg82
 z37:=Tryz.sizeOf82
 v37:=Tryz.zeroValue82
 t46:=Tryz.underlying197
 a46:=Tryz.isAgg197
 z46:=Tryz.sizeOf197
 v46:=Tryz.zeroValue197
 t51:=Tryz.underlying264
 a51:=Tryz.isAgg264
 z51:=Tryz.sizeOf264
 v51:=Tryz.zeroValue264
 t53:=Tryz.underlying199
 a53:=Tryz.isAgg199
 z53:=Tryz.sizeOf199
 v53:=Tryz.zeroValue199
 t171:=Tryz.underlying198
 a171:=Tryz.isAgg198
 z171:=Tryz.sizeOf198
 v171:=Tryz.zeroValue198
 t173:=Tryz.underlying202
 a173:=Tryz.isAgg202
 z173:=Tryz.sizeOf202
 v173:=Tryz.zeroValue202
 t212:=Tryz.underlying268
 a212:=Tryz.isAgg268
 z212:=Tryz.sizeOf268
 v212:=Tryz.zeroValue268
 t213:=Tryz.underlying269
 a213:=Tryz.isAgg269
 z213:=Tryz.sizeOf269
 t232:=Tryz.underlying397
 a232:=Tryz.isAgg397
 z232:=Tryz.sizeOf397
 v232:=Tryz.zeroValue397
 t233:=Tryz.underlying398
 a233:=Tryz.isAgg398
 z233:=Tryz.sizeOf398
 v233:=Tryz.zeroValue398
 g17:=by kernel_rfl
 g18:=by kernel_rfl
 g19:=by kernel_rfl
 i0:=by kernel_rfl
 i2:=by kernel_rfl
 i3:=by kernel_rfl
 i4:=by kernel_rfl
 i5:=by kernel_rfl
 i9:=by kernel_rfl
 i20:=by kernel_rfl
 i37:=by kernel_rfl
 i46:=by kernel_rfl
 i51:=by kernel_rfl
 i53:=by kernel_rfl
 i171:=by kernel_rfl
 i173:=by kernel_rfl
 i212:=by kernel_rfl
 i232:=by kernel_rfl
 i233:=by kernel_rfl
 m17:=by kernel_rfl
 m18:=by kernel_rfl
 m19:=by kernel_rfl }
def Tryz.laysC172_ren:Go.Shelf.Ren:=⟨λ| 172=>103 | 244=>170 | 245=>171 | 247=>241 | 279=>242 | 280=>243 | 281=>244 | 282=>245 | 287=>284 | 316=>285 | 171=>32 | 205=>286 | 321=>305 | 322=>306 | 243=>54 | 246=>84 | 283=>129 | 284=>130 | 285=>131 | 286=>132 | 129=>199 | 317=>198 | 318=>200 | 319=>201 | 320=>202 | 337=>271 | 338=>272 | n=>n,λ| 9=>9 | 3=>3 | 75=>89 | 76=>90 | 4=>4 | 5=>5 | 167=>306 | 37=>82 | 0=>0 | 85=>307 | 2=>2 | 168=>309 | 53=>199 | 175=>368 | 46=>197 | 210=>371 | 127=>121 | 145=>403 | 143=>401 | 21=>21 | 171=>198 | 173=>202 | 212=>268 | 51=>264 | 20=>20 | 213=>269 | 232=>397 | 233=>398 | 80=>92 | n=>n,λ| 15=>4 | 16=>5 | 17=>1 | 18=>6 | 19=>7 | n=>n⟩
theorem Tryz.laysC172:Go.Proofs.LaysC.n172 TP Tryz.laysC172_ren:={
 mixed:=by kernel_rfl
 f129:=Tryz.func199.trans (congrArg some (by kernel_rfl))
 f171:=Tryz.func32.trans (congrArg some (by kernel_rfl))
 f172:=Tryz.func103.trans (congrArg some (by kernel_rfl))
 f205:=Tryz.func286.trans (congrArg some (by kernel_rfl))
 f243:=Tryz.func54.trans (congrArg some (by kernel_rfl))
 f244:=Tryz.func170.trans (congrArg some (by kernel_rfl))
 f245:=Tryz.func171.trans (congrArg some (by kernel_rfl))
 f246:=Tryz.func84.trans (congrArg some (by kernel_rfl))
 f247:=Tryz.func241.trans (congrArg some (by kernel_rfl))
 f279:=Tryz.func242.trans (congrArg some (by kernel_rfl))
 f280:=Tryz.func243.trans (congrArg some (by kernel_rfl))
 f281:=Tryz.func244.trans (congrArg some (by kernel_rfl))
 f282:=Tryz.func245.trans (congrArg some (by kernel_rfl))
 f283:=Tryz.func129.trans (congrArg some (by kernel_rfl))
 f284:=Tryz.func130.trans (congrArg some (by kernel_rfl))
 f285:=Tryz.func131.trans (congrArg some (by kernel_rfl))
 f286:=Tryz.func132.trans (congrArg some (by kernel_rfl))
 f287:=Tryz.func284.trans (congrArg some (by kernel_rfl))
 f316:=Tryz.func285.trans (congrArg some (by kernel_rfl))
 f317:=Tryz.func198.trans (congrArg some (by kernel_rfl))
 f318:=Tryz.func200.trans (congrArg some (by kernel_rfl))
 f319:=Tryz.func201.trans (congrArg some (by kernel_rfl))
 f320:=Tryz.func202.trans (congrArg some (by kernel_rfl))
 f321:=Tryz.func305.trans (congrArg some (by kernel_rfl))
 f322:=Tryz.func306.trans (congrArg some (by kernel_rfl))
 f337:=Tryz.func271.trans (congrArg some (by kernel_rfl))
 f338:=Tryz.func272.trans (congrArg some (by kernel_rfl))
 t0:=Tryz.underlying0
 a0:=Tryz.isAgg0
 z0:=Tryz.sizeOf0
 v0:=Tryz.zeroValue0
 t2:=Tryz.underlying2
 a2:=Tryz.isAgg2
 z2:=Tryz.sizeOf2
 v2:=Tryz.zeroValue2
 t3:=Tryz.underlying3
 a3:=Tryz.isAgg3
 z3:=Tryz.sizeOf3
 v3:=Tryz.zeroValue3
 t4:=Tryz.underlying4
 a4:=Tryz.isAgg4
 z4:=Tryz.sizeOf4
 v4:=Tryz.zeroValue4
 t5:=Tryz.underlying5
 a5:=Tryz.isAgg5
 z5:=Tryz.sizeOf5
 v5:=Tryz.zeroValue5
 t9:=Tryz.underlying9
 a9:=Tryz.isAgg9
 z9:=Tryz.sizeOf9
 v9:=Tryz.zeroValue9
 t20:=Tryz.underlying20
 a20:=Tryz.isAgg20
 z20:=Tryz.sizeOf20
 v20:=Tryz.zeroValue20
 t21:=Tryz.underlying21
 a21:=Tryz.isAgg21
 z21:=Tryz.sizeOf21
 v21:=Tryz.zeroValue21
 t37:=Tryz.underlying82
 a37:=Tryz.isAgg82
 z37:=Tryz.sizeOf82
 v37:=Tryz.zeroValue82
 t46:=Tryz.underlying197
 a46:=Tryz.isAgg197
 z46:=Tryz.sizeOf197
 v46:=Tryz.zeroValue197
 t51:=Tryz.underlying264
 a51:=Tryz.isAgg264
 z51:=Tryz.sizeOf264
 v51:=Tryz.zeroValue264
 t53:=Tryz.underlying199
 a53:=Tryz.isAgg199
 z53:=Tryz.sizeOf199
 v53:=Tryz.zeroValue199
 t75:=Tryz.underlying89
 a75:=Tryz.isAgg89
 z75:=Tryz.sizeOf89
 v75:=Tryz.zeroValue89
 t76:=Tryz.underlying90
 a76:=Tryz.isAgg90
 z76:=Tryz.sizeOf90
 v76:=Tryz.zeroValue90
 t85:=Tryz.underlying307
 a85:=Tryz.isAgg307
 z85:=Tryz.sizeOf307
 v85:=Tryz.zeroValue307
 t127:=Tryz.underlying121
 a127:=Tryz.isAgg121
 z127:=Tryz.sizeOf121
 v127:=Tryz.zeroValue121
 t143:=Tryz.underlying401
 a143:=Tryz.isAgg401
 z143:=Tryz.sizeOf401
 v143:=Tryz.zeroValue401
 t145:=Tryz.underlying403
 a145:=Tryz.isAgg403
 z145:=Tryz.sizeOf403
 v145:=Tryz.zeroValue403
 t167:=Tryz.underlying306
 a167:=Tryz.isAgg306
 z167:=Tryz.sizeOf306
 v167:=Tryz.zeroValue306
 t168:=Tryz.underlying309
 a168:=Tryz.isAgg309
 z168:=Tryz.sizeOf309
 v168:=Tryz.zeroValue309
 t171:=Tryz.underlying198
 a171:=Tryz.isAgg198
 z171:=Tryz.sizeOf198
 v171:=Tryz.zeroValue198
 t173:=Tryz.underlying202
 a173:=Tryz.isAgg202
 z173:=Tryz.sizeOf202
 v173:=Tryz.zeroValue202
 t175:=Tryz.underlying368
 a175:=Tryz.isAgg368
 z175:=Tryz.sizeOf368
 v175:=Tryz.zeroValue368
 t210:=Tryz.underlying371
 a210:=Tryz.isAgg371
 z210:=Tryz.sizeOf371
 v210:=Tryz.zeroValue371
 t212:=Tryz.underlying268
 a212:=Tryz.isAgg268
 z212:=Tryz.sizeOf268
 v212:=Tryz.zeroValue268
 t213:=Tryz.underlying269
 a213:=Tryz.isAgg269
 z213:=Tryz.sizeOf269
 t232:=Tryz.underlying397
 a232:=Tryz.isAgg397
 z232:=Tryz.sizeOf397
 v232:=Tryz.zeroValue397
 t233:=Tryz.underlying398
 a233:=Tryz.isAgg398
 z233:=Tryz.sizeOf398
 v233:=Tryz.zeroValue398
 g15:=by kernel_rfl
 g16:=by kernel_rfl
 g17:=by kernel_rfl
 g18:=by kernel_rfl
 g19:=by kernel_rfl
 t80:=Tryz.underlying92
 a80:=Tryz.isAgg92
 z80:=Tryz.sizeOf92
 v80:=Tryz.zeroValue92
 i0:=by kernel_rfl
 i2:=by kernel_rfl
 i3:=by kernel_rfl
 i4:=by kernel_rfl
 i5:=by kernel_rfl
 i9:=by kernel_rfl
 i20:=by kernel_rfl
 i21:=by kernel_rfl
 i37:=by kernel_rfl
 i46:=by kernel_rfl
 i51:=by kernel_rfl
 i53:=by kernel_rfl
 i75:=by kernel_rfl
 i76:=by kernel_rfl
 i80:=by kernel_rfl
 i85:=by kernel_rfl
 i127:=by kernel_rfl
 i143:=by kernel_rfl
 i145:=by kernel_rfl
 i167:=by kernel_rfl
 i168:=by kernel_rfl
 i171:=by kernel_rfl
 i173:=by kernel_rfl
 i175:=by kernel_rfl
 i210:=by kernel_rfl
 i212:=by kernel_rfl
 i232:=by kernel_rfl
 i233:=by kernel_rfl
 m15:=by kernel_rfl
 m16:=by kernel_rfl
 m17:=by kernel_rfl
 m18:=by kernel_rfl
 m19:=by kernel_rfl
 c0:=by kernel_rfl
 c2:=by kernel_rfl
 c3:=by kernel_rfl
 c4:=by kernel_rfl
 c5:=by kernel_rfl
 c9:=by kernel_rfl
 c20:=by kernel_rfl
 c21:=by kernel_rfl
 c37:=by kernel_rfl
 c46:=by kernel_rfl
 c51:=by kernel_rfl
 c53:=by kernel_rfl
 c75:=by kernel_rfl
 c76:=by kernel_rfl
 c80:=by kernel_rfl
 c85:=by kernel_rfl
 c127:=by kernel_rfl
 c143:=by kernel_rfl
 c145:=by kernel_rfl
 c167:=by kernel_rfl
 c168:=by kernel_rfl
 c171:=by kernel_rfl
 c173:=by kernel_rfl
 c175:=by kernel_rfl
 c210:=by kernel_rfl
 c212:=by kernel_rfl
 c213:=by kernel_rfl
 c232:=by kernel_rfl
 c233:=by kernel_rfl }
def Tryz.lays219_ren:Go.Shelf.Ren:=⟨λ| 219=>83 | 217=>125 | 225=>126 | 224=>127 | 267=>128 | 266=>196 | 314=>197 | n=>n,λ| 9=>9 | 3=>3 | 4=>4 | 5=>5 | 46=>197 | 146=>265 | 51=>264 | n=>n,λ| 1=>0 | n=>n⟩
theorem Tryz.lays219:Go.Proofs.Lays.n219 TP Tryz.lays219_ren:={
 mixed:=by kernel_rfl
 f217:=Tryz.func125.trans (congrArg some (by kernel_rfl))
 f219:=Tryz.func83.trans (congrArg some (by kernel_rfl))
 f224:=Tryz.func127.trans (congrArg some (by kernel_rfl))
 f225:=Tryz.func126.trans (congrArg some (by kernel_rfl))
 f266:=Tryz.func196.trans (congrArg some (by kernel_rfl))
 f267:=Tryz.func128.trans (congrArg some (by kernel_rfl))
 f314:=Tryz.func197.trans (congrArg some (by kernel_rfl))
 t3:=Tryz.underlying3
 a3:=Tryz.isAgg3
 z3:=Tryz.sizeOf3
 v3:=Tryz.zeroValue3
 t4:=Tryz.underlying4
 a4:=Tryz.isAgg4
 z4:=Tryz.sizeOf4
 v4:=Tryz.zeroValue4
 t5:=Tryz.underlying5
 a5:=Tryz.isAgg5
 z5:=Tryz.sizeOf5
 v5:=Tryz.zeroValue5
 t9:=Tryz.underlying9
 a9:=Tryz.isAgg9
 z9:=Tryz.sizeOf9
 v9:=Tryz.zeroValue9
 t46:=Tryz.underlying197
 a46:=Tryz.isAgg197
 z46:=Tryz.sizeOf197
 v46:=Tryz.zeroValue197
 t51:=Tryz.underlying264
 a51:=Tryz.isAgg264
 z51:=Tryz.sizeOf264
 v51:=Tryz.zeroValue264
 t146:=Tryz.underlying265
 a146:=Tryz.isAgg265
 z146:=Tryz.sizeOf265
 v146:=Tryz.zeroValue265
 g1:=by kernel_rfl }
def Tryz.lays143_ren:Go.Shelf.Ren:=⟨λ| 143=>87 | 219=>83 | 217=>125 | 225=>126 | 224=>127 | 267=>128 | 266=>196 | 314=>197 | n=>n,λ| 9=>9 | 3=>3 | 4=>4 | 5=>5 | 46=>197 | 146=>265 | 51=>264 | n=>n,λ| 1=>0 | n=>n⟩
theorem Tryz.lays143:Go.Proofs.Lays.n143 TP Tryz.lays143_ren:={
 mixed:=by kernel_rfl
 f143:=Tryz.func87.trans (congrArg some (by kernel_rfl))
 f217:=Tryz.func125.trans (congrArg some (by kernel_rfl))
 f219:=Tryz.func83.trans (congrArg some (by kernel_rfl))
 f224:=Tryz.func127.trans (congrArg some (by kernel_rfl))
 f225:=Tryz.func126.trans (congrArg some (by kernel_rfl))
 f266:=Tryz.func196.trans (congrArg some (by kernel_rfl))
 f267:=Tryz.func128.trans (congrArg some (by kernel_rfl))
 f314:=Tryz.func197.trans (congrArg some (by kernel_rfl))
 t3:=Tryz.underlying3
 a3:=Tryz.isAgg3
 z3:=Tryz.sizeOf3
 v3:=Tryz.zeroValue3
 t4:=Tryz.underlying4
 a4:=Tryz.isAgg4
 z4:=Tryz.sizeOf4
 v4:=Tryz.zeroValue4
 t5:=Tryz.underlying5
 a5:=Tryz.isAgg5
 z5:=Tryz.sizeOf5
 v5:=Tryz.zeroValue5
 t9:=Tryz.underlying9
 a9:=Tryz.isAgg9
 z9:=Tryz.sizeOf9
 v9:=Tryz.zeroValue9
 t46:=Tryz.underlying197
 a46:=Tryz.isAgg197
 z46:=Tryz.sizeOf197
 v46:=Tryz.zeroValue197
 t51:=Tryz.underlying264
 a51:=Tryz.isAgg264
 z51:=Tryz.sizeOf264
 v51:=Tryz.zeroValue264
 t146:=Tryz.underlying265
 a146:=Tryz.isAgg265
 z146:=Tryz.sizeOf265
 v146:=Tryz.zeroValue265
 g1:=by kernel_rfl }
def Tryz.lays138_ren:Go.Shelf.Ren:=⟨λ| 138=>85 | 195=>133 | 218=>134 | 143=>87 | 219=>83 | 217=>125 | 225=>126 | 224=>127 | 267=>128 | 266=>196 | 314=>197 | n=>n,λ| 9=>9 | 3=>3 | 4=>4 | 5=>5 | 0=>0 | 46=>197 | 146=>265 | 51=>264 | n=>n,λ| 1=>0 | n=>n⟩
theorem Tryz.lays138:Go.Proofs.Lays.n138 TP Tryz.lays138_ren:={
 mixed:=by kernel_rfl
 f138:=Tryz.func85.trans (congrArg some (by kernel_rfl))
 f143:=Tryz.func87.trans (congrArg some (by kernel_rfl))
 f195:=Tryz.func133.trans (congrArg some (by kernel_rfl))
 f217:=Tryz.func125.trans (congrArg some (by kernel_rfl))
 f218:=Tryz.func134.trans (congrArg some (by kernel_rfl))
 f219:=Tryz.func83.trans (congrArg some (by kernel_rfl))
 f224:=Tryz.func127.trans (congrArg some (by kernel_rfl))
 f225:=Tryz.func126.trans (congrArg some (by kernel_rfl))
 f266:=Tryz.func196.trans (congrArg some (by kernel_rfl))
 f267:=Tryz.func128.trans (congrArg some (by kernel_rfl))
 f314:=Tryz.func197.trans (congrArg some (by kernel_rfl))
 t0:=Tryz.underlying0
 a0:=Tryz.isAgg0
 z0:=Tryz.sizeOf0
 v0:=Tryz.zeroValue0
 t3:=Tryz.underlying3
 a3:=Tryz.isAgg3
 z3:=Tryz.sizeOf3
 v3:=Tryz.zeroValue3
 t4:=Tryz.underlying4
 a4:=Tryz.isAgg4
 z4:=Tryz.sizeOf4
 v4:=Tryz.zeroValue4
 t5:=Tryz.underlying5
 a5:=Tryz.isAgg5
 z5:=Tryz.sizeOf5
 v5:=Tryz.zeroValue5
 t9:=Tryz.underlying9
 a9:=Tryz.isAgg9
 z9:=Tryz.sizeOf9
 v9:=Tryz.zeroValue9
 t46:=Tryz.underlying197
 a46:=Tryz.isAgg197
 z46:=Tryz.sizeOf197
 v46:=Tryz.zeroValue197
 t51:=Tryz.underlying264
 a51:=Tryz.isAgg264
 z51:=Tryz.sizeOf264
 v51:=Tryz.zeroValue264
 t146:=Tryz.underlying265
 a146:=Tryz.isAgg265
 z146:=Tryz.sizeOf265
 v146:=Tryz.zeroValue265
 g1:=by kernel_rfl }
end Go.Proofs.YtfafnkpfamgbbaaGreatDoor
