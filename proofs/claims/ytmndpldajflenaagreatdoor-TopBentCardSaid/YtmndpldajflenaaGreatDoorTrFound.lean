/- A TRUTH of a book, card by card: all find what they need. No conditions but those in the h -/
import Derived.Test.YtmndpldajflenaaGreatDoorTrFlowX
set_option linter.all false
namespace Go.Proofs.YtmndpldajflenaaGreatDoor
namespace Abs
namespace Tr
def ndF (n:Nat) (p:Pb) (s:Nat):Int:=sm n λk=>if s.testBit k then p.needs k else 0
def mL (n:Nat) (p:Pb) (a b s i:Nat):Bool:=(List.range n).any λk=>s.testBit k&&decide (0<p.needs k)&&decide (i<k)&&!p.nv i k&&!(i==a&&k==b)
def nbF (n:Nat) (p:Pb) (a b s:Nat):Int:=sm n λi=>if mL n p a b s i then p.has i else 0
def bndStep (n:Nat) (p:Pb) (a b:Nat) (q:Int×Int) (s:Nat):Int×Int:=
 (if s.testBit b&&!mL n p a b s a then max q.1 (ndF n p s-nbF n p a b s) else q.1,
  if !s.testBit b&&mL n p a b s a then min q.2 (nbF n p a b s-ndF n p s) else q.2)
def eM (n:Nat) (p:Pb) (a b:Nat):Int×Int:=(List.range' 1 (2^n-1)).foldl (bndStep n p a b) (0,min (p.has a) (p.needs b))
theorem adjF_iff{n:Nat}{p:Pb}{a b s i:Nat}:mL n p a b s i=true↔adj n p (isEx a b) (λk=>s.testBit k=true) i:=by
 unfold mL adj isEx;simp only[fL,bX,bY,decide_eq_true_eq,ud,Bool.and_eq_false_iff];constructor
 .rintro⟨k,h1,⟨⟨⟨h2,h3⟩,h4⟩,h5⟩,h6⟩
  refine⟨k,h1,h2,h3,h4,h5,λe=>?_⟩;rcases h6 with h|h
  .simp at h;exact h e.1
  .simp at h;exact h e.2
 .rintro⟨k,h1,h2,h3,h4,h5,h6⟩
  refine⟨k,h1,⟨⟨⟨h2,h3⟩,h4⟩,h5⟩,?_⟩;by_cases h:i=a
  .exact .inr (by simp;exact λe=>h6 ⟨h,e⟩)
  .exact .inl (by simpa using h)
theorem mask_of(S:Nat->Prop):∀n:Nat,∃s,s<2^n/\∀k,k<n->(s.testBit k=true↔S k)
 |0=>⟨0,by simp,λk h=>by omega⟩
 |n+1=>by
  obtain⟨s,h1,h2⟩:=mask_of S n;by_cases hS:S n
  .refine⟨s+2^n,by rw[Nat.pow_succ];omega,λk hk=>?_⟩;rcases aw k n with h|h
   .rw[<-h2 k h,Nat.add_comm,Nat.testBit_two_pow_add_gt h]
   .have:k=n:=by omega
    subst this;rw[Nat.add_comm,Nat.testBit_two_pow_add_eq,Nat.testBit_lt_two_pow h1];simp[hS]
  .refine⟨s,by rw[Nat.pow_succ];omega,λk hk=>?_⟩;rcases aw k n with h|h
   .exact h2 k h
   .have:k=n:=by omega
    subst this;rw[Nat.testBit_lt_two_pow h1];simp[hS]
theorem oT{n:Nat}{p:Pb}{ex:Nat->Nat->Prop}{S R:Nat->Prop}(h:∀k,k<n->(S k↔R k))(i:Nat):adj n p ex S i↔adj n p ex R i:=
 ⟨λ⟨k,h1,h2,h3⟩=>⟨k,h1,(h k h1).1 h2,h3⟩,λ⟨k,h1,h2,h3⟩=>⟨k,h1,(h k h1).2 h2,h3⟩⟩
theorem At{n:Nat}{p:Pb}{S R:Nat->Prop}(h:∀k,k<n->(S k↔R k)):nd n p S=nd n p R:=by
 unfold nd;refine sm_congr λk hk=>?_;by_cases hs:S k
 .rw[if_pos hs,if_pos ((h k hk).1 hs)]
 .rw[if_neg hs,if_neg λe=>hs ((h k hk).2 e)]
theorem Au{n:Nat}{p:Pb}{ex:Nat->Nat->Prop}{S R:Nat->Prop}(h:∀k,k<n->(S k↔R k)):nb n p ex S=nb n p ex R:=by
 unfold nb;refine sm_congr λi _=>?_;have q:=oT (p:=p) (ex:=ex) h i;by_cases hs:adj n p ex S i
 .rw[if_pos hs,if_pos (q.1 hs)]
 .rw[if_neg hs,if_neg λe=>hs (q.2 e)]
theorem vh{n:Nat}{p:Pb}{s:Nat}:ndF n p s=nd n p (λk=>s.testBit k=true):=sm_congr λk _=>by
 by_cases h:s.testBit k=true<;>simp[h]
theorem vj{n:Nat}{p:Pb}{a b s:Nat}:nbF n p a b s=nb n p (isEx a b) (λk=>s.testBit k=true):=sm_congr λi _=>by
 by_cases h:mL n p a b s i=true
 .rw[if_pos h,if_pos (adjF_iff.1 h)]
 .rw[if_neg h,if_neg λe=>h (adjF_iff.2 e)]
open Classical in
theorem bnd_loop{n:Nat}{p:Pb}{a b:Nat}:∀(l:List Nat) (q:Int×Int),
  let r:=l.foldl (bndStep n p a b) q
  (q.1<=r.1/\r.2<=q.2) /\
  (∀s∈l,s.testBit b=true->¬adj n p (isEx a b) (λk=>s.testBit k=true) a->ndF n p s-nbF n p a b s<=r.1) /\
  (∀s∈l,¬s.testBit b=true->adj n p (isEx a b) (λk=>s.testBit k=true) a->r.2<=nbF n p a b s-ndF n p s) /\
  (r.1=q.1\/∃s∈l,s.testBit b=true/\¬adj n p (isEx a b) (λk=>s.testBit k=true) a/\r.1=ndF n p s-nbF n p a b s) /\
  (r.2=q.2\/∃s∈l,¬s.testBit b=true/\adj n p (isEx a b) (λk=>s.testBit k=true) a/\r.2=nbF n p a b s-ndF n p s)
 |[],q=>⟨⟨dF _,dF _⟩,λ_ h=>(by cases h),λ_ h=>(by cases h),.inl rfl,.inl rfl⟩
 |s::l,q=>by
  obtain⟨⟨h1,h1'⟩,h2,h3,h4,h5⟩:=bnd_loop l (bndStep n p a b q s);simp only[np];generalize hr:l.foldl (bndStep n p a b) (bndStep n p a b q s)=r at *
  have c1:(bndStep n p a b q s).1=if s.testBit b=true/\¬adj n p (isEx a b) (λk=>s.testBit k=true) a then max q.1 (ndF n p s-nbF n p a b s) else q.1:=by
   unfold bndStep;simp only[bY,ud];by_cases e1:s.testBit b=true<;>by_cases e2:adj n p (isEx a b) (λk=>s.testBit k=true) a
   .rw[if_neg,if_neg]
    .exact λh=>h.2 e2
    .exact λh=>by rw[adjF_iff.2 e2]at h;cases h.2
   .rw[if_pos,if_pos]
    .exact⟨e1,e2⟩
    .exact⟨e1,by rw[wD];exact λh=>e2 (adjF_iff.1 h)⟩
   .rw[if_neg (λh=>e1 h.1),if_neg (λh=>e1 h.1)]
   .rw[if_neg (λh=>e1 h.1),if_neg (λh=>e1 h.1)]
  have c2:(bndStep n p a b q s).2=if ¬s.testBit b=true/\adj n p (isEx a b) (λk=>s.testBit k=true) a then min q.2 (nbF n p a b s-ndF n p s) else q.2:=by
   unfold bndStep;simp only[bY,ud];by_cases e1:s.testBit b=true<;>by_cases e2:adj n p (isEx a b) (λk=>s.testBit k=true) a
   .rw[if_neg,if_neg]
    .exact λh=>h.1 e1
    .exact λh=>by rw[e1]at h;cases h.1
   .rw[if_neg,if_neg]
    .exact λh=>h.1 e1
    .exact λh=>by rw[e1]at h;cases h.1
   .rw[if_pos,if_pos]
    .exact⟨e1,e2⟩
    .exact⟨by simpa using e1,adjF_iff.2 e2⟩
   .rw[if_neg,if_neg]
    .exact λh=>e2 h.2
    .exact λh=>e2 (adjF_iff.1 h.2)
  rw[c1]at h1 h4;rw[c2]at h1' h5;refine⟨⟨?_,?_⟩,λs' hs' e1 e2=>?_,λs' hs' e1 e2=>?_,?_,?_⟩
  .split at h1<;>omega
  .split at h1'<;>omega
  .rcases dQ.1 hs' with rfl|hs'
   .rw[if_pos ⟨e1,e2⟩]at h1;clear h4 h5 h2 h3;omega
   .exact h2 s' hs' e1 e2
  .rcases dQ.1 hs' with rfl|hs'
   .rw[if_pos ⟨e1,e2⟩]at h1';clear h4 h5 h2 h3;omega
   .exact h3 s' hs' e1 e2
  .rcases h4 with h4|⟨s',hs',e⟩
   .split at h4
    .rename_i hc;rcases(by omega:r.1=q.1\/r.1=ndF n p s-nbF n p a b s) with h|h
     .exact .inl h
     .exact .inr ⟨s,List.mem_cons_self,hc.1,hc.2,h⟩
    .exact .inl h4
   .exact .inr ⟨s',eU _ hs',e⟩
  .rcases h5 with h5|⟨s',hs',e⟩
   .split at h5
    .rename_i hc;rcases(by omega:r.2=q.2\/r.2=nbF n p a b s-ndF n p s) with h|h
     .exact .inl h
     .exact .inr ⟨s,List.mem_cons_self,hc.1,hc.2,h⟩
    .exact .inl h5
   .exact .inr ⟨s',eU _ hs',e⟩
theorem xi{n:Nat}{p:Pb}{a b:Nat}(hb:b<n):Bounds n p a b (eM n p a b).1 (eM n p a b).2:=by
 obtain⟨⟨h1,h1'⟩,h2,h3,h4,h5⟩:=bnd_loop (n:=n) (p:=p) (a:=a) (b:=b) (List.range' 1 (2^n-1)) (0,min (p.has a) (p.needs b));change _<=(eM n p a b).1 at h1;change (eM n p a b).2<=_ at h1';change ∀s∈_,_->_->_<=(eM n p a b).1 at h2;change ∀s∈_,_->_->(eM n p a b).2<=_ at h3;change (eM n p a b).1=_\/∃s∈_,_/\_/\(eM n p a b).1=_ at h4;change (eM n p a b).2=_\/∃s∈_,_/\_/\(eM n p a b).2=_ at h5;dsimp only at h1 h1' h4 h5;have mem:∀s,s<2^n->s≠0->s∈List.range' 1 (2^n-1):=λs hs h0=>by
  rw[List.mem_range'_1];omega
 have nz:∀s k,s.testBit k=true->s≠0:=λs k h e=>by rw[e]at h;simp at h
 refine⟨λS hS hA=>?_,h1,?_,λS hS hA=>?_,by clear h4 h5;omega,by clear h4 h5;omega,?_⟩
 .obtain⟨s,s1,s2⟩:=mask_of S n;have:=h2 s (mem s s1 (nz s b ((s2 b hb).2 hS))) ((s2 b hb).2 hS) λe=>hA ((oT s2 a).1 e);rw[vh,vj,At s2,Au s2]at this;exact this
 .rcases h4 with h|⟨s,-,e1,e2,e3⟩
  .exact .inl h
  .exact .inr ⟨_,e1,e2,by rw[e3,vh,vj]⟩
 .obtain⟨s,s1,s2⟩:=mask_of S n;have hA':=(oT s2 a).2 hA;obtain⟨k,k1,k2,k3⟩:=hA';have:=h3 s (mem s s1 (nz s k k2)) (λe=>hS ((s2 b hb).1 e)) ((oT s2 a).2 hA);rw[vh,vj,At s2,Au s2]at this;exact this
 .rcases h5 with h|⟨s,-,e1,e2,e3⟩
  .clear h4;omega
  .exact .inr (.inr ⟨_,e1,e2,by rw[e3,vh,vj]⟩)
structure Fd where
 p:Pb
 used:Nat
 f:Nat->Nat->Int
def lY (lo hi t:Int):Int:=if lo<hi then lo+t.tmod (hi-lo+1) else lo
def fV (n:Nat) (y:Nat->Int) (b:Nat) (q:Fd) (a:Nat):Fd:=
 let d:=lY (eM n q.p a b).1 (eM n q.p a b).2 (y q.used)
 ⟨take q.p a b d,q.used+1,λi k=>if i=a/\k=b then q.f i k+d else q.f i k⟩
def nX (n:Nat) (y:Nat->Int) (lost:Nat->Bool) (q:Fd) (b:Nat):Fd:=if lost b then(List.range b).foldl (fV n y b) q else q
def l8 (n:Nat) (y:Nat->Int) (lost:Nat->Bool) (p:Pb):Fd:=(List.range n).foldl (nX n y lost) ⟨p,0,λ_ _=>0⟩
theorem uo{lo hi t:Int}(h:lo<=hi)(ht:0<=t):lo<=lY lo hi t/\lY lo hi t<=hi:=by
 unfold lY;split
 .have h1:=Int.tmod_nonneg (hi-lo+1) ht;have h2:=Int.tmod_lt_of_pos t (show 0<hi-lo+1 by omega);omega
 .omega
structure FdOk (n:Nat) (has needs:Nat->Int) (q:Fd):Prop where
 hall:Hall n q.p
 has:∀i,i<n->q.p.has i+sm n (q.f i)=has i
 needs:∀k,k<n->q.p.needs k+sm n (λi=>q.f i k)=needs k
 lo:∀i k,0<=q.f i k
 can:∀i k,0<q.f i k->i<k/\k<n
theorem sJ{n:Nat}{has needs:Nat->Int}{y:Nat->Int}(hy:∀i,0<=y i){a b:Nat}(hab:a<b)(hb:b<n){q:Fd}(h:FdOk n has needs q):FdOk n has needs (fV n y b q a):=by
 have hB:=xi (n:=n) (p:=q.p) (a:=a) (b:=b) hb;have hle:=bounds_le h.hall hab hb hB;obtain⟨d1,d2⟩:=uo hle (hy q.used);have hw:=mX hB d1 d2;unfold fV;dsimp only;generalize hd:lY (eM n q.p a b).1 (eM n q.p a b).2 (y q.used)=d at *
 have han:a<n:=by omega
 refine⟨hall_take h.hall hab hb hw,λi hi=>?_,λk hk=>?_,λi k=>?_,λi k hp=>?_⟩
 .have:=h.has i hi;dsimp only[take];by_cases hia:i=a
  .subst hia;rw[sm_upd (f:=q.f i) hb λk _ hk=>by simp[hk]];simp;omega
  .rw[sm_congr (g:=q.f i) λk _=>by simp[hia]];simp[hia];omega
 .have:=h.needs k hk;dsimp only[take];by_cases hkb:k=b
  .subst hkb;rw[sm_upd (f:=λi=>q.f i k) han λi _ hi=>by simp[hi]];simp;omega
  .rw[sm_congr (g:=λi=>q.f i k) λi _=>by simp[hkb]];simp[hkb];omega
 .have:=h.lo i k;have:=hw.zero;dsimp only;split<;>omega
 .dsimp only at hp;split at hp
  .rename_i e;omega
  .exact h.can i k hp
theorem ye{n:Nat}{y:Nat->Int}{a b:Nat}{q:Fd}{i k:Nat}:(fV n y b q a).p.nv i k=(q.p.nv i k||(i==a&&k==b)):=rfl
theorem oM{n:Nat}{has needs:Nat->Int}{y:Nat->Int}(hy:∀i,0<=y i){b:Nat}(hb:b<n):∀(l:List Nat) (q:Fd),(∀a∈l,a<b)->FdOk n has needs q ->
  FdOk n has needs (l.foldl (fV n y b) q)/\(∀i k,(l.foldl (fV n y b) q).p.nv i k=(q.p.nv i k||(decide (i∈l)&&k==b)))
 |[],q,_,h=>⟨h,λi k=>by simp⟩
 |a::l,q,hl,h=>by
  obtain⟨h1,h2⟩:=oM hy hb l (fV n y b q a) (λx hx=>hl x (eU _ hx)) (sJ hy (hl a List.mem_cons_self) hb h);refine⟨h1,λi k=>?_⟩;simp only[np];rw[h2 i k,ye];by_cases h3:i=a<;>by_cases h4:k=b<;>simp[h3,h4,beq_eq_false_iff_ne.2]
theorem A4{n:Nat}{has needs:Nat->Int}{y:Nat->Int}(hy:∀i,0<=y i){lost:Nat->Bool}:∀(l:List Nat) (q:Fd),(∀b∈l,b<n)->l.Nodup->FdOk n has needs q ->
  FdOk n has needs (l.foldl (nX n y lost) q)/\∀b,b<n->(q.p.needs b=0\/(b∈l/\lost b=true)->(l.foldl (nX n y lost) q).p.needs b=0)
 |[],q,_,_,h=>⟨h,λb _ hc=>hc.elim id λe=>by cases e.1⟩
 |b::l,q,hl,hd,h=>by
  obtain⟨hd1,hd2⟩:=qg.1 hd;have hb:=hl b List.mem_cons_self;have key:FdOk n has needs (nX n y lost q b)/\(lost b=true->(nX n y lost q b).p.needs b=0):=by
   unfold nX;split
   .rename_i hlb;obtain⟨k1,k2⟩:=oM hy hb (List.range b) q (λa ha=>bX.1 ha) h;refine⟨k1,λ_=>hall_none k1.hall hb λi hi=>?_⟩;rw[k2];simp[hi]
   .rename_i hlb;exact⟨h,λe=>absurd e hlb⟩
  have keep:∀(l:List Nat) (q:Fd),(∀a∈l,a<b)->FdOk n has needs q->∀k,k<n->q.p.needs k=0->(l.foldl (fV n y b) q).p.needs k=0:=by
   intro l
   induction l with
   |nil=>intro q _ _ k _ h0;exact h0
   |cons a l ih=>
    intro q hl h k hk h0;refine ih (fV n y b q a) (λx hx=>hl x (eU _ hx)) (sJ hy (hl a List.mem_cons_self) hb h) k hk ?_;have h1:=(sJ hy (hl a List.mem_cons_self) hb h).hall.needs k;have hB:=xi (n:=n) (p:=q.p) (a:=a) (b:=b) hb;have hle:=bounds_le h.hall (hl a List.mem_cons_self) hb hB;obtain⟨d1,d2⟩:=uo hle (hy q.used);have hz:=(mX hB d1 d2).zero;have e:(fV n y b q a).p.needs k=if k=b then q.p.needs k-lY (eM n q.p a b).1 (eM n q.p a b).2 (y q.used) else q.p.needs k:=rfl
    rw[e]at h1 |-;split
    .rename_i hkb;rw[if_pos hkb]at h1;omega
    .exact h0
  obtain⟨i1,i2⟩:=A4 hy l (nX n y lost q b) (λx hx=>hl x (eU _ hx)) hd2 key.1;refine⟨i1,λc hc hcc=>?_⟩;simp only[np];refine i2 c hc ?_;rcases hcc with h0|⟨hm,hlc⟩
  .refine .inl ?_;unfold nX;split
   .exact keep _ q (λa ha=>bX.1 ha) h c hc h0
   .exact h0
  .rcases dQ.1 hm with rfl|hm
   .exact .inl (key.2 hlc)
   .exact .inr ⟨hm,hlc⟩
theorem Ie{n:Nat}{has needs:Nat->Int}{y:Nat->Int}(hy:∀i,0<=y i){lost:Nat->Bool}{p:Pb}(h:Hall n p)(hh:∀i,i<n->p.has i=has i)(hn:∀k,k<n->p.needs k=needs k)(hl:∀k,k<n->lost k=false->needs k=0) :
  (∀i k,0<=(l8 n y lost p).f i k)/\(∀i k,0<(l8 n y lost p).f i k->i<k/\k<n)/\(∀k,k<n->sm n (λi=>(l8 n y lost p).f i k)=needs k)/\(∀i,i<n->sm n ((l8 n y lost p).f i)<=has i):=by
 have h0:FdOk n has needs ⟨p,0,λ_ _=>0⟩:=⟨h,λi hi=>by
  show p.has i+sm n (λ_=>0)=_;rw[sm_zero λ_ _=>rfl,hh i hi];omega,λk hk=>by
  show p.needs k+sm n (λ_=>0)=_
  rw[sm_zero λ_ _=>rfl,hn k hk];omega,λ_ _=>dF _,λ_ _ e=>absurd e (by simp)⟩
 obtain⟨k1,k2⟩:=A4 hy (lost:=lost) (List.range n) _ (λb hb=>bX.1 hb) List.nodup_range h0;refine⟨k1.lo,k1.can,λk hk=>?_,λi hi=>?_⟩
 .have h1:=k1.needs k hk
  have h2:=k2 k hk (by
   cases hc:lost k with
   |true=>exact .inr ⟨bX.2 hk,rfl⟩
   |false=>exact .inl ((hn k hk).trans (hl k hk hc)))
  rw[h2]at h1;unfold l8;omega
 .have h1:=k1.has i hi;have h2:=k1.hall.has i;unfold l8;omega
end Tr
end Abs
end Go.Proofs.YtmndpldajflenaaGreatDoor
