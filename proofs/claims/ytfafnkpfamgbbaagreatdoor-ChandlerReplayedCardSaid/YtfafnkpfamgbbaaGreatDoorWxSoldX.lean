/-
  CONTRACTS: what of a kind a sample can have, in the program. No conditions but those in th
  CONTRACTS: mixtures of which a sample can consist; Sold, in the program. No conditions but
  CONTRACTS: wax.Check and Sold in the reference. No conditions but those in the theorems' h
  CONTRACTS: wax.Sold in the reference; it is the program's. No conditions but those in the 
  CONTRACTS: wax.Sold in the reference: from which to which parts; it is the program's. No c
  CONTRACTS: wax.Sold in the reference; it is the program's. No conditions but those in the 
-/
import Derived.Test.YtfafnkpfamgbbaaGreatDoorAbsCutX
import Derived.Test.YtfafnkpfamgbbaaGreatDoorWxChkX
set_option linter.unusedSimpArgs false
set_option linter.unusedVariables false
open Go.Proofs.Tryz renaming prog->TP
namespace Go.Proofs.YtfafnkpfamgbbaaGreatDoor
namespace Abs
namespace Wx
set_option maxRecDepth 4000
structure TableOk (t:WxTable):Prop where
 props:t.props.length<=5
 propsL:1<=t.props.length
 kinds:t.kinds.length<=8
 kindsL:1<=t.kinds.length
 error:∀ p,p∈t.props->0<=p.error/\p.error<=10000
 len:∀ k,k∈t.kinds->k.props.length=t.props.length
 vals:∀ k,k∈t.kinds->∀ s,s∈k.props->0<=s.lo/\s.lo<=s.hi/\s.hi<=100000
 purity:1<=t.purity/\t.purity<=1000
 names:firstErr (kindErr t.props.length) (·.name) t.kinds []=none
theorem fF {α} {f:List ByteArray->α->Int} {nm}:∀ {l} {before},firstErr f nm l before=none->∀ (a) (x) (r),l=a++x::r->f (before++a.map nm) x=0
 |[],_,_,a,x,r,e=>by simp at e
 |y::l,before,h,a,x,r,e=>by
  rw [firstErr] at h;split at h
  .rename_i h0
   cases a with
   |nil =>
    obtain ⟨hz,_⟩:=Bd e;subst hz
    simpa using h0
   |cons z a =>
    obtain ⟨hz,e'⟩:=Bd e;subst hz;have:=fF h a x r e';simpa using this
  .cases h
theorem ic {α} {f:List ByteArray->α->Int} {nm}:∀ {l} {before} {i e},firstErr f nm l before=some (i,e)->e≠0
 |[],_,_,_,h=>by cases h
 |y::r,before,i,e,h=>by
  rw [firstErr] at h;split at h
  .exact ic h
  .rename_i h0;cases h;exact h0
theorem EE {t} (h:(wxCheck t).2.2=0):TableOk t:=by
 unfold wxCheck at h;split at h
 .rename_i h1;split at h
  .rename_i h2
   cases hp:firstErr cI (·.name) t.props [] with
   |some q=>obtain ⟨i,e⟩:=q;rw [hp] at h;exact absurd h (ic hp)
   |none =>
    rw [hp] at h
    cases hk:firstErr (kindErr t.props.length) (·.name) t.kinds [] with
    |some q=>obtain ⟨i,e⟩:=q;simp only [tail,hk] at h;exact absurd h (ic hk)
    |none =>
     simp [ar] at h1 h2;have kb:∀ k,k∈t.kinds->fJ t.props.length k=0:=λk hkm=>by
      obtain ⟨a,r,e⟩:=Nv hkm;have:=fF hk a k r e;unfold kindErr at this;split at this
      .exact this
      .contradiction
     refine ⟨by omega,by omega,by omega,by omega,λp hpm=>?_,λk hkm=>?_,λk hkm s hs=>?_,by omega,hk⟩
     .obtain ⟨a,r,e⟩:=Nv hpm;have:=fF hp a p r e;unfold cI lf at this;split at this
      .split at this
       .rename_i h3;simpa [ar] using h3
       .cases this
      .contradiction
     .have:=kb k hkm;unfold fJ at this;split at this
      .assumption
      .cases this
     .have:=kb k hkm;unfold fJ at this;split at this
      .split at this
       .cases this
       .split at this
        .cases this
        .rename_i h3 h4;simp only [DW,not_exists,not_and] at h3 h4;have h3:=h3 s hs;have h4:=h4 s hs;simp [mA,ar] at h3 h4;omega
      .cases this
  .cases h
 .cases h
def kx (n:Int):Bool:=n==-1||ar n 0 100000
def eN (t:WxTable) (rs:List Int):Int:=if (wxCheck t).2.2=0 then (if rs.length=t.props.length then (if rs.all kx=true then 0 else 7) else 3) else (wxCheck t).2.2
def rj (t:WxTable) (rs:List Int):PV:=.ptr 4 [.agg [.slice 2 (t.props.map WxProp.pv) false,.slice 2 (t.kinds.map WxKind.pv) false,.int .i64 t.purity,.slice 1 (rs.map aK) false]] 0 0
attribute [go_sem] rj
theorem Kx (t) (rs) (hrs:rs.length<1000000000):ah TP 249 [t.pv,.slice 1 (rs.map aK) false] (.tuple [if eN t rs=0 then rj t rs else .nilptr,.int .i64 (eN t rs)]):=by
 refine cW (ai (by kernel_rfl) rfl Xm) rfl ?_;simp only [go_sem,simprocAttr];refine ae (pU t) rfl ?_;simp only [al,go_sem,simprocAttr];cases h0:((wxCheck t).2.2 != 0)
 rotate_left
 .have h0':¬ (wxCheck t).2.2=0:=by simpa using h0
  simp only [eN,if_neg h0',go_sem,simprocAttr]
 have h0':(wxCheck t).2.2=0:=by simpa using h0
 simp only [go_sem,simprocAttr];cases h1:((rs.length:Int) != (t.props.length:Int))
 rotate_left
 .have h1':¬ rs.length=t.props.length:=by simp at h1;omega
  simp only [eN,if_neg h1',h0',go_sem,simprocAttr]
 have h1':rs.length=t.props.length:=by simp at h1;omega
 have hsp:eN t rs=if rs.all kx=true then 0 else 7:=by rw [eN,if_pos h0',if_pos h1']
 rw [hsp];simp only [go_sem,simprocAttr];refine br [1,2,26,27] rs hrs (τ:=Unit) (λdone rest _=>rs.all kx=rest.all kx) (λdone _=>[(28,.p (.int .i64 done.length))]) (λ_ _=>[.row 3 [.p t.pv]]) () rfl ?_ ?_ ?_
 .simp only [go_sem,simprocAttr]<;>simp
 .intro _ e2;simp only [e2,PM,go_sem,simprocAttr]
 .intro done n r _ e1 e2 hx hlt hnx;rw [List.all_cons] at e2;simp only [hlt,hx,go_sem,simprocAttr];cases h2:(n != -1)
  .have:kx n=true:=by simp [kx];simp at h2;exact .inl h2
   rw [this,wW] at e2;simp only [go_sem,simprocAttr];refine aF e1 () e2 ?_;simp only [hnx,go_sem,simprocAttr]
  .have hr:kx n=ar n 0 100000:=by simp [kx];simp at h2;simp [h2]
   simp only [go_sem,simprocAttr];refine ae (e8 0 100000 [_] true (by simp)) rfl ?_;simp only [bp,bF,bS,go_sem,simprocAttr];rw [hr] at e2;cases h3:ar n 0 100000
   .rw [h3,Bool.false_and] at e2;simp only [e2,go_sem,simprocAttr]
   .rw [h3,wW] at e2;simp only [go_sem,simprocAttr];refine aF e1 () e2 ?_;simp only [hnx,go_sem,simprocAttr]
theorem tW (a b:Int) (hb:0<b):a / b=if a.tmod b<0 then a.tdiv b-1 else a.tdiv b:=by
 have h1:=Int.tdiv_eq_ediv (a:=a) (b:=b);have h2:=Int.tmod_eq_emod (a:=a) (b:=b);have h3:=Int.emod_nonneg a (Int.ne_of_gt hb);have h4:=Int.emod_lt_of_pos a hb;have h5:b.sign=1:=Int.sign_eq_one_of_pos hb;have h6:(b.natAbs:Int)=b:=Int.natAbs_of_nonneg (D1 hb);rw [h5] at h1;by_cases hc:0<=a\/b ∣ a
 .rw [if_pos hc] at h1 h2;rw [if_neg (by omega)];omega
 .rw [if_neg hc] at h1 h2;rw [if_pos (by omega)];omega
theorem wv {a b B} (hb:0<b) (h1:-B<=a) (h2:a<=B) (hB:0<=B):-B<=a / b/\a / b<=B:=by
 refine ⟨(w8 hb).2 ?_,?_⟩
 .have:B*1<=B*b:=tJ (by omega) hB;have e:-B*b=-(B*b):=by rw [Ep]
  omega
 .rcases Jj 0 a with h | h
  .exact A9 (Int.ediv_le_self b h) h2
  .have:=Eo hb h;rw [Int.zero_ediv] at this;omega
theorem lV (a b) (hb:0<b) (h1:-1000000000000000000<=a) (h2:a<=1000000000000000000):ah TP 324 [.int .i64 a,.int .i64 b] (.int .i64 (a / b)):=by
 refine aa (ai (by kernel_rfl) rfl Wd) rfl ?_;have hb0:¬ b=0:=by omega
 have hr:=wv hb h1 h2 (by omega);have hd:=tW a b hb;have e1:IntKind.i64.wrap (a.tdiv b)=a.tdiv b:=by
  split at hd
  .exact ax (by omega) (by omega)
  .exact ax (by omega) (by omega)
 simp only [hb0,e1,go_sem,simprocAttr];cases hm:decide (a.tmod b<0)
 .rw [if_neg (by simpa using hm)] at hd;simp only [hd,go_sem,simprocAttr]
 .rw [if_pos (by simpa using hm)] at hd;have e2:IntKind.i64.wrap (a.tdiv b-1)=a.tdiv b-1:=ax (by omega) (by omega);simp only [hd,e2,go_sem,simprocAttr]
def aM (s:Span):Prop:=0<=s.lo/\s.lo<=s.hi/\s.hi<=100000
theorem Ua (x y) (r e) (a b c d) (h) (ha:h[a]?=some (.row 2 [.p x.pv])) (hb:h[b]?=some (.row 2 [.p y.pv])) (hc:h[c]?=some (.row 1 [.p (.int .i64 r)])) (hd:h[d]?=some (.row 1 [.p (.int .i64 e)]))
  (hx:aM x) (hy:aM y) (hr:0<=r/\r<=100000) (he:0<=e/\e<=10000) :
  aC TP 307 [.ptr a 1 0 0,.ptr b 1 0 0,.ptr c 1 0 0,.ptr d 1 0 0] h (λq h'=>q=.ret (.p (.tuple [.int .i64 (x.lo-y.lo),.int .i64 (1000*(y.lo-r-e))]))/\h'=h):=by
 refine aB (ai (by kernel_rfl) rfl Wt) rfl ?_;unfold aM at hx hy;have w1:IntKind.i64.wrap (x.lo-y.lo)=x.lo-y.lo:=ax (by omega) (by omega);have w2:IntKind.i64.wrap (y.lo-r)=y.lo-r:=ax (by omega) (by omega);have w3:IntKind.i64.wrap (y.lo-r-e)=y.lo-r-e:=ax (by omega) (by omega);have w4:IntKind.i64.wrap (1000*(y.lo-r-e))=1000*(y.lo-r-e):=ax (by omega) (by omega);simp only [Span.pv] at ha hb;simp only [ha,hb,hc,hd,w1,w2,w3,w4,go_sem,simprocAttr]
theorem Zd (y x) (r e) (a b c d) (h) (ha:h[a]?=some (.row 2 [.p y.pv])) (hb:h[b]?=some (.row 2 [.p x.pv])) (hc:h[c]?=some (.row 1 [.p (.int .i64 r)])) (hd:h[d]?=some (.row 1 [.p (.int .i64 e)]))
  (hx:aM x) (hy:aM y) (hr:0<=r/\r<=100000) (he:0<=e/\e<=10000) :
  aC TP 308 [.ptr a 1 0 0,.ptr b 1 0 0,.ptr c 1 0 0,.ptr d 1 0 0] h (λq h'=>q=.ret (.p (.tuple [.int .i64 (y.hi-x.hi),.int .i64 (1000*(r-e-y.hi))]))/\h'=h):=by
 refine aB (ai (by kernel_rfl) rfl Ws) rfl ?_;unfold aM at hx hy;have w1:IntKind.i64.wrap (y.hi-x.hi)=y.hi-x.hi:=ax (by omega) (by omega);have w2:IntKind.i64.wrap (r-e)=r-e:=ax (by omega) (by omega);have w3:IntKind.i64.wrap (r-e-y.hi)=r-e-y.hi:=ax (by omega) (by omega);have w4:IntKind.i64.wrap (1000*(r-e-y.hi))=1000*(r-e-y.hi):=ax (by omega) (by omega);simp only [Span.pv] at ha hb;simp only [ha,hb,hc,hd,w1,w2,w3,w4,go_sem,simprocAttr]
def I7 (l:Span):Prop:=0<=l.lo/\l.lo<=300000000/\-300000000<=l.hi/\l.hi<=300000000
theorem Bk {l} {q} (hl:I7 l) (h1:-300000000<=q.2) (h2:q.2<=300000000):I7 (cS l q):=by
 unfold I7 cS at *
 split
 .rename_i h;have:=wv (a:=-q.2) (B:=300000000) h (by omega) (by omega) (by omega);dsimp only;split<;>omega
 .split
  .rename_i h;have:=wv (a:=-q.2) (b:=-q.1) (B:=300000000) (by omega) (by omega) (by omega) (by omega);dsimp only;split<;>omega
  .split
   .dsimp only;omega
   .exact hl
theorem Ll {s} (q) (h:0<q.1):cS s q=⟨s.lo,if (-q.2) / q.1<s.hi then (-q.2) / q.1 else s.hi⟩:=by rw [cS,if_pos h]
theorem Lk {s} (q) (h:¬ 0<q.1) (h2:q.1<0):cS s q=⟨if s.lo < -((-q.2) / (-q.1)) then -((-q.2) / (-q.1)) else s.lo,s.hi⟩:=by rw [cS,if_neg h,if_pos h2]
theorem Lj {s} (q) (h:¬ 0<q.1) (h2:¬ q.1<0) (h3:0<q.2):cS s q=⟨s.lo,s.lo-1⟩:=by rw [cS,if_neg h,if_neg h2,if_pos h3]
theorem Li {s} (q) (h:¬ 0<q.1) (h2:¬ q.1<0) (h3:¬ 0<q.2):cS s q=s:=by rw [cS,if_neg h,if_neg h2,if_neg h3]
theorem Oy (l x y) (r e) (i a b c d) (h) (hi:h[i]?=some (.row 2 [.p l.pv])) (ha:h[a]?=some (.row 2 [.p x.pv])) (hb:h[b]?=some (.row 2 [.p y.pv])) (hc:h[c]?=some (.row 1 [.p (.int .i64 r)])) (hd:h[d]?=some (.row 1 [.p (.int .i64 e)]))
  (f) (hf:h[f]?=some (.row 1 [.func (.func 307) [] [.ptr a 1 0 0,.ptr b 1 0 0,.ptr c 1 0 0,.ptr d 1 0 0],.func (.func 308) [] [.ptr b 1 0 0,.ptr a 1 0 0,.ptr c 1 0 0,.ptr d 1 0 0]]))
  (nia:i≠a) (nib:i≠b) (nic:i≠c) (nid:i≠d) (nif:i≠f) (hl:I7 l) (hx:aM x) (hy:aM y) (hr:0<=r/\r<=100000) (he:0<=e/\e<=10000) :
  aC TP 309 [.ptr i 1 0 0,.slice f 2 0 2] h (λq h'=>q=.ret (.p (.tuple []))/\h'=h.set i (.row 2 [.p (cS (cS l (x.lo-y.lo,1000*(y.lo-r-e))) (y.hi-x.hi,1000*(r-e-y.hi))).pv])):=by
 refine aB (ai (by kernel_rfl) rfl Wr) rfl ?_;have hv:=hx;have hw:=hy
 unfold aM at hv hw;have hil:i<h.length:=(aE.1 hi).1;have gi:∀ v,(h.set i v)[i]?=some v:=λv=>iP hil;have gn:∀ v j,i≠j->(h.set i v)[j]?=h[j]?:=λv j hj=>d5 hj;have hl1:=Bk (q:=(x.lo-y.lo,1000*(y.lo-r-e))) hl (by dsimp only;omega) (by dsimp only;omega);have e11:x.lo-y.lo=((x.lo-y.lo,1000*(y.lo-r-e)):Int×Int).1:=rfl;have e21:1000*(y.lo-r-e)=((x.lo-y.lo,1000*(y.lo-r-e)):Int×Int).2:=rfl;have e12:y.hi-x.hi=((y.hi-x.hi,1000*(r-e-y.hi)):Int×Int).1:=rfl;have e22:1000*(r-e-y.hi)=((y.hi-x.hi,1000*(r-e-y.hi)):Int×Int).2:=rfl;generalize hq1:((x.lo-y.lo,1000*(y.lo-r-e)):Int×Int)=q1 at hl1 e11 e21 |-;generalize hq2:((y.hi-x.hi,1000*(r-e-y.hi)):Int×Int)=q2 at e12 e22 |-;have b1:-300000000<=q1.2/\q1.2<=300000000/\-300000000<=q1.1/\q1.1<=300000000:=by rw [<-hq1];dsimp only;omega
 have b2:-300000000<=q2.2/\q2.2<=300000000/\-300000000<=q2.1/\q2.1<=300000000:=by rw [<-hq2];dsimp only;omega
 simp only [hf,go_sem,simprocAttr]
 refine dZ [0,8,9] (σ:=Nat×Span) (λq=>(q=(0,l)\/q=(1,cS l q1)\/q=(2,cS (cS l q1) q2))) (λq=>2-q.1)
  (λq=>[(10,.p (.int .i64 q.1))]) (λq=>h.set i (.row 2 [.p q.2.pv])) (0,l) (.inl rfl) (ov hi).symm ?_ ?_
 .simp only [go_sem,simprocAttr]
 rintro ⟨k,s⟩ hk
 have w0:IntKind.i64.wrap (1:Int)=1:=rfl;have w2:IntKind.i64.wrap (2:Int)=2:=rfl;have hneg:∀ n:Int,-300000000<=n->n<=300000000->IntKind.i64.wrap (-n)=-n:=λn h1 h2=>ax (by omega) (by omega);rcases hk with hk | hk | hk
 .obtain ⟨ek,es⟩:=Prod.mk.inj hk;have es':=es.symm;subst ek;subst es';have hz:∀ v,(h.set i v)[f]?=_:=λv=>(gn v f nif).trans hf;simp only [hz,go_sem,simprocAttr];refine cy (Ua x y r e a b c d _ (by rw [gn _ _ nia];exact ha) (by rw [gn _ _ nib];exact hb) (by rw [gn _ _ nic];exact hc) (by rw [gn _ _ nid];exact hd) hx hy hr he) ?_;rw [e11,e21];have hzz:∀ v,(h.set i v)[i]?=some v:=gi;by_cases c1:0<q1.1
  .have c1':decide (0<q1.1)=true:=by simpa using c1
   simp only [c1',hneg _ b1.1 b1.2.1,gi,go_sem,simprocAttr]
   (first | refine ae (lV (-q1.2) q1.1 c1 (by omega) (by omega)) rfl ?_ | refine aD (lV (-q1.2) q1.1 c1 (by omega) (by omega)) rfl ?_)
   simp only [gi,tL,go_sem,simprocAttr];refine aZ (1,cS l q1) (.inr (.inl rfl)) (by dsimp only;omega) ?_ ?_
   .simp only [go_sem,simprocAttr];rw [Ll (s:=l) q1 c1]
   .simp only [go_sem,simprocAttr]
  have c1':decide (0<q1.1)=false:=by simpa using c1
  by_cases c2:q1.1<0
  .have c2':decide (q1.1<0)=true:=by simpa using c2
   have hd:=wv (a:=-q1.2) (b:=-q1.1) (B:=300000000) (by omega) (by omega) (by omega) (by omega);simp only [c1',c2',hneg _ b1.1 b1.2.1,hneg _ b1.2.2.1 b1.2.2.2,gi,go_sem,simprocAttr]
   (first | refine ae (lV (-q1.2) (-q1.1) (by omega) (by omega) (by omega)) rfl ?_ | refine aD (lV (-q1.2) (-q1.1) (by omega) (by omega) (by omega)) rfl ?_)
   simp only [gi,tL,hneg _ hd.1 hd.2,go_sem,simprocAttr];refine aZ (1,cS l q1) (.inr (.inl rfl)) (by dsimp only;omega) ?_ ?_
   .simp only [go_sem,simprocAttr];rw [Lk (s:=l) q1 c1 c2]
   .simp only [go_sem,simprocAttr]
  have c2':decide (q1.1<0)=false:=by simpa using c2
  by_cases c3:0<q1.2
  .have c3':decide (0<q1.2)=true:=by simpa using c3
   have hw3:IntKind.i64.wrap (l.lo-1)=l.lo-1:=ax (by have:=hl.1;have:=hl.2.1;omega) (by have:=hl.1;have:=hl.2.1;omega);simp only [c1',c2',c3',gi,tL,hw3,go_sem,simprocAttr];refine aZ (1,cS l q1) (.inr (.inl rfl)) (by dsimp only;omega) ?_ ?_
   .simp only [go_sem,simprocAttr];rw [Lj (s:=l) q1 c1 c2 c3]
   .simp only [go_sem,simprocAttr]
  have c3':decide (0<q1.2)=false:=by simpa using c3
  simp only [c1',c2',c3',go_sem,simprocAttr];refine aZ (1,cS l q1) (.inr (.inl rfl)) (by dsimp only;omega) ?_ ?_
  .simp only [go_sem,simprocAttr];rw [Li (s:=l) q1 c1 c2 c3]
  .simp only [go_sem,simprocAttr]
 .obtain ⟨ek,es⟩:=Prod.mk.inj hk;have es':=es.symm;subst ek;subst es';have hz:∀ v,(h.set i v)[f]?=_:=λv=>(gn v f nif).trans hf;simp only [hz,go_sem,simprocAttr];refine cy (Zd y x r e b a c d _ (by rw [gn _ _ nib];exact hb) (by rw [gn _ _ nia];exact ha) (by rw [gn _ _ nic];exact hc) (by rw [gn _ _ nid];exact hd) hx hy hr he) ?_;rw [e12,e22];have hzz:∀ v,(h.set i v)[i]?=some v:=gi;by_cases c1:0<q2.1
  .have c1':decide (0<q2.1)=true:=by simpa using c1
   simp only [c1',hneg _ b2.1 b2.2.1,gi,go_sem,simprocAttr]
   (first | refine ae (lV (-q2.2) q2.1 c1 (by omega) (by omega)) rfl ?_ | refine aD (lV (-q2.2) q2.1 c1 (by omega) (by omega)) rfl ?_)
   simp only [gi,tL,go_sem,simprocAttr];refine aZ (2,cS (cS l q1) q2) (.inr (.inr rfl)) (by dsimp only;omega) ?_ ?_
   .simp only [go_sem,simprocAttr];rw [Ll (s:=(cS l q1)) q2 c1]
   .simp only [go_sem,simprocAttr]
  have c1':decide (0<q2.1)=false:=by simpa using c1
  by_cases c2:q2.1<0
  .have c2':decide (q2.1<0)=true:=by simpa using c2
   have hd:=wv (a:=-q2.2) (b:=-q2.1) (B:=300000000) (by omega) (by omega) (by omega) (by omega);simp only [c1',c2',hneg _ b2.1 b2.2.1,hneg _ b2.2.2.1 b2.2.2.2,gi,go_sem,simprocAttr]
   (first | refine ae (lV (-q2.2) (-q2.1) (by omega) (by omega) (by omega)) rfl ?_ | refine aD (lV (-q2.2) (-q2.1) (by omega) (by omega) (by omega)) rfl ?_)
   simp only [gi,tL,hneg _ hd.1 hd.2,go_sem,simprocAttr];refine aZ (2,cS (cS l q1) q2) (.inr (.inr rfl)) (by dsimp only;omega) ?_ ?_
   .simp only [go_sem,simprocAttr];rw [Lk (s:=(cS l q1)) q2 c1 c2]
   .simp only [go_sem,simprocAttr]
  have c2':decide (q2.1<0)=false:=by simpa using c2
  by_cases c3:0<q2.2
  .have c3':decide (0<q2.2)=true:=by simpa using c3
   have hw3:IntKind.i64.wrap ((cS l q1).lo-1)=(cS l q1).lo-1:=ax (by have:=hl1.1;have:=hl1.2.1;omega) (by have:=hl1.1;have:=hl1.2.1;omega);simp only [c1',c2',c3',gi,tL,hw3,go_sem,simprocAttr];refine aZ (2,cS (cS l q1) q2) (.inr (.inr rfl)) (by dsimp only;omega) ?_ ?_
   .simp only [go_sem,simprocAttr];rw [Lj (s:=(cS l q1)) q2 c1 c2 c3]
   .simp only [go_sem,simprocAttr]
  have c3':decide (0<q2.2)=false:=by simpa using c3
  simp only [c1',c2',c3',go_sem,simprocAttr];refine aZ (2,cS (cS l q1) q2) (.inr (.inr rfl)) (by dsimp only;omega) ?_ ?_
  .simp only [go_sem,simprocAttr];rw [Li (s:=(cS l q1)) q2 c1 c2 c3]
  .simp only [go_sem,simprocAttr]
 .obtain ⟨rfl,rfl⟩:=Prod.mk.inj hk;simp only [go_sem,simprocAttr]
def oC (t:WxTable) (rs:List Int) (a b:WxKind) (lo hi:Int):Span:=gP ⟨lo,hi⟩ t.props a.props b.props rs
theorem E3 {ps:List WxProp} {xs ys:List Span} {r} {l} {k} {p} {x y} {n} (hp:ps[k]?=some p) (hx:xs[k]?=some x) (hy:ys[k]?=some y) :
  gP l (ps.drop k) (xs.drop k) (ys.drop k) (n::r)=gP (q9 l x y p.error n) (ps.drop (k+1)) (xs.drop (k+1)) (ys.drop (k+1)) r:=by
 have h1:=(aE.1 hp)
 have h2:=(aE.1 hx)
 have h3:=(aE.1 hy)
 obtain ⟨i1,rfl⟩:=h1;obtain ⟨i2,rfl⟩:=h2;obtain ⟨i3,rfl⟩:=h3;rw [oV i1,oV i2,oV i3,gP]
set_option maxHeartbeats 4000000 in
theorem UE (t) (rs) (i j:Nat) (a b) (lo hi) (ht:TableOk t) (hrs:rs.length=t.props.length) (hro:rs.all kx=true) (ha:t.kinds[i]?=some a) (hb:t.kinds[j]?=some b) (hlo:1<=lo/\lo<=1000) (hhi:1<=hi/\hi<=1000) :
  ah TP 288 [rj t rs,.int .i64 i,.int .i64 j,.int .i64 lo,.int .i64 hi] (oC t rs a b lo hi).pv:=by
 refine aa (ai (by kernel_rfl) rfl WP) rfl ?_;have hil:(i:Int)<(t.kinds.length:Int):=by have:=(aE.1 ha).1;omega
 have hjl:(j:Int)<(t.kinds.length:Int):=by have:=(aE.1 hb).1;omega
 have hpl:=ht.props;have hal:=ht.len a (aL ha);have hbl:=ht.len b (aL hb);simp only [Vo,go_sem,simprocAttr]
 refine br [0,1,2,10,11,25,26] rs (by omega) (τ:=Span) (λdone rest l=>I7 l/\oC t rs a b lo hi=gP l (t.props.drop done.length) (a.props.drop done.length) (b.props.drop done.length) rest) (λdone _=>[(27,.p (.int .i64 done.length))])
  (λ_ l=>[.row 2 [.p (.agg [.int .i64 0,.int .i64 0])],.row 2 [.p l.pv]]) ⟨lo,hi⟩ ⟨by unfold I7;dsimp only;omega,rfl⟩ ?_ ?_ ?_
 .simp only [go_sem,simprocAttr]
 .intro l ⟨_,e2⟩;have:∀ (l:Span) (ps:List WxProp) (xs ys:List Span),gP l ps xs ys ([]:List Int)=l:=λl ps xs ys=>by cases ps<;>cases xs<;>cases ys<;>rfl
  rw [this] at e2;simp only [e2,go_sem,simprocAttr]
 .intro done n r l e1 ⟨hB,e2⟩ hx hlt hnx;have hdl:=congrArg List.length e1;simp only [aI,ct] at hdl;obtain ⟨p,hp⟩:∃ p,t.props[done.length]?=some p:=⟨_,bE (by omega)⟩
  obtain ⟨x,hxx⟩:∃ x,a.props[done.length]?=some x:=⟨_,bE (by omega)⟩
  obtain ⟨y,hyy⟩:∃ y,b.props[done.length]?=some y:=⟨_,bE (by omega)⟩
  rw [E3 hp hxx hyy] at e2;have hdn:(done++[n]).length=done.length+1:=by simp
  have hn:=iV.1 hro n (by rw [e1];simp);simp only [hlt,hx,go_sem,simprocAttr];cases h1:(n==-1)
  .have hr:0<=n/\n<=100000:=by
    have:¬ n=-1:=by simpa using h1
    simpa [kx,this,ar] using hn
   have hne:¬ n=-1:=by omega
   have hpe:=ht.error p (aL hp);have hxv:=ht.vals a (aL ha) x (aL hxx);have hyv:=ht.vals b (aL hb) y (aL hyy);have l1:(done.length:Int)<(a.props.length:Int):=by omega
   have l2:(done.length:Int)<(b.props.length:Int):=by omega
   have l3:(done.length:Int)<(t.props.length:Int):=by omega
   rw [q9,if_neg hne] at e2;simp only [bj,ha,hb,hil,hjl,hp,hxx,hyy,l1,l2,l3,go_sem,simprocAttr];refine cy (Oy l x y n p.error 1 3 4 2 5 _ rfl rfl rfl rfl rfl 6 rfl (by decide) (by decide) (by decide) (by decide) (by decide) hB hxv hyv hr hpe) ?_;simp only [go_sem,simprocAttr];have hB2:=Bk (q:=(y.hi-x.hi,1000*(n-p.error-y.hi))) (Bk (q:=(x.lo-y.lo,1000*(y.lo-n-p.error))) hB (by dsimp only;omega) (by dsimp only;omega)) (by dsimp only;omega) (by dsimp only;omega);refine aF e1 _ ⟨hB2,by rw [hdn];exact e2⟩ ?_;simp only [hnx,go_sem,simprocAttr]
  .have hn1:n=-1:=by simpa using h1
   rw [q9,if_pos hn1] at e2;simp only [go_sem,simprocAttr];refine aF e1 l ⟨hB,by rw [hdn];exact e2⟩ ?_;simp only [hnx,go_sem,simprocAttr]
def jf (t:WxTable) (rs:List Int) (q:Nat×Nat):Span :=
 match t.kinds[q.1]?,t.kinds[q.2]? with
 |some a,some b=>oC t rs a b (if q.1=q.2 then 1000 else 1) (if q.1=q.2 then 1000 else 999)
 |_,_=>⟨1,0⟩
def sK (t:WxTable) (rs:List Int) (q:Nat×Nat):List ((Nat×Nat)×Span):=match vQ (jf t rs q) with | some s=>[(q,s)] | none=>[]
def ua (t:WxTable) (rs:List Int) (a:Nat):Nat->Nat->List ((Nat×Nat)×Span)
 |_,0=>[]
 |b,c+1=>sK t rs (a,b)++ua t rs a (b+1) c
def sv (t:WxTable) (rs:List Int):Nat->Nat->List ((Nat×Nat)×Span)
 |_,0=>[]
 |a,c+1=>ua t rs a 0 (a+1)++sv t rs (a+1) c
def lZ (t:WxTable) (rs:List Int):List ((Nat×Nat)×Span):=sv t rs 0 t.kinds.length
def lL (m:(Nat×Nat)×Span):PV:=.agg [.int .i64 m.1.1,.int .i64 m.1.2,.int .i64 m.2.lo,.int .i64 m.2.hi]
attribute [go_sem] lL
theorem vJ (t) (rs) (a):∀ (c b),ua t rs a b c=(List.range' b c).flatMap λb=>sK t rs (a,b)
 |0,b=>rfl
 |c+1,b=>by rw [ua,vJ t rs a c (b+1),List.range'_succ,kR]
theorem Nd (t) (rs):∀ (c a),sv t rs a c=((List.range' a c).flatMap λa=>(List.range (a+1)).map λb=>(a,b)).flatMap (sK t rs)
 |0,a=>rfl
 |c+1,a=>by
  rw [sv,Nd t rs c (a+1),List.range'_succ,kR,vg,vJ,List.flatMap_map,List.range_eq_range']
theorem Io (t) (rs):lZ t rs=(E5 t.kinds.length).flatMap (sK t rs):=by
 rw [lZ,Nd,E5,List.range_eq_range']
theorem Am (t) (rs) (kind):∀ (l) (p),(l.flatMap (sK t rs)).foldl (λp m=>jk p (iZ kind m.1 m.2)) p=joinL (λq=>(vQ (jf t rs q)).map (iZ kind q)) l p
 |[],p=>rfl
 |q::l,p=>by
  rw [kR,wS,Am t rs kind l,joinL];unfold sK;cases vQ (jf t rs q)<;>rfl
def nN (t:WxTable) (rs:List Int):PV:=.func (.func 287) [] [.ptr 1 [rj t rs] 0 0]
theorem MP (t) (rs):ah TP 250 [rj t rs] (nN t rs):=by
 refine cW (ai (by kernel_rfl) rfl Xl) rfl ?_;simp only [nN,go_sem,simprocAttr]
set_option maxHeartbeats 4000000 in
theorem Ml (t) (rs) (ht:TableOk t) (hrs:rs.length=t.props.length) (hro:rs.all kx=true):K7 TP (nN t rs) 1 ((lZ t rs).map λm=>[lL m]):=by
 refine ⟨λa ha=>?_,_,_,_,rfl,λid Inv Fin h0 hid hy hi=>?_⟩
 .obtain ⟨q,_,rfl⟩:=ec.1 ha;rfl
 have hkl:=ht.kinds;refine aB (ai (by kernel_rfl) rfl WS) rfl ?_;simp only [go_sem,simprocAttr]
 refine dZ [0,1,13] (σ:=Nat×List ((Nat×Nat)×Span)×Heap×Heap)
  (λq=>q.1<=t.kinds.length/\lZ t rs=q.2.1++sv t rs q.1 (t.kinds.length-q.1)/\Inv q.2.1.length q.2.2.1/\q.2.2.1.length=h0.length) (λq=>t.kinds.length-q.1)
  (λq=>[(14,.p (.int .i64 q.1))]) (λq=>q.2.2.1++q.2.2.2) (0,[],h0,[]) ⟨dD _,rfl,hi,rfl⟩ (by simp) ?_ ?_
 .simp only [go_sem,simprocAttr]
 rintro ⟨i,pre,lo,mid⟩ ⟨h1,h2,hI,hlo⟩
 dsimp only at h1 h2 hI hlo;rcases zl h1 with he | hlt0
 .have hlt:decide ((i:Int)<(t.kinds.length:Int))=false:=by simp;omega
  rw [he,El,sv,aW] at h2;simp only [hlt,go_sem,simprocAttr];refine ⟨lo,mid,rfl,hlo,.inl ?_⟩;rw [h2];exact hI
 have hlt:decide ((i:Int)<(t.kinds.length:Int))=true:=by simp;omega
 have hsub:t.kinds.length-i=(t.kinds.length-(i+1))+1:=by omega
 rw [hsub,sv] at h2;have hw:IntKind.i64.wrap ((i:Int)+1)=((i+1:Nat):Int):=ba (by omega) (by simp [aw];omega) (by omega);obtain ⟨a,ha⟩:∃ a,t.kinds[i]?=some a:=⟨_,bE hlt0⟩
 simp only [hlt,hw,go_sem,simprocAttr]
 refine dZ [0,1,3,13,14,18] (σ:=Nat×List ((Nat×Nat)×Span)×Heap×Heap)
  (λq=>q.1<=i+1/\lZ t rs=q.2.1++(ua t rs i q.1 (i+1-q.1)++sv t rs (i+1) (t.kinds.length-(i+1)))/\Inv q.2.1.length q.2.2.1/\q.2.2.1.length=h0.length) (λq=>i+1-q.1)
  (λq=>[(19,.p (.int .i64 q.1))]) (λq=>q.2.2.1++q.2.2.2) (0,pre,lo,mid) ⟨dD _,h2,hI,hlo⟩ rfl ?_ ?_
 .simp only [go_sem,simprocAttr]
 clear h2 hI hlo
 rintro ⟨j,pre,lo,mid⟩ ⟨g1,g2,hI,hlo⟩
 dsimp only at g1 g2 hI hlo;rcases zl g1 with he | hltj
 .have hl2:decide ((j:Int)<((i+1:Nat):Int))=false:=by simp;omega
  rw [he,El,ua,oq] at g2;simp only [hl2,go_sem,simprocAttr];refine aZ (i+1,pre,lo,mid) ⟨by omega,g2,hI,hlo⟩ (by dsimp only;omega) rfl ?_;simp only [hw,go_sem,simprocAttr]
 have hl2:decide ((j:Int)<((i+1:Nat):Int))=true:=by simp;omega
 have hsub2:i+1-j=(i+1-(j+1))+1:=by omega
 rw [hsub2,ua] at g2;have hwj:IntKind.i64.wrap ((j:Int)+1)=((j+1:Nat):Int):=ba (by omega) (by simp [aw];omega) (by omega);obtain ⟨b,hb⟩:∃ b,t.kinds[j]?=some b:=⟨_,bE (by omega)⟩
 have hsame:((i:Int)==(j:Int))=decide (i=j):=by rw [qX];simp;omega
 have gg:=lp hlo;have ss:=nU hlo;have mg:=lq (lo:=mid) rfl;have ms:=nV (lo:=mid) rfl;have mix:jf t rs (i,j)=oC t rs a b (if i=j then 1000 else 1) (if i=j then 1000 else 999):=by simp only [jf,ha,hb]
 have fin:∀ {s:Span},jf t rs (i,j)=s->(s.lo<=s.hi->sK t rs (i,j)=[((i,j),s)])/\(¬ s.lo<=s.hi->sK t rs (i,j)=[]):=by
  rintro s rfl
  unfold sK vQ;constructor
  .intro h;rw [if_pos h]
  .intro h;rw [if_neg h]
 have cP:=λlo' hi' h1 h2=>UE t rs i j a b lo' hi' ht hrs hro ha hb h1 h2;rw [show (if i=j then (1000:Int) else 999)=if i=j then 1000 else 999 from rfl] at mix;by_cases hij:i=j
 .rw [if_pos hij,if_pos hij] at mix;have hd:decide (i=j)=true:=by simpa using hij
  obtain ⟨f1,f2⟩:=fin mix;simp only [hl2,hsame,hd,go_sem,simprocAttr]
  (first | refine ae (cP 1000 1000 (by omega) (by omega)) rfl ?_ | refine aD (cP 1000 1000 (by omega) (by omega)) rfl ?_)
  generalize oC t rs a b 1000 1000=s at mix f1 f2;simp only [cE,aI,bh,hlo,gg,ss,mg,ms,go_sem,simprocAttr];by_cases hc:s.lo<=s.hi
  .have hc':decide (s.lo<=s.hi)=true:=by simpa using hc
   have g2':=g2;rw [f1 hc] at g2';have hget:((lZ t rs).map λm=>[lL m])[pre.length]?=some [lL ((i,j),s)]:=by rw [g2'];simp
   simp only [bh,gg,mg,hc',go_sem,simprocAttr];refine pX (hy pre.length _ lo (mid++[AObj.row 2 [AV.p s.pv]]) hget hI hlo) (λv h' hr=>?_) (λv h' hr=>?_);rotate_left
   .obtain ⟨_,_,_,_,hr⟩:=hr;rcases hr with ⟨hr,_⟩ | ⟨hr,_⟩<;>cases hr
   obtain ⟨lo3,ext,rfl,hlo3,hr⟩:=hr;rcases hr with ⟨hr,hI3⟩ | ⟨hr,hF⟩
   .cases hr;simp only [go_sem,simprocAttr];refine aZ (j+1,pre++[((i,j),s)],lo3,mid++[.row 2 [.p s.pv]]++ext) ⟨by omega,by rw [g2'];simp,by simpa using hI3,hlo3⟩ (by dsimp only;omega) (by simp [cE,Span.pv]) ?_;simp only [hwj,go_sem,simprocAttr]
   .cases hr;simp only [go_sem,simprocAttr];exact ⟨lo3,mid++[.row 2 [.p s.pv]]++ext,by simp [cE,Span.pv],hlo3,.inr hF⟩
  .have hc':decide (s.lo<=s.hi)=false:=by simpa using hc
   rw [f2 hc,oq] at g2;simp only [hc',go_sem,simprocAttr];refine aZ (j+1,pre,lo,mid++[.row 2 [.p s.pv]]) ⟨by omega,g2,hI,hlo⟩ (by dsimp only;omega) (by simp [Span.pv]) ?_;simp only [hwj,go_sem,simprocAttr]
 .rw [if_neg hij,if_neg hij] at mix;have hd:decide (i=j)=false:=by simpa using hij
  obtain ⟨f1,f2⟩:=fin mix;simp only [hl2,hsame,hd,go_sem,simprocAttr]
  (first | refine ae (cP 1 999 (by omega) (by omega)) rfl ?_ | refine aD (cP 1 999 (by omega) (by omega)) rfl ?_)
  generalize oC t rs a b 1 999=s at mix f1 f2;simp only [cE,aI,bh,hlo,gg,ss,mg,ms,go_sem,simprocAttr];by_cases hc:s.lo<=s.hi
  .have hc':decide (s.lo<=s.hi)=true:=by simpa using hc
   have g2':=g2;rw [f1 hc] at g2';have hget:((lZ t rs).map λm=>[lL m])[pre.length]?=some [lL ((i,j),s)]:=by rw [g2'];simp
   simp only [bh,gg,mg,hc',go_sem,simprocAttr];refine pX (hy pre.length _ lo (mid++[AObj.row 2 [AV.p s.pv]]) hget hI hlo) (λv h' hr=>?_) (λv h' hr=>?_);rotate_left
   .obtain ⟨_,_,_,_,hr⟩:=hr;rcases hr with ⟨hr,_⟩ | ⟨hr,_⟩<;>cases hr
   obtain ⟨lo3,ext,rfl,hlo3,hr⟩:=hr;rcases hr with ⟨hr,hI3⟩ | ⟨hr,hF⟩
   .cases hr;simp only [go_sem,simprocAttr];refine aZ (j+1,pre++[((i,j),s)],lo3,mid++[.row 2 [.p s.pv]]++ext) ⟨by omega,by rw [g2'];simp,by simpa using hI3,hlo3⟩ (by dsimp only;omega) (by simp [cE,Span.pv]) ?_;simp only [hwj,go_sem,simprocAttr]
   .cases hr;simp only [go_sem,simprocAttr];exact ⟨lo3,mid++[.row 2 [.p s.pv]]++ext,by simp [cE,Span.pv],hlo3,.inr hF⟩
  .have hc':decide (s.lo<=s.hi)=false:=by simpa using hc
   rw [f2 hc,oq] at g2;simp only [hc',go_sem,simprocAttr];refine aZ (j+1,pre,lo,mid++[.row 2 [.p s.pv]]) ⟨by omega,g2,hI,hlo⟩ (by dsimp only;omega) (by simp [Span.pv]) ?_;simp only [hwj,go_sem,simprocAttr]
def PU (t:WxTable) (rs:List Int) (kind:Nat):Span:=VT kind (jf t rs) t.kinds.length
def m9 (purity:Int) (p:Span):Span×Int×Int:=if p.hi<0 then (⟨0,0⟩,0,9) else if purity<=p.lo then (p,1,0) else if p.hi<purity then (p,0,0) else (p,2,0)
def bI (t:WxTable) (rs:List Int) (kind:Int):Span×Int×Int :=
 if eN t rs=0 then (if ar kind 0 ((t.kinds.length:Int)-1)=true then m9 t.purity (PU t rs kind.toNat) else (⟨0,0⟩,0,4)) else (⟨0,0⟩,0,eN t rs)
theorem Cr {t} {rs} (h:eN t rs=0):TableOk t/\rs.length=t.props.length/\rs.all kx=true:=by
 unfold eN at h;split at h
 .rename_i h1;split at h
  .rename_i h2;split at h
   .rename_i h3;exact ⟨EE h1,h2,h3⟩
   .cases h
  .cases h
 .contradiction
theorem Fj {t} {rs} {q} (h:(jf t rs q).lo<=(jf t rs q).hi):1<=(jf t rs q).lo/\(jf t rs q).hi<=1000:=by
 unfold jf at h |-;split at h
 .rename_i a b ha hb;unfold oC at h |-;have h1:=(sD _ t.props a.props b.props rs _).1 ⟨pZ _,h⟩;have h2:=(sD _ t.props a.props b.props rs _).1 ⟨h,pZ _⟩;dsimp only at h1 h2;by_cases hq:q.1=q.2
  .simp only [hq,if_true] at h1 h2 |-;omega
  .simp only [hq,if_false] at h1 h2 |-;omega
 .dsimp only at h;omega
theorem In {t} {rs}:∀ m,m∈lZ t rs->1<=m.2.lo/\m.2.lo<=m.2.hi/\m.2.hi<=1000:=by
 intro m hm;rw [Io,En] at hm;obtain ⟨q,_,hm⟩:=hm;unfold sK vQ at hm;by_cases hc:(jf t rs q).lo<=(jf t rs q).hi
 .rw [if_pos hc] at hm;have:=Fj hc;rw [fT.1 hm];dsimp only;omega
 .rw [if_neg hc] at hm;cases hm
def mM (p:Span):Prop:=0<=p.lo/\p.lo<=1001/\-1<=p.hi/\p.hi<=1000
theorem Iz {p l} (h:mM p) (hl:0<=l.lo/\l.lo<=1000/\0<=l.hi/\l.hi<=1000):mM (jk p l):=by
 unfold mM jk at *
 dsimp only;refine ⟨?_,?_,?_,?_⟩<;>split<;>omega
set_option maxHeartbeats 4000000 in
theorem Zt (t) (rs) (kind) (hrs0:rs.length<1000000000):ah TP 176 [t.pv,.slice 1 (rs.map aK) false,.int .i64 kind] (.tuple [(bI t rs kind).1.pv,.int .i64 (bI t rs kind).2.1,.int .i64 (bI t rs kind).2.2]):=by
 refine aa (ai (by kernel_rfl) rfl X9) rfl ?_;simp only [go_sem,simprocAttr];refine ae (Kx t rs hrs0) rfl ?_;simp only [go_sem,simprocAttr];cases h0:(eN t rs != 0)
 rotate_left
 .have h0':¬ eN t rs=0:=by simpa using h0
  simp only [bI,if_neg h0',go_sem,simprocAttr]
 have h0':eN t rs=0:=by simpa using h0
 obtain ⟨ht,hrs,hro⟩:=Cr h0';have hkl:=ht.kinds;have hw:IntKind.i64.wrap ((t.kinds.length:Int)-1)=(t.kinds.length:Int)-1:=ax (by omega) (by omega);simp only [hw,go_sem,simprocAttr];refine ae (e8 0 _ [_] true (by simp)) rfl ?_;simp only [bp,bF,bS,go_sem,simprocAttr];cases h1:ar kind 0 ((t.kinds.length:Int)-1)
 .simp only [bI,h0',h1,go_sem,simprocAttr]
 have hk:0<=kind/\kind<=(t.kinds.length:Int)-1:=by simpa [ar] using h1
 obtain ⟨k,rfl⟩:∃ k:Nat,kind=(k:Int):=⟨kind.toNat,by omega⟩
 have hsp:bI t rs (k:Int)=m9 t.purity ((lZ t rs).foldl (λp m=>jk p (iZ k m.1 m.2)) ⟨1001,-1⟩):=by
  rw [bI,if_pos h0',if_pos h1,Io,Am];rfl
 rw [hsp];simp only [if_pos h0',go_sem,simprocAttr];refine ae (MP t rs) rfl ?_;simp only [nN,go_sem,simprocAttr];have fold_B:∀ (l:List ((Nat×Nat)×Span)) (p:Span),mM p->(∀ m,m∈l->1<=m.2.lo/\m.2.lo<=m.2.hi/\m.2.hi<=1000)->mM (l.foldl (λp m=>jk p (iZ k m.1 m.2)) p):=by
  intro l
  induction l with
  |nil=>intro p h _;exact h
  |cons m l ih =>
   intro p h hm;refine ih _ (Iz h ?_) λm' h'=>hm m' (by simp [h']);have:=hm m (by simp);unfold iZ;split
   .omega
   .split<;>dsimp only<;>omega
 have hB0:mM ⟨1001,-1⟩:=by unfold mM;decide
 refine I3 (l:=(lZ t rs).map λm=>[lL m]) (λo n h=>h=[.row 3 [.p t.pv],.row 1 [.p (.int .i64 k)],.row 2 [.p (((lZ t rs).take n).foldl (λp m=>jk p (iZ k m.1 m.2)) ⟨1001,-1⟩).pv],.dblock,o]) (λ_ _=>False)
  rfl (by simp only [nN,go_sem,simprocAttr]) (Ml t rs ht hrs hro) dU (by kernel_rfl) (by kernel_rfl) (by kernel_rfl) ?_ ?_ ?_ ?_ (λ_ _ _ h=>h.elim)
 .rintro o n h rfl;simp
 .intro o;simp only [go_sem,simprocAttr];rfl
 .rintro oR oB oD n xs lo mid hk' rfl _
  rw [cv,bT] at hk';obtain ⟨m,hm,rfl⟩:=hk';have hmi:=In m (aL hm);have hB:=fold_B ((lZ t rs).take n) ⟨1001,-1⟩ hB0 λm hm=>In m (sy hm);have hnext:((lZ t rs).take (n+1)).foldl (λp m=>jk p (iZ k m.1 m.2)) ⟨1001,-1⟩=jk (((lZ t rs).take n).foldl (λp m=>jk p (iZ k m.1 m.2)) ⟨1001,-1⟩) (iZ k m.1 m.2):=by
   rw [yp,hm,Option.toList_some,wS];rfl
  generalize ((lZ t rs).take n).foldl (λp m=>jk p (iZ k m.1 m.2)) ⟨1001,-1⟩=p at hB hnext |-;have mg:=lq (lo:=mid) rfl;have mgg:=lp (lo:=mid) rfl;have ms:=nV (lo:=mid) rfl;have mss:=nU (lo:=mid) rfl;have k1:((k:Int)==(m.1.1:Int))=decide (k=m.1.1):=by rw [qX];simp;omega
  have k2:((k:Int)==(m.1.2:Int))=decide (k=m.1.2):=by rw [qX];simp;omega
  have w1:IntKind.i64.wrap (1000-m.2.hi)=1000-m.2.hi:=ax (by omega) (by omega);have w2:IntKind.i64.wrap (1000-m.2.lo)=1000-m.2.lo:=ax (by omega) (by omega);simp only [cE,aI,bh,mg,mgg,ms,mss,k1,go_sem,simprocAttr];by_cases c1:k=m.1.1
  .have c1':decide (k=m.1.1)=true:=by simpa using c1
   simp only [cE,bh,mgg,c1',go_sem,simprocAttr];refine ⟨_,[AObj.row 4 [AV.p (lL m)],AObj.row 2 [AV.p m.2.pv]],?_,by simp,rfl⟩;rw [hnext,iZ,if_pos c1];simp [jk,Span.pv,lL]
  have c1':decide (k=m.1.1)=false:=by simpa using c1
  by_cases c2:k=m.1.2
  .have c2':decide (k=m.1.2)=true:=by simpa using c2
   simp only [cE,bh,mg,mgg,mss,c1',k2,c2',w1,w2,go_sem,simprocAttr];refine ⟨_,[AObj.row 4 [AV.p (lL m)],AObj.row 2 [AV.p (.agg [.int .i64 (1000-m.2.hi),.int .i64 (1000-m.2.lo)])]],?_,by simp,rfl⟩;rw [hnext,iZ,if_neg c1,if_pos c2];simp [jk,lL]
  have c2':decide (k=m.1.2)=false:=by simpa using c2
  simp only [cE,bh,mg,mgg,mss,c1',k2,c2',go_sem,simprocAttr];refine ⟨_,[AObj.row 4 [AV.p (lL m)],AObj.row 2 [AV.p (.agg [.int .i64 0,.int .i64 0])]],?_,by simp,rfl⟩;rw [hnext,iZ,if_neg c1,if_neg c2];simp [jk,lL]
 .rintro o lo mid rfl _
  rw [dL,qW];generalize (lZ t rs).foldl (λp m=>jk p (iZ k m.1 m.2)) ⟨1001,-1⟩=p;simp only [go_sem,simprocAttr];cases c1:decide (p.hi<0);rotate_left
  .have c1':p.hi<0:=by simpa using c1
   simp only [m9,if_pos c1',go_sem,simprocAttr];rw [b7];simp only [go_sem,simprocAttr]
  have c1':¬ p.hi<0:=by simpa using c1
  simp only [go_sem,simprocAttr];cases c2:decide (t.purity<=p.lo);rotate_left
  .have c2':t.purity<=p.lo:=by simpa using c2
   simp only [m9,if_neg c1',if_pos c2',go_sem,simprocAttr];rw [b7];simp only [go_sem,simprocAttr]
  have c2':¬ t.purity<=p.lo:=by simpa using c2
  simp only [go_sem,simprocAttr];cases c3:decide (p.hi<t.purity)
  .have c3':¬ p.hi<t.purity:=by simpa using c3
   simp only [m9,if_neg c1',if_neg c2',if_neg c3',go_sem,simprocAttr];rw [b7];simp only [go_sem,simprocAttr]
  .have c3':p.hi<t.purity:=by simpa using c3
   simp only [m9,if_neg c1',if_neg c2',if_pos c3',go_sem,simprocAttr];rw [b7];simp only [go_sem,simprocAttr]
theorem Ms (s):du s.lo s.hi 0 100000=if mA s=true then (if decide (s.hi<s.lo)=true then 2 else 0) else 7:=by
 unfold du mA;cases ar s.lo 0 100000<;>cases ar s.hi 0 100000<;>simp
def qm (w:Int) (l:List Span):Int:=if (l.any λs=>!mA s)=true then 7 else if (l.any λs=>decide (s.hi<s.lo))=true then 2 else w
theorem Ju {w} {s} {l} (hv:mA s=true):qm w (s::l)=qm (if decide (s.hi<s.lo)=true then 2 else w) l:=by
 unfold qm;rw [bp,bp,hv];cases decide (s.hi<s.lo)<;>cases (l.any λs=>!mA s)<;>cases (l.any λs=>decide (s.hi<s.lo))<;>simp
theorem IV (l) (many:Nat) (hm:many<1000000000):ah TP 66 [.slice 2 (l.map Span.pv) false,.int .i64 many] (.int .i64 (if l.length=many then qm 0 l else 3)):=by
 refine aa (ai (by kernel_rfl) rfl zbL) rfl ?_;simp only [go_sem,simprocAttr];cases h1:((l.length:Int) != (many:Int))
 rotate_left
 .have h1':¬ l.length=many:=by simp at h1;omega
  simp only [if_neg h1',go_sem,simprocAttr]
 have h1':l.length=many:=by simp at h1;omega
 rw [if_pos h1',<-h1'];simp only [go_sem,simprocAttr];refine br [0,1] l (by omega) (τ:=Int) (λdone rest w=>qm 0 l=qm w rest) (λdone w=>[(5,.p (.int .i64 w)),(6,.p (.int .i64 done.length))]) (λ_ _=>[]) 0 rfl ?_ ?_ ?_
 .simp only [go_sem,simprocAttr]<;>simp
 .intro w e2;simp only [go_sem,simprocAttr];rw [e2];rfl
 .intro done s r w e1 e2 hx hlt hnx;simp only [hlt,hx,go_sem,simprocAttr];refine ae (pg _ _ _ _) rfl ?_;rw [Ms];cases hv:mA s
  .have:qm w (s::r)=7:=by rw [qm,bp,hv];rfl
   rw [this] at e2;simp only [e2,go_sem,simprocAttr]
  .rw [Ju hv] at e2;cases hc:decide (s.hi<s.lo)
   .rw [hc] at e2;simp only [go_sem,simprocAttr];refine aF e1 w e2 ?_;simp only [hnx,go_sem,simprocAttr]
   .rw [hc] at e2;simp only [go_sem,simprocAttr];refine aF e1 2 e2 ?_;simp only [hnx,go_sem,simprocAttr]
theorem Bz (many) (k):fJ many k=if k.props.length=many then qm 0 k.props else 3:=rfl
set_option maxHeartbeats 2000000 in
theorem pT (t):ah TP 43 [t.pv] (al (wxCheck t)):=by
 refine aa (ai (by kernel_rfl) rfl zb4) rfl ?_;simp only [go_sem,simprocAttr];refine ae (y9 _ _ _) rfl ?_;simp only [go_sem,simprocAttr];cases h1:ar t.props.length 1 5
 .simp only [al,wxCheck,h1,go_sem,simprocAttr]
 simp only [go_sem,simprocAttr];refine ae (y9 _ _ _) rfl ?_;simp only [go_sem,simprocAttr];cases h2:ar t.kinds.length 1 8
 .simp only [al,wxCheck,h1,h2,go_sem,simprocAttr]
 simp only [go_sem,simprocAttr];refine ae (y9 _ _ _) rfl ?_;simp only [go_sem,simprocAttr];cases h3:ar t.purity 1 1000
 .simp only [al,wxCheck,h1,h2,h3,go_sem,simprocAttr]
 have hspec:wxCheck t=tail t (firstErr cI (·.name) t.props []):=by simp only [wxCheck,h1,h2,h3,qZ,if_true]
 rw [hspec];have hlp:t.props.length<=5:=by simp [ar] at h1;omega
 have hlk:t.kinds.length<=8:=by simp [ar] at h2;omega
 simp only [go_sem,simprocAttr];refine cg 5 1 (by simp only [go_sem,simprocAttr]) ?_;simp only [go_sem,simprocAttr]
 refine br [1] t.props (by omega) (τ:=Unit) (λdone rest _=>firstErr cI (·.name) t.props []=firstErr cI (·.name) rest (done.map (·.name)))
  (λdone _=>[(5,.slice 1 done.length 0 done.length),(6,.p (.int .i64 done.length))]) (λdone _=>[.row 3 [.p t.pv],.row 1 (done.map λx=>.p (.str x.name))]) () rfl ?_ ?_ ?_
 .simp only [go_sem,simprocAttr]<;>simp
 .intro _ e2;have hT:tail t (firstErr cI (·.name) t.props [])=tail t none:=by rw [e2];rfl
  rw [hT];simp only [go_sem,simprocAttr];refine cg 5 1 (by simp only [go_sem,simprocAttr]) ?_;simp only [go_sem,simprocAttr]
  refine br [1] t.kinds (by omega) (τ:=Unit) (λdone rest _=>firstErr (kindErr t.props.length) (·.name) t.kinds []=firstErr (kindErr t.props.length) (·.name) rest (done.map (·.name)))
   (λdone _=>[(5,.slice 2 done.length 0 done.length),(8,.p (.int .i64 done.length))]) (λdone _=>[.row 3 [.p t.pv],.row 1 (t.props.map λx=>.p (.str x.name)),.row 1 (done.map λx=>.p (.str x.name))]) () rfl ?_ ?_ ?_
  .simp only [go_sem,simprocAttr]<;>simp
  .intro _ e2;have hT:tail t none=(0,0,0):=by
    simp only [tail];rw [e2];rfl
   simp only [al,hT,go_sem,simprocAttr]
  .intro done x r _ e1 e2 hx hlt hnx;obtain ⟨go,fin⟩:=Ix e2;have hrm:done.length+1<=aw:=by simp [aw];have:=congrArg List.length e1;simp at this;omega
   simp only [hlt,hx,go_sem,simprocAttr];refine bf (jq x.name (done.map (·.name)) false (done.map λx=>.str x.name) (by simp) (by simp;have:=congrArg List.length e1;simp at this;omega)) ?_ (.int _ _) ?_
   .simp only [go_sem,simprocAttr]
   simp only [go_sem,simprocAttr];cases h5:(am (done.map (·.name)) x.name==0)
   .have h5':am (done.map (·.name)) x.name≠0:=by simpa using h5
    have h5n:(am (done.map (·.name)) x.name != 0)=true:=by simp [bne,h5]
    simp only [h5n,al,fin _ (by rw [kindErr,if_neg h5']) h5',go_sem,simprocAttr]
   have h5':am (done.map (·.name)) x.name=0:=by simpa using h5
   have hb:kindErr t.props.length (done.map (·.name)) x=fJ t.props.length x:=by rw [kindErr,if_pos h5']
   simp only [hx,hlt,go_sem,simprocAttr]
   (first | refine ae (IV x.props t.props.length (by omega)) rfl ?_ | refine aD (IV x.props t.props.length (by omega)) rfl ?_)
   rw [<-Bz];simp only [go_sem,simprocAttr];cases h6:(fJ t.props.length x != 0)
   rotate_left
   .have h6':fJ t.props.length x≠0:=by simpa using h6
    simp only [al,fin _ hb h6',go_sem,simprocAttr]
   have h6':fJ t.props.length x=0:=by simpa using h6
   simp only [hrm,hlt,hx,go_sem,simprocAttr];refine aF e1 () (go (hb.trans h6')) ?_;simp only [hnx,go_sem,simprocAttr];all_goals simp
 .intro done x r _ e1 e2 hx hlt hnx;obtain ⟨go,fin⟩:=Ih e2;have hrm:done.length+1<=aw:=by simp [aw];have:=congrArg List.length e1;simp at this;omega
  simp only [hlt,hx,go_sem,simprocAttr];refine bf (jq x.name (done.map (·.name)) false (done.map λx=>.str x.name) (by simp) (by simp;have:=congrArg List.length e1;simp at this;omega)) ?_ (.int _ _) ?_
  .simp only [go_sem,simprocAttr]
  simp only [go_sem,simprocAttr];cases h5:(am (done.map (·.name)) x.name==0)
  .have h5':am (done.map (·.name)) x.name≠0:=by simpa using h5
   have h5n:(am (done.map (·.name)) x.name != 0)=true:=by simp [bne,h5]
   simp only [h5n,al,fin _ (by rw [cI,if_neg h5']) h5',go_sem,simprocAttr]
  have h5':am (done.map (·.name)) x.name=0:=by simpa using h5
  have hb:cI (done.map (·.name)) x=lf x:=by rw [cI,if_pos h5']
  simp only [hx,hlt,go_sem,simprocAttr];refine ae (y9 _ _ _) rfl ?_;simp only [go_sem,simprocAttr];cases h6:ar x.error 0 10000
  .simp only [al,fin 7 (by rw [hb,lf,h6];rfl) (by decide),go_sem,simprocAttr]
  simp only [hrm,hlt,hx,h5',go_sem,simprocAttr];refine aF e1 () (go (by rw [hb,lf,h6];rfl)) ?_;simp only [hnx,go_sem,simprocAttr];all_goals simp
def VS:Option Span->Span
 |none=>⟨0,0⟩
 |some s=>s
def Tv (o:Option Span):PV:=.tuple [(VS o).pv,.bool o.isSome]
attribute [go_sem] Tv
end Wx
end Abs
end Go.Proofs.YtfafnkpfamgbbaaGreatDoor
