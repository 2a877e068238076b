/- CONTRACTS: what of a kind a sample can have, in the program. No conditions but those in th -/
import Derived.Test.YtnjiadikeacfaaaGreatDoorWxChkX
set_option linter.all false
namespace Go.Proofs.YtnjiadikeacfaaaGreatDoor
namespace Abs
namespace Wx
set_option maxRecDepth 4000
structure TableOk (t:WxTable):Prop where
 props:t.props.length<=5
 propsL:1<=t.props.length
 kinds:t.kinds.length<=8
 kindsL:1<=t.kinds.length
 error:∀p,p∈t.props->0<=p.error/\p.error<=10000
 len:∀k,k∈t.kinds->k.props.length=t.props.length
 vals:∀k,k∈t.kinds->∀s,s∈k.props->0<=s.lo/\s.lo<=s.hi/\s.hi<=100000
 purity:1<=t.purity/\t.purity<=1000
 names:firstErr (kindErr t.props.length) (·.name) t.kinds []=none
theorem eR{α}{f:List ByteArray->α->Int}{nm}:∀{l} {before},firstErr f nm l before=none->∀(a) (x) (r),l=a++x::r->f (before++a.map nm) x=0
 |[],_,_,a,x,r,e=>by simp at e
 |y::l,before,h,a,x,r,e=>by
  rw[firstErr]at h;split at h
  .rename_i h0
   cases a with
   |nil=>
    obtain⟨hz,_⟩:=DS e;subst hz
    simpa using h0
   |cons z a=>
    obtain⟨hz,e'⟩:=DS e;subst hz;have:=eR h a x r e';simpa using this
  .cases h
theorem ia{α}{f:List ByteArray->α->Int}{nm}:∀{l} {before} {i e},firstErr f nm l before=some (i,e)->e≠0
 |[],_,_,_,h=>by cases h
 |y::r,before,i,e,h=>by
  rw[firstErr]at h;split at h
  .exact ia h
  .rename_i h0;cases h;exact h0
theorem D7{t}(h:(wxCheck t).2.2=0):TableOk t:=by
 unfold wxCheck at h;split at h
 .rename_i h1;split at h
  .rename_i h2
   cases hp:firstErr cF (·.name) t.props [] with
   |some q=>obtain⟨i,e⟩:=q;rw[hp]at h;exact absurd h (ia hp)
   |none=>
    rw[hp]at h
    cases hk:firstErr (kindErr t.props.length) (·.name) t.kinds [] with
    |some q=>obtain⟨i,e⟩:=q;simp only[tail,hk]at h;exact absurd h (ia hk)
    |none=>
     simp[al]at h1 h2;have kb:∀k,k∈t.kinds->fD t.props.length k=0:=λk hkm=>by
      obtain⟨a,r,e⟩:=Nd hkm;have:=eR hk a k r e;unfold kindErr at this;split at this
      .exact this
      .contradiction
     refine⟨by omega,by omega,by omega,by omega,λp hpm=>?_,λk hkm=>?_,λk hkm s hs=>?_,by omega,hk⟩
     .obtain⟨a,r,e⟩:=Nd hpm;have:=eR hp a p r e;unfold cF kS at this;split at this
      .split at this
       .rename_i h3;simpa[al]using h3
       .cases this
      .contradiction
     .have:=kb k hkm;unfold fD at this;split at this
      .assumption
      .cases this
     .have:=kb k hkm;unfold fD at this;split at this
      .split at this
       .cases this
       .split at this
        .cases this
        .rename_i h3 h4;simp only[Dq,not_exists,not_and]at h3 h4;have h3:=h3 s hs;have h4:=h4 s hs;simp[l5,al]at h3 h4;omega
      .cases this
  .cases h
 .cases h
def j7 (n:Int):Bool:=n==-1||al n 0 100000
def eF (t:WxTable) (rs:List Int):Int:=if(wxCheck t).2.2=0 then(if rs.length=t.props.length then(if rs.all j7=true then 0 else 7) else 3) else(wxCheck t).2.2
def qI (t:WxTable) (rs:List Int):PV:=.ptr 4 [.agg [.slice 2 (t.props.map WxProp.pv) false,.slice 2 (t.kinds.map WxKind.pv) false,.int .i64 t.purity,.slice 1 (rs.map aG) false]] 0 0
attribute [go_sem] qI
theorem J1(t)(rs)(hrs:rs.length<1000000000):af Tryz.prog 255 [t.pv,.slice 1 (rs.map aG) false] (.tuple [if eF t rs=0 then qI t rs else .nilptr,.int .i64 (eF t rs)]):=by
 refine dd (ah Tryz.func255 rfl (by kernel_rfl)) rfl ?_;simp only[go_sem,simprocAttr];refine ae (pj t) rfl ?_;simp only[aj,go_sem,simprocAttr];cases h0:((wxCheck t).2.2 != 0)
 rotate_left
 .have h0':¬(wxCheck t).2.2=0:=by simpa using h0
  simp only[eF,if_neg h0',go_sem,simprocAttr]
 have h0':(wxCheck t).2.2=0:=by simpa using h0
 simp only[go_sem,simprocAttr];cases h1:((rs.length:Int) != (t.props.length:Int))
 rotate_left
 .have h1':¬rs.length=t.props.length:=by simp at h1;omega
  simp only[eF,if_neg h1',h0',go_sem,simprocAttr]
 have h1':rs.length=t.props.length:=by simp at h1;omega
 have hsp:eF t rs=if rs.all j7=true then 0 else 7:=by rw[eF,if_pos h0',if_pos h1']
 rw[hsp];simp only[go_sem,simprocAttr];refine bm [1,2,26,27] rs hrs (τ:=Unit) (λdone rest _=>rs.all j7=rest.all j7) (λdone _=>[(28,.p (.int .i64 done.length))]) (λ_ _=>[.row 3 [.p t.pv]]) () rfl ?_ ?_ ?_
 .simp only[go_sem,simprocAttr]<;>simp
 .intro _ e2;simp only[e2,AL,go_sem,simprocAttr]
 .intro done n r _ e1 e2 hx hlt hnx;rw[List.all_cons]at e2;simp only[hlt,hx,go_sem,simprocAttr];cases h2:(n != -1)
  .have:j7 n=true:=by simp[j7];simp at h2;exact .inl h2
   rw[this,AO]at e2;simp only[go_sem,simprocAttr];refine aE e1 () e2 ?_;simp only[hnx,go_sem,simprocAttr]
  .have hr:j7 n=al n 0 100000:=by simp[j7];simp at h2;simp[h2]
   simp only[go_sem,simprocAttr];refine ae (eS 0 100000 [_] true (by simp)) rfl ?_;simp only[bF,bp,cl,go_sem,simprocAttr];rw[hr]at e2;cases h3:al n 0 100000
   .rw[h3,Bool.false_and]at e2;simp only[e2,go_sem,simprocAttr]
   .rw[h3,AO]at e2;simp only[go_sem,simprocAttr];refine aE e1 () e2 ?_;simp only[hnx,go_sem,simprocAttr]
theorem tD(a b:Int)(hb:0<b):a / b=if a.tmod b<0 then a.tdiv b-1 else a.tdiv b:=by
 have h1:=Int.tdiv_eq_ediv (a:=a) (b:=b);have h2:=Int.tmod_eq_emod (a:=a) (b:=b);have h3:=Int.emod_nonneg a (Int.ne_of_gt hb);have h4:=Int.emod_lt_of_pos a hb;have h5:b.sign=1:=Int.sign_eq_one_of_pos hb;have h6:(b.natAbs:Int)=b:=Int.natAbs_of_nonneg (Ds hb);rw[h5]at h1;by_cases hc:0<=a\/b ∣ a
 .rw[if_pos hc]at h1 h2;rw[if_neg (by omega)];omega
 .rw[if_neg hc]at h1 h2;rw[if_pos (by omega)];omega
theorem vT{a b B}(hb:0<b)(h1:-B<=a)(h2:a<=B)(hB:0<=B):-B<=a / b/\a / b<=B:=by
 refine⟨(wx hb).2 ?_,?_⟩
 .have:B*1<=B*b:=tk (by omega) hB;have e:-B*b=-(B*b):=by rw[za]
  omega
 .rcases IF 0 a with h|h
  .exact wA (Int.ediv_le_self b h) h2
  .have:=DP hb h;rw[Int.zero_ediv]at this;omega
theorem kH(a b)(hb:0<b)(h1:-1000000000000000000<=a)(h2:a<=1000000000000000000):af Tryz.prog 323 [.int .i64 a,.int .i64 b] (.int .i64 (a / b)):=by
 refine aa (ah Tryz.func323 rfl (by kernel_rfl)) rfl ?_;have hb0:¬b=0:=by omega
 have hr:=vT hb h1 h2 (by omega);have hd:=tD a b hb;have e1:IntKind.i64.wrap (a.tdiv b)=a.tdiv b:=by
  split at hd
  .exact am (by omega) (by omega)
  .exact am (by omega) (by omega)
 simp only[hb0,e1,go_sem,simprocAttr];cases hm:decide (a.tmod b<0)
 .rw[if_neg (by simpa using hm)]at hd;simp only[hd,go_sem,simprocAttr]
 .rw[if_pos (by simpa using hm)]at hd;have e2:IntKind.i64.wrap (a.tdiv b-1)=a.tdiv b-1:=am (by omega) (by omega);simp only[hd,e2,go_sem,simprocAttr]
def aI (s:Span):Prop:=0<=s.lo/\s.lo<=s.hi/\s.hi<=100000
theorem TG(x y)(r e)(a b c d)(h)(ha:h[a]?=some (.row 2 [.p x.pv]))(hb:h[b]?=some (.row 2 [.p y.pv]))(hc:h[c]?=some (.row 1 [.p (.int .i64 r)]))(hd:h[d]?=some (.row 1 [.p (.int .i64 e)]))
  (hx:aI x) (hy:aI y) (hr:0<=r/\r<=100000) (he:0<=e/\e<=10000) :
  aB Tryz.prog 306 [.ptr a 1 0 0,.ptr b 1 0 0,.ptr c 1 0 0,.ptr d 1 0 0] h (λq h'=>q=.ret (.p (.tuple [.int .i64 (x.lo-y.lo),.int .i64 (1000*(y.lo-r-e))]))/\h'=h):=by
 refine aA (ah Tryz.func306 rfl (by kernel_rfl)) rfl ?_;unfold aI at hx hy;have w1:IntKind.i64.wrap (x.lo-y.lo)=x.lo-y.lo:=am (by omega) (by omega);have w2:IntKind.i64.wrap (y.lo-r)=y.lo-r:=am (by omega) (by omega);have w3:IntKind.i64.wrap (y.lo-r-e)=y.lo-r-e:=am (by omega) (by omega);have w4:IntKind.i64.wrap (1000*(y.lo-r-e))=1000*(y.lo-r-e):=am (by omega) (by omega);simp only[Span.pv]at ha hb;simp only[ha,hb,hc,hd,w1,w2,w3,w4,go_sem,simprocAttr]
theorem VG(y x)(r e)(a b c d)(h)(ha:h[a]?=some (.row 2 [.p y.pv]))(hb:h[b]?=some (.row 2 [.p x.pv]))(hc:h[c]?=some (.row 1 [.p (.int .i64 r)]))(hd:h[d]?=some (.row 1 [.p (.int .i64 e)]))
  (hx:aI x) (hy:aI y) (hr:0<=r/\r<=100000) (he:0<=e/\e<=10000) :
  aB Tryz.prog 307 [.ptr a 1 0 0,.ptr b 1 0 0,.ptr c 1 0 0,.ptr d 1 0 0] h (λq h'=>q=.ret (.p (.tuple [.int .i64 (y.hi-x.hi),.int .i64 (1000*(r-e-y.hi))]))/\h'=h):=by
 refine aA (ah Tryz.func307 rfl (by kernel_rfl)) rfl ?_;unfold aI at hx hy;have w1:IntKind.i64.wrap (y.hi-x.hi)=y.hi-x.hi:=am (by omega) (by omega);have w2:IntKind.i64.wrap (r-e)=r-e:=am (by omega) (by omega);have w3:IntKind.i64.wrap (r-e-y.hi)=r-e-y.hi:=am (by omega) (by omega);have w4:IntKind.i64.wrap (1000*(r-e-y.hi))=1000*(r-e-y.hi):=am (by omega) (by omega);simp only[Span.pv]at ha hb;simp only[ha,hb,hc,hd,w1,w2,w3,w4,go_sem,simprocAttr]
def IB (l:Span):Prop:=0<=l.lo/\l.lo<=300000000/\-300000000<=l.hi/\l.hi<=300000000
theorem AT{l}{q}(hl:IB l)(h1:-300000000<=q.2)(h2:q.2<=300000000):IB (cN l q):=by
 unfold IB cN at *
 split
 .rename_i h;have:=vT (a:=-q.2) (B:=300000000) h (by omega) (by omega) (by omega);dsimp only;split<;>omega
 .split
  .rename_i h;have:=vT (a:=-q.2) (b:=-q.1) (B:=300000000) (by omega) (by omega) (by omega) (by omega);dsimp only;split<;>omega
  .split
   .dsimp only;omega
   .exact hl
theorem KO{s}(q)(h:0<q.1):cN s q=⟨s.lo,if(-q.2) / q.1<s.hi then(-q.2) / q.1 else s.hi⟩:=by rw[cN,if_pos h]
theorem KN{s}(q)(h:¬0<q.1)(h2:q.1<0):cN s q=⟨if s.lo < -((-q.2) / (-q.1)) then -((-q.2) / (-q.1)) else s.lo,s.hi⟩:=by rw[cN,if_neg h,if_pos h2]
theorem KM{s}(q)(h:¬0<q.1)(h2:¬q.1<0)(h3:0<q.2):cN s q=⟨s.lo,s.lo-1⟩:=by rw[cN,if_neg h,if_neg h2,if_pos h3]
theorem KL{s}(q)(h:¬0<q.1)(h2:¬q.1<0)(h3:¬0<q.2):cN s q=s:=by rw[cN,if_neg h,if_neg h2,if_neg h3]
theorem Om(l x y)(r e)(i a b c d)(h)(hi:h[i]?=some (.row 2 [.p l.pv]))(ha:h[a]?=some (.row 2 [.p x.pv]))(hb:h[b]?=some (.row 2 [.p y.pv]))(hc:h[c]?=some (.row 1 [.p (.int .i64 r)]))(hd:h[d]?=some (.row 1 [.p (.int .i64 e)]))
  (f) (hf:h[f]?=some (.row 1 [.func (.func 306) [] [.ptr a 1 0 0,.ptr b 1 0 0,.ptr c 1 0 0,.ptr d 1 0 0],.func (.func 307) [] [.ptr b 1 0 0,.ptr a 1 0 0,.ptr c 1 0 0,.ptr d 1 0 0]]))
  (nia:i≠a) (nib:i≠b) (nic:i≠c) (nid:i≠d) (nif:i≠f) (hl:IB l) (hx:aI x) (hy:aI y) (hr:0<=r/\r<=100000) (he:0<=e/\e<=10000) :
  aB Tryz.prog 308 [.ptr i 1 0 0,.slice f 2 0 2] h (λq h'=>q=.ret (.p (.tuple []))/\h'=h.set i (.row 2 [.p (cN (cN l (x.lo-y.lo,1000*(y.lo-r-e))) (y.hi-x.hi,1000*(r-e-y.hi))).pv])):=by
 refine aA (ah Tryz.func308 rfl (by kernel_rfl)) rfl ?_;have hv:=hx;have hw:=hy
 unfold aI at hv hw;have hil:i<h.length:=(ax.1 hi).1;have gi:∀v,(h.set i v)[i]?=some v:=λv=>iJ hil;have gn:∀v j,i≠j->(h.set i v)[j]?=h[j]?:=λv j hj=>dS hj;have hl1:=AT (q:=(x.lo-y.lo,1000*(y.lo-r-e))) hl (by dsimp only;omega) (by dsimp only;omega);have e11:x.lo-y.lo=((x.lo-y.lo,1000*(y.lo-r-e)):Int×Int).1:=rfl;have e21:1000*(y.lo-r-e)=((x.lo-y.lo,1000*(y.lo-r-e)):Int×Int).2:=rfl;have e12:y.hi-x.hi=((y.hi-x.hi,1000*(r-e-y.hi)):Int×Int).1:=rfl;have e22:1000*(r-e-y.hi)=((y.hi-x.hi,1000*(r-e-y.hi)):Int×Int).2:=rfl;generalize hq1:((x.lo-y.lo,1000*(y.lo-r-e)):Int×Int)=q1 at hl1 e11 e21 |-;generalize hq2:((y.hi-x.hi,1000*(r-e-y.hi)):Int×Int)=q2 at e12 e22 |-;have b1:-300000000<=q1.2/\q1.2<=300000000/\-300000000<=q1.1/\q1.1<=300000000:=by rw[<-hq1];dsimp only;omega
 have b2:-300000000<=q2.2/\q2.2<=300000000/\-300000000<=q2.1/\q2.1<=300000000:=by rw[<-hq2];dsimp only;omega
 simp only[hf,go_sem,simprocAttr]
 refine eO [0,8,9] (σ:=Nat×Span) (λq=>(q=(0,l)\/q=(1,cN l q1)\/q=(2,cN (cN l q1) q2))) (λq=>2-q.1)
  (λq=>[(10,.p (.int .i64 q.1))]) (λq=>h.set i (.row 2 [.p q.2.pv])) (0,l) (.inl rfl) (nO hi).symm ?_ ?_
 .simp only[go_sem,simprocAttr]
 rintro⟨k,s⟩ hk
 have w0:IntKind.i64.wrap (1:Int)=1:=rfl;have w2:IntKind.i64.wrap (2:Int)=2:=rfl;have hneg:∀n:Int,-300000000<=n->n<=300000000->IntKind.i64.wrap (-n)=-n:=λn h1 h2=>am (by omega) (by omega);rcases hk with hk|hk|hk
 .obtain⟨ek,es⟩:=Prod.mk.inj hk;have es':=es.symm;subst ek;subst es';have hz:∀v,(h.set i v)[f]?=_:=λv=>(gn v f nif).trans hf;simp only[hz,go_sem,simprocAttr];refine ct (TG x y r e a b c d _ (by rw[gn _ _ nia];exact ha) (by rw[gn _ _ nib];exact hb) (by rw[gn _ _ nic];exact hc) (by rw[gn _ _ nid];exact hd) hx hy hr he) ?_;rw[e11,e21];have hzz:∀v,(h.set i v)[i]?=some v:=gi;by_cases c1:0<q1.1
  .have c1':decide (0<q1.1)=true:=by simpa using c1
   simp only[c1',hneg _ b1.1 b1.2.1,gi,go_sem,simprocAttr]
   (first|refine ae (kH (-q1.2) q1.1 c1 (by omega) (by omega)) rfl ?_|refine ay (kH (-q1.2) q1.1 c1 (by omega) (by omega)) rfl ?_)
   simp only[gi,pO,go_sem,simprocAttr];refine br (1,cN l q1) (.inr (.inl rfl)) (by dsimp only;omega) ?_ ?_
   .simp only[go_sem,simprocAttr];rw[KO (s:=l) q1 c1]
   .simp only[go_sem,simprocAttr]
  have c1':decide (0<q1.1)=false:=by simpa using c1
  by_cases c2:q1.1<0
  .have c2':decide (q1.1<0)=true:=by simpa using c2
   have hd:=vT (a:=-q1.2) (b:=-q1.1) (B:=300000000) (by omega) (by omega) (by omega) (by omega);simp only[c1',c2',hneg _ b1.1 b1.2.1,hneg _ b1.2.2.1 b1.2.2.2,gi,go_sem,simprocAttr]
   (first|refine ae (kH (-q1.2) (-q1.1) (by omega) (by omega) (by omega)) rfl ?_|refine ay (kH (-q1.2) (-q1.1) (by omega) (by omega) (by omega)) rfl ?_)
   simp only[gi,pO,hneg _ hd.1 hd.2,go_sem,simprocAttr];refine br (1,cN l q1) (.inr (.inl rfl)) (by dsimp only;omega) ?_ ?_
   .simp only[go_sem,simprocAttr];rw[KN (s:=l) q1 c1 c2]
   .simp only[go_sem,simprocAttr]
  have c2':decide (q1.1<0)=false:=by simpa using c2
  by_cases c3:0<q1.2
  .have c3':decide (0<q1.2)=true:=by simpa using c3
   have hw3:IntKind.i64.wrap (l.lo-1)=l.lo-1:=am (by have:=hl.1;have:=hl.2.1;omega) (by have:=hl.1;have:=hl.2.1;omega);simp only[c1',c2',c3',gi,pO,hw3,go_sem,simprocAttr];refine br (1,cN l q1) (.inr (.inl rfl)) (by dsimp only;omega) ?_ ?_
   .simp only[go_sem,simprocAttr];rw[KM (s:=l) q1 c1 c2 c3]
   .simp only[go_sem,simprocAttr]
  have c3':decide (0<q1.2)=false:=by simpa using c3
  simp only[c1',c2',c3',go_sem,simprocAttr];refine br (1,cN l q1) (.inr (.inl rfl)) (by dsimp only;omega) ?_ ?_
  .simp only[go_sem,simprocAttr];rw[KL (s:=l) q1 c1 c2 c3]
  .simp only[go_sem,simprocAttr]
 .obtain⟨ek,es⟩:=Prod.mk.inj hk;have es':=es.symm;subst ek;subst es';have hz:∀v,(h.set i v)[f]?=_:=λv=>(gn v f nif).trans hf;simp only[hz,go_sem,simprocAttr];refine ct (VG y x r e b a c d _ (by rw[gn _ _ nib];exact hb) (by rw[gn _ _ nia];exact ha) (by rw[gn _ _ nic];exact hc) (by rw[gn _ _ nid];exact hd) hx hy hr he) ?_;rw[e12,e22];have hzz:∀v,(h.set i v)[i]?=some v:=gi;by_cases c1:0<q2.1
  .have c1':decide (0<q2.1)=true:=by simpa using c1
   simp only[c1',hneg _ b2.1 b2.2.1,gi,go_sem,simprocAttr]
   (first|refine ae (kH (-q2.2) q2.1 c1 (by omega) (by omega)) rfl ?_|refine ay (kH (-q2.2) q2.1 c1 (by omega) (by omega)) rfl ?_)
   simp only[gi,pO,go_sem,simprocAttr];refine br (2,cN (cN l q1) q2) (.inr (.inr rfl)) (by dsimp only;omega) ?_ ?_
   .simp only[go_sem,simprocAttr];rw[KO (s:=(cN l q1)) q2 c1]
   .simp only[go_sem,simprocAttr]
  have c1':decide (0<q2.1)=false:=by simpa using c1
  by_cases c2:q2.1<0
  .have c2':decide (q2.1<0)=true:=by simpa using c2
   have hd:=vT (a:=-q2.2) (b:=-q2.1) (B:=300000000) (by omega) (by omega) (by omega) (by omega);simp only[c1',c2',hneg _ b2.1 b2.2.1,hneg _ b2.2.2.1 b2.2.2.2,gi,go_sem,simprocAttr]
   (first|refine ae (kH (-q2.2) (-q2.1) (by omega) (by omega) (by omega)) rfl ?_|refine ay (kH (-q2.2) (-q2.1) (by omega) (by omega) (by omega)) rfl ?_)
   simp only[gi,pO,hneg _ hd.1 hd.2,go_sem,simprocAttr];refine br (2,cN (cN l q1) q2) (.inr (.inr rfl)) (by dsimp only;omega) ?_ ?_
   .simp only[go_sem,simprocAttr];rw[KN (s:=(cN l q1)) q2 c1 c2]
   .simp only[go_sem,simprocAttr]
  have c2':decide (q2.1<0)=false:=by simpa using c2
  by_cases c3:0<q2.2
  .have c3':decide (0<q2.2)=true:=by simpa using c3
   have hw3:IntKind.i64.wrap ((cN l q1).lo-1)=(cN l q1).lo-1:=am (by have:=hl1.1;have:=hl1.2.1;omega) (by have:=hl1.1;have:=hl1.2.1;omega);simp only[c1',c2',c3',gi,pO,hw3,go_sem,simprocAttr];refine br (2,cN (cN l q1) q2) (.inr (.inr rfl)) (by dsimp only;omega) ?_ ?_
   .simp only[go_sem,simprocAttr];rw[KM (s:=(cN l q1)) q2 c1 c2 c3]
   .simp only[go_sem,simprocAttr]
  have c3':decide (0<q2.2)=false:=by simpa using c3
  simp only[c1',c2',c3',go_sem,simprocAttr];refine br (2,cN (cN l q1) q2) (.inr (.inr rfl)) (by dsimp only;omega) ?_ ?_
  .simp only[go_sem,simprocAttr];rw[KL (s:=(cN l q1)) q2 c1 c2 c3]
  .simp only[go_sem,simprocAttr]
 .obtain⟨rfl,rfl⟩:=Prod.mk.inj hk;simp only[go_sem,simprocAttr]
def nW (t:WxTable) (rs:List Int) (a b:WxKind) (lo hi:Int):Span:=gK ⟨lo,hi⟩ t.props a.props b.props rs
theorem Ey{ps:List WxProp}{xs ys:List Span}{r}{l}{k}{p}{x y}{n}(hp:ps[k]?=some p)(hx:xs[k]?=some x)(hy:ys[k]?=some y) :
  gK l (ps.drop k) (xs.drop k) (ys.drop k) (n::r)=gK (qD l x y p.error n) (ps.drop (k+1)) (xs.drop (k+1)) (ys.drop (k+1)) r:=by
 have h1:=(ax.1 hp)
 have h2:=(ax.1 hx)
 have h3:=(ax.1 hy)
 obtain⟨i1,rfl⟩:=h1;obtain⟨i2,rfl⟩:=h2;obtain⟨i3,rfl⟩:=h3;rw[AM i1,AM i2,AM i3,gK]
set_option maxHeartbeats 4000000 in
theorem Uf(t)(rs)(i j:Nat)(a b)(lo hi)(ht:TableOk t)(hrs:rs.length=t.props.length)(hro:rs.all j7=true)(ha:t.kinds[i]?=some a)(hb:t.kinds[j]?=some b)(hlo:1<=lo/\lo<=1000)(hhi:1<=hi/\hi<=1000) :
  af Tryz.prog 289 [qI t rs,.int .i64 i,.int .i64 j,.int .i64 lo,.int .i64 hi] (nW t rs a b lo hi).pv:=by
 refine aa (eA (by kernel_rfl) rfl Vo) rfl ?_;have hil:(i:Int)<(t.kinds.length:Int):=by have:=(ax.1 ha).1;omega
 have hjl:(j:Int)<(t.kinds.length:Int):=by have:=(ax.1 hb).1;omega
 have hpl:=ht.props;have hal:=ht.len a (aT ha);have hbl:=ht.len b (aT hb);simp only[UY,go_sem,simprocAttr]
 refine bm [0,1,2,10,11,25,26] rs (by omega) (τ:=Span) (λdone rest l=>IB l/\nW t rs a b lo hi=gK l (t.props.drop done.length) (a.props.drop done.length) (b.props.drop done.length) rest) (λdone _=>[(27,.p (.int .i64 done.length))])
  (λ_ l=>[.row 2 [.p (.agg [.int .i64 0,.int .i64 0])],.row 2 [.p l.pv]]) ⟨lo,hi⟩ ⟨by unfold IB;dsimp only;omega,rfl⟩ ?_ ?_ ?_
 .simp only[go_sem,simprocAttr]
 .intro l ⟨_,e2⟩;have:∀(l:Span) (ps:List WxProp) (xs ys:List Span),gK l ps xs ys ([]:List Int)=l:=λl ps xs ys=>by cases ps<;>cases xs<;>cases ys<;>rfl
  rw[this]at e2;simp only[e2,go_sem,simprocAttr]
 .intro done n r l e1 ⟨hB,e2⟩ hx hlt hnx;have hdl:=congrArg List.length e1;simp only[aK,cc]at hdl;obtain⟨p,hp⟩:∃p,t.props[done.length]?=some p:=⟨_,bA (by omega)⟩
  obtain⟨x,hxx⟩:∃x,a.props[done.length]?=some x:=⟨_,bA (by omega)⟩
  obtain⟨y,hyy⟩:∃y,b.props[done.length]?=some y:=⟨_,bA (by omega)⟩
  rw[Ey hp hxx hyy]at e2;have hdn:(done++[n]).length=done.length+1:=by simp
  have hn:=kK.1 hro n (by rw[e1];simp);simp only[hlt,hx,go_sem,simprocAttr];cases h1:(n==-1)
  .have hr:0<=n/\n<=100000:=by
    have:¬n=-1:=by simpa using h1
    simpa[j7,this,al]using hn
   have hne:¬n=-1:=by omega
   have hpe:=ht.error p (aT hp);have hxv:=ht.vals a (aT ha) x (aT hxx);have hyv:=ht.vals b (aT hb) y (aT hyy);have l1:(done.length:Int)<(a.props.length:Int):=by omega
   have l2:(done.length:Int)<(b.props.length:Int):=by omega
   have l3:(done.length:Int)<(t.props.length:Int):=by omega
   rw[qD,if_neg hne]at e2;simp only[aV,ha,hb,hil,hjl,hp,hxx,hyy,l1,l2,l3,go_sem,simprocAttr];refine ct (Om l x y n p.error 1 3 4 2 5 _ rfl rfl rfl rfl rfl 6 rfl (by decide) (by decide) (by decide) (by decide) (by decide) hB hxv hyv hr hpe) ?_;simp only[go_sem,simprocAttr];have hB2:=AT (q:=(y.hi-x.hi,1000*(n-p.error-y.hi))) (AT (q:=(x.lo-y.lo,1000*(y.lo-n-p.error))) hB (by dsimp only;omega) (by dsimp only;omega)) (by dsimp only;omega) (by dsimp only;omega);refine aE e1 _ ⟨hB2,by rw[hdn];exact e2⟩ ?_;simp only[hnx,go_sem,simprocAttr]
  .have hn1:n=-1:=by simpa using h1
   rw[qD,if_pos hn1]at e2;simp only[go_sem,simprocAttr];refine aE e1 l ⟨hB,by rw[hdn];exact e2⟩ ?_;simp only[hnx,go_sem,simprocAttr]
end Wx
end Abs
end Go.Proofs.YtnjiadikeacfaaaGreatDoor
