/- CONTRACTS of the program's functions, and laws on what they return. No conditions but those in the theorems' heads. -/
import Derived.Test.YtoapoaoelpcniaaGreatDoorWxChkX
set_option linter.all false
open Go.Proofs.Tryz renaming prog->TP
namespace Go.Proofs.YtoapoaoelpcniaaGreatDoor
namespace Abs
namespace Wx
set_option maxRecDepth 4000
structure TableOk (t:WxTable):Prop where
 props:t.props.length<=5
 propsL:1<=t.props.length
 kinds:t.kinds.length<=8
 kindsL:1<=t.kinds.length
 error:∀p,p∈t.props->0<=p.error/\p.error<=10000
 len:∀k,k∈t.kinds->k.props.length=t.props.length
 vals:∀k,k∈t.kinds->∀s,s∈k.props->0<=s.lo/\s.lo<=s.hi/\s.hi<=100000
 purity:1<=t.purity/\t.purity<=1000
 names:firstErr (kindErr t.props.length) (·.name) t.kinds []=none
theorem eP{α}{f:List ByteArray->α->Int}{nm}:∀{l} {before},firstErr f nm l before=none->∀(a) (x) (r),l=a++x::r->f (before++a.map nm) x=0
 |[],_,_,a,x,r,e=>by simp at e
 |y::l,before,h,a,x,r,e=>by
  rw[firstErr]at h;split at h
  .rename_i h0
   cases a with
   |nil=>
    obtain⟨hz,_⟩:=Fs e;subst hz
    simpa using h0
   |cons z a=>
    obtain⟨hz,e'⟩:=Fs e;subst hz;have:=eP h a x r e';simpa using this
  .cases h
theorem gT{α}{f:List ByteArray->α->Int}{nm}:∀{l} {before} {i e},firstErr f nm l before=some (i,e)->e≠0
 |[],_,_,_,h=>by cases h
 |y::r,before,i,e,h=>by
  rw[firstErr]at h;split at h
  .exact gT h
  .rename_i h0;cases h;exact h0
theorem FN{t}(h:(wxCheck t).2.2=0):TableOk t:=by
 unfold wxCheck at h;split at h
 .rename_i h1;split at h
  .rename_i h2
   cases hp:firstErr cU (·.name) t.props [] with
   |some q=>obtain⟨i,e⟩:=q;rw[hp]at h;exact absurd h (gT hp)
   |none=>
    rw[hp]at h
    cases hk:firstErr (kindErr t.props.length) (·.name) t.kinds [] with
    |some q=>obtain⟨i,e⟩:=q;simp only[tail,hk]at h;exact absurd h (gT hk)
    |none=>
     simp[ar]at h1 h2;have kb:∀k,k∈t.kinds->fW t.props.length k=0:=λk hkm=>by
      obtain⟨a,r,e⟩:=KM hkm;have:=eP hk a k r e;unfold kindErr at this;split at this
      .exact this
      .contradiction
     refine⟨by omega,by omega,by omega,by omega,λp hpm=>?_,λk hkm=>?_,λk hkm s hs=>?_,by omega,hk⟩
     .obtain⟨a,r,e⟩:=KM hpm;have:=eP hp a p r e;unfold cU lO at this;split at this
      .split at this
       .rename_i h3;simpa[ar]using h3
       .cases this
      .contradiction
     .have:=kb k hkm;unfold fW at this;split at this
      .assumption
      .cases this
     .have:=kb k hkm;unfold fW at this;split at this
      .split at this
       .cases this
       .split at this
        .cases this
        .rename_i h3 h4;simp only[KD,not_exists,not_and]at h3 h4;have h3:=h3 s hs;have h4:=h4 s hs;simp[ni,ar]at h3 h4;omega
      .cases this
  .cases h
 .cases h
def fg (n:Int):Bool:=n==-1||ar n 0 100000
def cE (t:WxTable) (rs:List Int):Int:=if(wxCheck t).2.2=0 then(if rs.length=t.props.length then(if rs.all fg=true then 0 else 7) else 3) else(wxCheck t).2.2
def sg (t:WxTable) (rs:List Int):PV:=.ptr 4 [.agg [.slice 2 (t.props.map WxProp.pv) false,.slice 2 (t.kinds.map WxKind.pv) false,.int .i64 t.purity,.slice 1 (rs.map aI) false]] 0 0
attribute [go_sem] sg
theorem L0(t)(rs)(hrs:rs.length<1000000000):af TP 273 [t.pv,.slice 1 (rs.map aI) false] (.tuple [if cE t rs=0 then sg t rs else .nilptr,.int .i64 (cE t rs)]):=by
 refine dg (ah Tryz.func273 rfl (by kernel_rfl)) rfl ?_;simp only[go_sem,simprocAttr];refine ae (qJ t) rfl ?_;simp only[al,go_sem,simprocAttr];cases h0:((wxCheck t).2.2 != 0)
 rotate_left
 .have h0':¬(wxCheck t).2.2=0:=by simpa using h0
  simp only[cE,if_neg h0',go_sem,simprocAttr]
 have h0':(wxCheck t).2.2=0:=by simpa using h0
 simp only[go_sem,simprocAttr];cases h1:((rs.length:Int) != (t.props.length:Int))
 rotate_left
 .have h1':¬rs.length=t.props.length:=by simp at h1;omega
  simp only[cE,if_neg h1',h0',go_sem,simprocAttr]
 have h1':rs.length=t.props.length:=by simp at h1;omega
 have hsp:cE t rs=if rs.all fg=true then 0 else 7:=by rw[cE,if_pos h0',if_pos h1']
 rw[hsp];simp only[go_sem,simprocAttr];refine aQ [1,2,26,27] rs hrs (τ:=Unit) (λdone rest _=>rs.all fg=rest.all fg) (λdone _=>[(28,.p (.int .i64 done.length))]) (λ_ _=>[.row 3 [.p t.pv]]) () rfl ?_ ?_ ?_
 .simp only[go_sem,simprocAttr]<;>simp
 .intro _ e2;simp only[e2,Fw,go_sem,simprocAttr]
 .intro done n r _ e1 e2 hx hlt hnx;rw[List.all_cons]at e2;simp only[hlt,hx,go_sem,simprocAttr];cases h2:(n != -1)
  .have:fg n=true:=by simp[fg];simp at h2;exact .inl h2
   rw[this,ng]at e2;simp only[go_sem,simprocAttr];refine ak e1 () e2 ?_;simp only[hnx,go_sem,simprocAttr]
  .have hr:fg n=ar n 0 100000:=by simp[fg];simp at h2;simp[h2]
   simp only[go_sem,simprocAttr];refine ae (fi 0 100000 [_] true (by simp)) rfl ?_;simp only[cV,bw,cD,go_sem,simprocAttr];rw[hr]at e2;cases h3:ar n 0 100000
   .rw[h3,Bool.false_and]at e2;simp only[e2,go_sem,simprocAttr]
   .rw[h3,ng]at e2;simp only[go_sem,simprocAttr];refine ak e1 () e2 ?_;simp only[hnx,go_sem,simprocAttr]
theorem u6(a b:Int)(hb:0<b):a / b=if a.tmod b<0 then a.tdiv b-1 else a.tdiv b:=by
 have h1:=Int.tdiv_eq_ediv (a:=a) (b:=b);have h2:=Int.tmod_eq_emod (a:=a) (b:=b);have h3:=Int.emod_nonneg a (Int.ne_of_gt hb);have h4:=Int.emod_lt_of_pos a hb;have h5:b.sign=1:=Int.sign_eq_one_of_pos hb;have h6:(b.natAbs:Int)=b:=Int.natAbs_of_nonneg (E6 hb);rw[h5]at h1;by_cases hc:0<=a\/b ∣ a
 .rw[if_pos hc]at h1 h2;rw[if_neg (by omega)];omega
 .rw[if_neg hc]at h1 h2;rw[if_pos (by omega)];omega
theorem xJ{a b B}(hb:0<b)(h1:-B<=a)(h2:a<=B)(hB:0<=B):-B<=a / b/\a / b<=B:=by
 refine⟨(B5 hb).2 ?_,?_⟩
 .have:B*1<=B*b:=tM (by omega) hB;have e:-B*b=-(B*b):=by rw[Ft]
  omega
 .rcases E2 0 a with h|h
  .exact s8 (Int.ediv_le_self b h) h2
  .have:=Fq hb h;rw[Int.zero_ediv]at this;omega
theorem mC(a b)(hb:0<b)(h1:-1000000000000000000<=a)(h2:a<=1000000000000000000):af TP 334 [.int .i64 a,.int .i64 b] (.int .i64 (a / b)):=by
 refine aa (ah Tryz.func334 rfl (by kernel_rfl)) rfl ?_;have hb0:¬b=0:=by omega
 have hr:=xJ hb h1 h2 (by omega);have hd:=u6 a b hb;have e1:IntKind.i64.wrap (a.tdiv b)=a.tdiv b:=by
  split at hd
  .exact aj (by omega) (by omega)
  .exact aj (by omega) (by omega)
 simp only[hb0,e1,go_sem,simprocAttr];cases hm:decide (a.tmod b<0)
 .rw[if_neg (by simpa using hm)]at hd;simp only[hd,go_sem,simprocAttr]
 .rw[if_pos (by simpa using hm)]at hd;have e2:IntKind.i64.wrap (a.tdiv b-1)=a.tdiv b-1:=aj (by omega) (by omega);simp only[hd,e2,go_sem,simprocAttr]
def aM (s:Span):Prop:=0<=s.lo/\s.lo<=s.hi/\s.hi<=100000
theorem Vv(x y)(r e)(a b c d)(h)(ha:h[a]?=some (.row 2 [.p x.pv]))(hb:h[b]?=some (.row 2 [.p y.pv]))(hc:h[c]?=some (.row 1 [.p (.int .i64 r)]))(hd:h[d]?=some (.row 1 [.p (.int .i64 e)]))
  (hx:aM x) (hy:aM y) (hr:0<=r/\r<=100000) (he:0<=e/\e<=10000) :
  aD TP 324 [.ptr a 1 0 0,.ptr b 1 0 0,.ptr c 1 0 0,.ptr d 1 0 0] h (λq h'=>q=.ret (.p (.tuple [.int .i64 (x.lo-y.lo),.int .i64 (1000*(y.lo-r-e))]))/\h'=h):=by
 refine aC (ah Tryz.func324 rfl (by kernel_rfl)) rfl ?_;unfold aM at hx hy;have w1:IntKind.i64.wrap (x.lo-y.lo)=x.lo-y.lo:=aj (by omega) (by omega);have w2:IntKind.i64.wrap (y.lo-r)=y.lo-r:=aj (by omega) (by omega);have w3:IntKind.i64.wrap (y.lo-r-e)=y.lo-r-e:=aj (by omega) (by omega);have w4:IntKind.i64.wrap (1000*(y.lo-r-e))=1000*(y.lo-r-e):=aj (by omega) (by omega);simp only[Span.pv]at ha hb;simp only[ha,hb,hc,hd,w1,w2,w3,w4,go_sem,simprocAttr]
theorem XF(y x)(r e)(a b c d)(h)(ha:h[a]?=some (.row 2 [.p y.pv]))(hb:h[b]?=some (.row 2 [.p x.pv]))(hc:h[c]?=some (.row 1 [.p (.int .i64 r)]))(hd:h[d]?=some (.row 1 [.p (.int .i64 e)]))
  (hx:aM x) (hy:aM y) (hr:0<=r/\r<=100000) (he:0<=e/\e<=10000) :
  aD TP 325 [.ptr a 1 0 0,.ptr b 1 0 0,.ptr c 1 0 0,.ptr d 1 0 0] h (λq h'=>q=.ret (.p (.tuple [.int .i64 (y.hi-x.hi),.int .i64 (1000*(r-e-y.hi))]))/\h'=h):=by
 refine aC (ah Tryz.func325 rfl (by kernel_rfl)) rfl ?_;unfold aM at hx hy;have w1:IntKind.i64.wrap (y.hi-x.hi)=y.hi-x.hi:=aj (by omega) (by omega);have w2:IntKind.i64.wrap (r-e)=r-e:=aj (by omega) (by omega);have w3:IntKind.i64.wrap (r-e-y.hi)=r-e-y.hi:=aj (by omega) (by omega);have w4:IntKind.i64.wrap (1000*(r-e-y.hi))=1000*(r-e-y.hi):=aj (by omega) (by omega);simp only[Span.pv]at ha hb;simp only[ha,hb,hc,hd,w1,w2,w3,w4,go_sem,simprocAttr]
def Ku (l:Span):Prop:=0<=l.lo/\l.lo<=300000000/\-300000000<=l.hi/\l.hi<=300000000
theorem Cg{l}{q}(hl:Ku l)(h1:-300000000<=q.2)(h2:q.2<=300000000):Ku (dd l q):=by
 unfold Ku dd at *
 split
 .rename_i h;have:=xJ (a:=-q.2) (B:=300000000) h (by omega) (by omega) (by omega);dsimp only;split<;>omega
 .split
  .rename_i h;have:=xJ (a:=-q.2) (b:=-q.1) (B:=300000000) (by omega) (by omega) (by omega) (by omega);dsimp only;split<;>omega
  .split
   .dsimp only;omega
   .exact hl
theorem MK{s}(q)(h:0<q.1):dd s q=⟨s.lo,if(-q.2) / q.1<s.hi then(-q.2) / q.1 else s.hi⟩:=by rw[dd,if_pos h]
theorem MJ{s}(q)(h:¬0<q.1)(h2:q.1<0):dd s q=⟨if s.lo < -((-q.2) / (-q.1)) then -((-q.2) / (-q.1)) else s.lo,s.hi⟩:=by rw[dd,if_neg h,if_pos h2]
theorem MI{s}(q)(h:¬0<q.1)(h2:¬q.1<0)(h3:0<q.2):dd s q=⟨s.lo,s.lo-1⟩:=by rw[dd,if_neg h,if_neg h2,if_pos h3]
theorem MH{s}(q)(h:¬0<q.1)(h2:¬q.1<0)(h3:¬0<q.2):dd s q=s:=by rw[dd,if_neg h,if_neg h2,if_neg h3]
theorem Qj(l x y)(r e)(i a b c d)(h)(hi:h[i]?=some (.row 2 [.p l.pv]))(ha:h[a]?=some (.row 2 [.p x.pv]))(hb:h[b]?=some (.row 2 [.p y.pv]))(hc:h[c]?=some (.row 1 [.p (.int .i64 r)]))(hd:h[d]?=some (.row 1 [.p (.int .i64 e)]))
  (f) (hf:h[f]?=some (.row 1 [.func (.func 324) [] [.ptr a 1 0 0,.ptr b 1 0 0,.ptr c 1 0 0,.ptr d 1 0 0],.func (.func 325) [] [.ptr b 1 0 0,.ptr a 1 0 0,.ptr c 1 0 0,.ptr d 1 0 0]]))
  (nia:i≠a) (nib:i≠b) (nic:i≠c) (nid:i≠d) (nif:i≠f) (hl:Ku l) (hx:aM x) (hy:aM y) (hr:0<=r/\r<=100000) (he:0<=e/\e<=10000) :
  aD TP 326 [.ptr i 1 0 0,.slice f 2 0 2] h (λq h'=>q=.ret (.p (.tuple []))/\h'=h.set i (.row 2 [.p (dd (dd l (x.lo-y.lo,1000*(y.lo-r-e))) (y.hi-x.hi,1000*(r-e-y.hi))).pv])):=by
 refine aC (ah Tryz.func326 rfl (by kernel_rfl)) rfl ?_;have hv:=hx;have hw:=hy
 unfold aM at hv hw;have hil:i<h.length:=(aF.1 hi).1;have gi:∀v,(h.set i v)[i]?=some v:=λv=>jf hil;have gn:∀v j,i≠j->(h.set i v)[j]?=h[j]?:=λv j hj=>eo hj;have hl1:=Cg (q:=(x.lo-y.lo,1000*(y.lo-r-e))) hl (by dsimp only;omega) (by dsimp only;omega);have e11:x.lo-y.lo=((x.lo-y.lo,1000*(y.lo-r-e)):Int×Int).1:=rfl;have e21:1000*(y.lo-r-e)=((x.lo-y.lo,1000*(y.lo-r-e)):Int×Int).2:=rfl;have e12:y.hi-x.hi=((y.hi-x.hi,1000*(r-e-y.hi)):Int×Int).1:=rfl;have e22:1000*(r-e-y.hi)=((y.hi-x.hi,1000*(r-e-y.hi)):Int×Int).2:=rfl;generalize hq1:((x.lo-y.lo,1000*(y.lo-r-e)):Int×Int)=q1 at hl1 e11 e21 |-;generalize hq2:((y.hi-x.hi,1000*(r-e-y.hi)):Int×Int)=q2 at e12 e22 |-;have b1:-300000000<=q1.2/\q1.2<=300000000/\-300000000<=q1.1/\q1.1<=300000000:=by rw[<-hq1];dsimp only;omega
 have b2:-300000000<=q2.2/\q2.2<=300000000/\-300000000<=q2.1/\q2.1<=300000000:=by rw[<-hq2];dsimp only;omega
 simp only[hf,go_sem,simprocAttr]
 refine eC [0,8,9] (σ:=Nat×Span) (λq=>(q=(0,l)\/q=(1,dd l q1)\/q=(2,dd (dd l q1) q2))) (λq=>2-q.1)
  (λq=>[(10,.p (.int .i64 q.1))]) (λq=>h.set i (.row 2 [.p q.2.pv])) (0,l) (.inl rfl) (pu hi).symm ?_ ?_
 .simp only[go_sem,simprocAttr]
 rintro⟨k,s⟩ hk
 have w0:IntKind.i64.wrap (1:Int)=1:=rfl;have w2:IntKind.i64.wrap (2:Int)=2:=rfl;have hneg:∀n:Int,-300000000<=n->n<=300000000->IntKind.i64.wrap (-n)=-n:=λn h1 h2=>aj (by omega) (by omega);rcases hk with hk|hk|hk
 .obtain⟨ek,es⟩:=Prod.mk.inj hk;have es':=es.symm;subst ek;subst es';have hz:∀v,(h.set i v)[f]?=_:=λv=>(gn v f nif).trans hf;simp only[hz,go_sem,simprocAttr];refine cJ (Vv x y r e a b c d _ (by rw[gn _ _ nia];exact ha) (by rw[gn _ _ nib];exact hb) (by rw[gn _ _ nic];exact hc) (by rw[gn _ _ nid];exact hd) hx hy hr he) ?_;rw[e11,e21];have hzz:∀v,(h.set i v)[i]?=some v:=gi;by_cases c1:0<q1.1
  .have c1':decide (0<q1.1)=true:=by simpa using c1
   simp only[c1',hneg _ b1.1 b1.2.1,gi,go_sem,simprocAttr]
   (first|refine ae (mC (-q1.2) q1.1 c1 (by omega) (by omega)) rfl ?_|refine ax (mC (-q1.2) q1.1 c1 (by omega) (by omega)) rfl ?_)
   simp only[gi,rg,go_sem,simprocAttr];refine bh (1,dd l q1) (.inr (.inl rfl)) (by dsimp only;omega) ?_ ?_
   .simp only[go_sem,simprocAttr];rw[MK (s:=l) q1 c1]
   .simp only[go_sem,simprocAttr]
  have c1':decide (0<q1.1)=false:=by simpa using c1
  by_cases c2:q1.1<0
  .have c2':decide (q1.1<0)=true:=by simpa using c2
   have hd:=xJ (a:=-q1.2) (b:=-q1.1) (B:=300000000) (by omega) (by omega) (by omega) (by omega);simp only[c1',c2',hneg _ b1.1 b1.2.1,hneg _ b1.2.2.1 b1.2.2.2,gi,go_sem,simprocAttr]
   (first|refine ae (mC (-q1.2) (-q1.1) (by omega) (by omega) (by omega)) rfl ?_|refine ax (mC (-q1.2) (-q1.1) (by omega) (by omega) (by omega)) rfl ?_)
   simp only[gi,rg,hneg _ hd.1 hd.2,go_sem,simprocAttr];refine bh (1,dd l q1) (.inr (.inl rfl)) (by dsimp only;omega) ?_ ?_
   .simp only[go_sem,simprocAttr];rw[MJ (s:=l) q1 c1 c2]
   .simp only[go_sem,simprocAttr]
  have c2':decide (q1.1<0)=false:=by simpa using c2
  by_cases c3:0<q1.2
  .have c3':decide (0<q1.2)=true:=by simpa using c3
   have hw3:IntKind.i64.wrap (l.lo-1)=l.lo-1:=aj (by have:=hl.1;have:=hl.2.1;omega) (by have:=hl.1;have:=hl.2.1;omega);simp only[c1',c2',c3',gi,rg,hw3,go_sem,simprocAttr];refine bh (1,dd l q1) (.inr (.inl rfl)) (by dsimp only;omega) ?_ ?_
   .simp only[go_sem,simprocAttr];rw[MI (s:=l) q1 c1 c2 c3]
   .simp only[go_sem,simprocAttr]
  have c3':decide (0<q1.2)=false:=by simpa using c3
  simp only[c1',c2',c3',go_sem,simprocAttr];refine bh (1,dd l q1) (.inr (.inl rfl)) (by dsimp only;omega) ?_ ?_
  .simp only[go_sem,simprocAttr];rw[MH (s:=l) q1 c1 c2 c3]
  .simp only[go_sem,simprocAttr]
 .obtain⟨ek,es⟩:=Prod.mk.inj hk;have es':=es.symm;subst ek;subst es';have hz:∀v,(h.set i v)[f]?=_:=λv=>(gn v f nif).trans hf;simp only[hz,go_sem,simprocAttr];refine cJ (XF y x r e b a c d _ (by rw[gn _ _ nib];exact hb) (by rw[gn _ _ nia];exact ha) (by rw[gn _ _ nic];exact hc) (by rw[gn _ _ nid];exact hd) hx hy hr he) ?_;rw[e12,e22];have hzz:∀v,(h.set i v)[i]?=some v:=gi;by_cases c1:0<q2.1
  .have c1':decide (0<q2.1)=true:=by simpa using c1
   simp only[c1',hneg _ b2.1 b2.2.1,gi,go_sem,simprocAttr]
   (first|refine ae (mC (-q2.2) q2.1 c1 (by omega) (by omega)) rfl ?_|refine ax (mC (-q2.2) q2.1 c1 (by omega) (by omega)) rfl ?_)
   simp only[gi,rg,go_sem,simprocAttr];refine bh (2,dd (dd l q1) q2) (.inr (.inr rfl)) (by dsimp only;omega) ?_ ?_
   .simp only[go_sem,simprocAttr];rw[MK (s:=(dd l q1)) q2 c1]
   .simp only[go_sem,simprocAttr]
  have c1':decide (0<q2.1)=false:=by simpa using c1
  by_cases c2:q2.1<0
  .have c2':decide (q2.1<0)=true:=by simpa using c2
   have hd:=xJ (a:=-q2.2) (b:=-q2.1) (B:=300000000) (by omega) (by omega) (by omega) (by omega);simp only[c1',c2',hneg _ b2.1 b2.2.1,hneg _ b2.2.2.1 b2.2.2.2,gi,go_sem,simprocAttr]
   (first|refine ae (mC (-q2.2) (-q2.1) (by omega) (by omega) (by omega)) rfl ?_|refine ax (mC (-q2.2) (-q2.1) (by omega) (by omega) (by omega)) rfl ?_)
   simp only[gi,rg,hneg _ hd.1 hd.2,go_sem,simprocAttr];refine bh (2,dd (dd l q1) q2) (.inr (.inr rfl)) (by dsimp only;omega) ?_ ?_
   .simp only[go_sem,simprocAttr];rw[MJ (s:=(dd l q1)) q2 c1 c2]
   .simp only[go_sem,simprocAttr]
  have c2':decide (q2.1<0)=false:=by simpa using c2
  by_cases c3:0<q2.2
  .have c3':decide (0<q2.2)=true:=by simpa using c3
   have hw3:IntKind.i64.wrap ((dd l q1).lo-1)=(dd l q1).lo-1:=aj (by have:=hl1.1;have:=hl1.2.1;omega) (by have:=hl1.1;have:=hl1.2.1;omega);simp only[c1',c2',c3',gi,rg,hw3,go_sem,simprocAttr];refine bh (2,dd (dd l q1) q2) (.inr (.inr rfl)) (by dsimp only;omega) ?_ ?_
   .simp only[go_sem,simprocAttr];rw[MI (s:=(dd l q1)) q2 c1 c2 c3]
   .simp only[go_sem,simprocAttr]
  have c3':decide (0<q2.2)=false:=by simpa using c3
  simp only[c1',c2',c3',go_sem,simprocAttr];refine bh (2,dd (dd l q1) q2) (.inr (.inr rfl)) (by dsimp only;omega) ?_ ?_
  .simp only[go_sem,simprocAttr];rw[MH (s:=(dd l q1)) q2 c1 c2 c3]
  .simp only[go_sem,simprocAttr]
 .obtain⟨rfl,rfl⟩:=Prod.mk.inj hk;simp only[go_sem,simprocAttr]
def nN (t:WxTable) (rs:List Int) (a b:WxKind) (lo hi:Int):Span:=hG ⟨lo,hi⟩ t.props a.props b.props rs
theorem Gh{ps:List WxProp}{xs ys:List Span}{r}{l}{k}{p}{x y}{n}(hp:ps[k]?=some p)(hx:xs[k]?=some x)(hy:ys[k]?=some y) :
  hG l (ps.drop k) (xs.drop k) (ys.drop k) (n::r)=hG (r9 l x y p.error n) (ps.drop (k+1)) (xs.drop (k+1)) (ys.drop (k+1)) r:=by
 have h1:=(aF.1 hp)
 have h2:=(aF.1 hx)
 have h3:=(aF.1 hy)
 obtain⟨i1,rfl⟩:=h1;obtain⟨i2,rfl⟩:=h2;obtain⟨i3,rfl⟩:=h3;rw[nX i1,nX i2,nX i3,hG]
set_option maxHeartbeats 4000000 in
theorem V2(t)(rs)(i j:Nat)(a b)(lo hi)(ht:TableOk t)(hrs:rs.length=t.props.length)(hro:rs.all fg=true)(ha:t.kinds[i]?=some a)(hb:t.kinds[j]?=some b)(hlo:1<=lo/\lo<=1000)(hhi:1<=hi/\hi<=1000) :
  af TP 308 [sg t rs,.int .i64 i,.int .i64 j,.int .i64 lo,.int .i64 hi] (nN t rs a b lo hi).pv:=by
 refine aa (eg (by kernel_rfl) rfl Xm) rfl ?_;have hil:(i:Int)<(t.kinds.length:Int):=by have:=(aF.1 ha).1;omega
 have hjl:(j:Int)<(t.kinds.length:Int):=by have:=(aF.1 hb).1;omega
 have hpl:=ht.props;have hal:=ht.len a (aG ha);have hbl:=ht.len b (aG hb);simp only[WW,go_sem,simprocAttr]
 refine aQ [0,1,2,10,11,25,26] rs (by omega) (τ:=Span) (λdone rest l=>Ku l/\nN t rs a b lo hi=hG l (t.props.drop done.length) (a.props.drop done.length) (b.props.drop done.length) rest) (λdone _=>[(27,.p (.int .i64 done.length))])
  (λ_ l=>[.row 2 [.p (.agg [.int .i64 0,.int .i64 0])],.row 2 [.p l.pv]]) ⟨lo,hi⟩ ⟨by unfold Ku;dsimp only;omega,rfl⟩ ?_ ?_ ?_
 .simp only[go_sem,simprocAttr]
 .intro l ⟨_,e2⟩;have:∀(l:Span) (ps:List WxProp) (xs ys:List Span),hG l ps xs ys ([]:List Int)=l:=λl ps xs ys=>by cases ps<;>cases xs<;>cases ys<;>rfl
  rw[this]at e2;simp only[e2,go_sem,simprocAttr]
 .intro done n r l e1 ⟨hB,e2⟩ hx hlt hnx;have hdl:=congrArg List.length e1;simp only[aB,cu]at hdl;obtain⟨p,hp⟩:∃p,t.props[done.length]?=some p:=⟨_,dc (by omega)⟩
  obtain⟨x,hxx⟩:∃x,a.props[done.length]?=some x:=⟨_,dc (by omega)⟩
  obtain⟨y,hyy⟩:∃y,b.props[done.length]?=some y:=⟨_,dc (by omega)⟩
  rw[Gh hp hxx hyy]at e2;have hdn:(done++[n]).length=done.length+1:=by simp
  have hn:=lm.1 hro n (by rw[e1];simp);simp only[hlt,hx,go_sem,simprocAttr];cases h1:(n==-1)
  .have hr:0<=n/\n<=100000:=by
    have:¬n=-1:=by simpa using h1
    simpa[fg,this,ar]using hn
   have hne:¬n=-1:=by omega
   have hpe:=ht.error p (aG hp);have hxv:=ht.vals a (aG ha) x (aG hxx);have hyv:=ht.vals b (aG hb) y (aG hyy);have l1:(done.length:Int)<(a.props.length:Int):=by omega
   have l2:(done.length:Int)<(b.props.length:Int):=by omega
   have l3:(done.length:Int)<(t.props.length:Int):=by omega
   rw[r9,if_neg hne]at e2;simp only[aL,ha,hb,hil,hjl,hp,hxx,hyy,l1,l2,l3,go_sem,simprocAttr];refine cJ (Qj l x y n p.error 1 3 4 2 5 _ rfl rfl rfl rfl rfl 6 rfl (by decide) (by decide) (by decide) (by decide) (by decide) hB hxv hyv hr hpe) ?_;simp only[go_sem,simprocAttr];have hB2:=Cg (q:=(y.hi-x.hi,1000*(n-p.error-y.hi))) (Cg (q:=(x.lo-y.lo,1000*(y.lo-n-p.error))) hB (by dsimp only;omega) (by dsimp only;omega)) (by dsimp only;omega) (by dsimp only;omega);refine ak e1 _ ⟨hB2,by rw[hdn];exact e2⟩ ?_;simp only[hnx,go_sem,simprocAttr]
  .have hn1:n=-1:=by simpa using h1
   rw[r9,if_pos hn1]at e2;simp only[go_sem,simprocAttr];refine ak e1 l ⟨hB,by rw[hdn];exact e2⟩ ?_;simp only[hnx,go_sem,simprocAttr]
def gL (t:WxTable) (rs:List Int) (q:Nat×Nat):Span:=
 match t.kinds[q.1]?,t.kinds[q.2]? with
 |some a,some b=>nN t rs a b (if q.1=q.2 then 1000 else 1) (if q.1=q.2 then 1000 else 999)
 |_,_=>⟨1,0⟩
def tY (t:WxTable) (rs:List Int) (q:Nat×Nat):List ((Nat×Nat)×Span):=match tR (gL t rs q) with|some s=>[(q,s)]|none=>[]
def vj (t:WxTable) (rs:List Int) (a:Nat):Nat->Nat->List ((Nat×Nat)×Span)
 |_,0=>[]
 |b,c+1=>tY t rs (a,b)++vj t rs a (b+1) c
def tG (t:WxTable) (rs:List Int):Nat->Nat->List ((Nat×Nat)×Span)
 |_,0=>[]
 |a,c+1=>vj t rs a 0 (a+1)++tG t rs (a+1) c
def mH (t:WxTable) (rs:List Int):List ((Nat×Nat)×Span):=tG t rs 0 t.kinds.length
def mn (m:(Nat×Nat)×Span):PV:=.agg [.int .i64 m.1.1,.int .i64 m.1.2,.int .i64 m.2.lo,.int .i64 m.2.hi]
attribute [go_sem] mn
theorem w8(t)(rs)(a):∀(c b),vj t rs a b c=(List.range' b c).flatMap λb=>tY t rs (a,b)
 |0,b=>rfl
 |c+1,b=>by rw[vj,w8 t rs a c (b+1),List.range'_succ,mF]
theorem OP(t)(rs):∀(c a),tG t rs a c=((List.range' a c).flatMap λa=>(List.range (a+1)).map λb=>(a,b)).flatMap (tY t rs)
 |0,a=>rfl
 |c+1,a=>by
  rw[tG,OP t rs c (a+1),List.range'_succ,mF,Dd,w8,List.flatMap_map,List.range_eq_range']
theorem JJ(t)(rs):mH t rs=(qq t.kinds.length).flatMap (tY t rs):=by
 rw[mH,OP,qq,List.range_eq_range']
theorem Bj(t)(rs)(kind):∀(l) (p),(l.flatMap (tY t rs)).foldl (λp m=>jA p (ez kind m.1 m.2)) p=joinL (λq=>(tR (gL t rs q)).map (ez kind q)) l p
 |[],p=>rfl
 |q::l,p=>by
  rw[mF,B8,Bj t rs kind l,joinL];unfold tY;cases tR (gL t rs q)<;>rfl
def ox (t:WxTable) (rs:List Int):PV:=.func (.func 307) [] [.ptr 1 [sg t rs] 0 0]
theorem Om(t)(rs):af TP 274 [sg t rs] (ox t rs):=by
 refine dg (ah Tryz.func274 rfl (by kernel_rfl)) rfl ?_;simp only[ox,go_sem,simprocAttr]
set_option maxHeartbeats 4000000 in
theorem NW(t)(rs)(ht:TableOk t)(hrs:rs.length=t.props.length)(hro:rs.all fg=true):Mv TP (ox t rs) 1 ((mH t rs).map λm=>[mn m]):=by
 refine⟨λa ha=>?_,_,_,_,rfl,λid Inv Fin h0 hid hy hi=>?_⟩
 .obtain⟨q,_,rfl⟩:=cH.1 ha;rfl
 have hkl:=ht.kinds;refine aC (ah Tryz.func307 rfl (by kernel_rfl)) rfl ?_;simp only[go_sem,simprocAttr]
 refine eC [0,1,13] (σ:=Nat×List ((Nat×Nat)×Span)×Heap×Heap)
  (λq=>q.1<=t.kinds.length/\mH t rs=q.2.1++tG t rs q.1 (t.kinds.length-q.1)/\Inv q.2.1.length q.2.2.1/\q.2.2.1.length=h0.length) (λq=>t.kinds.length-q.1)
  (λq=>[(14,.p (.int .i64 q.1))]) (λq=>q.2.2.1++q.2.2.2) (0,[],h0,[]) ⟨dY _,rfl,hi,rfl⟩ (by simp) ?_ ?_
 .simp only[go_sem,simprocAttr]
 rintro⟨i,pre,lo,mid⟩ ⟨h1,h2,hI,hlo⟩
 dsimp only at h1 h2 hI hlo;rcases KF h1 with he|hlt0
 .have hlt:decide ((i:Int)<(t.kinds.length:Int))=false:=by simp;omega
  rw[he,wF,tG,bC]at h2;simp only[hlt,go_sem,simprocAttr];refine⟨lo,mid,rfl,hlo,.inl ?_⟩;rw[h2];exact hI
 have hlt:decide ((i:Int)<(t.kinds.length:Int))=true:=by simp;omega
 have hsub:t.kinds.length-i=(t.kinds.length-(i+1))+1:=by omega
 rw[hsub,tG]at h2;have hw:IntKind.i64.wrap ((i:Int)+1)=((i+1:Nat):Int):=bj (by omega) (by simp[aw];omega) (by omega);obtain⟨a,ha⟩:∃a,t.kinds[i]?=some a:=⟨_,dc hlt0⟩
 simp only[hlt,hw,go_sem,simprocAttr]
 refine eC [0,1,3,13,14,18] (σ:=Nat×List ((Nat×Nat)×Span)×Heap×Heap)
  (λq=>q.1<=i+1/\mH t rs=q.2.1++(vj t rs i q.1 (i+1-q.1)++tG t rs (i+1) (t.kinds.length-(i+1)))/\Inv q.2.1.length q.2.2.1/\q.2.2.1.length=h0.length) (λq=>i+1-q.1)
  (λq=>[(19,.p (.int .i64 q.1))]) (λq=>q.2.2.1++q.2.2.2) (0,pre,lo,mid) ⟨dY _,h2,hI,hlo⟩ rfl ?_ ?_
 .simp only[go_sem,simprocAttr]
 clear h2 hI hlo
 rintro⟨j,pre,lo,mid⟩ ⟨g1,g2,hI,hlo⟩
 dsimp only at g1 g2 hI hlo;rcases KF g1 with he|hltj
 .have hl2:decide ((j:Int)<((i+1:Nat):Int))=false:=by simp;omega
  rw[he,wF,vj,ky]at g2;simp only[hl2,go_sem,simprocAttr];refine bh (i+1,pre,lo,mid) ⟨by omega,g2,hI,hlo⟩ (by dsimp only;omega) rfl ?_;simp only[hw,go_sem,simprocAttr]
 have hl2:decide ((j:Int)<((i+1:Nat):Int))=true:=by simp;omega
 have hsub2:i+1-j=(i+1-(j+1))+1:=by omega
 rw[hsub2,vj]at g2;have hwj:IntKind.i64.wrap ((j:Int)+1)=((j+1:Nat):Int):=bj (by omega) (by simp[aw];omega) (by omega);obtain⟨b,hb⟩:∃b,t.kinds[j]?=some b:=⟨_,dc (by omega)⟩
 have hsame:((i:Int)==(j:Int))=decide (i=j):=by rw[nh];simp;omega
 have gg:=k7 hlo;have ss:=mS hlo;have mg:=k8 (lo:=mid) rfl;have ms:=mT (lo:=mid) rfl;have mix:gL t rs (i,j)=nN t rs a b (if i=j then 1000 else 1) (if i=j then 1000 else 999):=by simp only[gL,ha,hb]
 have fin:∀{s:Span},gL t rs (i,j)=s->(s.lo<=s.hi->tY t rs (i,j)=[((i,j),s)])/\(¬s.lo<=s.hi->tY t rs (i,j)=[]):=by
  rintro s rfl
  unfold tY tR;constructor
  .intro h;rw[if_pos h]
  .intro h;rw[if_neg h]
 have cP:=λlo' hi' h1 h2=>V2 t rs i j a b lo' hi' ht hrs hro ha hb h1 h2;rw[show (if i=j then(1000:Int) else 999)=if i=j then 1000 else 999 from rfl]at mix;by_cases hij:i=j
 .rw[if_pos hij,if_pos hij]at mix;have hd:decide (i=j)=true:=by simpa using hij
  obtain⟨f1,f2⟩:=fin mix;simp only[hl2,hsame,hd,go_sem,simprocAttr]
  (first|refine ae (cP 1000 1000 (by omega) (by omega)) rfl ?_|refine ax (cP 1000 1000 (by omega) (by omega)) rfl ?_)
  generalize nN t rs a b 1000 1000=s at mix f1 f2;simp only[cF,aB,bn,hlo,gg,ss,mg,ms,go_sem,simprocAttr];by_cases hc:s.lo<=s.hi
  .have hc':decide (s.lo<=s.hi)=true:=by simpa using hc
   have g2':=g2;rw[f1 hc]at g2';have hget:((mH t rs).map λm=>[mn m])[pre.length]?=some [mn ((i,j),s)]:=by rw[g2'];simp
   simp only[bn,gg,mg,hc',go_sem,simprocAttr];refine qL (hy pre.length _ lo (mid++[AObj.row 2 [AV.p s.pv]]) hget hI hlo) (λv h' hr=>?_) (λv h' hr=>?_);rotate_left
   .obtain⟨_,_,_,_,hr⟩:=hr;rcases hr with⟨hr,_⟩|⟨hr,_⟩<;>cases hr
   obtain⟨lo3,ext,rfl,hlo3,hr⟩:=hr;rcases hr with⟨hr,hI3⟩|⟨hr,hF⟩
   .cases hr;simp only[go_sem,simprocAttr];refine bh (j+1,pre++[((i,j),s)],lo3,mid++[.row 2 [.p s.pv]]++ext) ⟨by omega,by rw[g2'];simp,by simpa using hI3,hlo3⟩ (by dsimp only;omega) (by simp[cF,Span.pv]) ?_;simp only[hwj,go_sem,simprocAttr]
   .cases hr;simp only[go_sem,simprocAttr];exact⟨lo3,mid++[.row 2 [.p s.pv]]++ext,by simp[cF,Span.pv],hlo3,.inr hF⟩
  .have hc':decide (s.lo<=s.hi)=false:=by simpa using hc
   rw[f2 hc,ky]at g2;simp only[hc',go_sem,simprocAttr];refine bh (j+1,pre,lo,mid++[.row 2 [.p s.pv]]) ⟨by omega,g2,hI,hlo⟩ (by dsimp only;omega) (by simp[Span.pv]) ?_;simp only[hwj,go_sem,simprocAttr]
 .rw[if_neg hij,if_neg hij]at mix;have hd:decide (i=j)=false:=by simpa using hij
  obtain⟨f1,f2⟩:=fin mix;simp only[hl2,hsame,hd,go_sem,simprocAttr]
  (first|refine ae (cP 1 999 (by omega) (by omega)) rfl ?_|refine ax (cP 1 999 (by omega) (by omega)) rfl ?_)
  generalize nN t rs a b 1 999=s at mix f1 f2;simp only[cF,aB,bn,hlo,gg,ss,mg,ms,go_sem,simprocAttr];by_cases hc:s.lo<=s.hi
  .have hc':decide (s.lo<=s.hi)=true:=by simpa using hc
   have g2':=g2;rw[f1 hc]at g2';have hget:((mH t rs).map λm=>[mn m])[pre.length]?=some [mn ((i,j),s)]:=by rw[g2'];simp
   simp only[bn,gg,mg,hc',go_sem,simprocAttr];refine qL (hy pre.length _ lo (mid++[AObj.row 2 [AV.p s.pv]]) hget hI hlo) (λv h' hr=>?_) (λv h' hr=>?_);rotate_left
   .obtain⟨_,_,_,_,hr⟩:=hr;rcases hr with⟨hr,_⟩|⟨hr,_⟩<;>cases hr
   obtain⟨lo3,ext,rfl,hlo3,hr⟩:=hr;rcases hr with⟨hr,hI3⟩|⟨hr,hF⟩
   .cases hr;simp only[go_sem,simprocAttr];refine bh (j+1,pre++[((i,j),s)],lo3,mid++[.row 2 [.p s.pv]]++ext) ⟨by omega,by rw[g2'];simp,by simpa using hI3,hlo3⟩ (by dsimp only;omega) (by simp[cF,Span.pv]) ?_;simp only[hwj,go_sem,simprocAttr]
   .cases hr;simp only[go_sem,simprocAttr];exact⟨lo3,mid++[.row 2 [.p s.pv]]++ext,by simp[cF,Span.pv],hlo3,.inr hF⟩
  .have hc':decide (s.lo<=s.hi)=false:=by simpa using hc
   rw[f2 hc,ky]at g2;simp only[hc',go_sem,simprocAttr];refine bh (j+1,pre,lo,mid++[.row 2 [.p s.pv]]) ⟨by omega,g2,hI,hlo⟩ (by dsimp only;omega) (by simp[Span.pv]) ?_;simp only[hwj,go_sem,simprocAttr]
def AJ (t:WxTable) (rs:List Int) (kind:Nat):Span:=RJ kind (gL t rs) t.kinds.length
def mi (purity:Int) (p:Span):Span×Int×Int:=if p.hi<0 then(⟨0,0⟩,0,9) else if purity<=p.lo then(p,1,0) else if p.hi<purity then(p,0,0) else(p,2,0)
def bD (t:WxTable) (rs:List Int) (kind:Int):Span×Int×Int:=
 if cE t rs=0 then(if ar kind 0 ((t.kinds.length:Int)-1)=true then mi t.purity (AJ t rs kind.toNat) else(⟨0,0⟩,0,4)) else(⟨0,0⟩,0,cE t rs)
theorem tk{t}{rs}(h:cE t rs=0):TableOk t/\rs.length=t.props.length/\rs.all fg=true:=by
 unfold cE at h;split at h
 .rename_i h1;split at h
  .rename_i h2;split at h
   .rename_i h3;exact⟨FN h1,h2,h3⟩
   .cases h
  .cases h
 .contradiction
theorem Gx{t}{rs}{q}(h:(gL t rs q).lo<=(gL t rs q).hi):1<=(gL t rs q).lo/\(gL t rs q).hi<=1000:=by
 unfold gL at h |-;split at h
 .rename_i a b ha hb;unfold nN at h |-;have h1:=(p5 _ t.props a.props b.props rs _).1 ⟨ir _,h⟩;have h2:=(p5 _ t.props a.props b.props rs _).1 ⟨h,ir _⟩;dsimp only at h1 h2;by_cases hq:q.1=q.2
  .simp only[hq,if_true]at h1 h2 |-;omega
  .simp only[hq,if_false]at h1 h2 |-;omega
 .dsimp only at h;omega
theorem JI{t}{rs}:∀m,m∈mH t rs->1<=m.2.lo/\m.2.lo<=m.2.hi/\m.2.hi<=1000:=by
 intro m hm;rw[JJ,zB]at hm;obtain⟨q,_,hm⟩:=hm;unfold tY tR at hm;by_cases hc:(gL t rs q).lo<=(gL t rs q).hi
 .rw[if_pos hc]at hm;have:=Gx hc;rw[gh.1 hm];dsimp only;omega
 .rw[if_neg hc]at hm;cases hm
def nv (p:Span):Prop:=0<=p.lo/\p.lo<=1001/\-1<=p.hi/\p.hi<=1000
theorem JU{p l}(h:nv p)(hl:0<=l.lo/\l.lo<=1000/\0<=l.hi/\l.hi<=1000):nv (jA p l):=by
 unfold nv jA at *
 dsimp only;refine⟨?_,?_,?_,?_⟩<;>split<;>omega
set_option maxHeartbeats 4000000 in
theorem XV(t)(rs)(kind)(hrs0:rs.length<1000000000):af TP 207 [t.pv,.slice 1 (rs.map aI) false,.int .i64 kind] (.tuple [(bD t rs kind).1.pv,.int .i64 (bD t rs kind).2.1,.int .i64 (bD t rs kind).2.2]):=by
 refine aa (ah Tryz.func207 rfl (by kernel_rfl)) rfl ?_;simp only[go_sem,simprocAttr];refine ae (L0 t rs hrs0) rfl ?_;simp only[go_sem,simprocAttr];cases h0:(cE t rs != 0)
 rotate_left
 .have h0':¬cE t rs=0:=by simpa using h0
  simp only[bD,if_neg h0',go_sem,simprocAttr]
 have h0':cE t rs=0:=by simpa using h0
 obtain⟨ht,hrs,hro⟩:=tk h0';have hkl:=ht.kinds;have hw:IntKind.i64.wrap ((t.kinds.length:Int)-1)=(t.kinds.length:Int)-1:=aj (by omega) (by omega);simp only[hw,go_sem,simprocAttr];refine ae (fi 0 _ [_] true (by simp)) rfl ?_;simp only[cV,bw,cD,go_sem,simprocAttr];cases h1:ar kind 0 ((t.kinds.length:Int)-1)
 .simp only[bD,h0',h1,go_sem,simprocAttr]
 have hk:0<=kind/\kind<=(t.kinds.length:Int)-1:=by simpa[ar]using h1
 obtain⟨k,rfl⟩:∃k:Nat,kind=(k:Int):=⟨kind.toNat,by omega⟩
 have hsp:bD t rs (k:Int)=mi t.purity ((mH t rs).foldl (λp m=>jA p (ez k m.1 m.2)) ⟨1001,-1⟩):=by
  rw[bD,if_pos h0',if_pos h1,JJ,Bj];rfl
 rw[hsp];simp only[if_pos h0',go_sem,simprocAttr];refine ae (Om t rs) rfl ?_;simp only[ox,go_sem,simprocAttr];have fold_B:∀(l:List ((Nat×Nat)×Span)) (p:Span),nv p->(∀m,m∈l->1<=m.2.lo/\m.2.lo<=m.2.hi/\m.2.hi<=1000)->nv (l.foldl (λp m=>jA p (ez k m.1 m.2)) p):=by
  intro l
  induction l with
  |nil=>intro p h _;exact h
  |cons m l ih=>
   intro p h hm;refine ih _ (JU h ?_) λm' h'=>hm m' (by simp[h']);have:=hm m (by simp);unfold ez;split
   .omega
   .split<;>dsimp only<;>omega
 have hB0:nv ⟨1001,-1⟩:=by unfold nv;decide
 refine Kn (l:=(mH t rs).map λm=>[mn m]) (λo n h=>h=[.row 3 [.p t.pv],.row 1 [.p (.int .i64 k)],.row 2 [.p (((mH t rs).take n).foldl (λp m=>jA p (ez k m.1 m.2)) ⟨1001,-1⟩).pv],.dblock,o]) (λ_ _=>False)
  rfl (by simp only[ox,go_sem,simprocAttr]) (NW t rs ht hrs hro) bI (by kernel_rfl) (by kernel_rfl) (by kernel_rfl) ?_ ?_ ?_ ?_ (λ_ _ _ h=>h.elim)
 .rintro o n h rfl;simp
 .intro o;simp only[go_sem,simprocAttr];rfl
 .rintro oR oB oD n xs lo mid hk' rfl _
  rw[cO,cg]at hk';obtain⟨m,hm,rfl⟩:=hk';have hmi:=JI m (aG hm);have hB:=fold_B ((mH t rs).take n) ⟨1001,-1⟩ hB0 λm hm=>JI m (tO hm);have hnext:((mH t rs).take (n+1)).foldl (λp m=>jA p (ez k m.1 m.2)) ⟨1001,-1⟩=jA (((mH t rs).take n).foldl (λp m=>jA p (ez k m.1 m.2)) ⟨1001,-1⟩) (ez k m.1 m.2):=by
   rw[s6,hm,Option.toList_some,B8];rfl
  generalize ((mH t rs).take n).foldl (λp m=>jA p (ez k m.1 m.2)) ⟨1001,-1⟩=p at hB hnext |-;have mg:=k8 (lo:=mid) rfl;have mgg:=k7 (lo:=mid) rfl;have ms:=mT (lo:=mid) rfl;have mss:=mS (lo:=mid) rfl;have k1:((k:Int)==(m.1.1:Int))=decide (k=m.1.1):=by rw[nh];simp;omega
  have k2:((k:Int)==(m.1.2:Int))=decide (k=m.1.2):=by rw[nh];simp;omega
  have w1:IntKind.i64.wrap (1000-m.2.hi)=1000-m.2.hi:=aj (by omega) (by omega);have w2:IntKind.i64.wrap (1000-m.2.lo)=1000-m.2.lo:=aj (by omega) (by omega);simp only[cF,aB,bn,mg,mgg,ms,mss,k1,go_sem,simprocAttr];by_cases c1:k=m.1.1
  .have c1':decide (k=m.1.1)=true:=by simpa using c1
   simp only[cF,bn,mgg,c1',go_sem,simprocAttr];refine⟨_,[AObj.row 4 [AV.p (mn m)],AObj.row 2 [AV.p m.2.pv]],?_,by simp,rfl⟩;rw[hnext,ez,if_pos c1];simp[jA,Span.pv,mn]
  have c1':decide (k=m.1.1)=false:=by simpa using c1
  by_cases c2:k=m.1.2
  .have c2':decide (k=m.1.2)=true:=by simpa using c2
   simp only[cF,bn,mg,mgg,mss,c1',k2,c2',w1,w2,go_sem,simprocAttr];refine⟨_,[AObj.row 4 [AV.p (mn m)],AObj.row 2 [AV.p (.agg [.int .i64 (1000-m.2.hi),.int .i64 (1000-m.2.lo)])]],?_,by simp,rfl⟩;rw[hnext,ez,if_neg c1,if_pos c2];simp[jA,mn]
  have c2':decide (k=m.1.2)=false:=by simpa using c2
  simp only[cF,bn,mg,mgg,mss,c1',k2,c2',go_sem,simprocAttr];refine⟨_,[AObj.row 4 [AV.p (mn m)],AObj.row 2 [AV.p (.agg [.int .i64 0,.int .i64 0])]],?_,by simp,rfl⟩;rw[hnext,ez,if_neg c1,if_neg c2];simp[jA,mn]
 .rintro o lo mid rfl _
  rw[eF,qN];generalize (mH t rs).foldl (λp m=>jA p (ez k m.1 m.2)) ⟨1001,-1⟩=p;simp only[go_sem,simprocAttr];cases c1:decide (p.hi<0);rotate_left
  .have c1':p.hi<0:=by simpa using c1
   simp only[mi,if_pos c1',go_sem,simprocAttr];rw[cb];simp only[go_sem,simprocAttr]
  have c1':¬p.hi<0:=by simpa using c1
  simp only[go_sem,simprocAttr];cases c2:decide (t.purity<=p.lo);rotate_left
  .have c2':t.purity<=p.lo:=by simpa using c2
   simp only[mi,if_neg c1',if_pos c2',go_sem,simprocAttr];rw[cb];simp only[go_sem,simprocAttr]
  have c2':¬t.purity<=p.lo:=by simpa using c2
  simp only[go_sem,simprocAttr];cases c3:decide (p.hi<t.purity)
  .have c3':¬p.hi<t.purity:=by simpa using c3
   simp only[mi,if_neg c1',if_neg c2',if_neg c3',go_sem,simprocAttr];rw[cb];simp only[go_sem,simprocAttr]
  .have c3':p.hi<t.purity:=by simpa using c3
   simp only[mi,if_neg c1',if_neg c2',if_pos c3',go_sem,simprocAttr];rw[cb];simp only[go_sem,simprocAttr]
end Wx
end Abs
end Go.Proofs.YtoapoaoelpcniaaGreatDoor
