/- CONTRACTS of the program's functions, and laws on what they return. No conditions but those in the theorems' heads. -/
import Derived.Test.YtoapoaoelpcniaaGreatDoorHrUseX
set_option linter.all false
open Go.Proofs.Tryz renaming prog->TP
namespace Go.Proofs.YtoapoaoelpcniaaGreatDoor
namespace Abs
set_option maxRecDepth 4000
def dS (p:List UInt8):Option HrMark:=
 match (aK 32 p).2 with
 |none=>none
 |some b=>match jR (aK 32 p).1 with
  |none=>none
  |some m=>match jR b with
   |none=>none
   |some w=>some ⟨m,w⟩
def eH:List HrMark->List (List UInt8)->Option (List HrMark)
 |acc,[]=>some acc
 |acc,p::r=>match dS p with
  |none=>none
  |some m=>eH (acc++[m]) r
def qf (all:List UInt8):List (List UInt8):=aP 32 (aK 10 all).1
def vk (all:List UInt8):List UInt8:=pV 10 ((aK 10 all).2.getD [])
def rS (l:List HrKind) (nm:ByteArray):Int:=aA (λk=>k.name==nm) l 0
def oq (s:HrShop) (all:List UInt8):Option HrTest:=
 match qf all with
 |[_,w1,w2]=>match jR w2 with
  |none=>none
  |some e=>(eH [] (aP 10 (vk all))).map λms=>⟨rS s.kinds (bs w1),e,ms⟩
 |_=>none
def dC:HrTest:=⟨0,0,[]⟩
def oO (s:HrShop) (all:List UInt8) (t:HrTest):Bool:=(bV s.kinds.length t==0)&&(jY s t==all)
def aU (s:HrShop) (all:List UInt8):HrTest×Int:=
 if bS s []=0 then
  if 300<all.length then(dC,3)
  else match oq s all with
   |none=>(dC,6)
   |some t=>if oO s all t=true then(t,0) else(dC,6)
 else(dC,bS s [])
theorem qP:∀(a) (acc) (b),eH acc (a++b)=(eH acc a).bind λms=>eH ms b
 |[],_,_=>rfl
 |p::r,acc,b=>by
  rw[eu,eH,eH]
  cases dS p with
  |none=>rfl
  |some m=>exact qP r _ b
theorem ru:∀(a) (acc ms),eH acc a=some ms->ms.length=acc.length+a.length
 |[],_,_,h=>by cases h;rfl
 |p::r,acc,ms,h=>by
  rw[eH]at h
  cases hm:dS p with
  |none=>rw[hm]at h;cases h
  |some m=>
   rw[hm]at h;have:=ru r _ _ h;simp at this |-;omega
theorem wQ(c):∀(l p),p∈aP c l->p.length<=l.length:=by
 intro l;generalize hn:l.length=n
 induction n using Nat.strongRecOn generalizing l with
 |ind n ih=>
  intro p hp
  cases hc:(aK c l).2 with
  |none=>
   rw[mK hc,gh]at hp
   subst hp;omega
  |some r=>
   rw[mJ hc,ci]at hp;have hr:=wc c l r hc;rcases hp with rfl|hp
   .rcases kl c l with⟨h,_⟩|⟨_,_,_,h⟩
    .rw[h]at hc;cases hc
    .have:=congrArg List.length h;simp at this;omega
   .have:=ih r.length (by omega) r rfl p hp;omega
theorem MG(c)(l):(pV c l).length<=l.length:=by
 unfold pV;split
 .simp
 .exact bB _
theorem sI(c)(l):((aK c l).2.getD []).length<=l.length:=by
 cases hc:(aK c l).2 with
 |none=>simp
 |some r=>have:=wc c l r hc;simp;omega
theorem qZ(c)(l):(aK c l).1.length<=l.length:=by
 rcases kl c l with⟨_,h,_⟩|⟨r,_,_,h⟩
 .rw[h];exact bB _
 .have:=congrArg List.length h;simp at this;omega
def nn:PV:=.agg [.int .i64 0,.int .i64 0,.nilslice]
theorem VP{i j}{a b c}{e0}{h}(hi:h[i]?=some (.row 3 [.p (.agg [a,b,c])]))(hj:h[j]?=some (.row 1 [.p (.int .i64 e0)]))(hij:i≠j) :
  j3 TP 255 [.ptr i 1 0 0,.ptr j 1 0 0] (.pan hZ) h
  (λr u h'=>r=.ret (.p (.tuple []))/\u=.recd hZ/\h'=(h.set i (.row 3 [.p nn])).set j (.row 1 [.p (.int .i64 6)])):=by
 refine fY (eg (by kernel_rfl) rfl Lk) rfl ?_;have hil:=(aF.1 hi).1;have gd:∀x,(h.set i x)[i]?=some x:=λx=>jf hil;have gj:∀x,(h.set i x)[j]?=some (.row 1 [.p (.int .i64 e0)]):=λx=>by rw[eo hij];exact hj
 simp only[ol,iS,hi,hZ,gd,gj,RC,aL,nn,bC,go_sem,simprocAttr]
theorem tU{rs}{R}{T}{i j}{a b c}{e0}{h}(hi:h[i]?=some (.row 3 [.p (.agg [a,b,c])]))(hj:h[j]?=some (.row 1 [.p (.int .i64 e0)]))(hij:i≠j)
  (k:cq TP rs R T [] .ret ((h.set i (.row 3 [.p nn])).set j (.row 1 [.p (.int .i64 6)]))) :
  cq TP rs R T [.fn 255 [.ptr i 1 0 0,.ptr j 1 0 0]] (.pan hZ) h:=by
 rw[kK];refine(VP hi hj hij).mono λr u h' hr=>?_;obtain⟨rfl,rfl,rfl⟩:=hr;exact k
theorem VQ{i j}{a b}{q n}{e0}{h}(hi:h[i]?=some (.row 3 [.agg [.p a,.p b,.slice q n 0 n]]))(hj:h[j]?=some (.row 1 [.p (.int .i64 e0)]))(hij:i≠j) :
  j3 TP 255 [.ptr i 1 0 0,.ptr j 1 0 0] (.pan hZ) h
  (λr u h'=>r=.ret (.p (.tuple []))/\u=.recd hZ/\h'=(h.set i (.row 3 [.p nn])).set j (.row 1 [.p (.int .i64 6)])):=by
 refine fY (eg (by kernel_rfl) rfl Lk) rfl ?_;have hil:=(aF.1 hi).1;have gd:∀x,(h.set i x)[i]?=some x:=λx=>jf hil;have gj:∀x,(h.set i x)[j]?=some (.row 1 [.p (.int .i64 e0)]):=λx=>by rw[eo hij];exact hj
 simp only[ol,iS,hi,hZ,gd,gj,RC,aL,nn,bC,go_sem,simprocAttr]
theorem tV{rs}{R}{T}{i j}{a b}{q n}{e0}{h}(hi:h[i]?=some (.row 3 [.agg [.p a,.p b,.slice q n 0 n]]))(hj:h[j]?=some (.row 1 [.p (.int .i64 e0)]))(hij:i≠j)
  (k:cq TP rs R T [] .ret ((h.set i (.row 3 [.p nn])).set j (.row 1 [.p (.int .i64 6)]))) :
  cq TP rs R T [.fn 255 [.ptr i 1 0 0,.ptr j 1 0 0]] (.pan hZ) h:=by
 rw[kK];refine(VQ hi hj hij).mono λr u h' hr=>?_;obtain⟨rfl,rfl,rfl⟩:=hr;exact k
theorem Ti{i j}{h}:j3 TP 255 [.ptr i 1 0 0,.ptr j 1 0 0] .ret h (λr u h'=>r=.ret (.p (.tuple []))/\u=.ret/\h'=h):=by
 refine fY (eg (by kernel_rfl) rfl Lk) rfl ?_;simp only[ol,iS,go_sem,simprocAttr]
theorem GF{rs}{R}{T}{i j}{h}(k:cq TP rs R T [] .ret h):cq TP rs R T [.fn 255 [.ptr i 1 0 0,.ptr j 1 0 0]] .ret h:=by
 rw[kK];refine Ti.mono λr u h' hr=>?_;obtain⟨rfl,rfl,rfl⟩:=hr;exact k
theorem XX(k:HrKind)(w0 w1 w2):af TP 257 [k.pv,.ptr 1 [bE [w0,w1,w2]] 0 0] (.bool (k.name==bs w1)):=by
 refine aa (ah Tryz.func257 rfl (by kernel_rfl)) rfl ?_;simp only[bE,bL,go_sem,simprocAttr]
def dL (t:HrTest):PV:=.agg [.int .i64 t.kind,.int .i64 t.error,match t.marks with|[]=>.nilslice|m::ms=>.slice 2 ((m::ms).map HrMark.pv) false]
def zE (k e:Int) (ms:List HrMark):AObj:=match ms with|[]=>.row 3 [.p (.agg [.int .i64 k,.int .i64 e,.nilslice])]|m::r=>.row 3 [.agg [.p (.int .i64 k),.p (.int .i64 e),.slice 9 (m::r).length 0 (m::r).length]]
def vJ (ms:List HrMark):Heap:=match ms with|[]=>[]|m::r=>[.row 2 ((m::r).map e8)]
def kT (s:HrShop) (ws:List (List UInt8)) (k e:Int) (d o:AObj) (x:List UInt8) (ms:List HrMark):Heap:=
 [.row 3 [.p s.pv],zE k e ms,.row 1 [.p (.int .i64 0)],.row 1 [.p (bE ws)],.row 1 [.p (.str (bs x))],.row 1 [.p (.str (bs [10]))],.row 1 [.p (.int .i64 0)],d,o]++vJ ms
set_option maxHeartbeats 4000000 in
theorem Kc(s)(all):af TP 197 [s.pv,.str (bs all)] (.tuple [dL (aU s all).1,.int .i64 (aU s all).2]):=by
 refine dg (eg (by kernel_rfl) rfl Xp) rfl ?_;simp only[go_sem,simprocAttr];refine ae (af.argless (args':=[s.pv,.nilslice]) (mA s [] false (by simp)) ⟨.inl rfl,.inr ⟨rfl,3,rfl⟩,trivial⟩) rfl ?_;simp only[go_sem,simprocAttr];have hop:bS s []=(hrCheck s).2.2:=by
  unfold bS;split
  .rename_i h;rw[h];rfl
  .rfl
 cases h0:(bS s [] != 0)
 rotate_left
 .have h0':¬bS s []=0:=by simpa using h0
  have hsp:aU s all=(dC,bS s []):=by rw[aU,if_neg h0']
  rw[hsp];simp only[ye,aL,dL,dC,go_sem,simprocAttr]
 have h0':bS s []=0:=by simpa using h0
 have hck:(hrCheck s).2.2=0:=by rw[<-hop,h0']
 have hkk:=kY hck;have hsz:((bs all).size:Int)=(all.length:Int):=by rw[ao]
 simp only[hsz,go_sem,simprocAttr];cases h3:decide ((300:Int)<(all.length:Int));rotate_left
 .have h3':300<all.length:=by simp at h3;omega
  have hsp:aU s all=(dC,3):=by rw[aU,if_pos h0',if_pos h3']
  rw[hsp];simp only[dL,dC,h0',go_sem,simprocAttr]
 have h3':¬300<all.length:=by simp at h3;omega
 have hsp:aU s all=(match oq s all with|none=>(dC,6)|some t=>if oO s all t=true then(t,0) else(dC,6)):=by rw[aU,if_pos h0',if_neg h3']
 rw[hsp];have c10:(⟨#[10]⟩:ByteArray)=bs [10]:=rfl;have c32:(⟨#[32]⟩:ByteArray)=bs [32]:=rfl;simp only[c10,h0',go_sem,simprocAttr];refine ae (uC all 10 (by omega)) rfl ?_;simp only[c32,go_sem,simprocAttr];have hcl:=qZ 10 all;refine ae (D6 (aK 10 all).1 32 (by omega)) rfl ?_;have hws:aP 32 (aK 10 all).1=qf all:=rfl;rw[hws];simp only[bE,go_sem,simprocAttr];refine pS (λhb=>?_) (λhb=>?_);rotate_left
 .have hpn:oq s all=none:=by
   unfold oq;split
   .rename_i w0 w1 w2 hw;rw[hw]at hb;cases hb
   .rfl
  rw[hpn];simp only[go_sem,simprocAttr];refine tU rfl rfl (by decide) ?_;simp only[nn,dL,dC,go_sem,simprocAttr]
 obtain⟨w0,w1,w2,hw⟩:∃w0 w1 w2,qf all=[w0,w1,w2]:=by
  have hl0:((qf all).length:Int)=3:=by simpa using hb
  have hl:(qf all).length=3:=by omega
  match h:qf all,hl with
  |[a,b,c],_=>exact⟨a,b,c,rfl⟩
 have hpar:oq s all=(match jR w2 with|none=>none|some e=>(eH [] (aP 10 (vk all))).map λms=>⟨rS s.kinds (bs w1),e,ms⟩):=by
  rw[oq,hw]
 rw[hpar,hw];simp only[bL,ck,go_sem,simprocAttr];refine bf (qb (fv:=.func (.func 257) [] [.ptr 1 [bE [w0,w1,w2]] 0 0]) s.kinds (λk=>k.name==bs w1) false 4 rfl (by omega) λk _=>⟨_,_,_,rfl,XX k w0 w1 w2⟩) ?_ (.int _ _) ?_
 .simp only[bE,bL,ck,go_sem,simprocAttr]
 have hix:aA (λk=>k.name==bs w1) s.kinds 0=rS s.kinds (bs w1):=rfl;rw[hix];have hwl:w2.length<=all.length:=lH (wQ 32 (aK 10 all).1 w2 (by rw[hws,hw];simp)) hcl;simp only[go_sem,simprocAttr]
 cases hnu:jR w2 with
 |none=>
  refine cz (oN (by omega) hnu _) (λv h hr=>by cases hr.1) (λv h hr=>?_);obtain⟨hr,rfl⟩:=hr;cases hr;simp only[go_sem,simprocAttr];refine tU rfl rfl (by decide) ?_
  simp only[nn,dL,dC,go_sem,simprocAttr]
 |some e=>
  refine ae (uD (by omega) hnu) rfl ?_;simp only[c10,go_sem,simprocAttr];refine ae (IT ((aK 10 all).2.getD []) 10 (by have:=sI 10 all;omega)) rfl ?_;have hrs:pV 10 ((aK 10 all).2.getD [])=vk all:=rfl;rw[hrs];have hrl:(vk all).length<=300:=by
   have h1:=sI 10 all;have h2:=MG 10 ((aK 10 all).2.getD []);rw[hrs]at h2;omega
  generalize rS s.kinds (bs w1)=kd;generalize vk all=rest at hrl;simp only[c10,go_sem,simprocAttr];refine cJ (NY rest 10 _) ?_;simp only[go_sem,simprocAttr];have hT1:∀x ms o,(kT s [w0,w1,w2] kd e .dblock o x ms)[8]?=some o:=λx ms o=>by cases ms<;>rfl
  refine HP (f:=320) (args:=[.ref .yl 8,.ptr 5 1 0 0,.ptr 4 1 0 0,.ptr 6 1 0 0])
   (R:=λr h=>(r=.ret (.p (.tuple []))/\∃x ms o,eH [] (aP 10 rest)=some ms/\h=kT s [w0,w1,w2] kd e .dblock o x ms)\/∃v,r=.panic v/\v=hZ/\eH [] (aP 10 rest)=none/\∃x ms o,h=kT s [w0,w1,w2] kd e .dblock o x ms)
   rfl (by simp only[go_sem,simprocAttr]) bI (by kernel_rfl) (by kernel_rfl) (by kernel_rfl) (λoR oB oD hround=>?_) (λv h hr=>?_)
  rotate_left
  .rcases hr with⟨hr,_⟩|⟨v',hr,rfl,hnone,x,ms,o,rfl⟩
   .cases hr
   cases hr;rw[hnone]
   cases ms with
   |nil=>
    simp only[kT,zE,vJ,cb,go_sem,simprocAttr];refine tU rfl rfl (by decide) ?_
    simp only[nn,dL,dC,go_sem,simprocAttr]
   |cons m ms=>
    simp only[kT,zE,vJ,cb,go_sem,simprocAttr];refine tV rfl rfl (by decide) ?_;simp only[nn,dL,dC,go_sem,simprocAttr]
  refine(Vq rest 10 (by omega) 8 4 5 6 _ (λdone x h=>∃ms,eH [] done=some ms/\h=kT s [w0,w1,w2] kd e .dblock oR x ms) (λdone x h=>∃ms,eH [] done=some ms/\h=kT s [w0,w1,w2] kd e .dblock oR x ms)
   (λv h=>v=hZ/\eH [] (aP 10 rest)=none/\∃x ms o,h=kT s [w0,w1,w2] kd e .dblock o x ms) ?_ ?_ ?_ ?_ ?_).mono ?_
  .rintro done x h ⟨ms,_,rfl⟩
   cases ms<;>exact⟨rfl,rfl,rfl⟩
  .rintro done x h ⟨ms,_,rfl⟩
   cases ms<;>exact⟨rfl,rfl,rfl⟩
  .rintro done x h hsp ⟨ms,hms,rfl⟩
   have hpl:(aK 10 x).1.length<=300:=by
    have:=wQ 10 rest (aK 10 x).1 (by rw[hsp,dr,mh];exact .inr (by simp));omega
   obtain⟨more,hmore⟩:∃more,aP 10 x=(aK 10 x).1::more:=⟨_,mh 10 x⟩
   rw[hmore]at hsp;generalize (aK 10 x).1=p at hpl hmore hsp;have hrows:eH [] (aP 10 rest)=(match dS p with|none=>none|some m=>eH (ms++[m]) more):=by
    rw[hsp,qP,hms,gp,eH]
   have hnext:∀m,dS p=some m->eH [] (done++[p])=some (ms++[m]):=λm hm=>by
    rw[qP,hms,gp,eH,hm];rfl
   have hc1:=qZ 32 p;have hc2:=sI 32 p;refine hround _ _ _ rfl (hT1 _ _ _) ?_;clear hround;have hml:ms.length<=301:=by
    have h1:=ru _ _ _ hms;have h2:=qk 10 rest;have h3:=congrArg List.length hsp;simp at h1 h3;omega
   cases ms with
   |nil=>
    have hrm:(1:Nat)<=aw:=by simp[aw]
    simp only[kT,zE,vJ,c32,go_sem,simprocAttr];refine ae (uC p 32 (by omega)) rfl ?_;simp only[go_sem,simprocAttr];refine pS (λhb=>?_) (λhb=>?_);rotate_left
    .have hmr:dS p=none:=by
      unfold dS
      cases hq:(aK 32 p).2 with
      |none=>rfl
      |some b=>rw[hq]at hb;cases hb
     rw[hmr]at hrows;simp only[go_sem,simprocAttr];exact⟨rfl,_,rfl,rfl,hrows,x,[],oB,rfl⟩
    obtain⟨b,hb'⟩:=j6.1 hb;rw[hb',je]at hc2 |-;simp only[ye,aL,go_sem,simprocAttr]
    cases hn1:jR (aK 32 p).1 with
    |none=>
     have hmr:dS p=none:=by simp only[dS,hb',hn1]
     rw[hmr]at hrows;refine tH (oN (by omega) hn1 _) λT=>?_;simp only[go_sem,simprocAttr]
     exact⟨rfl,_,rfl,rfl,hrows,x,[],oB,rfl⟩
    |some a=>
     refine pT (uD (by omega) hn1) rfl ?_;simp only[ye,go_sem,simprocAttr]
     cases hn2:jR b with
     |none=>
      have hmr:dS p=none:=by simp only[dS,hb',hn1,hn2]
      rw[hmr]at hrows;refine tH (oN (by omega) hn2 _) λT=>?_;simp only[go_sem,simprocAttr]
      exact⟨rfl,_,rfl,rfl,hrows,x,[],oB,rfl⟩
     |some w=>
      have hmr:dS p=some ⟨a,w⟩:=by simp only[dS,hb',hn1,hn2]
      have hnx:=hnext _ hmr;refine pT (uD (by omega) hn2) rfl ?_;simp only[ye,hrm,bn,go_sem,simprocAttr]
      exact⟨rfl,.inl ⟨_,hnx,rfl⟩⟩
   |cons m0 ms=>
    simp only[cu]at hml;have hrm:ms.length+1+1<=aw:=by simp[aw];omega
    simp only[kT,zE,vJ,c32,go_sem,simprocAttr];refine ae (uC p 32 (by omega)) rfl ?_;simp only[go_sem,simprocAttr];refine pS (λhb=>?_) (λhb=>?_);rotate_left
    .have hmr:dS p=none:=by
      unfold dS
      cases hq:(aK 32 p).2 with
      |none=>rfl
      |some b=>rw[hq]at hb;cases hb
     rw[hmr]at hrows;simp only[go_sem,simprocAttr];exact⟨rfl,_,rfl,rfl,hrows,x,m0::ms,oB,rfl⟩
    obtain⟨b,hb'⟩:=j6.1 hb;rw[hb',je]at hc2 |-;simp only[ye,aL,go_sem,simprocAttr]
    cases hn1:jR (aK 32 p).1 with
    |none=>
     have hmr:dS p=none:=by simp only[dS,hb',hn1]
     rw[hmr]at hrows;refine tH (oN (by omega) hn1 _) λT=>?_;simp only[go_sem,simprocAttr]
     exact⟨rfl,_,rfl,rfl,hrows,x,m0::ms,oB,rfl⟩
    |some a=>
     refine pT (uD (by omega) hn1) rfl ?_;simp only[ye,go_sem,simprocAttr]
     cases hn2:jR b with
     |none=>
      have hmr:dS p=none:=by simp only[dS,hb',hn1,hn2]
      rw[hmr]at hrows;refine tH (oN (by omega) hn2 _) λT=>?_;simp only[go_sem,simprocAttr]
      exact⟨rfl,_,rfl,rfl,hrows,x,m0::ms,oB,rfl⟩
     |some w=>
      have hmr:dS p=some ⟨a,w⟩:=by simp only[dS,hb',hn1,hn2]
      have hnx:=hnext _ hmr;refine pT (uD (by omega) hn2) rfl ?_;simp only[ye,hrm,bn,go_sem,simprocAttr];refine⟨rfl,.inl ⟨_,hnx,?_⟩⟩;simp[kT,zE,vJ,HrMark.pv,e8,HrShop.pv]
  .rintro done x y h ⟨ms,hms,rfl⟩ hc
   refine⟨ms,hms,?_⟩;cases ms<;>rfl
  .exact⟨[],rfl,rfl⟩
  .rintro r h (⟨rfl,x,hx,ms,hms,rfl⟩|⟨v,rfl,rfl,hnone,hh⟩)
   rotate_left
   .exact⟨.inr ⟨_,rfl,rfl,hnone,hh⟩,λv hv=>by cases hv⟩
   refine⟨.inl ⟨rfl,x,ms,oR,hms,rfl⟩,λv hv=>.inl ⟨hT1 _ _ _,?_⟩⟩;rw[hms];clear hround;have hml:ms.length<=301:=by
    have h1:=ru _ _ _ hms;have h2:=qk 10 rest;simp at h1;omega
   have hne:ms≠[]:=by
    rintro rfl
    have h1:=ru _ _ _ hms;have h2:=oa 10 rest;simp at h1;omega
   cases ms with
   |nil=>exact absurd rfl hne
   |cons m0 ms=>
   have hfz:∀n h,aV (cm n h) (ms.map e8)=some (ms.map HrMark.pv):=λn h=>dD (eJ n h) HrMark.pv ms;have htk:List.take (ms.length+1) (.agg [.int .i64 m0.minute,.int .i64 m0.weight]::List.map HrMark.pv ms)=.agg [.int .i64 m0.minute,.int .i64 m0.weight]::List.map HrMark.pv ms:=eD (by simp);simp only[kT,zE,vJ,go_sem,simprocAttr];refine bf (D8 s ⟨kd,e,m0::ms⟩ (by omega)) ?_ (.int _ _) ?_
   .simp only[hfz,htk,go_sem,simprocAttr]
   simp only[go_sem,simprocAttr];cases hte:(bV s.kinds.length ⟨kd,e,m0::ms⟩==0)
   .have hg:oO s all ⟨kd,e,m0::ms⟩=false:=by rw[oO,hte];rfl
    simp only[go_sem,simprocAttr];refine pS (λhb=>by cases hb) (λ_=>?_);simp only[cb,go_sem,simprocAttr];refine tV rfl rfl (by decide) ?_;simp only[nn,dL,dC,hg,go_sem,simprocAttr]
   have hte':bV s.kinds.length ⟨kd,e,m0::ms⟩=0:=by simpa using hte
   simp only[go_sem,simprocAttr];refine bf (XU s ⟨kd,e,m0::ms⟩ hck hte') ?_ (.str _) ?_
   .simp only[hfz,htk,go_sem,simprocAttr]
   simp only[cc,go_sem,simprocAttr];have hg:oO s all ⟨kd,e,m0::ms⟩=(jY s ⟨kd,e,m0::ms⟩==all):=by rw[oO,hte];rfl
   refine pS (λhb=>?_) (λhb=>?_)
   .rw[hb]at hg;simp only[cb,go_sem,simprocAttr];refine GF ?_;simp only[hfz,htk,dL,hg,go_sem,simprocAttr]
   .rw[hb]at hg;simp only[cb,go_sem,simprocAttr];refine tV rfl rfl (by decide) ?_;simp only[nn,dL,dC,hg,go_sem,simprocAttr]
def Gq (l:List UInt8):Int:=if ar (l.length:Int) 1 8=true then(match Lib.decFrom 0 l with|some n=>(n:Int)|none=>-1) else -1
def BB (a b:HrTest):Bool:=(a.kind==b.kind)&&(a.error==b.error)&&decide (a.marks=b.marks)
theorem Tc(a b):BB a b=true↔a=b:=by
 cases a;cases b;simp[BB,and_assoc]
theorem SR(x y:HrMark):((x.minute==y.minute)&&(x.weight==y.weight))=decide (x=y):=by
 cases x;cases y;rw[nh];simp
theorem We(a b)(ha:a.marks.length<1000000000):af TP 27 [a.pv,b.pv] (.bool (BB a b)):=by
 refine aa (ah Tryz.func27 rfl (by kernel_rfl)) rfl ?_;simp only[go_sem,simprocAttr];cases h1:(a.kind != b.kind)
 rotate_left
 .have h1':(a.kind==b.kind)=false:=by simpa[bne]using h1
  simp only[BB,h1',go_sem,simprocAttr]
 have h1':(a.kind==b.kind)=true:=by simpa[bne]using h1
 simp only[go_sem,simprocAttr];cases h2:(a.error != b.error)
 rotate_left
 .have h2':(a.error==b.error)=false:=by simpa[bne]using h2
  simp only[BB,h1',h2',go_sem,simprocAttr]
 have h2':(a.error==b.error)=true:=by simpa[bne]using h2
 simp only[go_sem,simprocAttr];cases h3:((a.marks.length:Int) != (b.marks.length:Int))
 rotate_left
 .have h3':¬a.marks=b.marks:=by
   intro h;rw[h]at h3;simp at h3
  simp only[BB,h1',h2',h3',decide_false,go_sem,simprocAttr]
 have h3':a.marks.length=b.marks.length:=by
  have:((a.marks.length:Int))=(b.marks.length:Int):=by simpa using h3
  omega
 have hsp:BB a b=decide (a.marks=b.marks):=by rw[BB,h1',h2'];rfl
 rw[hsp];simp only[go_sem,simprocAttr]
 refine gH [2,3] (σ:=List HrMark×List HrMark×List HrMark) (λq=>a.marks=q.1++q.2.1/\b.marks=q.1++q.2.2) (λq=>q.2.1.length)
  (λq=>[(5,.p (.int .i64 q.1.length))]) (λ_=>[.row 3 [.p a.pv],.row 3 [.p b.pv]]) ([],a.marks,b.marks) ⟨rfl,rfl⟩ ?_ ?_
 .simp only[go_sem,simprocAttr]
 rintro⟨done,ra,rb⟩ ⟨e1,e2⟩
 dsimp only at e1 e2;have hl1:=congrArg List.length e1;have hl2:=congrArg List.length e2;simp only[aB]at hl1 hl2
 cases ra with
 |nil=>
  have hrb:rb=[]:=by
   have:rb.length=0:=by simp at hl1;omega
   exact yi.1 this
  have hlt:¬((done.length:Int)<(a.marks.length:Int)):=by rw[e1];simp
  have he:a.marks=b.marks:=by rw[e1,e2,hrb]
  have hltb:¬((done.length:Int)<(b.marks.length:Int)):=by rw[e2,hrb];simp
  rw[show decide (a.marks=b.marks)=true by simpa using he]
  simp only[hlt,decide_false,go_sem,simprocAttr]
 |cons x ra=>
  cases rb with
  |nil=>simp at hl1 hl2;omega
  |cons y rb=>
   obtain⟨hx,hlt⟩:=d8 e1;obtain⟨hy,hlt2⟩:=d8 e2;have hnx:IntKind.i64.wrap ((done.length:Int)+1)=(((done++[x]).length:Nat):Int):=bj (by omega) (by simp[aw];omega) (by simp);simp only[hlt,decide_true,hx,hy,hlt2,SR,go_sem,simprocAttr];cases h4:decide (x=y)
   .have h4':¬x=y:=by simpa using h4
    have he:¬a.marks=b.marks:=by
     rw[e1,e2];intro h;have:=List.append_cancel_left h;exact h4' (Fs this).1
    rw[show decide (a.marks=b.marks)=false by simpa using he];simp only[go_sem,simprocAttr]
   .have h4':x=y:=by simpa using h4
    subst h4';simp only[go_sem,simprocAttr];refine bU (done++[x],ra,rb) ⟨by rw[e1];simp,by rw[e2];simp⟩ (j4 _) ?_;simp only[hnx,go_sem,simprocAttr]
theorem af.arglessD{P}{f}{args args'}{v}(hc:af P f args v)(h:B2 args' args):af P f args' v:=by
 intro M0 w cargs hM hg ha;obtain⟨h1,h2⟩:=h.get;refine hc M0 w cargs hM hg ⟨by rw[ha.1,h1],λi c hi=>?_⟩;obtain⟨q,hq⟩:∃q,args'[i]?=some q:=⟨_,dc (by rw[h1];exact(aF.1 hi).1)⟩
 exact(h2 i q c hq hi).rep (ha.2 i q hq)
theorem SM(k e):PL (.agg [.int .i64 k,.int .i64 e,.nilslice]) (HrTest.pv ⟨k,e,[]⟩):=.aggL rfl ⟨.refl _,.refl _,.nil 2,trivial⟩
def nQ (nm:ByteArray):List HrKind->Nat->Int->Int
 |[],_,acc=>acc
 |k::r,i,acc=>nQ nm r (i+1) (if k.name==nm then(i:Int) else acc)
def AG (s:HrShop) (first:Bool) (t:HrTest) (p:List UInt8):HrTest:=
 match first,aP 32 p with
 |true,[_,w1,w2]=>⟨nQ (bs w1) s.kinds 0 t.kind,Gq w2,t.marks⟩
 |false,[w0,w1]=>⟨t.kind,t.error,t.marks++[⟨Gq w0,Gq w1⟩]⟩
 |_,_=>t
def ym (s:HrShop):Bool->HrTest->List (List UInt8)->HrTest
 |_,t,[]=>t
 |_,t,[_]=>t
 |f,t,p::q::r=>ym s false (AG s f t p) (q::r)
def xf (s:HrShop) (all:List UInt8):HrTest:=ym s true ⟨-1,0,[]⟩ (aP 10 all)
def yz (s:HrShop) (all:List UInt8):HrTest×Int:=
 if(hrCheck s).2.2=0 then
  if 300<all.length then(dC,3) else if oO s all (xf s all)=true then(xf s all,0) else(dC,6)
 else(dC,(hrCheck s).2.2)
namespace Wk
theorem BI(lo hi n):af TP 248 [.int .i64 n,.ptr 1 [.int .i64 lo] 0 0,.ptr 1 [.int .i64 hi] 0 0] (.bool (!ar n lo hi)):=by
 refine aa (ah Tryz.func248 rfl (by kernel_rfl)) rfl ?_;simp only[go_sem,simprocAttr];refine aT (λhb=>?_) (λhb=>?_)<;>simp only[hb,go_sem,simprocAttr]<;>simp_all [ar];rw[<-decide_not];congr 1;simp
theorem fi(lo hi)(l:List Int)(b)(hl:l.length<1000000000):af TP 190 [.int .i64 lo,.int .i64 hi,.slice 1 (l.map aI) b] (.bool (l.any λn=>!ar n lo hi)):=by
 refine aa (ah Tryz.func190 rfl (by kernel_rfl)) rfl ?_;simp only[go_sem,simprocAttr];refine bf (ko (fv:=.func (.func 248) [] [.ptr 1 [.int .i64 lo] 0 0,.ptr 1 [.int .i64 hi] 0 0]) l (λn=>!ar n lo hi) b 1 rfl hl λn _=>⟨_,_,_,rfl,BI lo hi n⟩) ?_ (.bool _) ?_
 .simp only[go_sem,simprocAttr]
 .simp only[go_sem,simprocAttr]
theorem QO(s:Span):af TP 249 [s.pv] (.bool (decide (s.hi<s.lo))):=by
 refine aa (ah Tryz.func249 rfl (by kernel_rfl)) rfl ?_;simp only[go_sem,simprocAttr]
theorem yI(l:List Span)(b)(hl:l.length<1000000000):af TP 191 [.slice 2 (l.map Span.pv) b] (.bool (l.any λs=>decide (s.hi<s.lo))):=by
 refine aa (ah Tryz.func191 rfl (by kernel_rfl)) rfl ?_;simp only[go_sem,simprocAttr];refine ae (pM (fv:=.func (.func 249) [] []) l (λs=>decide (s.hi<s.lo)) b 2 rfl hl λs _=>⟨_,_,_,rfl,QO s⟩) rfl ?_;simp only[go_sem,simprocAttr]
theorem xQ(x:Wick):af TP 193 [x.pv] (.str x.name):=by
 refine aa (ah Tryz.func193 rfl (by kernel_rfl)) rfl ?_;simp only[go_sem,simprocAttr]
theorem Hh(s)(x:Wick):af TP 251 [x.pv,.ptr 1 [.func (.func 193) [] []] 0 0,.ptr 1 [.str s] 0 0] (.bool (x.name==s)):=by
 refine aa (ah Tryz.func251 rfl (by kernel_rfl)) rfl ?_;simp only[go_sem,simprocAttr];refine ax (xQ x) rfl ?_;simp only[go_sem,simprocAttr]
theorem CP(l)(x)(b)(hl:l.length<1000000):af TP 192 [.slice 4 ((l++[x]).map Wick.pv) b,.func (.func 193) [] []] (.int .i64 (am (l.map (·.name)) x.name)):=by
 have hw:IntKind.i64.wrap ((((l++[x]).length:Nat):Int)-1)=((l.length:Nat):Int):=by
  rw[cA (by simp<;>omega) (by simp[aw]<;>omega)];simp
 have hx:(l++[x])[l.length]?=some x:=by simp
 have hlt:((l.length:Nat):Int)<(((l++[x]).length:Nat):Int):=by simp<;>omega
 have hle:((l.length:Nat):Int)<=(((l++[x]).length:Nat):Int):=by omega
 have htk:((l++[x]).map Wick.pv).take l.length=l.map Wick.pv:=by rw[cj,gk (by simp)]
 have hfl:(l.length==(l++[x]).length)=false:=by simp
 refine aa (ah Tryz.func192 rfl (by kernel_rfl)) rfl ?_;simp only[hw,hx,hlt,go_sem,simprocAttr];refine ax (xQ x) rfl ?_;simp only[go_sem,simprocAttr];refine ae (jU x.name) rfl ?_;simp only[go_sem,simprocAttr];cases hn:nameOk x.name
 .simp only[go_sem,simprocAttr];simp[am,hn]
 .simp only[hle,Ca,je,htk,hfl,go_sem,simprocAttr];refine bf (CX (fv:=.func (.func 251) [] [.ptr 1 [.func (.func 193) [] []] 0 0,.ptr 1 [.str x.name] 0 0]) l (λy=>y.name==x.name) false 4 rfl (by omega) λy _=>⟨_,_,_,rfl,Hh x.name y⟩) ?_ (.bool _) ?_
  .simp only[go_sem,simprocAttr]
  simp only[go_sem,simprocAttr];refine aT (λhb=>?_) (λhb=>?_)<;>simp only[hb,go_sem,simprocAttr]
  .simp only[am,hn,ny,j5,hb,if_true]
  .simp only[am,hn,ny,j5,hb,if_true,jc,if_false]
theorem xP(x:Wax):af TP 195 [x.pv] (.str x.name):=by
 refine aa (ah Tryz.func195 rfl (by kernel_rfl)) rfl ?_;simp only[go_sem,simprocAttr]
theorem Hg(s)(x:Wax):af TP 253 [x.pv,.ptr 1 [.func (.func 195) [] []] 0 0,.ptr 1 [.str s] 0 0] (.bool (x.name==s)):=by
 refine aa (ah Tryz.func253 rfl (by kernel_rfl)) rfl ?_;simp only[go_sem,simprocAttr];refine ax (xP x) rfl ?_;simp only[go_sem,simprocAttr]
theorem CO(l)(x)(b)(hl:l.length<1000000):af TP 194 [.slice 8 ((l++[x]).map Wax.pv) b,.func (.func 195) [] []] (.int .i64 (am (l.map (·.name)) x.name)):=by
 have hw:IntKind.i64.wrap ((((l++[x]).length:Nat):Int)-1)=((l.length:Nat):Int):=by
  rw[cA (by simp<;>omega) (by simp[aw]<;>omega)];simp
 have hx:(l++[x])[l.length]?=some x:=by simp
 have hlt:((l.length:Nat):Int)<(((l++[x]).length:Nat):Int):=by simp<;>omega
 have hle:((l.length:Nat):Int)<=(((l++[x]).length:Nat):Int):=by omega
 have htk:((l++[x]).map Wax.pv).take l.length=l.map Wax.pv:=by rw[cj,gk (by simp)]
 have hfl:(l.length==(l++[x]).length)=false:=by simp
 refine aa (ah Tryz.func194 rfl (by kernel_rfl)) rfl ?_;simp only[hw,hx,hlt,go_sem,simprocAttr];refine ax (xP x) rfl ?_;simp only[go_sem,simprocAttr];refine ae (jU x.name) rfl ?_;simp only[go_sem,simprocAttr];cases hn:nameOk x.name
 .simp only[go_sem,simprocAttr];simp[am,hn]
 .simp only[hle,Ca,je,htk,hfl,go_sem,simprocAttr];refine bf (CW (fv:=.func (.func 253) [] [.ptr 1 [.func (.func 195) [] []] 0 0,.ptr 1 [.str x.name] 0 0]) l (λy=>y.name==x.name) false 8 rfl (by omega) λy _=>⟨_,_,_,rfl,Hg x.name y⟩) ?_ (.bool _) ?_
  .simp only[go_sem,simprocAttr]
  simp only[go_sem,simprocAttr];refine aT (λhb=>?_) (λhb=>?_)<;>simp only[hb,go_sem,simprocAttr]
  .simp only[am,hn,ny,j5,hb,if_true]
  .simp only[am,hn,ny,j5,hb,if_true,jc,if_false]
theorem yD(b)(e)(h):aD TP 189 [.p (.bool b),.p (.int .i64 e)] h (λr h'=>h'=h/\r=if b=true then .ret (.p (.tuple [])) else .panic (.iface 49 (.int .i64 e))):=by
 refine aC (ah Tryz.func189 rfl (by kernel_rfl)) rfl ?_;simp only[go_sem,simprocAttr];cases b
 .simp only[go_sem,simprocAttr]
 .simp only[go_sem,simprocAttr]
theorem az{H}{Q}{ops}{rest}{dst}{A}{b}{e}(h1:b=true->@WO ⟨TP,H,ops,rest,Q⟩ (A.put dst (.p (.tuple [])) A.h))
  (h2:b=false->@WQ ⟨Q⟩ (.panic (.iface 49 (.int .i64 e))) A):@WF ⟨TP,H,ops,rest,Q,dst⟩ A 189 [.p (.bool b),.p (.int .i64 e)]:=by
 refine cz (yD b e A.h) (λv h hr=>?_) (λv h hr=>?_)
 .obtain⟨rfl,hr⟩:=hr;cases b
  .cases hr
  .cases hr;exact h1 rfl
 .obtain⟨rfl,hr⟩:=hr;cases b
  .cases hr;exact h2 rfl
  .cases hr
theorem G8{id}{e e0}{h}(hid:h[id]?=some (.row 1 [.p (.int .i64 e0)])):j3 TP 188 [.ptr id 1 0 0] (.pan (.iface 49 (.int .i64 e))) h
  (λr u h'=>r=.ret (.p (.tuple []))/\u=.recd (.iface 49 (.int .i64 e))/\h'=h.set id (.row 1 [.p (.int .i64 e)])):=by
 refine fY (ah Tryz.func188 rfl (by kernel_rfl)) rfl ?_;simp only[ol,iS,hid,go_sem,simprocAttr]
theorem N6{id}{h}:j3 TP 188 [.ptr id 1 0 0] .ret h (λr u h'=>r=.ret (.p (.tuple []))/\u=.ret/\h'=h):=by
 refine fY (ah Tryz.func188 rfl (by kernel_rfl)) rfl ?_;simp only[ol,iS,go_sem,simprocAttr]
theorem dy{rs}{R}{T}{id}{e e0}{h}(hid:h[id]?=some (.row 1 [.p (.int .i64 e0)]))(k:cq TP rs R T [] .ret (h.set id (.row 1 [.p (.int .i64 e)]))) :
  cq TP rs R T [.fn 188 [.ptr id 1 0 0]] (.pan (.iface 49 (.int .i64 e))) h:=by
 rw[kK];refine(G8 hid).mono λr u h' hr=>?_;obtain⟨rfl,rfl,rfl⟩:=hr;exact k
theorem zU{rs}{R}{T}{id}{h}(k:cq TP rs R T [] .ret h):cq TP rs R T [.fn 188 [.ptr id 1 0 0]] .ret h:=by
 rw[kK];refine N6.mono λr u h' hr=>?_;obtain⟨rfl,rfl,rfl⟩:=hr;exact k
def cv (s:Span) (lo hi:Int):Bool:=ar s.lo lo hi&&ar s.hi lo hi
def aR (s:Span):Bool:=decide (s.hi<s.lo)
def ct (before:List ByteArray) (x:Wick):Int:=
 if am before x.name=0 then(if(ar x.threads 1 100&&cv x.pull 1 1000)=true then(if aR x.pull=true then 2 else 0) else 7) else am before x.name
def dK (before:List ByteArray) (x:Wax):Int:=
 if am before x.name=0 then(if(ar x.chill 0 50&&cv x.flow 1 300&&(cv x.rise 1 1000&&cv x.spread 1 2000))=true then(if(aR x.flow||(aR x.rise||aR x.spread))=true then 2 else 0) else 7) else am before x.name
def dP (s:Shop):Option (Int×Int)->Int×Int×Int
 |some (i,e)=>(2,i,e)
 |none=>match firstErr dK (·.name) s.waxes []with|some (i,e)=>(3,i,e)|none=>(0,0,0)
def cp (s:Shop):Int×Int×Int:=
 if(ar s.wicks.length 1 12&&ar s.waxes.length 1 6)=true then
  if(cv s.flame 0 2000&&cv s.pool 0 2000)=true then
   if(aR s.flame||aR s.pool)=true then(1,0,2) else dP s (firstErr ct (·.name) s.wicks [])
  else(1,0,7)
 else(1,0,3)
theorem qJ(s):af TP 131 [s.pv] (al (cp s)):=by
 refine aa (ah Tryz.func131 rfl (by kernel_rfl)) rfl ?_;simp only[go_sem,simprocAttr];refine ae (fi 1 12 [_] true (by simp)) rfl ?_;simp only[cV,bw,cD,md,go_sem,simprocAttr];cases h1:ar s.wicks.length 1 12
 .simp only[go_sem,simprocAttr];refine az (λh=>(by cases h)) λ_=>?_;simp only[go_sem,simprocAttr];refine dy rfl ?_;simp only[al,cp,h1,go_sem,simprocAttr]
 simp only[go_sem,simprocAttr];refine ae (fi 1 6 [_] true (by simp)) rfl ?_;simp only[cV,bw,cD,md,go_sem,simprocAttr];refine az (λh2=>?_) λh2=>?_;rotate_left
 .simp only[go_sem,simprocAttr];refine dy rfl ?_;simp only[al,cp,h1,h2,go_sem,simprocAttr]
 simp only[go_sem,simprocAttr];refine ae (fi 0 2000 [_,_,_,_] true (by simp)) rfl ?_;simp only[cV,bw,cD,<-iZ,md,go_sem,simprocAttr];refine az (λh3=>?_) λh3=>?_;rotate_left
 .simp only[go_sem,simprocAttr];refine dy rfl ?_;have h3':(cv s.flame 0 2000&&cv s.pool 0 2000)=false:=by rw[<-h3];simp[cv,Bool.and_assoc]
  simp only[al,cp,h1,h2,h3',go_sem,simprocAttr]
 have h3':(cv s.flame 0 2000&&cv s.pool 0 2000)=true:=by rw[<-h3];simp[cv,Bool.and_assoc]
 simp only[go_sem,simprocAttr];refine ae (yI [s.flame,s.pool] true (by simp)) rfl ?_;simp only[cV,bw,cD,go_sem,simprocAttr];refine az (λh4=>?_) λh4=>?_;rotate_left
 .simp only[go_sem,simprocAttr];refine dy rfl ?_;have h4':(aR s.flame||aR s.pool)=true:=(by have:=congrArg (!·) h4;simpa only[aR,md,uV]using this)
  simp only[al,cp,h1,h2,h3',h4',go_sem,simprocAttr]
 have h4':(aR s.flame||aR s.pool)=false:=by simpa[aR]using h4
 have hspec:cp s=dP s (firstErr ct (·.name) s.wicks []):=by
  simp[cp,h1,h2,h3',h4']
 rw[hspec];have hlw:s.wicks.length<=12:=by simp[ar]at h1;omega
 have hlx:s.waxes.length<=6:=by simp[ar]at h2;omega
 simp only[go_sem,simprocAttr]
 refine gH [1,2,4,50,51] (σ:=List Wick×List Wick) (λq=>s.wicks=q.1++q.2/\firstErr ct (·.name) s.wicks []=firstErr ct (·.name) q.2 (q.1.map (·.name))) (λq=>q.2.length)
  (λq=>[(52,.p (.int .i64 q.1.length))]) (λ_=>[.row 6 [.p s.pv],.row 1 [.p (.int .i64 0)]]) ([],s.wicks) ⟨rfl,rfl⟩ ?_ ?_
 .simp only[go_sem,simprocAttr]<;>simp
 rintro⟨done,rest⟩ ⟨e1,e2⟩
 dsimp only at e1 e2
 cases rest with
 |cons x r=>
  obtain⟨hx,hlt⟩:=d8 e1;have hln:(done++[x]).length<=s.wicks.length:=by rw[e1];simp
  have hdl:done.length<12:=by simp at hln;omega
  have hnx:IntKind.i64.wrap ((done.length:Int)+1)=(((done++[x]).length:Nat):Int):=bj (by omega) (by simp[aw];omega) (by simp);have hle:(((done++[x]).length:Nat):Int)<=(s.wicks.length:Int):=by omega
  have htk:(s.wicks.map Wick.pv).take (done++[x]).length=(done++[x]).map Wick.pv:=by
   rw[e1,show done++x::r=(done++[x])++r by simp,cj,gk (by simp)]
  have hE:firstErr ct (·.name) s.wicks []=if ct (done.map (·.name)) x=0 then firstErr ct (·.name) r ((done++[x]).map (·.name)) else some ((done.length:Int),ct (done.map (·.name)) x):=by
   rw[e2,firstErr];simp
  have fin:∀e,ct (done.map (·.name)) x=e->e≠0->dP s (firstErr ct (·.name) s.wicks [])=(2,(done.length:Int),e):=by
   intro e he hne;rw[hE,he,if_neg hne];rfl
  simp only[hlt,decide_true,hx,hnx,hle,Ca,je,htk,go_sem,simprocAttr];refine ae (CP done x false (by omega)) rfl ?_;simp only[go_sem,simprocAttr];refine az (λh5=>?_) λh5=>?_;rotate_left
  .simp only[go_sem,simprocAttr];refine dy rfl ?_;have h5':am (done.map (·.name)) x.name≠0:=by simpa using h5
   simp only[al,fin _ (by rw[ct,if_neg h5']) h5',go_sem,simprocAttr]
  have h5':am (done.map (·.name)) x.name=0:=by simpa using h5
  simp only[go_sem,simprocAttr];refine ae (fi 1 100 [_] true (by simp)) rfl ?_;simp only[cV,bw,cD,md,go_sem,simprocAttr];cases h6:ar x.threads 1 100
  .simp only[go_sem,simprocAttr];refine az (λh=>(by cases h)) λ_=>?_;simp only[go_sem,simprocAttr];refine dy rfl ?_;simp only[al,fin 7 (by simp[ct,h5',h6]) (by decide),go_sem,simprocAttr]
  simp only[go_sem,simprocAttr];refine ae (fi 1 1000 [_,_] true (by simp)) rfl ?_;simp only[cV,bw,cD,<-iZ,md,go_sem,simprocAttr];refine az (λh7=>?_) λh7=>?_;rotate_left
  .simp only[go_sem,simprocAttr];refine dy rfl ?_;simp only[al,fin 7 (by simp[ct,h5',h6,cv,h7]) (by decide),go_sem,simprocAttr]
  simp only[go_sem,simprocAttr];refine ae (yI [x.pull] true (by simp)) rfl ?_;simp only[cV,bw,cD,go_sem,simprocAttr];refine az (λh8=>?_) λh8=>?_;rotate_left
  .simp only[go_sem,simprocAttr];refine dy rfl ?_;simp only[al,fin 2 (by simp only[Bool.not_eq_false']at h8;simp[ct,h5',h6,cv,h7,aR,h8]) (by decide),go_sem,simprocAttr]
  simp only[go_sem,simprocAttr];refine bU (done++[x],r) ⟨by simp[e1],?_⟩ (by simp) ?_
  .rw[hE,if_pos];simp only[Fu]at h8;simp[ct,h5',h6,cv,h7,aR,h8]
  .simp only[hnx,h5',go_sem,simprocAttr]
 |nil=>
  have hlt:¬((done.length:Int)<(s.wicks.length:Int)):=by rw[e1];simp
  have hT:dP s (firstErr ct (·.name) s.wicks [])=dP s none:=by rw[e2];rfl
  rw[hT];simp only[hlt,decide_false,go_sem,simprocAttr]
  refine gH [1,2,4,93,94] (σ:=List Wax×List Wax) (λq=>s.waxes=q.1++q.2/\firstErr dK (·.name) s.waxes []=firstErr dK (·.name) q.2 (q.1.map (·.name))) (λq=>q.2.length)
   (λq=>[(95,.p (.int .i64 q.1.length))]) (λ_=>[.row 6 [.p s.pv],.row 1 [.p (.int .i64 0)]]) ([],s.waxes) ⟨rfl,rfl⟩ ?_ ?_
  .simp only[go_sem,simprocAttr]<;>simp
  clear e1 e2 hlt hT
  rintro⟨done,rest⟩ ⟨e1,e2⟩
  dsimp only at e1 e2
  cases rest with
  |cons x r=>
   obtain⟨hx,hlt⟩:=d8 e1;have hln:(done++[x]).length<=s.waxes.length:=by rw[e1];simp
   have hdl:done.length<12:=by simp at hln;omega
   have hnx:IntKind.i64.wrap ((done.length:Int)+1)=(((done++[x]).length:Nat):Int):=bj (by omega) (by simp[aw];omega) (by simp);have hle:(((done++[x]).length:Nat):Int)<=(s.waxes.length:Int):=by omega
   have htk:(s.waxes.map Wax.pv).take (done++[x]).length=(done++[x]).map Wax.pv:=by
    rw[e1,show done++x::r=(done++[x])++r by simp,cj,gk (by simp)]
   have hE:firstErr dK (·.name) s.waxes []=if dK (done.map (·.name)) x=0 then firstErr dK (·.name) r ((done++[x]).map (·.name)) else some ((done.length:Int),dK (done.map (·.name)) x):=by
    rw[e2,firstErr];simp
   have fin:∀e,dK (done.map (·.name)) x=e->e≠0->dP s none=(3,(done.length:Int),e):=by
    intro e he hne;simp only[dP];rw[hE,he,if_neg hne]
   simp only[hlt,decide_true,hx,hnx,hle,Ca,je,htk,go_sem,simprocAttr];refine ae (CO done x false (by omega)) rfl ?_;simp only[go_sem,simprocAttr];refine az (λh5=>?_) λh5=>?_;rotate_left
   .simp only[go_sem,simprocAttr];refine dy rfl ?_;have h5':am (done.map (·.name)) x.name≠0:=by simpa using h5
    simp only[al,fin _ (by rw[dK,if_neg h5']) h5',go_sem,simprocAttr]
   have h5':am (done.map (·.name)) x.name=0:=by simpa using h5
   simp only[go_sem,simprocAttr];refine ae (fi 0 50 [_] true (by simp)) rfl ?_;simp only[cV,bw,cD,md,go_sem,simprocAttr];cases h6:ar x.chill 0 50
   .simp only[go_sem,simprocAttr];refine az (λh=>(by cases h)) λ_=>?_;simp only[go_sem,simprocAttr];refine dy rfl ?_;simp only[al,fin 7 (by simp[dK,h5',h6]) (by decide),go_sem,simprocAttr]
   simp only[go_sem,simprocAttr];refine ae (fi 1 300 [_,_] true (by simp)) rfl ?_;simp only[cV,bw,cD,<-iZ,md,go_sem,simprocAttr];refine az (λh7=>?_) λh7=>?_;rotate_left
   .simp only[go_sem,simprocAttr];refine dy rfl ?_;simp only[al,fin 7 (by simp[dK,h5',h6,cv,h7]) (by decide),go_sem,simprocAttr]
   simp only[go_sem,simprocAttr];refine ae (fi 1 1000 [_,_] true (by simp)) rfl ?_;simp only[cV,bw,cD,<-iZ,md,go_sem,simprocAttr];cases h8:(ar x.rise.lo 1 1000&&ar x.rise.hi 1 1000)
   .simp only[go_sem,simprocAttr];refine az (λh=>(by cases h)) λ_=>?_;simp only[go_sem,simprocAttr];refine dy rfl ?_;simp only[al,fin 7 (by simp[dK,h5',h6,cv,h7,h8]) (by decide),go_sem,simprocAttr]
   simp only[go_sem,simprocAttr];refine ae (fi 1 2000 [_,_] true (by simp)) rfl ?_;simp only[cV,bw,cD,<-iZ,md,go_sem,simprocAttr];refine az (λh9=>?_) λh9=>?_;rotate_left
   .simp only[go_sem,simprocAttr];refine dy rfl ?_;simp only[al,fin 7 (by simp[dK,h5',h6,cv,h7,h8,h9]) (by decide),go_sem,simprocAttr]
   simp only[go_sem,simprocAttr];refine ae (yI [x.flow,x.rise,x.spread] true (by simp)) rfl ?_;simp only[cV,bw,cD,go_sem,simprocAttr];refine az (λh10=>?_) λh10=>?_;rotate_left
   .simp only[go_sem,simprocAttr];refine dy rfl ?_;simp only[al,fin 2 (by simp only[Bool.not_eq_false']at h10;simp only[dK,h5',h6,cv,h7,h8,h9,aR,h10,nY,if_true]) (by decide),go_sem,simprocAttr]
   simp only[go_sem,simprocAttr];refine bU (done++[x],r) ⟨by simp[e1],?_⟩ (by simp) ?_
   .rw[hE,if_pos];simp only[Fu]at h10;simp only[dK,h5',h6,cv,h7,h8,h9,aR,h10,nY,if_true,jc,if_false]
   .simp only[hnx,h5',go_sem,simprocAttr]
  |nil=>
   have hlt:¬((done.length:Int)<(s.waxes.length:Int)):=by rw[e1];simp
   simp only[hlt,decide_false,go_sem,simprocAttr];refine zU ?_;have hT:dP s none=(0,0,0):=by
    simp only[dP];rw[e2];rfl
   simp only[al,hT,go_sem,simprocAttr]
theorem qC(s)(a b):dI s.lo s.hi a b=if cv s a b=true then(if aR s=true then 2 else 0) else 7:=by
 unfold dI cv aR;cases ar s.lo a b<;>cases ar s.hi a b<;>simp
def j9:List (Span×Int×Int)->Int->Int
 |[],w=>w
 |q::r,w=>j9 r (if(dI q.1.lo q.1.hi q.2.1 q.2.2==7||w==0)=true then dI q.1.lo q.1.hi q.2.1 q.2.2 else w)
theorem Og(l)(b1 b2 b3)(hl:l.length<1000000) :
  af TP 99 [.slice 2 (l.map λq=>q.1.pv) b1,.slice 1 (l.map λq=>aI q.2.1) b2,.slice 1 (l.map λq=>aI q.2.2) b3] (.int .i64 (j9 l 0)):=by
 refine aa (ah Tryz.func99 rfl (by kernel_rfl)) rfl ?_;simp only[go_sem,simprocAttr];refine uM [0,1,2] (σ:=List (Span×Int×Int)×List (Span×Int×Int)×Int) (λq=>l=q.1++q.2.1/\j9 l 0=j9 q.2.1 q.2.2) (λq=>q.2.1.length) (λq=>[(7,.p (.int .i64 q.2.2)),(8,.p (.int .i64 q.1.length))]) ([],l,0) ⟨rfl,rfl⟩ ?_ ?_
 .simp only[go_sem,simprocAttr]<;>simp
 rintro⟨done,rest,w⟩ ⟨e1,e2⟩
 dsimp only at e1 e2
 cases rest with
 |nil=>
  have hlt:¬((done.length:Int)<(l.length:Int)):=by rw[e1];simp
  simp only[hlt,decide_false,go_sem,simprocAttr]
  rw[e2];rfl
 |cons x r=>
  obtain⟨hx,hlt⟩:=d8 e1;have hnx:IntKind.i64.wrap ((done.length:Int)+1)=(((done++[x]).length:Nat):Int):=bj (by omega) (by simp[aw];omega) (by simp);rw[j9]at e2;simp only[hlt,decide_true,hx,go_sem,simprocAttr];refine ax (p9 _ _ _ _) rfl ?_;simp only[go_sem,simprocAttr];cases h7:(dI x.1.lo x.1.hi x.2.1 x.2.2==7)
  .simp only[go_sem,simprocAttr];cases h0:(w==0)
   .simp only[go_sem,simprocAttr];refine bU (done++[x],r,w) ⟨by simp[e1],by rw[e2,h7,h0];rfl⟩ (by simp) ?_;simp only[hnx,go_sem,simprocAttr]
   .simp only[go_sem,simprocAttr];refine bU (done++[x],r,dI x.1.lo x.1.hi x.2.1 x.2.2) ⟨by simp[e1],by rw[e2,h7,h0];rfl⟩ (by simp) ?_;simp only[hnx,go_sem,simprocAttr]
  .simp only[go_sem,simprocAttr];refine bU (done++[x],r,dI x.1.lo x.1.hi x.2.1 x.2.2) ⟨by simp[e1],by rw[e2,h7];rfl⟩ (by simp) ?_;simp only[hnx,go_sem,simprocAttr]
theorem UW(a b)(x1 y1 x2 y2):j9 [(a,x1,y1),(b,x2,y2)] 0=if(cv a x1 y1&&cv b x2 y2)=true then(if(aR a||aR b)=true then 2 else 0) else 7:=by
 simp only[j9,qC];cases cv a x1 y1<;>cases cv b x2 y2<;>cases aR a<;>cases aR b<;>rfl
theorem UV(a b c)(x1 y1 x2 y2 x3 y3):j9 [(a,x1,y1),(b,x2,y2),(c,x3,y3)] 0 =
  if(cv a x1 y1&&(cv b x2 y2&&cv c x3 y3))=true then(if(aR a||(aR b||aR c))=true then 2 else 0) else 7:=by
 simp only[j9,qC];cases cv a x1 y1<;>cases cv b x2 y2<;>cases cv c x3 y3<;>cases aR a<;>cases aR b<;>cases aR c<;>rfl
theorem nW(s):af TP 56 [s.pv] (al (cp s)):=by
 refine aa (ah Tryz.func56 rfl (by kernel_rfl)) rfl ?_;simp only[go_sem,simprocAttr];refine ae (L3 _ _ _) rfl ?_;simp only[go_sem,simprocAttr];cases h1:ar s.wicks.length 1 12
 .simp only[al,cp,h1,go_sem,simprocAttr]
 simp only[go_sem,simprocAttr];refine ae (L3 _ _ _) rfl ?_;simp only[go_sem,simprocAttr];cases h2:ar s.waxes.length 1 6
 .simp only[al,cp,h1,h2,go_sem,simprocAttr]
 simp only[go_sem,simprocAttr];refine ae (Og [(s.flame,0,2000),(s.pool,0,2000)] true true true (by simp)) rfl ?_;simp only[go_sem,simprocAttr];rw[UW];cases h3:(cv s.flame 0 2000&&cv s.pool 0 2000)
 .simp only[al,cp,h1,h2,h3,go_sem,simprocAttr]
 cases h4:(aR s.flame||aR s.pool)
 rotate_left
 .simp only[al,cp,h1,h2,h3,h4,go_sem,simprocAttr]
 have hspec:cp s=dP s (firstErr ct (·.name) s.wicks []):=by
  simp[cp,h1,h2,h3,h4]
 rw[hspec];have hlw:s.wicks.length<=12:=by simp[ar]at h1;omega
 have hlx:s.waxes.length<=6:=by simp[ar]at h2;omega
 simp only[go_sem,simprocAttr];refine cl 6 1 (by simp only[go_sem,simprocAttr]) ?_;simp only[go_sem,simprocAttr]
 refine gH [1] (σ:=List Wick×List Wick) (λq=>s.wicks=q.1++q.2/\firstErr ct (·.name) s.wicks []=firstErr ct (·.name) q.2 (q.1.map (·.name))) (λq=>q.2.length)
  (λq=>[(6,.slice 1 q.1.length 0 q.1.length),(7,.p (.int .i64 q.1.length))]) (λq=>[.row 6 [.p s.pv],.row 1 (q.1.map λx=>.p (.str x.name))]) ([],s.wicks) ⟨rfl,rfl⟩ ?_ ?_
 .simp only[go_sem,simprocAttr]<;>simp
 rintro⟨done,rest⟩ ⟨e1,e2⟩
 dsimp only at e1 e2
 cases rest with
 |cons x r=>
  obtain⟨hx,hlt⟩:=d8 e1;have hln:(done++[x]).length<=s.wicks.length:=by rw[e1];simp
  have hdl:done.length<12:=by simp at hln;omega
  have hnx:IntKind.i64.wrap ((done.length:Int)+1)=(((done++[x]).length:Nat):Int):=bj (by omega) (by simp[aw];omega) (by simp);have hrm:done.length+1<=aw:=by simp[aw];omega
  have hE:firstErr ct (·.name) s.wicks []=if ct (done.map (·.name)) x=0 then firstErr ct (·.name) r ((done++[x]).map (·.name)) else some ((done.length:Int),ct (done.map (·.name)) x):=by
   rw[e2,firstErr];simp
  have fin:∀e,ct (done.map (·.name)) x=e->e≠0->dP s (firstErr ct (·.name) s.wicks [])=(2,(done.length:Int),e):=by
   intro e he hne;rw[hE,he,if_neg hne];rfl
  simp only[hlt,decide_true,hx,go_sem,simprocAttr];refine bf (jG x.name (done.map (·.name)) false (done.map λx=>.str x.name) (by simp) (by simp;omega)) ?_ (.int _ _) ?_
  .simp only[go_sem,simprocAttr]
  simp only[hrm,go_sem,simprocAttr];cases h5:(am (done.map (·.name)) x.name==0)
  .have h5':am (done.map (·.name)) x.name≠0:=by simpa using h5
   have h5n:(am (done.map (·.name)) x.name != 0)=true:=by simp[bne,h5]
   simp only[h5,h5n,al,fin _ (by rw[ct,if_neg h5']) h5',go_sem,simprocAttr]
  have h5':am (done.map (·.name)) x.name=0:=by simpa using h5
  simp only[go_sem,simprocAttr];refine ae (L3 _ _ _) rfl ?_;simp only[go_sem,simprocAttr];cases h6:ar x.threads 1 100
  .simp only[al,fin 7 (by simp[ct,h5',h6]) (by decide),go_sem,simprocAttr]
  simp only[h5,go_sem,simprocAttr];refine ae (p9 _ _ _ _) rfl ?_;simp only[go_sem,simprocAttr];have hw:ct (done.map (·.name)) x=dI x.pull.lo x.pull.hi 1 1000:=by rw[qC];simp[ct,h5',h6]
  cases h7:(dI x.pull.lo x.pull.hi 1 1000 != 0)
  .simp only[go_sem,simprocAttr];refine bU (done++[x],r) ⟨by simp[e1],?_⟩ (by simp) ?_
   .rw[hE,if_pos];rw[hw];simpa using h7
   .simp only[hnx,aB,cj,go_sem,simprocAttr]
  .simp only[al,fin _ hw (by simpa using h7),go_sem,simprocAttr]
 |nil=>
  have hlt:¬((done.length:Int)<(s.wicks.length:Int)):=by rw[e1];simp
  have hT:dP s (firstErr ct (·.name) s.wicks [])=dP s none:=by rw[e2];rfl
  have hdone:done=s.wicks:=by rw[e1];simp
  rw[hT];simp only[hlt,decide_false,go_sem,simprocAttr];refine cl 6 1 (by simp only[go_sem,simprocAttr]) ?_;simp only[go_sem,simprocAttr]
  refine gH [1] (σ:=List Wax×List Wax) (λq=>s.waxes=q.1++q.2/\firstErr dK (·.name) s.waxes []=firstErr dK (·.name) q.2 (q.1.map (·.name))) (λq=>q.2.length)
   (λq=>[(6,.slice 2 q.1.length 0 q.1.length),(9,.p (.int .i64 q.1.length))]) (λq=>[.row 6 [.p s.pv],.row 1 (done.map λx=>.p (.str x.name)),.row 1 (q.1.map λx=>.p (.str x.name))]) ([],s.waxes) ⟨rfl,rfl⟩ ?_ ?_
  .simp only[go_sem,simprocAttr]<;>simp
  generalize done=dw;clear e1 e2 hlt hT hdone
  rintro⟨done,rest⟩ ⟨e1,e2⟩
  dsimp only at e1 e2
  cases rest with
  |cons x r=>
   obtain⟨hx,hlt⟩:=d8 e1;have hln:(done++[x]).length<=s.waxes.length:=by rw[e1];simp
   have hdl:done.length<12:=by simp at hln;omega
   have hnx:IntKind.i64.wrap ((done.length:Int)+1)=(((done++[x]).length:Nat):Int):=bj (by omega) (by simp[aw];omega) (by simp);have hrm:done.length+1<=aw:=by simp[aw];omega
   have hE:firstErr dK (·.name) s.waxes []=if dK (done.map (·.name)) x=0 then firstErr dK (·.name) r ((done++[x]).map (·.name)) else some ((done.length:Int),dK (done.map (·.name)) x):=by
    rw[e2,firstErr];simp
   have fin:∀e,dK (done.map (·.name)) x=e->e≠0->dP s none=(3,(done.length:Int),e):=by
    intro e he hne;simp only[dP];rw[hE,he,if_neg hne]
   simp only[hlt,decide_true,hx,go_sem,simprocAttr];refine bf (jG x.name (done.map (·.name)) false (done.map λx=>.str x.name) (by simp) (by simp;omega)) ?_ (.int _ _) ?_
   .simp only[go_sem,simprocAttr]
   simp only[hrm,go_sem,simprocAttr];cases h5:(am (done.map (·.name)) x.name==0)
   .have h5':am (done.map (·.name)) x.name≠0:=by simpa using h5
    have h5n:(am (done.map (·.name)) x.name != 0)=true:=by simp[bne,h5]
    simp only[h5,h5n,al,fin _ (by rw[dK,if_neg h5']) h5',go_sem,simprocAttr]
   have h5':am (done.map (·.name)) x.name=0:=by simpa using h5
   simp only[go_sem,simprocAttr];refine ae (L3 _ _ _) rfl ?_;simp only[go_sem,simprocAttr];cases h6:ar x.chill 0 50
   .simp only[al,fin 7 (by simp[dK,h5',h6]) (by decide),go_sem,simprocAttr]
   simp only[h5,go_sem,simprocAttr];refine ae (Og [(x.flow,1,300),(x.rise,1,1000),(x.spread,1,2000)] true true true (by simp)) rfl ?_;simp only[go_sem,simprocAttr];have hw:dK (done.map (·.name)) x=j9 [(x.flow,1,300),(x.rise,1,1000),(x.spread,1,2000)] 0:=by rw[UV];simp[dK,h5',h6]
   cases h7:(j9 [(x.flow,1,300),(x.rise,1,1000),(x.spread,1,2000)] 0 != 0)
   .simp only[go_sem,simprocAttr];refine bU (done++[x],r) ⟨by simp[e1],?_⟩ (by simp) ?_
    .rw[hE,if_pos];rw[hw];simpa using h7
    .simp only[hnx,aB,cj,go_sem,simprocAttr]
   .simp only[al,fin _ hw (by simpa using h7),go_sem,simprocAttr]
  |nil=>
   have hlt:¬((done.length:Int)<(s.waxes.length:Int)):=by rw[e1];simp
   simp only[hlt,decide_false,go_sem,simprocAttr];have hT:dP s none=(0,0,0):=by
    simp only[dP];rw[e2];rfl
   simp only[al,hT,go_sem,simprocAttr]
end Wk
end Abs
end Go.Proofs.YtoapoaoelpcniaaGreatDoor
