/-
  CONTRACTS: Read: what is read out of a text, and that it ends in ErrForm otherwise. No con
  CONTRACTS: the reference's number, Read, Equal. No conditions but those in the theorems' h
-/
import Derived.Test.YtfafnkpfamgbbaaGreatDoorAbsCutX
import Derived.Test.YtfafnkpfamgbbaaGreatDoorHrUseX
set_option linter.unusedSimpArgs false
set_option linter.unusedVariables false
open Go.Proofs.Tryz renaming prog->TP
namespace Go.Proofs.YtfafnkpfamgbbaaGreatDoor
namespace Abs
set_option maxRecDepth 4000
def cS (p:List UInt8):Option HrMark :=
 match (aF 32 p).2 with
 |none=>none
 |some b=>match iK (aF 32 p).1 with
  |none=>none
  |some m=>match iK b with
   |none=>none
   |some w=>some ⟨m,w⟩
def dF:List HrMark->List (List UInt8)->Option (List HrMark)
 |acc,[]=>some acc
 |acc,p::r=>match cS p with
  |none=>none
  |some m=>dF (acc++[m]) r
def nL (all:List UInt8):List (List UInt8):=aN 32 (aF 10 all).1
def sv (all:List UInt8):List UInt8:=nB 10 ((aF 10 all).2.getD [])
def pq (l:List HrKind) (nm:ByteArray):Int:=au (λk=>k.name==nm) l 0
def mh (s:HrShop) (all:List UInt8):Option HrTest :=
 match nL all with
 |[_,w1,w2]=>match iK w2 with
  |none=>none
  |some e=>(dF [] (aN 10 (sv all))).map λms=>⟨pq s.kinds (bs w1),e,ms⟩
 |_=>none
def cH:HrTest:=⟨0,0,[]⟩
def mF (s:HrShop) (all:List UInt8) (t:HrTest):Bool:=(bL s.kinds.length t==0)&&(iO s t==all)
def aM (s:HrShop) (all:List UInt8):HrTest×Int :=
 if bS s []=0 then
  if 300<all.length then (cH,3)
  else match mh s all with
   |none=>(cH,6)
   |some t=>if mF s all t=true then (t,0) else (cH,6)
 else (cH,bS s [])
theorem oo:∀ (a) (acc) (b),dF acc (a++b)=(dF acc a).bind λms=>dF ms b
 |[],_,_=>rfl
 |p::r,acc,b=>by
  rw [gQ,dF,dF]
  cases cS p with
  |none=>rfl
  |some m=>exact oo r _ b
theorem oT:∀ (a) (acc ms),dF acc a=some ms->ms.length=acc.length+a.length
 |[],_,_,h=>by cases h;rfl
 |p::r,acc,ms,h=>by
  rw [dF] at h
  cases hm:cS p with
  |none=>rw [hm] at h;cases h
  |some m =>
   rw [hm] at h;have:=oT r _ _ h;simp at this |-;omega
theorem Ao (c):∀ (l p),p∈aN c l->p.length<=l.length:=by
 intro l;generalize hn:l.length=n
 induction n using Nat.strongRecOn generalizing l with
 |ind n ih =>
  intro p hp
  cases hc:(aF c l).2 with
  |none =>
   rw [kV hc,dR] at hp
   subst hp;omega
  |some r =>
   rw [kU hc,cz] at hp;have hr:=s5 c l r hc;rcases hp with rfl | hp
   .rcases kH c l with ⟨h,_⟩ | ⟨_,_,_,h⟩
    .rw [h] at hc;cases hc
    .have:=congrArg List.length h;simp at this;omega
   .have:=ih r.length (by omega) r rfl p hp;omega
theorem IP (c) (l):(nB c l).length<=l.length:=by
 unfold nB;split
 .simp
 .exact bR _
theorem pY (c) (l):((aF c l).2.getD []).length<=l.length:=by
 cases hc:(aF c l).2 with
 |none=>simp
 |some r=>have:=s5 c l r hc;simp;omega
theorem oE (c) (l):(aF c l).1.length<=l.length:=by
 rcases kH c l with ⟨_,h,_⟩ | ⟨r,_,_,h⟩
 .rw [h];exact bR _
 .have:=congrArg List.length h;simp at this;omega
def lk:PV:=.agg [.int .i64 0,.int .i64 0,.nilslice]
theorem Rx {i j} {a b c} {e0} {h} (hi:h[i]?=some (.row 3 [.p (.agg [a,b,c])])) (hj:h[j]?=some (.row 1 [.p (.int .i64 e0)])) (hij:i≠j) :
  iT TP 228 [.ptr i 1 0 0,.ptr j 1 0 0] (.pan fW) h
  (λr u h'=>r=.ret (.p (.tuple []))/\u=.recd fW/\h'=(h.set i (.row 3 [.p lk])).set j (.row 1 [.p (.int .i64 6)])):=by
 refine eU (ai (by kernel_rfl) rfl Hv) rfl ?_;have hil:=(ar.1 hi).1;have gd:∀ x,(h.set i x)[i]?=some x:=λx=>gX hil;have gj:∀ x,(h.set i x)[j]?=some (.row 1 [.p (.int .i64 e0)]):=λx=>by rw [cw hij];exact hj
 simp only [mb,gL,hi,fW,gd,gj,M7,bf,lk,bF,go_sem,simprocAttr]
theorem qS {rs} {R} {T} {i j} {a b c} {e0} {h} (hi:h[i]?=some (.row 3 [.p (.agg [a,b,c])])) (hj:h[j]?=some (.row 1 [.p (.int .i64 e0)])) (hij:i≠j)
  (k:bU TP rs R T [] .ret ((h.set i (.row 3 [.p lk])).set j (.row 1 [.p (.int .i64 6)]))) :
  bU TP rs R T [.fn 228 [.ptr i 1 0 0,.ptr j 1 0 0]] (.pan fW) h:=by
 rw [jq];refine (Rx hi hj hij).mono λr u h' hr=>?_;obtain ⟨rfl,rfl,rfl⟩:=hr;exact k
theorem Ry {i j} {a b} {q n} {e0} {h} (hi:h[i]?=some (.row 3 [.agg [.p a,.p b,.slice q n 0 n]])) (hj:h[j]?=some (.row 1 [.p (.int .i64 e0)])) (hij:i≠j) :
  iT TP 228 [.ptr i 1 0 0,.ptr j 1 0 0] (.pan fW) h
  (λr u h'=>r=.ret (.p (.tuple []))/\u=.recd fW/\h'=(h.set i (.row 3 [.p lk])).set j (.row 1 [.p (.int .i64 6)])):=by
 refine eU (ai (by kernel_rfl) rfl Hv) rfl ?_;have hil:=(ar.1 hi).1;have gd:∀ x,(h.set i x)[i]?=some x:=λx=>gX hil;have gj:∀ x,(h.set i x)[j]?=some (.row 1 [.p (.int .i64 e0)]):=λx=>by rw [cw hij];exact hj
 simp only [mb,gL,hi,fW,gd,gj,M7,bf,lk,bF,go_sem,simprocAttr]
theorem qT {rs} {R} {T} {i j} {a b} {q n} {e0} {h} (hi:h[i]?=some (.row 3 [.agg [.p a,.p b,.slice q n 0 n]])) (hj:h[j]?=some (.row 1 [.p (.int .i64 e0)])) (hij:i≠j)
  (k:bU TP rs R T [] .ret ((h.set i (.row 3 [.p lk])).set j (.row 1 [.p (.int .i64 6)]))) :
  bU TP rs R T [.fn 228 [.ptr i 1 0 0,.ptr j 1 0 0]] (.pan fW) h:=by
 rw [jq];refine (Ry hi hj hij).mono λr u h' hr=>?_;obtain ⟨rfl,rfl,rfl⟩:=hr;exact k
theorem OX {i j} {h}:iT TP 228 [.ptr i 1 0 0,.ptr j 1 0 0] .ret h (λr u h'=>r=.ret (.p (.tuple []))/\u=.ret/\h'=h):=by
 refine eU (ai (by kernel_rfl) rfl Hv) rfl ?_;simp only [mb,gL,go_sem,simprocAttr]
theorem Db {rs} {R} {T} {i j} {h} (k:bU TP rs R T [] .ret h):bU TP rs R T [.fn 228 [.ptr i 1 0 0,.ptr j 1 0 0]] .ret h:=by
 rw [jq];refine OX.mono λr u h' hr=>?_;obtain ⟨rfl,rfl,rfl⟩:=hr;exact k
theorem Wy (k:HrKind) (w0 w1 w2):ah TP 231 [k.pv,.ptr 1 [bA [w0,w1,w2]] 0 0] (.bool (k.name==bs w1)):=by
 refine aa (ai (by kernel_rfl) rfl UA) rfl ?_;simp only [bA,bQ,go_sem,simprocAttr]
def cM (t:HrTest):PV:=.agg [.int .i64 t.kind,.int .i64 t.error,match t.marks with | []=>.nilslice | m::ms=>.slice 2 ((m::ms).map HrMark.pv) false]
def wC (k e:Int) (ms:List HrMark):AObj:=match ms with | []=>.row 3 [.p (.agg [.int .i64 k,.int .i64 e,.nilslice])] | m::r=>.row 3 [.agg [.p (.int .i64 k),.p (.int .i64 e),.slice 9 (m::r).length 0 (m::r).length]]
def sH (ms:List HrMark):Heap:=match ms with | []=>[] | m::r=>[.row 2 ((m::r).map dU)]
def jD (s:HrShop) (ws:List (List UInt8)) (k e:Int) (d o:AObj) (x:List UInt8) (ms:List HrMark):Heap :=
 [.row 3 [.p s.pv],wC k e ms,.row 1 [.p (.int .i64 0)],.row 1 [.p (bA ws)],.row 1 [.p (.str (bs x))],.row 1 [.p (.str (bs [10]))],.row 1 [.p (.int .i64 0)],d,o]++sH ms
set_option maxHeartbeats 4000000 in
theorem Gx (s) (all):ah TP 166 [s.pv,.str (bs all)] (.tuple [cM (aM s all).1,.int .i64 (aM s all).2]):=by
 refine cI (ai (by kernel_rfl) rfl Vi) rfl ?_;simp only [go_sem,simprocAttr];refine ae (ah.argless (args':=[s.pv,.nilslice]) (nn s [] false (by simp)) ⟨.inl rfl,.inr ⟨rfl,3,rfl⟩,trivial⟩) rfl ?_;simp only [go_sem,simprocAttr];have hop:bS s []=(hrCheck s).2.2:=by
  unfold bS;split
  .rename_i h;rw [h];rfl
  .rfl
 cases h0:(bS s [] != 0)
 rotate_left
 .have h0':¬ bS s []=0:=by simpa using h0
  have hsp:aM s all=(cH,bS s []):=by rw [aM,if_neg h0']
  rw [hsp];simp only [uU,bf,cM,cH,go_sem,simprocAttr]
 have h0':bS s []=0:=by simpa using h0
 have hck:(hrCheck s).2.2=0:=by rw [<-hop,h0']
 have hkk:=lp hck;have hsz:((bs all).size:Int)=(all.length:Int):=by rw [aw]
 simp only [hsz,go_sem,simprocAttr];cases h3:decide ((300:Int)<(all.length:Int));rotate_left
 .have h3':300<all.length:=by simp at h3;omega
  have hsp:aM s all=(cH,3):=by rw [aM,if_pos h0',if_pos h3']
  rw [hsp];simp only [cM,cH,h0',go_sem,simprocAttr]
 have h3':¬ 300<all.length:=by simp at h3;omega
 have hsp:aM s all=(match mh s all with | none=>(cH,6) | some t=>if mF s all t=true then (t,0) else (cH,6)):=by rw [aM,if_pos h0',if_neg h3']
 rw [hsp];have c10:(⟨#[10]⟩:ByteArray)=bs [10]:=rfl;have c32:(⟨#[32]⟩:ByteArray)=bs [32]:=rfl;simp only [c10,h0',go_sem,simprocAttr];refine ae (rH all 10 (by omega)) rfl ?_;simp only [c32,go_sem,simprocAttr];have hcl:=oE 10 all;refine ae (A0 (aF 10 all).1 32 (by omega)) rfl ?_;have hws:aN 32 (aF 10 all).1=nL all:=rfl;rw [hws];simp only [bA,go_sem,simprocAttr];refine nw (λhb=>?_) (λhb=>?_);rotate_left
 .have hpn:mh s all=none:=by
   unfold mh;split
   .rename_i w0 w1 w2 hw;rw [hw] at hb;cases hb
   .rfl
  rw [hpn];simp only [go_sem,simprocAttr];refine qS rfl rfl (by decide) ?_;simp only [lk,cM,cH,go_sem,simprocAttr]
 obtain ⟨w0,w1,w2,hw⟩:∃ w0 w1 w2,nL all=[w0,w1,w2]:=by
  have hl0:((nL all).length:Int)=3:=by simpa using hb
  have hl:(nL all).length=3:=by omega
  match h:nL all,hl with
  |[a,b,c],_=>exact ⟨a,b,c,rfl⟩
 have hpar:mh s all=(match iK w2 with | none=>none | some e=>(dF [] (aN 10 (sv all))).map λms=>⟨pq s.kinds (bs w1),e,ms⟩):=by
  rw [mh,hw]
 rw [hpar,hw];simp only [bQ,cO,go_sem,simprocAttr];refine bh (nI (fv:=.func (.func 231) [] [.ptr 1 [bA [w0,w1,w2]] 0 0]) s.kinds (λk=>k.name==bs w1) false 4 rfl (by omega) λk _=>⟨_,_,_,rfl,Wy k w0 w1 w2⟩) ?_ (.int _ _) ?_
 .simp only [bA,bQ,cO,go_sem,simprocAttr]
 have hix:au (λk=>k.name==bs w1) s.kinds 0=pq s.kinds (bs w1):=rfl;rw [hix];have hwl:w2.length<=all.length:=j1 (Ao 32 (aF 10 all).1 w2 (by rw [hws,hw];simp)) hcl;simp only [go_sem,simprocAttr]
 cases hnu:iK w2 with
 |none =>
  refine bW (mE (by omega) hnu _) (λv h hr=>by cases hr.1) (λv h hr=>?_);obtain ⟨hr,rfl⟩:=hr;cases hr;simp only [go_sem,simprocAttr];refine qS rfl rfl (by decide) ?_
  simp only [lk,cM,cH,go_sem,simprocAttr]
 |some e =>
  refine ae (rI (by omega) hnu) rfl ?_;simp only [c10,go_sem,simprocAttr];refine ae (Fi ((aF 10 all).2.getD []) 10 (by have:=pY 10 all;omega)) rfl ?_;have hrs:nB 10 ((aF 10 all).2.getD [])=sv all:=rfl;rw [hrs];have hrl:(sv all).length<=300:=by
   have h1:=pY 10 all;have h2:=IP 10 ((aF 10 all).2.getD []);rw [hrs] at h2;omega
  generalize pq s.kinds (bs w1)=kd;generalize sv all=rest at hrl;simp only [c10,go_sem,simprocAttr];refine b9 (JV rest 10 _) ?_;simp only [go_sem,simprocAttr];have hT1:∀ x ms o,(jD s [w0,w1,w2] kd e .dblock o x ms)[8]?=some o:=λx ms o=>by cases ms<;>rfl
  refine El (f:=302) (args:=[.ref .yl 8,.ptr 5 1 0 0,.ptr 4 1 0 0,.ptr 6 1 0 0])
   (R:=λr h=>(r=.ret (.p (.tuple []))/\∃ x ms o,dF [] (aN 10 rest)=some ms/\h=jD s [w0,w1,w2] kd e .dblock o x ms)\/∃ v,r=.panic v/\v=fW/\dF [] (aN 10 rest)=none/\∃ x ms o,h=jD s [w0,w1,w2] kd e .dblock o x ms)
   rfl (by simp only [go_sem,simprocAttr]) jv (by kernel_rfl) (by kernel_rfl) (by kernel_rfl) (λoR oB oD hround=>?_) (λv h hr=>?_)
  rotate_left
  .rcases hr with ⟨hr,_⟩ | ⟨v',hr,rfl,hnone,x,ms,o,rfl⟩
   .cases hr
   cases hr;rw [hnone]
   cases ms with
   |nil =>
    simp only [jD,wC,sH,bJ,go_sem,simprocAttr];refine qS rfl rfl (by decide) ?_
    simp only [lk,cM,cH,go_sem,simprocAttr]
   |cons m ms =>
    simp only [jD,wC,sH,bJ,go_sem,simprocAttr];refine qT rfl rfl (by decide) ?_;simp only [lk,cM,cH,go_sem,simprocAttr]
  refine (Q7 rest 10 (by omega) 8 4 5 6 _ (λdone x h=>∃ ms,dF [] done=some ms/\h=jD s [w0,w1,w2] kd e .dblock oR x ms) (λdone x h=>∃ ms,dF [] done=some ms/\h=jD s [w0,w1,w2] kd e .dblock oR x ms)
   (λv h=>v=fW/\dF [] (aN 10 rest)=none/\∃ x ms o,h=jD s [w0,w1,w2] kd e .dblock o x ms) ?_ ?_ ?_ ?_ ?_).mono ?_
  .rintro done x h ⟨ms,_,rfl⟩
   cases ms<;>exact ⟨rfl,rfl,rfl⟩
  .rintro done x h ⟨ms,_,rfl⟩
   cases ms<;>exact ⟨rfl,rfl,rfl⟩
  .rintro done x h hsp ⟨ms,hms,rfl⟩
   have hpl:(aF 10 x).1.length<=300:=by
    have:=Ao 10 rest (aF 10 x).1 (by rw [hsp,bX,kB];exact .inr (by simp));omega
   obtain ⟨more,hmore⟩:∃ more,aN 10 x=(aF 10 x).1::more:=⟨_,kB 10 x⟩
   rw [hmore] at hsp;generalize (aF 10 x).1=p at hpl hmore hsp;have hrows:dF [] (aN 10 rest)=(match cS p with | none=>none | some m=>dF (ms++[m]) more):=by
    rw [hsp,oo,hms,oK,dF]
   have hnext:∀ m,cS p=some m->dF [] (done++[p])=some (ms++[m]):=λm hm=>by
    rw [oo,hms,oK,dF,hm];rfl
   have hc1:=oE 32 p;have hc2:=pY 32 p;refine hround _ _ _ rfl (hT1 _ _ _) ?_;clear hround;have hml:ms.length<=301:=by
    have h1:=oT _ _ _ hms;have h2:=qp 10 rest;have h3:=congrArg List.length hsp;simp at h1 h3;omega
   cases ms with
   |nil =>
    have hrm:(1:Nat)<=aB:=by simp [aB]
    simp only [jD,wC,sH,c32,go_sem,simprocAttr];refine ae (rH p 32 (by omega)) rfl ?_;simp only [go_sem,simprocAttr];refine nw (λhb=>?_) (λhb=>?_);rotate_left
    .have hmr:cS p=none:=by
      unfold cS
      cases hq:(aF 32 p).2 with
      |none=>rfl
      |some b=>rw [hq] at hb;cases hb
     rw [hmr] at hrows;simp only [go_sem,simprocAttr];exact ⟨rfl,_,rfl,rfl,hrows,x,[],oB,rfl⟩
    obtain ⟨b,hb'⟩:=fQ.1 hb;rw [hb',gY] at hc2 |-;simp only [uU,bf,go_sem,simprocAttr]
    cases hn1:iK (aF 32 p).1 with
    |none =>
     have hmr:cS p=none:=by simp only [cS,hb',hn1]
     rw [hmr] at hrows;refine qI (mE (by omega) hn1 _) λT=>?_;simp only [go_sem,simprocAttr]
     exact ⟨rfl,_,rfl,rfl,hrows,x,[],oB,rfl⟩
    |some a =>
     refine nx (rI (by omega) hn1) rfl ?_;simp only [uU,go_sem,simprocAttr]
     cases hn2:iK b with
     |none =>
      have hmr:cS p=none:=by simp only [cS,hb',hn1,hn2]
      rw [hmr] at hrows;refine qI (mE (by omega) hn2 _) λT=>?_;simp only [go_sem,simprocAttr]
      exact ⟨rfl,_,rfl,rfl,hrows,x,[],oB,rfl⟩
     |some w =>
      have hmr:cS p=some ⟨a,w⟩:=by simp only [cS,hb',hn1,hn2]
      have hnx:=hnext _ hmr;refine nx (rI (by omega) hn2) rfl ?_;simp only [uU,hrm,bu,go_sem,simprocAttr]
      exact ⟨rfl,.inl ⟨_,hnx,rfl⟩⟩
   |cons m0 ms =>
    simp only [e9] at hml;have hrm:ms.length+1+1<=aB:=by simp [aB];omega
    simp only [jD,wC,sH,c32,go_sem,simprocAttr];refine ae (rH p 32 (by omega)) rfl ?_;simp only [go_sem,simprocAttr];refine nw (λhb=>?_) (λhb=>?_);rotate_left
    .have hmr:cS p=none:=by
      unfold cS
      cases hq:(aF 32 p).2 with
      |none=>rfl
      |some b=>rw [hq] at hb;cases hb
     rw [hmr] at hrows;simp only [go_sem,simprocAttr];exact ⟨rfl,_,rfl,rfl,hrows,x,m0::ms,oB,rfl⟩
    obtain ⟨b,hb'⟩:=fQ.1 hb;rw [hb',gY] at hc2 |-;simp only [uU,bf,go_sem,simprocAttr]
    cases hn1:iK (aF 32 p).1 with
    |none =>
     have hmr:cS p=none:=by simp only [cS,hb',hn1]
     rw [hmr] at hrows;refine qI (mE (by omega) hn1 _) λT=>?_;simp only [go_sem,simprocAttr]
     exact ⟨rfl,_,rfl,rfl,hrows,x,m0::ms,oB,rfl⟩
    |some a =>
     refine nx (rI (by omega) hn1) rfl ?_;simp only [uU,go_sem,simprocAttr]
     cases hn2:iK b with
     |none =>
      have hmr:cS p=none:=by simp only [cS,hb',hn1,hn2]
      rw [hmr] at hrows;refine qI (mE (by omega) hn2 _) λT=>?_;simp only [go_sem,simprocAttr]
      exact ⟨rfl,_,rfl,rfl,hrows,x,m0::ms,oB,rfl⟩
     |some w =>
      have hmr:cS p=some ⟨a,w⟩:=by simp only [cS,hb',hn1,hn2]
      have hnx:=hnext _ hmr;refine nx (rI (by omega) hn2) rfl ?_;simp only [uU,hrm,bu,go_sem,simprocAttr];refine ⟨rfl,.inl ⟨_,hnx,?_⟩⟩;simp [jD,wC,sH,HrMark.pv,dU,HrShop.pv]
  .rintro done x y h ⟨ms,hms,rfl⟩ hc
   refine ⟨ms,hms,?_⟩;cases ms<;>rfl
  .exact ⟨[],rfl,rfl⟩
  .rintro r h (⟨rfl,x,hx,ms,hms,rfl⟩ | ⟨v,rfl,rfl,hnone,hh⟩)
   rotate_left
   .exact ⟨.inr ⟨_,rfl,rfl,hnone,hh⟩,λv hv=>by cases hv⟩
   refine ⟨.inl ⟨rfl,x,ms,oR,hms,rfl⟩,λv hv=>.inl ⟨hT1 _ _ _,?_⟩⟩;rw [hms];clear hround;have hml:ms.length<=301:=by
    have h1:=oT _ _ _ hms;have h2:=qp 10 rest;simp at h1;omega
   have hne:ms≠[]:=by
    rintro rfl
    have h1:=oT _ _ _ hms;have h2:=l6 10 rest;simp at h1;omega
   cases ms with
   |nil=>exact absurd rfl hne
   |cons m0 ms =>
   have hfz:∀ n h,aO (bV n h) (ms.map dU)=some (ms.map HrMark.pv):=λn h=>cZ (dO n h) HrMark.pv ms;have htk:List.take (ms.length+1) (.agg [.int .i64 m0.minute,.int .i64 m0.weight]::List.map HrMark.pv ms)=.agg [.int .i64 m0.minute,.int .i64 m0.weight]::List.map HrMark.pv ms:=fx (by simp);simp only [jD,wC,sH,go_sem,simprocAttr];refine bh (A4 s ⟨kd,e,m0::ms⟩ (by omega)) ?_ (.int _ _) ?_
   .simp only [hfz,htk,go_sem,simprocAttr]
   simp only [go_sem,simprocAttr];cases hte:(bL s.kinds.length ⟨kd,e,m0::ms⟩==0)
   .have hg:mF s all ⟨kd,e,m0::ms⟩=false:=by rw [mF,hte];rfl
    simp only [go_sem,simprocAttr];refine nw (λhb=>by cases hb) (λ_=>?_);simp only [bJ,go_sem,simprocAttr];refine qT rfl rfl (by decide) ?_;simp only [lk,cM,cH,hg,go_sem,simprocAttr]
   have hte':bL s.kinds.length ⟨kd,e,m0::ms⟩=0:=by simpa using hte
   simp only [go_sem,simprocAttr];refine bh (Wu s ⟨kd,e,m0::ms⟩ hck hte') ?_ (.str _) ?_
   .simp only [hfz,htk,go_sem,simprocAttr]
   simp only [dd,go_sem,simprocAttr];have hg:mF s all ⟨kd,e,m0::ms⟩=(iO s ⟨kd,e,m0::ms⟩==all):=by rw [mF,hte];rfl
   refine nw (λhb=>?_) (λhb=>?_)
   .rw [hb] at hg;simp only [bJ,go_sem,simprocAttr];refine Db ?_;simp only [hfz,htk,cM,hg,go_sem,simprocAttr]
   .rw [hb] at hg;simp only [bJ,go_sem,simprocAttr];refine qT rfl rfl (by decide) ?_;simp only [lk,cM,cH,hg,go_sem,simprocAttr]
def CU (l:List UInt8):Int:=if az (l.length:Int) 1 8=true then (match Lib.decFrom 0 l with | some n=>(n:Int) | none=>-1) else -1
def yF (a b:HrTest):Bool:=(a.kind==b.kind)&&(a.error==b.error)&&decide (a.marks=b.marks)
theorem OQ (a b):yF a b=true↔a=b:=by
 cases a;cases b;simp [yF,and_assoc]
theorem OA (x y:HrMark):((x.minute==y.minute)&&(x.weight==y.weight))=decide (x=y):=by
 cases x;cases y;rw [rW];simp
theorem RU (a b) (ha:a.marks.length<1000000000):ah TP 37 [a.pv,b.pv] (.bool (yF a b)):=by
 refine aa (ai (by kernel_rfl) rfl YW) rfl ?_;simp only [go_sem,simprocAttr];cases h1:(a.kind != b.kind)
 rotate_left
 .have h1':(a.kind==b.kind)=false:=by simpa [bne] using h1
  simp only [yF,h1',go_sem,simprocAttr]
 have h1':(a.kind==b.kind)=true:=by simpa [bne] using h1
 simp only [go_sem,simprocAttr];cases h2:(a.error != b.error)
 rotate_left
 .have h2':(a.error==b.error)=false:=by simpa [bne] using h2
  simp only [yF,h1',h2',go_sem,simprocAttr]
 have h2':(a.error==b.error)=true:=by simpa [bne] using h2
 simp only [go_sem,simprocAttr];cases h3:((a.marks.length:Int) != (b.marks.length:Int))
 rotate_left
 .have h3':¬ a.marks=b.marks:=by
   intro h;rw [h] at h3;simp at h3
  simp only [yF,h1',h2',h3',decide_false,go_sem,simprocAttr]
 have h3':a.marks.length=b.marks.length:=by
  have:((a.marks.length:Int))=(b.marks.length:Int):=by simpa using h3
  omega
 have hsp:yF a b=decide (a.marks=b.marks):=by rw [yF,h1',h2'];rfl
 rw [hsp];simp only [go_sem,simprocAttr]
 refine i7 [2,3] (σ:=List HrMark×List HrMark×List HrMark) (λq=>a.marks=q.1++q.2.1/\b.marks=q.1++q.2.2) (λq=>q.2.1.length)
  (λq=>[(5,.p (.int .i64 q.1.length))]) (λ_=>[.row 3 [.p a.pv],.row 3 [.p b.pv]]) ([],a.marks,b.marks) ⟨rfl,rfl⟩ ?_ ?_
 .simp only [go_sem,simprocAttr]
 rintro ⟨done,ra,rb⟩ ⟨e1,e2⟩
 dsimp only at e1 e2;have hl1:=congrArg List.length e1;have hl2:=congrArg List.length e2;simp only [aP] at hl1 hl2
 cases ra with
 |nil =>
  have hrb:rb=[]:=by
   have:rb.length=0:=by simp at hl1;omega
   exact uZ.1 this
  have hlt:¬ ((done.length:Int)<(a.marks.length:Int)):=by rw [e1];simp
  have he:a.marks=b.marks:=by rw [e1,e2,hrb]
  have hltb:¬ ((done.length:Int)<(b.marks.length:Int)):=by rw [e2,hrb];simp
  rw [show decide (a.marks=b.marks)=true by simpa using he]
  simp only [hlt,decide_false,go_sem,simprocAttr]
 |cons x ra =>
  cases rb with
  |nil=>simp at hl1 hl2;omega
  |cons y rb =>
   obtain ⟨hx,hlt⟩:=gC e1;obtain ⟨hy,hlt2⟩:=gC e2;have hnx:IntKind.i64.wrap ((done.length:Int)+1)=(((done++[x]).length:Nat):Int):=bI (by omega) (by simp [aB];omega) (by simp);simp only [hlt,decide_true,hx,hy,hlt2,OA,go_sem,simprocAttr];cases h4:decide (x=y)
   .have h4':¬ x=y:=by simpa using h4
    have he:¬ a.marks=b.marks:=by
     rw [e1,e2];intro h;have:=List.append_cancel_left h;exact h4' (B8 this).1
    rw [show decide (a.marks=b.marks)=false by simpa using he];simp only [go_sem,simprocAttr]
   .have h4':x=y:=by simpa using h4
    subst h4';simp only [go_sem,simprocAttr];refine dp (done++[x],ra,rb) ⟨by rw [e1];simp,by rw [e2];simp⟩ (lz _) ?_;simp only [hnx,go_sem,simprocAttr]
theorem ah.arglessD {P} {f} {args args'} {v} (hc:ah P f args v) (h:y5 args' args):ah P f args' v:=by
 intro M0 w cargs hM hg ha;obtain ⟨h1,h2⟩:=h.get;refine hc M0 w cargs hM hg ⟨by rw [ha.1,h1],λi c hi=>?_⟩;obtain ⟨q,hq⟩:∃ q,args'[i]?=some q:=⟨_,b6 (by rw [h1];exact (ar.1 hi).1)⟩
 exact (h2 i q c hq hi).rep (ha.2 i q hq)
theorem Ou (k e):PL (.agg [.int .i64 k,.int .i64 e,.nilslice]) (HrTest.pv ⟨k,e,[]⟩):=.aggL rfl ⟨.refl _,.refl _,.nil 2,trivial⟩
def lS (nm:ByteArray):List HrKind->Nat->Int->Int
 |[],_,acc=>acc
 |k::r,i,acc=>lS nm r (i+1) (if k.name==nm then (i:Int) else acc)
def xE (s:HrShop) (first:Bool) (t:HrTest) (p:List UInt8):HrTest :=
 match first,aN 32 p with
 |true,[_,w1,w2]=>⟨lS (bs w1) s.kinds 0 t.kind,CU w2,t.marks⟩
 |false,[w0,w1]=>⟨t.kind,t.error,t.marks++[⟨CU w0,CU w1⟩]⟩
 |_,_=>t
def vd (s:HrShop):Bool->HrTest->List (List UInt8)->HrTest
 |_,t,[]=>t
 |_,t,[_]=>t
 |f,t,p::q::r=>vd s false (xE s f t p) (q::r)
def t7 (s:HrShop) (all:List UInt8):HrTest:=vd s true ⟨-1,0,[]⟩ (aN 10 all)
def vw (s:HrShop) (all:List UInt8):HrTest×Int :=
 if (hrCheck s).2.2=0 then
  if 300<all.length then (cH,3) else if mF s all (t7 s all)=true then (t7 s all,0) else (cH,6)
 else (cH,(hrCheck s).2.2)
end Abs
end Go.Proofs.YtfafnkpfamgbbaaGreatDoor
