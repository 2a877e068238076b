/-
  CONTRACTS: Read: what is read out of a text, and that it ends in ErrForm otherwise. No con
  CONTRACTS: the reference's number, Read, Equal. No conditions but those in the theorems' h
-/
import Derived.Test.YtfafnkpfamgbbaaGreatDoorAbsCutX
import Derived.Test.YtfafnkpfamgbbaaGreatDoorHrUseX
set_option linter.unusedSimpArgs false
set_option linter.unusedVariables false
open Go.Proofs.Tryz renaming prog->TP
namespace Go.Proofs.YtfafnkpfamgbbaaGreatDoor
namespace Abs
set_option maxRecDepth 4000
def dG (p:List UInt8):Option HrMark :=
 match (aH 32 p).2 with
 |none=>none
 |some b=>match jB (aH 32 p).1 with
  |none=>none
  |some m=>match jB b with
   |none=>none
   |some w=>some ⟨m,w⟩
def em:List HrMark->List (List UInt8)->Option (List HrMark)
 |acc,[]=>some acc
 |acc,p::r=>match dG p with
  |none=>none
  |some m=>em (acc++[m]) r
def pq (all:List UInt8):List (List UInt8):=aJ 32 (aH 10 all).1
def ub (all:List UInt8):List UInt8:=oW 10 ((aH 10 all).2.getD [])
def qP (l:List HrKind) (nm:ByteArray):Int:=aA (λk=>k.name==nm) l 0
def nJ (s:HrShop) (all:List UInt8):Option HrTest :=
 match pq all with
 |[_,w1,w2]=>match jB w2 with
  |none=>none
  |some e=>(em [] (aJ 10 (ub all))).map λms=>⟨qP s.kinds (bs w1),e,ms⟩
 |_=>none
def dp:HrTest:=⟨0,0,[]⟩
def mI (s:HrShop) (all:List UInt8) (t:HrTest):Bool:=(b9 s.kinds.length t==0)&&(iK s t==all)
def aP (s:HrShop) (all:List UInt8):HrTest×Int :=
 if cd s []=0 then
  if 300<all.length then (dp,3)
  else match nJ s all with
   |none=>(dp,6)
   |some t=>if mI s all t=true then (t,0) else (dp,6)
 else (dp,cd s [])
theorem p6:∀ (a) (acc) (b),em acc (a++b)=(em acc a).bind λms=>em ms b
 |[],_,_=>rfl
 |p::r,acc,b=>by
  rw [hG,em,em]
  cases dG p with
  |none=>rfl
  |some m=>exact p6 r _ b
theorem qq:∀ (a) (acc ms),em acc a=some ms->ms.length=acc.length+a.length
 |[],_,_,h=>by cases h;rfl
 |p::r,acc,ms,h=>by
  rw [em] at h
  cases hm:dG p with
  |none=>rw [hm] at h;cases h
  |some m =>
   rw [hm] at h;have:=qq r _ _ h;simp at this |-;omega
theorem vA (c):∀ (l p),p∈aJ c l->p.length<=l.length:=by
 intro l;generalize hn:l.length=n
 induction n using Nat.strongRecOn generalizing l with
 |ind n ih =>
  intro p hp
  cases hc:(aH c l).2 with
  |none =>
   rw [l6 hc,fT] at hp
   subst hp;omega
  |some r =>
   rw [l5 hc,bw] at hp;have hr:=uI c l r hc;rcases hp with rfl | hp
   .rcases jV c l with ⟨h,_⟩ | ⟨_,_,_,h⟩
    .rw [h] at hc;cases hc
    .have:=congrArg List.length h;simp at this;omega
   .have:=ih r.length (by omega) r rfl p hp;omega
theorem Lh (c) (l):(oW c l).length<=l.length:=by
 unfold oW;split
 .simp
 .exact bM _
theorem rH (c) (l):((aH c l).2.getD []).length<=l.length:=by
 cases hc:(aH c l).2 with
 |none=>simp
 |some r=>have:=uI c l r hc;simp;omega
theorem qe (c) (l):(aH c l).1.length<=l.length:=by
 rcases jV c l with ⟨_,h,_⟩ | ⟨r,_,_,h⟩
 .rw [h];exact bM _
 .have:=congrArg List.length h;simp at this;omega
def mD:PV:=.agg [.int .i64 0,.int .i64 0,.nilslice]
theorem Uu {i j} {a b c} {e0} {h} (hi:h[i]?=some (.row 3 [.p (.agg [a,b,c])])) (hj:h[j]?=some (.row 1 [.p (.int .i64 e0)])) (hij:i≠j) :
  jM TP 228 [.ptr i 1 0 0,.ptr j 1 0 0] (.pan gT) h
  (λr u h'=>r=.ret (.p (.tuple []))/\u=.recd gT/\h'=(h.set i (.row 3 [.p mD])).set j (.row 1 [.p (.int .i64 6)])):=by
 refine fL (ai (by kernel_rfl) rfl JT) rfl ?_;have hil:=(aE.1 hi).1;have gd:∀ x,(h.set i x)[i]?=some x:=λx=>iP hil;have gj:∀ x,(h.set i x)[j]?=some (.row 1 [.p (.int .i64 e0)]):=λx=>by rw [d5 hij];exact hj
 simp only [nG,iB,hi,gT,gd,gj,PK,bj,mD,aW,go_sem,simprocAttr]
theorem sG {rs} {R} {T} {i j} {a b c} {e0} {h} (hi:h[i]?=some (.row 3 [.p (.agg [a,b,c])])) (hj:h[j]?=some (.row 1 [.p (.int .i64 e0)])) (hij:i≠j)
  (k:ck TP rs R T [] .ret ((h.set i (.row 3 [.p mD])).set j (.row 1 [.p (.int .i64 6)]))) :
  ck TP rs R T [.fn 228 [.ptr i 1 0 0,.ptr j 1 0 0]] (.pan gT) h:=by
 rw [kj];refine (Uu hi hj hij).mono λr u h' hr=>?_;obtain ⟨rfl,rfl,rfl⟩:=hr;exact k
theorem Uv {i j} {a b} {q n} {e0} {h} (hi:h[i]?=some (.row 3 [.agg [.p a,.p b,.slice q n 0 n]])) (hj:h[j]?=some (.row 1 [.p (.int .i64 e0)])) (hij:i≠j) :
  jM TP 228 [.ptr i 1 0 0,.ptr j 1 0 0] (.pan gT) h
  (λr u h'=>r=.ret (.p (.tuple []))/\u=.recd gT/\h'=(h.set i (.row 3 [.p mD])).set j (.row 1 [.p (.int .i64 6)])):=by
 refine fL (ai (by kernel_rfl) rfl JT) rfl ?_;have hil:=(aE.1 hi).1;have gd:∀ x,(h.set i x)[i]?=some x:=λx=>iP hil;have gj:∀ x,(h.set i x)[j]?=some (.row 1 [.p (.int .i64 e0)]):=λx=>by rw [d5 hij];exact hj
 simp only [nG,iB,hi,gT,gd,gj,PK,bj,mD,aW,go_sem,simprocAttr]
theorem sH {rs} {R} {T} {i j} {a b} {q n} {e0} {h} (hi:h[i]?=some (.row 3 [.agg [.p a,.p b,.slice q n 0 n]])) (hj:h[j]?=some (.row 1 [.p (.int .i64 e0)])) (hij:i≠j)
  (k:ck TP rs R T [] .ret ((h.set i (.row 3 [.p mD])).set j (.row 1 [.p (.int .i64 6)]))) :
  ck TP rs R T [.fn 228 [.ptr i 1 0 0,.ptr j 1 0 0]] (.pan gT) h:=by
 rw [kj];refine (Uv hi hj hij).mono λr u h' hr=>?_;obtain ⟨rfl,rfl,rfl⟩:=hr;exact k
theorem RJ {i j} {h}:jM TP 228 [.ptr i 1 0 0,.ptr j 1 0 0] .ret h (λr u h'=>r=.ret (.p (.tuple []))/\u=.ret/\h'=h):=by
 refine fL (ai (by kernel_rfl) rfl JT) rfl ?_;simp only [nG,iB,go_sem,simprocAttr]
theorem Fu {rs} {R} {T} {i j} {h} (k:ck TP rs R T [] .ret h):ck TP rs R T [.fn 228 [.ptr i 1 0 0,.ptr j 1 0 0]] .ret h:=by
 rw [kj];refine RJ.mono λr u h' hr=>?_;obtain ⟨rfl,rfl,rfl⟩:=hr;exact k
theorem Zv (k:HrKind) (w0 w1 w2):ah TP 231 [k.pv,.ptr 1 [bG [w0,w1,w2]] 0 0] (.bool (k.name==bs w1)):=by
 refine aa (ai (by kernel_rfl) rfl Xx) rfl ?_;simp only [bG,bB,go_sem,simprocAttr]
def dy (t:HrTest):PV:=.agg [.int .i64 t.kind,.int .i64 t.error,match t.marks with | []=>.nilslice | m::ms=>.slice 2 ((m::ms).map HrMark.pv) false]
def yr (k e:Int) (ms:List HrMark):AObj:=match ms with | []=>.row 3 [.p (.agg [.int .i64 k,.int .i64 e,.nilslice])] | m::r=>.row 3 [.agg [.p (.int .i64 k),.p (.int .i64 e),.slice 9 (m::r).length 0 (m::r).length]]
def ur (ms:List HrMark):Heap:=match ms with | []=>[] | m::r=>[.row 2 ((m::r).map eO)]
def ky (s:HrShop) (ws:List (List UInt8)) (k e:Int) (d o:AObj) (x:List UInt8) (ms:List HrMark):Heap :=
 [.row 3 [.p s.pv],yr k e ms,.row 1 [.p (.int .i64 0)],.row 1 [.p (bG ws)],.row 1 [.p (.str (bs x))],.row 1 [.p (.str (bs [10]))],.row 1 [.p (.int .i64 0)],d,o]++ur ms
set_option maxHeartbeats 4000000 in
theorem IU (s) (all):ah TP 166 [s.pv,.str (bs all)] (.tuple [dy (aP s all).1,.int .i64 (aP s all).2]):=by
 refine cW (ai (by kernel_rfl) rfl Yg) rfl ?_;simp only [go_sem,simprocAttr];refine ae (ah.argless (args':=[s.pv,.nilslice]) (oK s [] false (by simp)) ⟨.inl rfl,.inr ⟨rfl,3,rfl⟩,trivial⟩) rfl ?_;simp only [go_sem,simprocAttr];have hop:cd s []=(hrCheck s).2.2:=by
  unfold cd;split
  .rename_i h;rw [h];rfl
  .rfl
 cases h0:(cd s [] != 0)
 rotate_left
 .have h0':¬ cd s []=0:=by simpa using h0
  have hsp:aP s all=(dp,cd s []):=by rw [aP,if_neg h0']
  rw [hsp];simp only [wQ,bj,dy,dp,go_sem,simprocAttr]
 have h0':cd s []=0:=by simpa using h0
 have hck:(hrCheck s).2.2=0:=by rw [<-hop,h0']
 have hkk:=mG hck;have hsz:((bs all).size:Int)=(all.length:Int):=by rw [aq]
 simp only [hsz,go_sem,simprocAttr];cases h3:decide ((300:Int)<(all.length:Int));rotate_left
 .have h3':300<all.length:=by simp at h3;omega
  have hsp:aP s all=(dp,3):=by rw [aP,if_pos h0',if_pos h3']
  rw [hsp];simp only [dy,dp,h0',go_sem,simprocAttr]
 have h3':¬ 300<all.length:=by simp at h3;omega
 have hsp:aP s all=(match nJ s all with | none=>(dp,6) | some t=>if mI s all t=true then (t,0) else (dp,6)):=by rw [aP,if_pos h0',if_neg h3']
 rw [hsp];have c10:(⟨#[10]⟩:ByteArray)=bs [10]:=rfl;have c32:(⟨#[32]⟩:ByteArray)=bs [32]:=rfl;simp only [c10,h0',go_sem,simprocAttr];refine ae (tm all 10 (by omega)) rfl ?_;simp only [c32,go_sem,simprocAttr];have hcl:=qe 10 all;refine ae (C9 (aH 10 all).1 32 (by omega)) rfl ?_;have hws:aJ 32 (aH 10 all).1=pq all:=rfl;rw [hws];simp only [bG,go_sem,simprocAttr];refine oS (λhb=>?_) (λhb=>?_);rotate_left
 .have hpn:nJ s all=none:=by
   unfold nJ;split
   .rename_i w0 w1 w2 hw;rw [hw] at hb;cases hb
   .rfl
  rw [hpn];simp only [go_sem,simprocAttr];refine sG rfl rfl (by decide) ?_;simp only [mD,dy,dp,go_sem,simprocAttr]
 obtain ⟨w0,w1,w2,hw⟩:∃ w0 w1 w2,pq all=[w0,w1,w2]:=by
  have hl0:((pq all).length:Int)=3:=by simpa using hb
  have hl:(pq all).length=3:=by omega
  match h:pq all,hl with
  |[a,b,c],_=>exact ⟨a,b,c,rfl⟩
 have hpar:nJ s all=(match jB w2 with | none=>none | some e=>(em [] (aJ 10 (ub all))).map λms=>⟨qP s.kinds (bs w1),e,ms⟩):=by
  rw [nJ,hw]
 rw [hpar,hw];simp only [bB,cm,go_sem,simprocAttr];refine bf (pj (fv:=.func (.func 231) [] [.ptr 1 [bG [w0,w1,w2]] 0 0]) s.kinds (λk=>k.name==bs w1) false 4 rfl (by omega) λk _=>⟨_,_,_,rfl,Zv k w0 w1 w2⟩) ?_ (.int _ _) ?_
 .simp only [bG,bB,cm,go_sem,simprocAttr]
 have hix:aA (λk=>k.name==bs w1) s.kinds 0=qP s.kinds (bs w1):=rfl;rw [hix];have hwl:w2.length<=all.length:=pn (vA 32 (aH 10 all).1 w2 (by rw [hws,hw];simp)) hcl;simp only [go_sem,simprocAttr]
 cases hnu:jB w2 with
 |none =>
  refine cq (nX (by omega) hnu _) (λv h hr=>by cases hr.1) (λv h hr=>?_);obtain ⟨hr,rfl⟩:=hr;cases hr;simp only [go_sem,simprocAttr];refine sG rfl rfl (by decide) ?_
  simp only [mD,dy,dp,go_sem,simprocAttr]
 |some e =>
  refine ae (tq (by omega) hnu) rfl ?_;simp only [c10,go_sem,simprocAttr];refine ae (Ht ((aH 10 all).2.getD []) 10 (by have:=rH 10 all;omega)) rfl ?_;have hrs:oW 10 ((aH 10 all).2.getD [])=ub all:=rfl;rw [hrs];have hrl:(ub all).length<=300:=by
   have h1:=rH 10 all;have h2:=Lh 10 ((aH 10 all).2.getD []);rw [hrs] at h2;omega
  generalize qP s.kinds (bs w1)=kd;generalize ub all=rest at hrl;simp only [c10,go_sem,simprocAttr];refine cy (Mn rest 10 _) ?_;simp only [go_sem,simprocAttr];have hT1:∀ x ms o,(ky s [w0,w1,w2] kd e .dblock o x ms)[8]?=some o:=λx ms o=>by cases ms<;>rfl
  refine GA (f:=302) (args:=[.ref .yl 8,.ptr 5 1 0 0,.ptr 4 1 0 0,.ptr 6 1 0 0])
   (R:=λr h=>(r=.ret (.p (.tuple []))/\∃ x ms o,em [] (aJ 10 rest)=some ms/\h=ky s [w0,w1,w2] kd e .dblock o x ms)\/∃ v,r=.panic v/\v=gT/\em [] (aJ 10 rest)=none/\∃ x ms o,h=ky s [w0,w1,w2] kd e .dblock o x ms)
   rfl (by simp only [go_sem,simprocAttr]) dU (by kernel_rfl) (by kernel_rfl) (by kernel_rfl) (λoR oB oD hround=>?_) (λv h hr=>?_)
  rotate_left
  .rcases hr with ⟨hr,_⟩ | ⟨v',hr,rfl,hnone,x,ms,o,rfl⟩
   .cases hr
   cases hr;rw [hnone]
   cases ms with
   |nil =>
    simp only [ky,yr,ur,b7,go_sem,simprocAttr];refine sG rfl rfl (by decide) ?_
    simp only [mD,dy,dp,go_sem,simprocAttr]
   |cons m ms =>
    simp only [ky,yr,ur,b7,go_sem,simprocAttr];refine sH rfl rfl (by decide) ?_;simp only [mD,dy,dp,go_sem,simprocAttr]
  refine (T5 rest 10 (by omega) 8 4 5 6 _ (λdone x h=>∃ ms,em [] done=some ms/\h=ky s [w0,w1,w2] kd e .dblock oR x ms) (λdone x h=>∃ ms,em [] done=some ms/\h=ky s [w0,w1,w2] kd e .dblock oR x ms)
   (λv h=>v=gT/\em [] (aJ 10 rest)=none/\∃ x ms o,h=ky s [w0,w1,w2] kd e .dblock o x ms) ?_ ?_ ?_ ?_ ?_).mono ?_
  .rintro done x h ⟨ms,_,rfl⟩
   cases ms<;>exact ⟨rfl,rfl,rfl⟩
  .rintro done x h ⟨ms,_,rfl⟩
   cases ms<;>exact ⟨rfl,rfl,rfl⟩
  .rintro done x h hsp ⟨ms,hms,rfl⟩
   have hpl:(aH 10 x).1.length<=300:=by
    have:=vA 10 rest (aH 10 x).1 (by rw [hsp,ea,lI];exact .inr (by simp));omega
   obtain ⟨more,hmore⟩:∃ more,aJ 10 x=(aH 10 x).1::more:=⟨_,lI 10 x⟩
   rw [hmore] at hsp;generalize (aH 10 x).1=p at hpl hmore hsp;have hrows:em [] (aJ 10 rest)=(match dG p with | none=>none | some m=>em (ms++[m]) more):=by
    rw [hsp,p6,hms,iO,em]
   have hnext:∀ m,dG p=some m->em [] (done++[p])=some (ms++[m]):=λm hm=>by
    rw [p6,hms,iO,em,hm];rfl
   have hc1:=qe 32 p;have hc2:=rH 32 p;refine hround _ _ _ rfl (hT1 _ _ _) ?_;clear hround;have hml:ms.length<=301:=by
    have h1:=qq _ _ _ hms;have h2:=pz 10 rest;have h3:=congrArg List.length hsp;simp at h1 h3;omega
   cases ms with
   |nil =>
    have hrm:(1:Nat)<=aw:=by simp [aw]
    simp only [ky,yr,ur,c32,go_sem,simprocAttr];refine ae (tm p 32 (by omega)) rfl ?_;simp only [go_sem,simprocAttr];refine oS (λhb=>?_) (λhb=>?_);rotate_left
    .have hmr:dG p=none:=by
      unfold dG
      cases hq:(aH 32 p).2 with
      |none=>rfl
      |some b=>rw [hq] at hb;cases hb
     rw [hmr] at hrows;simp only [go_sem,simprocAttr];exact ⟨rfl,_,rfl,rfl,hrows,x,[],oB,rfl⟩
    obtain ⟨b,hb'⟩:=jO.1 hb;rw [hb',fX] at hc2 |-;simp only [wQ,bj,go_sem,simprocAttr]
    cases hn1:jB (aH 32 p).1 with
    |none =>
     have hmr:dG p=none:=by simp only [dG,hb',hn1]
     rw [hmr] at hrows;refine sw (nX (by omega) hn1 _) λT=>?_;simp only [go_sem,simprocAttr]
     exact ⟨rfl,_,rfl,rfl,hrows,x,[],oB,rfl⟩
    |some a =>
     refine oT (tq (by omega) hn1) rfl ?_;simp only [wQ,go_sem,simprocAttr]
     cases hn2:jB b with
     |none =>
      have hmr:dG p=none:=by simp only [dG,hb',hn1,hn2]
      rw [hmr] at hrows;refine sw (nX (by omega) hn2 _) λT=>?_;simp only [go_sem,simprocAttr]
      exact ⟨rfl,_,rfl,rfl,hrows,x,[],oB,rfl⟩
     |some w =>
      have hmr:dG p=some ⟨a,w⟩:=by simp only [dG,hb',hn1,hn2]
      have hnx:=hnext _ hmr;refine oT (tq (by omega) hn2) rfl ?_;simp only [wQ,hrm,bh,go_sem,simprocAttr]
      exact ⟨rfl,.inl ⟨_,hnx,rfl⟩⟩
   |cons m0 ms =>
    simp only [ct] at hml;have hrm:ms.length+1+1<=aw:=by simp [aw];omega
    simp only [ky,yr,ur,c32,go_sem,simprocAttr];refine ae (tm p 32 (by omega)) rfl ?_;simp only [go_sem,simprocAttr];refine oS (λhb=>?_) (λhb=>?_);rotate_left
    .have hmr:dG p=none:=by
      unfold dG
      cases hq:(aH 32 p).2 with
      |none=>rfl
      |some b=>rw [hq] at hb;cases hb
     rw [hmr] at hrows;simp only [go_sem,simprocAttr];exact ⟨rfl,_,rfl,rfl,hrows,x,m0::ms,oB,rfl⟩
    obtain ⟨b,hb'⟩:=jO.1 hb;rw [hb',fX] at hc2 |-;simp only [wQ,bj,go_sem,simprocAttr]
    cases hn1:jB (aH 32 p).1 with
    |none =>
     have hmr:dG p=none:=by simp only [dG,hb',hn1]
     rw [hmr] at hrows;refine sw (nX (by omega) hn1 _) λT=>?_;simp only [go_sem,simprocAttr]
     exact ⟨rfl,_,rfl,rfl,hrows,x,m0::ms,oB,rfl⟩
    |some a =>
     refine oT (tq (by omega) hn1) rfl ?_;simp only [wQ,go_sem,simprocAttr]
     cases hn2:jB b with
     |none =>
      have hmr:dG p=none:=by simp only [dG,hb',hn1,hn2]
      rw [hmr] at hrows;refine sw (nX (by omega) hn2 _) λT=>?_;simp only [go_sem,simprocAttr]
      exact ⟨rfl,_,rfl,rfl,hrows,x,m0::ms,oB,rfl⟩
     |some w =>
      have hmr:dG p=some ⟨a,w⟩:=by simp only [dG,hb',hn1,hn2]
      have hnx:=hnext _ hmr;refine oT (tq (by omega) hn2) rfl ?_;simp only [wQ,hrm,bh,go_sem,simprocAttr];refine ⟨rfl,.inl ⟨_,hnx,?_⟩⟩;simp [ky,yr,ur,HrMark.pv,eO,HrShop.pv]
  .rintro done x y h ⟨ms,hms,rfl⟩ hc
   refine ⟨ms,hms,?_⟩;cases ms<;>rfl
  .exact ⟨[],rfl,rfl⟩
  .rintro r h (⟨rfl,x,hx,ms,hms,rfl⟩ | ⟨v,rfl,rfl,hnone,hh⟩)
   rotate_left
   .exact ⟨.inr ⟨_,rfl,rfl,hnone,hh⟩,λv hv=>by cases hv⟩
   refine ⟨.inl ⟨rfl,x,ms,oR,hms,rfl⟩,λv hv=>.inl ⟨hT1 _ _ _,?_⟩⟩;rw [hms];clear hround;have hml:ms.length<=301:=by
    have h1:=qq _ _ _ hms;have h2:=pz 10 rest;simp at h1;omega
   have hne:ms≠[]:=by
    rintro rfl
    have h1:=qq _ _ _ hms;have h2:=lH 10 rest;simp at h1;omega
   cases ms with
   |nil=>exact absurd rfl hne
   |cons m0 ms =>
   have hfz:∀ n h,aU (ci n h) (ms.map eO)=some (ms.map HrMark.pv):=λn h=>dq (er n h) HrMark.pv ms;have htk:List.take (ms.length+1) (.agg [.int .i64 m0.minute,.int .i64 m0.weight]::List.map HrMark.pv ms)=.agg [.int .i64 m0.minute,.int .i64 m0.weight]::List.map HrMark.pv ms:=ga (by simp);simp only [ky,yr,ur,go_sem,simprocAttr];refine bf (Dc s ⟨kd,e,m0::ms⟩ (by omega)) ?_ (.int _ _) ?_
   .simp only [hfz,htk,go_sem,simprocAttr]
   simp only [go_sem,simprocAttr];cases hte:(b9 s.kinds.length ⟨kd,e,m0::ms⟩==0)
   .have hg:mI s all ⟨kd,e,m0::ms⟩=false:=by rw [mI,hte];rfl
    simp only [go_sem,simprocAttr];refine oS (λhb=>by cases hb) (λ_=>?_);simp only [b7,go_sem,simprocAttr];refine sH rfl rfl (by decide) ?_;simp only [mD,dy,dp,hg,go_sem,simprocAttr]
   have hte':b9 s.kinds.length ⟨kd,e,m0::ms⟩=0:=by simpa using hte
   simp only [go_sem,simprocAttr];refine bf (Zs s ⟨kd,e,m0::ms⟩ hck hte') ?_ (.str _) ?_
   .simp only [hfz,htk,go_sem,simprocAttr]
   simp only [cf,go_sem,simprocAttr];have hg:mI s all ⟨kd,e,m0::ms⟩=(iK s ⟨kd,e,m0::ms⟩==all):=by rw [mI,hte];rfl
   refine oS (λhb=>?_) (λhb=>?_)
   .rw [hb] at hg;simp only [b7,go_sem,simprocAttr];refine Fu ?_;simp only [hfz,htk,dy,hg,go_sem,simprocAttr]
   .rw [hb] at hg;simp only [b7,go_sem,simprocAttr];refine sH rfl rfl (by decide) ?_;simp only [mD,dy,dp,hg,go_sem,simprocAttr]
def Fc (l:List UInt8):Int:=if ar (l.length:Int) 1 8=true then (match Lib.decFrom 0 l with | some n=>(n:Int) | none=>-1) else -1
def AE (a b:HrTest):Bool:=(a.kind==b.kind)&&(a.error==b.error)&&decide (a.marks=b.marks)
theorem RD (a b):AE a b=true↔a=b:=by
 cases a;cases b;simp [AE,and_assoc]
theorem Rm (x y:HrMark):((x.minute==y.minute)&&(x.weight==y.weight))=decide (x=y):=by
 cases x;cases y;rw [qX];simp
theorem US (a b) (ha:a.marks.length<1000000000):ah TP 37 [a.pv,b.pv] (.bool (AE a b)):=by
 refine aa (ai (by kernel_rfl) rfl zb8) rfl ?_;simp only [go_sem,simprocAttr];cases h1:(a.kind != b.kind)
 rotate_left
 .have h1':(a.kind==b.kind)=false:=by simpa [bne] using h1
  simp only [AE,h1',go_sem,simprocAttr]
 have h1':(a.kind==b.kind)=true:=by simpa [bne] using h1
 simp only [go_sem,simprocAttr];cases h2:(a.error != b.error)
 rotate_left
 .have h2':(a.error==b.error)=false:=by simpa [bne] using h2
  simp only [AE,h1',h2',go_sem,simprocAttr]
 have h2':(a.error==b.error)=true:=by simpa [bne] using h2
 simp only [go_sem,simprocAttr];cases h3:((a.marks.length:Int) != (b.marks.length:Int))
 rotate_left
 .have h3':¬ a.marks=b.marks:=by
   intro h;rw [h] at h3;simp at h3
  simp only [AE,h1',h2',h3',decide_false,go_sem,simprocAttr]
 have h3':a.marks.length=b.marks.length:=by
  have:((a.marks.length:Int))=(b.marks.length:Int):=by simpa using h3
  omega
 have hsp:AE a b=decide (a.marks=b.marks):=by rw [AE,h1',h2'];rfl
 rw [hsp];simp only [go_sem,simprocAttr]
 refine gu [2,3] (σ:=List HrMark×List HrMark×List HrMark) (λq=>a.marks=q.1++q.2.1/\b.marks=q.1++q.2.2) (λq=>q.2.1.length)
  (λq=>[(5,.p (.int .i64 q.1.length))]) (λ_=>[.row 3 [.p a.pv],.row 3 [.p b.pv]]) ([],a.marks,b.marks) ⟨rfl,rfl⟩ ?_ ?_
 .simp only [go_sem,simprocAttr]
 rintro ⟨done,ra,rb⟩ ⟨e1,e2⟩
 dsimp only at e1 e2;have hl1:=congrArg List.length e1;have hl2:=congrArg List.length e2;simp only [aI] at hl1 hl2
 cases ra with
 |nil =>
  have hrb:rb=[]:=by
   have:rb.length=0:=by simp at hl1;omega
   exact Bc.1 this
  have hlt:¬ ((done.length:Int)<(a.marks.length:Int)):=by rw [e1];simp
  have he:a.marks=b.marks:=by rw [e1,e2,hrb]
  have hltb:¬ ((done.length:Int)<(b.marks.length:Int)):=by rw [e2,hrb];simp
  rw [show decide (a.marks=b.marks)=true by simpa using he]
  simp only [hlt,decide_false,go_sem,simprocAttr]
 |cons x ra =>
  cases rb with
  |nil=>simp at hl1 hl2;omega
  |cons y rb =>
   obtain ⟨hx,hlt⟩:=de e1;obtain ⟨hy,hlt2⟩:=de e2;have hnx:IntKind.i64.wrap ((done.length:Int)+1)=(((done++[x]).length:Nat):Int):=ba (by omega) (by simp [aw];omega) (by simp);simp only [hlt,decide_true,hx,hy,hlt2,Rm,go_sem,simprocAttr];cases h4:decide (x=y)
   .have h4':¬ x=y:=by simpa using h4
    have he:¬ a.marks=b.marks:=by
     rw [e1,e2];intro h;have:=List.append_cancel_left h;exact h4' (Bd this).1
    rw [show decide (a.marks=b.marks)=false by simpa using he];simp only [go_sem,simprocAttr]
   .have h4':x=y:=by simpa using h4
    subst h4';simp only [go_sem,simprocAttr];refine bW (done++[x],ra,rb) ⟨by rw [e1];simp,by rw [e2];simp⟩ (j3 _) ?_;simp only [hnx,go_sem,simprocAttr]
theorem ah.arglessD {P} {f} {args args'} {v} (hc:ah P f args v) (h:A6 args' args):ah P f args' v:=by
 intro M0 w cargs hM hg ha;obtain ⟨h1,h2⟩:=h.get;refine hc M0 w cargs hM hg ⟨by rw [ha.1,h1],λi c hi=>?_⟩;obtain ⟨q,hq⟩:∃ q,args'[i]?=some q:=⟨_,bE (by rw [h1];exact (aE.1 hi).1)⟩
 exact (h2 i q c hq hi).rep (ha.2 i q hq)
theorem Rh (k e):PL (.agg [.int .i64 k,.int .i64 e,.nilslice]) (HrTest.pv ⟨k,e,[]⟩):=.aggL rfl ⟨.refl _,.refl _,.nil 2,trivial⟩
def nh (nm:ByteArray):List HrKind->Nat->Int->Int
 |[],_,acc=>acc
 |k::r,i,acc=>nh nm r (i+1) (if k.name==nm then (i:Int) else acc)
def zD (s:HrShop) (first:Bool) (t:HrTest) (p:List UInt8):HrTest :=
 match first,aJ 32 p with
 |true,[_,w1,w2]=>⟨nh (bs w1) s.kinds 0 t.kind,Fc w2,t.marks⟩
 |false,[w0,w1]=>⟨t.kind,t.error,t.marks++[⟨Fc w0,Fc w1⟩]⟩
 |_,_=>t
def xd (s:HrShop):Bool->HrTest->List (List UInt8)->HrTest
 |_,t,[]=>t
 |_,t,[_]=>t
 |f,t,p::q::r=>xd s false (zD s f t p) (q::r)
def vP (s:HrShop) (all:List UInt8):HrTest:=xd s true ⟨-1,0,[]⟩ (aJ 10 all)
def xq (s:HrShop) (all:List UInt8):HrTest×Int :=
 if (hrCheck s).2.2=0 then
  if 300<all.length then (dp,3) else if mI s all (vP s all)=true then (vP s all,0) else (dp,6)
 else (dp,(hrCheck s).2.2)
end Abs
end Go.Proofs.YtfafnkpfamgbbaaGreatDoor
