/- CONTRACTS of the program's functions, and laws on what they return. No conditions but those in the theorems' heads. -/
import Derived.Test.YtnjiadikeacfaaaGreatDoorLibGoX
set_option linter.all false
open Go.Proofs.Tryz renaming prog->TP
namespace Go.Proofs.YtnjiadikeacfaaaGreatDoor
namespace Abs
set_option maxRecDepth 4000
theorem RW(lo hi n):af TP 241 [.int .i64 n,.ptr 1 [.int .i64 lo] 0 0,.ptr 1 [.int .i64 hi] 0 0] (.bool (!al n lo hi)):=by
 refine aa (ah Tryz.func241 rfl (by kernel_rfl)) rfl ?_;simp only[go_sem,simprocAttr];refine aR (λhb=>?_) (λhb=>?_)<;>simp only[hb,go_sem,simprocAttr]<;>simp_all [al];rw[<-decide_not];congr 1;simp
theorem jf(lo hi)(l:List Int)(b)(hl:l.length<1000000000):af TP 179 [.int .i64 lo,.int .i64 hi,.slice 1 (l.map aG) b] (.bool (l.any λn=>!al n lo hi)):=by
 refine aa (ah Tryz.func179 rfl (by kernel_rfl)) rfl ?_;simp only[go_sem,simprocAttr];refine aY (jF (fv:=.func (.func 241) [] [.ptr 1 [.int .i64 lo] 0 0,.ptr 1 [.int .i64 hi] 0 0]) l (λn=>!al n lo hi) b 1 rfl hl λn _=>⟨_,_,_,rfl,RW lo hi n⟩) ?_ (.bool _) ?_
 .simp only[go_sem,simprocAttr]
 .simp only[go_sem,simprocAttr]
def g9 (last:Int):List BdPoint->Int
 |[]=>0
 |p::r=>if(al p.parts 0 20&&al p.add (-300) 300)=true then(if p.parts<=last then 2 else g9 p.parts r) else 7
def dV (c:List BdPoint):Int:=if 6<c.length then 3 else g9 (-1) c
theorem O2(c)(b)(n):af TP 182 [.agg [.slice 2 (c.map BdPoint.pv) b,.int .i64 n]] (.int .i64 (dV c)):=by
 refine aa (ah Tryz.func182 rfl (by kernel_rfl)) rfl ?_;simp only[go_sem,simprocAttr];refine aR (λhb=>?_) (λhb=>?_)<;>simp only[hb,go_sem,simprocAttr]
 .have:6<c.length:=by simp at hb;omega
  simp[dV,this]
 .have h6:¬6<c.length:=by simp at hb;omega
  rw[show dV c=g9 (-1) c by simp[dV,h6]];refine bm [11,12] c (by omega) (τ:=Int) (λdone rest last=>g9 (-1) c=g9 last rest) (λdone last=>[(13,.p (.int .i64 done.length)),(3,.p (.int .i64 last))]) (λ_ _=>[.row 2 [.p (.agg [.slice 2 (c.map BdPoint.pv) b,.int .i64 n])]]) (-1) rfl ?_ ?_ ?_
  .simp only[go_sem,simprocAttr]<;>simp
  .intro last e2;simp only[go_sem,simprocAttr];rw[e2];rfl
  .intro done x r last e1 e2 hx hlt hnx;simp only[hlt,hx,go_sem,simprocAttr];refine ae (jf 0 20 [_] true (by simp)) rfl ?_;simp only[bF,bp,cl,go_sem,simprocAttr];cases h1:al x.parts 0 20
   .simp only[go_sem,simprocAttr];rw[e2,g9,h1];rfl
   simp only[go_sem,simprocAttr];refine ae (jf (-300) 300 [_] true (by simp)) rfl ?_;simp only[bF,bp,cl,go_sem,simprocAttr];cases h2:al x.add (-300) 300
   .simp only[go_sem,simprocAttr];rw[e2,g9,h1,h2];rfl
   simp only[go_sem,simprocAttr];refine aR (λhb=>?_) (λhb=>?_)<;>simp only[hb,go_sem,simprocAttr]
   .rw[e2,g9,h1,h2,mO,if_pos rfl,if_pos (by simpa using hb)]
   .refine aE e1 x.parts (by rw[e2,g9,h1,h2,mO,if_pos rfl,if_neg (by simpa using hb)]) ?_;simp only[hnx,go_sem,simprocAttr]
def vv (done:List BdPoint):Int:=match done.getLast? with|some p=>p.parts|none=>-1
theorem Ms(c)(b):af TP 56 [.slice 2 (c.map BdPoint.pv) b] (.int .i64 (dV c)):=by
 refine aa (ah Tryz.func56 rfl (by kernel_rfl)) rfl ?_;simp only[go_sem,simprocAttr];refine aR (λhb=>?_) (λhb=>?_)<;>simp only[hb,go_sem,simprocAttr]
 .have:6<c.length:=by simp at hb;omega
  simp[dV,this]
 .have h6:¬6<c.length:=by simp at hb;omega
  rw[show dV c=g9 (-1) c by simp[dV,h6]];refine ei [0] c (by omega) (τ:=Unit) (λdone rest _=>g9 (-1) c=g9 (vv done) rest) (λdone _=>[(3,.p (.int .i64 done.length))]) () rfl ?_ ?_ ?_
  .simp only[go_sem,simprocAttr]<;>simp
  .intro _ e2;simp only[go_sem,simprocAttr];rw[e2];rfl
  .intro done x r _ e1 e2 hx hlt hnx;simp only[hlt,hx,go_sem,simprocAttr];refine ae (Bu _ _ _) rfl ?_;simp only[go_sem,simprocAttr];cases h1:al x.parts 0 20
   .simp only[go_sem,simprocAttr];rw[e2,g9,h1];rfl
   simp only[hx,hlt,go_sem,simprocAttr];refine ae (Bu _ _ _) rfl ?_;simp only[go_sem,simprocAttr];cases h2:al x.add (-300) 300
   .simp only[go_sem,simprocAttr];rw[e2,g9,h1,h2];rfl
   have hp0:0<=x.parts:=by simp[al]at h1;omega
   rcases DM done with rfl|⟨pre,d,hpd⟩
   .simp only[go_sem,simprocAttr];refine aE e1 () (by rw[e2,g9,h1,h2,mO,if_pos rfl,if_neg (by simp[vv];omega)];rfl) ?_;simp only[go_sem,simprocAttr]
   .rw[y0]at hpd;subst hpd;have hp:decide ((0:Int)<(((pre++[d]).length:Nat):Int))=true:=by simp<;>omega
    have hw1:IntKind.i64.wrap ((((pre++[d]).length:Nat):Int)-1)=((pre.length:Nat):Int):=by
     rw[cI (by simp<;>omega) (by simp[ar]at hlt |-;omega)];simp
    have hd:c[pre.length]?=some d:=by rw[e1];simp
    have hlt2:((pre.length:Nat):Int)<(c.length:Int):=by simp at hlt;omega
    have hl:vv (pre++[d])=d.parts:=by simp[vv]
    rw[hl]at e2;simp only[hp,hx,hw1,hd,hlt,hlt2,go_sem,simprocAttr];refine aR (λhb=>?_) (λhb=>?_)<;>simp only[hb,go_sem,simprocAttr]
    .rw[e2,g9,h1,h2,mO,if_pos rfl,if_pos (by simpa using hb)]
    .refine aE e1 () (by rw[e2,g9,h1,h2,mO,if_pos rfl,if_neg (by simpa using hb)];simp[vv]) ?_;simp only[hnx,go_sem,simprocAttr]
def cn (s:Span) (a b:Int):Bool:=al s.lo a b&&al s.hi a b
def aL (s:Span):Bool:=decide (s.hi<s.lo)
def bX (before:List ByteArray) (x:BdWax):Int:=
 if ak before x.name=0 then
  if(al x.price 0 100000&&(cn x.melt 0 2000&&cn x.shrink 0 1000))=true then
   if(aL x.melt||aL x.shrink)=true then 2 else dV x.curve
  else 7
 else ak before x.name
def wg:Option (Int×Int)->Int×Int×Int
 |none=>(0,0,0)
 |some (i,e)=>(2,i,e)
def bdCheck (l:List BdWax):Int×Int×Int:=
 if al l.length 1 5=true then wg (firstErr bX (·.name) l []) else(1,0,3)
theorem MF(x y:BdWax):af TP 181 [y.pv,.ptr 7 [x.pv] 0 0] (.bool (y.name==x.name)):=by
 refine aa (ah Tryz.func181 rfl (by kernel_rfl)) rfl ?_;simp only[go_sem,simprocAttr]
theorem kr{before}{x}{a b c}(h1:nameOk x.name=a)(h2:before.any (λt=>t==x.name)=b)(h3:(al x.price 0 100000&&(cn x.melt 0 2000&&cn x.shrink 0 1000))=c) :
  bX before x=if a=true then(if b=true then 5 else if c=true then(if(aL x.melt||aL x.shrink)=true then 2 else dV x.curve) else 7) else 6:=by
 unfold bX ak;rw[h1,h2,h3];cases a<;>cases b<;>rfl
set_option maxHeartbeats 1000000 in
theorem yO(l):af TP 123 [fM l] (aj (bdCheck l)):=by
 refine aa (ah Tryz.func123 rfl (by kernel_rfl)) rfl ?_;simp only[go_sem,simprocAttr];refine ae (jf 1 5 [_] true (by simp)) rfl ?_;simp only[bF,bp,cl,go_sem,simprocAttr];cases h1:al l.length 1 5
 .simp only[aj,bdCheck,h1,go_sem,simprocAttr]
 have hl:l.length<=5:=by simp[al]at h1;omega
 have hspec:bdCheck l=wg (firstErr bX (·.name) l []):=by simp[bdCheck,h1]
 rw[hspec];simp only[go_sem,simprocAttr];refine ei [0,11,12] l (by omega) (τ:=Unit) (λdone rest _=>firstErr bX (·.name) l []=firstErr bX (·.name) rest (done.map (·.name))) (λdone _=>[(13,.p (.int .i64 done.length)),(4,.p (.int .i64 0))]) () rfl ?_ ?_ ?_
 .simp only[go_sem,simprocAttr]<;>simp
 .intro _ e2;simp only[go_sem,simprocAttr];rw[e2];rfl
 .intro done x r _ e1 e2 hx hlt hnx;have hle:((done.length:Nat):Int)<=(l.length:Int):=by omega
  have htk:(l.map BdWax.pv).take done.length=done.map BdWax.pv:=by
   rw[e1,ca,jL (by simp)]
  have hln:(done.length==l.length)=false:=by simp;omega
  have hE:firstErr bX (·.name) l []=if bX (done.map (·.name)) x=0 then firstErr bX (·.name) r ((done++[x]).map (·.name)) else some ((done.length:Int),bX (done.map (·.name)) x):=by
   rw[e2,firstErr];simp
  have fin:∀e,bX (done.map (·.name)) x=e->e≠0->wg (firstErr bX (·.name) l [])=(2,(done.length:Int),e):=by
   intro e he hne;rw[hE,he,if_neg hne];rfl
  simp only[hlt,hx,go_sem,simprocAttr];refine ae (jn x.name) rfl ?_;simp only[go_sem,simprocAttr];cases h2:nameOk x.name
  .simp only[aj,fin 6 (by rw[kr h2 rfl rfl];rfl) (by decide),go_sem,simprocAttr]
  simp only[hle,wv,kL,htk,hln,go_sem,simprocAttr];refine aY (BD (fv:=.func (.func 181) [] [.ptr 7 [x.pv] 0 0]) done (λy=>y.name==x.name) false 7 rfl (by omega) λy _=>⟨_,_,_,rfl,MF x y⟩) ?_ (.bool _) ?_
  .simp only[go_sem,simprocAttr]
  simp only[go_sem,simprocAttr];have hany:(done.map (·.name)).any (λt=>t==x.name)=done.any (λy=>y.name==x.name):=by simp only[jP,jw]
  cases h3:done.any (λy=>y.name==x.name);rotate_left
  .simp only[aj,fin 5 (by rw[kr h2 (hany.trans h3) rfl];rfl) (by decide),go_sem,simprocAttr]
  simp only[go_sem,simprocAttr];refine ae (jf 0 100000 [_] true (by simp)) rfl ?_;simp only[bF,bp,cl,go_sem,simprocAttr];have bad:(al x.price 0 100000&&(cn x.melt 0 2000&&cn x.shrink 0 1000))=false->bX (done.map (·.name)) x=7:=λh=>by rw[kr h2 (hany.trans h3) h];rfl
  cases h4:al x.price 0 100000
  .simp only[aj,fin 7 (bad (by rw[h4];rfl)) (by decide),go_sem,simprocAttr]
  simp only[go_sem,simprocAttr];refine ae (jf 0 2000 [_,_] true (by simp)) rfl ?_;simp only[bF,bp,cl,<-iD,go_sem,simprocAttr];cases h5:(al x.melt.lo 0 2000&&al x.melt.hi 0 2000)
  .simp only[aj,fin 7 (bad (by rw[cn,h5];simp)) (by decide),go_sem,simprocAttr]
  simp only[go_sem,simprocAttr];refine ae (jf 0 1000 [_,_] true (by simp)) rfl ?_;simp only[bF,bp,cl,<-iD,go_sem,simprocAttr];cases h6:(al x.shrink.lo 0 1000&&al x.shrink.hi 0 1000)
  .simp only[aj,fin 7 (bad (by rw[cn,cn,h6];simp)) (by decide),go_sem,simprocAttr]
  have hc:(al x.price 0 100000&&(cn x.melt 0 2000&&cn x.shrink 0 1000))=true:=by rw[cn,cn,h4,h5,h6];rfl
  simp only[go_sem,simprocAttr];cases h7:decide (x.melt.hi<x.melt.lo);rotate_left
  .simp only[aj,fin 2 (by rw[kr h2 (hany.trans h3) hc,aL,h7];rfl) (by decide),go_sem,simprocAttr]
  simp only[go_sem,simprocAttr];cases h8:decide (x.shrink.hi<x.shrink.lo);rotate_left
  .simp only[aj,fin 2 (by rw[kr h2 (hany.trans h3) hc,aL,aL,h7,h8];rfl) (by decide),go_sem,simprocAttr]
  simp only[go_sem,simprocAttr];refine ae (O2 x.curve false 0) rfl ?_;simp only[go_sem,simprocAttr];have hw:bX (done.map (·.name)) x=dV x.curve:=by rw[kr h2 (hany.trans h3) hc,aL,aL,h7,h8];rfl
  cases h9:(dV x.curve != 0)
  .have h9':dV x.curve=0:=by simpa using h9
   simp only[go_sem,simprocAttr];refine aE e1 () (by rw[hE,if_pos (hw.trans h9')]) ?_;simp only[hnx,h9',go_sem,simprocAttr]
  .simp only[aj,fin _ hw (by simpa using h9),go_sem,simprocAttr]
theorem o8(s)(a b):dj s.lo s.hi a b=if cn s a b=true then(if aL s=true then 2 else 0) else 7:=by
 unfold dj cn aL;cases al s.lo a b<;>cases al s.hi a b<;>simp
def jU (m s:Span):Int:=if(cn m 0 2000&&cn s 0 1000)=true then(if(aL m||aL s)=true then 2 else 0) else 7
theorem G4(m s):af TP 55 [m.pv,s.pv] (.int .i64 (jU m s)):=by
 refine aa (ah Tryz.func55 rfl (by kernel_rfl)) rfl ?_;simp only[go_sem,simprocAttr];refine ay (oF _ _ _ _) rfl ?_;simp only[go_sem,simprocAttr];refine ay (oF _ _ _ _) rfl ?_;simp only[o8,go_sem,simprocAttr];unfold jU;cases cn m 0 2000<;>cases cn s 0 1000<;>cases aL m<;>cases aL s<;>simp only[go_sem,simprocAttr]
set_option maxHeartbeats 1000000 in
theorem G5(l):af TP 14 [fM l] (aj (bdCheck l)):=by
 refine aa (ah Tryz.func14 rfl (by kernel_rfl)) rfl ?_;simp only[go_sem,simprocAttr];refine ae (Bu _ _ _) rfl ?_;simp only[go_sem,simprocAttr];cases h1:al l.length 1 5
 .simp only[aj,bdCheck,h1,go_sem,simprocAttr]
 have hl:l.length<=5:=by simp[al]at h1;omega
 have hspec:bdCheck l=wg (firstErr bX (·.name) l []):=by simp[bdCheck,h1]
 rw[hspec];simp only[go_sem,simprocAttr];refine ck 5 1 (by simp only[go_sem,simprocAttr]) ?_;simp only[go_sem,simprocAttr]
 refine bm [0] l (by omega) (τ:=Unit) (λdone rest _=>firstErr bX (·.name) l []=firstErr bX (·.name) rest (done.map (·.name)))
  (λdone _=>[(5,.slice 0 done.length 0 done.length),(6,.p (.int .i64 done.length))]) (λdone _=>[.row 1 (done.map λx=>.p (.str x.name))]) () rfl ?_ ?_ ?_
 .simp only[go_sem,simprocAttr]<;>simp
 .intro _ e2;simp only[go_sem,simprocAttr];rw[e2];rfl
 .intro done x r _ e1 e2 hx hlt hnx;have hrm:done.length+1<=ar:=by simp[ar];omega
  have hE:firstErr bX (·.name) l []=if bX (done.map (·.name)) x=0 then firstErr bX (·.name) r ((done++[x]).map (·.name)) else some ((done.length:Int),bX (done.map (·.name)) x):=by
   rw[e2,firstErr];simp
  have fin:∀e,bX (done.map (·.name)) x=e->e≠0->wg (firstErr bX (·.name) l [])=(2,(done.length:Int),e):=by
   intro e he hne;rw[hE,he,if_neg hne];rfl
  simp only[hlt,hx,go_sem,simprocAttr];refine aY (je x.name (done.map (·.name)) false (done.map λx=>.str x.name) (by simp) (by simp;omega)) ?_ (.int _ _) ?_
  .simp only[go_sem,simprocAttr]
  simp only[hrm,hlt,hx,go_sem,simprocAttr];cases h5:(ak (done.map (·.name)) x.name==0)
  .have h5':ak (done.map (·.name)) x.name≠0:=by simpa using h5
   have h5n:(ak (done.map (·.name)) x.name != 0)=true:=by simp[bne,h5]
   simp only[h5,h5n,aj,fin _ (by rw[bX,if_neg h5']) h5',go_sem,simprocAttr]
  have h5':ak (done.map (·.name)) x.name=0:=by simpa using h5
  simp only[hx,hlt,go_sem,simprocAttr];refine ae (Bu _ _ _) rfl ?_;simp only[go_sem,simprocAttr];cases h6:al x.price 0 100000
  .simp only[aj,fin 7 (by simp[bX,h5',h6]) (by decide),go_sem,simprocAttr]
  simp only[h5,hx,hlt,go_sem,simprocAttr];refine ay (G4 x.melt x.shrink) rfl ?_;simp only[go_sem,simprocAttr];have hw:bX (done.map (·.name)) x=if jU x.melt x.shrink=0 then dV x.curve else jU x.melt x.shrink:=by
   unfold bX jU;rw[if_pos h5',h6];cases (cn x.melt 0 2000&&cn x.shrink 0 1000)<;>cases (aL x.melt||aL x.shrink)<;>rfl
  cases h7:(jU x.melt x.shrink==0)
  .have h7':jU x.melt x.shrink≠0:=by simpa using h7
   have h7n:(jU x.melt x.shrink != 0)=true:=by simp[bne,h7]
   simp only[h7n,aj,fin _ (by rw[hw,if_neg h7']) h7',go_sem,simprocAttr]
  have h7':jU x.melt x.shrink=0:=by simpa using h7
  rw[if_pos h7']at hw;simp only[hx,hlt,go_sem,simprocAttr];refine ae (Ms x.curve false) rfl ?_;simp only[go_sem,simprocAttr];cases h9:(dV x.curve != 0)
  .have h9':dV x.curve=0:=by simpa using h9
   simp only[go_sem,simprocAttr];refine aE e1 () (by rw[hE,if_pos (hw.trans h9')]) ?_;simp only[hnx,aK,ca,go_sem,simprocAttr]
  .simp only[aj,fin _ hw (by simpa using h9),go_sem,simprocAttr]
structure CurveOk (c:List BdPoint):Prop where
 len:c.length<=6
 pt:∀p,p∈c->0<=p.parts/\p.parts<=20/\-300<=p.add/\p.add<=300
 up:c.Pairwise λa b=>a.parts<b.parts
theorem En:∀(c) (last),g9 last c=0->(∀p,p∈c->0<=p.parts/\p.parts<=20/\-300<=p.add/\p.add<=300)/\c.Pairwise (λa b=>a.parts<b.parts)/\∀p,p∈c->last<p.parts
 |[],_,_=>⟨by simp,.nil,by simp⟩
 |q::r,last,h=>by
  rw[g9]at h;split at h
  .rename_i hg;split at h
   .cases h
   .rename_i hl;obtain⟨h1,h2,h3⟩:=En r _ h;have hq:0<=q.parts/\q.parts<=20/\-300<=q.add/\q.add<=300:=by simp[al]at hg;omega
    refine⟨?_,.cons (λp hp=>h3 p hp) h2,?_⟩
    .intro p hp;rcases ce.1 hp with rfl|hp
     .exact hq
     .exact h1 p hp
    .intro p hp;rcases ce.1 hp with rfl|hp
     .omega
     .have:=h3 p hp;omega
  .cases h
theorem JR{c}(h:dV c=0):CurveOk c:=by
 unfold dV at h;split at h
 .cases h
 .obtain⟨h1,h2,_⟩:=En c _ h;exact⟨by omega,h1,h2⟩
def oS (a b:BdPoint) (n:Int):Int:=a.add+(b.add-a.add)*(n-a.parts) / (b.parts-a.parts)
def kI (a:BdPoint):List BdPoint->Int->Int
 |[],_=>a.add
 |b::r,n=>if n<=b.parts then oS a b n else kI b r n
def pL:List BdPoint->Int->Int
 |[],_=>0
 |a::r,n=>if n<=a.parts then a.add else kI a r n
theorem Rd(a b:Int)(hb:0<b):(if a.tmod b<0 then a.tdiv b-1 else a.tdiv b)=a / b:=by
 have h:=Int.mul_tdiv_add_tmod a b;rcases IF 0 a with ha|ha
 .have h1:=Int.tmod_nonneg b ha;rw[if_neg (by omega),Int.tdiv_eq_ediv_of_nonneg ha]
 .have h1:-b<a.tmod b:=Int.lt_tmod_of_pos a hb;have h2:a.tmod b<=0:=by
   have:=Int.tmod_nonneg b (a:=-a) (by omega);rw[Int.neg_tmod]at this;omega
  split
  .rename_i h3;symm;rw[Int.ediv_eq_iff_of_pos hb];have:b*(a.tdiv b-1)=b*a.tdiv b-b:=by rw[Int.mul_sub,Int.mul_one]
   rw[AN];constructor<;>omega
  .rename_i h3;symm;rw[Int.ediv_eq_iff_of_pos hb];rw[AN];constructor<;>omega
theorem Ur(a b)(ha:-1000000000000000<=a/\a<=1000000000000000)(hb:0<b):af TP 339 [.int .i64 a,.int .i64 b] (.int .i64 (a / b)):=by
 refine aa (ah Tryz.func339 rfl (by kernel_rfl)) rfl ?_;have hb0:b≠0:=by omega
 have hq:-1000000000000000<=a.tdiv b/\a.tdiv b<=1000000000000000:=by
  have h1:=Int.natAbs_tdiv_le_natAbs a b;omega
 have hw:IntKind.i64.wrap (a.tdiv b)=a.tdiv b:=am (by omega) (by omega);have hw1:IntKind.i64.wrap (a.tdiv b-1)=a.tdiv b-1:=am (by omega) (by omega);have he:=Rd a b hb;simp only[hb0,hw,go_sem,simprocAttr];refine aR (λhc=>?_) (λhc=>?_)<;>simp only[hc,hw1,go_sem,simprocAttr]
 .rw[if_pos (by simpa using hc)]at he;exact he
 .rw[if_neg (by simpa using hc)]at he;exact he
theorem OU(c:List BdPoint)(b)(n)(i:Nat)(p)(hi:c[i]?=some p):af TP 338 [.agg [.slice 2 (c.map BdPoint.pv) b,.int .i64 n],.int .i64 i] (.bool (decide (n<=p.parts))):=by
 refine aa (ah Tryz.func338 rfl (by kernel_rfl)) rfl ?_;have hlt:((i:Nat):Int)<(c.length:Int):=by have:=(ax.1 hi).1;omega
 simp only[hlt,hi,go_sem,simprocAttr]
theorem xJ:∀{c:List BdPoint} (n),c.Pairwise (λa b=>a.parts<b.parts)->∃pre post,c=pre++post/\(∀p,p∈pre->p.parts<n)/\∀p,p∈post->n<=p.parts
 |[],_,_=>⟨[],[],rfl,by simp,by simp⟩
 |a::r,n,h=>by
  cases h with
  |cons h1 h2=>
   by_cases ha:a.parts<n
   .obtain⟨pre,post,e,g1,g2⟩:=xJ n h2;refine⟨a::pre,post,by rw[e];rfl,λp hp=>?_,g2⟩;rcases ce.1 hp with rfl|hp
    .exact ha
    .exact g1 p hp
   .refine⟨[],a::r,rfl,by simp,λp hp=>?_⟩;rcases ce.1 hp with rfl|hp
    .omega
    .have:=h1 p hp;omega
theorem CU(n):∀(pre) (x a) (post),(∀p,p∈pre++[a]->p.parts<n)->kI x (pre++a::post) n=kI a post n
 |[],x,a,post,h=>by
  have:=h a (by simp)
  rw[gR,kI,if_neg (by omega)]
 |y::pre,x,a,post,h=>by
  have:=h y (by simp);rw[eW,kI,if_neg (by omega)];exact CU n pre y a post λp hp=>h p (by simp at hp |-;exact .inr hp)
theorem Ph{n}(pre)(a)(post)(h:∀p,p∈pre++[a]->p.parts<n):pL (pre++a::post) n=kI a post n:=by
 cases pre with
 |nil=>
  have:=h a (by simp)
  rw[gR,pL,if_neg (by omega)]
 |cons y pre=>
  have:=h y (by simp);rw[eW,pL,if_neg (by omega)];exact CU n pre y a post λp hp=>h p (by simp at hp |-;exact .inr hp)
theorem HQ{a b}{n}(ha:0<=a.parts/\a.parts<=20/\-300<=a.add/\a.add<=300)(hb:0<=b.parts/\b.parts<=20/\-300<=b.add/\b.add<=300)(h1:a.parts<=n)(h2:n<=b.parts)(h3:a.parts<b.parts) :
  -20000<=(b.add-a.add)*(n-a.parts)/\(b.add-a.add)*(n-a.parts)<=20000 /\
  ((a.add<=b.add->a.add<=oS a b n/\oS a b n<=b.add)/\(b.add<=a.add->b.add<=oS a b n/\oS a b n<=a.add)):=by
 unfold oS;generalize hk:n-a.parts=k;generalize hm:b.parts-a.parts=m;generalize hd:b.add-a.add=d;have k0:0<=k:=by omega
 have k1:k<=20:=by omega
 have hkm:k<=m:=by omega
 have m0:0<m:=by omega
 have e1:(-600)*k<=d*k:=tr (by omega) k0;have e2:d*k<=600*k:=tr (by omega) k0;refine⟨by omega,by omega,λh=>?_,λh=>?_⟩
 .have d0:0<=d:=by omega
  have g1:0<=d*k / m:=Int.ediv_nonneg (tu d0 k0) (by omega);have g2:d*k / m<=d:=by
   have:=DP m0 (tk hkm d0);rwa [Int.mul_ediv_cancel _ (by omega)]at this
  omega
 .have d0:d<=0:=by omega
  have g1:d*k / m<=0:=by
   have:=DP m0 (show d*k<=0 from Int.mul_nonpos_of_nonpos_of_nonneg d0 k0);simpa using this
  have g2:d<=d*k / m:=by
   have e:d*m<=d*k:=Int.mul_le_mul_of_nonpos_left d0 hkm;have:=DP m0 e;rwa [Int.mul_ediv_cancel _ (by omega)]at this
  omega
theorem Uv(c)(b)(n)(hc:CurveOk c):af TP 336 [.agg [.slice 2 (c.map BdPoint.pv) b,.int .i64 n]] (.int .i64 (pL c n)):=by
 refine aa (eA (by kernel_rfl) rfl Vj) rfl ?_;obtain⟨pre,post,e,g1,g2⟩:=xJ n hc.up;have hlen:=hc.len;have hlt:pre.length<=c.length:=by rw[e];simp
 simp only[UT,go_sem,simprocAttr];refine aR (λhb=>?_) (λhb=>?_)
 .have:c=[]:=by simpa using hb
  simp only[this,pL,go_sem,simprocAttr]
 simp only[go_sem,simprocAttr];refine ae (RE (fv:=.func (.func 338) [.agg [.slice 2 (c.map BdPoint.pv) b,.int .i64 n]] []) c.length (λi=>match c[i]? with|some p=>decide (n<=p.parts)|none=>true) (by omega) (λi hi=>?_) pre.length hlt (λi hi=>?_) λi h1 h2=>?_) rfl ?_
 .have hg:c[i]?=some c[i]:=bA hi;rw[hg];exact⟨_,_,_,rfl,OU c b n i _ hg⟩
 .rw[e,aZ hi,bA hi];have:=g1 _ (y4 hi);simp;omega
 .have hh:i-pre.length<post.length:=by rw[e]at h2;simp at h2;omega
  rw[e,cm h1,bA hh];have:=g2 _ (y4 hh);simp;omega
 simp only[go_sem,simprocAttr];rcases DM pre with rfl|⟨pr,a,hp⟩
 .cases post with
  |nil=>subst e;simp at hb
  |cons x post=>
   have hx:=g2 x (by simp);rw[gR]at e;have h0:c[0]?=some x:=by rw[e];rfl
   have h0':(0:Int)<(c.length:Int):=by rw[e];simp<;>omega
   simp only[h0',h0,cH,go_sem,simprocAttr];rw[e,pL,if_pos hx]
 .rw[y0]at hp;subst hp;have hz:((((pr++[a]).length:Nat):Int)==0)=false:=by simp<;>omega
  have hw1:IntKind.i64.wrap ((((pr++[a]).length:Nat):Int)-1)=((pr.length:Nat):Int):=by
   rw[cI (by simp<;>omega) (by simp[ar]at hlt |-;omega)];simp
  have ha:c[pr.length]?=some a:=by rw[e];simp
  have hla:((pr.length:Nat):Int)<(c.length:Int):=by simp at hlt;omega
  have hadd:pL c n=kI a post n:=by rw[e];simpa using Ph pr a post g1
  cases post with
  |nil=>
   have hlc:((((pr++[a]).length:Nat):Int)==(c.length:Int))=true:=by rw[e];simp
   simp only[hz,hlc,hw1,ha,hla,hadd,kI,go_sem,simprocAttr]
  |cons x post=>
   have hx:=g2 x (by simp);have hap:=g1 a (by simp);have hxc:c[(pr++[a]).length]?=some x:=by rw[e];simp
   have hlx:(((pr++[a]).length:Nat):Int)<(c.length:Int):=by rw[e];simp<;>omega
   have hlc:((((pr++[a]).length:Nat):Int)==(c.length:Int))=false:=by simp only[beq_eq_false_iff_ne];omega
   have pa:=hc.pt a (by rw[e];simp);have px:=hc.pt x (by rw[e];simp);obtain⟨b1,b2,b3⟩:=HQ pa px (by omega) hx (by omega);have w1:IntKind.i64.wrap (x.add-a.add)=x.add-a.add:=am (by omega) (by omega);have w2:IntKind.i64.wrap (n-a.parts)=n-a.parts:=am (by omega) (by omega);have w3:IntKind.i64.wrap ((x.add-a.add)*(n-a.parts))=(x.add-a.add)*(n-a.parts):=am (by omega) (by omega);have w4:IntKind.i64.wrap (x.parts-a.parts)=x.parts-a.parts:=am (by omega) (by omega);have w5:IntKind.i64.wrap (oS a x n)=oS a x n:=am (by omega) (by omega);simp only[hz,hlc,hw1,ha,hla,hxc,hlx,w1,w2,w3,w4,aV,go_sem,simprocAttr];refine ay (Ur _ _ (by omega) (by omega)) rfl ?_;simp only[go_sem,simprocAttr];rw[hadd,kI,if_pos hx];exact w5
end Abs
end Go.Proofs.YtnjiadikeacfaaaGreatDoor
