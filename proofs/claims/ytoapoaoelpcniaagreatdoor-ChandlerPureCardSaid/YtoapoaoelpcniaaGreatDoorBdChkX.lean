/- CONTRACTS of the program's functions, and laws on what they return. No conditions but those in the theorems' heads. -/
import Derived.Test.YtoapoaoelpcniaaGreatDoorLibGoX
set_option linter.all false
open Go.Proofs.Tryz renaming prog->TP
namespace Go.Proofs.YtoapoaoelpcniaaGreatDoor
namespace Abs
set_option maxRecDepth 4000
theorem T4(lo hi n):af TP 246 [.int .i64 n,.ptr 1 [.int .i64 lo] 0 0,.ptr 1 [.int .i64 hi] 0 0] (.bool (!ar n lo hi)):=by
 refine aa (ah Tryz.func246 rfl (by kernel_rfl)) rfl ?_;simp only[go_sem,simprocAttr];refine aT (λhb=>?_) (λhb=>?_)<;>simp only[hb,go_sem,simprocAttr]<;>simp_all [ar];rw[<-decide_not];congr 1;simp
theorem jH(lo hi)(l:List Int)(b)(hl:l.length<1000000000):af TP 184 [.int .i64 lo,.int .i64 hi,.slice 1 (l.map aI) b] (.bool (l.any λn=>!ar n lo hi)):=by
 refine aa (ah Tryz.func184 rfl (by kernel_rfl)) rfl ?_;simp only[go_sem,simprocAttr];refine bf (ko (fv:=.func (.func 246) [] [.ptr 1 [.int .i64 lo] 0 0,.ptr 1 [.int .i64 hi] 0 0]) l (λn=>!ar n lo hi) b 1 rfl hl λn _=>⟨_,_,_,rfl,T4 lo hi n⟩) ?_ (.bool _) ?_
 .simp only[go_sem,simprocAttr]
 .simp only[go_sem,simprocAttr]
def iz (last:Int):List BdPoint->Int
 |[]=>0
 |p::r=>if(ar p.parts 0 20&&ar p.add (-300) 300)=true then(if p.parts<=last then 2 else iz p.parts r) else 7
def et (c:List BdPoint):Int:=if 6<c.length then 3 else iz (-1) c
theorem Q3(c)(b)(n):af TP 187 [.agg [.slice 2 (c.map BdPoint.pv) b,.int .i64 n]] (.int .i64 (et c)):=by
 refine aa (ah Tryz.func187 rfl (by kernel_rfl)) rfl ?_;simp only[go_sem,simprocAttr];refine aT (λhb=>?_) (λhb=>?_)<;>simp only[hb,go_sem,simprocAttr]
 .have:6<c.length:=by simp at hb;omega
  simp[et,this]
 .have h6:¬6<c.length:=by simp at hb;omega
  rw[show et c=iz (-1) c by simp[et,h6]];refine aQ [11,12] c (by omega) (τ:=Int) (λdone rest last=>iz (-1) c=iz last rest) (λdone last=>[(13,.p (.int .i64 done.length)),(3,.p (.int .i64 last))]) (λ_ _=>[.row 2 [.p (.agg [.slice 2 (c.map BdPoint.pv) b,.int .i64 n])]]) (-1) rfl ?_ ?_ ?_
  .simp only[go_sem,simprocAttr]<;>simp
  .intro last e2;simp only[go_sem,simprocAttr];rw[e2];rfl
  .intro done x r last e1 e2 hx hlt hnx;simp only[hlt,hx,go_sem,simprocAttr];refine ae (jH 0 20 [_] true (by simp)) rfl ?_;simp only[cV,bw,cD,go_sem,simprocAttr];cases h1:ar x.parts 0 20
   .simp only[go_sem,simprocAttr];rw[e2,iz,h1];rfl
   simp only[go_sem,simprocAttr];refine ae (jH (-300) 300 [_] true (by simp)) rfl ?_;simp only[cV,bw,cD,go_sem,simprocAttr];cases h2:ar x.add (-300) 300
   .simp only[go_sem,simprocAttr];rw[e2,iz,h1,h2];rfl
   simp only[go_sem,simprocAttr];refine aT (λhb=>?_) (λhb=>?_)<;>simp only[hb,go_sem,simprocAttr]
   .rw[e2,iz,h1,h2,nY,if_pos rfl,if_pos (by simpa using hb)]
   .refine ak e1 x.parts (by rw[e2,iz,h1,h2,nY,if_pos rfl,if_neg (by simpa using hb)]) ?_;simp only[hnx,go_sem,simprocAttr]
def xn (done:List BdPoint):Int:=match done.getLast? with|some p=>p.parts|none=>-1
theorem Ok(c)(b):af TP 97 [.slice 2 (c.map BdPoint.pv) b] (.int .i64 (et c)):=by
 refine aa (ah Tryz.func97 rfl (by kernel_rfl)) rfl ?_;simp only[go_sem,simprocAttr];refine aT (λhb=>?_) (λhb=>?_)<;>simp only[hb,go_sem,simprocAttr]
 .have:6<c.length:=by simp at hb;omega
  simp[et,this]
 .have h6:¬6<c.length:=by simp at hb;omega
  rw[show et c=iz (-1) c by simp[et,h6]];refine eM [0] c (by omega) (τ:=Unit) (λdone rest _=>iz (-1) c=iz (xn done) rest) (λdone _=>[(3,.p (.int .i64 done.length))]) () rfl ?_ ?_ ?_
  .simp only[go_sem,simprocAttr]<;>simp
  .intro _ e2;simp only[go_sem,simprocAttr];rw[e2];rfl
  .intro done x r _ e1 e2 hx hlt hnx;simp only[hlt,hx,go_sem,simprocAttr];refine ae (CS _ _ _) rfl ?_;simp only[go_sem,simprocAttr];cases h1:ar x.parts 0 20
   .simp only[go_sem,simprocAttr];rw[e2,iz,h1];rfl
   simp only[hx,hlt,go_sem,simprocAttr];refine ae (CS _ _ _) rfl ?_;simp only[go_sem,simprocAttr];cases h2:ar x.add (-300) 300
   .simp only[go_sem,simprocAttr];rw[e2,iz,h1,h2];rfl
   have hp0:0<=x.parts:=by simp[ar]at h1;omega
   rcases yg done with rfl|⟨pre,d,hpd⟩
   .simp only[go_sem,simprocAttr];refine ak e1 () (by rw[e2,iz,h1,h2,nY,if_pos rfl,if_neg (by simp[xn];omega)];rfl) ?_;simp only[go_sem,simprocAttr]
   .rw[yj]at hpd;subst hpd;have hp:decide ((0:Int)<(((pre++[d]).length:Nat):Int))=true:=by simp<;>omega
    have hw1:IntKind.i64.wrap ((((pre++[d]).length:Nat):Int)-1)=((pre.length:Nat):Int):=by
     rw[cA (by simp<;>omega) (by simp[aw]at hlt |-;omega)];simp
    have hd:c[pre.length]?=some d:=by rw[e1];simp
    have hlt2:((pre.length:Nat):Int)<(c.length:Int):=by simp at hlt;omega
    have hl:xn (pre++[d])=d.parts:=by simp[xn]
    rw[hl]at e2;simp only[hp,hx,hw1,hd,hlt,hlt2,go_sem,simprocAttr];refine aT (λhb=>?_) (λhb=>?_)<;>simp only[hb,go_sem,simprocAttr]
    .rw[e2,iz,h1,h2,nY,if_pos rfl,if_pos (by simpa using hb)]
    .refine ak e1 () (by rw[e2,iz,h1,h2,nY,if_pos rfl,if_neg (by simpa using hb)];simp[xn]) ?_;simp only[hnx,go_sem,simprocAttr]
def cv (s:Span) (a b:Int):Bool:=ar s.lo a b&&ar s.hi a b
def aR (s:Span):Bool:=decide (s.hi<s.lo)
def ca (before:List ByteArray) (x:BdWax):Int:=
 if am before x.name=0 then
  if(ar x.price 0 100000&&(cv x.melt 0 2000&&cv x.shrink 0 1000))=true then
   if(aR x.melt||aR x.shrink)=true then 2 else et x.curve
  else 7
 else am before x.name
def xY:Option (Int×Int)->Int×Int×Int
 |none=>(0,0,0)
 |some (i,e)=>(2,i,e)
def bdCheck (l:List BdWax):Int×Int×Int:=
 if ar l.length 1 5=true then xY (firstErr ca (·.name) l []) else(1,0,3)
theorem Oy(x y:BdWax):af TP 186 [y.pv,.ptr 7 [x.pv] 0 0] (.bool (y.name==x.name)):=by
 refine aa (ah Tryz.func186 rfl (by kernel_rfl)) rfl ?_;simp only[go_sem,simprocAttr]
theorem lh{before}{x}{a b c}(h1:nameOk x.name=a)(h2:before.any (λt=>t==x.name)=b)(h3:(ar x.price 0 100000&&(cv x.melt 0 2000&&cv x.shrink 0 1000))=c) :
  ca before x=if a=true then(if b=true then 5 else if c=true then(if(aR x.melt||aR x.shrink)=true then 2 else et x.curve) else 7) else 6:=by
 unfold ca am;rw[h1,h2,h3];cases a<;>cases b<;>rfl
set_option maxHeartbeats 1000000 in
theorem Ai(l):af TP 130 [f' l] (al (bdCheck l)):=by
 refine aa (ah Tryz.func130 rfl (by kernel_rfl)) rfl ?_;simp only[go_sem,simprocAttr];refine ae (jH 1 5 [_] true (by simp)) rfl ?_;simp only[cV,bw,cD,go_sem,simprocAttr];cases h1:ar l.length 1 5
 .simp only[al,bdCheck,h1,go_sem,simprocAttr]
 have hl:l.length<=5:=by simp[ar]at h1;omega
 have hspec:bdCheck l=xY (firstErr ca (·.name) l []):=by simp[bdCheck,h1]
 rw[hspec];simp only[go_sem,simprocAttr];refine eM [0,11,12] l (by omega) (τ:=Unit) (λdone rest _=>firstErr ca (·.name) l []=firstErr ca (·.name) rest (done.map (·.name))) (λdone _=>[(13,.p (.int .i64 done.length)),(4,.p (.int .i64 0))]) () rfl ?_ ?_ ?_
 .simp only[go_sem,simprocAttr]<;>simp
 .intro _ e2;simp only[go_sem,simprocAttr];rw[e2];rfl
 .intro done x r _ e1 e2 hx hlt hnx;have hle:((done.length:Nat):Int)<=(l.length:Int):=by omega
  have htk:(l.map BdWax.pv).take done.length=done.map BdWax.pv:=by
   rw[e1,cj,gk (by simp)]
  have hln:(done.length==l.length)=false:=by simp;omega
  have hE:firstErr ca (·.name) l []=if ca (done.map (·.name)) x=0 then firstErr ca (·.name) r ((done++[x]).map (·.name)) else some ((done.length:Int),ca (done.map (·.name)) x):=by
   rw[e2,firstErr];simp
  have fin:∀e,ca (done.map (·.name)) x=e->e≠0->xY (firstErr ca (·.name) l [])=(2,(done.length:Int),e):=by
   intro e he hne;rw[hE,he,if_neg hne];rfl
  simp only[hlt,hx,go_sem,simprocAttr];refine ae (jU x.name) rfl ?_;simp only[go_sem,simprocAttr];cases h2:nameOk x.name
  .simp only[al,fin 6 (by rw[lh h2 rfl rfl];rfl) (by decide),go_sem,simprocAttr]
  simp only[hle,Ca,je,htk,hln,go_sem,simprocAttr];refine bf (C1 (fv:=.func (.func 186) [] [.ptr 7 [x.pv] 0 0]) done (λy=>y.name==x.name) false 7 rfl (by omega) λy _=>⟨_,_,_,rfl,Oy x y⟩) ?_ (.bool _) ?_
  .simp only[go_sem,simprocAttr]
  simp only[go_sem,simprocAttr];have hany:(done.map (·.name)).any (λt=>t==x.name)=done.any (λy=>y.name==x.name):=by simp only[ny,j5]
  cases h3:done.any (λy=>y.name==x.name);rotate_left
  .simp only[al,fin 5 (by rw[lh h2 (hany.trans h3) rfl];rfl) (by decide),go_sem,simprocAttr]
  simp only[go_sem,simprocAttr];refine ae (jH 0 100000 [_] true (by simp)) rfl ?_;simp only[cV,bw,cD,go_sem,simprocAttr];have bad:(ar x.price 0 100000&&(cv x.melt 0 2000&&cv x.shrink 0 1000))=false->ca (done.map (·.name)) x=7:=λh=>by rw[lh h2 (hany.trans h3) h];rfl
  cases h4:ar x.price 0 100000
  .simp only[al,fin 7 (bad (by rw[h4];rfl)) (by decide),go_sem,simprocAttr]
  simp only[go_sem,simprocAttr];refine ae (jH 0 2000 [_,_] true (by simp)) rfl ?_;simp only[cV,bw,cD,<-iZ,go_sem,simprocAttr];cases h5:(ar x.melt.lo 0 2000&&ar x.melt.hi 0 2000)
  .simp only[al,fin 7 (bad (by rw[cv,h5];simp)) (by decide),go_sem,simprocAttr]
  simp only[go_sem,simprocAttr];refine ae (jH 0 1000 [_,_] true (by simp)) rfl ?_;simp only[cV,bw,cD,<-iZ,go_sem,simprocAttr];cases h6:(ar x.shrink.lo 0 1000&&ar x.shrink.hi 0 1000)
  .simp only[al,fin 7 (bad (by rw[cv,cv,h6];simp)) (by decide),go_sem,simprocAttr]
  have hc:(ar x.price 0 100000&&(cv x.melt 0 2000&&cv x.shrink 0 1000))=true:=by rw[cv,cv,h4,h5,h6];rfl
  simp only[go_sem,simprocAttr];cases h7:decide (x.melt.hi<x.melt.lo);rotate_left
  .simp only[al,fin 2 (by rw[lh h2 (hany.trans h3) hc,aR,h7];rfl) (by decide),go_sem,simprocAttr]
  simp only[go_sem,simprocAttr];cases h8:decide (x.shrink.hi<x.shrink.lo);rotate_left
  .simp only[al,fin 2 (by rw[lh h2 (hany.trans h3) hc,aR,aR,h7,h8];rfl) (by decide),go_sem,simprocAttr]
  simp only[go_sem,simprocAttr];refine ae (Q3 x.curve false 0) rfl ?_;simp only[go_sem,simprocAttr];have hw:ca (done.map (·.name)) x=et x.curve:=by rw[lh h2 (hany.trans h3) hc,aR,aR,h7,h8];rfl
  cases h9:(et x.curve != 0)
  .have h9':et x.curve=0:=by simpa using h9
   simp only[go_sem,simprocAttr];refine ak e1 () (by rw[hE,if_pos (hw.trans h9')]) ?_;simp only[hnx,h9',go_sem,simprocAttr]
  .simp only[al,fin _ hw (by simpa using h9),go_sem,simprocAttr]
theorem qC(s)(a b):dI s.lo s.hi a b=if cv s a b=true then(if aR s=true then 2 else 0) else 7:=by
 unfold dI cv aR;cases ar s.lo a b<;>cases ar s.hi a b<;>simp
def kD (m s:Span):Int:=if(cv m 0 2000&&cv s 0 1000)=true then(if(aR m||aR s)=true then 2 else 0) else 7
theorem IW(m s):af TP 96 [m.pv,s.pv] (.int .i64 (kD m s)):=by
 refine aa (ah Tryz.func96 rfl (by kernel_rfl)) rfl ?_;simp only[go_sem,simprocAttr];refine ax (p9 _ _ _ _) rfl ?_;simp only[go_sem,simprocAttr];refine ax (p9 _ _ _ _) rfl ?_;simp only[qC,go_sem,simprocAttr];unfold kD;cases cv m 0 2000<;>cases cv s 0 1000<;>cases aR m<;>cases aR s<;>simp only[go_sem,simprocAttr]
set_option maxHeartbeats 1000000 in
theorem IX(l):af TP 55 [f' l] (al (bdCheck l)):=by
 refine aa (ah Tryz.func55 rfl (by kernel_rfl)) rfl ?_;simp only[go_sem,simprocAttr];refine ae (CS _ _ _) rfl ?_;simp only[go_sem,simprocAttr];cases h1:ar l.length 1 5
 .simp only[al,bdCheck,h1,go_sem,simprocAttr]
 have hl:l.length<=5:=by simp[ar]at h1;omega
 have hspec:bdCheck l=xY (firstErr ca (·.name) l []):=by simp[bdCheck,h1]
 rw[hspec];simp only[go_sem,simprocAttr];refine cl 5 1 (by simp only[go_sem,simprocAttr]) ?_;simp only[go_sem,simprocAttr]
 refine aQ [0] l (by omega) (τ:=Unit) (λdone rest _=>firstErr ca (·.name) l []=firstErr ca (·.name) rest (done.map (·.name)))
  (λdone _=>[(5,.slice 0 done.length 0 done.length),(6,.p (.int .i64 done.length))]) (λdone _=>[.row 1 (done.map λx=>.p (.str x.name))]) () rfl ?_ ?_ ?_
 .simp only[go_sem,simprocAttr]<;>simp
 .intro _ e2;simp only[go_sem,simprocAttr];rw[e2];rfl
 .intro done x r _ e1 e2 hx hlt hnx;have hrm:done.length+1<=aw:=by simp[aw];omega
  have hE:firstErr ca (·.name) l []=if ca (done.map (·.name)) x=0 then firstErr ca (·.name) r ((done++[x]).map (·.name)) else some ((done.length:Int),ca (done.map (·.name)) x):=by
   rw[e2,firstErr];simp
  have fin:∀e,ca (done.map (·.name)) x=e->e≠0->xY (firstErr ca (·.name) l [])=(2,(done.length:Int),e):=by
   intro e he hne;rw[hE,he,if_neg hne];rfl
  simp only[hlt,hx,go_sem,simprocAttr];refine bf (jG x.name (done.map (·.name)) false (done.map λx=>.str x.name) (by simp) (by simp;omega)) ?_ (.int _ _) ?_
  .simp only[go_sem,simprocAttr]
  simp only[hrm,hlt,hx,go_sem,simprocAttr];cases h5:(am (done.map (·.name)) x.name==0)
  .have h5':am (done.map (·.name)) x.name≠0:=by simpa using h5
   have h5n:(am (done.map (·.name)) x.name != 0)=true:=by simp[bne,h5]
   simp only[h5,h5n,al,fin _ (by rw[ca,if_neg h5']) h5',go_sem,simprocAttr]
  have h5':am (done.map (·.name)) x.name=0:=by simpa using h5
  simp only[hx,hlt,go_sem,simprocAttr];refine ae (CS _ _ _) rfl ?_;simp only[go_sem,simprocAttr];cases h6:ar x.price 0 100000
  .simp only[al,fin 7 (by simp[ca,h5',h6]) (by decide),go_sem,simprocAttr]
  simp only[h5,hx,hlt,go_sem,simprocAttr];refine ax (IW x.melt x.shrink) rfl ?_;simp only[go_sem,simprocAttr];have hw:ca (done.map (·.name)) x=if kD x.melt x.shrink=0 then et x.curve else kD x.melt x.shrink:=by
   unfold ca kD;rw[if_pos h5',h6];cases (cv x.melt 0 2000&&cv x.shrink 0 1000)<;>cases (aR x.melt||aR x.shrink)<;>rfl
  cases h7:(kD x.melt x.shrink==0)
  .have h7':kD x.melt x.shrink≠0:=by simpa using h7
   have h7n:(kD x.melt x.shrink != 0)=true:=by simp[bne,h7]
   simp only[h7n,al,fin _ (by rw[hw,if_neg h7']) h7',go_sem,simprocAttr]
  have h7':kD x.melt x.shrink=0:=by simpa using h7
  rw[if_pos h7']at hw;simp only[hx,hlt,go_sem,simprocAttr];refine ae (Ok x.curve false) rfl ?_;simp only[go_sem,simprocAttr];cases h9:(et x.curve != 0)
  .have h9':et x.curve=0:=by simpa using h9
   simp only[go_sem,simprocAttr];refine ak e1 () (by rw[hE,if_pos (hw.trans h9')]) ?_;simp only[hnx,aB,cj,go_sem,simprocAttr]
  .simp only[al,fin _ hw (by simpa using h9),go_sem,simprocAttr]
structure CurveOk (c:List BdPoint):Prop where
 len:c.length<=6
 pt:∀p,p∈c->0<=p.parts/\p.parts<=20/\-300<=p.add/\p.add<=300
 up:c.Pairwise λa b=>a.parts<b.parts
theorem F':∀(c) (last),iz last c=0->(∀p,p∈c->0<=p.parts/\p.parts<=20/\-300<=p.add/\p.add<=300)/\c.Pairwise (λa b=>a.parts<b.parts)/\∀p,p∈c->last<p.parts
 |[],_,_=>⟨by simp,.nil,by simp⟩
 |q::r,last,h=>by
  rw[iz]at h;split at h
  .rename_i hg;split at h
   .cases h
   .rename_i hl;obtain⟨h1,h2,h3⟩:=F' r _ h;have hq:0<=q.parts/\q.parts<=20/\-300<=q.add/\q.add<=300:=by simp[ar]at hg;omega
    refine⟨?_,.cons (λp hp=>h3 p hp) h2,?_⟩
    .intro p hp;rcases ci.1 hp with rfl|hp
     .exact hq
     .exact h1 p hp
    .intro p hp;rcases ci.1 hp with rfl|hp
     .omega
     .have:=h3 p hp;omega
  .cases h
theorem LR{c}(h:et c=0):CurveOk c:=by
 unfold et at h;split at h
 .cases h
 .obtain⟨h1,h2,_⟩:=F' c _ h;exact⟨by omega,h1,h2⟩
def qt (a b:BdPoint) (n:Int):Int:=a.add+(b.add-a.add)*(n-a.parts) / (b.parts-a.parts)
def lF (a:BdPoint):List BdPoint->Int->Int
 |[],_=>a.add
 |b::r,n=>if n<=b.parts then qt a b n else lF b r n
def rd:List BdPoint->Int->Int
 |[],_=>0
 |a::r,n=>if n<=a.parts then a.add else lF a r n
theorem Tg(a b:Int)(hb:0<b):(if a.tmod b<0 then a.tdiv b-1 else a.tdiv b)=a / b:=by
 have h:=Int.mul_tdiv_add_tmod a b;rcases E2 0 a with ha|ha
 .have h1:=Int.tmod_nonneg b ha;rw[if_neg (by omega),Int.tdiv_eq_ediv_of_nonneg ha]
 .have h1:-b<a.tmod b:=Int.lt_tmod_of_pos a hb;have h2:a.tmod b<=0:=by
   have:=Int.tmod_nonneg b (a:=-a) (by omega);rw[Int.neg_tmod]at this;omega
  split
  .rename_i h3;symm;rw[Int.ediv_eq_iff_of_pos hb];have:b*(a.tdiv b-1)=b*a.tdiv b-b:=by rw[Int.mul_sub,Int.mul_one]
   rw[sZ];constructor<;>omega
  .rename_i h3;symm;rw[Int.ediv_eq_iff_of_pos hb];rw[sZ];constructor<;>omega
theorem Wf(a b)(ha:-1000000000000000<=a/\a<=1000000000000000)(hb:0<b):af TP 346 [.int .i64 a,.int .i64 b] (.int .i64 (a / b)):=by
 refine aa (ah Tryz.func346 rfl (by kernel_rfl)) rfl ?_;have hb0:b≠0:=by omega
 have hq:-1000000000000000<=a.tdiv b/\a.tdiv b<=1000000000000000:=by
  have h1:=Int.natAbs_tdiv_le_natAbs a b;omega
 have hw:IntKind.i64.wrap (a.tdiv b)=a.tdiv b:=aj (by omega) (by omega);have hw1:IntKind.i64.wrap (a.tdiv b-1)=a.tdiv b-1:=aj (by omega) (by omega);have he:=Tg a b hb;simp only[hb0,hw,go_sem,simprocAttr];refine aT (λhc=>?_) (λhc=>?_)<;>simp only[hc,hw1,go_sem,simprocAttr]
 .rw[if_pos (by simpa using hc)]at he;exact he
 .rw[if_neg (by simpa using hc)]at he;exact he
theorem QU(c:List BdPoint)(b)(n)(i:Nat)(p)(hi:c[i]?=some p):af TP 345 [.agg [.slice 2 (c.map BdPoint.pv) b,.int .i64 n],.int .i64 i] (.bool (decide (n<=p.parts))):=by
 refine aa (ah Tryz.func345 rfl (by kernel_rfl)) rfl ?_;have hlt:((i:Nat):Int)<(c.length:Int):=by have:=(aF.1 hi).1;omega
 simp only[hlt,hi,go_sem,simprocAttr]
theorem zm:∀{c:List BdPoint} (n),c.Pairwise (λa b=>a.parts<b.parts)->∃pre post,c=pre++post/\(∀p,p∈pre->p.parts<n)/\∀p,p∈post->n<=p.parts
 |[],_,_=>⟨[],[],rfl,by simp,by simp⟩
 |a::r,n,h=>by
  cases h with
  |cons h1 h2=>
   by_cases ha:a.parts<n
   .obtain⟨pre,post,e,g1,g2⟩:=zm n h2;refine⟨a::pre,post,by rw[e];rfl,λp hp=>?_,g2⟩;rcases ci.1 hp with rfl|hp
    .exact ha
    .exact g1 p hp
   .refine⟨[],a::r,rfl,by simp,λp hp=>?_⟩;rcases ci.1 hp with rfl|hp
    .omega
    .have:=h1 p hp;omega
theorem Em(n):∀(pre) (x a) (post),(∀p,p∈pre++[a]->p.parts<n)->lF x (pre++a::post) n=lF a post n
 |[],x,a,post,h=>by
  have:=h a (by simp)
  rw[ky,lF,if_neg (by omega)]
 |y::pre,x,a,post,h=>by
  have:=h y (by simp);rw[eu,lF,if_neg (by omega)];exact Em n pre y a post λp hp=>h p (by simp at hp |-;exact .inr hp)
theorem Rl{n}(pre)(a)(post)(h:∀p,p∈pre++[a]->p.parts<n):rd (pre++a::post) n=lF a post n:=by
 cases pre with
 |nil=>
  have:=h a (by simp)
  rw[ky,rd,if_neg (by omega)]
 |cons y pre=>
  have:=h y (by simp);rw[eu,rd,if_neg (by omega)];exact Em n pre y a post λp hp=>h p (by simp at hp |-;exact .inr hp)
theorem JL{a b}{n}(ha:0<=a.parts/\a.parts<=20/\-300<=a.add/\a.add<=300)(hb:0<=b.parts/\b.parts<=20/\-300<=b.add/\b.add<=300)(h1:a.parts<=n)(h2:n<=b.parts)(h3:a.parts<b.parts) :
  -20000<=(b.add-a.add)*(n-a.parts)/\(b.add-a.add)*(n-a.parts)<=20000 /\
  ((a.add<=b.add->a.add<=qt a b n/\qt a b n<=b.add)/\(b.add<=a.add->b.add<=qt a b n/\qt a b n<=a.add)):=by
 unfold qt;generalize hk:n-a.parts=k;generalize hm:b.parts-a.parts=m;generalize hd:b.add-a.add=d;have k0:0<=k:=by omega
 have k1:k<=20:=by omega
 have hkm:k<=m:=by omega
 have m0:0<m:=by omega
 have e1:(-600)*k<=d*k:=pU (by omega) k0;have e2:d*k<=600*k:=pU (by omega) k0;refine⟨by omega,by omega,λh=>?_,λh=>?_⟩
 .have d0:0<=d:=by omega
  have g1:0<=d*k / m:=Int.ediv_nonneg (ri d0 k0) (by omega);have g2:d*k / m<=d:=by
   have:=Fq m0 (tM hkm d0);rwa [Int.mul_ediv_cancel _ (by omega)]at this
  omega
 .have d0:d<=0:=by omega
  have g1:d*k / m<=0:=by
   have:=Fq m0 (show d*k<=0 from Int.mul_nonpos_of_nonpos_of_nonneg d0 k0);simpa using this
  have g2:d<=d*k / m:=by
   have e:d*m<=d*k:=Int.mul_le_mul_of_nonpos_left d0 hkm;have:=Fq m0 e;rwa [Int.mul_ediv_cancel _ (by omega)]at this
  omega
theorem Wj(c)(b)(n)(hc:CurveOk c):af TP 343 [.agg [.slice 2 (c.map BdPoint.pv) b,.int .i64 n]] (.int .i64 (rd c n)):=by
 refine aa (eg (by kernel_rfl) rfl Xj) rfl ?_;obtain⟨pre,post,e,g1,g2⟩:=zm n hc.up;have hlen:=hc.len;have hlt:pre.length<=c.length:=by rw[e];simp
 simp only[WT,go_sem,simprocAttr];refine aT (λhb=>?_) (λhb=>?_)
 .have:c=[]:=by simpa using hb
  simp only[this,rd,go_sem,simprocAttr]
 simp only[go_sem,simprocAttr];refine ae (TG (fv:=.func (.func 345) [.agg [.slice 2 (c.map BdPoint.pv) b,.int .i64 n]] []) c.length (λi=>match c[i]? with|some p=>decide (n<=p.parts)|none=>true) (by omega) (λi hi=>?_) pre.length hlt (λi hi=>?_) λi h1 h2=>?_) rfl ?_
 .have hg:c[i]?=some c[i]:=dc hi;rw[hg];exact⟨_,_,_,rfl,QU c b n i _ hg⟩
 .rw[e,aX hi,dc hi];have:=g1 _ (Av hi);simp;omega
 .have hh:i-pre.length<post.length:=by rw[e]at h2;simp at h2;omega
  rw[e,bW h1,dc hh];have:=g2 _ (Av hh);simp;omega
 simp only[go_sem,simprocAttr];rcases yg pre with rfl|⟨pr,a,hp⟩
 .cases post with
  |nil=>subst e;simp at hb
  |cons x post=>
   have hx:=g2 x (by simp);rw[ky]at e;have h0:c[0]?=some x:=by rw[e];rfl
   have h0':(0:Int)<(c.length:Int):=by rw[e];simp<;>omega
   simp only[h0',h0,cw,go_sem,simprocAttr];rw[e,rd,if_pos hx]
 .rw[yj]at hp;subst hp;have hz:((((pr++[a]).length:Nat):Int)==0)=false:=by simp<;>omega
  have hw1:IntKind.i64.wrap ((((pr++[a]).length:Nat):Int)-1)=((pr.length:Nat):Int):=by
   rw[cA (by simp<;>omega) (by simp[aw]at hlt |-;omega)];simp
  have ha:c[pr.length]?=some a:=by rw[e];simp
  have hla:((pr.length:Nat):Int)<(c.length:Int):=by simp at hlt;omega
  have hadd:rd c n=lF a post n:=by rw[e];simpa using Rl pr a post g1
  cases post with
  |nil=>
   have hlc:((((pr++[a]).length:Nat):Int)==(c.length:Int))=true:=by rw[e];simp
   simp only[hz,hlc,hw1,ha,hla,hadd,lF,go_sem,simprocAttr]
  |cons x post=>
   have hx:=g2 x (by simp);have hap:=g1 a (by simp);have hxc:c[(pr++[a]).length]?=some x:=by rw[e];simp
   have hlx:(((pr++[a]).length:Nat):Int)<(c.length:Int):=by rw[e];simp<;>omega
   have hlc:((((pr++[a]).length:Nat):Int)==(c.length:Int))=false:=by simp only[beq_eq_false_iff_ne];omega
   have pa:=hc.pt a (by rw[e];simp);have px:=hc.pt x (by rw[e];simp);obtain⟨b1,b2,b3⟩:=JL pa px (by omega) hx (by omega);have w1:IntKind.i64.wrap (x.add-a.add)=x.add-a.add:=aj (by omega) (by omega);have w2:IntKind.i64.wrap (n-a.parts)=n-a.parts:=aj (by omega) (by omega);have w3:IntKind.i64.wrap ((x.add-a.add)*(n-a.parts))=(x.add-a.add)*(n-a.parts):=aj (by omega) (by omega);have w4:IntKind.i64.wrap (x.parts-a.parts)=x.parts-a.parts:=aj (by omega) (by omega);have w5:IntKind.i64.wrap (qt a x n)=qt a x n:=aj (by omega) (by omega);simp only[hz,hlc,hw1,ha,hla,hxc,hlx,w1,w2,w3,w4,aL,go_sem,simprocAttr];refine ax (Wf _ _ (by omega) (by omega)) rfl ?_;simp only[go_sem,simprocAttr];rw[hadd,lF,if_pos hx];exact w5
structure BdWaxOk (x:BdWax):Prop where
 price:0<=x.price/\x.price<=100000
 melt:0<=x.melt.lo/\x.melt.lo<=x.melt.hi/\x.melt.hi<=2000
 shrink:0<=x.shrink.lo/\x.shrink.lo<=x.shrink.hi/\x.shrink.hi<=1000
 curve:CurveOk x.curve
structure BdWaxesOk (l:List BdWax):Prop where
 len:1<=l.length/\l.length<=5
 wax:∀x,x∈l->BdWaxOk x
def zw (l:List BdWax):Int:=(bdCheck l).2.2
theorem Mg{before}{x}(h:ca before x=0):BdWaxOk x/\am before x.name=0:=by
 unfold ca at h;split at h
 .rename_i hn;split at h
  .rename_i hg;split at h
   .cases h
   .rename_i ht;simp[ar,cv,aR]at hg ht;exact⟨⟨by omega,by omega,by omega,LR h⟩,hn⟩
  .cases h
 .rename_i hn;exact absurd h hn
theorem jk{α}{f:List ByteArray->α->Int}{nm}:∀{l} {before},firstErr f nm l before=none->∀x,x∈l->∃b,f b x=0
 |[],_,_,_,hx=>by cases hx
 |y::r,before,h,x,hx=>by
  rw[firstErr]at h;split at h
  .rename_i h0;rcases ci.1 hx with rfl|hx
   .exact⟨_,h0⟩
   .exact jk h x hx
  .cases h
theorem zi{α}{f:List ByteArray->α->Int}{nm}:∀{l} {before} {i e},firstErr f nm l before=some (i,e)->e≠0
 |[],_,_,_,h=>by cases h
 |y::r,before,i,e,h=>by
  rw[firstErr]at h;split at h
  .exact zi h
  .rename_i h0;cases h;exact h0
theorem ON{l}(h:zw l=0):(1<=l.length/\l.length<=5)/\firstErr ca (·.name) l []=none:=by
 unfold zw bdCheck at h;split at h
 .rename_i hg;refine⟨by simp[ar]at hg;omega,?_⟩
  cases hf:firstErr ca (·.name) l [] with
  |none=>rfl
  |some q=>
   obtain⟨i,e⟩:=q;rw[hf]at h;exact absurd h (zi hf)
 .cases h
theorem xX{l}(h:zw l=0):BdWaxesOk l:=by
 obtain⟨h1,h2⟩:=ON h;exact⟨h1,λx hx=>let ⟨b,hb⟩:=jk h2 x hx;(Mg hb).1⟩
structure RecOk (m:Nat) (r:List Int):Prop where
 len:r.length=m
 rng:∀n,n∈r->0<=n/\n<=20
 sum:r.sum=20
def wM {α:Type} (f:Nat->α->Int):List α->Nat->Int
 |[],_=>0
 |x::r,i=>f i x+wM f r (i+1)
theorem Jt{α}(f:α->Int):∀(l) (i),wM (λ_ x=>f x) l i=(l.map f).sum
 |[],_=>rfl
 |x::r,i=>by rw[wM,Jt f r,bL,List.sum_cons]
def da (p:BdWax×Int):PV:=.agg [.str p.1.name,.int .i64 p.1.price,.int .i64 p.1.melt.lo,.int .i64 p.1.melt.hi,.int .i64 p.1.shrink.lo,.int .i64 p.1.shrink.hi,.slice 2 (p.1.curve.map BdPoint.pv) false,.int .i64 p.2]
attribute [go_sem] da
theorem T3{fv}(l)(f)(b)(sz)(hsz:sz=8)(hl:l.length<=1000)(hf:∀(i:Nat) x,l[i]?=some x->jV TP fv [.int .i64 i,da x] (.int .i64 (f i x))/\-1000000000<=f i x/\f i x<=1000000000) :
  af TP 316 [.slice sz (l.map da) b,fv] (.int .i64 (wM f l 0)):=by
 subst hsz;refine aa (ah Tryz.func316 rfl (by kernel_rfl)) rfl ?_;simp only[go_sem,simprocAttr];refine eM [1,7,8] l (by omega) (τ:=Int) (λdone rest n=>wM f l 0=n+wM f rest done.length/\-1000000000*(done.length:Int)<=n/\n<=1000000000*(done.length:Int)) (λdone n=>[(9,.p (.int .i64 done.length)),(4,.p (.int .i64 n))]) 0 ⟨by simp,by simp,by simp⟩ ?_ ?_ ?_
 .simp only[go_sem,simprocAttr]<;>simp
 .rintro n ⟨e2,_⟩
  simp only[go_sem,simprocAttr];rw[e2];simp[wM]
 .rintro done x r n e1 ⟨e2,e3,e4⟩ hx hlt hnx
  obtain⟨⟨g,first,cap,rfl,hc⟩,e5,e6⟩:=hf _ _ hx;simp only[hlt,decide_true,hx,da,go_sem,simprocAttr];refine ae hc (by simp[da]) ?_;have hw:IntKind.i64.wrap (n+f done.length x)=n+f done.length x:=aj (by omega) (by omega);simp only[hw,go_sem,simprocAttr];refine ak e1 (n+f done.length x) ⟨by rw[e2,wM];simp;omega,by simp;omega,by simp;omega⟩ ?_;simp only[hnx,go_sem,simprocAttr]
abbrev Ps:=List (BdWax×Int)
structure PsOk (ps:Ps):Prop where
 len:ps.length<=5
 wax:∀p,p∈ps->BdWaxOk p.1/\0<=p.2/\p.2<=20
def dt (f:BdWax×Int->Int) (ps:Ps):Int:=(ps.map f).sum
def mr (p:BdWax×Int):Int:=p.2*p.1.melt.lo
def mv (p:BdWax×Int):Int:=p.2*p.1.melt.hi
def lZ (p:BdWax×Int):Int:=p.2*p.1.shrink.lo
def oS (p:BdWax×Int):Int:=p.2*p.1.shrink.hi
def kn (p:BdWax×Int):Int:=p.2*p.1.price
def gU (p:BdWax×Int):Int:=20*rd p.1.curve p.2
theorem HK(n):∀(r) (a),(0<=a.parts/\a.parts<=20/\-300<=a.add/\a.add<=300)->(∀p,p∈r->0<=p.parts/\p.parts<=20/\-300<=p.add/\p.add<=300)->a.parts<=n->(a::r).Pairwise (λa b=>a.parts<b.parts)->-300<=lF a r n/\lF a r n<=300
 |[],a,ha,_,_,_=>by rw[lF];omega
 |b::r,a,ha,hr,hn,hp=>by
  rw[lF];have hab:a.parts<b.parts:=by cases hp with|cons h _=>exact h b (by simp)
  split
  .rename_i h;obtain⟨_,_,h3,h4⟩:=JL ha (hr b (by simp)) hn h hab;have hb:=hr b (by simp);rcases E2 a.add b.add with h5|h5
   .have:=h3 h5;omega
   .have:=h4 h5;omega
  .rename_i h;exact HK n r b (hr b (by simp)) (λp hp=>hr p (by simp[hp])) (by omega) (by cases hp with|cons _ h=>exact h)
theorem Uc{c}(h:CurveOk c)(n):-300<=rd c n/\rd c n<=300:=by
 cases c with
 |nil=>simp[rd]
 |cons a r=>
  have ha:=h.pt a (by simp);rw[rd];split
  .omega
  .exact HK n r a ha (λp hp=>h.pt p (by simp[hp])) (by omega) h.up
theorem er{p}(h:BdWaxOk p.1/\0<=p.2/\p.2<=20):(0<=mr p/\mr p<=40000)/\(0<=mv p/\mv p<=40000)/\(0<=lZ p/\lZ p<=20000)/\(0<=oS p/\oS p<=20000)/\(0<=kn p/\kn p<=2000000)/\-6000<=gU p/\gU p<=6000:=by
 obtain⟨hw,h0,h1⟩:=h;have m1:=hw.melt;have m2:=hw.shrink;have m3:=hw.price;have m4:=Uc hw.curve p.2;refine⟨kV (B:=2000) h0 h1 (by omega) (by omega),kV (B:=2000) h0 h1 (by omega) (by omega),kV (B:=1000) h0 h1 (by omega) (by omega),kV (B:=1000) h0 h1 (by omega) (by omega),kV (B:=100000) h0 h1 (by omega) (by omega),?_⟩;unfold gU;omega
theorem Ci{f}{a b}:∀{ps},(∀p,p∈ps->a<=f p/\f p<=b)->a*(ps.length:Int)<=dt f ps/\dt f ps<=b*(ps.length:Int)
 |[],_=>by simp[dt]
 |p::ps,h=>by
  have h1:=Ci (f:=f) (ps:=ps) λq hq=>h q (by simp[hq]);have h2:=h p (by simp);simp only[dt,bL,List.sum_cons,cu]at h1 |-;have e1:a*((ps.length+1:Nat):Int)=a*(ps.length:Int)+a:=by rw[Int.natCast_add,Int.mul_add];simp
  have e2:b*((ps.length+1:Nat):Int)=b*(ps.length:Int)+b:=by rw[Int.natCast_add,Int.mul_add];simp
  omega
theorem Dj{f}{b}{ps}(hl:ps.length<=5)(hb:0<=b)(h:∀p,p∈ps->-b<=f p/\f p<=b):-(5*b)<=dt f ps/\dt f ps<=5*b:=by
 obtain⟨h1,h2⟩:=Ci h;have:b*(ps.length:Int)<=b*5:=tM (by omega) hb;have e:(-b)*(ps.length:Int)=-(b*(ps.length:Int)):=Ft _ _;omega
theorem EO(p)(h:BdWaxOk p.1/\0<=p.2/\p.2<=20):af TP 337 [da p] (.int .i64 (mr p)):=by
 refine aa (ah Tryz.func337 rfl (by kernel_rfl)) rfl ?_;have hb:=er h;have hw:IntKind.i64.wrap (mr p)=mr p:=aj (by omega) (by omega);unfold mr at hw |-;simp only[hw,go_sem,simprocAttr]
theorem EP(p)(h:BdWaxOk p.1/\0<=p.2/\p.2<=20):af TP 338 [da p] (.int .i64 (mv p)):=by
 refine aa (ah Tryz.func338 rfl (by kernel_rfl)) rfl ?_;have hb:=er h;have hw:IntKind.i64.wrap (mv p)=mv p:=aj (by omega) (by omega);unfold mv at hw |-;simp only[hw,go_sem,simprocAttr]
theorem I1(p)(h:BdWaxOk p.1/\0<=p.2/\p.2<=20):af TP 339 [da p] (.int .i64 (lZ p)):=by
 refine aa (ah Tryz.func339 rfl (by kernel_rfl)) rfl ?_;have hb:=er h;have hw:IntKind.i64.wrap (lZ p)=lZ p:=aj (by omega) (by omega);unfold lZ at hw |-;simp only[hw,go_sem,simprocAttr]
theorem LZ(p)(h:BdWaxOk p.1/\0<=p.2/\p.2<=20):af TP 340 [da p] (.int .i64 (oS p)):=by
 refine aa (ah Tryz.func340 rfl (by kernel_rfl)) rfl ?_;have hb:=er h;have hw:IntKind.i64.wrap (oS p)=oS p:=aj (by omega) (by omega);unfold oS at hw |-;simp only[hw,go_sem,simprocAttr]
theorem I0(p)(h:BdWaxOk p.1/\0<=p.2/\p.2<=20):af TP 290 [da p] (.int .i64 (kn p)):=by
 refine aa (ah Tryz.func290 rfl (by kernel_rfl)) rfl ?_;have hb:=er h;have hw:IntKind.i64.wrap (kn p)=kn p:=aj (by omega) (by omega);unfold kn at hw |-;simp only[hw,go_sem,simprocAttr]
theorem IZ(p)(h:BdWaxOk p.1/\0<=p.2/\p.2<=20):af TP 341 [da p] (.int .i64 (gU p)):=by
 refine aa (ah Tryz.func341 rfl (by kernel_rfl)) rfl ?_;have hb:=er h;have hw:IntKind.i64.wrap (gU p)=gU p:=aj (by omega) (by omega);unfold gU at hw |-;simp only[go_sem,simprocAttr];refine ae (Wj p.1.curve false p.2 h.1.curve) rfl ?_;simp only[hw,go_sem,simprocAttr]
def tr:AV:=.p (.agg [.str ⟨#[]⟩,.int .i64 0,.int .i64 0,.int .i64 0,.int .i64 0,.int .i64 0,.nilslice,.int .i64 0])
def jb (ps done:Ps):List AV:=(done.map λp=>.p (da p))++List.replicate (ps.length-done.length) tr
theorem Eb{ps done r}{x}(h:ps=done++x::r):(jb ps done).length=ps.length:=by subst h;simp[jb]
theorem Ec{ps done r}{x}(h:ps=done++x::r):(jb ps done)[done.length]?=some tr:=by
 subst h;unfold jb;rw[bW (by simp)];simp
theorem Ea{ps done r}{x}(h:ps=done++x::r):(jb ps done).set done.length (.p (da x))=jb ps (done++[x]):=by
 subst h;have e:(done++x::r).length-done.length=((done++x::r).length-(done++[x]).length)+1:=by simp<;>omega
 unfold jb;rw[uU _ _ (by simp),e,KB];simp
theorem zr(n)(ps done):(∀x,x∈jb ps done->below n x)=True:=by
 refine eq_true λx hx=>?_;rcases dr.1 hx with h|h
 .obtain⟨p,_,rfl⟩:=cH.1 h;trivial
 .rw[List.eq_of_mem_replicate h];trivial
def rW (ps:Ps):PV:=.slice 8 (ps.map da) false
attribute [go_sem] rW
theorem Wi(ps)(b1 b2)(hl:ps.length<=5):af TP 289 [.slice 7 (ps.map λp=>p.1.pv) b1,.slice 1 (ps.map λp=>aI p.2) b2] (rW ps):=by
 refine dg (ah Tryz.func289 rfl (by kernel_rfl)) rfl ?_;have hrm:((ps.length:Nat):Int)<=(aw:Int):=by simp[aw];omega
 have hr0:List.replicate ps.length tr=jb ps []:=by simp[jb]
 simp only[tr]at hr0;simp only[hrm,ir,hr0,go_sem,simprocAttr];refine aQ [1,5,11,12] ps (by omega) (τ:=Unit) (λ_ _ _=>True) (λdone _=>[(13,.p (.int .i64 done.length))]) (λdone _=>[.row 8 (jb ps done)]) () trivial ?_ ?_ ?_
 .simp only[zr,go_sem,simprocAttr]
 .intro _ _;have hz:(jb ps ps)=ps.map λp=>.p (da p):=by simp[jb]
  simp only[da]at hz;simp only[hz,go_sem,simprocAttr];rfl
 .intro done x r _ e1 _ hx hlt hnx;have h1:=Eb e1;have h2:=Ec e1;have h3:=Ea e1;simp only[tr]at h2;simp only[da]at h3;simp only[hlt,hx,h1,h2,h3,go_sem,simprocAttr];refine ak e1 () trivial ?_;simp only[hnx,zr,go_sem,simprocAttr]
theorem Tw{of}(i)(p)(v)(h:jV TP of [da p] (.int .i64 v)):af TP 317 [.int .i64 i,da p,.ptr 1 [of] 0 0] (.int .i64 v):=by
 refine aa (ah Tryz.func317 rfl (by kernel_rfl)) rfl ?_;obtain⟨g,first,cap,rfl,hc⟩:=h;simp only[go_sem,simprocAttr];refine ae hc (by simp[da]) ?_;simp only[go_sem,simprocAttr]
theorem uB{of}(ps)(f)(b)(hl:ps.length<=5)(hof:∀p,p∈ps->jV TP of [da p] (.int .i64 (f p))/\-1000000000<=f p/\f p<=1000000000)(hne:∃g first cap,of=.func (.func g) first cap) :
  af TP 288 [.slice 8 (ps.map da) b,of] (.int .i64 (dt f ps)):=by
 refine aa (ah Tryz.func288 rfl (by kernel_rfl)) rfl ?_;obtain⟨g,first,cap,rfl⟩:=hne;simp only[go_sem,simprocAttr];refine bf (T3 (fv:=.func (.func 317) [] [.ptr 1 [.func (.func g) first cap] 0 0]) ps (λ_ p=>f p) b 8 rfl (by omega) λi p hi=>⟨⟨_,_,_,rfl,Tw i p _ (hof p (aG hi)).1⟩,(hof p (aG hi)).2⟩) ?_ (.int _ _) ?_
 .simp only[go_sem,simprocAttr]
 .simp only[go_sem,simprocAttr];rw[Jt];rfl
theorem CM(ps)(b)(h:PsOk ps):af TP 288 [.slice 8 (ps.map da) b,.func (.func 337) [] []] (.int .i64 (dt mr ps)):=
 uB ps mr b h.len (λp hp=>⟨⟨_,_,_,rfl,EO p (h.wax p hp)⟩,by have:=er (h.wax p hp);omega⟩) ⟨_,_,_,rfl⟩
theorem CN(ps)(b)(h:PsOk ps):af TP 288 [.slice 8 (ps.map da) b,.func (.func 338) [] []] (.int .i64 (dt mv ps)):=
 uB ps mv b h.len (λp hp=>⟨⟨_,_,_,rfl,EP p (h.wax p hp)⟩,by have:=er (h.wax p hp);omega⟩) ⟨_,_,_,rfl⟩
theorem Hf(ps)(b)(h:PsOk ps):af TP 288 [.slice 8 (ps.map da) b,.func (.func 339) [] []] (.int .i64 (dt lZ ps)):=
 uB ps lZ b h.len (λp hp=>⟨⟨_,_,_,rfl,I1 p (h.wax p hp)⟩,by have:=er (h.wax p hp);omega⟩) ⟨_,_,_,rfl⟩
theorem IS(ps)(b)(h:PsOk ps):af TP 288 [.slice 8 (ps.map da) b,.func (.func 340) [] []] (.int .i64 (dt oS ps)):=
 uB ps oS b h.len (λp hp=>⟨⟨_,_,_,rfl,LZ p (h.wax p hp)⟩,by have:=er (h.wax p hp);omega⟩) ⟨_,_,_,rfl⟩
theorem xM(ps)(b)(h:PsOk ps):af TP 288 [.slice 8 (ps.map da) b,.func (.func 290) [] []] (.int .i64 (dt kn ps)):=
 uB ps kn b h.len (λp hp=>⟨⟨_,_,_,rfl,I0 p (h.wax p hp)⟩,by have:=er (h.wax p hp);omega⟩) ⟨_,_,_,rfl⟩
theorem He(ps)(b)(h:PsOk ps):af TP 288 [.slice 8 (ps.map da) b,.func (.func 341) [] []] (.int .i64 (dt gU ps)):=
 uB ps gU b h.len (λp hp=>⟨⟨_,_,_,rfl,IZ p (h.wax p hp)⟩,by have:=er (h.wax p hp);omega⟩) ⟨_,_,_,rfl⟩
theorem Js{ps}(h:PsOk ps):(0<=dt mr ps/\dt mr ps<=200000)/\(0<=dt mv ps/\dt mv ps<=200000)/\(0<=dt lZ ps/\dt lZ ps<=100000)/\(0<=dt oS ps/\dt oS ps<=100000)/\(0<=dt kn ps/\dt kn ps<=10000000)/\-30000<=dt gU ps/\dt gU ps<=30000:=by
 have hl:=h.len;have key:∀(f:BdWax×Int->Int) (b:Int),0<=b->(∀p,p∈ps->0<=f p/\f p<=b)->0<=dt f ps/\dt f ps<=5*b:=λf b hb hf=>by
  have h1:=Ci hf;have h2:=(Dj (f:=f) hl hb λp hp=>by have:=hf p hp;omega).2;omega
 refine⟨key _ 40000 (by omega) λp hp=>(er (h.wax p hp)).1,key _ 40000 (by omega) λp hp=>(er (h.wax p hp)).2.1,key _ 20000 (by omega) λp hp=>(er (h.wax p hp)).2.2.1,key _ 20000 (by omega) λp hp=>(er (h.wax p hp)).2.2.2.1,key _ 2000000 (by omega) λp hp=>(er (h.wax p hp)).2.2.2.2.1,?_⟩;exact Dj (b:=6000) hl (by omega) λp hp=>(er (h.wax p hp)).2.2.2.2.2
def tv (ps:Ps):Span:=⟨dt mr ps+dt gU ps,dt mv ps+dt gU ps⟩
def ke (ps:Ps):Span:=⟨dt lZ ps,dt oS ps⟩
set_option maxHeartbeats 1000000 in
theorem yM(ps)(b)(h:PsOk ps):af TP 333 [.slice 8 (ps.map da) b] (.tuple [(tv ps).pv,(ke ps).pv]):=by
 refine aa (eg (by kernel_rfl) rfl Xl) rfl ?_;have hb:=Js h;have w1:IntKind.i64.wrap (dt mr ps+dt gU ps)=dt mr ps+dt gU ps:=aj (by omega) (by omega);have w2:IntKind.i64.wrap (dt mv ps+dt gU ps)=dt mv ps+dt gU ps:=aj (by omega) (by omega);simp only[WV,go_sem,simprocAttr];refine br ?_;simp only[go_sem,simprocAttr];refine ae (CM ps b h) rfl ?_;simp only[go_sem,simprocAttr];refine br ?_;simp only[go_sem,simprocAttr];refine ae (CN ps b h) rfl ?_;simp only[go_sem,simprocAttr];refine br ?_;simp only[go_sem,simprocAttr];refine ae (Hf ps b h) rfl ?_;simp only[go_sem,simprocAttr];refine br ?_;simp only[go_sem,simprocAttr];refine ae (IS ps b h) rfl ?_;simp only[go_sem,simprocAttr];refine br ?_;simp only[go_sem,simprocAttr];refine ae (He ps b h) rfl ?_;simp only[go_sem,simprocAttr];refine br ?_;simp only[aL,w1,w2,tv,ke,go_sem,simprocAttr]
theorem Cc{α β γ:Type}(f:α->γ){l:List α}{r:List β}(h:r.length=l.length):((l.zip r).map λp=>f p.1)=l.map f:=by
 rw[show (λp:α×β=>f p.1)=f∘Prod.fst from rfl,<-uR,List.map_fst_zip (by omega)]
theorem Cb{α β γ:Type}(f:β->γ){l:List α}{r}(h:r.length=l.length):((l.zip r).map λp=>f p.2)=r.map f:=by
 rw[show (λp:α×β=>f p.2)=f∘Prod.snd from rfl,<-uR,List.map_snd_zip (by omega)]
theorem vo{l}{r}(hl:BdWaxesOk l)(hr:∀n,n∈r->0<=n/\n<=20):PsOk (l.zip r):=by
 refine⟨by have:=hl.len;simp;omega,λp hp=>?_⟩;obtain⟨x,n⟩:=p;obtain⟨h1,h2⟩:=List.of_mem_zip hp;exact⟨hl.wax x h1,hr n h2⟩
theorem Kf{l}{r}(b1 b2)(hl:BdWaxesOk l)(hlen:r.length=l.length):af TP 289 [.slice 7 (l.map BdWax.pv) b1,.slice 1 (r.map aI) b2] (rW (l.zip r)):=by
 have h:=Wi (l.zip r) b1 b2 (by have:=hl.len;simp;omega);rwa [Cc BdWax.pv hlen,Cb aI hlen]at h
theorem JM{l}(h:BdWaxesOk l):IntKind.i64.wrap ((l.length:Int)-1)=(l.length:Int)-1:=aj (by omega) (by have:=h.len;omega)
def Nw (a b:Bool):Int:=if a=true then 7 else if b=true then 2 else 0
def rP (w:BdWish):Bool:=!(cv w.melt 0 2000&&cv w.shrink 0 1000)
def me (w:BdWish):Bool:=aR w.melt||aR w.shrink
def jh (l:List BdWax) (w:BdWish):Int:=
 if zw l=0 then
  if w.parts.length=l.length then Nw (rP w||w.parts.any λs=>!cv s 0 20) (me w||w.parts.any aR)
  else 3
 else zw l
structure WishOk (m:Nat) (w:BdWish):Prop where
 len:w.parts.length=m
 melt:0<=w.melt.lo/\w.melt.lo<=w.melt.hi/\w.melt.hi<=2000
 shrink:0<=w.shrink.lo/\w.shrink.lo<=w.shrink.hi/\w.shrink.hi<=1000
 parts:∀s,s∈w.parts->0<=s.lo/\s.lo<=s.hi/\s.hi<=20
theorem De{l}{w}(h:jh l w=0):BdWaxesOk l/\WishOk l.length w:=by
 unfold jh at h;split at h
 .rename_i he;split at h
  .rename_i hl;refine⟨xX he,?_⟩;unfold Nw at h;split at h
   .cases h
   .rename_i ho;split at h
    .cases h
    .rename_i ht;simp[rP,me,cv,ar,aR]at ho ht;refine⟨hl,by omega,by omega,λs hs=>?_⟩;have:=ho.2 s hs;have:=ht.2 s hs;omega
  .cases h
 .rename_i he;exact absurd h he
theorem V5(l)(w):af TP 286 [f' l,w.pv] (.int .i64 (jh l w)):=by
 refine aa (ah Tryz.func286 rfl (by kernel_rfl)) rfl ?_;simp only[go_sem,simprocAttr]
 (first|refine ae (Ai l) rfl ?_|refine ax (Ai l) rfl ?_)
 simp only[al,go_sem,simprocAttr];refine aT (λhe=>?_) (λhe=>?_)
 .have he':¬zw l=0:=by simpa[zw]using he
  simp only[jh,if_neg he',go_sem,simprocAttr];rfl
 have he':zw l=0:=by simpa[zw]using he
 have hok:=(xX he').len;simp only[go_sem,simprocAttr];refine aT (λhb=>?_) (λhb=>?_)
 .have:¬(w.parts.length=l.length):=by simp[bne]at hb;omega
  simp only[jh,if_pos he',if_neg this,go_sem,simprocAttr]
 have hlen:w.parts.length=l.length:=by simp[bne]at hb;omega
 have hspec:jh l w=Nw (rP w||w.parts.any λs=>!cv s 0 20) (me w||w.parts.any aR):=by rw[jh,if_pos he',if_pos hlen]
 rw[hspec];have ho:rP w=!(ar w.melt.lo 0 2000&&ar w.melt.hi 0 2000&&(ar w.shrink.lo 0 1000&&ar w.shrink.hi 0 1000)):=rfl;have ht:me w=(decide (w.melt.hi<w.melt.lo)||decide (w.shrink.hi<w.shrink.lo)):=rfl;simp only[go_sem,simprocAttr];cases ht1:decide (w.melt.hi<w.melt.lo)
 all_goals
  rw[ht1]at ht;simp only[tL,rf]at ht;simp only[go_sem,simprocAttr]
  (first|refine ae (jH 0 2000 [_,_] true (by simp)) rfl ?_|refine ax (jH 0 2000 [_,_] true (by simp)) rfl ?_)
  simp only[cV,bw,cD,<-iZ,go_sem,simprocAttr];cases ho1:(ar w.melt.lo 0 2000&&ar w.melt.hi 0 2000)
 all_goals
  rw[ho1]at ho;simp only[ng,Bool.false_and,uV]at ho;simp only[go_sem,simprocAttr]
  try
   (first|refine ae (jH 0 1000 [_,_] true (by simp)) rfl ?_|refine ax (jH 0 1000 [_,_] true (by simp)) rfl ?_)
   simp only[cV,bw,cD,<-iZ,<-ho,go_sem,simprocAttr]
  refine aQ [62,63] w.parts (by omega) (τ:=Bool×Bool) (λdone rest q=>(rP w||w.parts.any λs=>!cv s 0 20)=(q.1||rest.any λs=>!cv s 0 20)/\(me w||w.parts.any aR)=(q.2||rest.any aR))
   (λdone q=>[(64,.p (.int .i64 done.length)),(8,.p (.bool q.2)),(9,.p (.bool q.1))]) (λ_ _=>[.row 5 [.p w.pv]]) (rP w,me w) ⟨rfl,rfl⟩ ?_ ?_ ?_
  .simp only[ho,ht,go_sem,simprocAttr]<;>simp
  .rintro⟨a,b⟩ ⟨g1,g2⟩
   dsimp only at g1 g2;rw[g1,g2];cases a<;>cases b<;>simp only[bw,Nw,go_sem,simprocAttr]
  .rintro done x r ⟨a,b⟩ e1 ⟨g1,g2⟩ hx hlt hnx
   dsimp only at g1 g2;rw[cV]at g1 g2;cases a<;>cases b<;>simp only[hlt,hx,go_sem,simprocAttr]
   all_goals
    try
     (first|refine ae (jH 0 20 [_,_] true (by simp)) rfl ?_|refine ax (jH 0 20 [_,_] true (by simp)) rfl ?_)
     simp only[cV,bw,cD,<-iZ,go_sem,simprocAttr]
    first
     |(refine ak e1 (!cv x 0 20,aR x) ⟨by simpa using g1,by simpa using g2⟩ ?_
       simp only[hnx,cv,aR,go_sem,simprocAttr];done)
     |(refine ak e1 (!cv x 0 20,true) ⟨by simpa using g1,by simpa using g2⟩ ?_
       simp only[hnx,cv,go_sem,simprocAttr];done)
     |(refine ak e1 (true,aR x) ⟨by simpa using g1,by simpa using g2⟩ ?_
       simp only[hnx,aR,go_sem,simprocAttr];done)
     |(refine ak e1 (true,true) ⟨by simpa using g1,by simpa using g2⟩ ?_
       simp only[hnx,go_sem,simprocAttr])
def pA (w:BdWish) (r:List Int):Bool:=(r.zip w.parts).any λq=>!ar q.1 q.2.lo q.2.hi
def kA (l:List BdWax) (w:BdWish) (r:List Int):Int:=
 if pA w r=true then 1
 else if(tv (l.zip r)).lo<20*w.melt.lo then 2
 else if 20*w.melt.hi<(tv (l.zip r)).hi then 3
 else if(ke (l.zip r)).lo<20*w.shrink.lo\/20*w.shrink.hi<(ke (l.zip r)).hi then 4
 else 0
theorem XR{l}{w}{r}(b)(hl:BdWaxesOk l)(hw:WishOk l.length w)(hlen:r.length=l.length)(hr:∀n,n∈r->0<=n/\n<=20) :
  af TP 315 [f' l,w.pv,.slice 1 (r.map aI) b] (.int .i64 (kA l w r)):=by
 refine aa (ah Tryz.func315 rfl (by kernel_rfl)) rfl ?_;have hl5:=hl.len;have hwl:=hw.len;have m1:IntKind.i64.wrap (20*w.melt.lo)=20*w.melt.lo:=aj (by have:=hw.melt;omega) (by have:=hw.melt;omega);have m2:IntKind.i64.wrap (20*w.melt.hi)=20*w.melt.hi:=aj (by have:=hw.melt;omega) (by have:=hw.melt;omega);have m3:IntKind.i64.wrap (20*w.shrink.lo)=20*w.shrink.lo:=aj (by have:=hw.shrink;omega) (by have:=hw.shrink;omega);have m4:IntKind.i64.wrap (20*w.shrink.hi)=20*w.shrink.hi:=aj (by have:=hw.shrink;omega) (by have:=hw.shrink;omega);have hz1:((r.zip w.parts).map λq=>q.1)=r:=by have:=Cc (λx=>x) (l:=r) (r:=w.parts) (by omega);simpa using this
 have hz2:((r.zip w.parts).map λq=>q.2)=w.parts:=by have:=Cb (λx=>x) (l:=r) (r:=w.parts) (by omega);simpa using this
 have hzl:(r.zip w.parts).length=r.length:=by simp;omega
 simp only[go_sem,simprocAttr];refine aQ [0,2,4,11,12] (r.zip w.parts) (by omega) (τ:=Unit) (λdone rest _=>pA w r=rest.any λq=>!ar q.1 q.2.lo q.2.hi) (λdone _=>[(13,.p (.int .i64 done.length))]) (λ_ _=>[.row 5 [.p w.pv]]) () rfl ?_ ?_ ?_
 .simp only[go_sem,simprocAttr]<;>simp
 .intro _ e2;have e2':pA w r=false:=by rw[e2];rfl
  have g1:¬((r.zip w.parts).length:Int)<(r.length:Int):=by omega
  have g2:¬((r.zip w.parts).length:Int)<(l.length:Int):=by omega
  simp only[g1,go_sem,simprocAttr]
  first
   |(first|refine ae (Kf false b hl hlen) rfl ?_|refine ax (Kf false b hl hlen) rfl ?_)
    simp only[go_sem,simprocAttr]
    (first|refine ae (yM (l.zip r) false (vo hl hr)) rfl ?_|refine ax (yM (l.zip r) false (vo hl hr)) rfl ?_)
   |(first|refine ae (yM false b hl hlen hr) rfl ?_|refine ax (yM false b hl hlen hr) rfl ?_)
  simp only[m1,go_sem,simprocAttr];refine aT (λh1=>?_) (λh1=>?_)
  .have h1':(tv (l.zip r)).lo<20*w.melt.lo:=by simpa using h1
   simp only[kA,e2',if_pos h1',go_sem,simprocAttr]
  have h1':¬(tv (l.zip r)).lo<20*w.melt.lo:=by simpa using h1
  simp only[m2,go_sem,simprocAttr];refine aT (λh2=>?_) (λh2=>?_)
  .have h2':20*w.melt.hi<(tv (l.zip r)).hi:=by simpa using h2
   simp only[kA,e2',if_neg h1',if_pos h2',go_sem,simprocAttr]
  have h2':¬20*w.melt.hi<(tv (l.zip r)).hi:=by simpa using h2
  simp only[m3,go_sem,simprocAttr];cases h3:decide ((ke (l.zip r)).lo<20*w.shrink.lo)
  .simp only[m4,go_sem,simprocAttr];refine aT (λh4=>?_) (λh4=>?_)
   .have h4':(ke (l.zip r)).lo<20*w.shrink.lo\/20*w.shrink.hi<(ke (l.zip r)).hi:=.inr (by simpa using h4);simp only[kA,e2',if_neg h1',if_neg h2',if_pos h4',go_sem,simprocAttr]
   .have h4':¬((ke (l.zip r)).lo<20*w.shrink.lo\/20*w.shrink.hi<(ke (l.zip r)).hi):=by simp at h3 h4;omega
    simp only[kA,e2',if_neg h1',if_neg h2',if_neg h4',go_sem,simprocAttr]
  .have h4':(ke (l.zip r)).lo<20*w.shrink.lo\/20*w.shrink.hi<(ke (l.zip r)).hi:=.inl (by simpa using h3);simp only[kA,e2',if_neg h1',if_neg h2',if_pos h4',go_sem,simprocAttr]
 .intro done x rest _ e1 e2 hx hlt hnx;have g1:(done.length:Int)<(r.length:Int):=by omega
  have g2:(done.length:Int)<(l.length:Int):=by omega
  have g3:(done.length:Int)<(w.parts.length:Int):=by omega
  have x1:r[done.length]?=some x.1:=by rw[<-hz1,cO,hx];rfl
  have x2:w.parts[done.length]?=some x.2:=by rw[<-hz2,cO,hx];rfl
  simp only[g1,g3,x1,x2,go_sem,simprocAttr]
  first
   |(first|refine ae (jH _ _ [_] true (by simp)) rfl ?_|refine ax (jH _ _ [_] true (by simp)) rfl ?_)
   |(first|refine ae (CS _ _ _) rfl ?_|refine ax (CS _ _ _) rfl ?_)
  simp only[cV,bw,cD,go_sem,simprocAttr];cases hg:ar x.1 x.2.lo x.2.hi
  .simp only[go_sem,simprocAttr];have e2':pA w r=true:=by rw[e2,cV,hg];rfl
   simp only[kA,e2',go_sem,simprocAttr]
  .simp only[go_sem,simprocAttr];refine ak e1 () (by rw[e2,cV,hg];rfl) ?_;simp only[hnx,go_sem,simprocAttr]
def jp (a b:Int):List Int:=(List.range (b+1-a).toNat).map λ(i:Nat)=>a+(i:Int)
theorem Sl(a b):(jp a b).length=(b+1-a).toNat:=by simp[jp]
theorem Sm{a b y}{i:Nat}(h:(jp a b)[i]?=some y):y=a+(i)/\y<=b:=by
 unfold jp at h;rw[cO,cg]at h;obtain⟨k,h1,rfl⟩:=h;obtain⟨h2,h3⟩:=aF.1 h1;simp at h2 h3;subst h3;exact⟨rfl,by omega⟩
theorem yt{a b y}:y∈jp a b↔a<=y/\y<=b:=by
 unfold jp;rw[cH];constructor
 .rintro⟨i,hi,rfl⟩
  rw[rj]at hi;omega
 .rintro⟨h1,h2⟩
  exact⟨(y-a).toNat,by rw[rj];omega,by omega⟩
def qR:Nat->Int->List (List Int)
 |0,left=>[[left]]
 |k+1,left=>(jp 0 left).flatMap λn=>(qR k (left-n)).map (n::·)
theorem JA:∀(k) (left) (r),0<=left->r∈qR k left->r.length=k+1/\(∀n,n∈r->0<=n/\n<=left)/\r.sum=left
 |0,left,r,h0,h=>by
  simp[qR]at h;subst h;refine⟨rfl,λn hn=>?_,by simp⟩;simp at hn
  omega
 |k+1,left,r,h0,h=>by
  rw[qR,zB]at h;obtain⟨n,hn,h⟩:=h;rw[cH]at h;obtain⟨t,ht,rfl⟩:=h;have hn':=yt.1 hn;obtain⟨h1,h2,h3⟩:=JA k (left-n) t (by omega) ht;refine⟨by simp[h1],λm hm=>?_,by simp[h3];omega⟩;rcases ci.1 hm with rfl|hm
  .omega
  .have:=h2 m hm;omega
theorem zf(n)(h)(m):∀l,aV (cm n h) (l.map .p++m)=(aV (cm n h) m).map (l++·)
 |[]=>by cases hf:aV (cm n h) m<;>simp[hf]
 |x::r=>by
  rw[bL,eu,aV,zf n h m r,eJ];cases aV (cm n h) m<;>rfl
theorem MM{α β:Type}(f:α->β)(l:List α)(x):(l.map f++[x]).take (l.length+1)=l.map f++[x]:=eD (by simp)
attribute [go_sem] zf MM
def U2 (ls:List (List Int)):PV:=.slice 1 (ls.map λr=>.slice 1 (r.map aI) false) false
attribute [go_sem] U2
def fits (l:List BdWax) (w:BdWish):List (List Int):=(qR (l.length-1) 20).filter λr=>kA l w r==0
theorem PI{l}(hl:BdWaxesOk l){r}(h:r∈qR (l.length-1) 20):RecOk l.length r:=by
 obtain⟨h1,h2,h3⟩:=JA _ _ _ (by omega) h;have:=hl.len;exact⟨by omega,h2,h3⟩
theorem Ac{l}{w}(hl:BdWaxesOk l){r}(h:r∈fits l w):RecOk l.length r/\kA l w r=0:=by
 obtain⟨h1,h2⟩:=List.mem_filter.1 h;exact⟨PI hl h1,by simpa using h2⟩
end Abs
end Go.Proofs.YtoapoaoelpcniaaGreatDoor
