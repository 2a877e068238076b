/-
  CONTRACTS: blend.Check, in the program and in the reference: both come to 'bdCheck'.
  CONTRACTS: Check of blend's reference; what a wax raises, in the program and in the refere
-/
import Derived.Test.YtfafnkpfamgbbaaGreatDoorAbsCutX
import Derived.Test.YtfafnkpfamgbbaaGreatDoorLibGoX
set_option linter.unusedSimpArgs false
set_option linter.unusedVariables false
open Go.Proofs.Tryz renaming prog->TP
namespace Go.Proofs.YtfafnkpfamgbbaaGreatDoor
namespace Abs
set_option maxRecDepth 4000
theorem Ss (lo hi n):ah TP 211 [.int .i64 n,.ptr 1 [.int .i64 lo] 0 0,.ptr 1 [.int .i64 hi] 0 0] (.bool (!ar n lo hi)):=by
 refine aa (ai (by kernel_rfl) rfl XP) rfl ?_;simp only [go_sem,simprocAttr];refine aT (λhb=>?_) (λhb=>?_)<;>simp only [hb,go_sem,simprocAttr]<;>simp_all [ar];rw [<-decide_not];congr 1;simp
theorem js (lo hi) (l:List Int) (b) (hl:l.length<1000000000):ah TP 145 [.int .i64 lo,.int .i64 hi,.slice 1 (l.map aK) b] (.bool (l.any λn=>!ar n lo hi)):=by
 refine aa (ai (by kernel_rfl) rfl YA) rfl ?_;simp only [go_sem,simprocAttr];refine bf (jX (fv:=.func (.func 211) [] [.ptr 1 [.int .i64 lo] 0 0,.ptr 1 [.int .i64 hi] 0 0]) l (λn=>!ar n lo hi) b 1 rfl hl λn _=>⟨_,_,_,rfl,Ss lo hi n⟩) ?_ (.bool _) ?_
 .simp only [go_sem,simprocAttr]
 .simp only [go_sem,simprocAttr]
def hJ (last:Int):List BdPoint->Int
 |[]=>0
 |p::r=>if (ar p.parts 0 20&&ar p.add (-300) 300)=true then (if p.parts<=last then 2 else hJ p.parts r) else 7
def d7 (c:List BdPoint):Int:=if 6<c.length then 3 else hJ (-1) c
theorem Pb (c) (b) (n):ah TP 148 [.agg [.slice 2 (c.map BdPoint.pv) b,.int .i64 n]] (.int .i64 (d7 c)):=by
 refine aa (ai (by kernel_rfl) rfl Yx) rfl ?_;simp only [go_sem,simprocAttr];refine aT (λhb=>?_) (λhb=>?_)<;>simp only [hb,go_sem,simprocAttr]
 .have:6<c.length:=by simp at hb;omega
  simp [d7,this]
 .have h6:¬ 6<c.length:=by simp at hb;omega
  rw [show d7 c=hJ (-1) c by simp [d7,h6]];refine br [11,12] c (by omega) (τ:=Int) (λdone rest last=>hJ (-1) c=hJ last rest) (λdone last=>[(13,.p (.int .i64 done.length)),(3,.p (.int .i64 last))]) (λ_ _=>[.row 2 [.p (.agg [.slice 2 (c.map BdPoint.pv) b,.int .i64 n])]]) (-1) rfl ?_ ?_ ?_
  .simp only [go_sem,simprocAttr]<;>simp
  .intro last e2;simp only [go_sem,simprocAttr];rw [e2];rfl
  .intro done x r last e1 e2 hx hlt hnx;simp only [hlt,hx,go_sem,simprocAttr];refine ae (js 0 20 [_] true (by simp)) rfl ?_;simp only [bp,bF,bS,go_sem,simprocAttr];cases h1:ar x.parts 0 20
   .simp only [go_sem,simprocAttr];rw [e2,hJ,h1];rfl
   simp only [go_sem,simprocAttr];refine ae (js (-300) 300 [_] true (by simp)) rfl ?_;simp only [bp,bF,bS,go_sem,simprocAttr];cases h2:ar x.add (-300) 300
   .simp only [go_sem,simprocAttr];rw [e2,hJ,h1,h2];rfl
   simp only [go_sem,simprocAttr];refine aT (λhb=>?_) (λhb=>?_)<;>simp only [hb,go_sem,simprocAttr]
   .rw [e2,hJ,h1,h2,qZ,if_pos rfl,if_pos (by simpa using hb)]
   .refine aF e1 x.parts (by rw [e2,hJ,h1,h2,qZ,if_pos rfl,if_neg (by simpa using hb)]) ?_;simp only [hnx,go_sem,simprocAttr]
def vX (done:List BdPoint):Int:=match done.getLast? with | some p=>p.parts | none=>-1
theorem MO (c) (b):ah TP 69 [.slice 2 (c.map BdPoint.pv) b] (.int .i64 (d7 c)):=by
 refine aa (ai (by kernel_rfl) rfl zbI) rfl ?_;simp only [go_sem,simprocAttr];refine aT (λhb=>?_) (λhb=>?_)<;>simp only [hb,go_sem,simprocAttr]
 .have:6<c.length:=by simp at hb;omega
  simp [d7,this]
 .have h6:¬ 6<c.length:=by simp at hb;omega
  rw [show d7 c=hJ (-1) c by simp [d7,h6]];refine ez [0] c (by omega) (τ:=Unit) (λdone rest _=>hJ (-1) c=hJ (vX done) rest) (λdone _=>[(3,.p (.int .i64 done.length))]) () rfl ?_ ?_ ?_
  .simp only [go_sem,simprocAttr]<;>simp
  .intro _ e2;simp only [go_sem,simprocAttr];rw [e2];rfl
  .intro done x r _ e1 e2 hx hlt hnx;simp only [hlt,hx,go_sem,simprocAttr];refine ae (BV _ _ _) rfl ?_;simp only [go_sem,simprocAttr];cases h1:ar x.parts 0 20
   .simp only [go_sem,simprocAttr];rw [e2,hJ,h1];rfl
   simp only [hx,hlt,go_sem,simprocAttr];refine ae (BV _ _ _) rfl ?_;simp only [go_sem,simprocAttr];cases h2:ar x.add (-300) 300
   .simp only [go_sem,simprocAttr];rw [e2,hJ,h1,h2];rfl
   have hp0:0<=x.parts:=by simp [ar] at h1;omega
   rcases wU done with rfl | ⟨pre,d,hpd⟩
   .simp only [go_sem,simprocAttr];refine aF e1 () (by rw [e2,hJ,h1,h2,qZ,if_pos rfl,if_neg (by simp [vX];omega)];rfl) ?_;simp only [go_sem,simprocAttr]
   .rw [wZ] at hpd;subst hpd;have hp:decide ((0:Int)<(((pre++[d]).length:Nat):Int))=true:=by simp<;>omega
    have hw1:IntKind.i64.wrap ((((pre++[d]).length:Nat):Int)-1)=((pre.length:Nat):Int):=by
     rw [cM (by simp<;>omega) (by simp [aw] at hlt |-;omega)];simp
    have hd:c[pre.length]?=some d:=by rw [e1];simp
    have hlt2:((pre.length:Nat):Int)<(c.length:Int):=by simp at hlt;omega
    have hl:vX (pre++[d])=d.parts:=by simp [vX]
    rw [hl] at e2;simp only [hp,hx,hw1,hd,hlt,hlt2,go_sem,simprocAttr];refine aT (λhb=>?_) (λhb=>?_)<;>simp only [hb,go_sem,simprocAttr]
    .rw [e2,hJ,h1,h2,qZ,if_pos rfl,if_pos (by simpa using hb)]
    .refine aF e1 () (by rw [e2,hJ,h1,h2,qZ,if_pos rfl,if_neg (by simpa using hb)];simp [vX]) ?_;simp only [hnx,go_sem,simprocAttr]
def cp (s:Span) (a b:Int):Bool:=ar s.lo a b&&ar s.hi a b
def aO (s:Span):Bool:=decide (s.hi<s.lo)
def bZ (before:List ByteArray) (x:BdWax):Int :=
 if am before x.name=0 then
  if (ar x.price 0 100000&&(cp x.melt 0 2000&&cp x.shrink 0 1000))=true then
   if (aO x.melt||aO x.shrink)=true then 2 else d7 x.curve
  else 7
 else am before x.name
def wG:Option (Int×Int)->Int×Int×Int
 |none=>(0,0,0)
 |some (i,e)=>(2,i,e)
def bdCheck (l:List BdWax):Int×Int×Int :=
 if ar l.length 1 5=true then wG (firstErr bZ (·.name) l []) else (1,0,3)
theorem MY (x y:BdWax):ah TP 147 [y.pv,.ptr 7 [x.pv] 0 0] (.bool (y.name==x.name)):=by
 refine aa (ai (by kernel_rfl) rfl Yy) rfl ?_;simp only [go_sem,simprocAttr]
theorem kJ {before} {x} {a b c} (h1:nameOk x.name=a) (h2:before.any (λt=>t==x.name)=b) (h3:(ar x.price 0 100000&&(cp x.melt 0 2000&&cp x.shrink 0 1000))=c) :
  bZ before x=if a=true then (if b=true then 5 else if c=true then (if (aO x.melt||aO x.shrink)=true then 2 else d7 x.curve) else 7) else 6:=by
 unfold bZ am;rw [h1,h2,h3];cases a<;>cases b<;>rfl
set_option maxHeartbeats 1000000 in
theorem za (l):ah TP 90 [fP l] (al (bdCheck l)):=by
 refine aa (ai (by kernel_rfl) rfl zbq) rfl ?_;simp only [go_sem,simprocAttr];refine ae (js 1 5 [_] true (by simp)) rfl ?_;simp only [bp,bF,bS,go_sem,simprocAttr];cases h1:ar l.length 1 5
 .simp only [al,bdCheck,h1,go_sem,simprocAttr]
 have hl:l.length<=5:=by simp [ar] at h1;omega
 have hspec:bdCheck l=wG (firstErr bZ (·.name) l []):=by simp [bdCheck,h1]
 rw [hspec];simp only [go_sem,simprocAttr];refine ez [0,11,12] l (by omega) (τ:=Unit) (λdone rest _=>firstErr bZ (·.name) l []=firstErr bZ (·.name) rest (done.map (·.name))) (λdone _=>[(13,.p (.int .i64 done.length)),(4,.p (.int .i64 0))]) () rfl ?_ ?_ ?_
 .simp only [go_sem,simprocAttr]<;>simp
 .intro _ e2;simp only [go_sem,simprocAttr];rw [e2];rfl
 .intro done x r _ e1 e2 hx hlt hnx;have hle:((done.length:Nat):Int)<=(l.length:Int):=by omega
  have htk:(l.map BdWax.pv).take done.length=done.map BdWax.pv:=by
   rw [e1,bA,d9 (by simp)]
  have hln:(done.length==l.length)=false:=by simp;omega
  have hE:firstErr bZ (·.name) l []=if bZ (done.map (·.name)) x=0 then firstErr bZ (·.name) r ((done++[x]).map (·.name)) else some ((done.length:Int),bZ (done.map (·.name)) x):=by
   rw [e2,firstErr];simp
  have fin:∀ e,bZ (done.map (·.name)) x=e->e≠0->wG (firstErr bZ (·.name) l [])=(2,(done.length:Int),e):=by
   intro e he hne;rw [hE,he,if_neg hne];rfl
  simp only [hlt,hx,go_sem,simprocAttr];refine ae (jE x.name) rfl ?_;simp only [go_sem,simprocAttr];cases h2:nameOk x.name
  .simp only [al,fin 6 (by rw [kJ h2 rfl rfl];rfl) (by decide),go_sem,simprocAttr]
  simp only [hle,H5,fX,htk,hln,go_sem,simprocAttr];refine bf (B3 (fv:=.func (.func 147) [] [.ptr 7 [x.pv] 0 0]) done (λy=>y.name==x.name) false 7 rfl (by omega) λy _=>⟨_,_,_,rfl,MY x y⟩) ?_ (.bool _) ?_
  .simp only [go_sem,simprocAttr]
  simp only [go_sem,simprocAttr];have hany:(done.map (·.name)).any (λt=>t==x.name)=done.any (λy=>y.name==x.name):=by simp only [qY,jN]
  cases h3:done.any (λy=>y.name==x.name);rotate_left
  .simp only [al,fin 5 (by rw [kJ h2 (hany.trans h3) rfl];rfl) (by decide),go_sem,simprocAttr]
  simp only [go_sem,simprocAttr];refine ae (js 0 100000 [_] true (by simp)) rfl ?_;simp only [bp,bF,bS,go_sem,simprocAttr];have bad:(ar x.price 0 100000&&(cp x.melt 0 2000&&cp x.shrink 0 1000))=false->bZ (done.map (·.name)) x=7:=λh=>by rw [kJ h2 (hany.trans h3) h];rfl
  cases h4:ar x.price 0 100000
  .simp only [al,fin 7 (bad (by rw [h4];rfl)) (by decide),go_sem,simprocAttr]
  simp only [go_sem,simprocAttr];refine ae (js 0 2000 [_,_] true (by simp)) rfl ?_;simp only [bp,bF,bS,<-kO,go_sem,simprocAttr];cases h5:(ar x.melt.lo 0 2000&&ar x.melt.hi 0 2000)
  .simp only [al,fin 7 (bad (by rw [cp,h5];simp)) (by decide),go_sem,simprocAttr]
  simp only [go_sem,simprocAttr];refine ae (js 0 1000 [_,_] true (by simp)) rfl ?_;simp only [bp,bF,bS,<-kO,go_sem,simprocAttr];cases h6:(ar x.shrink.lo 0 1000&&ar x.shrink.hi 0 1000)
  .simp only [al,fin 7 (bad (by rw [cp,cp,h6];simp)) (by decide),go_sem,simprocAttr]
  have hc:(ar x.price 0 100000&&(cp x.melt 0 2000&&cp x.shrink 0 1000))=true:=by rw [cp,cp,h4,h5,h6];rfl
  simp only [go_sem,simprocAttr];cases h7:decide (x.melt.hi<x.melt.lo);rotate_left
  .simp only [al,fin 2 (by rw [kJ h2 (hany.trans h3) hc,aO,h7];rfl) (by decide),go_sem,simprocAttr]
  simp only [go_sem,simprocAttr];cases h8:decide (x.shrink.hi<x.shrink.lo);rotate_left
  .simp only [al,fin 2 (by rw [kJ h2 (hany.trans h3) hc,aO,aO,h7,h8];rfl) (by decide),go_sem,simprocAttr]
  simp only [go_sem,simprocAttr];refine ae (Pb x.curve false 0) rfl ?_;simp only [go_sem,simprocAttr];have hw:bZ (done.map (·.name)) x=d7 x.curve:=by rw [kJ h2 (hany.trans h3) hc,aO,aO,h7,h8];rfl
  cases h9:(d7 x.curve != 0)
  .have h9':d7 x.curve=0:=by simpa using h9
   simp only [go_sem,simprocAttr];refine aF e1 () (by rw [hE,if_pos (hw.trans h9')]) ?_;simp only [hnx,h9',go_sem,simprocAttr]
  .simp only [al,fin _ hw (by simpa using h9),go_sem,simprocAttr]
theorem pM (s) (a b):du s.lo s.hi a b=if cp s a b=true then (if aO s=true then 2 else 0) else 7:=by
 unfold du cp aO;cases ar s.lo a b<;>cases ar s.hi a b<;>simp
def ka (m s:Span):Int:=if (cp m 0 2000&&cp s 0 1000)=true then (if (aO m||aO s)=true then 2 else 0) else 7
theorem Hw (m s):ah TP 68 [m.pv,s.pv] (.int .i64 (ka m s)):=by
 refine aa (ai (by kernel_rfl) rfl zbJ) rfl ?_;simp only [go_sem,simprocAttr];refine aD (pg _ _ _ _) rfl ?_;simp only [go_sem,simprocAttr];refine aD (pg _ _ _ _) rfl ?_;simp only [pM,go_sem,simprocAttr];unfold ka;cases cp m 0 2000<;>cases cp s 0 1000<;>cases aO m<;>cases aO s<;>simp only [go_sem,simprocAttr]
set_option maxHeartbeats 1000000 in
theorem Hx (l):ah TP 44 [fP l] (al (bdCheck l)):=by
 refine aa (ai (by kernel_rfl) rfl zb3) rfl ?_;simp only [go_sem,simprocAttr];refine ae (BV _ _ _) rfl ?_;simp only [go_sem,simprocAttr];cases h1:ar l.length 1 5
 .simp only [al,bdCheck,h1,go_sem,simprocAttr]
 have hl:l.length<=5:=by simp [ar] at h1;omega
 have hspec:bdCheck l=wG (firstErr bZ (·.name) l []):=by simp [bdCheck,h1]
 rw [hspec];simp only [go_sem,simprocAttr];refine cg 5 1 (by simp only [go_sem,simprocAttr]) ?_;simp only [go_sem,simprocAttr]
 refine br [0] l (by omega) (τ:=Unit) (λdone rest _=>firstErr bZ (·.name) l []=firstErr bZ (·.name) rest (done.map (·.name)))
  (λdone _=>[(5,.slice 0 done.length 0 done.length),(6,.p (.int .i64 done.length))]) (λdone _=>[.row 1 (done.map λx=>.p (.str x.name))]) () rfl ?_ ?_ ?_
 .simp only [go_sem,simprocAttr]<;>simp
 .intro _ e2;simp only [go_sem,simprocAttr];rw [e2];rfl
 .intro done x r _ e1 e2 hx hlt hnx;have hrm:done.length+1<=aw:=by simp [aw];omega
  have hE:firstErr bZ (·.name) l []=if bZ (done.map (·.name)) x=0 then firstErr bZ (·.name) r ((done++[x]).map (·.name)) else some ((done.length:Int),bZ (done.map (·.name)) x):=by
   rw [e2,firstErr];simp
  have fin:∀ e,bZ (done.map (·.name)) x=e->e≠0->wG (firstErr bZ (·.name) l [])=(2,(done.length:Int),e):=by
   intro e he hne;rw [hE,he,if_neg hne];rfl
  simp only [hlt,hx,go_sem,simprocAttr];refine bf (jq x.name (done.map (·.name)) false (done.map λx=>.str x.name) (by simp) (by simp;omega)) ?_ (.int _ _) ?_
  .simp only [go_sem,simprocAttr]
  simp only [hrm,hlt,hx,go_sem,simprocAttr];cases h5:(am (done.map (·.name)) x.name==0)
  .have h5':am (done.map (·.name)) x.name≠0:=by simpa using h5
   have h5n:(am (done.map (·.name)) x.name != 0)=true:=by simp [bne,h5]
   simp only [h5,h5n,al,fin _ (by rw [bZ,if_neg h5']) h5',go_sem,simprocAttr]
  have h5':am (done.map (·.name)) x.name=0:=by simpa using h5
  simp only [hx,hlt,go_sem,simprocAttr];refine ae (BV _ _ _) rfl ?_;simp only [go_sem,simprocAttr];cases h6:ar x.price 0 100000
  .simp only [al,fin 7 (by simp [bZ,h5',h6]) (by decide),go_sem,simprocAttr]
  simp only [h5,hx,hlt,go_sem,simprocAttr];refine aD (Hw x.melt x.shrink) rfl ?_;simp only [go_sem,simprocAttr];have hw:bZ (done.map (·.name)) x=if ka x.melt x.shrink=0 then d7 x.curve else ka x.melt x.shrink:=by
   unfold bZ ka;rw [if_pos h5',h6];cases (cp x.melt 0 2000&&cp x.shrink 0 1000)<;>cases (aO x.melt||aO x.shrink)<;>rfl
  cases h7:(ka x.melt x.shrink==0)
  .have h7':ka x.melt x.shrink≠0:=by simpa using h7
   have h7n:(ka x.melt x.shrink != 0)=true:=by simp [bne,h7]
   simp only [h7n,al,fin _ (by rw [hw,if_neg h7']) h7',go_sem,simprocAttr]
  have h7':ka x.melt x.shrink=0:=by simpa using h7
  rw [if_pos h7'] at hw;simp only [hx,hlt,go_sem,simprocAttr];refine ae (MO x.curve false) rfl ?_;simp only [go_sem,simprocAttr];cases h9:(d7 x.curve != 0)
  .have h9':d7 x.curve=0:=by simpa using h9
   simp only [go_sem,simprocAttr];refine aF e1 () (by rw [hE,if_pos (hw.trans h9')]) ?_;simp only [hnx,aI,bA,go_sem,simprocAttr]
  .simp only [al,fin _ hw (by simpa using h9),go_sem,simprocAttr]
structure CurveOk (c:List BdPoint):Prop where
 len:c.length<=6
 pt:∀ p,p∈c->0<=p.parts/\p.parts<=20/\-300<=p.add/\p.add<=300
 up:c.Pairwise λa b=>a.parts<b.parts
theorem EW:∀ (c) (last),hJ last c=0->(∀ p,p∈c->0<=p.parts/\p.parts<=20/\-300<=p.add/\p.add<=300)/\c.Pairwise (λa b=>a.parts<b.parts)/\∀ p,p∈c->last<p.parts
 |[],_,_=>⟨by simp,.nil,by simp⟩
 |q::r,last,h=>by
  rw [hJ] at h;split at h
  .rename_i hg;split at h
   .cases h
   .rename_i hl;obtain ⟨h1,h2,h3⟩:=EW r _ h;have hq:0<=q.parts/\q.parts<=20/\-300<=q.add/\q.add<=300:=by simp [ar] at hg;omega
    refine ⟨?_,.cons (λp hp=>h3 p hp) h2,?_⟩
    .intro p hp;rcases bw.1 hp with rfl | hp
     .exact hq
     .exact h1 p hp
    .intro p hp;rcases bw.1 hp with rfl | hp
     .omega
     .have:=h3 p hp;omega
  .cases h
theorem Ko {c} (h:d7 c=0):CurveOk c:=by
 unfold d7 at h;split at h
 .cases h
 .obtain ⟨h1,h2,_⟩:=EW c _ h;exact ⟨by omega,h1,h2⟩
def pF (a b:BdPoint) (n:Int):Int:=a.add+(b.add-a.add)*(n-a.parts) / (b.parts-a.parts)
def kW (a:BdPoint):List BdPoint->Int->Int
 |[],_=>a.add
 |b::r,n=>if n<=b.parts then pF a b n else kW b r n
def qj:List BdPoint->Int->Int
 |[],_=>0
 |a::r,n=>if n<=a.parts then a.add else kW a r n
theorem RH (a b:Int) (hb:0<b):(if a.tmod b<0 then a.tdiv b-1 else a.tdiv b)=a / b:=by
 have h:=Int.mul_tdiv_add_tmod a b;rcases Jj 0 a with ha | ha
 .have h1:=Int.tmod_nonneg b ha;rw [if_neg (by omega),Int.tdiv_eq_ediv_of_nonneg ha]
 .have h1:-b<a.tmod b:=Int.lt_tmod_of_pos a hb;have h2:a.tmod b<=0:=by
   have:=Int.tmod_nonneg b (a:=-a) (by omega);rw [Int.neg_tmod] at this;omega
  split
  .rename_i h3;symm;rw [Int.ediv_eq_iff_of_pos hb];have:b*(a.tdiv b-1)=b*a.tdiv b-b:=by rw [Int.mul_sub,Int.mul_one]
   rw [wY];constructor<;>omega
  .rename_i h3;symm;rw [Int.ediv_eq_iff_of_pos hb];rw [wY];constructor<;>omega
theorem UT (a b) (ha:-1000000000000000<=a/\a<=1000000000000000) (hb:0<b):ah TP 340 [.int .i64 a,.int .i64 b] (.int .i64 (a / b)):=by
 refine aa (ai (by kernel_rfl) rfl VY) rfl ?_;have hb0:b≠0:=by omega
 have hq:-1000000000000000<=a.tdiv b/\a.tdiv b<=1000000000000000:=by
  have h1:=Int.natAbs_tdiv_le_natAbs a b;omega
 have hw:IntKind.i64.wrap (a.tdiv b)=a.tdiv b:=ax (by omega) (by omega);have hw1:IntKind.i64.wrap (a.tdiv b-1)=a.tdiv b-1:=ax (by omega) (by omega);have he:=RH a b hb;simp only [hb0,hw,go_sem,simprocAttr];refine aT (λhc=>?_) (λhc=>?_)<;>simp only [hc,hw1,go_sem,simprocAttr]
 .rw [if_pos (by simpa using hc)] at he;exact he
 .rw [if_neg (by simpa using hc)] at he;exact he
theorem O3 (c:List BdPoint) (b) (n) (i:Nat) (p) (hi:c[i]?=some p):ah TP 339 [.agg [.slice 2 (c.map BdPoint.pv) b,.int .i64 n],.int .i64 i] (.bool (decide (n<=p.parts))):=by
 refine aa (ai (by kernel_rfl) rfl VZ) rfl ?_;have hlt:((i:Nat):Int)<(c.length:Int):=by have:=(aE.1 hi).1;omega
 simp only [hlt,hi,go_sem,simprocAttr]
theorem x8:∀ {c:List BdPoint} (n),c.Pairwise (λa b=>a.parts<b.parts)->∃ pre post,c=pre++post/\(∀ p,p∈pre->p.parts<n)/\∀ p,p∈post->n<=p.parts
 |[],_,_=>⟨[],[],rfl,by simp,by simp⟩
 |a::r,n,h=>by
  cases h with
  |cons h1 h2 =>
   by_cases ha:a.parts<n
   .obtain ⟨pre,post,e,g1,g2⟩:=x8 n h2;refine ⟨a::pre,post,by rw [e];rfl,λp hp=>?_,g2⟩;rcases bw.1 hp with rfl | hp
    .exact ha
    .exact g1 p hp
   .refine ⟨[],a::r,rfl,by simp,λp hp=>?_⟩;rcases bw.1 hp with rfl | hp
    .omega
    .have:=h1 p hp;omega
theorem Dq (n):∀ (pre) (x a) (post),(∀ p,p∈pre++[a]->p.parts<n)->kW x (pre++a::post) n=kW a post n
 |[],x,a,post,h=>by
  have:=h a (by simp)
  rw [oq,kW,if_neg (by omega)]
 |y::pre,x,a,post,h=>by
  have:=h y (by simp);rw [hG,kW,if_neg (by omega)];exact Dq n pre y a post λp hp=>h p (by simp at hp |-;exact .inr hp)
theorem Pq {n} (pre) (a) (post) (h:∀ p,p∈pre++[a]->p.parts<n):qj (pre++a::post) n=kW a post n:=by
 cases pre with
 |nil =>
  have:=h a (by simp)
  rw [oq,qj,if_neg (by omega)]
 |cons y pre =>
  have:=h y (by simp);rw [hG,qj,if_neg (by omega)];exact Dq n pre y a post λp hp=>h p (by simp at hp |-;exact .inr hp)
theorem Iq {a b} {n} (ha:0<=a.parts/\a.parts<=20/\-300<=a.add/\a.add<=300) (hb:0<=b.parts/\b.parts<=20/\-300<=b.add/\b.add<=300) (h1:a.parts<=n) (h2:n<=b.parts) (h3:a.parts<b.parts) :
  -20000<=(b.add-a.add)*(n-a.parts)/\(b.add-a.add)*(n-a.parts)<=20000 /\
  ((a.add<=b.add->a.add<=pF a b n/\pF a b n<=b.add)/\(b.add<=a.add->b.add<=pF a b n/\pF a b n<=a.add)):=by
 unfold pF;generalize hk:n-a.parts=k;generalize hm:b.parts-a.parts=m;generalize hd:b.add-a.add=d;have k0:0<=k:=by omega
 have k1:k<=20:=by omega
 have hkm:k<=m:=by omega
 have m0:0<m:=by omega
 have e1:(-600)*k<=d*k:=yi (by omega) k0;have e2:d*k<=600*k:=yi (by omega) k0;refine ⟨by omega,by omega,λh=>?_,λh=>?_⟩
 .have d0:0<=d:=by omega
  have g1:0<=d*k / m:=Int.ediv_nonneg (yk d0 k0) (by omega);have g2:d*k / m<=d:=by
   have:=Eo m0 (tJ hkm d0);rwa [Int.mul_ediv_cancel _ (by omega)] at this
  omega
 .have d0:d<=0:=by omega
  have g1:d*k / m<=0:=by
   have:=Eo m0 (show d*k<=0 from Int.mul_nonpos_of_nonpos_of_nonneg d0 k0);simpa using this
  have g2:d<=d*k / m:=by
   have e:d*m<=d*k:=Int.mul_le_mul_of_nonpos_left d0 hkm;have:=Eo m0 e;rwa [Int.mul_ediv_cancel _ (by omega)] at this
  omega
theorem UX (c) (b) (n) (hc:CurveOk c):ah TP 337 [.agg [.slice 2 (c.map BdPoint.pv) b,.int .i64 n]] (.int .i64 (qj c n)):=by
 refine aa (ai (by kernel_rfl) rfl V1) rfl ?_;obtain ⟨pre,post,e,g1,g2⟩:=x8 n hc.up;have hlen:=hc.len;have hlt:pre.length<=c.length:=by rw [e];simp
 simp only [Vj,go_sem,simprocAttr];refine aT (λhb=>?_) (λhb=>?_)
 .have:c=[]:=by simpa using hb
  simp only [this,qj,go_sem,simprocAttr]
 simp only [go_sem,simprocAttr];refine ae (Sa (fv:=.func (.func 339) [.agg [.slice 2 (c.map BdPoint.pv) b,.int .i64 n]] []) c.length (λi=>match c[i]? with | some p=>decide (n<=p.parts) | none=>true) (by omega) (λi hi=>?_) pre.length hlt (λi hi=>?_) λi h1 h2=>?_) rfl ?_
 .have hg:c[i]?=some c[i]:=bE hi;rw [hg];exact ⟨_,_,_,rfl,O3 c b n i _ hg⟩
 .rw [e,be hi,bE hi];have:=g1 _ (Jd hi);simp;omega
 .have hh:i-pre.length<post.length:=by rw [e] at h2;simp at h2;omega
  rw [e,cn h1,bE hh];have:=g2 _ (Jd hh);simp;omega
 simp only [go_sem,simprocAttr];rcases wU pre with rfl | ⟨pr,a,hp⟩
 .cases post with
  |nil=>subst e;simp at hb
  |cons x post =>
   have hx:=g2 x (by simp);rw [oq] at e;have h0:c[0]?=some x:=by rw [e];rfl
   have h0':(0:Int)<(c.length:Int):=by rw [e];simp<;>omega
   simp only [h0',h0,ei,go_sem,simprocAttr];rw [e,qj,if_pos hx]
 .rw [wZ] at hp;subst hp;have hz:((((pr++[a]).length:Nat):Int)==0)=false:=by simp<;>omega
  have hw1:IntKind.i64.wrap ((((pr++[a]).length:Nat):Int)-1)=((pr.length:Nat):Int):=by
   rw [cM (by simp<;>omega) (by simp [aw] at hlt |-;omega)];simp
  have ha:c[pr.length]?=some a:=by rw [e];simp
  have hla:((pr.length:Nat):Int)<(c.length:Int):=by simp at hlt;omega
  have hadd:qj c n=kW a post n:=by rw [e];simpa using Pq pr a post g1
  cases post with
  |nil =>
   have hlc:((((pr++[a]).length:Nat):Int)==(c.length:Int))=true:=by rw [e];simp
   simp only [hz,hlc,hw1,ha,hla,hadd,kW,go_sem,simprocAttr]
  |cons x post =>
   have hx:=g2 x (by simp);have hap:=g1 a (by simp);have hxc:c[(pr++[a]).length]?=some x:=by rw [e];simp
   have hlx:(((pr++[a]).length:Nat):Int)<(c.length:Int):=by rw [e];simp<;>omega
   have hlc:((((pr++[a]).length:Nat):Int)==(c.length:Int))=false:=by simp only [beq_eq_false_iff_ne];omega
   have pa:=hc.pt a (by rw [e];simp);have px:=hc.pt x (by rw [e];simp);obtain ⟨b1,b2,b3⟩:=Iq pa px (by omega) hx (by omega);have w1:IntKind.i64.wrap (x.add-a.add)=x.add-a.add:=ax (by omega) (by omega);have w2:IntKind.i64.wrap (n-a.parts)=n-a.parts:=ax (by omega) (by omega);have w3:IntKind.i64.wrap ((x.add-a.add)*(n-a.parts))=(x.add-a.add)*(n-a.parts):=ax (by omega) (by omega);have w4:IntKind.i64.wrap (x.parts-a.parts)=x.parts-a.parts:=ax (by omega) (by omega);have w5:IntKind.i64.wrap (pF a x n)=pF a x n:=ax (by omega) (by omega);simp only [hz,hlc,hw1,ha,hla,hxc,hlx,w1,w2,w3,w4,bj,go_sem,simprocAttr];refine aD (UT _ _ (by omega) (by omega)) rfl ?_;simp only [go_sem,simprocAttr];rw [hadd,kW,if_pos hx];exact w5
end Abs
end Go.Proofs.YtfafnkpfamgbbaaGreatDoor
