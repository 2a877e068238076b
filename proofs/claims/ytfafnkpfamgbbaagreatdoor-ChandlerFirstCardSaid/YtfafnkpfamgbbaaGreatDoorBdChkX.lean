/-
  CONTRACTS: blend.Check, in the program and in the reference: both come to 'bdCheck'.
  CONTRACTS: Check of blend's reference; what a wax raises, in the program and in the refere
  CONTRACTS: recipes, what waxes give to a blend, its ends; in the program and in the refere
-/
import Derived.Test.YtfafnkpfamgbbaaGreatDoorAbsCutX
import Derived.Test.YtfafnkpfamgbbaaGreatDoorLibNameX
set_option linter.unusedSimpArgs false
set_option linter.unusedVariables false
open Go.Proofs.Tryz renaming prog->TP
namespace Go.Proofs.YtfafnkpfamgbbaaGreatDoor
namespace Abs
set_option maxRecDepth 4000
theorem PE (lo hi n):ah TP 211 [.int .i64 n,.ptr 1 [.int .i64 lo] 0 0,.ptr 1 [.int .i64 hi] 0 0] (.bool (!az n lo hi)):=by
 refine aa (ai (by kernel_rfl) rfl US) rfl ?_;simp only [go_sem,simprocAttr];refine aW (λhb=>?_) (λhb=>?_)<;>simp only [hb,go_sem,simprocAttr]<;>simp_all [az];rw [<-decide_not];congr 1;simp
theorem iE (lo hi) (l:List Int) (b) (hl:l.length<1000000000):ah TP 145 [.int .i64 lo,.int .i64 hi,.slice 1 (l.map aJ) b] (.bool (l.any λn=>!az n lo hi)):=by
 refine aa (ai (by kernel_rfl) rfl VC) rfl ?_;simp only [go_sem,simprocAttr];refine bh (i6 (fv:=.func (.func 211) [] [.ptr 1 [.int .i64 lo] 0 0,.ptr 1 [.int .i64 hi] 0 0]) l (λn=>!az n lo hi) b 1 rfl hl λn _=>⟨_,_,_,rfl,PE lo hi n⟩) ?_ (.bool _) ?_
 .simp only [go_sem,simprocAttr]
 .simp only [go_sem,simprocAttr]
def mf (last:Int):List BdPoint->Int
 |[]=>0
 |p::r=>if (az p.parts 0 20&&az p.add (-300) 300)=true then (if p.parts<=last then 2 else mf p.parts r) else 7
def gP (c:List BdPoint):Int:=if 6<c.length then 3 else mf (-1) c
theorem Mx (c) (b) (n):ah TP 148 [.agg [.slice 2 (c.map BdPoint.pv) b,.int .i64 n]] (.int .i64 (gP c)):=by
 refine aa (ai (by kernel_rfl) rfl Vz) rfl ?_;simp only [go_sem,simprocAttr];refine aW (λhb=>?_) (λhb=>?_)<;>simp only [hb,go_sem,simprocAttr]
 .have:6<c.length:=by simp at hb;omega
  simp [gP,this]
 .have h6:¬ 6<c.length:=by simp at hb;omega
  rw [show gP c=mf (-1) c by simp [gP,h6]];refine bT [11,12] c (by omega) (τ:=Int) (λdone rest last=>mf (-1) c=mf last rest) (λdone last=>[(13,.p (.int .i64 done.length)),(3,.p (.int .i64 last))]) (λ_ _=>[.row 2 [.p (.agg [.slice 2 (c.map BdPoint.pv) b,.int .i64 n])]]) (-1) rfl ?_ ?_ ?_
  .simp only [go_sem,simprocAttr]<;>simp
  .intro last e2;simp only [go_sem,simprocAttr];rw [e2];rfl
  .intro done x r last e1 e2 hx hlt hnx;simp only [hlt,hx,go_sem,simprocAttr];refine ae (iE 0 20 [_] true (by simp)) rfl ?_;simp only [bg,bj,ca,go_sem,simprocAttr];cases h1:az x.parts 0 20
   .simp only [go_sem,simprocAttr];rw [e2,mf,h1];rfl
   simp only [go_sem,simprocAttr];refine ae (iE (-300) 300 [_] true (by simp)) rfl ?_;simp only [bg,bj,ca,go_sem,simprocAttr];cases h2:az x.add (-300) 300
   .simp only [go_sem,simprocAttr];rw [e2,mf,h1,h2];rfl
   simp only [go_sem,simprocAttr];refine aW (λhb=>?_) (λhb=>?_)<;>simp only [hb,go_sem,simprocAttr]
   .rw [e2,mf,h1,h2,y8,if_pos rfl,if_pos (by simpa using hb)]
   .refine aL e1 x.parts (by rw [e2,mf,h1,h2,y8,if_pos rfl,if_neg (by simpa using hb)]) ?_;simp only [hnx,go_sem,simprocAttr]
def dq (s:Span) (a b:Int):Bool:=az s.lo a b&&az s.hi a b
def aZ (s:Span):Bool:=decide (s.hi<s.lo)
def dz (before:List ByteArray) (x:BdWax):Int :=
 if aA before x.name=0 then
  if (az x.price 0 100000&&(dq x.melt 0 2000&&dq x.shrink 0 1000))=true then
   if (aZ x.melt||aZ x.shrink)=true then 2 else gP x.curve
  else 7
 else aA before x.name
def Eb:Option (Int×Int)->Int×Int×Int
 |none=>(0,0,0)
 |some (i,e)=>(2,i,e)
def bdCheck (l:List BdWax):Int×Int×Int :=
 if az l.length 1 5=true then Eb (firstErr dz (·.name) l []) else (1,0,3)
theorem Kp (x y:BdWax):ah TP 147 [y.pv,.ptr 7 [x.pv] 0 0] (.bool (y.name==x.name)):=by
 refine aa (ai (by kernel_rfl) rfl VA) rfl ?_;simp only [go_sem,simprocAttr]
theorem jM {before} {x} {a b c} (h1:nameOk x.name=a) (h2:before.any (λt=>t==x.name)=b) (h3:(az x.price 0 100000&&(dq x.melt 0 2000&&dq x.shrink 0 1000))=c) :
  dz before x=if a=true then (if b=true then 5 else if c=true then (if (aZ x.melt||aZ x.shrink)=true then 2 else gP x.curve) else 7) else 6:=by
 unfold dz aA;rw [h1,h2,h3];cases a<;>cases b<;>rfl
set_option maxHeartbeats 1000000 in
theorem xe (l):ah TP 90 [ft l] (aE (bdCheck l)):=by
 refine aa (ai (by kernel_rfl) rfl YA) rfl ?_;simp only [go_sem,simprocAttr];refine ae (iE 1 5 [_] true (by simp)) rfl ?_;simp only [bg,bj,ca,go_sem,simprocAttr];cases h1:az l.length 1 5
 .simp only [aE,bdCheck,h1,go_sem,simprocAttr]
 have hl:l.length<=5:=by simp [az] at h1;omega
 have hspec:bdCheck l=Eb (firstErr dz (·.name) l []):=by simp [bdCheck,h1]
 rw [hspec];simp only [go_sem,simprocAttr];refine dQ [0,11,12] l (by omega) (τ:=Unit) (λdone rest _=>firstErr dz (·.name) l []=firstErr dz (·.name) rest (done.map (·.name))) (λdone _=>[(13,.p (.int .i64 done.length)),(4,.p (.int .i64 0))]) () rfl ?_ ?_ ?_
 .simp only [go_sem,simprocAttr]<;>simp
 .intro _ e2;simp only [go_sem,simprocAttr];rw [e2];rfl
 .intro done x r _ e1 e2 hx hlt hnx;have hle:((done.length:Nat):Int)<=(l.length:Int):=by omega
  have htk:(l.map BdWax.pv).take done.length=done.map BdWax.pv:=by
   rw [e1,cp,fD (by simp)]
  have hln:(done.length==l.length)=false:=by simp;omega
  have hE:firstErr dz (·.name) l []=if dz (done.map (·.name)) x=0 then firstErr dz (·.name) r ((done++[x]).map (·.name)) else some ((done.length:Int),dz (done.map (·.name)) x):=by
   rw [e2,firstErr];simp
  have fin:∀ e,dz (done.map (·.name)) x=e->e≠0->Eb (firstErr dz (·.name) l [])=(2,(done.length:Int),e):=by
   intro e he hne;rw [hE,he,if_neg hne];rfl
  simp only [hlt,hx,go_sem,simprocAttr];refine ae (iM x.name) rfl ?_;simp only [go_sem,simprocAttr];cases h2:nameOk x.name
  .simp only [aE,fin 6 (by rw [jM h2 rfl rfl];rfl) (by decide),go_sem,simprocAttr]
  simp only [hle,zf,gY,htk,hln,go_sem,simprocAttr];refine bh (z6 (fv:=.func (.func 147) [] [.ptr 7 [x.pv] 0 0]) done (λy=>y.name==x.name) false 7 rfl (by omega) λy _=>⟨_,_,_,rfl,Kp x y⟩) ?_ (.bool _) ?_
  .simp only [go_sem,simprocAttr]
  simp only [go_sem,simprocAttr];have hany:(done.map (·.name)).any (λt=>t==x.name)=done.any (λy=>y.name==x.name):=by simp only [ly,lK]
  cases h3:done.any (λy=>y.name==x.name);rotate_left
  .simp only [aE,fin 5 (by rw [jM h2 (hany.trans h3) rfl];rfl) (by decide),go_sem,simprocAttr]
  simp only [go_sem,simprocAttr];refine ae (iE 0 100000 [_] true (by simp)) rfl ?_;simp only [bg,bj,ca,go_sem,simprocAttr];have bad:(az x.price 0 100000&&(dq x.melt 0 2000&&dq x.shrink 0 1000))=false->dz (done.map (·.name)) x=7:=λh=>by rw [jM h2 (hany.trans h3) h];rfl
  cases h4:az x.price 0 100000
  .simp only [aE,fin 7 (bad (by rw [h4];rfl)) (by decide),go_sem,simprocAttr]
  simp only [go_sem,simprocAttr];refine ae (iE 0 2000 [_,_] true (by simp)) rfl ?_;simp only [bg,bj,ca,<-j4,go_sem,simprocAttr];cases h5:(az x.melt.lo 0 2000&&az x.melt.hi 0 2000)
  .simp only [aE,fin 7 (bad (by rw [dq,h5];simp)) (by decide),go_sem,simprocAttr]
  simp only [go_sem,simprocAttr];refine ae (iE 0 1000 [_,_] true (by simp)) rfl ?_;simp only [bg,bj,ca,<-j4,go_sem,simprocAttr];cases h6:(az x.shrink.lo 0 1000&&az x.shrink.hi 0 1000)
  .simp only [aE,fin 7 (bad (by rw [dq,dq,h6];simp)) (by decide),go_sem,simprocAttr]
  have hc:(az x.price 0 100000&&(dq x.melt 0 2000&&dq x.shrink 0 1000))=true:=by rw [dq,dq,h4,h5,h6];rfl
  simp only [go_sem,simprocAttr];cases h7:decide (x.melt.hi<x.melt.lo);rotate_left
  .simp only [aE,fin 2 (by rw [jM h2 (hany.trans h3) hc,aZ,h7];rfl) (by decide),go_sem,simprocAttr]
  simp only [go_sem,simprocAttr];cases h8:decide (x.shrink.hi<x.shrink.lo);rotate_left
  .simp only [aE,fin 2 (by rw [jM h2 (hany.trans h3) hc,aZ,aZ,h7,h8];rfl) (by decide),go_sem,simprocAttr]
  simp only [go_sem,simprocAttr];refine ae (Mx x.curve false 0) rfl ?_;simp only [go_sem,simprocAttr];have hw:dz (done.map (·.name)) x=gP x.curve:=by rw [jM h2 (hany.trans h3) hc,aZ,aZ,h7,h8];rfl
  cases h9:(gP x.curve != 0)
  .have h9':gP x.curve=0:=by simpa using h9
   simp only [go_sem,simprocAttr];refine aL e1 () (by rw [hE,if_pos (hw.trans h9')]) ?_;simp only [hnx,h9',go_sem,simprocAttr]
  .simp only [aE,fin _ hw (by simpa using h9),go_sem,simprocAttr]
structure CurveOk (c:List BdPoint):Prop where
 len:c.length<=6
 pt:∀ p,p∈c->0<=p.parts/\p.parts<=20/\-300<=p.add/\p.add<=300
 up:c.Pairwise λa b=>a.parts<b.parts
theorem CF:∀ (c) (last),mf last c=0->(∀ p,p∈c->0<=p.parts/\p.parts<=20/\-300<=p.add/\p.add<=300)/\c.Pairwise (λa b=>a.parts<b.parts)/\∀ p,p∈c->last<p.parts
 |[],_,_=>⟨by simp,.nil,by simp⟩
 |q::r,last,h=>by
  rw [mf] at h;split at h
  .rename_i hg;split at h
   .cases h
   .rename_i hl;obtain ⟨h1,h2,h3⟩:=CF r _ h;have hq:0<=q.parts/\q.parts<=20/\-300<=q.add/\q.add<=300:=by simp [az] at hg;omega
    refine ⟨?_,.cons (λp hp=>h3 p hp) h2,?_⟩
    .intro p hp;rcases cz.1 hp with rfl | hp
     .exact hq
     .exact h1 p hp
    .intro p hp;rcases cz.1 hp with rfl | hp
     .omega
     .have:=h3 p hp;omega
  .cases h
theorem H2 {c} (h:gP c=0):CurveOk c:=by
 unfold gP at h;split at h
 .cases h
 .obtain ⟨h1,h2,_⟩:=CF c _ h;exact ⟨by omega,h1,h2⟩
def nS (a b:BdPoint) (n:Int):Int:=a.add+(b.add-a.add)*(n-a.parts) / (b.parts-a.parts)
def jZ (a:BdPoint):List BdPoint->Int->Int
 |[],_=>a.add
 |b::r,n=>if n<=b.parts then nS a b n else jZ b r n
def oG:List BdPoint->Int->Int
 |[],_=>0
 |a::r,n=>if n<=a.parts then a.add else jZ a r n
theorem OV (a b:Int) (hb:0<b):(if a.tmod b<0 then a.tdiv b-1 else a.tdiv b)=a / b:=by
 have h:=Int.mul_tdiv_add_tmod a b;rcases GW 0 a with ha | ha
 .have h1:=Int.tmod_nonneg b ha;rw [if_neg (by omega),Int.tdiv_eq_ediv_of_nonneg ha]
 .have h1:-b<a.tmod b:=Int.lt_tmod_of_pos a hb;have h2:a.tmod b<=0:=by
   have:=Int.tmod_nonneg b (a:=-a) (by omega);rw [Int.neg_tmod] at this;omega
  split
  .rename_i h3;symm;rw [Int.ediv_eq_iff_of_pos hb];have:b*(a.tdiv b-1)=b*a.tdiv b-b:=by rw [Int.mul_sub,Int.mul_one]
   rw [u0];constructor<;>omega
  .rename_i h3;symm;rw [Int.ediv_eq_iff_of_pos hb];rw [u0];constructor<;>omega
theorem RV (a b) (ha:-1000000000000000<=a/\a<=1000000000000000) (hb:0<b):ah TP 340 [.int .i64 a,.int .i64 b] (.int .i64 (a / b)):=by
 refine aa (ai (by kernel_rfl) rfl S7) rfl ?_;have hb0:b≠0:=by omega
 have hq:-1000000000000000<=a.tdiv b/\a.tdiv b<=1000000000000000:=by
  have h1:=Int.natAbs_tdiv_le_natAbs a b;omega
 have hw:IntKind.i64.wrap (a.tdiv b)=a.tdiv b:=an (by omega) (by omega);have hw1:IntKind.i64.wrap (a.tdiv b-1)=a.tdiv b-1:=an (by omega) (by omega);have he:=OV a b hb;simp only [hb0,hw,go_sem,simprocAttr];refine aW (λhc=>?_) (λhc=>?_)<;>simp only [hc,hw1,go_sem,simprocAttr]
 .rw [if_pos (by simpa using hc)] at he;exact he
 .rw [if_neg (by simpa using hc)] at he;exact he
theorem Mp (c:List BdPoint) (b) (n) (i:Nat) (p) (hi:c[i]?=some p):ah TP 339 [.agg [.slice 2 (c.map BdPoint.pv) b,.int .i64 n],.int .i64 i] (.bool (decide (n<=p.parts))):=by
 refine aa (ai (by kernel_rfl) rfl S8) rfl ?_;have hlt:((i:Nat):Int)<(c.length:Int):=by have:=(ar.1 hi).1;omega
 simp only [hlt,hi,go_sem,simprocAttr]
theorem wh:∀ {c:List BdPoint} (n),c.Pairwise (λa b=>a.parts<b.parts)->∃ pre post,c=pre++post/\(∀ p,p∈pre->p.parts<n)/\∀ p,p∈post->n<=p.parts
 |[],_,_=>⟨[],[],rfl,by simp,by simp⟩
 |a::r,n,h=>by
  cases h with
  |cons h1 h2 =>
   by_cases ha:a.parts<n
   .obtain ⟨pre,post,e,g1,g2⟩:=wh n h2;refine ⟨a::pre,post,by rw [e];rfl,λp hp=>?_,g2⟩;rcases cz.1 hp with rfl | hp
    .exact ha
    .exact g1 p hp
   .refine ⟨[],a::r,rfl,by simp,λp hp=>?_⟩;rcases cz.1 hp with rfl | hp
    .omega
    .have:=h1 p hp;omega
theorem Bh (n):∀ (pre) (x a) (post),(∀ p,p∈pre++[a]->p.parts<n)->jZ x (pre++a::post) n=jZ a post n
 |[],x,a,post,h=>by
  have:=h a (by simp)
  rw [lX,jZ,if_neg (by omega)]
 |y::pre,x,a,post,h=>by
  have:=h y (by simp);rw [gQ,jZ,if_neg (by omega)];exact Bh n pre y a post λp hp=>h p (by simp at hp |-;exact .inr hp)
theorem MM {n} (pre) (a) (post) (h:∀ p,p∈pre++[a]->p.parts<n):oG (pre++a::post) n=jZ a post n:=by
 cases pre with
 |nil =>
  have:=h a (by simp)
  rw [lX,oG,if_neg (by omega)]
 |cons y pre =>
  have:=h y (by simp);rw [gQ,oG,if_neg (by omega)];exact Bh n pre y a post λp hp=>h p (by simp at hp |-;exact .inr hp)
theorem F4 {a b} {n} (ha:0<=a.parts/\a.parts<=20/\-300<=a.add/\a.add<=300) (hb:0<=b.parts/\b.parts<=20/\-300<=b.add/\b.add<=300) (h1:a.parts<=n) (h2:n<=b.parts) (h3:a.parts<b.parts) :
  -20000<=(b.add-a.add)*(n-a.parts)/\(b.add-a.add)*(n-a.parts)<=20000 /\
  ((a.add<=b.add->a.add<=nS a b n/\nS a b n<=b.add)/\(b.add<=a.add->b.add<=nS a b n/\nS a b n<=a.add)):=by
 unfold nS;generalize hk:n-a.parts=k;generalize hm:b.parts-a.parts=m;generalize hd:b.add-a.add=d;have k0:0<=k:=by omega
 have k1:k<=20:=by omega
 have hkm:k<=m:=by omega
 have m0:0<m:=by omega
 have e1:(-600)*k<=d*k:=rY (by omega) k0;have e2:d*k<=600*k:=rY (by omega) k0;refine ⟨by omega,by omega,λh=>?_,λh=>?_⟩
 .have d0:0<=d:=by omega
  have g1:0<=d*k / m:=Int.ediv_nonneg (wv d0 k0) (by omega);have g2:d*k / m<=d:=by
   have:=xq m0 (xn hkm d0);rwa [Int.mul_ediv_cancel _ (by omega)] at this
  omega
 .have d0:d<=0:=by omega
  have g1:d*k / m<=0:=by
   have:=xq m0 (show d*k<=0 from Int.mul_nonpos_of_nonpos_of_nonneg d0 k0);simpa using this
  have g2:d<=d*k / m:=by
   have e:d*m<=d*k:=Int.mul_le_mul_of_nonpos_left d0 hkm;have:=xq m0 e;rwa [Int.mul_ediv_cancel _ (by omega)] at this
  omega
theorem RZ (c) (b) (n) (hc:CurveOk c):ah TP 337 [.agg [.slice 2 (c.map BdPoint.pv) b,.int .i64 n]] (.int .i64 (oG c n)):=by
 refine aa (ai (by kernel_rfl) rfl Ta) rfl ?_;obtain ⟨pre,post,e,g1,g2⟩:=wh n hc.up;have hlen:=hc.len;have hlt:pre.length<=c.length:=by rw [e];simp
 simp only [Sl,go_sem,simprocAttr];refine aW (λhb=>?_) (λhb=>?_)
 .have:c=[]:=by simpa using hb
  simp only [this,oG,go_sem,simprocAttr]
 simp only [go_sem,simprocAttr];refine ae (Pm (fv:=.func (.func 339) [.agg [.slice 2 (c.map BdPoint.pv) b,.int .i64 n]] []) c.length (λi=>match c[i]? with | some p=>decide (n<=p.parts) | none=>true) (by omega) (λi hi=>?_) pre.length hlt (λi hi=>?_) λi h1 h2=>?_) rfl ?_
 .have hg:c[i]?=some c[i]:=b6 hi;rw [hg];exact ⟨_,_,_,rfl,Mp c b n i _ hg⟩
 .rw [e,aS hi,b6 hi];have:=g1 _ (BP hi);simp;omega
 .have hh:i-pre.length<post.length:=by rw [e] at h2;simp at h2;omega
  rw [e,cD h1,b6 hh];have:=g2 _ (BP hh);simp;omega
 simp only [go_sem,simprocAttr];rcases K0 pre with rfl | ⟨pr,a,hp⟩
 .cases post with
  |nil=>subst e;simp at hb
  |cons x post =>
   have hx:=g2 x (by simp);rw [lX] at e;have h0:c[0]?=some x:=by rw [e];rfl
   have h0':(0:Int)<(c.length:Int):=by rw [e];simp<;>omega
   simp only [h0',h0,eG,go_sem,simprocAttr];rw [e,oG,if_pos hx]
 .rw [KU] at hp;subst hp;have hz:((((pr++[a]).length:Nat):Int)==0)=false:=by simp<;>omega
  have hw1:IntKind.i64.wrap ((((pr++[a]).length:Nat):Int)-1)=((pr.length:Nat):Int):=by
   rw [dj (by simp<;>omega) (by simp [aB] at hlt |-;omega)];simp
  have ha:c[pr.length]?=some a:=by rw [e];simp
  have hla:((pr.length:Nat):Int)<(c.length:Int):=by simp at hlt;omega
  have hadd:oG c n=jZ a post n:=by rw [e];simpa using MM pr a post g1
  cases post with
  |nil =>
   have hlc:((((pr++[a]).length:Nat):Int)==(c.length:Int))=true:=by rw [e];simp
   simp only [hz,hlc,hw1,ha,hla,hadd,jZ,go_sem,simprocAttr]
  |cons x post =>
   have hx:=g2 x (by simp);have hap:=g1 a (by simp);have hxc:c[(pr++[a]).length]?=some x:=by rw [e];simp
   have hlx:(((pr++[a]).length:Nat):Int)<(c.length:Int):=by rw [e];simp<;>omega
   have hlc:((((pr++[a]).length:Nat):Int)==(c.length:Int))=false:=by simp only [beq_eq_false_iff_ne];omega
   have pa:=hc.pt a (by rw [e];simp);have px:=hc.pt x (by rw [e];simp);obtain ⟨b1,b2,b3⟩:=F4 pa px (by omega) hx (by omega);have w1:IntKind.i64.wrap (x.add-a.add)=x.add-a.add:=an (by omega) (by omega);have w2:IntKind.i64.wrap (n-a.parts)=n-a.parts:=an (by omega) (by omega);have w3:IntKind.i64.wrap ((x.add-a.add)*(n-a.parts))=(x.add-a.add)*(n-a.parts):=an (by omega) (by omega);have w4:IntKind.i64.wrap (x.parts-a.parts)=x.parts-a.parts:=an (by omega) (by omega);have w5:IntKind.i64.wrap (nS a x n)=nS a x n:=an (by omega) (by omega);simp only [hz,hlc,hw1,ha,hla,hxc,hlx,w1,w2,w3,w4,bf,go_sem,simprocAttr];refine aC (RV _ _ (by omega) (by omega)) rfl ?_;simp only [go_sem,simprocAttr];rw [hadd,jZ,if_pos hx];exact w5
structure BdWaxOk (x:BdWax):Prop where
 price:0<=x.price/\x.price<=100000
 melt:0<=x.melt.lo/\x.melt.lo<=x.melt.hi/\x.melt.hi<=2000
 shrink:0<=x.shrink.lo/\x.shrink.lo<=x.shrink.hi/\x.shrink.hi<=1000
 curve:CurveOk x.curve
structure BdWaxesOk (l:List BdWax):Prop where
 len:1<=l.length/\l.length<=5
 wax:∀ x,x∈l->BdWaxOk x
def wr (l:List BdWax):Int:=(bdCheck l).2.2
theorem Iq {before} {x} (h:dz before x=0):BdWaxOk x/\aA before x.name=0:=by
 unfold dz at h;split at h
 .rename_i hn;split at h
  .rename_i hg;split at h
   .cases h
   .rename_i ht;simp [az,dq,aZ] at hg ht;exact ⟨⟨by omega,by omega,by omega,H2 h⟩,hn⟩
  .cases h
 .rename_i hn;exact absurd h hn
theorem g9 {α} {f:List ByteArray->α->Int} {nm}:∀ {l} {before},firstErr f nm l before=none->∀ x,x∈l->∃ b,f b x=0
 |[],_,_,_,hx=>by cases hx
 |y::r,before,h,x,hx=>by
  rw [firstErr] at h;split at h
  .rename_i h0;rcases cz.1 hx with rfl | hx
   .exact ⟨_,h0⟩
   .exact g9 h x hx
  .cases h
theorem wb {α} {f:List ByteArray->α->Int} {nm}:∀ {l} {before} {i e},firstErr f nm l before=some (i,e)->e≠0
 |[],_,_,_,h=>by cases h
 |y::r,before,i,e,h=>by
  rw [firstErr] at h;split at h
  .exact wb h
  .rename_i h0;cases h;exact h0
theorem KA {l} (h:wr l=0):(1<=l.length/\l.length<=5)/\firstErr dz (·.name) l []=none:=by
 unfold wr bdCheck at h;split at h
 .rename_i hg;refine ⟨by simp [az] at hg;omega,?_⟩
  cases hf:firstErr dz (·.name) l [] with
  |none=>rfl
  |some q =>
   obtain ⟨i,e⟩:=q;rw [hf] at h;exact absurd h (wb hf)
 .cases h
theorem uK {l} (h:wr l=0):BdWaxesOk l:=by
 obtain ⟨h1,h2⟩:=KA h;exact ⟨h1,λx hx=>let ⟨b,hb⟩:=g9 h2 x hx;(Iq hb).1⟩
structure RecOk (m:Nat) (r:List Int):Prop where
 len:r.length=m
 rng:∀ n,n∈r->0<=n/\n<=20
 sum:r.sum=20
def tK {α:Type} (f:Nat->α->Int):List α->Nat->Int
 |[],_=>0
 |x::r,i=>f i x+tK f r (i+1)
theorem FR {α} (f:α->Int):∀ (l) (i),tK (λ_ x=>f x) l i=(l.map f).sum
 |[],_=>rfl
 |x::r,i=>by rw [tK,FR f r,bQ,List.sum_cons]
def cn (p:BdWax×Int):PV:=.agg [.str p.1.name,.int .i64 p.1.price,.int .i64 p.1.melt.lo,.int .i64 p.1.melt.hi,.int .i64 p.1.shrink.lo,.int .i64 p.1.shrink.hi,.slice 2 (p.1.curve.map BdPoint.pv) false,.int .i64 p.2]
attribute [go_sem] cn
theorem PD {fv} (l) (f) (b) (sz) (hsz:sz=8) (hl:l.length<=1000) (hf:∀ (i:Nat) x,l[i]?=some x->iN TP fv [.int .i64 i,cn x] (.int .i64 (f i x))/\-1000000000<=f i x/\f i x<=1000000000) :
  ah TP 300 [.slice sz (l.map cn) b,fv] (.int .i64 (tK f l 0)):=by
 subst hsz;refine aa (ai (by kernel_rfl) rfl TH) rfl ?_;simp only [go_sem,simprocAttr];refine dQ [1,7,8] l (by omega) (τ:=Int) (λdone rest n=>tK f l 0=n+tK f rest done.length/\-1000000000*(done.length:Int)<=n/\n<=1000000000*(done.length:Int)) (λdone n=>[(9,.p (.int .i64 done.length)),(4,.p (.int .i64 n))]) 0 ⟨by simp,by simp,by simp⟩ ?_ ?_ ?_
 .simp only [go_sem,simprocAttr]<;>simp
 .rintro n ⟨e2,_⟩
  simp only [go_sem,simprocAttr];rw [e2];simp [tK]
 .rintro done x r n e1 ⟨e2,e3,e4⟩ hx hlt hnx
  obtain ⟨⟨g,first,cap,rfl,hc⟩,e5,e6⟩:=hf _ _ hx;simp only [hlt,decide_true,hx,cn,go_sem,simprocAttr];refine ae hc (by simp [cn]) ?_;have hw:IntKind.i64.wrap (n+f done.length x)=n+f done.length x:=an (by omega) (by omega);simp only [hw,go_sem,simprocAttr];refine aL e1 (n+f done.length x) ⟨by rw [e2,tK];simp;omega,by simp;omega,by simp;omega⟩ ?_;simp only [hnx,go_sem,simprocAttr]
abbrev Ps:=List (BdWax×Int)
structure PsOk (ps:Ps):Prop where
 len:ps.length<=5
 wax:∀ p,p∈ps->BdWaxOk p.1/\0<=p.2/\p.2<=20
def cE (f:BdWax×Int->Int) (ps:Ps):Int:=(ps.map f).sum
def kJ (p:BdWax×Int):Int:=p.2*p.1.melt.lo
def kK (p:BdWax×Int):Int:=p.2*p.1.melt.hi
def kq (p:BdWax×Int):Int:=p.2*p.1.shrink.lo
def mH (p:BdWax×Int):Int:=p.2*p.1.shrink.hi
def iZ (p:BdWax×Int):Int:=p.2*p.1.price
def fI (p:BdWax×Int):Int:=20*oG p.1.curve p.2
theorem Eh (n):∀ (r) (a),(0<=a.parts/\a.parts<=20/\-300<=a.add/\a.add<=300)->(∀ p,p∈r->0<=p.parts/\p.parts<=20/\-300<=p.add/\p.add<=300)->a.parts<=n->(a::r).Pairwise (λa b=>a.parts<b.parts)->-300<=jZ a r n/\jZ a r n<=300
 |[],a,ha,_,_,_=>by rw [jZ];omega
 |b::r,a,ha,hr,hn,hp=>by
  rw [jZ];have hab:a.parts<b.parts:=by cases hp with | cons h _=>exact h b (by simp)
  split
  .rename_i h;obtain ⟨_,_,h3,h4⟩:=F4 ha (hr b (by simp)) hn h hab;have hb:=hr b (by simp);rcases GW a.add b.add with h5 | h5
   .have:=h3 h5;omega
   .have:=h4 h5;omega
  .rename_i h;exact Eh n r b (hr b (by simp)) (λp hp=>hr p (by simp [hp])) (by omega) (by cases hp with | cons _ h=>exact h)
theorem PO {c} (h:CurveOk c) (n):-300<=oG c n/\oG c n<=300:=by
 cases c with
 |nil=>simp [oG]
 |cons a r =>
  have ha:=h.pt a (by simp);rw [oG];split
  .omega
  .exact Eh n r a ha (λp hp=>h.pt p (by simp [hp])) (by omega) h.up
theorem dy {p} (h:BdWaxOk p.1/\0<=p.2/\p.2<=20):(0<=kJ p/\kJ p<=40000)/\(0<=kK p/\kK p<=40000)/\(0<=kq p/\kq p<=20000)/\(0<=mH p/\mH p<=20000)/\(0<=iZ p/\iZ p<=2000000)/\-6000<=fI p/\fI p<=6000:=by
 obtain ⟨hw,h0,h1⟩:=h;have m1:=hw.melt;have m2:=hw.shrink;have m3:=hw.price;have m4:=PO hw.curve p.2;refine ⟨jE (B:=2000) h0 h1 (by omega) (by omega),jE (B:=2000) h0 h1 (by omega) (by omega),jE (B:=1000) h0 h1 (by omega) (by omega),jE (B:=1000) h0 h1 (by omega) (by omega),jE (B:=100000) h0 h1 (by omega) (by omega),?_⟩;unfold fI;omega
theorem zl {f} {a b}:∀ {ps},(∀ p,p∈ps->a<=f p/\f p<=b)->a*(ps.length:Int)<=cE f ps/\cE f ps<=b*(ps.length:Int)
 |[],_=>by simp [cE]
 |p::ps,h=>by
  have h1:=zl (f:=f) (ps:=ps) λq hq=>h q (by simp [hq]);have h2:=h p (by simp);simp only [cE,bQ,List.sum_cons,e9] at h1 |-;have e1:a*((ps.length+1:Nat):Int)=a*(ps.length:Int)+a:=by rw [Int.natCast_add,Int.mul_add];simp
  have e2:b*((ps.length+1:Nat):Int)=b*(ps.length:Int)+b:=by rw [Int.natCast_add,Int.mul_add];simp
  omega
theorem Am {f} {b} {ps} (hl:ps.length<=5) (hb:0<=b) (h:∀ p,p∈ps->-b<=f p/\f p<=b):-(5*b)<=cE f ps/\cE f ps<=5*b:=by
 obtain ⟨h1,h2⟩:=zl h;have:b*(ps.length:Int)<=b*5:=xn (by omega) hb;have e:(-b)*(ps.length:Int)=-(b*(ps.length:Int)):=xr _ _;omega
theorem BB (p) (h:BdWaxOk p.1/\0<=p.2/\p.2<=20):ah TP 329 [cn p] (.int .i64 (kJ p)):=by
 refine aa (ai (by kernel_rfl) rfl Ti) rfl ?_;have hb:=dy h;have hw:IntKind.i64.wrap (kJ p)=kJ p:=an (by omega) (by omega);unfold kJ at hw |-;simp only [hw,go_sem,simprocAttr]
theorem BC (p) (h:BdWaxOk p.1/\0<=p.2/\p.2<=20):ah TP 330 [cn p] (.int .i64 (kK p)):=by
 refine aa (ai (by kernel_rfl) rfl Th) rfl ?_;have hb:=dy h;have hw:IntKind.i64.wrap (kK p)=kK p:=an (by omega) (by omega);unfold kK at hw |-;simp only [hw,go_sem,simprocAttr]
theorem Fl (p) (h:BdWaxOk p.1/\0<=p.2/\p.2<=20):ah TP 331 [cn p] (.int .i64 (kq p)):=by
 refine aa (ai (by kernel_rfl) rfl Tg) rfl ?_;have hb:=dy h;have hw:IntKind.i64.wrap (kq p)=kq p:=an (by omega) (by omega);unfold kq at hw |-;simp only [hw,go_sem,simprocAttr]
theorem H9 (p) (h:BdWaxOk p.1/\0<=p.2/\p.2<=20):ah TP 332 [cn p] (.int .i64 (mH p)):=by
 refine aa (ai (by kernel_rfl) rfl Tf) rfl ?_;have hb:=dy h;have hw:IntKind.i64.wrap (mH p)=mH p:=an (by omega) (by omega);unfold mH at hw |-;simp only [hw,go_sem,simprocAttr]
theorem Fk (p) (h:BdWaxOk p.1/\0<=p.2/\p.2<=20):ah TP 269 [cn p] (.int .i64 (iZ p)):=by
 refine aa (ai (by kernel_rfl) rfl T8) rfl ?_;have hb:=dy h;have hw:IntKind.i64.wrap (iZ p)=iZ p:=an (by omega) (by omega);unfold iZ at hw |-;simp only [hw,go_sem,simprocAttr]
theorem Fj (p) (h:BdWaxOk p.1/\0<=p.2/\p.2<=20):ah TP 333 [cn p] (.int .i64 (fI p)):=by
 refine aa (ai (by kernel_rfl) rfl Te) rfl ?_;have hb:=dy h;have hw:IntKind.i64.wrap (fI p)=fI p:=an (by omega) (by omega);unfold fI at hw |-;simp only [go_sem,simprocAttr];refine ae (RZ p.1.curve false p.2 h.1.curve) rfl ?_;simp only [hw,go_sem,simprocAttr]
def qt:AV:=.p (.agg [.str ⟨#[]⟩,.int .i64 0,.int .i64 0,.int .i64 0,.int .i64 0,.int .i64 0,.nilslice,.int .i64 0])
def gW (ps done:Ps):List AV:=(done.map λp=>.p (cn p))++List.replicate (ps.length-done.length) qt
theorem A7 {ps done r} {x} (h:ps=done++x::r):(gW ps done).length=ps.length:=by subst h;simp [gW]
theorem A8 {ps done r} {x} (h:ps=done++x::r):(gW ps done)[done.length]?=some qt:=by
 subst h;unfold gW;rw [cD (by simp)];simp
theorem A6 {ps done r} {x} (h:ps=done++x::r):(gW ps done).set done.length (.p (cn x))=gW ps (done++[x]):=by
 subst h;have e:(done++x::r).length-done.length=((done++x::r).length-(done++[x]).length)+1:=by simp<;>omega
 unfold gW;rw [wx _ _ (by simp),e,BO];simp
theorem wm (n) (ps done):(∀ x,x∈gW ps done->below n x)=True:=by
 refine eq_true λx hx=>?_;rcases bX.1 hx with h | h
 .obtain ⟨p,_,rfl⟩:=dD.1 h;trivial
 .rw [List.eq_of_mem_replicate h];trivial
def pz (ps:Ps):PV:=.slice 8 (ps.map cn) false
attribute [go_sem] pz
theorem RY (ps) (b1 b2) (hl:ps.length<=5):ah TP 268 [.slice 7 (ps.map λp=>p.1.pv) b1,.slice 1 (ps.map λp=>aJ p.2) b2] (pz ps):=by
 refine cI (ai (by kernel_rfl) rfl Nq) rfl ?_;have hrm:((ps.length:Nat):Int)<=(aB:Int):=by simp [aB];omega
 have hr0:List.replicate ps.length qt=gW ps []:=by simp [gW]
 simp only [qt] at hr0;simp only [hrm,tm,hr0,go_sem,simprocAttr];refine bT [1,5,11,12] ps (by omega) (τ:=Unit) (λ_ _ _=>True) (λdone _=>[(13,.p (.int .i64 done.length))]) (λdone _=>[.row 8 (gW ps done)]) () trivial ?_ ?_ ?_
 .simp only [wm,go_sem,simprocAttr]
 .intro _ _;have hz:(gW ps ps)=ps.map λp=>.p (cn p):=by simp [gW]
  simp only [cn] at hz;simp only [hz,go_sem,simprocAttr];rfl
 .intro done x r _ e1 _ hx hlt hnx;have h1:=A7 e1;have h2:=A8 e1;have h3:=A6 e1;simp only [qt] at h2;simp only [cn] at h3;simp only [hlt,hx,h1,h2,h3,go_sem,simprocAttr];refine aL e1 () trivial ?_;simp only [hnx,wm,go_sem,simprocAttr]
end Abs
end Go.Proofs.YtfafnkpfamgbbaaGreatDoor
