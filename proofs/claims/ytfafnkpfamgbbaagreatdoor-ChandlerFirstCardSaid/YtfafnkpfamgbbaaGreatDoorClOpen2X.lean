/-
  CONTRACTS: colour.open. No conditions but those in the theorems' heads.
  THE BEST ORDER OF BATCHES: found batch by batch, and out of all orders; plain Lean. No con
  THE BEST ORDER OF BATCHES, with sets as bits and what a plan is; plain Lean. No conditions
  CONTRACTS: colour in the reference: what a batch needs, what an order loses, errors of bat
  LAWS: a map of which it is known what may stand in it: it is looked at, and forgotten agai
-/
import Derived.Test.YtfafnkpfamgbbaaGreatDoorAbsCutX
import Derived.Test.YtfafnkpfamgbbaaGreatDoorLibNameX
set_option linter.unusedSimpArgs false
set_option linter.unusedVariables false
open Go.Proofs.Tryz renaming prog->TP
namespace Go.Proofs.YtfafnkpfamgbbaaGreatDoor
namespace Abs
namespace Cl
set_option maxRecDepth 4000
def lj (s:ClShop) (l:List ClBatch) (m:Nat):AObj:=.row 6 [.agg [.p (.slice 4 (s.colours.map ClColour.pv) false),.p (.int .i64 s.keep.lo),.p (.int .i64 s.keep.hi),.p (.int .i64 s.rinse),.p (.slice 2 (l.map ClBatch.pv) false),.ref .mp m]]
attribute [go_sem] lj
theorem DE {e e0} {a b c} {u} {t} (hu:u=.p .nilptr\/u=.ptr 6 1 0 0):iT TP 310 [.ptr 3 1 0 0,.ptr 4 1 0 0] (.pan (.iface 43 (.int .i64 e))) (a::b::c::.row 1 [u]::.row 1 [.p (.int .i64 e0)]::t)
  (λr u h'=>r=.ret (.p (.tuple []))/\u=.recd (.iface 43 (.int .i64 e))/\h'=a::b::c::.row 1 [.p .nilptr]::.row 1 [.p (.int .i64 e)]::t):=by
 refine eU (ai (by kernel_rfl) rfl No) rfl ?_;rcases hu with rfl | rfl<;>simp only [Sp,bf,mb,gL,bF,go_sem,simprocAttr]
theorem J3 {i j} {h}:iT TP 310 [.ptr i 1 0 0,.ptr j 1 0 0] .ret h (λr u h'=>r=.ret (.p (.tuple []))/\u=.ret/\h'=h):=by
 refine eU (ai (by kernel_rfl) rfl No) rfl ?_;simp only [mb,gL,go_sem,simprocAttr]
theorem cG {rs} {R} {T} {e e0} {a b c} {u} {t} (hu:u=.p .nilptr\/u=.ptr 6 1 0 0) (k:bU TP rs R T [] .ret (a::b::c::.row 1 [.p .nilptr]::.row 1 [.p (.int .i64 e)]::t)) :
  bU TP rs R T [.fn 310 [.ptr 3 1 0 0,.ptr 4 1 0 0]] (.pan (.iface 43 (.int .i64 e))) (a::b::c::.row 1 [u]::.row 1 [.p (.int .i64 e0)]::t):=by
 rw [jq];refine (DE hu).mono λr u h' hr=>?_;obtain ⟨rfl,rfl,rfl⟩:=hr;exact k
theorem wS {rs} {R} {T} {h} (k:bU TP rs R T [] .ret h):bU TP rs R T [.fn 310 [.ptr 3 1 0 0,.ptr 4 1 0 0]] .ret h:=by
 rw [jq];refine J3.mono λr u h' hr=>?_;obtain ⟨rfl,rfl,rfl⟩:=hr;exact k
theorem WG (e):ah TP 311 [.bool true,.int .i64 e] (.tuple []):=by
 refine aa (ai (by kernel_rfl) rfl Nn) rfl ?_;simp only [go_sem,simprocAttr]
theorem nx {P} {H} {ops} {rest} {Q} {o} {hs} {A} {f} {args} {pargs} {v} (hc:ah P f pargs v) (ha:args=pargs.map .p)
  (h:@WD ⟨P,H,ops,rest,Q⟩ hs (A.put o.dst (.p v) A.h)):@KI ⟨P,H,ops,rest,Q,o⟩ hs A (.call f args):=by
 subst ha;exact .inl ⟨.p v,λ_ _=>pb hc,h⟩
theorem HU (s) (l) (b) (hn:s.colours.length<=6) (a0 a1 a2 a3 a4 a5 a7):ay TP 312 [.ptr 6 1 0 0,.p b.pv] [a0,a1,a2,a3,a4,a5,lj s l 5,a7]
  (λr h'=>h'=[a0,a1,a2,a3,a4,a5,lj s l 5,a7,.row 2 [.p b.pv]]/\r=if dP s b=0 then .ret (.p (.tuple [])) else .panic (.iface 43 (.int .i64 (dP s b)))):=by
 refine ax (ai (by kernel_rfl) rfl Tz) rfl ?_;have hw:IntKind.i64.wrap ((s.colours.length:Int)-1)=(s.colours.length:Int)-1:=an (by omega) (by omega);simp only [So,bf,hw,go_sem,simprocAttr]
 (first | refine ae (eb 0 ((s.colours.length:Int)-1) [b.colour] true (by simp)) rfl ?_ | refine aC (eb 0 ((s.colours.length:Int)-1) [b.colour] true (by simp)) rfl ?_)
 simp only [bg,bj,ca,kx,go_sem,simprocAttr];cases h1:az b.colour 0 ((s.colours.length:Int)-1)
 .have hb:dP s b=4:=by rw [dP,h1];rfl
  refine MX λT=>?_;simp only [hb,go_sem,simprocAttr]
 refine nx (WG 4) rfl ?_;simp only [go_sem,simprocAttr];refine ae (eb 1 100000 [_] true (by simp)) rfl ?_;simp only [bg,bj,ca,kx,go_sem,simprocAttr];cases h2:az b.grams 1 100000
 .have hb:dP s b=7:=by rw [dP,h1,h2];rfl
  refine aq (λh=>by cases h) λ_=>?_;simp only [hb,go_sem,simprocAttr]
 have hb:dP s b=0:=by rw [dP,h1,h2];rfl
 refine aq (λ_=>?_) (λh=>by cases h);simp only [hb,go_sem,simprocAttr]
set_option maxHeartbeats 2000000 in
theorem HT (s) (aR) (l) (x) (hl:l.length<1000000000):ay TP 289 [.p s.pv,.p (.slice 2 (l.map ClBatch.pv) false),.slice 1 1 0 1] [x,.row 1 [.p (.int .i64 aR)]]
  (λr h'=>(dg s aR l=0/\ShopOk s/\(∀ b,b∈l->BatchOk s b)/\l.length<=7/\r=.ret (.tuple [.ptr 6 1 0 0,.p (.int .i64 0)])/\h'=[x,.row 1 [.p (.int .i64 aR)],.row 4 [.p s.pv],.row 1 [.ptr 6 1 0 0],.row 1 [.p (.int .i64 0)],.mp [],lj s l 5]) \/
   (dg s aR l≠0/\r=.ret (.p (.tuple [.nilptr,.int .i64 (dg s aR l)]))/\∃ t,h'=[x,.row 1 [.p (.int .i64 aR)],.row 4 [.p s.pv],.row 1 [.p .nilptr],.row 1 [.p (.int .i64 (dg s aR l))]]++t)):=by
 refine Fb λhbel=>?_;have hx0:aV 7 x:=E1 (n:=2) (by decide) (hbel x (by simp));refine ax (ai (by kernel_rfl) rfl TR) rfl ?_;simp only [go_sem,simprocAttr];refine ae (oa s) rfl ?_;simp only [aE,go_sem,simprocAttr];cases h0:((clCheck s).2.2==0)
 .have h0':¬ (clCheck s).2.2=0:=by simpa using h0
  have ho:dg s aR l=(clCheck s).2.2:=by rw [dg,if_neg h0']
  refine aq (λh=>by cases h) λ_=>?_;simp only [go_sem,simprocAttr];refine cG (.inl rfl) ?_;simp only [go_sem,simprocAttr];exact .inr ⟨by rw [ho];exact h0',by rw [ho],[],by rw [ho];exact ⟨rfl,rfl⟩⟩
 have h0':(clCheck s).2.2=0:=by simpa using h0
 have hs:=va h0';have hsl:=hs.len;have hw:IntKind.i64.wrap ((s.colours.length:Int)-1)=(s.colours.length:Int)-1:=an (by omega) (by omega);refine aq (λ_=>?_) (λh=>by cases h);simp only [h0',hw,go_sem,simprocAttr];refine bh (eb 0 ((s.colours.length:Int)-1) [aR] false (by simp)) ?_ (.bool _) ?_
 .simp only [go_sem,simprocAttr]
 simp only [bg,bj,ca,kx,go_sem,simprocAttr];cases h1:az aR 0 ((s.colours.length:Int)-1)
 .have ho:dg s aR l=4:=by rw [dg,if_pos h0',h1];rfl
  refine aq (λh=>by cases h) λ_=>?_;simp only [go_sem,simprocAttr];refine cG (.inl rfl) ?_;simp only [go_sem,simprocAttr];exact .inr ⟨by rw [ho];decide,by rw [ho],[],by rw [ho];exact ⟨rfl,rfl⟩⟩
 have ho1:dg s aR l=rm s l:=by rw [dg,if_pos h0',h1];rfl
 refine aq (λ_=>?_) (λh=>by cases h);simp only [go_sem,simprocAttr];cases h2:decide ((l.length:Int)<=7)
 .have h2':¬ l.length<=7:=by simp at h2;omega
  have ho:dg s aR l=3:=by rw [ho1,rm,if_neg h2']
  refine aq (λh=>by cases h) λ_=>?_;simp only [go_sem,simprocAttr];refine cG (.inl rfl) ?_;simp only [go_sem,simprocAttr];exact .inr ⟨by rw [ho];decide,by rw [ho],[],by rw [ho];exact ⟨rfl,rfl⟩⟩
 have h2':l.length<=7:=by simp at h2;omega
 have ho2:dg s aR l=er s l:=by rw [ho1,rm,if_pos h2']
 refine aq (λ_=>?_) (λh=>by cases h);simp only [go_sem,simprocAttr]
 refine bT [6,7,38,39] l (by omega) (τ:=Unit) (λdone rest _=>er s l=er s rest) (λdone _=>[(40,.p (.int .i64 done.length))])
  (λ_ _=>[x,.row 1 [.p (.int .i64 aR)],.row 4 [.p s.pv],.row 1 [.ptr 6 1 0 0],.row 1 [.p (.int .i64 0)],.mp [],lj s l 5]) () rfl ?_ ?_ ?_
 .simp only [go_sem,simprocAttr];exact ⟨hx0,show 5<7 by decide⟩
 .intro _ e2;rw [er] at e2;simp only [go_sem,simprocAttr];refine wS ?_;simp only [go_sem,simprocAttr];exact .inl ⟨ho2.trans e2,hs,yX e2,h2'⟩
 .intro done b r _ e1 e2 hx hlt hnx;rw [er] at e2;simp only [hlt,hx,go_sem,simprocAttr];refine bW (HU s l b (by omega) _ _ _ _ _ _ _) (λv h hr=>?_) (λv h hr=>?_)
  .obtain ⟨rfl,hr⟩:=hr;by_cases hb:dP s b=0
   .rw [if_pos hb] at e2 hr;cases hr;simp only [go_sem,simprocAttr];refine aL e1 () e2 ?_;simp only [hnx,go_sem,simprocAttr];exact ⟨hx0,show 5<7 by decide⟩
   .rw [if_neg hb] at hr;cases hr
  .obtain ⟨rfl,hr⟩:=hr;by_cases hb:dP s b=0
   .rw [if_pos hb] at hr;cases hr
   .rw [if_neg hb] at e2 hr;cases hr;simp only [go_sem,simprocAttr];refine cG (.inr rfl) ?_;simp only [go_sem,simprocAttr];exact .inr ⟨by rw [ho2,e2];exact hb,by rw [ho2,e2],_,by rw [ho2,e2];exact ⟨rfl,rfl⟩⟩
section
variable (need:Int->Nat->Option Int) (col:Nat->Int)
def ci (a b:Option (List Nat×Int)):Option (List Nat×Int) :=
 match a,b with
 |none,b=>b
 |a,none=>a
 |some p,some q=>if q.2<p.2 then some q else some p
def fX (i:Nat) (n:Option Int) (r:Option (List Nat×Int)):Option (List Nat×Int) :=
 match n,r with
 |some n,some (o,c)=>some (i::o,n+c)
 |_,_=>none
def ep:Nat->Int->List Nat->Option (List Nat×Int)
 |_,_,[]=>some ([],0)
 |0,_,_::_=>none
 |k+1,c,i::l=>(i::l).foldl (λa j=>ci a (fX j (need c j) (ep k (col j) ((i::l).erase j)))) none
def lP:Nat->List Nat->List (List Nat)
 |_,[]=>[[]]
 |0,_::_=>[]
 |k+1,i::l=>(i::l).flatMap λj=>(lP k ((i::l).erase j)).map (j::·)
def ip:Int->List Nat->Option Int
 |_,[]=>some 0
 |c,i::o=>match need c i,ip (col i) o with | some n,some m=>some (n+m) | _,_=>none
def eI (c:Int) (l:List (List Nat)) (a:Option (List Nat×Int)):Option (List Nat×Int):=l.foldl (λa o=>ci a ((ip need col c o).map λn=>(o,n))) a
theorem gy (a):ci a none=a:=by cases a<;>rfl
theorem ea (a):ci none a=a:=by cases a<;>rfl
theorem D5 (a b c):ci (ci a b) c=ci a (ci b c):=by
 cases a with
 |none=>simp [ea]
 |some p=>cases b with
  |none=>simp [gy,ea]
  |some q=>cases c with
   |none=>simp [gy]
   |some r =>
    simp only [ci];by_cases h1:q.2<p.2
    .rw [if_pos h1];by_cases h2:r.2<q.2
     .rw [if_pos h2];simp only [];rw [if_pos h2,if_pos (by omega)]
     .rw [if_neg h2];simp only [];rw [if_neg h2,if_pos h1]
    .rw [if_neg h1];by_cases h2:r.2<q.2
     .rw [if_pos h2]
     .rw [if_neg h2];simp only [];rw [if_neg h1,if_neg (by omega)]
theorem ik (c):∀ (l) (a),eI need col c l a=ci a (eI need col c l none)
 |[],a=>by simp [eI,gy]
 |o::l,a=>by
  have h1:=ik c l (ci a ((ip need col c o).map λn=>(o,n)));have h2:=ik c l (ci none ((ip need col c o).map λn=>(o,n)));simp only [eI,ky] at h1 h2 |-;rw [h1,h2,ea,D5]
theorem EW (c) (l m) (a):eI need col c (l++m) a=ci (eI need col c l a) (eI need col c m none):=by
 rw [<-ik];simp [eI,r8]
theorem DF (i) (n) (a b):fX i n (ci a b)=ci (fX i n a) (fX i n b):=by
 cases n with
 |none=>cases a<;>cases b<;>simp [ci,fX]
 |some n=>cases a with
  |none=>simp [ea,fX]
  |some p=>cases b with
   |none=>simp [gy,fX]
   |some q =>
    simp only [ci,fX];by_cases h:q.2<p.2
    .rw [if_pos h,if_pos (by omega)]
    .rw [if_neg h,if_neg (by omega)]
theorem Az (c) (i):∀ (l),eI need col c (l.map (i::·)) none=fX i (need c i) (eI need col (col i) l none)
 |[]=>by cases need c i<;>simp [eI,fX]
 |o::l=>by
  have ih:=Az c i l;rw [bQ];rw [show eI need col c ((i::o)::l.map (i::·)) none=eI need col c (l.map (i::·)) (ci none ((ip need col c (i::o)).map λn=>(i::o,n))) from rfl];rw [show eI need col (col i) (o::l) none=eI need col (col i) l (ci none ((ip need col (col i) o).map λn=>(o,n))) from rfl];rw [ik need col c _ (ci none _),ih,ik need col (col i) l (ci none _),DF,ea,ea,ip];have e:(match need c i,ip need col (col i) o with | some n,some m=>some (n+m) | _,_=>none).map (λn=>(i::o,n))=fX i (need c i) ((ip need col (col i) o).map λn=>(o,n)):=by
   cases need c i<;>cases ip need col (col i) o<;>simp [fX]
  rw [e]
theorem nG {α β:Type} {f g:β->α->β}:∀ {l:List α} {b},(∀ b x,x∈l->f b x=g b x)->l.foldl f b=l.foldl g b
 |[],_,_=>rfl
 |x::l,b,h=>by rw [ky,ky,h b x (by simp),nG λb y hy=>h b y (by simp [hy])]
theorem Ay (c) (f):∀ (l:List Nat) (a),eI need col c (l.flatMap f) a=l.foldl (λa j=>ci a (eI need col c (f j) none)) a
 |[],a=>rfl
 |j::l,a=>by rw [qh,EW,ky,<-Ay c f l,ik need col c (l.flatMap f) (ci a _),ik need col c (f j) a]
theorem Ba:∀ (k) (c) (l),l.length<=k->eI need col c (lP k l) none=ep need col k c l
 |k,c,[],h=>by cases k<;>simp [lP,ep,eI,ip,ea]
 |0,c,i::l,h=>by simp at h
 |k+1,c,i::l,h=>by
  rw [lP,ep,Ay];refine nG λa j hj=>?_;rw [Az,Ba k (col j) _ (by rw [List.length_erase_of_mem hj];simp at h |-;omega)]
theorem wK (c):∀ (l) (o) (n),eI need col c l none=some (o,n)->o∈l/\ip need col c o=some n
 |[],o,n,h=>by simp [eI] at h
 |x::l,o,n,h=>by
  rw [show eI need col c (x::l) none=eI need col c l (ci none ((ip need col c x).map λn=>(x,n))) from rfl,ik,ea] at h
  cases hx:ip need col c x with
  |none =>
   rw [hx,Option.map_none,ea] at h;have:=wK c l o n h
   exact ⟨by simp [this.1],this.2⟩
  |some m =>
   rw [hx,mT] at h
   cases hl:eI need col c l none with
   |none=>rw [hl,gy] at h;cases h;exact ⟨by simp,hx⟩
   |some q =>
    rw [hl] at h;simp only [ci] at h;split at h
    .cases h;have:=wK c l _ _ hl;exact ⟨by simp [this.1],this.2⟩
    .cases h;exact ⟨by simp,hx⟩
theorem vU:∀ (k) (l o),o∈lP k l->o.Perm l
 |k,[],o,h=>by cases k<;>(simp [lP] at h;subst h;exact .refl _)
 |0,i::l,o,h=>by simp [lP] at h
 |k+1,i::l,o,h=>by
  rw [lP,xu] at h;obtain ⟨j,hj,h⟩:=h;obtain ⟨p,hp,rfl⟩:=dD.1 h;exact ((vU k _ p hp).cons j).trans (List.perm_cons_erase hj).symm
end
end Cl
end Abs
end Go.Proofs.YtfafnkpfamgbbaaGreatDoor
namespace Go.Proofs.YtfafnkpfamgbbaaGreatDoor
namespace Abs
namespace Cl
def ec (m:Nat):List Nat:=(List.range 7).filter m.testBit
set_option maxRecDepth 100000 in
theorem pg:∀ m,m<128->∀ i,i<7->m.testBit i=true->(ec m).erase i=ec (m-2^i)/\2^i<=m:=by decide
theorem D2 {m i}:i∈ec m↔i<7/\m.testBit i=true:=by simp [ec]
theorem A9:ec 0=[]:=by decide
set_option maxRecDepth 100000 in
theorem D1:∀ m,m<128->ec m=[]->m=0:=by decide
theorem s8 (m):(ec m).length<=7:=by have:=List.length_filter_le m.testBit (List.range 7);simpa [ec] using this
def kg:Int:=1099511627776
def gG:Option (List Nat×Int)->Int×Int
 |none=>(kg,-2)
 |some (o,n)=>(n,match o with | []=>-1 | i::_=>(i:Int))
section
variable (need:Int->Nat->Option Int) (col:Nat->Int)
def jm (c:Int) (f:Nat->Int×Int) (p:Int×Int) (j:Nat):Int×Int :=
 match need c j with
 |none=>p
 |some n=>if n+(f j).1<p.1 then (n+(f j).1,(j:Int)) else p
def mP (B:Int) (a:Option (List Nat×Int)):Prop:=∀ o n,a=some (o,n)->0<=n/\n<=B
theorem tQ {B} {a b} (ha:mP B a) (hb:mP B b):mP B (ci a b):=by
 intro o n h
 cases a with
 |none=>cases b<;>first | exact hb o n h | cases h
 |some p =>
  cases b with
  |none=>exact ha o n h
  |some q =>
   simp only [ci] at h;split at h
   .exact hb o n h
   .exact ha o n h
theorem vP {α:Type} {B} {f:α->Option (List Nat×Int)}:∀ (l:List α) (a),mP B a->(∀ x,x∈l->mP B (f x))->mP B (l.foldl (λa x=>ci a (f x)) a)
 |[],a,ha,_=>ha
 |x::l,a,ha,h=>vP l _ (tQ ha (h x (by simp))) λy hy=>h y (by simp [hy])
theorem l8 (hn:∀ c j n,need c j=some n->0<=n/\n<=30000):∀ (k:Nat) (c) (l),mP (30000*(k)) (ep need col k c l)
 |k,c,[]=>by
  intro o n h
  cases k<;>(simp only [ep,fu,xp] at h;omega)
 |0,c,i::l=>by intro o n h;cases h
 |k+1,c,i::l=>by
  rw [ep];refine vP _ none (λo n h=>by cases h) λj hj=>?_;intro o n h;unfold fX at h;split at h
  .rename_i n1 o1 c1 h1 h2;have a1:=hn _ _ _ h1;have a2:=l8 hn k (col j) _ o1 c1 h2;cases h;omega
  .cases h
theorem Ji {B} (hB:B+30000<kg) (hn:∀ c j n,need c j=some n->0<=n/\n<=30000) (c) (j) {a r} {f} (ha:mP (B+30000) a) (hr:mP B r) (hf:f j=gG r) :
  gG (ci a (fX j (need c j) r))=jm need c f (gG a) j:=by
 unfold jm
 cases hc:need c j with
 |none=>simp only [fX,gy]
 |some n =>
  have hn':=hn _ _ _ hc;dsimp only;rw [hf]
  cases r with
  |none =>
   simp only [fX,gy];rw [if_neg]
   cases a with
   |none=>simp only [gG];omega
   |some p=>have:=ha p.1 p.2 rfl;simp only [gG];omega
  |some q =>
   have hq:=hr q.1 q.2 rfl;simp only [fX]
   cases a with
   |none =>
    simp only [ea,gG]
    exact (if_pos (show n+q.2<kg by omega)).symm
   |some p =>
    simp only [ci,gG];by_cases hlt:n+q.2<p.2
    .rw [if_pos hlt];exact (if_pos hlt).symm
    .rw [if_neg hlt];exact (if_neg hlt).symm
theorem xN {B} (hB:B+30000<kg) (hn:∀ c j n,need c j=some n->0<=n/\n<=30000) (c) (r:Nat->Option (List Nat×Int)) (hr:∀ j,mP B (r j)):∀ (l:List Nat) (a),mP (B+30000) a ->
  gG (l.foldl (λa j=>ci a (fX j (need c j) (r j))) a)=l.foldl (jm need c λj=>gG (r j)) (gG a)
 |[],a,_=>rfl
 |j::l,a,ha=>by
  rw [ky,ky,<-Ji need hB hn c j ha (hr j) rfl];refine xN hB hn c r hr l _ (tQ ha ?_);intro o n h;unfold fX at h;split at h
  .rename_i n1 o1 c1 h1 h2;have a1:=hn _ _ _ h1;have a2:=hr j o1 c1 h2;cases h;omega
  .cases h
def ke (c:Int) (m:Nat):Int×Int:=gG (ep need col 7 c (ec m))
theorem uI:∀ (k) (c) (l),l.length<=k->ep need col (k+1) c l=ep need col k c l
 |0,c,[],_=>rfl
 |0,c,_::_,h=>by simp at h
 |k+1,c,[],_=>rfl
 |k+1,c,i::l,h=>by
  rw [ep,ep];refine nG λa j hj=>?_;rw [uI k (col j) _ (by rw [List.length_erase_of_mem hj];simp at h |-;omega)]
theorem vS (c):ke need col c 0=(0,-1):=by
 rw [ke,A9];rfl
theorem EV (hn:∀ c j n,need c j=some n->0<=n/\n<=30000) (c) {m} (hm:m<128) (h0:m≠0) :
  ke need col c m=(ec m).foldl (jm need c λj=>ke need col (col j) (m-2^j)) (kg,-2):=by
 have hl:=s8 m;unfold ke;rw [<-uI need col 7 c _ hl]
 cases hb:ec m with
 |nil=>exact absurd (D1 m hm hb) h0
 |cons i l =>
  rw [ep];have hs:=l8 need col hn 7;rw [xN need (B:=210000) (by unfold kg;omega) hn c (λj=>ep need col 7 (col j) ((i::l).erase j)) (λj o n h=>hs _ _ o n h) (i::l) none (λo n h=>by cases h)];refine nG λa j hj=>?_;rw [<-hb] at hj |-;rw [D2] at hj;simp only [jm,(pg m hm j hj.1 hj.2).1]
theorem yy {f:Nat->Option (List Nat×Int)}:∀ (l:List Nat) (a) (o) (n),l.foldl (λa j=>ci a (f j)) a=some (o,n)->a=some (o,n)\/∃ j,j∈l/\f j=some (o,n)
 |[],a,o,n,h=>.inl h
 |j::l,a,o,n,h=>by
  rcases yy l _ o n h with h | ⟨i,hi,h⟩
  .cases a with
   |none=>exact .inr ⟨j,by simp,(ea _).symm.trans h⟩
   |some p =>
    dsimp only at h
    cases hf:f j with
    |none=>simp only [hf,gy] at h;exact .inl h
    |some q =>
     simp only [hf,ci] at h;split at h
     .exact .inr ⟨j,by simp,hf.trans h⟩
     .exact .inl h
  .exact .inr ⟨i,by simp [hi],h⟩
theorem Ku {k} {c} {i} {l} {o} {n} (h:ep need col (k+1) c (i::l)=some (o,n)):∃ j o' n',j∈i::l/\o=j::o'/\ep need col k (col j) ((i::l).erase j)=some (o',n'):=by
 rw [ep] at h;rcases yy _ none o n h with h | ⟨j,hj,h⟩
 .cases h
 .unfold fX at h;split at h
  .rename_i n1 o1 c1 h1 h2;cases h;exact ⟨j,o1,c1,hj,rfl,h2⟩
  .cases h
theorem Hs {c} {m} (hm:m<128) (h0:m≠0) {o} {n} (h:ep need col 7 c (ec m)=some (o,n)):∃ j o' n',j<7/\m.testBit j=true/\o=j::o'/\(ke need col c m).2=(j)/\ep need col 7 (col j) (ec (m-2^j))=some (o',n'):=by
 have hl:=s8 m;have hp:ke need col c m=gG (some (o,n)):=by rw [ke,h]
 rw [<-uI need col 7 c _ hl] at h
 cases hb:ec m with
 |nil=>exact absurd (D1 m hm hb) h0
 |cons i l =>
  rw [hb] at h;obtain ⟨j,o',n',hj,rfl,h'⟩:=Ku need col h;rw [<-hb] at hj h';rw [D2] at hj;rw [(pg m hm j hj.1 hj.2).1] at h';exact ⟨j,o',n',hj.1,hj.2,rfl,by rw [hp];rfl,h'⟩
end
end Cl
end Abs
end Go.Proofs.YtfafnkpfamgbbaaGreatDoor
namespace Go.Proofs.YtfafnkpfamgbbaaGreatDoor
namespace Abs
namespace Cl
set_option maxRecDepth 4000
theorem CW (can):∀ (c r),ml can c r=-1\/((r)<=ml can c r/\ml can c r<r+c)
 |0,r=>.inl rfl
 |c+1,r=>by
  rw [ml];split
  .rcases CW can c (r+1) with h | h
   .exact .inl h
   .exact .inr (by omega)
  .exact .inr (by omega)
theorem Ow (s) (c) (b):-1<=gT s c b/\gT s c b<=3:=by
 have:=CW (nj s c b) 4 0;unfold gT;omega
def sD (s:ClShop) (c:Int) (b:ClBatch):Option Int:=if gT s c b<0 then none else some (gT s c b*s.rinse)
theorem zx {s} (hs:ShopOk s) {c} {b} {n} (h:sD s c b=some n):0<=n/\n<=30000:=by
 unfold sD at h;split at h
 .cases h
 .rename_i h0;cases h;have h1:=Ow s c b;have h2:=hs.rinse;have:=uY h1.2 h2.2 h2.1 (by omega:(0:Int)<=3);exact ⟨wv (by omega) h2.1,by omega⟩
end Cl
variable {P:Program} {M0:Nat->Prop}
theorem CD {w:World} {b} {ob} (h:w.heap[b]?=some ob):w.putObj b ob=w:=by
 obtain ⟨hlt,he⟩:=lY.1 h;have:w.heap.setIfInBounds b ob=w.heap:=by
  apply lA
  .simp
  .intro i h1 h2;rw [Array.getElem_setIfInBounds];split
   .rename_i e;subst e;exact he.symm
   .rfl
 unfold World.putObj;simp only [this]
theorem Js {S} (hS:HOk P M0 S) {id} {φ} (hid:S.h[id]?=some (.memo φ)) :
  mR φ/\∃ es,(∀ p,p∈es->φ p.1 p.2=true)/\HOk P M0 ⟨S.m,S.h.set id (.mp es),S.w⟩/\Ev S.h.length S ⟨S.m,S.h.set id (.mp es),S.w⟩:=by
 obtain ⟨hg,es,hf,bl,C,clk,hm,hb,hrel⟩:=hS.obj id _ hid;have:=iX hS (o:=.mp es) (ob:=.map C clk) hm hid hb (lQ hb) (by intro C T f;simp) (.inr (.inr ⟨by simp [AObj.tag],rfl,rfl⟩)) (λhe hx=>⟨bl,C,clk,rfl,hx,hrel.mono λv a=>he.keepS⟩);rw [CD hb] at this;exact ⟨hg,es,hf,this⟩
theorem sE {S} (hS:HOk P M0 S) {id} {es} {φ} (hg:mR φ) (hf:∀ p,p∈es->φ p.1 p.2=true) (hid:S.h[id]?=some (.mp es)) :
  HOk P M0 ⟨S.m,S.h.set id (.memo φ),S.w⟩/\Ev S.h.length S ⟨S.m,S.h.set id (.memo φ),S.w⟩:=by
 obtain ⟨bl,C,clk,hm,hb,hrel⟩:=hS.obj id _ hid;have:=iX hS (o:=.memo φ) (ob:=.map C clk) hm hid hb (lQ hb) (by intro C T f;simp) (.inr (.inr ⟨by simp [AObj.tag],rfl,rfl⟩)) (λhe hx=>⟨hg,es,hf,bl,C,clk,rfl,hx,hrel.mono λv a=>he.keepS⟩);rw [CD hb] at this;exact this
theorem HR {f} {args} {h} {R} {id} {φ} (hid:h[id]?=some (.memo φ))
  (k:mR φ->∀ es,(∀ p,p∈es->φ p.1 p.2=true)->ay P f args (h.set id (.mp es)) (λr h''=>(h''=h\/h''=h.set id (.mp es))/\R r h)):ay P f args h R:=by
 intro M0 m w cargs hS hargs;have hidl:=(ar.1 hid).1;obtain ⟨hg,es,hf,hS',hev⟩:=Js hS hid;have:=k hg es hf M0 m w cargs hS' (hargs.imp λv a _ hr=>hev.keep hr);refine ⟨this.1,this.2.mono λe w' hh=>?_⟩;obtain ⟨r,h'',m',⟨hh,hR⟩,hev',hk,hend⟩:=hh;have hevT:Ev h.length ⟨m,h,w⟩ ⟨m',h'',w'⟩:=hev.trans (by simpa using hev');rcases hh with rfl | rfl
 .exact ⟨r,_,m',hR,hevT,hk,hend⟩
 .have hid':(h.set id (.mp es))[id]?=some (.mp es):=gX hidl;obtain ⟨hk2,hev2⟩:=sE hk (φ:=φ) hg hf hid';have e1:(h.set id (.mp es)).set id (.memo φ)=h:=by rw [oJ];exact iI hid
  dsimp only at hk2 hev2;rw [e1] at hk2 hev2;refine ⟨r,h,m',hR,hevT.trans (by simpa using hev2),hk2,?_⟩
  cases e with
  |returned v' =>
   cases r with
   |panic v=>exact hend.elim
   |ret a=>exact hev2.keep hend
  |panicked ch =>
   cases r with
   |ret a=>exact hend.elim
   |panic v =>
    obtain ⟨v',h1,h2⟩:=hend
    exact ⟨v',h1,hev2.keep (a:=.p v) h2⟩
  |outgrown=>exact hend.elim
theorem IK {A} {id} {es} {φ} (hg:mR φ) (hf:∀ p,p∈es->φ p.1 p.2=true) (hid:A.h[id]?=some (.mp es)):fN P A { A with h:=A.h.set id (.memo φ) } :=
 ⟨rfl,rfl,λM0 S0 b cs0 m a w hr=>⟨m,by
  have:=sE (S:=⟨m,A.h,w⟩) hr.hok hg hf hid
  exact hr.ahead (m':=m) (h':=A.h.set id (.memo φ)) (w':=w) this.2 this.1⟩⟩
variable {H:Hints} {Q:Cont}
end Abs
end Go.Proofs.YtfafnkpfamgbbaaGreatDoor
