/-
  CONTRACTS: colour.open. No conditions but those in the theorems' heads.
  THE BEST ORDER OF BATCHES: found batch by batch, and out of all orders; plain Lean. No con
  THE BEST ORDER OF BATCHES, with sets as bits and what a plan is; plain Lean. No conditions
  CONTRACTS: colour in the reference: what a batch needs, what an order loses, errors of bat
  LAWS: a map of which it is known what may stand in it: it is looked at, and forgotten agai
-/
import Derived.Test.YtfafnkpfamgbbaaGreatDoorAbsCutX
import Derived.Test.YtfafnkpfamgbbaaGreatDoorClChkX
set_option linter.unusedSimpArgs false
set_option linter.unusedVariables false
open Go.Proofs.Tryz renaming prog->TP
namespace Go.Proofs.YtfafnkpfamgbbaaGreatDoor
namespace Abs
namespace Cl
set_option maxRecDepth 4000
def mC (s:ClShop) (l:List ClBatch) (m:Nat):AObj:=.row 6 [.agg [.p (.slice 4 (s.colours.map ClColour.pv) false),.p (.int .i64 s.keep.lo),.p (.int .i64 s.keep.hi),.p (.int .i64 s.rinse),.p (.slice 2 (l.map ClBatch.pv) false),.ref .mp m]]
attribute [go_sem] mC
theorem FW {e e0} {a b c} {u} {t} (hu:u=.p .nilptr\/u=.ptr 6 1 0 0):jM TP 310 [.ptr 3 1 0 0,.ptr 4 1 0 0] (.pan (.iface 43 (.int .i64 e))) (a::b::c::.row 1 [u]::.row 1 [.p (.int .i64 e0)]::t)
  (λr u h'=>r=.ret (.p (.tuple []))/\u=.recd (.iface 43 (.int .i64 e))/\h'=a::b::c::.row 1 [.p .nilptr]::.row 1 [.p (.int .i64 e)]::t):=by
 refine fL (ai (by kernel_rfl) rfl P3) rfl ?_;rcases hu with rfl | rfl<;>simp only [Vn,bj,nG,iB,aW,go_sem,simprocAttr]
theorem Mv {i j} {h}:jM TP 310 [.ptr i 1 0 0,.ptr j 1 0 0] .ret h (λr u h'=>r=.ret (.p (.tuple []))/\u=.ret/\h'=h):=by
 refine fL (ai (by kernel_rfl) rfl P3) rfl ?_;simp only [nG,iB,go_sem,simprocAttr]
theorem dm {rs} {R} {T} {e e0} {a b c} {u} {t} (hu:u=.p .nilptr\/u=.ptr 6 1 0 0) (k:ck TP rs R T [] .ret (a::b::c::.row 1 [.p .nilptr]::.row 1 [.p (.int .i64 e)]::t)) :
  ck TP rs R T [.fn 310 [.ptr 3 1 0 0,.ptr 4 1 0 0]] (.pan (.iface 43 (.int .i64 e))) (a::b::c::.row 1 [u]::.row 1 [.p (.int .i64 e0)]::t):=by
 rw [kj];refine (FW hu).mono λr u h' hr=>?_;obtain ⟨rfl,rfl,rfl⟩:=hr;exact k
theorem yM {rs} {R} {T} {h} (k:ck TP rs R T [] .ret h):ck TP rs R T [.fn 310 [.ptr 3 1 0 0,.ptr 4 1 0 0]] .ret h:=by
 rw [kj];refine Mv.mono λr u h' hr=>?_;obtain ⟨rfl,rfl,rfl⟩:=hr;exact k
theorem ZB (e):ah TP 311 [.bool true,.int .i64 e] (.tuple []):=by
 refine aa (ai (by kernel_rfl) rfl P2) rfl ?_;simp only [go_sem,simprocAttr]
theorem oT {P} {H} {ops} {rest} {Q} {o} {hs} {A} {f} {args} {pargs} {v} (hc:ah P f pargs v) (ha:args=pargs.map .p)
  (h:@WD ⟨P,H,ops,rest,Q⟩ hs (A.put o.dst (.p v) A.h)):@Nk ⟨P,H,ops,rest,Q,o⟩ hs A (.call f args):=by
 subst ha;exact .inl ⟨.p v,λ_ _=>qE hc,h⟩
theorem Kh (s) (l) (b) (hn:s.colours.length<=6) (a0 a1 a2 a3 a4 a5 a7):aC TP 312 [.ptr 6 1 0 0,.p b.pv] [a0,a1,a2,a3,a4,a5,mC s l 5,a7]
  (λr h'=>h'=[a0,a1,a2,a3,a4,a5,mC s l 5,a7,.row 2 [.p b.pv]]/\r=if eL s b=0 then .ret (.p (.tuple [])) else .panic (.iface 43 (.int .i64 (eL s b)))):=by
 refine aB (ai (by kernel_rfl) rfl Wq) rfl ?_;have hw:IntKind.i64.wrap ((s.colours.length:Int)-1)=(s.colours.length:Int)-1:=ax (by omega) (by omega);simp only [Vm,bj,hw,go_sem,simprocAttr]
 (first | refine ae (e8 0 ((s.colours.length:Int)-1) [b.colour] true (by simp)) rfl ?_ | refine aD (e8 0 ((s.colours.length:Int)-1) [b.colour] true (by simp)) rfl ?_)
 simp only [bp,bF,bS,lF,go_sem,simprocAttr];cases h1:ar b.colour 0 ((s.colours.length:Int)-1)
 .have hb:eL s b=4:=by rw [eL,h1];rfl
  refine PC λT=>?_;simp only [hb,go_sem,simprocAttr]
 refine oT (ZB 4) rfl ?_;simp only [go_sem,simprocAttr];refine ae (e8 1 100000 [_] true (by simp)) rfl ?_;simp only [bp,bF,bS,lF,go_sem,simprocAttr];cases h2:ar b.grams 1 100000
 .have hb:eL s b=7:=by rw [eL,h1,h2];rfl
  refine az (λh=>by cases h) λ_=>?_;simp only [hb,go_sem,simprocAttr]
 have hb:eL s b=0:=by rw [eL,h1,h2];rfl
 refine az (λ_=>?_) (λh=>by cases h);simp only [hb,go_sem,simprocAttr]
set_option maxHeartbeats 2000000 in
theorem Kg (s) (aX) (l) (x) (hl:l.length<1000000000):aC TP 289 [.p s.pv,.p (.slice 2 (l.map ClBatch.pv) false),.slice 1 1 0 1] [x,.row 1 [.p (.int .i64 aX)]]
  (λr h'=>(dR s aX l=0/\ShopOk s/\(∀ b,b∈l->BatchOk s b)/\l.length<=7/\r=.ret (.tuple [.ptr 6 1 0 0,.p (.int .i64 0)])/\h'=[x,.row 1 [.p (.int .i64 aX)],.row 4 [.p s.pv],.row 1 [.ptr 6 1 0 0],.row 1 [.p (.int .i64 0)],.mp [],mC s l 5]) \/
   (dR s aX l≠0/\r=.ret (.p (.tuple [.nilptr,.int .i64 (dR s aX l)]))/\∃ t,h'=[x,.row 1 [.p (.int .i64 aX)],.row 4 [.p s.pv],.row 1 [.p .nilptr],.row 1 [.p (.int .i64 (dR s aX l))]]++t)):=by
 refine Hl λhbel=>?_;have hx0:bi 7 x:=Hb (n:=2) (by decide) (hbel x (by simp));refine aB (ai (by kernel_rfl) rfl WM) rfl ?_;simp only [go_sem,simprocAttr];refine ae (pU s) rfl ?_;simp only [al,go_sem,simprocAttr];cases h0:((clCheck s).2.2==0)
 .have h0':¬ (clCheck s).2.2=0:=by simpa using h0
  have ho:dR s aX l=(clCheck s).2.2:=by rw [dR,if_neg h0']
  refine az (λh=>by cases h) λ_=>?_;simp only [go_sem,simprocAttr];refine dm (.inl rfl) ?_;simp only [go_sem,simprocAttr];exact .inr ⟨by rw [ho];exact h0',by rw [ho],[],by rw [ho];exact ⟨rfl,rfl⟩⟩
 have h0':(clCheck s).2.2=0:=by simpa using h0
 have hs:=xc h0';have hsl:=hs.len;have hw:IntKind.i64.wrap ((s.colours.length:Int)-1)=(s.colours.length:Int)-1:=ax (by omega) (by omega);refine az (λ_=>?_) (λh=>by cases h);simp only [h0',hw,go_sem,simprocAttr];refine bf (e8 0 ((s.colours.length:Int)-1) [aX] false (by simp)) ?_ (.bool _) ?_
 .simp only [go_sem,simprocAttr]
 simp only [bp,bF,bS,lF,go_sem,simprocAttr];cases h1:ar aX 0 ((s.colours.length:Int)-1)
 .have ho:dR s aX l=4:=by rw [dR,if_pos h0',h1];rfl
  refine az (λh=>by cases h) λ_=>?_;simp only [go_sem,simprocAttr];refine dm (.inl rfl) ?_;simp only [go_sem,simprocAttr];exact .inr ⟨by rw [ho];decide,by rw [ho],[],by rw [ho];exact ⟨rfl,rfl⟩⟩
 have ho1:dR s aX l=s6 s l:=by rw [dR,if_pos h0',h1];rfl
 refine az (λ_=>?_) (λh=>by cases h);simp only [go_sem,simprocAttr];cases h2:decide ((l.length:Int)<=7)
 .have h2':¬ l.length<=7:=by simp at h2;omega
  have ho:dR s aX l=3:=by rw [ho1,s6,if_neg h2']
  refine az (λh=>by cases h) λ_=>?_;simp only [go_sem,simprocAttr];refine dm (.inl rfl) ?_;simp only [go_sem,simprocAttr];exact .inr ⟨by rw [ho];decide,by rw [ho],[],by rw [ho];exact ⟨rfl,rfl⟩⟩
 have h2':l.length<=7:=by simp at h2;omega
 have ho2:dR s aX l=fi s l:=by rw [ho1,s6,if_pos h2']
 refine az (λ_=>?_) (λh=>by cases h);simp only [go_sem,simprocAttr]
 refine br [6,7,38,39] l (by omega) (τ:=Unit) (λdone rest _=>fi s l=fi s rest) (λdone _=>[(40,.p (.int .i64 done.length))])
  (λ_ _=>[x,.row 1 [.p (.int .i64 aX)],.row 4 [.p s.pv],.row 1 [.ptr 6 1 0 0],.row 1 [.p (.int .i64 0)],.mp [],mC s l 5]) () rfl ?_ ?_ ?_
 .simp only [go_sem,simprocAttr];exact ⟨hx0,show 5<7 by decide⟩
 .intro _ e2;rw [fi] at e2;simp only [go_sem,simprocAttr];refine yM ?_;simp only [go_sem,simprocAttr];exact .inl ⟨ho2.trans e2,hs,AU e2,h2'⟩
 .intro done b r _ e1 e2 hx hlt hnx;rw [fi] at e2;simp only [hlt,hx,go_sem,simprocAttr];refine cq (Kh s l b (by omega) _ _ _ _ _ _ _) (λv h hr=>?_) (λv h hr=>?_)
  .obtain ⟨rfl,hr⟩:=hr;by_cases hb:eL s b=0
   .rw [if_pos hb] at e2 hr;cases hr;simp only [go_sem,simprocAttr];refine aF e1 () e2 ?_;simp only [hnx,go_sem,simprocAttr];exact ⟨hx0,show 5<7 by decide⟩
   .rw [if_neg hb] at hr;cases hr
  .obtain ⟨rfl,hr⟩:=hr;by_cases hb:eL s b=0
   .rw [if_pos hb] at hr;cases hr
   .rw [if_neg hb] at e2 hr;cases hr;simp only [go_sem,simprocAttr];refine dm (.inr rfl) ?_;simp only [go_sem,simprocAttr];exact .inr ⟨by rw [ho2,e2];exact hb,by rw [ho2,e2],_,by rw [ho2,e2];exact ⟨rfl,rfl⟩⟩
section
variable (need:Int->Nat->Option Int) (col:Nat->Int)
def cF (a b:Option (List Nat×Int)):Option (List Nat×Int) :=
 match a,b with
 |none,b=>b
 |a,none=>a
 |some p,some q=>if q.2<p.2 then some q else some p
def gU (i:Nat) (n:Option Int) (r:Option (List Nat×Int)):Option (List Nat×Int) :=
 match n,r with
 |some n,some (o,c)=>some (i::o,n+c)
 |_,_=>none
def fh:Nat->Int->List Nat->Option (List Nat×Int)
 |_,_,[]=>some ([],0)
 |0,_,_::_=>none
 |k+1,c,i::l=>(i::l).foldl (λa j=>cF a (gU j (need c j) (fh k (col j) ((i::l).erase j)))) none
def nb:Nat->List Nat->List (List Nat)
 |_,[]=>[[]]
 |0,_::_=>[]
 |k+1,i::l=>(i::l).flatMap λj=>(nb k ((i::l).erase j)).map (j::·)
def jg:Int->List Nat->Option Int
 |_,[]=>some 0
 |c,i::o=>match need c i,jg (col i) o with | some n,some m=>some (n+m) | _,_=>none
def fx (c:Int) (l:List (List Nat)) (a:Option (List Nat×Int)):Option (List Nat×Int):=l.foldl (λa o=>cF a ((jg need col c o).map λn=>(o,n))) a
theorem ig (a):cF a none=a:=by cases a<;>rfl
theorem eY (a):cF none a=a:=by cases a<;>rfl
theorem Gj (a b c):cF (cF a b) c=cF a (cF b c):=by
 cases a with
 |none=>simp [eY]
 |some p=>cases b with
  |none=>simp [ig,eY]
  |some q=>cases c with
   |none=>simp [ig]
   |some r =>
    simp only [cF];by_cases h1:q.2<p.2
    .rw [if_pos h1];by_cases h2:r.2<q.2
     .rw [if_pos h2];simp only [];rw [if_pos h2,if_pos (by omega)]
     .rw [if_neg h2];simp only [];rw [if_neg h2,if_pos h1]
    .rw [if_neg h1];by_cases h2:r.2<q.2
     .rw [if_pos h2]
     .rw [if_neg h2];simp only [];rw [if_neg h1,if_neg (by omega)]
theorem jc (c):∀ (l) (a),fx need col c l a=cF a (fx need col c l none)
 |[],a=>by simp [fx,ig]
 |o::l,a=>by
  have h1:=jc c l (cF a ((jg need col c o).map λn=>(o,n)));have h2:=jc c l (cF none ((jg need col c o).map λn=>(o,n)));simp only [fx,my] at h1 h2 |-;rw [h1,h2,eY,Gj]
theorem G8 (c) (l m) (a):fx need col c (l++m) a=cF (fx need col c l a) (fx need col c m none):=by
 rw [<-jc];simp [fx,wS]
theorem FX (i) (n) (a b):gU i n (cF a b)=cF (gU i n a) (gU i n b):=by
 cases n with
 |none=>cases a<;>cases b<;>simp [cF,gU]
 |some n=>cases a with
  |none=>simp [eY,gU]
  |some p=>cases b with
   |none=>simp [ig,gU]
   |some q =>
    simp only [cF,gU];by_cases h:q.2<p.2
    .rw [if_pos h,if_pos (by omega)]
    .rw [if_neg h,if_neg (by omega)]
theorem CB (c) (i):∀ (l),fx need col c (l.map (i::·)) none=gU i (need c i) (fx need col (col i) l none)
 |[]=>by cases need c i<;>simp [fx,gU]
 |o::l=>by
  have ih:=CB c i l;rw [bB];rw [show fx need col c ((i::o)::l.map (i::·)) none=fx need col c (l.map (i::·)) (cF none ((jg need col c (i::o)).map λn=>(i::o,n))) from rfl];rw [show fx need col (col i) (o::l) none=fx need col (col i) l (cF none ((jg need col (col i) o).map λn=>(o,n))) from rfl];rw [jc need col c _ (cF none _),ih,jc need col (col i) l (cF none _),FX,eY,eY,jg];have e:(match need c i,jg need col (col i) o with | some n,some m=>some (n+m) | _,_=>none).map (λn=>(i::o,n))=gU i (need c i) ((jg need col (col i) o).map λn=>(o,n)):=by
   cases need c i<;>cases jg need col (col i) o<;>simp [gU]
  rw [e]
theorem pf {α β:Type} {f g:β->α->β}:∀ {l:List α} {b},(∀ b x,x∈l->f b x=g b x)->l.foldl f b=l.foldl g b
 |[],_,_=>rfl
 |x::l,b,h=>by rw [my,my,h b x (by simp),pf λb y hy=>h b y (by simp [hy])]
theorem CA (c) (f):∀ (l:List Nat) (a),fx need col c (l.flatMap f) a=l.foldl (λa j=>cF a (fx need col c (f j) none)) a
 |[],a=>rfl
 |j::l,a=>by rw [kR,G8,my,<-CA c f l,jc need col c (l.flatMap f) (cF a _),jc need col c (f j) a]
theorem Dj:∀ (k) (c) (l),l.length<=k->fx need col c (nb k l) none=fh need col k c l
 |k,c,[],h=>by cases k<;>simp [nb,fh,fx,jg,eY]
 |0,c,i::l,h=>by simp at h
 |k+1,c,i::l,h=>by
  rw [nb,fh,CA];refine pf λa j hj=>?_;rw [CB,Dj k (col j) _ (by rw [List.length_erase_of_mem hj];simp at h |-;omega)]
theorem yF (c):∀ (l) (o) (n),fx need col c l none=some (o,n)->o∈l/\jg need col c o=some n
 |[],o,n,h=>by simp [fx] at h
 |x::l,o,n,h=>by
  rw [show fx need col c (x::l) none=fx need col c l (cF none ((jg need col c x).map λn=>(x,n))) from rfl,jc,eY] at h
  cases hx:jg need col c x with
  |none =>
   rw [hx,Option.map_none,eY] at h;have:=yF c l o n h
   exact ⟨by simp [this.1],this.2⟩
  |some m =>
   rw [hx,lD] at h
   cases hl:fx need col c l none with
   |none=>rw [hl,ig] at h;cases h;exact ⟨by simp,hx⟩
   |some q =>
    rw [hl] at h;simp only [cF] at h;split at h
    .cases h;have:=yF c l _ _ hl;exact ⟨by simp [this.1],this.2⟩
    .cases h;exact ⟨by simp,hx⟩
theorem xN:∀ (k) (l o),o∈nb k l->o.Perm l
 |k,[],o,h=>by cases k<;>(simp [nb] at h;subst h;exact .refl _)
 |0,i::l,o,h=>by simp [nb] at h
 |k+1,i::l,o,h=>by
  rw [nb,En] at h;obtain ⟨j,hj,h⟩:=h;obtain ⟨p,hp,rfl⟩:=ec.1 h;exact ((xN k _ p hp).cons j).trans (List.perm_cons_erase hj).symm
end
end Cl
end Abs
end Go.Proofs.YtfafnkpfamgbbaaGreatDoor
namespace Go.Proofs.YtfafnkpfamgbbaaGreatDoor
namespace Abs
namespace Cl
def e9 (m:Nat):List Nat:=(List.range 7).filter m.testBit
set_option maxRecDepth 100000 in
theorem qI:∀ m,m<128->∀ i,i<7->m.testBit i=true->(e9 m).erase i=e9 (m-2^i)/\2^i<=m:=by decide
theorem Gh {m i}:i∈e9 m↔i<7/\m.testBit i=true:=by simp [e9]
theorem Di:e9 0=[]:=by decide
set_option maxRecDepth 100000 in
theorem Gg:∀ m,m<128->e9 m=[]->m=0:=by decide
theorem uM (m):(e9 m).length<=7:=by have:=List.length_filter_le m.testBit (List.range 7);simpa [e9] using this
def li:Int:=1099511627776
def iq:Option (List Nat×Int)->Int×Int
 |none=>(li,-2)
 |some (o,n)=>(n,match o with | []=>-1 | i::_=>(i:Int))
section
variable (need:Int->Nat->Option Int) (col:Nat->Int)
def kg (c:Int) (f:Nat->Int×Int) (p:Int×Int) (j:Nat):Int×Int :=
 match need c j with
 |none=>p
 |some n=>if n+(f j).1<p.1 then (n+(f j).1,(j:Int)) else p
def oh (B:Int) (a:Option (List Nat×Int)):Prop:=∀ o n,a=some (o,n)->0<=n/\n<=B
theorem vD {B} {a b} (ha:oh B a) (hb:oh B b):oh B (cF a b):=by
 intro o n h
 cases a with
 |none=>cases b<;>first | exact hb o n h | cases h
 |some p =>
  cases b with
  |none=>exact ha o n h
  |some q =>
   simp only [cF] at h;split at h
   .exact hb o n h
   .exact ha o n h
theorem xH {α:Type} {B} {f:α->Option (List Nat×Int)}:∀ (l:List α) (a),oh B a->(∀ x,x∈l->oh B (f x))->oh B (l.foldl (λa x=>cF a (f x)) a)
 |[],a,ha,_=>ha
 |x::l,a,ha,h=>xH l _ (vD ha (h x (by simp))) λy hy=>h y (by simp [hy])
theorem nC (hn:∀ c j n,need c j=some n->0<=n/\n<=30000):∀ (k:Nat) (c) (l),oh (30000*(k)) (fh need col k c l)
 |k,c,[]=>by
  intro o n h
  cases k<;>(simp only [fh,jx,zq] at h;omega)
 |0,c,i::l=>by intro o n h;cases h
 |k+1,c,i::l=>by
  rw [fh];refine xH _ none (λo n h=>by cases h) λj hj=>?_;intro o n h;unfold gU at h;split at h
  .rename_i n1 o1 c1 h1 h2;have a1:=hn _ _ _ h1;have a2:=nC hn k (col j) _ o1 c1 h2;cases h;omega
  .cases h
theorem LM {B} (hB:B+30000<li) (hn:∀ c j n,need c j=some n->0<=n/\n<=30000) (c) (j) {a r} {f} (ha:oh (B+30000) a) (hr:oh B r) (hf:f j=iq r) :
  iq (cF a (gU j (need c j) r))=kg need c f (iq a) j:=by
 unfold kg
 cases hc:need c j with
 |none=>simp only [gU,ig]
 |some n =>
  have hn':=hn _ _ _ hc;dsimp only;rw [hf]
  cases r with
  |none =>
   simp only [gU,ig];rw [if_neg]
   cases a with
   |none=>simp only [iq];omega
   |some p=>have:=ha p.1 p.2 rfl;simp only [iq];omega
  |some q =>
   have hq:=hr q.1 q.2 rfl;simp only [gU]
   cases a with
   |none =>
    simp only [eY,iq]
    exact (if_pos (show n+q.2<li by omega)).symm
   |some p =>
    simp only [cF,iq];by_cases hlt:n+q.2<p.2
    .rw [if_pos hlt];exact (if_pos hlt).symm
    .rw [if_neg hlt];exact (if_neg hlt).symm
theorem zO {B} (hB:B+30000<li) (hn:∀ c j n,need c j=some n->0<=n/\n<=30000) (c) (r:Nat->Option (List Nat×Int)) (hr:∀ j,oh B (r j)):∀ (l:List Nat) (a),oh (B+30000) a ->
  iq (l.foldl (λa j=>cF a (gU j (need c j) (r j))) a)=l.foldl (kg need c λj=>iq (r j)) (iq a)
 |[],a,_=>rfl
 |j::l,a,ha=>by
  rw [my,my,<-LM need hB hn c j ha (hr j) rfl];refine zO hB hn c r hr l _ (vD ha ?_);intro o n h;unfold gU at h;split at h
  .rename_i n1 o1 c1 h1 h2;have a1:=hn _ _ _ h1;have a2:=hr j o1 c1 h2;cases h;omega
  .cases h
def lg (c:Int) (m:Nat):Int×Int:=iq (fh need col 7 c (e9 m))
theorem wD:∀ (k) (c) (l),l.length<=k->fh need col (k+1) c l=fh need col k c l
 |0,c,[],_=>rfl
 |0,c,_::_,h=>by simp at h
 |k+1,c,[],_=>rfl
 |k+1,c,i::l,h=>by
  rw [fh,fh];refine pf λa j hj=>?_;rw [wD k (col j) _ (by rw [List.length_erase_of_mem hj];simp at h |-;omega)]
theorem xK (c):lg need col c 0=(0,-1):=by
 rw [lg,Di];rfl
theorem G7 (hn:∀ c j n,need c j=some n->0<=n/\n<=30000) (c) {m} (hm:m<128) (h0:m≠0) :
  lg need col c m=(e9 m).foldl (kg need c λj=>lg need col (col j) (m-2^j)) (li,-2):=by
 have hl:=uM m;unfold lg;rw [<-wD need col 7 c _ hl]
 cases hb:e9 m with
 |nil=>exact absurd (Gg m hm hb) h0
 |cons i l =>
  rw [fh];have hs:=nC need col hn 7;rw [zO need (B:=210000) (by unfold li;omega) hn c (λj=>fh need col 7 (col j) ((i::l).erase j)) (λj o n h=>hs _ _ o n h) (i::l) none (λo n h=>by cases h)];refine pf λa j hj=>?_;rw [<-hb] at hj |-;rw [Gh] at hj;simp only [kg,(qI m hm j hj.1 hj.2).1]
theorem Az {f:Nat->Option (List Nat×Int)}:∀ (l:List Nat) (a) (o) (n),l.foldl (λa j=>cF a (f j)) a=some (o,n)->a=some (o,n)\/∃ j,j∈l/\f j=some (o,n)
 |[],a,o,n,h=>.inl h
 |j::l,a,o,n,h=>by
  rcases Az l _ o n h with h | ⟨i,hi,h⟩
  .cases a with
   |none=>exact .inr ⟨j,by simp,(eY _).symm.trans h⟩
   |some p =>
    dsimp only at h
    cases hf:f j with
    |none=>simp only [hf,ig] at h;exact .inl h
    |some q =>
     simp only [hf,cF] at h;split at h
     .exact .inr ⟨j,by simp,hf.trans h⟩
     .exact .inl h
  .exact .inr ⟨i,by simp [hi],h⟩
theorem M5 {k} {c} {i} {l} {o} {n} (h:fh need col (k+1) c (i::l)=some (o,n)):∃ j o' n',j∈i::l/\o=j::o'/\fh need col k (col j) ((i::l).erase j)=some (o',n'):=by
 rw [fh] at h;rcases Az _ none o n h with h | ⟨j,hj,h⟩
 .cases h
 .unfold gU at h;split at h
  .rename_i n1 o1 c1 h1 h2;cases h;exact ⟨j,o1,c1,hj,rfl,h2⟩
  .cases h
theorem JQ {c} {m} (hm:m<128) (h0:m≠0) {o} {n} (h:fh need col 7 c (e9 m)=some (o,n)):∃ j o' n',j<7/\m.testBit j=true/\o=j::o'/\(lg need col c m).2=(j)/\fh need col 7 (col j) (e9 (m-2^j))=some (o',n'):=by
 have hl:=uM m;have hp:lg need col c m=iq (some (o,n)):=by rw [lg,h]
 rw [<-wD need col 7 c _ hl] at h
 cases hb:e9 m with
 |nil=>exact absurd (Gg m hm hb) h0
 |cons i l =>
  rw [hb] at h;obtain ⟨j,o',n',hj,rfl,h'⟩:=M5 need col h;rw [<-hb] at hj h';rw [Gh] at hj;rw [(qI m hm j hj.1 hj.2).1] at h';exact ⟨j,o',n',hj.1,hj.2,rfl,by rw [hp];rfl,h'⟩
end
end Cl
end Abs
end Go.Proofs.YtfafnkpfamgbbaaGreatDoor
namespace Go.Proofs.YtfafnkpfamgbbaaGreatDoor
namespace Abs
namespace Cl
set_option maxRecDepth 4000
theorem Fe (can):∀ (c r),nM can c r=-1\/((r)<=nM can c r/\nM can c r<r+c)
 |0,r=>.inl rfl
 |c+1,r=>by
  rw [nM];split
  .rcases Fe can c (r+1) with h | h
   .exact .inl h
   .exact .inr (by omega)
  .exact .inr (by omega)
theorem Rj (s) (c) (b):-1<=iL s c b/\iL s c b<=3:=by
 have:=Fe (oJ s c b) 4 0;unfold iL;omega
def ul (s:ClShop) (c:Int) (b:ClBatch):Option Int:=if iL s c b<0 then none else some (iL s c b*s.rinse)
theorem Bw {s} (hs:ShopOk s) {c} {b} {n} (h:ul s c b=some n):0<=n/\n<=30000:=by
 unfold ul at h;split at h
 .cases h
 .rename_i h0;cases h;have h1:=Rj s c b;have h2:=hs.rinse;have:=Bb h1.2 h2.2 h2.1 (by omega:(0:Int)<=3);exact ⟨yk (by omega) h2.1,by omega⟩
end Cl
variable {P:Program} {M0:Nat->Prop}
theorem EU {w:World} {b} {ob} (h:w.heap[b]?=some ob):w.putObj b ob=w:=by
 obtain ⟨hlt,he⟩:=nt.1 h;have:w.heap.setIfInBounds b ob=w.heap:=by
  apply j6
  .simp
  .intro i h1 h2;rw [Array.getElem_setIfInBounds];split
   .rename_i e;subst e;exact he.symm
   .rfl
 unfold World.putObj;simp only [this]
theorem LW {S} (hS:HOk P M0 S) {id} {φ} (hid:S.h[id]?=some (.memo φ)) :
  om φ/\∃ es,(∀ p,p∈es->φ p.1 p.2=true)/\HOk P M0 ⟨S.m,S.h.set id (.mp es),S.w⟩/\Ev S.h.length S ⟨S.m,S.h.set id (.mp es),S.w⟩:=by
 obtain ⟨hg,es,hf,bl,C,clk,hm,hb,hrel⟩:=hS.obj id _ hid;have:=jS hS (o:=.mp es) (ob:=.map C clk) hm hid hb (nd hb) (by intro C T f;simp) (.inr (.inr ⟨by simp [AObj.tag],rfl,rfl⟩)) (λhe hx=>⟨bl,C,clk,rfl,hx,hrel.mono λv a=>he.keepS⟩);rw [EU hb] at this;exact ⟨hg,es,hf,this⟩
theorem un {S} (hS:HOk P M0 S) {id} {es} {φ} (hg:om φ) (hf:∀ p,p∈es->φ p.1 p.2=true) (hid:S.h[id]?=some (.mp es)) :
  HOk P M0 ⟨S.m,S.h.set id (.memo φ),S.w⟩/\Ev S.h.length S ⟨S.m,S.h.set id (.memo φ),S.w⟩:=by
 obtain ⟨bl,C,clk,hm,hb,hrel⟩:=hS.obj id _ hid;have:=jS hS (o:=.memo φ) (ob:=.map C clk) hm hid hb (nd hb) (by intro C T f;simp) (.inr (.inr ⟨by simp [AObj.tag],rfl,rfl⟩)) (λhe hx=>⟨hg,es,hf,bl,C,clk,rfl,hx,hrel.mono λv a=>he.keepS⟩);rw [EU hb] at this;exact this
theorem Ke {f} {args} {h} {R} {id} {φ} (hid:h[id]?=some (.memo φ))
  (k:om φ->∀ es,(∀ p,p∈es->φ p.1 p.2=true)->aC P f args (h.set id (.mp es)) (λr h''=>(h''=h\/h''=h.set id (.mp es))/\R r h)):aC P f args h R:=by
 intro M0 m w cargs hS hargs;have hidl:=(aE.1 hid).1;obtain ⟨hg,es,hf,hS',hev⟩:=LW hS hid;have:=k hg es hf M0 m w cargs hS' (hargs.imp λv a _ hr=>hev.keep hr);refine ⟨this.1,this.2.mono λe w' hh=>?_⟩;obtain ⟨r,h'',m',⟨hh,hR⟩,hev',hk,hend⟩:=hh;have hevT:Ev h.length ⟨m,h,w⟩ ⟨m',h'',w'⟩:=hev.trans (by simpa using hev');rcases hh with rfl | rfl
 .exact ⟨r,_,m',hR,hevT,hk,hend⟩
 .have hid':(h.set id (.mp es))[id]?=some (.mp es):=iP hidl;obtain ⟨hk2,hev2⟩:=un hk (φ:=φ) hg hf hid';have e1:(h.set id (.mp es)).set id (.memo φ)=h:=by rw [tL];exact jz hid
  dsimp only at hk2 hev2;rw [e1] at hk2 hev2;refine ⟨r,h,m',hR,hevT.trans (by simpa using hev2),hk2,?_⟩
  cases e with
  |returned v' =>
   cases r with
   |panic v=>exact hend.elim
   |ret a=>exact hev2.keep hend
  |panicked ch =>
   cases r with
   |ret a=>exact hend.elim
   |panic v =>
    obtain ⟨v',h1,h2⟩:=hend
    exact ⟨v',h1,hev2.keep (a:=.p v) h2⟩
  |outgrown=>exact hend.elim
theorem Ld {A} {id} {es} {φ} (hg:om φ) (hf:∀ p,p∈es->φ p.1 p.2=true) (hid:A.h[id]?=some (.mp es)):fW P A { A with h:=A.h.set id (.memo φ) } :=
 ⟨rfl,rfl,λM0 S0 b cs0 m a w hr=>⟨m,by
  have:=un (S:=⟨m,A.h,w⟩) hr.hok hg hf hid
  exact hr.ahead (m':=m) (h':=A.h.set id (.memo φ)) (w':=w) this.2 this.1⟩⟩
variable {H:Hints} {Q:Cont}
end Abs
end Go.Proofs.YtfafnkpfamgbbaaGreatDoor
