/- CONTRACTS of the program's functions, and laws on what they return. No conditions but those in the theorems' heads. -/
import Derived.Test.YtnjiadikeacfaaaGreatDoorClChkX
set_option linter.all false
open Go.Proofs.Tryz renaming prog->TP
namespace Go.Proofs.YtnjiadikeacfaaaGreatDoor
namespace Abs
namespace Cl
set_option maxRecDepth 4000
def l6 (s:ClShop) (l:List ClBatch) (m:Nat):AObj:=.row 6 [.agg [.p (.slice 4 (s.colours.map ClColour.pv) false),.p (.int .i64 s.keep.lo),.p (.int .i64 s.keep.hi),.p (.int .i64 s.rinse),.p (.slice 2 (l.map ClBatch.pv) false),.ref .mp m]]
attribute [go_sem] l6
theorem Fp{e e0}{a b c}{u}{t}(hu:u=.p .nilptr\/u=.ptr 6 1 0 0):ju TP 309 [.ptr 3 1 0 0,.ptr 4 1 0 0] (.pan (.iface 44 (.int .i64 e))) (a::b::c::.row 1 [u]::.row 1 [.p (.int .i64 e0)]::t)
  (λr u h'=>r=.ret (.p (.tuple []))/\u=.recd (.iface 44 (.int .i64 e))/\h'=a::b::c::.row 1 [.p .nilptr]::.row 1 [.p (.int .i64 e)]::t):=by
 refine fF (eA (by kernel_rfl) rfl PN) rfl ?_;rcases hu with rfl|rfl<;>simp only[UX,aV,mZ,iv,bw,go_sem,simprocAttr]
theorem L'{i j}{h}:ju TP 309 [.ptr i 1 0 0,.ptr j 1 0 0] .ret h (λr u h'=>r=.ret (.p (.tuple []))/\u=.ret/\h'=h):=by
 refine fF (eA (by kernel_rfl) rfl PN) rfl ?_;simp only[mZ,iv,go_sem,simprocAttr]
theorem cZ{rs}{R}{T}{e e0}{a b c}{u}{t}(hu:u=.p .nilptr\/u=.ptr 6 1 0 0)(k:cg TP rs R T [] .ret (a::b::c::.row 1 [.p .nilptr]::.row 1 [.p (.int .i64 e)]::t)) :
  cg TP rs R T [.fn 309 [.ptr 3 1 0 0,.ptr 4 1 0 0]] (.pan (.iface 44 (.int .i64 e))) (a::b::c::.row 1 [u]::.row 1 [.p (.int .i64 e0)]::t):=by
 rw[jY];refine(Fp hu).mono λr u h' hr=>?_;obtain⟨rfl,rfl,rfl⟩:=hr;exact k
theorem yv{rs}{R}{T}{h}(k:cg TP rs R T [] .ret h):cg TP rs R T [.fn 309 [.ptr 3 1 0 0,.ptr 4 1 0 0]] .ret h:=by
 rw[jY];refine L'.mono λr u h' hr=>?_;obtain⟨rfl,rfl,rfl⟩:=hr;exact k
theorem V1(e):af TP 310 [.bool true,.int .i64 e] (.tuple []):=by
 refine aa (ah Tryz.func310 rfl (by kernel_rfl)) rfl ?_;simp only[go_sem,simprocAttr]
theorem ol{P}{H}{ops}{rest}{Q}{o}{hs}{A}{f}{args}{pargs}{v}(hc:af P f pargs v)(ha:args=pargs.map .p)
  (h:@WD ⟨P,H,ops,rest,Q⟩ hs (A.put o.dst (.p v) A.h)):@MZ ⟨P,H,ops,rest,Q,o⟩ hs A (.call f args):=by
 subst ha;exact .inl ⟨.p v,λ_ _=>p8 hc,h⟩
theorem JL(s)(l)(b)(hn:s.colours.length<=6)(a0 a1 a2 a3 a4 a5 a7):aB TP 311 [.ptr 6 1 0 0,.p b.pv] [a0,a1,a2,a3,a4,a5,l6 s l 5,a7]
  (λr h'=>h'=[a0,a1,a2,a3,a4,a5,l6 s l 5,a7,.row 2 [.p b.pv]]/\r=if eD s b=0 then .ret (.p (.tuple [])) else .panic (.iface 44 (.int .i64 (eD s b)))):=by
 refine aA (eA (by kernel_rfl) rfl Vn) rfl ?_;have hw:IntKind.i64.wrap ((s.colours.length:Int)-1)=(s.colours.length:Int)-1:=am (by omega) (by omega);simp only[UW,aV,hw,go_sem,simprocAttr]
 (first|refine ae (eS 0 ((s.colours.length:Int)-1) [b.colour] true (by simp)) rfl ?_|refine ay (eS 0 ((s.colours.length:Int)-1) [b.colour] true (by simp)) rfl ?_)
 simp only[bF,bp,cl,nM,go_sem,simprocAttr];cases h1:al b.colour 0 ((s.colours.length:Int)-1)
 .have hb:eD s b=4:=by rw[eD,h1];rfl
  refine Pu λT=>?_;simp only[hb,go_sem,simprocAttr]
 refine ol (V1 4) rfl ?_;simp only[go_sem,simprocAttr];refine ae (eS 1 100000 [_] true (by simp)) rfl ?_;simp only[bF,bp,cl,nM,go_sem,simprocAttr];cases h2:al b.grams 1 100000
 .have hb:eD s b=7:=by rw[eD,h1,h2];rfl
  refine au (λh=>by cases h) λ_=>?_;simp only[hb,go_sem,simprocAttr]
 have hb:eD s b=0:=by rw[eD,h1,h2];rfl
 refine au (λ_=>?_) (λh=>by cases h);simp only[hb,go_sem,simprocAttr]
set_option maxHeartbeats 2000000 in
theorem JK(s)(aW)(l)(x)(hl:l.length<1000000000):aB TP 290 [.p s.pv,.p (.slice 2 (l.map ClBatch.pv) false),.slice 1 1 0 1] [x,.row 1 [.p (.int .i64 aW)]]
  (λr h'=>(dJ s aW l=0/\ShopOk s/\(∀b,b∈l->BatchOk s b)/\l.length<=7/\r=.ret (.tuple [.ptr 6 1 0 0,.p (.int .i64 0)])/\h'=[x,.row 1 [.p (.int .i64 aW)],.row 4 [.p s.pv],.row 1 [.ptr 6 1 0 0],.row 1 [.p (.int .i64 0)],.mp [],l6 s l 5]) \/
   (dJ s aW l≠0/\r=.ret (.p (.tuple [.nilptr,.int .i64 (dJ s aW l)]))/\∃t,h'=[x,.row 1 [.p (.int .i64 aW)],.row 4 [.p s.pv],.row 1 [.p .nilptr],.row 1 [.p (.int .i64 (dJ s aW l))]]++t)):=by
 refine GT λhbel=>?_;have hx0:bf 7 x:=GI (n:=2) (by decide) (hbel x (by simp));refine aA (ah Tryz.func290 rfl (by kernel_rfl)) rfl ?_;simp only[go_sem,simprocAttr];refine ae (pj s) rfl ?_;simp only[aj,go_sem,simprocAttr];cases h0:((clCheck s).2.2==0)
 .have h0':¬(clCheck s).2.2=0:=by simpa using h0
  have ho:dJ s aW l=(clCheck s).2.2:=by rw[dJ,if_neg h0']
  refine au (λh=>by cases h) λ_=>?_;simp only[go_sem,simprocAttr];refine cZ (.inl rfl) ?_;simp only[go_sem,simprocAttr];exact .inr ⟨by rw[ho];exact h0',by rw[ho],[],by rw[ho];exact⟨rfl,rfl⟩⟩
 have h0':(clCheck s).2.2=0:=by simpa using h0
 have hs:=wG h0';have hsl:=hs.len;have hw:IntKind.i64.wrap ((s.colours.length:Int)-1)=(s.colours.length:Int)-1:=am (by omega) (by omega);refine au (λ_=>?_) (λh=>by cases h);simp only[h0',hw,go_sem,simprocAttr];refine aY (eS 0 ((s.colours.length:Int)-1) [aW] false (by simp)) ?_ (.bool _) ?_
 .simp only[go_sem,simprocAttr]
 simp only[bF,bp,cl,nM,go_sem,simprocAttr];cases h1:al aW 0 ((s.colours.length:Int)-1)
 .have ho:dJ s aW l=4:=by rw[dJ,if_pos h0',h1];rfl
  refine au (λh=>by cases h) λ_=>?_;simp only[go_sem,simprocAttr];refine cZ (.inl rfl) ?_;simp only[go_sem,simprocAttr];exact .inr ⟨by rw[ho];decide,by rw[ho],[],by rw[ho];exact⟨rfl,rfl⟩⟩
 have ho1:dJ s aW l=sI s l:=by rw[dJ,if_pos h0',h1];rfl
 refine au (λ_=>?_) (λh=>by cases h);simp only[go_sem,simprocAttr];cases h2:decide ((l.length:Int)<=7)
 .have h2':¬l.length<=7:=by simp at h2;omega
  have ho:dJ s aW l=3:=by rw[ho1,sI,if_neg h2']
  refine au (λh=>by cases h) λ_=>?_;simp only[go_sem,simprocAttr];refine cZ (.inl rfl) ?_;simp only[go_sem,simprocAttr];exact .inr ⟨by rw[ho];decide,by rw[ho],[],by rw[ho];exact⟨rfl,rfl⟩⟩
 have h2':l.length<=7:=by simp at h2;omega
 have ho2:dJ s aW l=fe s l:=by rw[ho1,sI,if_pos h2']
 refine au (λ_=>?_) (λh=>by cases h);simp only[go_sem,simprocAttr]
 refine bm [6,7,38,39] l (by omega) (τ:=Unit) (λdone rest _=>fe s l=fe s rest) (λdone _=>[(40,.p (.int .i64 done.length))])
  (λ_ _=>[x,.row 1 [.p (.int .i64 aW)],.row 4 [.p s.pv],.row 1 [.ptr 6 1 0 0],.row 1 [.p (.int .i64 0)],.mp [],l6 s l 5]) () rfl ?_ ?_ ?_
 .simp only[go_sem,simprocAttr];exact⟨hx0,show 5<7 by decide⟩
 .intro _ e2;rw[fe]at e2;simp only[go_sem,simprocAttr];refine yv ?_;simp only[go_sem,simprocAttr];exact .inl ⟨ho2.trans e2,hs,Ax e2,h2'⟩
 .intro done b r _ e1 e2 hx hlt hnx;rw[fe]at e2;simp only[hlt,hx,go_sem,simprocAttr];refine cp (JL s l b (by omega) _ _ _ _ _ _ _) (λv h hr=>?_) (λv h hr=>?_)
  .obtain⟨rfl,hr⟩:=hr;by_cases hb:eD s b=0
   .rw[if_pos hb]at e2 hr;cases hr;simp only[go_sem,simprocAttr];refine aE e1 () e2 ?_;simp only[hnx,go_sem,simprocAttr];exact⟨hx0,show 5<7 by decide⟩
   .rw[if_neg hb]at hr;cases hr
  .obtain⟨rfl,hr⟩:=hr;by_cases hb:eD s b=0
   .rw[if_pos hb]at hr;cases hr
   .rw[if_neg hb]at e2 hr;cases hr;simp only[go_sem,simprocAttr];refine cZ (.inr rfl) ?_;simp only[go_sem,simprocAttr];exact .inr ⟨by rw[ho2,e2];exact hb,by rw[ho2,e2],_,by rw[ho2,e2];exact⟨rfl,rfl⟩⟩
section
variable (need:Int->Nat->Option Int) (col:Nat->Int)
def cB (a b:Option (List Nat×Int)):Option (List Nat×Int):=
 match a,b with
 |none,b=>b
 |a,none=>a
 |some p,some q=>if q.2<p.2 then some q else some p
def gQ (i:Nat) (n:Option Int) (r:Option (List Nat×Int)):Option (List Nat×Int):=
 match n,r with
 |some n,some (o,c)=>some (i::o,n+c)
 |_,_=>none
def fc:Nat->Int->List Nat->Option (List Nat×Int)
 |_,_,[]=>some ([],0)
 |0,_,_::_=>none
 |k+1,c,i::l=>(i::l).foldl (λa j=>cB a (gQ j (need c j) (fc k (col j) ((i::l).erase j)))) none
def mC:Nat->List Nat->List (List Nat)
 |_,[]=>[[]]
 |0,_::_=>[]
 |k+1,i::l=>(i::l).flatMap λj=>(mC k ((i::l).erase j)).map (j::·)
def iZ:Int->List Nat->Option Int
 |_,[]=>some 0
 |c,i::o=>match need c i,iZ (col i) o with|some n,some m=>some (n+m)|_,_=>none
def ft (c:Int) (l:List (List Nat)) (a:Option (List Nat×Int)):Option (List Nat×Int):=l.foldl (λa o=>cB a ((iZ need col c o).map λn=>(o,n))) a
theorem ib(a):cB a none=a:=by cases a<;>rfl
theorem eQ(a):cB none a=a:=by cases a<;>rfl
theorem FO(a b c):cB (cB a b) c=cB a (cB b c):=by
 cases a with
 |none=>simp[eQ]
 |some p=>cases b with
  |none=>simp[ib,eQ]
  |some q=>cases c with
   |none=>simp[ib]
   |some r=>
    simp only[cB];by_cases h1:q.2<p.2
    .rw[if_pos h1];by_cases h2:r.2<q.2
     .rw[if_pos h2];simp only[];rw[if_pos h2,if_pos (by omega)]
     .rw[if_neg h2];simp only[];rw[if_neg h2,if_pos h1]
    .rw[if_neg h1];by_cases h2:r.2<q.2
     .rw[if_pos h2]
     .rw[if_neg h2];simp only[];rw[if_neg h1,if_neg (by omega)]
theorem iW(c):∀(l) (a),ft need col c l a=cB a (ft need col c l none)
 |[],a=>by simp[ft,ib]
 |o::l,a=>by
  have h1:=iW c l (cB a ((iZ need col c o).map λn=>(o,n)));have h2:=iW c l (cB none ((iZ need col c o).map λn=>(o,n)));simp only[ft,pp]at h1 h2 |-;rw[h1,h2,eQ,FO]
theorem GE(c)(l m)(a):ft need col c (l++m) a=cB (ft need col c l a) (ft need col c m none):=by
 rw[<-iW];simp[ft,AI]
theorem Fq(i)(n)(a b):gQ i n (cB a b)=cB (gQ i n a) (gQ i n b):=by
 cases n with
 |none=>cases a<;>cases b<;>simp[cB,gQ]
 |some n=>cases a with
  |none=>simp[eQ,gQ]
  |some p=>cases b with
   |none=>simp[ib,gQ]
   |some q=>
    simp only[cB,gQ];by_cases h:q.2<p.2
    .rw[if_pos h,if_pos (by omega)]
    .rw[if_neg h,if_neg (by omega)]
theorem Cb(c)(i):∀(l),ft need col c (l.map (i::·)) none=gQ i (need c i) (ft need col (col i) l none)
 |[]=>by cases need c i<;>simp[ft,gQ]
 |o::l=>by
  have ih:=Cb c i l;rw[bD];rw[show ft need col c ((i::o)::l.map (i::·)) none=ft need col c (l.map (i::·)) (cB none ((iZ need col c (i::o)).map λn=>(i::o,n))) from rfl];rw[show ft need col (col i) (o::l) none=ft need col (col i) l (cB none ((iZ need col (col i) o).map λn=>(o,n))) from rfl];rw[iW need col c _ (cB none _),ih,iW need col (col i) l (cB none _),Fq,eQ,eQ,iZ];have e:(match need c i,iZ need col (col i) o with|some n,some m=>some (n+m)|_,_=>none).map (λn=>(i::o,n))=gQ i (need c i) ((iZ need col (col i) o).map λn=>(o,n)):=by
   cases need c i<;>cases iZ need col (col i) o<;>simp[gQ]
  rw[e]
theorem oE{α β:Type}{f g:β->α->β}:∀{l:List α} {b},(∀b x,x∈l->f b x=g b x)->l.foldl f b=l.foldl g b
 |[],_,_=>rfl
 |x::l,b,h=>by rw[pp,pp,h b x (by simp),oE λb y hy=>h b y (by simp[hy])]
theorem Ca(c)(f):∀(l:List Nat) (a),ft need col c (l.flatMap f) a=l.foldl (λa j=>cB a (ft need col c (f j) none)) a
 |[],a=>rfl
 |j::l,a=>by rw[mN,GE,pp,<-Ca c f l,iW need col c (l.flatMap f) (cB a _),iW need col c (f j) a]
theorem CN:∀(k) (c) (l),l.length<=k->ft need col c (mC k l) none=fc need col k c l
 |k,c,[],h=>by cases k<;>simp[mC,fc,ft,iZ,eQ]
 |0,c,i::l,h=>by simp at h
 |k+1,c,i::l,h=>by
  rw[mC,fc,Ca];refine oE λa j hj=>?_;rw[Cb,CN k (col j) _ (by rw[List.length_erase_of_mem hj];simp at h |-;omega)]
theorem yk(c):∀(l) (o) (n),ft need col c l none=some (o,n)->o∈l/\iZ need col c o=some n
 |[],o,n,h=>by simp[ft]at h
 |x::l,o,n,h=>by
  rw[show ft need col c (x::l) none=ft need col c l (cB none ((iZ need col c x).map λn=>(x,n))) from rfl,iW,eQ]at h
  cases hx:iZ need col c x with
  |none=>
   rw[hx,Option.map_none,eQ]at h;have:=yk c l o n h
   exact⟨by simp[this.1],this.2⟩
  |some m=>
   rw[hx,mM]at h
   cases hl:ft need col c l none with
   |none=>rw[hl,ib]at h;cases h;exact⟨by simp,hx⟩
   |some q=>
    rw[hl]at h;simp only[cB]at h;split at h
    .cases h;have:=yk c l _ _ hl;exact⟨by simp[this.1],this.2⟩
    .cases h;exact⟨by simp,hx⟩
theorem xu:∀(k) (l o),o∈mC k l->o.Perm l
 |k,[],o,h=>by cases k<;>(simp[mC]at h;subst h;exact .refl _)
 |0,i::l,o,h=>by simp[mC]at h
 |k+1,i::l,o,h=>by
  rw[mC,DN]at h;obtain⟨j,hj,h⟩:=h;obtain⟨p,hp,rfl⟩:=dN.1 h;exact((xu k _ p hp).cons j).trans (List.perm_cons_erase hj).symm
end
end Cl
end Abs
end Go.Proofs.YtnjiadikeacfaaaGreatDoor
namespace Go.Proofs.YtnjiadikeacfaaaGreatDoor
namespace Abs
namespace Cl
def eT (m:Nat):List Nat:=(List.range 7).filter m.testBit
set_option maxRecDepth 100000 in
theorem qc:∀m,m<128->∀i,i<7->m.testBit i=true->(eT m).erase i=eT (m-2^i)/\2^i<=m:=by decide
theorem FM{m i}:i∈eT m↔i<7/\m.testBit i=true:=by simp[eT]
theorem CM:eT 0=[]:=by decide
set_option maxRecDepth 100000 in
theorem FL:∀m,m<128->eT m=[]->m=0:=by decide
theorem uz(m):(eT m).length<=7:=by have:=List.length_filter_le m.testBit (List.range 7);simpa[eT]using this
def kV:Int:=1099511627776
def io:Option (List Nat×Int)->Int×Int
 |none=>(kV,-2)
 |some (o,n)=>(n,match o with|[]=>-1|i::_=>(i:Int))
section
variable (need:Int->Nat->Option Int) (col:Nat->Int)
def jX (c:Int) (f:Nat->Int×Int) (p:Int×Int) (j:Nat):Int×Int:=
 match need c j with
 |none=>p
 |some n=>if n+(f j).1<p.1 then(n+(f j).1,(j:Int)) else p
def nG (B:Int) (a:Option (List Nat×Int)):Prop:=∀o n,a=some (o,n)->0<=n/\n<=B
theorem vb{B}{a b}(ha:nG B a)(hb:nG B b):nG B (cB a b):=by
 intro o n h
 cases a with
 |none=>cases b<;>first|exact hb o n h|cases h
 |some p=>
  cases b with
  |none=>exact ha o n h
  |some q=>
   simp only[cB]at h;split at h
   .exact hb o n h
   .exact ha o n h
theorem xm{α:Type}{B}{f:α->Option (List Nat×Int)}:∀(l:List α) (a),nG B a->(∀x,x∈l->nG B (f x))->nG B (l.foldl (λa x=>cB a (f x)) a)
 |[],a,ha,_=>ha
 |x::l,a,ha,h=>xm l _ (vb ha (h x (by simp))) λy hy=>h y (by simp[hy])
theorem mV(hn:∀c j n,need c j=some n->0<=n/\n<=30000):∀(k:Nat) (c) (l),nG (30000*(k)) (fc need col k c l)
 |k,c,[]=>by
  intro o n h
  cases k<;>(simp only[fc,gk,y5]at h;omega)
 |0,c,i::l=>by intro o n h;cases h
 |k+1,c,i::l=>by
  rw[fc];refine xm _ none (λo n h=>by cases h) λj hj=>?_;intro o n h;unfold gQ at h;split at h
  .rename_i n1 o1 c1 h1 h2;have a1:=hn _ _ _ h1;have a2:=mV hn k (col j) _ o1 c1 h2;cases h;omega
  .cases h
theorem Lj{B}(hB:B+30000<kV)(hn:∀c j n,need c j=some n->0<=n/\n<=30000)(c)(j){a r}{f}(ha:nG (B+30000) a)(hr:nG B r)(hf:f j=io r) :
  io (cB a (gQ j (need c j) r))=jX need c f (io a) j:=by
 unfold jX
 cases hc:need c j with
 |none=>simp only[gQ,ib]
 |some n=>
  have hn':=hn _ _ _ hc;dsimp only;rw[hf]
  cases r with
  |none=>
   simp only[gQ,ib];rw[if_neg]
   cases a with
   |none=>simp only[io];omega
   |some p=>have:=ha p.1 p.2 rfl;simp only[io];omega
  |some q=>
   have hq:=hr q.1 q.2 rfl;simp only[gQ]
   cases a with
   |none=>
    simp only[eQ,io]
    exact(if_pos (show n+q.2<kV by omega)).symm
   |some p=>
    simp only[cB,io];by_cases hlt:n+q.2<p.2
    .rw[if_pos hlt];exact(if_pos hlt).symm
    .rw[if_neg hlt];exact(if_neg hlt).symm
theorem zu{B}(hB:B+30000<kV)(hn:∀c j n,need c j=some n->0<=n/\n<=30000)(c)(r:Nat->Option (List Nat×Int))(hr:∀j,nG B (r j)):∀(l:List Nat) (a),nG (B+30000) a ->
  io (l.foldl (λa j=>cB a (gQ j (need c j) (r j))) a)=l.foldl (jX need c λj=>io (r j)) (io a)
 |[],a,_=>rfl
 |j::l,a,ha=>by
  rw[pp,pp,<-Lj need hB hn c j ha (hr j) rfl];refine zu hB hn c r hr l _ (vb ha ?_);intro o n h;unfold gQ at h;split at h
  .rename_i n1 o1 c1 h1 h2;have a1:=hn _ _ _ h1;have a2:=hr j o1 c1 h2;cases h;omega
  .cases h
def kT (c:Int) (m:Nat):Int×Int:=io (fc need col 7 c (eT m))
theorem wc:∀(k) (c) (l),l.length<=k->fc need col (k+1) c l=fc need col k c l
 |0,c,[],_=>rfl
 |0,c,_::_,h=>by simp at h
 |k+1,c,[],_=>rfl
 |k+1,c,i::l,h=>by
  rw[fc,fc];refine oE λa j hj=>?_;rw[wc k (col j) _ (by rw[List.length_erase_of_mem hj];simp at h |-;omega)]
theorem xq(c):kT need col c 0=(0,-1):=by
 rw[kT,CM];rfl
theorem GD(hn:∀c j n,need c j=some n->0<=n/\n<=30000)(c){m}(hm:m<128)(h0:m≠0) :
  kT need col c m=(eT m).foldl (jX need c λj=>kT need col (col j) (m-2^j)) (kV,-2):=by
 have hl:=uz m;unfold kT;rw[<-wc need col 7 c _ hl]
 cases hb:eT m with
 |nil=>exact absurd (FL m hm hb) h0
 |cons i l=>
  rw[fc];have hs:=mV need col hn 7;rw[zu need (B:=210000) (by unfold kV;omega) hn c (λj=>fc need col 7 (col j) ((i::l).erase j)) (λj o n h=>hs _ _ o n h) (i::l) none (λo n h=>by cases h)];refine oE λa j hj=>?_;rw[<-hb]at hj |-;rw[FM]at hj;simp only[jX,(qc m hm j hj.1 hj.2).1]
theorem Ac{f:Nat->Option (List Nat×Int)}:∀(l:List Nat) (a) (o) (n),l.foldl (λa j=>cB a (f j)) a=some (o,n)->a=some (o,n)\/∃j,j∈l/\f j=some (o,n)
 |[],a,o,n,h=>.inl h
 |j::l,a,o,n,h=>by
  rcases Ac l _ o n h with h|⟨i,hi,h⟩
  .cases a with
   |none=>exact .inr ⟨j,by simp,(eQ _).symm.trans h⟩
   |some p=>
    dsimp only at h
    cases hf:f j with
    |none=>simp only[hf,ib]at h;exact .inl h
    |some q=>
     simp only[hf,cB]at h;split at h
     .exact .inr ⟨j,by simp,hf.trans h⟩
     .exact .inl h
  .exact .inr ⟨i,by simp[hi],h⟩
theorem MK{k}{c}{i}{l}{o}{n}(h:fc need col (k+1) c (i::l)=some (o,n)):∃j o' n',j∈i::l/\o=j::o'/\fc need col k (col j) ((i::l).erase j)=some (o',n'):=by
 rw[fc]at h;rcases Ac _ none o n h with h|⟨j,hj,h⟩
 .cases h
 .unfold gQ at h;split at h
  .rename_i n1 o1 c1 h1 h2;cases h;exact⟨j,o1,c1,hj,rfl,h2⟩
  .cases h
theorem Jk{c}{m}(hm:m<128)(h0:m≠0){o}{n}(h:fc need col 7 c (eT m)=some (o,n)):∃j o' n',j<7/\m.testBit j=true/\o=j::o'/\(kT need col c m).2=(j)/\fc need col 7 (col j) (eT (m-2^j))=some (o',n'):=by
 have hl:=uz m;have hp:kT need col c m=io (some (o,n)):=by rw[kT,h]
 rw[<-wc need col 7 c _ hl]at h
 cases hb:eT m with
 |nil=>exact absurd (FL m hm hb) h0
 |cons i l=>
  rw[hb]at h;obtain⟨j,o',n',hj,rfl,h'⟩:=MK need col h;rw[<-hb]at hj h';rw[FM]at hj;rw[(qc m hm j hj.1 hj.2).1]at h';exact⟨j,o',n',hj.1,hj.2,rfl,by rw[hp];rfl,h'⟩
end
end Cl
end Abs
end Go.Proofs.YtnjiadikeacfaaaGreatDoor
namespace Go.Proofs.YtnjiadikeacfaaaGreatDoor
namespace Abs
namespace Cl
set_option maxRecDepth 4000
theorem EI(can):∀(c r),ni can c r=-1\/((r)<=ni can c r/\ni can c r<r+c)
 |0,r=>.inl rfl
 |c+1,r=>by
  rw[ni];split
  .rcases EI can c (r+1) with h|h
   .exact .inl h
   .exact .inr (by omega)
  .exact .inr (by omega)
theorem QL(s)(c)(b):-1<=iG s c b/\iG s c b<=3:=by
 have:=EI (n7 s c b) 4 0;unfold iG;omega
def tV (s:ClShop) (c:Int) (b:ClBatch):Option Int:=if iG s c b<0 then none else some (iG s c b*s.rinse)
theorem A7{s}(hs:ShopOk s){c}{b}{n}(h:tV s c b=some n):0<=n/\n<=30000:=by
 unfold tV at h;split at h
 .cases h
 .rename_i h0;cases h;have h1:=QL s c b;have h2:=hs.rinse;have:=AK h1.2 h2.2 h2.1 (by omega:(0:Int)<=3);exact⟨tu (by omega) h2.1,by omega⟩
end Cl
variable {P:Program} {M0:Nat->Prop}
theorem El{w:World}{b}{ob}(h:w.heap[b]?=some ob):w.putObj b ob=w:=by
 obtain⟨hlt,he⟩:=uT.1 h;have:w.heap.setIfInBounds b ob=w.heap:=by
  apply qw
  .simp
  .intro i h1 h2;rw[Array.getElem_setIfInBounds];split
   .rename_i e;subst e;exact he.symm
   .rfl
 unfold World.putObj;simp only[this]
theorem Lt{S}(hS:HOk P M0 S){id}{φ}(hid:S.h[id]?=some (.memo φ)) :
  nI φ/\∃es,(∀p,p∈es->φ p.1 p.2=true)/\HOk P M0 ⟨S.m,S.h.set id (.mp es),S.w⟩/\Ev S.h.length S ⟨S.m,S.h.set id (.mp es),S.w⟩:=by
 obtain⟨hg,es,hf,bl,C,clk,hm,hb,hrel⟩:=hS.obj id _ hid;have:=jB hS (o:=.mp es) (ob:=.map C clk) hm hid hb (mD hb) (by intro C T f;simp) (.inr (.inr ⟨by simp[AObj.tag],rfl,rfl⟩)) (λhe hx=>⟨bl,C,clk,rfl,hx,hrel.mono λv a=>he.keepS⟩);rw[El hb]at this;exact⟨hg,es,hf,this⟩
theorem tW{S}(hS:HOk P M0 S){id}{es}{φ}(hg:nI φ)(hf:∀p,p∈es->φ p.1 p.2=true)(hid:S.h[id]?=some (.mp es)) :
  HOk P M0 ⟨S.m,S.h.set id (.memo φ),S.w⟩/\Ev S.h.length S ⟨S.m,S.h.set id (.memo φ),S.w⟩:=by
 obtain⟨bl,C,clk,hm,hb,hrel⟩:=hS.obj id _ hid;have:=jB hS (o:=.memo φ) (ob:=.map C clk) hm hid hb (mD hb) (by intro C T f;simp) (.inr (.inr ⟨by simp[AObj.tag],rfl,rfl⟩)) (λhe hx=>⟨hg,es,hf,bl,C,clk,rfl,hx,hrel.mono λv a=>he.keepS⟩);rw[El hb]at this;exact this
theorem JI{f}{args}{h}{R}{id}{φ}(hid:h[id]?=some (.memo φ))
  (k:nI φ->∀es,(∀p,p∈es->φ p.1 p.2=true)->aB P f args (h.set id (.mp es)) (λr h''=>(h''=h\/h''=h.set id (.mp es))/\R r h)):aB P f args h R:=by
 intro M0 m w cargs hS hargs;have hidl:=(ax.1 hid).1;obtain⟨hg,es,hf,hS',hev⟩:=Lt hS hid;have:=k hg es hf M0 m w cargs hS' (hargs.imp λv a _ hr=>hev.keep hr);refine⟨this.1,this.2.mono λe w' hh=>?_⟩;obtain⟨r,h'',m',⟨hh,hR⟩,hev',hk,hend⟩:=hh;have hevT:Ev h.length ⟨m,h,w⟩ ⟨m',h'',w'⟩:=hev.trans (by simpa using hev');rcases hh with rfl|rfl
 .exact⟨r,_,m',hR,hevT,hk,hend⟩
 .have hid':(h.set id (.mp es))[id]?=some (.mp es):=iJ hidl;obtain⟨hk2,hev2⟩:=tW hk (φ:=φ) hg hf hid';have e1:(h.set id (.mp es)).set id (.memo φ)=h:=by rw[pO];exact ji hid
  dsimp only at hk2 hev2;rw[e1]at hk2 hev2;refine⟨r,h,m',hR,hevT.trans (by simpa using hev2),hk2,?_⟩
  cases e with
  |returned v'=>
   cases r with
   |panic v=>exact hend.elim
   |ret a=>exact hev2.keep hend
  |panicked ch=>
   cases r with
   |ret a=>exact hend.elim
   |panic v=>
    obtain⟨v',h1,h2⟩:=hend
    exact⟨v',h1,hev2.keep (a:=.p v) h2⟩
  |outgrown=>exact hend.elim
theorem KC{A}{id}{es}{φ}(hg:nI φ)(hf:∀p,p∈es->φ p.1 p.2=true)(hid:A.h[id]?=some (.mp es)):fJ P A { A with h:=A.h.set id (.memo φ) }:=
 ⟨rfl,rfl,λM0 S0 b cs0 m a w hr=>⟨m,by
  have:=tW (S:=⟨m,A.h,w⟩) hr.hok hg hf hid
  exact hr.ahead (m':=m) (h':=A.h.set id (.memo φ)) (w':=w) this.2 this.1⟩⟩
variable {H:Hints} {Q:Cont}
end Abs
end Go.Proofs.YtnjiadikeacfaaaGreatDoor
