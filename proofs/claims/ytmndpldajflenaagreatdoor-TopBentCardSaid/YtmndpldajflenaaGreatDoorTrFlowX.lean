/- CONTRACTS of the program's functions, and laws on what they return. No conditions but those in the theorems' heads. -/
import Derived.Test.YtmndpldajflenaaGreatDoorLibNameX
set_option linter.all false
namespace Go.Proofs.YtmndpldajflenaaGreatDoor
namespace Abs
namespace Tr
structure St where
 has:Nat->Int
 giv:Nat->Nat->Int
 seen:Nat->Bool
def mark (σ:St) (x:Nat):St:={ σ with seen:=λy=>if y=x then true else σ.seen y }
def shift (σ:St) (x t:Nat) (d:Int):St:={ σ with giv:=λa b=>if a=x then(if b=t then σ.giv a b+d else σ.giv a b) else σ.giv a b }
def rd (σ:St) (x:Nat) (d:Int):St:={ σ with has:=λy=>if y=x then σ.has y-d else σ.has y }
def kY (rec:Nat->Int->St->Int×St) (x to:Nat) (most:Int):List Nat->St->Int×St
 |[],σ=>(0,σ)
 |o::os,σ=>
  if o=to\/σ.giv x o=0 then kY rec x to most os σ else
  match rec o (min most (σ.giv x o)) σ with
  |(m,σ')=>if 0<m then(m,shift (shift σ' x o (-m)) x to m) else kY rec x to most os σ'
def kT (rec:Nat->Int->St->Int×St) (nv:Nat->Nat->Bool) (to:Nat) (most:Int):List Nat->St->Int×St
 |[],σ=>(0,σ)
 |x::xs,σ=>
  if σ.seen x=true\/nv x to=true then kT rec nv to most xs σ else
  if 0<min most (σ.has x) then(min most (σ.has x),shift (rd (mark σ x) x (min most (σ.has x))) x to (min most (σ.has x))) else
  match kY rec x to most (List.range 8) (mark σ x) with
  |(m,σ')=>if 0<m then(m,σ') else kT rec nv to most xs σ'
def jt (nv:Nat->Nat->Bool):Nat->Nat->Int->St->Int×St
 |0,_,_,σ=>(0,σ)
 |k+1,to,most,σ=>kT (jt nv k) nv to most (List.range to) σ
def jQ (s:Nat->Bool):Nat->Nat
 |0=>0
 |n+1=>jQ s n+if s n then 0 else 1
theorem rg{s t:Nat->Bool}(h:∀x,s x=true->t x=true):∀n,jQ t n<=jQ s n
 |0=>aJ _
 |n+1=>by
  simp only[jQ];have:=rg h n
  cases hs:s n with
  |true=>rw[h n hs];simpa using this
  |false=>cases t n<;>simp<;>omega
theorem uE{s:Nat->Bool}{x:Nat}(hx:s x=false):∀n,x<n->jQ (λy=>if y=x then true else s y) n+1=jQ s n
 |0,h=>by omega
 |n+1,h=>by
  simp only[jQ];rcases aw x n with h1|h1
  .have:=uE hx n h1;have:n≠x:=by omega
   simp only[this,if_false];omega
  .have e:n=x:=by omega
   subst e;have:∀m,m<=n->jQ (λy=>if y=n then true else s y) m=jQ s m:=by
    intro m hm
    induction m with
    |zero=>rfl
    |succ m ih=>
     simp only[jQ];rw[ih (by omega)];have:m≠n:=by omega
     simp[this]
   rw[this n (aJ _)];simp[hx]
structure Inv (nv:Nat->Nat->Bool) (σ:St):Prop where
 has:∀x,0<=σ.has x
 giv:∀x t,0<=σ.giv x t
 can:∀x t,0<σ.giv x t->x<t/\nv x t=false/\t<8
def rcv (σ:St) (t:Nat):Int:=sm 8 λx=>σ.giv x t
def tot (σ:St) (x:Nat):Int:=σ.has x+sm 8 (σ.giv x)
def closed (nv:Nat->Nat->Bool) (seen:Nat->Bool) (t:Nat):Prop:=∀y,y<t->nv y t=false->seen y=true
theorem closed.mono{nv:Nat->Nat->Bool}{s s':Nat->Bool}{t:Nat}(h:closed nv s t)(k:∀x,s x=true->s' x=true):closed nv s' t:=λy h1 h2=>k y (h y h1 h2)
structure Got (nv:Nat->Nat->Bool) (ex:Nat->Prop) (to:Nat) (most:Int) (σ:St) (n:Int) (σ':St):Prop where
 lo:0<=n
 hi:n<=most
 mono:∀x,σ.seen x=true->σ'.seen x=true
 same:n=0->σ'.has=σ.has/\σ'.giv=σ.giv
 inv:Inv nv σ'
 tot:∀x,x<8->Tr.tot σ' x=Tr.tot σ x
 rcv:∀t,Tr.rcv σ' t=Tr.rcv σ t+if t=to then n else 0
 keep:∀x,σ.seen x=true->¬ex x->σ'.has x=σ.has x/\∀t,σ'.giv x t=σ.giv x t
 new:n=0->∀x,σ'.seen x=true->σ.seen x=true\/(x<8/\σ.has x=0/\∀o,0<σ.giv x o->o=to\/closed nv σ'.seen o)
theorem ir{σ:St}{x y:Nat}:(mark σ x).seen y=true↔y=x\/σ.seen y=true:=by
 unfold mark;dsimp only;by_cases h:y=x<;>simp[h]
theorem db{σ:St}{x t a b:Nat}{d:Int}:(shift σ x t d).giv a b=if a=x/\b=t then σ.giv a b+d else σ.giv a b:=by
 unfold shift;dsimp only;by_cases h1:a=x<;>by_cases h2:b=t<;>simp[h1,h2]
theorem Fx{σ:St}{x t:Nat}{d:Int}:(shift σ x t d).has=σ.has:=rfl
theorem rR{σ:St}{x t y:Nat}{d:Int}(ht:t<8):tot (shift σ x t d) y=tot σ y+if y=x then d else 0:=by
 unfold tot;rw[Fx];by_cases h:y=x
 .subst h;rw[if_pos rfl,sm_upd (f:=σ.giv y) (g:=(shift σ y t d).giv y) ht λi hi hne=>by rw[db];simp[hne]];rw[db];simp;omega
 .rw[if_neg h,sm_congr (f:=(shift σ x t d).giv y) (g:=σ.giv y) λi hi=>by rw[db];simp[h]];omega
theorem r7{σ:St}{x t u:Nat}{d:Int}(hx:x<8):rcv (shift σ x t d) u=rcv σ u+if u=t then d else 0:=by
 unfold rcv;by_cases h:u=t
 .subst h;rw[if_pos rfl,sm_upd (f:=λi=>σ.giv i u) (g:=λi=>(shift σ x u d).giv i u) hx λi hi hne=>by rw[db];simp[hne]];rw[db];simp;omega
 .rw[if_neg h,sm_congr (f:=λi=>(shift σ x t d).giv i u) (g:=λi=>σ.giv i u) λi hi=>by rw[db];simp[h]];omega
def E8 (nv:Nat->Nat->Bool) (k:Nat) (rec:Nat->Int->St->Int×St):Prop:=
 ∀to most σ,to<8->jQ σ.seen 8<k->0<most->Inv nv σ->Got nv (λ_=>False) to most σ (rec to most σ).1 (rec to most σ).2/\((rec to most σ).1=0->closed nv (rec to most σ).2.seen to)
theorem wX{nv:Nat->Nat->Bool}{k:Nat}{rec:Nat->Int->St->Int×St}(hr:E8 nv k rec){x to:Nat}{most:Int}(hx:x<to)(ht:to<8)(hnv:nv x to=false)(hm:0<most) :
  ∀(l:List Nat) (σ:St),(∀o∈l,o<8)->σ.seen x=true->jQ σ.seen 8<k->Inv nv σ ->
   Got nv (·=x) to most σ (kY rec x to most l σ).1 (kY rec x to most l σ).2/\((kY rec x to most l σ).1=0->∀o∈l,0<σ.giv x o->o=to\/closed nv (kY rec x to most l σ).2.seen o)
 |[],σ,_,hs,hc,hi=>by
  refine⟨⟨dF _,by show (0:Int)<=most;omega,λ_ h=>h,λ_=>⟨rfl,rfl⟩,hi,λ_ _=>rfl,λt=>by show rcv σ t=_;simp[kY],λ_ _ _=>⟨rfl,λ_=>rfl⟩,λ_ x h=>.inl h⟩,λ_ o ho=>by cases ho⟩
 |o::os,σ,hl,hs,hc,hi=>by
  have hl':∀o∈os,o<8:=λp hp=>hl p (eU _ hp);have h8:=hl o List.mem_cons_self;unfold kY;split
  .rename_i hskip;obtain⟨h1,h2⟩:=wX hr hx ht hnv hm os σ hl' hs hc hi;refine⟨h1,λh0 p hp hg=>?_⟩;rcases dQ.1 hp with rfl|hp
   .rcases hskip with h|h
    .exact .inl h
    .omega
   .exact h2 h0 p hp hg
  .rename_i hskip;have hne:o≠to:=λh=>hskip (.inl h);have hpos:0<σ.giv x o:=by
    have:=hi.giv x o;have h0:σ.giv x o≠0:=λh=>hskip (.inr h);omega
   obtain⟨g,gc⟩:=hr o (min most (σ.giv x o)) σ h8 hc (by omega) hi
   cases hrc:rec o (min most (σ.giv x o)) σ with
   |mk m σ'=>
   rw[hrc]at g gc;dsimp only at g gc |-;split
   .rename_i hmp;have hkx:=g.keep x hs id;have hcan:=hi.can x o hpos;refine⟨?_,λh0=>by dsimp only at h0;omega⟩;dsimp only;have hmhi:=g.hi;have x8:x<8:=by omega
    refine⟨by omega,by omega,λy hy=>g.mono y hy,λh0=>by omega,⟨?_,?_,?_⟩,?_,?_,?_,λh0=>by omega⟩
    .exact g.inv.has
    .intro a b;rw[db,db];have:=g.inv.giv a b;by_cases ha:a=x
     .subst ha;by_cases hb:b=to
      .subst hb;have:¬b=o:=λh=>hne h.symm;simp[this];omega
      .by_cases hb2:b=o
       .subst hb2;rw[if_neg (by simp[hb]),if_pos (by simp),hkx.2];omega
       .simp[hb,hb2];omega
     .simp[ha];omega
    .intro a b hab;rw[db,db]at hab;by_cases ha:a=x
     .subst ha;by_cases hb:b=to
      .subst hb;exact⟨hx,hnv,ht⟩
      .by_cases hb2:b=o
       .subst hb2;exact hcan
       .simp[hb,hb2]at hab;exact g.inv.can a b hab
     .simp[ha]at hab;exact g.inv.can a b hab
    .intro y hy;rw[rR ht,rR h8,g.tot y hy];split<;>omega
    .intro t;rw[r7 x8,r7 x8,g.rcv t];by_cases h1:t=o
     .subst h1;simp[hne];omega
     .simp[h1]
    .intro y hy hyx;have hy':y≠x:=hyx;obtain⟨k1,k2⟩:=g.keep y hy id;refine⟨k1,λt=>?_⟩;rw[db,db];simp[hy',k2]
   .rename_i hmp;have h0:m=0:=by have:=g.lo;omega
    obtain⟨e1,e2⟩:=g.same h0;obtain⟨g2,gc2⟩:=wX hr hx ht hnv hm os σ' hl' (g.mono x hs) (by have:=rg g.mono 8;omega) g.inv;have tt:∀y,tot σ' y=tot σ y:=λy=>by unfold tot;rw[e1,e2]
    have rr:∀t,rcv σ' t=rcv σ t:=λt=>by unfold rcv;rw[e2]
    refine⟨⟨g2.lo,g2.hi,λy hy=>g2.mono y (g.mono y hy),λh=>?_,g2.inv,λy hy=>(g2.tot y hy).trans (tt y),λt=>by rw[g2.rcv t,rr],λy hy hyx=>?_,λh y hy=>?_⟩,λh p hp hg=>?_⟩
    .obtain⟨a,b⟩:=g2.same h;exact⟨a.trans e1,b.trans e2⟩
    .obtain⟨a,b⟩:=g2.keep y (g.mono y hy) hyx;exact⟨a.trans (congrFun e1 y),λt=>(b t).trans (congrFun (congrFun e2 y) t)⟩
    .rcases g2.new h y hy with h1|⟨h1,h2,h3⟩
     .rcases g.new h0 y h1 with h4|⟨h4,h5,h6⟩
      .exact .inl h4
      .refine .inr ⟨h4,h5,λp hp=>?_⟩;rcases h6 p hp with rfl|h7
       .exact .inr ((gc h0).mono g2.mono)
       .exact .inr (h7.mono g2.mono)
     .refine .inr ⟨h1,by rw[<-e1];exact h2,λp hp=>h3 p (by rw[e2];exact hp)⟩
    .rcases dQ.1 hp with rfl|hp
     .exact .inr ((gc h0).mono g2.mono)
     .exact gc2 h p hp (by rw[e2];exact hg)
theorem wH{nv:Nat->Nat->Bool}{k:Nat}{rec:Nat->Int->St->Int×St}(hr:E8 nv k rec){to:Nat}{most:Int}(ht:to<8)(hm:0<most) :
  ∀(l:List Nat) (σ:St),(∀o∈l,o<to)->jQ σ.seen 8<k+1->Inv nv σ ->
   Got nv (λ_=>False) to most σ (kT rec nv to most l σ).1 (kT rec nv to most l σ).2/\((kT rec nv to most l σ).1=0->∀x∈l,nv x to=false->(kT rec nv to most l σ).2.seen x=true)
 |[],σ,_,hc,hi=>by
  refine⟨⟨dF _,by show (0:Int)<=most;omega,λ_ h=>h,λ_=>⟨rfl,rfl⟩,hi,λ_ _=>rfl,λt=>by show rcv σ t=_;simp[kT],λ_ _ _=>⟨rfl,λ_=>rfl⟩,λ_ x h=>.inl h⟩,λ_ o ho=>by cases ho⟩
 |x::xs,σ,hl,hc,hi=>by
  have hl':∀o∈xs,o<to:=λp hp=>hl p (eU _ hp);have hx:=hl x List.mem_cons_self;unfold kT;split
  .rename_i hskip;obtain⟨h1,h2⟩:=wH hr ht hm xs σ hl' hc hi;refine⟨h1,λh0 p hp hg=>?_⟩;rcases dQ.1 hp with rfl|hp
   .rcases hskip with h|h
    .exact h1.mono _ h
    .rw[h]at hg;cases hg
   .exact h2 h0 p hp hg
  .rename_i hskip;have hsx:σ.seen x=false:=by
    cases h:σ.seen x with
    |false=>rfl
    |true=>exact absurd (.inl h) hskip
   have hnv:nv x to=false:=by
    cases h:nv x to with
    |false=>rfl
    |true=>exact absurd (.inr h) hskip
   have x8:x<8:=by omega
   have hcm:jQ (mark σ x).seen 8+1=jQ σ.seen 8:=uE hsx 8 x8;have him:Inv nv (mark σ x):=⟨hi.has,hi.giv,hi.can⟩
   split
   .rename_i hp;refine⟨?_,λh0=>by dsimp only at h0;omega⟩;dsimp only;generalize hd:min most (σ.has x)=d at hp;have hd2:d<=most/\d<=σ.has x:=by omega
    refine⟨by omega,hd2.1,λy hy=>ir.2 (.inr hy),λh0=>by omega,⟨?_,?_,?_⟩,?_,?_,?_,λh0=>by omega⟩
    .intro y;have:=hi.has y;show 0<=(if y=x then σ.has y-d else σ.has y)
     split
     .rename_i h;subst h;omega
     .exact this
    .intro a b;rw[db];have:=hi.giv a b;show 0<=if a=x/\b=to then σ.giv a b+d else σ.giv a b
     split<;>omega
    .intro a b hab;rw[db]at hab;by_cases h:a=x/\b=to
     .obtain⟨rfl,rfl⟩:=h;exact⟨hx,hnv,ht⟩
     .rw[if_neg h]at hab;exact hi.can a b hab
    .intro y hy;rw[rR ht];show (if y=x then σ.has y-d else σ.has y)+sm 8 (σ.giv y)+_=σ.has y+sm 8 (σ.giv y);split<;>omega
    .intro t;rw[r7 x8];rfl
    .intro y hy _;have hyx:y≠x:=λh=>by rw[h,hsx]at hy;cases hy
     refine⟨?_,λt=>?_⟩
     .show (if y=x then σ.has y-d else σ.has y)=_;rw[if_neg hyx]
     .rw[db,if_neg λh=>hyx h.1];rfl
   .rename_i hp;have hz:σ.has x=0:=by have:=hi.has x;omega
    obtain⟨g,gc⟩:=wX hr hx ht hnv hm (List.range 8) (mark σ x) (λo ho=>bX.1 ho) (ir.2 (.inl rfl)) (by omega) him
    cases hoc:kY rec x to most (List.range 8) (mark σ x) with
    |mk m σ'=>
    rw[hoc]at g gc;dsimp only at g gc |-;have hkeep:∀y,σ.seen y=true->y≠x:=λy hy h=>by rw[h,hsx]at hy;cases hy
    split
    .rename_i hmp;refine⟨⟨g.lo,g.hi,λy hy=>g.mono y (ir.2 (.inr hy)),λh0=>by dsimp only at h0;omega,g.inv,g.tot,g.rcv,λy hy _=>g.keep y (ir.2 (.inr hy)) (hkeep y hy),λh0=>by dsimp only at h0;omega⟩,λh0=>by dsimp only at h0;omega⟩
    .rename_i hmp;have h0:m=0:=by have:=g.lo;omega
     obtain⟨e1,e2⟩:=g.same h0;obtain⟨g2,gc2⟩:=wH hr ht hm xs σ' hl' (by have:=rg g.mono 8;omega) g.inv;have tt:∀y,tot σ' y=tot σ y:=λy=>by unfold tot;rw[e1,e2];rfl
     have rr:∀t,rcv σ' t=rcv σ t:=λt=>by unfold rcv;rw[e2];rfl
     have hsx':σ'.seen x=true:=g.mono x (ir.2 (.inl rfl));refine⟨⟨g2.lo,g2.hi,λy hy=>g2.mono y (g.mono y (ir.2 (.inr hy))),λh=>?_,g2.inv,λy hy=>(g2.tot y hy).trans (tt y),λt=>by rw[g2.rcv t,rr],λy hy _=>?_,λh y hy=>?_⟩,λh p hp hg=>?_⟩
     .obtain⟨a,b⟩:=g2.same h;exact⟨a.trans e1,b.trans e2⟩
     .obtain⟨a,b⟩:=g2.keep y (g.mono y (ir.2 (.inr hy))) id;exact⟨a.trans (congrFun e1 y),λt=>(b t).trans (congrFun (congrFun e2 y) t)⟩
     .have main:∀p,0<σ.giv x p->p=to\/closed nv (kT rec nv to most xs σ').2.seen p:=λp hpg=>by
       have hc8:=(hi.can x p hpg).2.2;rcases gc h0 p (bX.2 hc8) hpg with h7|h7
       .exact .inl h7
       .exact .inr (h7.mono g2.mono)
      rcases g2.new h y hy with h1|⟨h1,h2,h3⟩
      .rcases g.new h0 y h1 with h4|⟨h4,h5,h6⟩
       .rcases ir.1 h4 with rfl|h4
        .exact .inr ⟨x8,hz,main⟩
        .exact .inl h4
       .refine .inr ⟨h4,h5,λp hp=>?_⟩;rcases h6 p hp with rfl|h7
        .exact .inl rfl
        .exact .inr (h7.mono g2.mono)
      .refine .inr ⟨h1,by rw[e1]at h2;exact h2,λp hp=>h3 p (by rw[e2];exact hp)⟩
     .rcases dQ.1 hp with rfl|hp
      .exact g2.mono _ hsx'
      .exact gc2 h p hp hg
theorem tx(nv:Nat->Nat->Bool):∀k,E8 nv k (jt nv k)
 |0=>λto most σ _ hc=>by omega
 |k+1=>λto most σ ht hc hm hi=>by
  obtain⟨h1,h2⟩:=wH (tx nv k) ht hm (List.range to) σ (λo ho=>bX.1 ho) hc hi;exact⟨h1,λh0 y hy hn=>h2 h0 y (bX.2 hy) hn⟩
def fresh (σ:St):St:={ σ with seen:=λ_=>false }
def fill (nv:Nat->Nat->Bool):Nat->Nat->Int->St->Int×St
 |0,_,_,σ=>(0,σ)
 |k+1,to,need,σ=>
  if need<=0 then(0,σ) else
  match jt nv 9 to need (fresh σ) with
  |(n,σ')=>if n=0 then(need,σ') else fill nv k to (need-n) σ'
def nD (nv:Nat->Nat->Bool) (needs:Nat->Int):List Nat->St->Int×St
 |[],σ=>(0,σ)
 |t::ts,σ=>((fill nv (needs t).toNat t (needs t) σ).1+(nD nv needs ts (fill nv (needs t).toNat t (needs t) σ).2).1,(nD nv needs ts (fill nv (needs t).toNat t (needs t) σ).2).2)
def short (nv:Nat->Nat->Bool) (has needs:Nat->Int):Int:=(nD nv needs (List.range 8) ⟨has,λ_ _=>0,λ_=>false⟩).1
structure Way (nv:Nat->Nat->Bool) (has needs:Nat->Int) (f:Nat->Nat->Int):Prop where
 lo:∀x t,0<=f x t
 can:∀x t,0<f x t->x<t/\nv x t=false
 need:∀t,t<8->sm 8 (λx=>f x t)=needs t
 has:∀x,x<8->sm 8 (f x)<=has x
theorem sO(σ:St):jQ (fresh σ).seen 8<9:=(by decide:jQ (λ_=>false) 8<9)
open Classical in
theorem stuck_not{nv:Nat->Nat->Bool}{has needs:Nat->Int}{f:Nat->Nat->Int}(w:Way nv has needs f){σ σ':St}{to:Nat}{most:Int}(ht:to<8)(hi:Inv nv σ)(h0:∀x,x<8->tot σ x=has x)(hr:∀t,t<8->rcv σ t<=needs t)
  (hlt:rcv σ to<needs to) (g:Got nv (λ_=>False) to most (fresh σ) 0 σ') (gc:closed nv σ'.seen to):False:=by
 have hS:∀x,σ'.seen x=true->x<8/\σ.has x=0/\∀o,0<σ.giv x o->closed nv σ'.seen o:=λx hx=>by
  rcases g.new rfl x hx with h|⟨h1,h2,h3⟩
  .cases h
  .refine⟨h1,h2,λo ho=>?_⟩;rcases h3 o ho with rfl|h
   .exact gc
   .exact h
 have e1:sm 8 (λt=>if closed nv σ'.seen t then rcv σ t else 0)=sm 8 (λx=>if σ'.seen x=true then has x else 0):=by
  have a:sm 8 (λt=>if closed nv σ'.seen t then rcv σ t else 0)=sm 8 λt=>sm 8 λx=>if closed nv σ'.seen t then σ.giv x t else 0:=sm_congr λt _=>by
   split
   .rfl
   .exact(sm_zero λ_ _=>rfl).symm
  rw[a,sm_swap];refine sm_congr λx hx=>?_;split
  .rename_i hs;obtain⟨_,h2,h3⟩:=hS x hs;have:has x=sm 8 (σ.giv x):=by rw[<-h0 x hx];unfold tot;omega
   rw[this];refine sm_congr λt _=>?_;split
   .rfl
   .rename_i hn;have:=hi.giv x t;have:¬0<σ.giv x t:=λh=>hn (h3 t h);omega
  .rename_i hs;refine sm_zero λt _=>?_;split
   .rename_i hc;have:=hi.giv x t;have:¬0<σ.giv x t:=λh=>hs (hc x (hi.can x t h).1 (hi.can x t h).2.1);omega
   .rfl
 have e2:sm 8 (λt=>if closed nv σ'.seen t then needs t else 0)<=sm 8 (λx=>if σ'.seen x=true then has x else 0):=by
  have a:sm 8 (λt=>if closed nv σ'.seen t then needs t else 0)=sm 8 λt=>sm 8 λx=>if closed nv σ'.seen t then f x t else 0:=sm_congr λt ht=>by
   split
   .exact(w.need t ht).symm
   .exact(sm_zero λ_ _=>rfl).symm
  rw[a,sm_swap];refine sm_le λx hx=>?_;split
  .refine nt (sm_le (g:=f x) λt _=>?_) (w.has x hx);have:=w.lo x t;split<;>omega
  .rename_i hs;refine Int.le_of_eq (sm_zero λt _=>?_);split
   .rename_i hc;have:=w.lo x t;have:¬0<f x t:=λh=>hs (hc x (w.can x t h).1 (w.can x t h).2);omega
   .rfl
 have e3:sm 8 (λt=>if closed nv σ'.seen t then rcv σ t else 0)<sm 8 (λt=>if closed nv σ'.seen t then needs t else 0):=by
  refine sm_lt (λt ht=>?_) ht ?_
  .have:=hr t ht;split<;>omega
  .simp only[gc,if_true];exact hlt
 omega
theorem yd{nv:Nat->Nat->Bool}{has needs:Nat->Int}{f:Nat->Nat->Int}(w:Way nv has needs f){to:Nat}(ht:to<8):∀(k:Nat) (need:Int) (σ:St),need.toNat<=k->0<=need->Inv nv σ->(∀x,x<8->tot σ x=has x)->(∀t,t<8->rcv σ t<=needs t) ->
  rcv σ to=needs to-need->(fill nv k to need σ).1=0/\Inv nv (fill nv k to need σ).2/\(∀x,x<8->tot (fill nv k to need σ).2 x=has x)/\(∀t,t<8->rcv (fill nv k to need σ).2 t=if t=to then needs to else rcv σ t)
 |0,need,σ,hk,hn,hi,h0,hr,he=>by
  refine⟨rfl,hi,h0,λt _=>?_⟩;show rcv σ t=_;split
  .rename_i h;subst h;omega
  .rfl
 |k+1,need,σ,hk,hn,hi,h0,hr,he=>by
  unfold fill;split
  .refine⟨rfl,hi,h0,λt _=>?_⟩;show rcv σ t=_;split
   .rename_i h;subst h;omega
   .rfl
  .rename_i hpos;obtain⟨g,gc⟩:=tx nv 9 to need (fresh σ) ht (sO σ) (by omega) ⟨hi.has,hi.giv,hi.can⟩
   cases hf:jt nv 9 to need (fresh σ) with
   |mk n σ'=>
   rw[hf]at g gc;dsimp only at g gc |-;split
   .rename_i hz;subst hz;exact(stuck_not w ht hi h0 hr (by omega) g (gc rfl)).elim
   .rename_i hz;have h1:=g.lo;have h2:=g.hi;have hrc:∀t,rcv σ' t=rcv σ t+if t=to then n else 0:=λt=>g.rcv t
    obtain⟨k1,k2,k3,k4⟩:=yd w ht k (need-n) σ' (by omega) (by omega) g.inv (λx hx=>(g.tot x hx).trans (h0 x hx)) (λt h8=>by
     rw[hrc];have:=hr t h8;split
     .rename_i h;subst h;omega
     .omega) (by rw[hrc];simp;omega)
    refine⟨k1,k2,k3,λt h8=>?_⟩;rw[k4 t h8,hrc];split
    .rfl
    .omega
theorem tL{nv:Nat->Nat->Bool}{has needs:Nat->Int}{f:Nat->Nat->Int}(w:Way nv has needs f)(hn:∀t,0<=needs t):∀(ts:List Nat) (σ:St),ts.Nodup->(∀t∈ts,t<8)->Inv nv σ->(∀x,x<8->tot σ x=has x)->(∀t,t<8->rcv σ t=if t∈ts then 0 else needs t) ->
  (nD nv needs ts σ).1=0
 |[],_,_,_,_,_,_=>rfl
 |t::ts,σ,hd,h8,hi,h0,hr=>by
  have t8:=h8 t List.mem_cons_self;have hnt:=hn t;obtain⟨hd1,hd2⟩:=qg.1 hd;obtain⟨k1,k2,k3,k4⟩:=yd w t8 (needs t).toNat (needs t) σ (aJ _) hnt hi h0 (λu hu=>by
   rw[hr u hu];have:=hn u
   split<;>omega) (by rw[hr t t8];simp)
  have:=tL w hn ts _ hd2 (λu hu=>h8 u (eU _ hu)) k2 k3 λu hu=>by
   rw[k4 u hu,hr u hu];by_cases h:u=t
   .subst h;simp[hd1]
   .simp[h]
  show _+_=(0:Int)
  rw[k1,this];rfl
theorem DV{nv:Nat->Nat->Bool}{has needs:Nat->Int}{f:Nat->Nat->Int}(w:Way nv has needs f)(hh:∀x,0<=has x)(hn:∀t,0<=needs t):short nv has needs=0:=by
 refine tL w hn _ _ List.nodup_range (λt ht=>bX.1 ht) ⟨hh,λ_ _=>dF _,λ_ _ h=>absurd h (by simp)⟩ (λx _=>?_) λt ht=>?_
 .show has x+sm 8 (λ_=>0)=has x;rw[sm_zero λ_ _=>rfl];omega
 .show sm 8 (λ_=>(0:Int))=_;rw[sm_zero λ_ _=>rfl];simp[ht]
structure Pb where
 has:Nat->Int
 needs:Nat->Int
 nv:Nat->Nat->Bool
def adj (n:Nat) (p:Pb) (ex:Nat->Nat->Prop) (S:Nat->Prop) (i:Nat):Prop:=∃k,k<n/\S k/\0<p.needs k/\i<k/\p.nv i k=false/\¬ex i k
def noEx:Nat->Nat->Prop:=λ_ _=>False
def isEx (a b:Nat):Nat->Nat->Prop:=λi k=>i=a/\k=b
open Classical in
noncomputable def nb (n:Nat) (p:Pb) (ex:Nat->Nat->Prop) (S:Nat->Prop):Int:=sm n λi=>if adj n p ex S i then p.has i else 0
open Classical in
noncomputable def nd (n:Nat) (p:Pb) (S:Nat->Prop):Int:=sm n λk=>if S k then p.needs k else 0
structure Hall (n:Nat) (p:Pb):Prop where
 has:∀i,0<=p.has i
 needs:∀k,0<=p.needs k
 hall:∀S,nd n p S<=nb n p noEx S
def take (p:Pb) (a b:Nat) (d:Int):Pb where
 has:=λi=>if i=a then p.has i-d else p.has i
 needs:=λk=>if k=b then p.needs k-d else p.needs k
 nv:=λi k=>p.nv i k||(i==a&&k==b)
structure Between (n:Nat) (p:Pb) (a b:Nat) (d:Int):Prop where
 zero:0<=d
 has:d<=p.has a
 needs:d<=p.needs b
 low:∀S,S b->¬adj n p (isEx a b) S a->nd n p S-nb n p (isEx a b) S<=d
 high:∀S,¬S b->adj n p (isEx a b) S a->d<=nb n p (isEx a b) S-nd n p S
open Classical in
theorem hall_take{n:Nat}{p:Pb}{a b:Nat}{d:Int}(h:Hall n p)(hab:a<b)(hb:b<n)(w:Between n p a b d):Hall n (take p a b d):=by
 have han:a<n:=by omega
 refine⟨λi=>?_,λk=>?_,?_⟩
 .show 0<=if i=a then p.has i-d else p.has i
  have:=h.has i;have:=w.has;split
  .rename_i e;subst e;omega
  .omega
 .show 0<=if k=b then p.needs k-d else p.needs k
  have:=h.needs k;have:=w.needs;split
  .rename_i e;subst e;omega
  .omega
 have nd_out:∀S:Nat->Prop,¬S b->nd n (take p a b d) S=nd n p S:=λS hS=>sm_congr λk _=>by
  show (if S k then(if k=b then p.needs k-d else p.needs k) else 0)=_;by_cases hk:k=b
  .subst hk;simp[hS]
  .simp[hk]
 have nd_in:∀S:Nat->Prop,S b->nd n (take p a b d) S=nd n p S-d:=λS hS=>by
  unfold nd;rw[sm_upd (f:=λk=>if S k then p.needs k else 0) (g:=λk=>if S k then(take p a b d).needs k else 0) hb λk _ hk=>by
   show (if S k then(if k=b then p.needs k-d else p.needs k) else 0)=_
   simp[hk]]
  show _+((if S b then(if b=b then p.needs b-d else p.needs b) else 0)-if S b then p.needs b else 0)=_;simp only[hS,if_true];omega
 have nb_of:∀S:Nat->Prop,(∀i,adj n (take p a b d) noEx S i↔adj n p (isEx a b) S i)->nb n (take p a b d) noEx S=nb n p (isEx a b) S-if adj n p (isEx a b) S a then d else 0:=λS hS=>by
  unfold nb;rw[sm_upd (f:=λi=>if adj n p (isEx a b) S i then p.has i else 0) (g:=λi=>if adj n (take p a b d) noEx S i then(take p a b d).has i else 0) han λi _ hi=>by
   show (if adj n (take p a b d) noEx S i then(if i=a then p.has i-d else p.has i) else 0)=_
   simp[hi,hS]]
  show _+((if adj n (take p a b d) noEx S a then(if a=a then p.has a-d else p.has a) else 0)-if adj n p (isEx a b) S a then p.has a else 0)=_;by_cases hA:adj n p (isEx a b) S a<;>simp[hS,hA];omega
 have adj_out:∀S:Nat->Prop,(S b->0<p.needs b-d)->∀i,adj n (take p a b d) noEx S i↔adj n p (isEx a b) S i:=λS hS i=>by
  constructor
  .rintro⟨k,h1,h2,h3,h4,h5,-⟩
   have h5':p.nv i k=false/\¬(i=a/\k=b):=by
    have:(p.nv i k||(i==a&&k==b))=false:=h5;simp at this;exact⟨this.1,λe=>this.2 e.1 e.2⟩
   refine⟨k,h1,h2,?_,h4,h5'.1,h5'.2⟩;have h3':0<if k=b then p.needs k-d else p.needs k:=h3
   have:=w.zero;split at h3'<;>omega
  .rintro⟨k,h1,h2,h3,h4,h5,h6⟩
   refine⟨k,h1,h2,?_,h4,?_,id⟩
   .show 0<if k=b then p.needs k-d else p.needs k
    split
    .rename_i e;subst e;exact hS h2
    .exact h3
   .show (p.nv i k||(i==a&&k==b))=false;have h6':¬(i=a/\k=b):=h6;simp[h5];intro e1 e2;exact h6' ⟨e1,e2⟩
 have out:∀S:Nat->Prop,¬S b->nd n (take p a b d) S<=nb n (take p a b d) noEx S:=λS hS=>by
  rw[nd_out S hS,nb_of S (adj_out S λe=>absurd e hS)];split
  .rename_i hA;have:=w.high S hS hA;omega
  .have hh:=h.hall S;have:nb n p noEx S=nb n p (isEx a b) S:=sm_congr λi _=>by
    have:adj n p noEx S i↔adj n p (isEx a b) S i:=⟨λ⟨k,h1,h2,h3,h4,h5,_⟩=>⟨k,h1,h2,h3,h4,h5,λe=>hS (e.2▸h2)⟩,λ⟨k,h1,h2,h3,h4,h5,_⟩=>⟨k,h1,h2,h3,h4,h5,id⟩⟩
    simp only[this]
   omega
 intro S;by_cases hSb:S b;rotate_left
 .exact out S hSb
 by_cases hz:0<p.needs b-d
 .rw[nd_in S hSb,nb_of S (adj_out S λ_=>hz)];split
  .rename_i hA;have hh:=h.hall S;have:nb n p noEx S<=nb n p (isEx a b) S:=sm_le λi _=>by
    have:=h.has i;by_cases h1:adj n p noEx S i
    .obtain⟨k,k1,k2,k3,k4,k5,_⟩:=h1;have:adj n p (isEx a b) S i:=by
      by_cases hia:i=a
      .subst hia;exact hA
      .exact⟨k,k1,k2,k3,k4,k5,λe=>hia e.1⟩
     simp only[this,if_true];split<;>omega
    .simp only[h1,if_false];split<;>omega
   omega
  .rename_i hA;have:=w.low S hSb hA;omega
 .
  have h0:p.needs b-d=0:=by have:=w.needs;omega
  have o:=out (λk=>S k/\k≠b) λe=>e.2 rfl;have e1:nd n (take p a b d) S=nd n (take p a b d) λk=>S k/\k≠b:=sm_congr λk _=>by
   by_cases hk:k=b
   .subst hk;have:(take p a k d).needs k=0:=by show (if k=k then p.needs k-d else p.needs k)=0;simp[h0]
    simp[this]
   .simp[hk]
  have e2:nb n (take p a b d) noEx S=nb n (take p a b d) noEx λk=>S k/\k≠b:=sm_congr λi _=>by
   have:adj n (take p a b d) noEx S i↔adj n (take p a b d) noEx (λk=>S k/\k≠b) i:=by
    constructor
    .rintro⟨k,h1,h2,h3,h4,h5,h6⟩
     refine⟨k,h1,⟨h2,?_⟩,h3,h4,h5,h6⟩
     rintro rfl
     have h3':0<if k=k then p.needs k-d else p.needs k:=h3
     simp[h0]at h3'
    .rintro⟨k,h1,h2,h3,h4,h5,h6⟩
     exact⟨k,h1,h2.1,h3,h4,h5,h6⟩
   simp only[this]
  rw[e1,e2];exact o
structure Bounds (n:Nat) (p:Pb) (a b:Nat) (lo hi:Int):Prop where
 los:∀S,S b->¬adj n p (isEx a b) S a->nd n p S-nb n p (isEx a b) S<=lo
 lo0:0<=lo
 loAt:lo=0\/∃S,S b/\¬adj n p (isEx a b) S a/\lo=nd n p S-nb n p (isEx a b) S
 his:∀S,¬S b->adj n p (isEx a b) S a->hi<=nb n p (isEx a b) S-nd n p S
 hiHas:hi<=p.has a
 hiNeeds:hi<=p.needs b
 hiAt:hi=p.has a\/hi=p.needs b\/∃S,¬S b/\adj n p (isEx a b) S a/\hi=nb n p (isEx a b) S-nd n p S
open Classical in
theorem bounds_le{n:Nat}{p:Pb}{a b:Nat}{lo hi:Int}(h:Hall n p)(hab:a<b)(hb:b<n)(w:Bounds n p a b lo hi):lo<=hi:=by
 have han:a<n:=by omega
 have l1:∀S:Nat->Prop,S b->¬adj n p (isEx a b) S a->nd n p S-nb n p (isEx a b) S<=p.has a:=λS hS hA=>by
  have hh:=h.hall S;have:nb n p noEx S<=nb n p (isEx a b) S+p.has a:=by
   have e:=sm_upd (n:=n) (f:=λi=>if adj n p (isEx a b) S i then p.has i else 0) (g:=λi=>if i=a then p.has a else if adj n p (isEx a b) S i then p.has i else 0) han λi _ hi=>by simp[hi]
   simp only[if_true,hA,if_false]at e;have le:nb n p noEx S<=sm n (λi=>if i=a then p.has a else if adj n p (isEx a b) S i then p.has i else 0):=sm_le λi _=>by
    have:=h.has i;by_cases hia:i=a
    .subst hia;simp only[if_true];split<;>omega
    .simp only[hia,if_false];by_cases h1:adj n p noEx S i
     .obtain⟨k,k1,k2,k3,k4,k5,_⟩:=h1;have:adj n p (isEx a b) S i:=⟨k,k1,k2,k3,k4,k5,λe=>hia e.1⟩
      simp only[this,if_true];split<;>omega
     .simp only[h1,if_false];split<;>omega
   unfold nb at *
   omega
  omega
 have l2:∀S:Nat->Prop,S b->nd n p S-nb n p (isEx a b) S<=p.needs b:=λS hS=>by
  have hh:=h.hall λk=>S k/\k≠b;have e1:nd n p S=nd n p (λk=>S k/\k≠b)+p.needs b:=by
   unfold nd;rw[sm_upd (f:=λk=>if S k/\k≠b then p.needs k else 0) (g:=λk=>if S k then p.needs k else 0) hb λk _ hk=>by simp[hk]];simp[hS];exact sm_congr λk _=>by by_cases hk:S k/\¬k=b<;>simp[hk]
  have e2:nb n p noEx (λk=>S k/\k≠b)<=nb n p (isEx a b) S:=sm_le λi _=>by
   have:=h.has i;by_cases h1:adj n p noEx (λk=>S k/\k≠b) i
   .obtain⟨k,k1,k2,k3,k4,k5,_⟩:=h1;have:adj n p (isEx a b) S i:=⟨k,k1,k2.1,k3,k4,k5,λe=>k2.2 e.2⟩
    simp only[this,if_true];split<;>omega
   .simp only[h1,if_false];split<;>omega
  omega
 have u0:∀S:Nat->Prop,¬S b->0<=nb n p (isEx a b) S-nd n p S:=λS hS=>by
  have hh:=h.hall S;have:nb n p noEx S<=nb n p (isEx a b) S:=sm_le λi _=>by
   have:=h.has i;by_cases h1:adj n p noEx S i
   .obtain⟨k,k1,k2,k3,k4,k5,_⟩:=h1;have:adj n p (isEx a b) S i:=⟨k,k1,k2,k3,k4,k5,λe=>hS (e.2▸k2)⟩
    simp only[this,if_true];split<;>omega
   .simp only[h1,if_false];split<;>omega
  omega
 have x12:∀S R:Nat->Prop,S b->¬adj n p (isEx a b) S a->¬R b->adj n p (isEx a b) R a->nd n p S-nb n p (isEx a b) S<=nb n p (isEx a b) R-nd n p R:=λS R hS hA hR hAR=>by
  have h1:=h.hall λk=>S k\/R k;have h2:=h.hall λk=>S k/\R k;have e1:nd n p (λk=>S k\/R k)+nd n p (λk=>S k/\R k)=nd n p S+nd n p R:=by
   unfold nd;rw[<-sm_add,<-sm_add];refine sm_congr λk _=>?_;by_cases a:S k<;>by_cases b:R k<;>simp[a,b]
  have e2:nb n p noEx (λk=>S k\/R k)+nb n p noEx (λk=>S k/\R k)<=nb n p (isEx a b) S+nb n p (isEx a b) R:=by
   unfold nb;rw[<-sm_add,<-sm_add];refine sm_le λi _=>?_;have hpos:=h.has i;by_cases hia:i=a
   .subst hia;have no:¬adj n p noEx (λk=>S k/\R k) i:=by
     rintro⟨k,k1,k2,k3,k4,k5,_⟩
     exact hA ⟨k,k1,k2.1,k3,k4,k5,λe=>hR (e.2▸k2.2)⟩
    simp only[no,hA,hAR,if_true,if_false];split<;>omega
   .have toS:∀k,S k->k<n->0<p.needs k->i<k->p.nv i k=false->adj n p (isEx a b) S i:=λk k2 k1 k3 k4 k5=>⟨k,k1,k2,k3,k4,k5,λe=>hia e.1⟩
    have toR:∀k,R k->k<n->0<p.needs k->i<k->p.nv i k=false->adj n p (isEx a b) R i:=λk k2 k1 k3 k4 k5=>⟨k,k1,k2,k3,k4,k5,λe=>hia e.1⟩
    by_cases q1:adj n p (isEx a b) S i
    .by_cases q2:adj n p (isEx a b) R i
     .simp only[q1,q2,if_true];split<;>split<;>omega
     .have no:¬adj n p noEx (λk=>S k/\R k) i:=λ⟨k,k1,k2,k3,k4,k5,_⟩=>q2 (toR k k2.2 k1 k3 k4 k5);simp only[q1,q2,no,if_true,if_false];split<;>omega
    .have no:¬adj n p noEx (λk=>S k/\R k) i:=λ⟨k,k1,k2,k3,k4,k5,_⟩=>q1 (toS k k2.1 k1 k3 k4 k5);by_cases q2:adj n p (isEx a b) R i
     .simp only[q1,q2,no,if_true,if_false];split<;>omega
     .have no2:¬adj n p noEx (λk=>S k\/R k) i:=λ⟨k,k1,k2,k3,k4,k5,_⟩=>k2.elim (λe=>q1 (toS k e k1 k3 k4 k5)) λe=>q2 (toR k e k1 k3 k4 k5);simp only[q1,q2,no,no2,if_false];omega
  omega
 have hp:=h.has a;have hn:=h.needs b;rcases w.loAt with e|⟨S,s1,s2,e⟩
 .rcases w.hiAt with e2|e2|⟨R,r1,r2,e2⟩
  .omega
  .omega
  .have:=u0 R r1;omega
 .rcases w.hiAt with e2|e2|⟨R,r1,r2,e2⟩
  .have:=l1 S s1 s2;omega
  .have:=l2 S s1;omega
  .have:=x12 S R s1 s2 r1 r2;omega
theorem mX{n:Nat}{p:Pb}{a b:Nat}{lo hi d:Int}(w:Bounds n p a b lo hi)(h1:lo<=d)(h2:d<=hi):Between n p a b d where
 zero:=nt w.lo0 h1
 has:=nt h2 w.hiHas
 needs:=nt h2 w.hiNeeds
 low:=λS hS hA=>nt (w.los S hS hA) h1
 high:=λS hS hA=>nt h2 (w.his S hS hA)
open Classical in
theorem hall_none{n:Nat}{p:Pb}{b:Nat}(h:Hall n p)(hb:b<n)(hn:∀i,i<b->p.nv i b=true):p.needs b=0:=by
 have hh:=h.hall (·=b);have h1:=h.needs b;have e1:nd n p (·=b)=p.needs b:=by
  have:=sm_upd (f:=λ_=>0) (g:=λk=>if k=b then p.needs k else 0) hb λk _ hk=>by simp[hk]
  rw[sm_zero λ_ _=>rfl]at this;simp at this;unfold nd;refine Eq.trans (sm_congr λk _=>?_) this;by_cases hk:k=b<;>simp[hk]
 have e2:nb n p noEx (·=b)=0:=sm_zero λi _=>by
  have:¬adj n p noEx (·=b) i:=by
   rintro⟨k,k1,k2,k3,k4,k5,_⟩
   subst k2;rw[hn i k4]at k5;cases k5
  simp[this]
 omega
end Tr
end Abs
end Go.Proofs.YtmndpldajflenaaGreatDoor
