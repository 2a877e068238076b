/- CONTRACTS of the program's functions, and laws on what they return. No conditions but those in the theorems' heads. -/
import Derived.Test.YtmndpldajflenaaGreatDoorLibGoX
set_option linter.all false
set_option maxHeartbeats 2000000
open Go.Proofs.Tryz renaming prog->TP
open Go.Proofs.Tryz
namespace Go.Proofs.YtmndpldajflenaaGreatDoor
namespace Abs
namespace Cl
set_option maxRecDepth 4000
theorem SR(n lo hi):af TP 170 [.int .i64 n,.int .i64 lo,.int .i64 hi] (.bool (ak n lo hi)):=by
 refine aa (ag func170 rfl) rfl ?_;simp only[go_sem,simprocAttr];refine aK (λa=>?_) (λa=>?_)<;>simp only[a,go_sem,simprocAttr]<;>simp[ak,a]
theorem zk(lo hi n):af TP 329 [.int .i64 n,.ptr 1 [.int .i64 lo] 0 0,.ptr 1 [.int .i64 hi] 0 0] (.bool (!ak n lo hi)):=by
 refine aa (ag func329 rfl) rfl ?_;simp only[go_sem,simprocAttr];refine aK (λa=>?_) (λa=>?_)<;>simp only[a,go_sem,simprocAttr]<;>simp_all [ak];rw[<-decide_not];congr 1;simp
theorem e6(lo hi)(l:List Int)(b)(a:l.length<1000000000):af TP 268 [.int .i64 lo,.int .i64 hi,.slice 1 (l.map aI) b] (.bool (l.any λn=>!ak n lo hi)):=by
 refine aa (ag func268 rfl) rfl ?_;simp only[go_sem,simprocAttr];refine aU (jC (fv:=.func (.func 329) [] [.ptr 1 [.int .i64 lo] 0 0,.ptr 1 [.int .i64 hi] 0 0]) l (λn=>!ak n lo hi) b 1 rfl a λn _=>⟨_,_,_,rfl,zk lo hi n⟩) ?_ (.bool _) ?_
 .simp only[go_sem,simprocAttr]
 .simp only[go_sem,simprocAttr]
def fM (many:Nat) (c:ClColour):Int:=
 if c.shows.length=many then(if(c.shows.any λn=>!ak n 0 1000)=true then 7 else dg c.stay.lo c.stay.hi 0 1000) else 3
def dX (many:Nat) (before:List ByteArray) (c:ClColour):Int:=if ai before c.name=0 then fM many c else ai before c.name
def eA (s:ClShop):Int:=if ak s.colours.length 1 6=true then(if ak s.rinse 0 10000=true then dg s.keep.lo s.keep.hi 0 1000 else 7) else 3
def clCheck (s:ClShop):Int×Int×Int:=
 if eA s=0 then(match firstErr (dX s.colours.length) (·.name) s.colours []with|some (i,e)=>(2,i,e)|none=>(0,0,0)) else(1,0,eA s)
theorem Lv{s}{a r}{x}(o:eA s=0)(q:firstErr (dX s.colours.length) (·.name) s.colours []=firstErr (dX s.colours.length) (·.name) (x::r) (a.map (·.name))) :
  (dX s.colours.length (a.map (·.name)) x=0->firstErr (dX s.colours.length) (·.name) s.colours []=firstErr (dX s.colours.length) (·.name) r ((a++[x]).map (·.name))) /\
  ∀e,dX s.colours.length (a.map (·.name)) x=e->e≠0->clCheck s=(2,(a.length:Int),e):=by
 have j:firstErr (dX s.colours.length) (·.name) s.colours []=if dX s.colours.length (a.map (·.name)) x=0 then firstErr (dX s.colours.length) (·.name) r ((a++[x]).map (·.name)) else some ((a.length:Int),dX s.colours.length (a.map (·.name)) x):=by
  rw[q,firstErr];simp
 exact⟨λh=>by rw[j,if_pos h],λe l i=>by rw[clCheck,if_pos o,j,l,if_neg i]⟩
theorem UF(s)(b c d)(x:ClColour):af TP 270 [x.pv,.ptr 4 [.agg [.str s,b,c,d]] 0 0] (.bool (x.name==s)):=by
 refine aa (ag func270 rfl) rfl ?_;simp only[go_sem,simprocAttr]
theorem o3(s):af TP 197 [s.pv] (ah (clCheck s)):=by
 refine aa (ag func197 rfl) rfl ?_;simp only[go_sem,simprocAttr];refine ae (e6 1 6 [_] true (by simp)) rfl ?_;simp only[bJ,cb,cn,go_sem,simprocAttr];cases o:ak s.colours.length 1 6
 .have hh:eA s=3:=by rw[eA,o];rfl
  simp only[ah,clCheck,hh,go_sem,simprocAttr]
 simp only[go_sem,simprocAttr];refine ae (e6 0 10000 [_] true (by simp)) rfl ?_;simp only[bJ,cb,cn,go_sem,simprocAttr];cases N:ak s.rinse 0 10000
 .have hh:eA s=7:=by rw[eA,o,N];rfl
  simp only[ah,clCheck,hh,go_sem,simprocAttr]
 simp only[go_sem,simprocAttr];refine ae (e6 0 1000 [_,_] true (by simp)) rfl ?_;simp only[bJ,cb,cn,<-ko,go_sem,simprocAttr];have hh:eA s=dg s.keep.lo s.keep.hi 0 1000:=by rw[eA,o,N];rfl
 unfold dg at hh;cases M:(ak s.keep.lo 0 1000&&ak s.keep.hi 0 1000)
 .rw[if_neg (by rw[<-dQ,M];decide)]at hh;simp only[ah,clCheck,hh,go_sem,simprocAttr]
 rw[if_pos (by rw[<-dQ,M])]at hh;simp only[go_sem,simprocAttr];cases L:decide (s.keep.hi<s.keep.lo);rotate_left
 .rw[if_pos (by simpa using L)]at hh;simp only[ah,clCheck,hh,go_sem,simprocAttr]
 rw[if_neg (by simpa using L)]at hh;have R:s.colours.length<=6:=by simp[ak]at o;omega
 simp only[go_sem,simprocAttr]
 refine bg [1,37,38] s.colours (by omega) (τ:=Unit) (λa rest _=>firstErr (dX s.colours.length) (·.name) s.colours []=firstErr (dX s.colours.length) (·.name) rest (a.map (·.name)))
  (λa _=>[(39,.p (.int .i64 a.length)),(4,.p (.int .i64 0))]) (λ_ _=>[.row 4 [.p s.pv]]) () rfl ?_ ?_ ?_
 .simp only[go_sem,simprocAttr]<;>simp
 .intro _ u;have:clCheck s=(0,0,0):=by rw[clCheck,if_pos hh,u];rfl
  simp only[ah,this,go_sem,simprocAttr]
 .intro a x r _ v u hx C A;obtain⟨O,e⟩:=Lv hh u;have D:((a.length:Nat):Int)<=(s.colours.length:Int):=by omega
  have z:(s.colours.map ClColour.pv).take a.length=a.map ClColour.pv:=by
   rw[v,bD,fa (by simp)]
  have S:a.length<1000000:=by have:=congrArg List.length v;simp at this;omega
  have E:(a.length==s.colours.length)=false:=by simp;omega
  simp only[C,hx,go_sem,simprocAttr];refine ae (jh x.name) rfl ?_;simp only[go_sem,simprocAttr];cases q:nameOk x.name
  .have l:ai (a.map (·.name)) x.name=6:=by simp[ai,q]
   simp only[ah,e 6 (by rw[dX,l];rfl) (by decide),go_sem,simprocAttr]
  simp only[D,z,E,go_sem,simprocAttr];refine aU (AG (fv:=.func (.func 270) [] [.ptr 4 [x.pv] 0 0]) a (λy=>y.name==x.name) false 4 rfl (by omega) λy _=>⟨_,_,_,rfl,UF x.name _ _ _ y⟩) ?_ (.bool _) ?_
  .simp only[go_sem,simprocAttr]
  simp only[go_sem,simprocAttr];cases K:(a.any λy=>y.name==x.name)
  rotate_left
  .have l:ai (a.map (·.name)) x.name=5:=by simp only[ai,q,l5,js,K,if_true]
   simp only[ah,e 5 (by rw[dX,l];rfl) (by decide),go_sem,simprocAttr]
  have l:ai (a.map (·.name)) x.name=0:=by simp only[ai,q,l5,js,K,if_true,eG,if_false]
  have i:dX s.colours.length (a.map (·.name)) x=fM s.colours.length x:=by rw[dX,if_pos l]
  simp only[go_sem,simprocAttr];cases J:((x.shows.length:Int) != (s.colours.length:Int))
  rotate_left
  .have j:¬x.shows.length=s.colours.length:=by simp at J;omega
   simp only[ah,e 3 (by rw[i,fM,if_neg j]) (by decide),go_sem,simprocAttr]
  have j:x.shows.length=s.colours.length:=by simp at J;omega
  simp only[go_sem,simprocAttr];refine ae (e6 0 1000 x.shows false (by omega)) rfl ?_;simp only[go_sem,simprocAttr];cases I:(x.shows.any λn=>!ak n 0 1000)
  rotate_left
  .simp only[ah,e 7 (by rw[i,fM,if_pos j,I];rfl) (by decide),go_sem,simprocAttr]
  simp only[go_sem,simprocAttr];refine ae (e6 0 1000 [_,_] true (by simp)) rfl ?_;simp only[bJ,cb,cn,<-ko,go_sem,simprocAttr];rw[fM,if_pos j,I,if_neg (by decide)]at i;unfold dg at i;cases G:(ak x.stay.lo 0 1000&&ak x.stay.hi 0 1000)
  .rw[if_neg (by rw[<-dQ,G];decide)]at i;simp only[ah,e 7 i (by decide),go_sem,simprocAttr]
  rw[if_pos (by rw[<-dQ,G])]at i;simp only[go_sem,simprocAttr];cases F:decide (x.stay.hi<x.stay.lo);rotate_left
  .rw[if_pos (by simpa using F)]at i;simp only[ah,e 2 i (by decide),go_sem,simprocAttr]
  rw[if_neg (by simpa using F)]at i;simp only[go_sem,simprocAttr];refine aD v () (O i) ?_;simp only[A,go_sem,simprocAttr]
theorem SN(c)(a:Nat)(v:a<1000000000):af TP 171 [c.pv,.int .i64 a] (.int .i64 (fM a c)):=by
 refine aa (ag func171 rfl) rfl ?_;simp only[go_sem,simprocAttr];cases q:((c.shows.length:Int) != (a:Int))
 rotate_left
 .have j:¬c.shows.length=a:=by simp at q;omega
  simp only[fM,if_neg j,go_sem,simprocAttr]
 have j:c.shows.length=a:=by simp at q;omega
 subst j;have y:fM c.shows.length c=if(c.shows.any λn=>!ak n 0 1000)=true then 7 else dg c.stay.lo c.stay.hi 0 1000:=by rw[fM,if_pos rfl]
 rw[y];simp only[go_sem,simprocAttr];refine bg [1,2] c.shows v (τ:=Unit) (λe rest _=>(c.shows.any λn=>!ak n 0 1000)=(rest.any λn=>!ak n 0 1000)) (λe _=>[(5,.p (.int .i64 e.length))]) (λ_ _=>[.row 4 [.p c.pv]]) () rfl ?_ ?_ ?_
 .simp only[go_sem,simprocAttr]<;>simp
 .intro _ i;rw[cb]at i;rw[i,if_neg (by decide)];simp only[go_sem,simprocAttr];refine ae (ox _ _ _ _) rfl ?_;simp only[go_sem,simprocAttr]
 .intro e n r _ z i hx o l;rw[bJ]at i;simp only[o,hx,go_sem,simprocAttr];refine ae (SR _ _ _) rfl ?_;simp only[go_sem,simprocAttr];cases u:ak n 0 1000
  .rw[u,wR,sC]at i;rw[i,if_pos rfl];simp only[go_sem,simprocAttr]
  .rw[u,Bool.not_true,l6]at i;simp only[go_sem,simprocAttr];refine aD z () i ?_;simp only[l,go_sem,simprocAttr]
theorem o2(s):af TP 131 [s.pv] (ah (clCheck s)):=by
 refine aa (ag func131 rfl) rfl ?_;simp only[go_sem,simprocAttr];refine ae (SR _ _ _) rfl ?_;simp only[go_sem,simprocAttr];cases q:ak s.colours.length 1 6
 .have hh:eA s=3:=by rw[eA,q];rfl
  simp only[ah,clCheck,hh,go_sem,simprocAttr]
 simp only[go_sem,simprocAttr];refine ae (ox _ _ _ _) rfl ?_;simp only[go_sem,simprocAttr];refine ae (SR _ _ _) rfl ?_;simp only[go_sem,simprocAttr];cases F:ak s.rinse 0 10000
 .have hh:eA s=7:=by rw[eA,q,F];rfl
  simp only[ah,clCheck,hh,go_sem,simprocAttr]
 have hh:eA s=dg s.keep.lo s.keep.hi 0 1000:=by rw[eA,q,F];rfl
 simp only[go_sem,simprocAttr];rw[<-hh];cases E:(eA s != 0)
 rotate_left
 .have i:¬eA s=0:=by simpa using E
  simp only[ah,clCheck,if_neg i,go_sem,simprocAttr]
 have i:eA s=0:=by simpa using E
 have J:s.colours.length<=6:=by simp[ak]at q;omega
 simp only[go_sem,simprocAttr];refine cp 6 1 (by simp only[go_sem,simprocAttr]) ?_;simp only[go_sem,simprocAttr]
 refine bg [1] s.colours (by omega) (τ:=Unit) (λa rest _=>firstErr (dX s.colours.length) (·.name) s.colours []=firstErr (dX s.colours.length) (·.name) rest (a.map (·.name)))
  (λa _=>[(6,.slice 1 a.length 0 a.length),(7,.p (.int .i64 a.length))]) (λa _=>[.row 4 [.p s.pv],.row 1 (a.map λx=>.p (.str x.name))]) () rfl ?_ ?_ ?_
 .simp only[go_sem,simprocAttr]<;>simp
 .intro _ v;have:clCheck s=(0,0,0):=by rw[clCheck,if_pos i,v];rfl
  simp only[ah,this,go_sem,simprocAttr]
 .intro a x r _ G v hx j z;obtain⟨I,o⟩:=Lv i v;have K:a.length<s.colours.length:=by have:=congrArg List.length G;simp at this;omega
  have y:a.length+1<=ao:=by simp[ao];omega
  simp only[j,hx,go_sem,simprocAttr];refine aU (i8 x.name (a.map (·.name)) false (a.map λx=>.str x.name) (by simp) (by simp;omega)) ?_ (.int _ _) ?_
  .simp only[go_sem,simprocAttr]
  simp only[y,j,hx,go_sem,simprocAttr];cases u:(ai (a.map (·.name)) x.name==0)
  .have e:ai (a.map (·.name)) x.name≠0:=by simpa using u
   have A:(ai (a.map (·.name)) x.name != 0)=true:=by simp[bne,u]
   simp only[A,ah,o _ (by rw[dX,if_neg e]) e,go_sem,simprocAttr]
  have e:ai (a.map (·.name)) x.name=0:=by simpa using u
  have C:dX s.colours.length (a.map (·.name)) x=fM s.colours.length x:=by rw[dX,if_pos e]
  simp only[hx,j,go_sem,simprocAttr]
  (first|refine ae (SN x s.colours.length (by omega)) rfl ?_|refine ax (SN x s.colours.length (by omega)) rfl ?_)
  simp only[go_sem,simprocAttr];cases D:(fM s.colours.length x != 0)
  rotate_left
  .have l:fM s.colours.length x≠0:=by simpa using D
   simp only[ah,o _ C l,go_sem,simprocAttr]
  have l:fM s.colours.length x=0:=by simpa using D
  simp only[go_sem,simprocAttr];refine aD G () (I (C.trans l)) ?_;simp only[z,go_sem,simprocAttr];all_goals simp
theorem vO(b)(e)(h):ar TP 406 [.p (.bool b),.p (.int .i64 e)] h (λr h'=>h'=h/\r=if b=true then .ret (.p (.tuple [])) else .panic (.iface 32 (.int .i64 e))):=by
 refine au (ag func406 rfl) rfl ?_;simp only[go_sem,simprocAttr];cases b
 .simp only[go_sem,simprocAttr]
 .simp only[go_sem,simprocAttr]
theorem an{H}{Q}{ops}{rest}{dst}{A}{b}{e}(j:b=true->@WO ⟨TP,H,ops,rest,Q⟩ (A.put dst (.p (.tuple [])) A.h))
  (i:b=false->@WQ ⟨Q⟩ (.panic (.iface 32 (.int .i64 e))) A):@WF ⟨TP,H,ops,rest,Q,dst⟩ A 406 [.p (.bool b),.p (.int .i64 e)]:=by
 refine cj (vO b e A.h) (λv h a=>?_) (λv h a=>?_)
 .obtain⟨rfl,a⟩:=a;cases b
  .cases a
  .cases a;exact j rfl
 .obtain⟨rfl,a⟩:=a;cases b
  .cases a;exact i rfl
  .cases a
theorem Oo{H}{Q}{ops}{rest}{o}{i}{A}{e}(h:∀T,@WQ ⟨Q⟩ (.panic (.iface 32 (.int .i64 e))) { A with tmps:=T }) :
  @L' ⟨TP,H,ops,rest,Q,o⟩ i A (.call 406 [.p (.bool false),.p (.int .i64 e)]):=by
 refine .inr ⟨_,(vO false e A.h).mono λr h' a=>?_,h⟩;exact⟨a.2,a.1⟩
def eJ (s:ClShop) (b:ClBatch):Int:=if ak b.colour 0 ((s.colours.length:Int)-1)=true then(if ak b.grams 1 100000=true then 0 else 7) else 4
def fg (s:ClShop):List ClBatch->Int
 |[]=>0
 |b::l=>if eJ s b=0 then fg s l else eJ s b
def r0 (s:ClShop) (l:List ClBatch):Int:=if l.length<=7 then fg s l else 3
def dG (s:ClShop) (start:Int) (l:List ClBatch):Int:=
 if(clCheck s).2.2=0 then(if ak start 0 ((s.colours.length:Int)-1)=true then r0 s l else 4) else(clCheck s).2.2
def Bb (s:ClShop) (l:List ClBatch) (m:PV):List PV:=[.slice 4 (s.colours.map ClColour.pv) false,.int .i64 s.keep.lo,.int .i64 s.keep.hi,.int .i64 s.rinse,.slice 2 (l.map ClBatch.pv) false,m]
def Im (s:ClShop) (l:List ClBatch):PV:=.ptr 6 [.agg (Bb s l .any)] 0 0
attribute [go_sem] Bb Im
structure ShopOk (s:ClShop):Prop where
 len:1<=s.colours.length/\s.colours.length<=6
 keep:0<=s.keep.lo/\s.keep.lo<=s.keep.hi/\s.keep.hi<=1000
 rinse:0<=s.rinse/\s.rinse<=10000
 shows:∀c,c∈s.colours->c.shows.length=s.colours.length/\∀n,n∈c.shows->0<=n/\n<=1000
 stay:∀c,c∈s.colours->0<=c.stay.lo/\c.stay.lo<=c.stay.hi/\c.stay.hi<=1000
theorem eY{α}{f:List ByteArray->α->Int}{e}:∀{l} {a},firstErr f e l a=none->∀x,x∈l->∃bs,f bs x=0
 |[],_,_,x,hx=>by cases hx
 |y::l,a,h,x,hx=>by
  rw[firstErr]at h;split at h
  .rename_i i;rcases ce.1 hx with rfl|hx
   .exact⟨_,i⟩
   .exact eY h x hx
  .cases h
theorem gy{α}{f:List ByteArray->α->Int}{j}:∀{l} {a} {i e},firstErr f j l a=some (i,e)->e≠0
 |[],_,_,_,h=>by cases h
 |y::r,a,i,e,h=>by
  rw[firstErr]at h;split at h
  .exact gy h
  .rename_i o;cases h;exact o
theorem yW{a b lo hi}(h:dg a b lo hi=0):lo<=a/\a<=b/\b<=hi:=by
 unfold dg at h;split at h
 .rename_i e;simp[ak]at e;split at h
  .cases h
  .omega
 .cases h
theorem rU{s}(h:(clCheck s).2.2=0):ShopOk s:=by
 unfold clCheck at h;split at h
 .rename_i j;unfold eA at j;split at j
  .rename_i A;split at j
   .rename_i u;have z:=yW j;simp[ak]at A u;have l:∀c,c∈s.colours->fM s.colours.length c=0:=by
     intro c l;split at h
     .rename_i i e o;exact absurd h (gy o)
     .rename_i o;obtain⟨bs,q⟩:=eY o c l;unfold dX at q;split at q
      .exact q
      .contradiction
    refine⟨by omega,z,u,λc a=>?_,λc a=>?_⟩
    .have:=l c a;unfold fM at this;split at this
     .rename_i C;split at this
      .cases this
      .rename_i v;refine⟨C,λn y=>?_⟩;simp only[C3,not_exists,not_and]at v;have:=v n y;simpa[ak]using this
     .cases this
    .have:=l c a;unfold fM at this;split at this
     .split at this
      .cases this
      .exact yW this
     .cases this
   .cases j
  .cases j
 .contradiction
structure BatchOk (s:ClShop) (b:ClBatch):Prop where
 colour:0<=b.colour/\b.colour<s.colours.length
 grams:1<=b.grams/\b.grams<=100000
theorem N9{s}{b}(h:eJ s b=0):BatchOk s b:=by
 unfold eJ at h;split at h
 .rename_i e;split at h
  .rename_i a;simp[ak]at e a;exact⟨by omega,a⟩
  .cases h
 .cases h
theorem zz{s}:∀{l},fg s l=0->∀b,b∈l->BatchOk s b
 |[],_,b,a=>by cases a
 |x::l,h,b,a=>by
  rw[fg]at h;split at h
  .rename_i e;rcases ce.1 a with rfl|a
   .exact N9 e
   .exact zz h b a
  .contradiction
def nU (s:ClShop) (before:Int) (b:ClBatch) (r:Nat):Bool:=
 match s.colours[before.toNat]? with
 |some x=>(match x.shows[b.colour.toNat]? with|some n=>before != b.colour&&decide (b.grams*n*1000^r<1000*x.stay.hi*s.keep.hi^r)|none=>false)
 |none=>false
def mR (can:Nat->Bool):Nat->Nat->Int
 |0,_=>-1
 |c+1,r=>if can r=true then mR can c (r+1) else r
def iv (s:ClShop) (before:Int) (b:ClBatch):Int:=mR (nU s before b) 4 0
theorem OH{k:Int}(e:0<=k)(i:k<=1000):∀r,0<=k^r/\k^r<=1000^r
 |0=>by simp
 |r+1=>by
  have a:=OH e i r;rw[Int.pow_succ,Int.pow_succ];exact⟨wP a.1 e,zO a.2 i e (zQ a.1 a.2)⟩
theorem vV(n keep)(r:Nat)(l:0<=n/\n<=1000000000)(o:0<=keep/\keep<=1000)(A:r<=3):af TP 429 [.int .i64 n,.int .i64 keep,.int .i64 r] (.int .i64 (n*keep^r)):=by
 refine aa (ag func429 rfl) rfl ?_;simp only[go_sem,simprocAttr];have v:∀k:Nat,k<=3->0<=n*keep^k/\n*keep^k<=1000000000000000000:=λk i=>by
  have a:=OH o.1 o.2 k;have y:(1000:Int)^k<=1000000000:=by
   match k,i with
   |0,_=>decide
   |1,_=>decide
   |2,_=>decide
   |3,_=>decide
  exact⟨wP l.1 a.1,by have:=zO l.2 (zQ a.2 y) a.1 (by omega:(0:Int)<=1000000000);omega⟩
 refine fo [1,7] (σ:=Nat) (λk=>k<=r) (λk=>r-k) (λk=>[(0,.p (.int .i64 (n*keep^k))),(8,.p (.int .i64 k))]) (λk=>[]) 0 (de _) rfl ?_ ?_
 .simp only[go_sem,simprocAttr];simp
 intro k e;rcases CH e with rfl|z
 .have q:decide ((k:Int)<(k:Int))=false:=by simp
  simp only[go_sem,simprocAttr]
 have q:decide ((k:Int)<(r:Int))=true:=by simp;omega
 have hw:IntKind.i64.wrap ((k:Int)+1)=((k+1:Nat):Int):=bk (by omega) (by simp[ao];omega) (by omega);have j:=v (k+1) (by omega);have u:IntKind.i64.wrap (n*keep^k*keep)=n*keep^(k+1):=by
  rw[Int.pow_succ,<-uc]at j |-;exact am (by omega) (by omega)
 simp only[q,go_sem,simprocAttr];refine br (k+1) (by omega) (by omega) rfl ?_;simp only[hw,u,go_sem,simprocAttr]
theorem SK(s)(l)(a:Int)(b)(r:Nat)(q:ShopOk s)(y:BatchOk s b)(I:0<=a/\a<s.colours.length)(u:r<=3) :
  af TP 420 [Im s l,.int .i64 a,b.pv,.int .i64 r] (.bool (nU s a b r)):=by
 refine aa (ag func420 rfl) rfl ?_;obtain⟨i,rfl⟩:∃i:Nat,a=(i:Int):=⟨a.toNat,by omega⟩
 obtain⟨j,A⟩:∃j:Nat,b.colour=(j:Int):=⟨b.colour.toNat,by have:=y.colour;omega⟩
 have L:=y.colour;obtain⟨x,hx⟩:∃x,s.colours[i]?=some x:=⟨_,bO (by omega)⟩
 have e:=aG hx;have K:=(q.shows x e).1;obtain⟨n,v⟩:∃n,x.shows[j]?=some n:=⟨_,bO (by omega)⟩
 have o:=(q.shows x e).2 n (aG v);have J:=q.stay x e;have G:=y.grams;have F:(i:Int)<(s.colours.length:Int):=I.2;have E:(j:Int)<(x.shows.length:Int):=by omega
 have M:0<=b.grams*n/\b.grams*n<=100000000:=⟨wP (by omega) o.1,by have:=zO G.2 o.2 o.1 (by omega:(0:Int)<=100000);omega⟩
 have D:IntKind.i64.wrap (b.grams*n)=b.grams*n:=am (by omega) (by omega);have C:IntKind.i64.wrap (1000*x.stay.hi)=1000*x.stay.hi:=am (by omega) (by omega);have z:nU s (i:Int) b r=((i:Int) != (j:Int)&&decide (b.grams*n*1000^r<1000*x.stay.hi*s.keep.hi^r)):=by
  simp only[nU,kn,hx,A,v]
 rw[z];simp only[hx,F,A,v,E,D,go_sem,simprocAttr];cases N:((i:Int) != (j:Int))
 .simp only[go_sem,simprocAttr]
 simp only[C,go_sem,simprocAttr]
 (first|refine ae (vV (1000*x.stay.hi) s.keep.hi r (by omega) (by have:=q.keep;omega) u) rfl ?_|refine ax (vV (1000*x.stay.hi) s.keep.hi r (by omega) (by have:=q.keep;omega) u) rfl ?_)
 simp only[go_sem,simprocAttr]
 (first|refine ae (vV (b.grams*n) 1000 r (by omega) (by omega) u) rfl ?_|refine ax (vV (b.grams*n) 1000 r (by omega) (by omega) u) rfl ?_)
 simp only[go_sem,simprocAttr]
theorem Qu(s)(l)(a:Int)(b)(j:ShopOk s)(u:BatchOk s b)(v:0<=a/\a<s.colours.length) :
  af TP 409 [Im s l,.int .i64 a,b.pv] (.int .i64 (iv s a b)):=by
 refine aa (ag func409 rfl) rfl ?_;simp only[go_sem,simprocAttr];refine gL [0,1,5] (σ:=Nat) (λk=>k<=4/\iv s a b=mR (nU s a b) (4-k) k) (λk=>4-k) (λk=>[(8,.p (.int .i64 k))]) (λk=>[.row 2 [.p b.pv]]) 0 ⟨by decide,rfl⟩ ?_ ?_
 .simp only[go_sem,simprocAttr]<;>simp
 intro k ⟨o,e⟩;rcases CH o with rfl|y
 .rw[show 4-4=0 from rfl,mR]at e;simp only[e,go_sem,simprocAttr]
 have q:decide ((k:Int)<4)=true:=by simp;omega
 have hw:IntKind.i64.wrap ((k:Int)+1)=((k+1:Nat):Int):=bk (by omega) (by simp[ao];omega) (by omega);rw[show 4-k=(4-(k+1))+1 by omega,mR]at e;simp only[q,go_sem,simprocAttr];refine aU (SK s l a b k j u v (by omega)) ?_ (.bool _) ?_
 .simp only[go_sem,simprocAttr]
 simp only[go_sem,simprocAttr];cases i:nU s a b k
 .rw[i,if_neg (by decide)]at e;simp only[e,go_sem,simprocAttr]
 .rw[i,if_pos rfl]at e;simp only[go_sem,simprocAttr];refine cc (k+1) ⟨by omega,e⟩ (by omega) ?_;simp only[hw,go_sem,simprocAttr]
end Cl
end Abs
end Go.Proofs.YtmndpldajflenaaGreatDoor
