/-
  CONTRACTS: recipes, what waxes give to a blend, its ends; in the program and in the refere
  CONTRACTS: what a blend melts and shrinks at, what it costs; Value, Made, Weigh, Raise; in
  CONTRACTS: Value, Made, Weigh, Raise, the error of a wish, why a recipe does not fit one, 
  CONTRACTS: why a recipe does not fit a wish, Fits, Made, Weigh; in the program and in the 
  CONTRACTS: Made, in the program and in the reference.
  CONTRACTS: all recipes, those that fit a wish; in the reference; and the program's iterato
-/
import Derived.Test.YtfafnkpfamgbbaaGreatDoorAbsCutX
import Derived.Test.YtfafnkpfamgbbaaGreatDoorBdChkX
set_option linter.unusedSimpArgs false
set_option linter.unusedVariables false
open Go.Proofs.Tryz renaming prog->TP
namespace Go.Proofs.YtfafnkpfamgbbaaGreatDoor
namespace Abs
set_option maxRecDepth 4000
structure BdWaxOk (x:BdWax):Prop where
 price:0<=x.price/\x.price<=100000
 melt:0<=x.melt.lo/\x.melt.lo<=x.melt.hi/\x.melt.hi<=2000
 shrink:0<=x.shrink.lo/\x.shrink.lo<=x.shrink.hi/\x.shrink.hi<=1000
 curve:CurveOk x.curve
structure BdWaxesOk (l:List BdWax):Prop where
 len:1<=l.length/\l.length<=5
 wax:∀ x,x∈l->BdWaxOk x
def yg (l:List BdWax):Int:=(bdCheck l).2.2
theorem KS {before} {x} (h:bZ before x=0):BdWaxOk x/\am before x.name=0:=by
 unfold bZ at h;split at h
 .rename_i hn;split at h
  .rename_i hg;split at h
   .cases h
   .rename_i ht;simp [ar,cp,aO] at hg ht;exact ⟨⟨by omega,by omega,by omega,Ko h⟩,hn⟩
  .cases h
 .rename_i hn;exact absurd h hn
theorem iT {α} {f:List ByteArray->α->Int} {nm}:∀ {l} {before},firstErr f nm l before=none->∀ x,x∈l->∃ b,f b x=0
 |[],_,_,_,hx=>by cases hx
 |y::r,before,h,x,hx=>by
  rw [firstErr] at h;split at h
  .rename_i h0;rcases bw.1 hx with rfl | hx
   .exact ⟨_,h0⟩
   .exact iT h x hx
  .cases h
theorem xX {α} {f:List ByteArray->α->Int} {nm}:∀ {l} {before} {i e},firstErr f nm l before=some (i,e)->e≠0
 |[],_,_,_,h=>by cases h
 |y::r,before,i,e,h=>by
  rw [firstErr] at h;split at h
  .exact xX h
  .rename_i h0;cases h;exact h0
theorem Nb {l} (h:yg l=0):(1<=l.length/\l.length<=5)/\firstErr bZ (·.name) l []=none:=by
 unfold yg bdCheck at h;split at h
 .rename_i hg;refine ⟨by simp [ar] at hg;omega,?_⟩
  cases hf:firstErr bZ (·.name) l [] with
  |none=>rfl
  |some q =>
   obtain ⟨i,e⟩:=q;rw [hf] at h;exact absurd h (xX hf)
 .cases h
theorem wF {l} (h:yg l=0):BdWaxesOk l:=by
 obtain ⟨h1,h2⟩:=Nb h;exact ⟨h1,λx hx=>let ⟨b,hb⟩:=iT h2 x hx;(KS hb).1⟩
structure RecOk (m:Nat) (r:List Int):Prop where
 len:r.length=m
 rng:∀ n,n∈r->0<=n/\n<=20
 sum:r.sum=20
def vt {α:Type} (f:Nat->α->Int):List α->Nat->Int
 |[],_=>0
 |x::r,i=>f i x+vt f r (i+1)
theorem Ia {α} (f:α->Int):∀ (l) (i),vt (λ_ x=>f x) l i=(l.map f).sum
 |[],_=>rfl
 |x::r,i=>by rw [vt,Ia f r,bB,List.sum_cons]
def cQ (p:BdWax×Int):PV:=.agg [.str p.1.name,.int .i64 p.1.price,.int .i64 p.1.melt.lo,.int .i64 p.1.melt.hi,.int .i64 p.1.shrink.lo,.int .i64 p.1.shrink.hi,.slice 2 (p.1.curve.map BdPoint.pv) false,.int .i64 p.2]
attribute [go_sem] cQ
theorem Sr {fv} (l) (f) (b) (sz) (hsz:sz=8) (hl:l.length<=1000) (hf:∀ (i:Nat) x,l[i]?=some x->jF TP fv [.int .i64 i,cQ x] (.int .i64 (f i x))/\-1000000000<=f i x/\f i x<=1000000000) :
  ah TP 300 [.slice sz (l.map cQ) b,fv] (.int .i64 (vt f l 0)):=by
 subst hsz;refine aa (ai (by kernel_rfl) rfl Wz) rfl ?_;simp only [go_sem,simprocAttr];refine ez [1,7,8] l (by omega) (τ:=Int) (λdone rest n=>vt f l 0=n+vt f rest done.length/\-1000000000*(done.length:Int)<=n/\n<=1000000000*(done.length:Int)) (λdone n=>[(9,.p (.int .i64 done.length)),(4,.p (.int .i64 n))]) 0 ⟨by simp,by simp,by simp⟩ ?_ ?_ ?_
 .simp only [go_sem,simprocAttr]<;>simp
 .rintro n ⟨e2,_⟩
  simp only [go_sem,simprocAttr];rw [e2];simp [vt]
 .rintro done x r n e1 ⟨e2,e3,e4⟩ hx hlt hnx
  obtain ⟨⟨g,first,cap,rfl,hc⟩,e5,e6⟩:=hf _ _ hx;simp only [hlt,decide_true,hx,cQ,go_sem,simprocAttr];refine ae hc (by simp [cQ]) ?_;have hw:IntKind.i64.wrap (n+f done.length x)=n+f done.length x:=ax (by omega) (by omega);simp only [hw,go_sem,simprocAttr];refine aF e1 (n+f done.length x) ⟨by rw [e2,vt];simp;omega,by simp;omega,by simp;omega⟩ ?_;simp only [hnx,go_sem,simprocAttr]
abbrev Ps:=List (BdWax×Int)
structure PsOk (ps:Ps):Prop where
 len:ps.length<=5
 wax:∀ p,p∈ps->BdWaxOk p.1/\0<=p.2/\p.2<=20
def di (f:BdWax×Int->Int) (ps:Ps):Int:=(ps.map f).sum
def lQ (p:BdWax×Int):Int:=p.2*p.1.melt.lo
def lR (p:BdWax×Int):Int:=p.2*p.1.melt.hi
def lv (p:BdWax×Int):Int:=p.2*p.1.shrink.lo
def nZ (p:BdWax×Int):Int:=p.2*p.1.shrink.hi
def jW (p:BdWax×Int):Int:=p.2*p.1.price
def gG (p:BdWax×Int):Int:=20*qj p.1.curve p.2
theorem Gw (n):∀ (r) (a),(0<=a.parts/\a.parts<=20/\-300<=a.add/\a.add<=300)->(∀ p,p∈r->0<=p.parts/\p.parts<=20/\-300<=p.add/\p.add<=300)->a.parts<=n->(a::r).Pairwise (λa b=>a.parts<b.parts)->-300<=kW a r n/\kW a r n<=300
 |[],a,ha,_,_,_=>by rw [kW];omega
 |b::r,a,ha,hr,hn,hp=>by
  rw [kW];have hab:a.parts<b.parts:=by cases hp with | cons h _=>exact h b (by simp)
  split
  .rename_i h;obtain ⟨_,_,h3,h4⟩:=Iq ha (hr b (by simp)) hn h hab;have hb:=hr b (by simp);rcases Jj a.add b.add with h5 | h5
   .have:=h3 h5;omega
   .have:=h4 h5;omega
  .rename_i h;exact Gw n r b (hr b (by simp)) (λp hp=>hr p (by simp [hp])) (by omega) (by cases hp with | cons _ h=>exact h)
theorem SB {c} (h:CurveOk c) (n):-300<=qj c n/\qj c n<=300:=by
 cases c with
 |nil=>simp [qj]
 |cons a r =>
  have ha:=h.pt a (by simp);rw [qj];split
  .omega
  .exact Gw n r a ha (λp hp=>h.pt p (by simp [hp])) (by omega) h.up
theorem d6 {p} (h:BdWaxOk p.1/\0<=p.2/\p.2<=20):(0<=lQ p/\lQ p<=40000)/\(0<=lR p/\lR p<=40000)/\(0<=lv p/\lv p<=20000)/\(0<=nZ p/\nZ p<=20000)/\(0<=jW p/\jW p<=2000000)/\-6000<=gG p/\gG p<=6000:=by
 obtain ⟨hw,h0,h1⟩:=h;have m1:=hw.melt;have m2:=hw.shrink;have m3:=hw.price;have m4:=SB hw.curve p.2;refine ⟨kA (B:=2000) h0 h1 (by omega) (by omega),kA (B:=2000) h0 h1 (by omega) (by omega),kA (B:=1000) h0 h1 (by omega) (by omega),kA (B:=1000) h0 h1 (by omega) (by omega),kA (B:=100000) h0 h1 (by omega) (by omega),?_⟩;unfold gG;omega
theorem Bl {f} {a b}:∀ {ps},(∀ p,p∈ps->a<=f p/\f p<=b)->a*(ps.length:Int)<=di f ps/\di f ps<=b*(ps.length:Int)
 |[],_=>by simp [di]
 |p::ps,h=>by
  have h1:=Bl (f:=f) (ps:=ps) λq hq=>h q (by simp [hq]);have h2:=h p (by simp);simp only [di,bB,List.sum_cons,ct] at h1 |-;have e1:a*((ps.length+1:Nat):Int)=a*(ps.length:Int)+a:=by rw [Int.natCast_add,Int.mul_add];simp
  have e2:b*((ps.length+1:Nat):Int)=b*(ps.length:Int)+b:=by rw [Int.natCast_add,Int.mul_add];simp
  omega
theorem Ck {f} {b} {ps} (hl:ps.length<=5) (hb:0<=b) (h:∀ p,p∈ps->-b<=f p/\f p<=b):-(5*b)<=di f ps/\di f ps<=5*b:=by
 obtain ⟨h1,h2⟩:=Bl h;have:b*(ps.length:Int)<=b*5:=tJ (by omega) hb;have e:(-b)*(ps.length:Int)=-(b*(ps.length:Int)):=Ep _ _;omega
theorem DM (p) (h:BdWaxOk p.1/\0<=p.2/\p.2<=20):ah TP 329 [cQ p] (.int .i64 (lQ p)):=by
 refine aa (ai (by kernel_rfl) rfl V9) rfl ?_;have hb:=d6 h;have hw:IntKind.i64.wrap (lQ p)=lQ p:=ax (by omega) (by omega);unfold lQ at hw |-;simp only [hw,go_sem,simprocAttr]
theorem DN (p) (h:BdWaxOk p.1/\0<=p.2/\p.2<=20):ah TP 330 [cQ p] (.int .i64 (lR p)):=by
 refine aa (ai (by kernel_rfl) rfl V8) rfl ?_;have hb:=d6 h;have hw:IntKind.i64.wrap (lR p)=lR p:=ax (by omega) (by omega);unfold lR at hw |-;simp only [hw,go_sem,simprocAttr]
theorem HA (p) (h:BdWaxOk p.1/\0<=p.2/\p.2<=20):ah TP 331 [cQ p] (.int .i64 (lv p)):=by
 refine aa (ai (by kernel_rfl) rfl V7) rfl ?_;have hb:=d6 h;have hw:IntKind.i64.wrap (lv p)=lv p:=ax (by omega) (by omega);unfold lv at hw |-;simp only [hw,go_sem,simprocAttr]
theorem Kw (p) (h:BdWaxOk p.1/\0<=p.2/\p.2<=20):ah TP 332 [cQ p] (.int .i64 (nZ p)):=by
 refine aa (ai (by kernel_rfl) rfl V6) rfl ?_;have hb:=d6 h;have hw:IntKind.i64.wrap (nZ p)=nZ p:=ax (by omega) (by omega);unfold nZ at hw |-;simp only [hw,go_sem,simprocAttr]
theorem Hz (p) (h:BdWaxOk p.1/\0<=p.2/\p.2<=20):ah TP 269 [cQ p] (.int .i64 (jW p)):=by
 refine aa (ai (by kernel_rfl) rfl W5) rfl ?_;have hb:=d6 h;have hw:IntKind.i64.wrap (jW p)=jW p:=ax (by omega) (by omega);unfold jW at hw |-;simp only [hw,go_sem,simprocAttr]
theorem Hy (p) (h:BdWaxOk p.1/\0<=p.2/\p.2<=20):ah TP 333 [cQ p] (.int .i64 (gG p)):=by
 refine aa (ai (by kernel_rfl) rfl V5) rfl ?_;have hb:=d6 h;have hw:IntKind.i64.wrap (gG p)=gG p:=ax (by omega) (by omega);unfold gG at hw |-;simp only [go_sem,simprocAttr];refine ae (UX p.1.curve false p.2 h.1.curve) rfl ?_;simp only [hw,go_sem,simprocAttr]
def sc:AV:=.p (.agg [.str ⟨#[]⟩,.int .i64 0,.int .i64 0,.int .i64 0,.int .i64 0,.int .i64 0,.nilslice,.int .i64 0])
def iN (ps done:Ps):List AV:=(done.map λp=>.p (cQ p))++List.replicate (ps.length-done.length) sc
theorem Dg {ps done r} {x} (h:ps=done++x::r):(iN ps done).length=ps.length:=by subst h;simp [iN]
theorem Dh {ps done r} {x} (h:ps=done++x::r):(iN ps done)[done.length]?=some sc:=by
 subst h;unfold iN;rw [cn (by simp)];simp
theorem Df {ps done r} {x} (h:ps=done++x::r):(iN ps done).set done.length (.p (cQ x))=iN ps (done++[x]):=by
 subst h;have e:(done++x::r).length-done.length=((done++x::r).length-(done++[x]).length)+1:=by simp<;>omega
 unfold iN;rw [tP _ _ (by simp),e,Jg];simp
theorem yd (n) (ps done):(∀ x,x∈iN ps done->below n x)=True:=by
 refine eq_true λx hx=>?_;rcases ea.1 hx with h | h
 .obtain ⟨p,_,rfl⟩:=ec.1 h;trivial
 .rw [List.eq_of_mem_replicate h];trivial
def qS (ps:Ps):PV:=.slice 8 (ps.map cQ) false
attribute [go_sem] qS
theorem UW (ps) (b1 b2) (hl:ps.length<=5):ah TP 268 [.slice 7 (ps.map λp=>p.1.pv) b1,.slice 1 (ps.map λp=>aK p.2) b2] (qS ps):=by
 refine cW (ai (by kernel_rfl) rfl P5) rfl ?_;have hrm:((ps.length:Nat):Int)<=(aw:Int):=by simp [aw];omega
 have hr0:List.replicate ps.length sc=iN ps []:=by simp [iN]
 simp only [sc] at hr0;simp only [hrm,pZ,hr0,go_sem,simprocAttr];refine br [1,5,11,12] ps (by omega) (τ:=Unit) (λ_ _ _=>True) (λdone _=>[(13,.p (.int .i64 done.length))]) (λdone _=>[.row 8 (iN ps done)]) () trivial ?_ ?_ ?_
 .simp only [yd,go_sem,simprocAttr]
 .intro _ _;have hz:(iN ps ps)=ps.map λp=>.p (cQ p):=by simp [iN]
  simp only [cQ] at hz;simp only [hz,go_sem,simprocAttr];rfl
 .intro done x r _ e1 _ hx hlt hnx;have h1:=Dg e1;have h2:=Dh e1;have h3:=Df e1;simp only [sc] at h2;simp only [cQ] at h3;simp only [hlt,hx,h1,h2,h3,go_sem,simprocAttr];refine aF e1 () trivial ?_;simp only [hnx,yd,go_sem,simprocAttr]
theorem R0 {of} (i) (p) (v) (h:jF TP of [cQ p] (.int .i64 v)):ah TP 301 [.int .i64 i,cQ p,.ptr 1 [of] 0 0] (.int .i64 v):=by
 refine aa (ai (by kernel_rfl) rfl Wy) rfl ?_;obtain ⟨g,first,cap,rfl,hc⟩:=h;simp only [go_sem,simprocAttr];refine ae hc (by simp [cQ]) ?_;simp only [go_sem,simprocAttr]
theorem tk {of} (ps) (f) (b) (hl:ps.length<=5) (hof:∀ p,p∈ps->jF TP of [cQ p] (.int .i64 (f p))/\-1000000000<=f p/\f p<=1000000000) (hne:∃ g first cap,of=.func (.func g) first cap) :
  ah TP 267 [.slice 8 (ps.map cQ) b,of] (.int .i64 (di f ps)):=by
 refine aa (ai (by kernel_rfl) rfl W6) rfl ?_;obtain ⟨g,first,cap,rfl⟩:=hne;simp only [go_sem,simprocAttr];refine bf (Sr (fv:=.func (.func 301) [] [.ptr 1 [.func (.func g) first cap] 0 0]) ps (λ_ p=>f p) b 8 rfl (by omega) λi p hi=>⟨⟨_,_,_,rfl,R0 i p _ (hof p (aL hi)).1⟩,(hof p (aL hi)).2⟩) ?_ (.int _ _) ?_
 .simp only [go_sem,simprocAttr]
 .simp only [go_sem,simprocAttr];rw [Ia];rfl
theorem BP (ps) (b) (h:PsOk ps):ah TP 267 [.slice 8 (ps.map cQ) b,.func (.func 329) [] []] (.int .i64 (di lQ ps)) :=
 tk ps lQ b h.len (λp hp=>⟨⟨_,_,_,rfl,DM p (h.wax p hp)⟩,by have:=d6 (h.wax p hp);omega⟩) ⟨_,_,_,rfl⟩
theorem BQ (ps) (b) (h:PsOk ps):ah TP 267 [.slice 8 (ps.map cQ) b,.func (.func 330) [] []] (.int .i64 (di lR ps)) :=
 tk ps lR b h.len (λp hp=>⟨⟨_,_,_,rfl,DN p (h.wax p hp)⟩,by have:=d6 (h.wax p hp);omega⟩) ⟨_,_,_,rfl⟩
theorem F3 (ps) (b) (h:PsOk ps):ah TP 267 [.slice 8 (ps.map cQ) b,.func (.func 331) [] []] (.int .i64 (di lv ps)) :=
 tk ps lv b h.len (λp hp=>⟨⟨_,_,_,rfl,HA p (h.wax p hp)⟩,by have:=d6 (h.wax p hp);omega⟩) ⟨_,_,_,rfl⟩
theorem Hs (ps) (b) (h:PsOk ps):ah TP 267 [.slice 8 (ps.map cQ) b,.func (.func 332) [] []] (.int .i64 (di nZ ps)) :=
 tk ps nZ b h.len (λp hp=>⟨⟨_,_,_,rfl,Kw p (h.wax p hp)⟩,by have:=d6 (h.wax p hp);omega⟩) ⟨_,_,_,rfl⟩
theorem wy (ps) (b) (h:PsOk ps):ah TP 267 [.slice 8 (ps.map cQ) b,.func (.func 269) [] []] (.int .i64 (di jW ps)) :=
 tk ps jW b h.len (λp hp=>⟨⟨_,_,_,rfl,Hz p (h.wax p hp)⟩,by have:=d6 (h.wax p hp);omega⟩) ⟨_,_,_,rfl⟩
theorem F2 (ps) (b) (h:PsOk ps):ah TP 267 [.slice 8 (ps.map cQ) b,.func (.func 333) [] []] (.int .i64 (di gG ps)) :=
 tk ps gG b h.len (λp hp=>⟨⟨_,_,_,rfl,Hy p (h.wax p hp)⟩,by have:=d6 (h.wax p hp);omega⟩) ⟨_,_,_,rfl⟩
theorem H' {ps} (h:PsOk ps):(0<=di lQ ps/\di lQ ps<=200000)/\(0<=di lR ps/\di lR ps<=200000)/\(0<=di lv ps/\di lv ps<=100000)/\(0<=di nZ ps/\di nZ ps<=100000)/\(0<=di jW ps/\di jW ps<=10000000)/\-30000<=di gG ps/\di gG ps<=30000:=by
 have hl:=h.len;have key:∀ (f:BdWax×Int->Int) (b:Int),0<=b->(∀ p,p∈ps->0<=f p/\f p<=b)->0<=di f ps/\di f ps<=5*b:=λf b hb hf=>by
  have h1:=Bl hf;have h2:=(Ck (f:=f) hl hb λp hp=>by have:=hf p hp;omega).2;omega
 refine ⟨key _ 40000 (by omega) λp hp=>(d6 (h.wax p hp)).1,key _ 40000 (by omega) λp hp=>(d6 (h.wax p hp)).2.1,key _ 20000 (by omega) λp hp=>(d6 (h.wax p hp)).2.2.1,key _ 20000 (by omega) λp hp=>(d6 (h.wax p hp)).2.2.2.1,key _ 2000000 (by omega) λp hp=>(d6 (h.wax p hp)).2.2.2.2.1,?_⟩;exact Ck (b:=6000) hl (by omega) λp hp=>(d6 (h.wax p hp)).2.2.2.2.2
def sg (ps:Ps):Span:=⟨di lQ ps+di gG ps,di lR ps+di gG ps⟩
def jR (ps:Ps):Span:=⟨di lv ps,di nZ ps⟩
set_option maxHeartbeats 1000000 in
theorem xz (ps) (b) (h:PsOk ps):ah TP 323 [.slice 8 (ps.map cQ) b] (.tuple [(sg ps).pv,(jR ps).pv]):=by
 refine aa (ai (by kernel_rfl) rfl We) rfl ?_;have hb:=H' h;have w1:IntKind.i64.wrap (di lQ ps+di gG ps)=di lQ ps+di gG ps:=ax (by omega) (by omega);have w2:IntKind.i64.wrap (di lR ps+di gG ps)=di lR ps+di gG ps:=ax (by omega) (by omega);simp only [Vl,go_sem,simprocAttr];refine bn ?_;simp only [go_sem,simprocAttr];refine ae (BP ps b h) rfl ?_;simp only [go_sem,simprocAttr];refine bn ?_;simp only [go_sem,simprocAttr];refine ae (BQ ps b h) rfl ?_;simp only [go_sem,simprocAttr];refine bn ?_;simp only [go_sem,simprocAttr];refine ae (F3 ps b h) rfl ?_;simp only [go_sem,simprocAttr];refine bn ?_;simp only [go_sem,simprocAttr];refine ae (Hs ps b h) rfl ?_;simp only [go_sem,simprocAttr];refine bn ?_;simp only [go_sem,simprocAttr];refine ae (F2 ps b h) rfl ?_;simp only [go_sem,simprocAttr];refine bn ?_;simp only [bj,w1,w2,sg,jR,go_sem,simprocAttr]
theorem Bg {α β γ:Type} (f:α->γ) {l:List α} {r:List β} (h:r.length=l.length):((l.zip r).map λp=>f p.1)=l.map f:=by
 rw [show (λp:α×β=>f p.1)=f∘Prod.fst from rfl,<-tH,List.map_fst_zip (by omega)]
theorem Bf {α β γ:Type} (f:β->γ) {l:List α} {r} (h:r.length=l.length):((l.zip r).map λp=>f p.2)=r.map f:=by
 rw [show (λp:α×β=>f p.2)=f∘Prod.snd from rfl,<-tH,List.map_snd_zip (by omega)]
theorem ue {l} {r} (hl:BdWaxesOk l) (hr:∀ n,n∈r->0<=n/\n<=20):PsOk (l.zip r):=by
 refine ⟨by have:=hl.len;simp;omega,λp hp=>?_⟩;obtain ⟨x,n⟩:=p;obtain ⟨h1,h2⟩:=List.of_mem_zip hp;exact ⟨hl.wax x h1,hr n h2⟩
theorem IW {l} {r} (b1 b2) (hl:BdWaxesOk l) (hlen:r.length=l.length):ah TP 268 [.slice 7 (l.map BdWax.pv) b1,.slice 1 (r.map aK) b2] (qS (l.zip r)):=by
 have h:=UW (l.zip r) b1 b2 (by have:=hl.len;simp;omega);rwa [Bg BdWax.pv hlen,Bf aK hlen] at h
theorem Ir {l} (h:BdWaxesOk l):IntKind.i64.wrap ((l.length:Int)-1)=(l.length:Int)-1:=ax (by omega) (by have:=h.len;omega)
def LZ (a b:Bool):Int:=if a=true then 7 else if b=true then 2 else 0
def qM (w:BdWish):Bool:=!(cp w.melt 0 2000&&cp w.shrink 0 1000)
def lG (w:BdWish):Bool:=aO w.melt||aO w.shrink
def iR (l:List BdWax) (w:BdWish):Int :=
 if yg l=0 then
  if w.parts.length=l.length then LZ (qM w||w.parts.any λs=>!cp s 0 20) (lG w||w.parts.any aO)
  else 3
 else yg l
structure WishOk (m:Nat) (w:BdWish):Prop where
 len:w.parts.length=m
 melt:0<=w.melt.lo/\w.melt.lo<=w.melt.hi/\w.melt.hi<=2000
 shrink:0<=w.shrink.lo/\w.shrink.lo<=w.shrink.hi/\w.shrink.hi<=1000
 parts:∀ s,s∈w.parts->0<=s.lo/\s.lo<=s.hi/\s.hi<=20
theorem Ce {l} {w} (h:iR l w=0):BdWaxesOk l/\WishOk l.length w:=by
 unfold iR at h;split at h
 .rename_i he;split at h
  .rename_i hl;refine ⟨wF he,?_⟩;unfold LZ at h;split at h
   .cases h
   .rename_i ho;split at h
    .cases h
    .rename_i ht;simp [qM,lG,cp,ar,aO] at ho ht;refine ⟨hl,by omega,by omega,λs hs=>?_⟩;have:=ho.2 s hs;have:=ht.2 s hs;omega
  .cases h
 .rename_i he;exact absurd h he
theorem UH (l) (w):ah TP 265 [fP l,w.pv] (.int .i64 (iR l w)):=by
 refine aa (ai (by kernel_rfl) rfl W8) rfl ?_;simp only [go_sem,simprocAttr]
 (first | refine ae (za l) rfl ?_ | refine aD (za l) rfl ?_)
 simp only [al,go_sem,simprocAttr];refine aT (λhe=>?_) (λhe=>?_)
 .have he':¬ yg l=0:=by simpa [yg] using he
  simp only [iR,if_neg he',go_sem,simprocAttr];rfl
 have he':yg l=0:=by simpa [yg] using he
 have hok:=(wF he').len;simp only [go_sem,simprocAttr];refine aT (λhb=>?_) (λhb=>?_)
 .have:¬ (w.parts.length=l.length):=by simp [bne] at hb;omega
  simp only [iR,if_pos he',if_neg this,go_sem,simprocAttr]
 have hlen:w.parts.length=l.length:=by simp [bne] at hb;omega
 have hspec:iR l w=LZ (qM w||w.parts.any λs=>!cp s 0 20) (lG w||w.parts.any aO):=by rw [iR,if_pos he',if_pos hlen]
 rw [hspec];have ho:qM w=!(ar w.melt.lo 0 2000&&ar w.melt.hi 0 2000&&(ar w.shrink.lo 0 1000&&ar w.shrink.hi 0 1000)):=rfl;have ht:lG w=(decide (w.melt.hi<w.melt.lo)||decide (w.shrink.hi<w.shrink.lo)):=rfl;simp only [go_sem,simprocAttr];cases ht1:decide (w.melt.hi<w.melt.lo)
 all_goals
  rw [ht1] at ht;simp only [mO,mN] at ht;simp only [go_sem,simprocAttr]
  (first | refine ae (js 0 2000 [_,_] true (by simp)) rfl ?_ | refine aD (js 0 2000 [_,_] true (by simp)) rfl ?_)
  simp only [bp,bF,bS,<-kO,go_sem,simprocAttr];cases ho1:(ar w.melt.lo 0 2000&&ar w.melt.hi 0 2000)
 all_goals
  rw [ho1] at ho;simp only [wW,Bool.false_and,tI] at ho;simp only [go_sem,simprocAttr]
  try
   (first | refine ae (js 0 1000 [_,_] true (by simp)) rfl ?_ | refine aD (js 0 1000 [_,_] true (by simp)) rfl ?_)
   simp only [bp,bF,bS,<-kO,<-ho,go_sem,simprocAttr]
  refine br [62,63] w.parts (by omega) (τ:=Bool×Bool) (λdone rest q=>(qM w||w.parts.any λs=>!cp s 0 20)=(q.1||rest.any λs=>!cp s 0 20)/\(lG w||w.parts.any aO)=(q.2||rest.any aO))
   (λdone q=>[(64,.p (.int .i64 done.length)),(8,.p (.bool q.2)),(9,.p (.bool q.1))]) (λ_ _=>[.row 5 [.p w.pv]]) (qM w,lG w) ⟨rfl,rfl⟩ ?_ ?_ ?_
  .simp only [ho,ht,go_sem,simprocAttr]<;>simp
  .rintro ⟨a,b⟩ ⟨g1,g2⟩
   dsimp only at g1 g2;rw [g1,g2];cases a<;>cases b<;>simp only [bF,LZ,go_sem,simprocAttr]
  .rintro done x r ⟨a,b⟩ e1 ⟨g1,g2⟩ hx hlt hnx
   dsimp only at g1 g2;rw [bp] at g1 g2;cases a<;>cases b<;>simp only [hlt,hx,go_sem,simprocAttr]
   all_goals
    try
     (first | refine ae (js 0 20 [_,_] true (by simp)) rfl ?_ | refine aD (js 0 20 [_,_] true (by simp)) rfl ?_)
     simp only [bp,bF,bS,<-kO,go_sem,simprocAttr]
    first
     |(refine aF e1 (!cp x 0 20,aO x) ⟨by simpa using g1,by simpa using g2⟩ ?_
       simp only [hnx,cp,aO,go_sem,simprocAttr];done)
     |(refine aF e1 (!cp x 0 20,true) ⟨by simpa using g1,by simpa using g2⟩ ?_
       simp only [hnx,cp,go_sem,simprocAttr];done)
     |(refine aF e1 (true,aO x) ⟨by simpa using g1,by simpa using g2⟩ ?_
       simp only [hnx,aO,go_sem,simprocAttr];done)
     |(refine aF e1 (true,true) ⟨by simpa using g1,by simpa using g2⟩ ?_
       simp only [hnx,go_sem,simprocAttr])
def ox (w:BdWish) (r:List Int):Bool:=(r.zip w.parts).any λq=>!ar q.1 q.2.lo q.2.hi
def j8 (l:List BdWax) (w:BdWish) (r:List Int):Int :=
 if ox w r=true then 1
 else if (sg (l.zip r)).lo<20*w.melt.lo then 2
 else if 20*w.melt.hi<(sg (l.zip r)).hi then 3
 else if (jR (l.zip r)).lo<20*w.shrink.lo\/20*w.shrink.hi<(jR (l.zip r)).hi then 4
 else 0
theorem Zp {l} {w} {r} (b) (hl:BdWaxesOk l) (hw:WishOk l.length w) (hlen:r.length=l.length) (hr:∀ n,n∈r->0<=n/\n<=20) :
  ah TP 299 [fP l,w.pv,.slice 1 (r.map aK) b] (.int .i64 (j8 l w r)):=by
 refine aa (ai (by kernel_rfl) rfl WA) rfl ?_;have hl5:=hl.len;have hwl:=hw.len;have m1:IntKind.i64.wrap (20*w.melt.lo)=20*w.melt.lo:=ax (by have:=hw.melt;omega) (by have:=hw.melt;omega);have m2:IntKind.i64.wrap (20*w.melt.hi)=20*w.melt.hi:=ax (by have:=hw.melt;omega) (by have:=hw.melt;omega);have m3:IntKind.i64.wrap (20*w.shrink.lo)=20*w.shrink.lo:=ax (by have:=hw.shrink;omega) (by have:=hw.shrink;omega);have m4:IntKind.i64.wrap (20*w.shrink.hi)=20*w.shrink.hi:=ax (by have:=hw.shrink;omega) (by have:=hw.shrink;omega);have hz1:((r.zip w.parts).map λq=>q.1)=r:=by have:=Bg (λx=>x) (l:=r) (r:=w.parts) (by omega);simpa using this
 have hz2:((r.zip w.parts).map λq=>q.2)=w.parts:=by have:=Bf (λx=>x) (l:=r) (r:=w.parts) (by omega);simpa using this
 have hzl:(r.zip w.parts).length=r.length:=by simp;omega
 simp only [go_sem,simprocAttr];refine br [0,2,4,11,12] (r.zip w.parts) (by omega) (τ:=Unit) (λdone rest _=>ox w r=rest.any λq=>!ar q.1 q.2.lo q.2.hi) (λdone _=>[(13,.p (.int .i64 done.length))]) (λ_ _=>[.row 5 [.p w.pv]]) () rfl ?_ ?_ ?_
 .simp only [go_sem,simprocAttr]<;>simp
 .intro _ e2;have e2':ox w r=false:=by rw [e2];rfl
  have g1:¬ ((r.zip w.parts).length:Int)<(r.length:Int):=by omega
  have g2:¬ ((r.zip w.parts).length:Int)<(l.length:Int):=by omega
  simp only [g1,go_sem,simprocAttr]
  first
   |(first | refine ae (IW false b hl hlen) rfl ?_ | refine aD (IW false b hl hlen) rfl ?_)
    simp only [go_sem,simprocAttr]
    (first | refine ae (xz (l.zip r) false (ue hl hr)) rfl ?_ | refine aD (xz (l.zip r) false (ue hl hr)) rfl ?_)
   |(first | refine ae (xz false b hl hlen hr) rfl ?_ | refine aD (xz false b hl hlen hr) rfl ?_)
  simp only [m1,go_sem,simprocAttr];refine aT (λh1=>?_) (λh1=>?_)
  .have h1':(sg (l.zip r)).lo<20*w.melt.lo:=by simpa using h1
   simp only [j8,e2',if_pos h1',go_sem,simprocAttr]
  have h1':¬ (sg (l.zip r)).lo<20*w.melt.lo:=by simpa using h1
  simp only [m2,go_sem,simprocAttr];refine aT (λh2=>?_) (λh2=>?_)
  .have h2':20*w.melt.hi<(sg (l.zip r)).hi:=by simpa using h2
   simp only [j8,e2',if_neg h1',if_pos h2',go_sem,simprocAttr]
  have h2':¬ 20*w.melt.hi<(sg (l.zip r)).hi:=by simpa using h2
  simp only [m3,go_sem,simprocAttr];cases h3:decide ((jR (l.zip r)).lo<20*w.shrink.lo)
  .simp only [m4,go_sem,simprocAttr];refine aT (λh4=>?_) (λh4=>?_)
   .have h4':(jR (l.zip r)).lo<20*w.shrink.lo\/20*w.shrink.hi<(jR (l.zip r)).hi:=.inr (by simpa using h4);simp only [j8,e2',if_neg h1',if_neg h2',if_pos h4',go_sem,simprocAttr]
   .have h4':¬ ((jR (l.zip r)).lo<20*w.shrink.lo\/20*w.shrink.hi<(jR (l.zip r)).hi):=by simp at h3 h4;omega
    simp only [j8,e2',if_neg h1',if_neg h2',if_neg h4',go_sem,simprocAttr]
  .have h4':(jR (l.zip r)).lo<20*w.shrink.lo\/20*w.shrink.hi<(jR (l.zip r)).hi:=.inl (by simpa using h3);simp only [j8,e2',if_neg h1',if_neg h2',if_pos h4',go_sem,simprocAttr]
 .intro done x rest _ e1 e2 hx hlt hnx;have g1:(done.length:Int)<(r.length:Int):=by omega
  have g2:(done.length:Int)<(l.length:Int):=by omega
  have g3:(done.length:Int)<(w.parts.length:Int):=by omega
  have x1:r[done.length]?=some x.1:=by rw [<-hz1,cv,hx];rfl
  have x2:w.parts[done.length]?=some x.2:=by rw [<-hz2,cv,hx];rfl
  simp only [g1,g3,x1,x2,go_sem,simprocAttr]
  first
   |(first | refine ae (js _ _ [_] true (by simp)) rfl ?_ | refine aD (js _ _ [_] true (by simp)) rfl ?_)
   |(first | refine ae (BV _ _ _) rfl ?_ | refine aD (BV _ _ _) rfl ?_)
  simp only [bp,bF,bS,go_sem,simprocAttr];cases hg:ar x.1 x.2.lo x.2.hi
  .simp only [go_sem,simprocAttr];have e2':ox w r=true:=by rw [e2,bp,hg];rfl
   simp only [j8,e2',go_sem,simprocAttr]
  .simp only [go_sem,simprocAttr];refine aF e1 () (by rw [e2,bp,hg];rfl) ?_;simp only [hnx,go_sem,simprocAttr]
def iY (a b:Int):List Int:=(List.range (b+1-a).toNat).map λ(i:Nat)=>a+(i:Int)
theorem QP (a b):(iY a b).length=(b+1-a).toNat:=by simp [iY]
theorem QQ {a b y} {i:Nat} (h:(iY a b)[i]?=some y):y=a+(i)/\y<=b:=by
 unfold iY at h;rw [cv,bT] at h;obtain ⟨k,h1,rfl⟩:=h;obtain ⟨h2,h3⟩:=aE.1 h1;simp at h2 h3;subst h3;exact ⟨rfl,by omega⟩
theorem xk {a b y}:y∈iY a b↔a<=y/\y<=b:=by
 unfold iY;rw [ec];constructor
 .rintro ⟨i,hi,rfl⟩
  rw [Be] at hi;omega
 .rintro ⟨h1,h2⟩
  exact ⟨(y-a).toNat,by rw [Be];omega,by omega⟩
def p7:Nat->Int->List (List Int)
 |0,left=>[[left]]
 |k+1,left=>(iY 0 left).flatMap λn=>(p7 k (left-n)).map (n::·)
theorem If:∀ (k) (left) (r),0<=left->r∈p7 k left->r.length=k+1/\(∀ n,n∈r->0<=n/\n<=left)/\r.sum=left
 |0,left,r,h0,h=>by
  simp [p7] at h;subst h;refine ⟨rfl,λn hn=>?_,by simp⟩;simp at hn
  omega
 |k+1,left,r,h0,h=>by
  rw [p7,En] at h;obtain ⟨n,hn,h⟩:=h;rw [ec] at h;obtain ⟨t,ht,rfl⟩:=h;have hn':=xk.1 hn;obtain ⟨h1,h2,h3⟩:=If k (left-n) t (by omega) ht;refine ⟨by simp [h1],λm hm=>?_,by simp [h3];omega⟩;rcases bw.1 hm with rfl | hm
  .omega
  .have:=h2 m hm;omega
theorem xU (n) (h) (m):∀ l,aU (ci n h) (l.map .p++m)=(aU (ci n h) m).map (l++·)
 |[]=>by cases hf:aU (ci n h) m<;>simp [hf]
 |x::r=>by
  rw [bB,hG,aU,xU n h m r,er];cases aU (ci n h) m<;>rfl
theorem Ln {α β:Type} (f:α->β) (l:List α) (x):(l.map f++[x]).take (l.length+1)=l.map f++[x]:=ga (by simp)
attribute [go_sem] xU Ln
def TA (ls:List (List Int)):PV:=.slice 1 (ls.map λr=>.slice 1 (r.map aK) false) false
attribute [go_sem] TA
def fits (l:List BdWax) (w:BdWish):List (List Int):=(p7 (l.length-1) 20).filter λr=>j8 l w r==0
theorem N0 {l} (hl:BdWaxesOk l) {r} (h:r∈p7 (l.length-1) 20):RecOk l.length r:=by
 obtain ⟨h1,h2,h3⟩:=If _ _ _ (by omega) h;have:=hl.len;exact ⟨by omega,h2,h3⟩
theorem yZ {l} {w} (hl:BdWaxesOk l) {r} (h:r∈fits l w):RecOk l.length r/\j8 l w r=0:=by
 obtain ⟨h1,h2⟩:=List.mem_filter.1 h;exact ⟨N0 hl h1,by simpa using h2⟩
end Abs
end Go.Proofs.YtfafnkpfamgbbaaGreatDoor
