/- CONTRACTS of the program's functions, and laws on what they return. No conditions but those in the theorems' heads. -/
import Derived.Test.YtnjiadikeacfaaaGreatDoorLibGoX
set_option linter.all false
open Go.Proofs.Tryz renaming prog->TP
namespace Go.Proofs.YtnjiadikeacfaaaGreatDoor
namespace Abs
namespace Cl
set_option maxRecDepth 4000
theorem Uk(n lo hi):af TP 63 [.int .i64 n,.int .i64 lo,.int .i64 hi] (.bool (al n lo hi)):=by
 refine aa (ah Tryz.func63 rfl (by kernel_rfl)) rfl ?_;simp only[go_sem,simprocAttr];refine aR (λhb=>?_) (λhb=>?_)<;>simp only[hb,go_sem,simprocAttr]<;>simp[al,hb]
theorem An(lo hi n):af TP 249 [.int .i64 n,.ptr 1 [.int .i64 lo] 0 0,.ptr 1 [.int .i64 hi] 0 0] (.bool (!al n lo hi)):=by
 refine aa (ah Tryz.func249 rfl (by kernel_rfl)) rfl ?_;simp only[go_sem,simprocAttr];refine aR (λhb=>?_) (λhb=>?_)<;>simp only[hb,go_sem,simprocAttr]<;>simp_all [al];rw[<-decide_not];congr 1;simp
theorem eS(lo hi)(l:List Int)(b)(hl:l.length<1000000000):af TP 191 [.int .i64 lo,.int .i64 hi,.slice 1 (l.map aG) b] (.bool (l.any λn=>!al n lo hi)):=by
 refine aa (ah Tryz.func191 rfl (by kernel_rfl)) rfl ?_;simp only[go_sem,simprocAttr];refine aY (jF (fv:=.func (.func 249) [] [.ptr 1 [.int .i64 lo] 0 0,.ptr 1 [.int .i64 hi] 0 0]) l (λn=>!al n lo hi) b 1 rfl hl λn _=>⟨_,_,_,rfl,An lo hi n⟩) ?_ (.bool _) ?_
 .simp only[go_sem,simprocAttr]
 .simp only[go_sem,simprocAttr]
def fL (many:Nat) (c:ClColour):Int:=
 if c.shows.length=many then(if(c.shows.any λn=>!al n 0 1000)=true then 7 else dj c.stay.lo c.stay.hi 0 1000) else 3
def eh (many:Nat) (before:List ByteArray) (c:ClColour):Int:=if ak before c.name=0 then fL many c else ak before c.name
def ez (s:ClShop):Int:=if al s.colours.length 1 6=true then(if al s.rinse 0 10000=true then dj s.keep.lo s.keep.hi 0 1000 else 7) else 3
def clCheck (s:ClShop):Int×Int×Int:=
 if ez s=0 then(match firstErr (eh s.colours.length) (·.name) s.colours []with|some (i,e)=>(2,i,e)|none=>(0,0,0)) else(1,0,ez s)
theorem Mi{s}{done r}{x}(h0:ez s=0)(e2:firstErr (eh s.colours.length) (·.name) s.colours []=firstErr (eh s.colours.length) (·.name) (x::r) (done.map (·.name))) :
  (eh s.colours.length (done.map (·.name)) x=0->firstErr (eh s.colours.length) (·.name) s.colours []=firstErr (eh s.colours.length) (·.name) r ((done++[x]).map (·.name))) /\
  ∀e,eh s.colours.length (done.map (·.name)) x=e->e≠0->clCheck s=(2,(done.length:Int),e):=by
 have hE:firstErr (eh s.colours.length) (·.name) s.colours []=if eh s.colours.length (done.map (·.name)) x=0 then firstErr (eh s.colours.length) (·.name) r ((done++[x]).map (·.name)) else some ((done.length:Int),eh s.colours.length (done.map (·.name)) x):=by
  rw[e2,firstErr];simp
 exact⟨λh=>by rw[hE,if_pos h],λe he hne=>by rw[clCheck,if_pos h0,hE,he,if_neg hne]⟩
theorem VZ(s)(b c d)(x:ClColour):af TP 193 [x.pv,.ptr 4 [.agg [.str s,b,c,d]] 0 0] (.bool (x.name==s)):=by
 refine aa (ah Tryz.func193 rfl (by kernel_rfl)) rfl ?_;simp only[go_sem,simprocAttr]
set_option maxHeartbeats 2000000 in
theorem pj(s):af TP 125 [s.pv] (aj (clCheck s)):=by
 refine aa (ah Tryz.func125 rfl (by kernel_rfl)) rfl ?_;simp only[go_sem,simprocAttr];refine ae (eS 1 6 [_] true (by simp)) rfl ?_;simp only[bF,bp,cl,go_sem,simprocAttr];cases h1:al s.colours.length 1 6
 .have hh:ez s=3:=by rw[ez,h1];rfl
  simp only[aj,clCheck,hh,go_sem,simprocAttr]
 simp only[go_sem,simprocAttr];refine ae (eS 0 10000 [_] true (by simp)) rfl ?_;simp only[bF,bp,cl,go_sem,simprocAttr];cases h2:al s.rinse 0 10000
 .have hh:ez s=7:=by rw[ez,h1,h2];rfl
  simp only[aj,clCheck,hh,go_sem,simprocAttr]
 simp only[go_sem,simprocAttr];refine ae (eS 0 1000 [_,_] true (by simp)) rfl ?_;simp only[bF,bp,cl,<-iD,go_sem,simprocAttr];have hh:ez s=dj s.keep.lo s.keep.hi 0 1000:=by rw[ez,h1,h2];rfl
 unfold dj at hh;cases h3:(al s.keep.lo 0 1000&&al s.keep.hi 0 1000)
 .rw[if_neg (by rw[<-dD,h3];decide)]at hh;simp only[aj,clCheck,hh,go_sem,simprocAttr]
 rw[if_pos (by rw[<-dD,h3])]at hh;simp only[go_sem,simprocAttr];cases h4:decide (s.keep.hi<s.keep.lo);rotate_left
 .rw[if_pos (by simpa using h4)]at hh;simp only[aj,clCheck,hh,go_sem,simprocAttr]
 rw[if_neg (by simpa using h4)]at hh;have hlk:s.colours.length<=6:=by simp[al]at h1;omega
 simp only[go_sem,simprocAttr]
 refine bm [1,37,38] s.colours (by omega) (τ:=Unit) (λdone rest _=>firstErr (eh s.colours.length) (·.name) s.colours []=firstErr (eh s.colours.length) (·.name) rest (done.map (·.name)))
  (λdone _=>[(39,.p (.int .i64 done.length)),(4,.p (.int .i64 0))]) (λ_ _=>[.row 4 [.p s.pv]]) () rfl ?_ ?_ ?_
 .simp only[go_sem,simprocAttr]<;>simp
 .intro _ e2;have:clCheck s=(0,0,0):=by rw[clCheck,if_pos hh,e2];rfl
  simp only[aj,this,go_sem,simprocAttr]
 .intro done x r _ e1 e2 hx hlt hnx;obtain⟨go,fin⟩:=Mi hh e2;have hle:((done.length:Nat):Int)<=(s.colours.length:Int):=by omega
  have htk:(s.colours.map ClColour.pv).take done.length=done.map ClColour.pv:=by
   rw[e1,ca,jL (by simp)]
  have hdl:done.length<1000000:=by have:=congrArg List.length e1;simp at this;omega
  have hfl:(done.length==s.colours.length)=false:=by simp;omega
  simp only[hlt,hx,go_sem,simprocAttr];refine ae (jn x.name) rfl ?_;simp only[go_sem,simprocAttr];cases hn:nameOk x.name
  .have he:ak (done.map (·.name)) x.name=6:=by simp[ak,hn]
   simp only[aj,fin 6 (by rw[eh,he];rfl) (by decide),go_sem,simprocAttr]
  simp only[hle,htk,hfl,go_sem,simprocAttr];refine aY (Bv (fv:=.func (.func 193) [] [.ptr 4 [x.pv] 0 0]) done (λy=>y.name==x.name) false 4 rfl (by omega) λy _=>⟨_,_,_,rfl,VZ x.name _ _ _ y⟩) ?_ (.bool _) ?_
  .simp only[go_sem,simprocAttr]
  simp only[go_sem,simprocAttr];cases h5:(done.any λy=>y.name==x.name)
  rotate_left
  .have he:ak (done.map (·.name)) x.name=5:=by simp only[ak,hn,jP,jw,h5,if_true]
   simp only[aj,fin 5 (by rw[eh,he];rfl) (by decide),go_sem,simprocAttr]
  have he:ak (done.map (·.name)) x.name=0:=by simp only[ak,hn,jP,jw,h5,if_true,d4,if_false]
  have hb:eh s.colours.length (done.map (·.name)) x=fL s.colours.length x:=by rw[eh,if_pos he]
  simp only[go_sem,simprocAttr];cases h6:((x.shows.length:Int) != (s.colours.length:Int))
  rotate_left
  .have h6':¬x.shows.length=s.colours.length:=by simp at h6;omega
   simp only[aj,fin 3 (by rw[hb,fL,if_neg h6']) (by decide),go_sem,simprocAttr]
  have h6':x.shows.length=s.colours.length:=by simp at h6;omega
  simp only[go_sem,simprocAttr];refine ae (eS 0 1000 x.shows false (by omega)) rfl ?_;simp only[go_sem,simprocAttr];cases h7:(x.shows.any λn=>!al n 0 1000)
  rotate_left
  .simp only[aj,fin 7 (by rw[hb,fL,if_pos h6',h7];rfl) (by decide),go_sem,simprocAttr]
  simp only[go_sem,simprocAttr];refine ae (eS 0 1000 [_,_] true (by simp)) rfl ?_;simp only[bF,bp,cl,<-iD,go_sem,simprocAttr];rw[fL,if_pos h6',h7,if_neg (by decide)]at hb;unfold dj at hb;cases h8:(al x.stay.lo 0 1000&&al x.stay.hi 0 1000)
  .rw[if_neg (by rw[<-dD,h8];decide)]at hb;simp only[aj,fin 7 hb (by decide),go_sem,simprocAttr]
  rw[if_pos (by rw[<-dD,h8])]at hb;simp only[go_sem,simprocAttr];cases h9:decide (x.stay.hi<x.stay.lo);rotate_left
  .rw[if_pos (by simpa using h9)]at hb;simp only[aj,fin 2 hb (by decide),go_sem,simprocAttr]
  rw[if_neg (by simpa using h9)]at hb;simp only[go_sem,simprocAttr];refine aE e1 () (go hb) ?_;simp only[hnx,go_sem,simprocAttr]
theorem FA(c)(many:Nat)(hm:many<1000000000):af TP 64 [c.pv,.int .i64 many] (.int .i64 (fL many c)):=by
 refine aa (ah Tryz.func64 rfl (by kernel_rfl)) rfl ?_;simp only[go_sem,simprocAttr];cases h6:((c.shows.length:Int) != (many:Int))
 rotate_left
 .have h6':¬c.shows.length=many:=by simp at h6;omega
  simp only[fL,if_neg h6',go_sem,simprocAttr]
 have h6':c.shows.length=many:=by simp at h6;omega
 subst h6';have hb:fL c.shows.length c=if(c.shows.any λn=>!al n 0 1000)=true then 7 else dj c.stay.lo c.stay.hi 0 1000:=by rw[fL,if_pos rfl]
 rw[hb];simp only[go_sem,simprocAttr];refine bm [1,2] c.shows hm (τ:=Unit) (λdone rest _=>(c.shows.any λn=>!al n 0 1000)=(rest.any λn=>!al n 0 1000)) (λdone _=>[(5,.p (.int .i64 done.length))]) (λ_ _=>[.row 4 [.p c.pv]]) () rfl ?_ ?_ ?_
 .simp only[go_sem,simprocAttr]<;>simp
 .intro _ e2;rw[bp]at e2;rw[e2,if_neg (by decide)];simp only[go_sem,simprocAttr];refine ae (oF _ _ _ _) rfl ?_;simp only[go_sem,simprocAttr]
 .intro done n r _ e1 e2 hx hlt hnx;rw[bF]at e2;simp only[hlt,hx,go_sem,simprocAttr];refine ae (Uk _ _ _) rfl ?_;simp only[go_sem,simprocAttr];cases h3:al n 0 1000
  .rw[h3,xZ,tg]at e2;rw[e2,if_pos rfl];simp only[go_sem,simprocAttr]
  .rw[h3,Bool.not_true,jQ]at e2;simp only[go_sem,simprocAttr];refine aE e1 () e2 ?_;simp only[hnx,go_sem,simprocAttr]
set_option maxHeartbeats 2000000 in
theorem ph(s):af TP 17 [s.pv] (aj (clCheck s)):=by
 refine aa (ah Tryz.func17 rfl (by kernel_rfl)) rfl ?_;simp only[go_sem,simprocAttr];refine ae (Uk _ _ _) rfl ?_;simp only[go_sem,simprocAttr];cases h1:al s.colours.length 1 6
 .have hh:ez s=3:=by rw[ez,h1];rfl
  simp only[aj,clCheck,hh,go_sem,simprocAttr]
 simp only[go_sem,simprocAttr];refine ae (oF _ _ _ _) rfl ?_;simp only[go_sem,simprocAttr];refine ae (Uk _ _ _) rfl ?_;simp only[go_sem,simprocAttr];cases h2:al s.rinse 0 10000
 .have hh:ez s=7:=by rw[ez,h1,h2];rfl
  simp only[aj,clCheck,hh,go_sem,simprocAttr]
 have hh:ez s=dj s.keep.lo s.keep.hi 0 1000:=by rw[ez,h1,h2];rfl
 simp only[go_sem,simprocAttr];rw[<-hh];cases h3:(ez s != 0)
 rotate_left
 .have h3':¬ez s=0:=by simpa using h3
  simp only[aj,clCheck,if_neg h3',go_sem,simprocAttr]
 have h3':ez s=0:=by simpa using h3
 have hlk:s.colours.length<=6:=by simp[al]at h1;omega
 simp only[go_sem,simprocAttr];refine ck 6 1 (by simp only[go_sem,simprocAttr]) ?_;simp only[go_sem,simprocAttr]
 refine bm [1] s.colours (by omega) (τ:=Unit) (λdone rest _=>firstErr (eh s.colours.length) (·.name) s.colours []=firstErr (eh s.colours.length) (·.name) rest (done.map (·.name)))
  (λdone _=>[(6,.slice 1 done.length 0 done.length),(7,.p (.int .i64 done.length))]) (λdone _=>[.row 4 [.p s.pv],.row 1 (done.map λx=>.p (.str x.name))]) () rfl ?_ ?_ ?_
 .simp only[go_sem,simprocAttr]<;>simp
 .intro _ e2;have:clCheck s=(0,0,0):=by rw[clCheck,if_pos h3',e2];rfl
  simp only[aj,this,go_sem,simprocAttr]
 .intro done x r _ e1 e2 hx hlt hnx;obtain⟨go,fin⟩:=Mi h3' e2;have hdl:done.length<s.colours.length:=by have:=congrArg List.length e1;simp at this;omega
  have hrm:done.length+1<=ar:=by simp[ar];omega
  simp only[hlt,hx,go_sem,simprocAttr];refine aY (je x.name (done.map (·.name)) false (done.map λx=>.str x.name) (by simp) (by simp;omega)) ?_ (.int _ _) ?_
  .simp only[go_sem,simprocAttr]
  simp only[hrm,hlt,hx,go_sem,simprocAttr];cases h5:(ak (done.map (·.name)) x.name==0)
  .have h5':ak (done.map (·.name)) x.name≠0:=by simpa using h5
   have h5n:(ak (done.map (·.name)) x.name != 0)=true:=by simp[bne,h5]
   simp only[h5n,aj,fin _ (by rw[eh,if_neg h5']) h5',go_sem,simprocAttr]
  have h5':ak (done.map (·.name)) x.name=0:=by simpa using h5
  have hb:eh s.colours.length (done.map (·.name)) x=fL s.colours.length x:=by rw[eh,if_pos h5']
  simp only[hx,hlt,go_sem,simprocAttr]
  (first|refine ae (FA x s.colours.length (by omega)) rfl ?_|refine ay (FA x s.colours.length (by omega)) rfl ?_)
  simp only[go_sem,simprocAttr];cases h6:(fL s.colours.length x != 0)
  rotate_left
  .have h6':fL s.colours.length x≠0:=by simpa using h6
   simp only[aj,fin _ hb h6',go_sem,simprocAttr]
  have h6':fL s.colours.length x=0:=by simpa using h6
  simp only[go_sem,simprocAttr];refine aE e1 () (go (hb.trans h6')) ?_;simp only[hnx,go_sem,simprocAttr];all_goals simp
theorem wX(b)(e)(h):aB TP 310 [.p (.bool b),.p (.int .i64 e)] h (λr h'=>h'=h/\r=if b=true then .ret (.p (.tuple [])) else .panic (.iface 44 (.int .i64 e))):=by
 refine aA (ah Tryz.func310 rfl (by kernel_rfl)) rfl ?_;simp only[go_sem,simprocAttr];cases b
 .simp only[go_sem,simprocAttr]
 .simp only[go_sem,simprocAttr]
theorem au{H}{Q}{ops}{rest}{dst}{A}{b}{e}(h1:b=true->@WO ⟨TP,H,ops,rest,Q⟩ (A.put dst (.p (.tuple [])) A.h))
  (h2:b=false->@WQ ⟨Q⟩ (.panic (.iface 44 (.int .i64 e))) A):@WF ⟨TP,H,ops,rest,Q,dst⟩ A 310 [.p (.bool b),.p (.int .i64 e)]:=by
 refine cp (wX b e A.h) (λv h hr=>?_) (λv h hr=>?_)
 .obtain⟨rfl,hr⟩:=hr;cases b
  .cases hr
  .cases hr;exact h1 rfl
 .obtain⟨rfl,hr⟩:=hr;cases b
  .cases hr;exact h2 rfl
  .cases hr
theorem Pu{H}{Q}{ops}{rest}{o}{hs}{A}{e}(h:∀T,@WQ ⟨Q⟩ (.panic (.iface 44 (.int .i64 e))) { A with tmps:=T }) :
  @MZ ⟨TP,H,ops,rest,Q,o⟩ hs A (.call 310 [.p (.bool false),.p (.int .i64 e)]):=by
 refine .inr ⟨_,(wX false e A.h).mono λr h' hr=>?_,h⟩;exact⟨hr.2,hr.1⟩
def eD (s:ClShop) (b:ClBatch):Int:=if al b.colour 0 ((s.colours.length:Int)-1)=true then(if al b.grams 1 100000=true then 0 else 7) else 4
def fe (s:ClShop):List ClBatch->Int
 |[]=>0
 |b::l=>if eD s b=0 then fe s l else eD s b
def sI (s:ClShop) (l:List ClBatch):Int:=if l.length<=7 then fe s l else 3
def dJ (s:ClShop) (aW:Int) (l:List ClBatch):Int:=
 if(clCheck s).2.2=0 then(if al aW 0 ((s.colours.length:Int)-1)=true then sI s l else 4) else(clCheck s).2.2
def BY (s:ClShop) (l:List ClBatch) (m:PV):List PV:=[.slice 4 (s.colours.map ClColour.pv) false,.int .i64 s.keep.lo,.int .i64 s.keep.hi,.int .i64 s.rinse,.slice 2 (l.map ClBatch.pv) false,m]
def Ja (s:ClShop) (l:List ClBatch):PV:=.ptr 6 [.agg (BY s l .any)] 0 0
attribute [go_sem] BY Ja
structure ShopOk (s:ClShop):Prop where
 len:1<=s.colours.length/\s.colours.length<=6
 keep:0<=s.keep.lo/\s.keep.lo<=s.keep.hi/\s.keep.hi<=1000
 rinse:0<=s.rinse/\s.rinse<=10000
 shows:∀c,c∈s.colours->c.shows.length=s.colours.length/\∀n,n∈c.shows->0<=n/\n<=1000
 stay:∀c,c∈s.colours->0<=c.stay.lo/\c.stay.lo<=c.stay.hi/\c.stay.hi<=1000
theorem eR{α}{f:List ByteArray->α->Int}{nm}:∀{l} {before},firstErr f nm l before=none->∀x,x∈l->∃bs,f bs x=0
 |[],_,_,x,hx=>by cases hx
 |y::l,before,h,x,hx=>by
  rw[firstErr]at h;split at h
  .rename_i h0;rcases ce.1 hx with rfl|hx
   .exact⟨_,h0⟩
   .exact eR h x hx
  .cases h
theorem ia{α}{f:List ByteArray->α->Int}{nm}:∀{l} {before} {i e},firstErr f nm l before=some (i,e)->e≠0
 |[],_,_,_,h=>by cases h
 |y::r,before,i,e,h=>by
  rw[firstErr]at h;split at h
  .exact ia h
  .rename_i h0;cases h;exact h0
theorem z8{a b lo hi}(h:dj a b lo hi=0):lo<=a/\a<=b/\b<=hi:=by
 unfold dj at h;split at h
 .rename_i h1;simp[al]at h1;split at h
  .cases h
  .omega
 .cases h
theorem wG{s}(h:(clCheck s).2.2=0):ShopOk s:=by
 unfold clCheck at h;split at h
 .rename_i h1;unfold ez at h1;split at h1
  .rename_i g1;split at h1
   .rename_i g2;have g3:=z8 h1;simp[al]at g1 g2;have hc:∀c,c∈s.colours->fL s.colours.length c=0:=by
     intro c hc;split at h
     .rename_i i e he;exact absurd h (ia he)
     .rename_i he;obtain⟨bs,h0⟩:=eR he c hc;unfold eh at h0;split at h0
      .exact h0
      .contradiction
    refine⟨by omega,g3,g2,λc hcm=>?_,λc hcm=>?_⟩
    .have:=hc c hcm;unfold fL at this;split at this
     .rename_i e1;split at this
      .cases this
      .rename_i e2;refine⟨e1,λn hn=>?_⟩;simp only[Dq,not_exists,not_and]at e2;have:=e2 n hn;simpa[al]using this
     .cases this
    .have:=hc c hcm;unfold fL at this;split at this
     .split at this
      .cases this
      .exact z8 this
     .cases this
   .cases h1
  .cases h1
 .contradiction
structure BatchOk (s:ClShop) (b:ClBatch):Prop where
 colour:0<=b.colour/\b.colour<s.colours.length
 grams:1<=b.grams/\b.grams<=100000
theorem Pd{s}{b}(h:eD s b=0):BatchOk s b:=by
 unfold eD at h;split at h
 .rename_i h1;split at h
  .rename_i h2;simp[al]at h1 h2;exact⟨by omega,h2⟩
  .cases h
 .cases h
theorem Ax{s}:∀{l},fe s l=0->∀b,b∈l->BatchOk s b
 |[],_,b,hb=>by cases hb
 |x::l,h,b,hb=>by
  rw[fe]at h;split at h
  .rename_i h0;rcases ce.1 hb with rfl|hb
   .exact Pd h0
   .exact Ax h b hb
  .contradiction
def n7 (s:ClShop) (before:Int) (b:ClBatch) (r:Nat):Bool:=
 match s.colours[before.toNat]? with
 |some x=>(match x.shows[b.colour.toNat]? with|some n=>before != b.colour&&decide (b.grams*n*1000^r<1000*x.stay.hi*s.keep.hi^r)|none=>false)
 |none=>false
def ni (can:Nat->Bool):Nat->Nat->Int
 |0,_=>-1
 |c+1,r=>if can r=true then ni can c (r+1) else r
def iG (s:ClShop) (before:Int) (b:ClBatch):Int:=ni (n7 s before b) 4 0
theorem PK{k:Int}(h0:0<=k)(h1:k<=1000):∀r,0<=k^r/\k^r<=1000^r
 |0=>by simp
 |r+1=>by
  have ih:=PK h0 h1 r;rw[Int.pow_succ,Int.pow_succ];exact⟨tu ih.1 h0,AK ih.2 h1 h0 (wA ih.1 ih.2)⟩
theorem xa(n keep)(r:Nat)(hn:0<=n/\n<=1000000000)(hk:0<=keep/\keep<=1000)(hr:r<=3):af TP 333 [.int .i64 n,.int .i64 keep,.int .i64 r] (.int .i64 (n*keep^r)):=by
 refine aa (ah Tryz.func333 rfl (by kernel_rfl)) rfl ?_;simp only[go_sem,simprocAttr];have hB:∀k:Nat,k<=3->0<=n*keep^k/\n*keep^k<=1000000000000000000:=λk hk3=>by
  have h1:=PK hk.1 hk.2 k;have h2:(1000:Int)^k<=1000000000:=by
   match k,hk3 with
   |0,_=>decide
   |1,_=>decide
   |2,_=>decide
   |3,_=>decide
  exact⟨tu hn.1 h1.1,by have:=AK hn.2 (wA h1.2 h2) h1.1 (by omega:(0:Int)<=1000000000);omega⟩
 refine eO [1,7] (σ:=Nat) (λk=>k<=r) (λk=>r-k) (λk=>[(0,.p (.int .i64 (n*keep^k))),(8,.p (.int .i64 k))]) (λk=>[]) 0 (cV _) rfl ?_ ?_
 .simp only[go_sem,simprocAttr];simp
 intro k hkr;rcases IS hkr with rfl|hlt
 .have hd:decide ((k:Int)<(k:Int))=false:=by simp
  simp only[go_sem,simprocAttr]
 have hd:decide ((k:Int)<(r:Int))=true:=by simp;omega
 have hw:IntKind.i64.wrap ((k:Int)+1)=((k+1:Nat):Int):=be (by omega) (by simp[ar];omega) (by omega);have hB1:=hB (k+1) (by omega);have hm:IntKind.i64.wrap (n*keep^k*keep)=n*keep^(k+1):=by
  rw[Int.pow_succ,<-uS]at hB1 |-;exact am (by omega) (by omega)
 simp only[hd,go_sem,simprocAttr];refine br (k+1) (by omega) (by omega) rfl ?_;simp only[hw,hm,go_sem,simprocAttr]
theorem Uc(s)(l)(before:Int)(b)(r:Nat)(hs:ShopOk s)(hb:BatchOk s b)(h0:0<=before/\before<s.colours.length)(hr:r<=3) :
  af TP 324 [Ja s l,.int .i64 before,b.pv,.int .i64 r] (.bool (n7 s before b r)):=by
 refine aa (ah Tryz.func324 rfl (by kernel_rfl)) rfl ?_;obtain⟨i,rfl⟩:∃i:Nat,before=(i:Int):=⟨before.toNat,by omega⟩
 obtain⟨j,hj⟩:∃j:Nat,b.colour=(j:Int):=⟨b.colour.toNat,by have:=hb.colour;omega⟩
 have hbc:=hb.colour;obtain⟨x,hx⟩:∃x,s.colours[i]?=some x:=⟨_,bA (by omega)⟩
 have hxm:=aT hx;have hsl:=(hs.shows x hxm).1;obtain⟨n,hn⟩:∃n,x.shows[j]?=some n:=⟨_,bA (by omega)⟩
 have hnb:=(hs.shows x hxm).2 n (aT hn);have hst:=hs.stay x hxm;have hg:=hb.grams;have il:(i:Int)<(s.colours.length:Int):=h0.2;have jl:(j:Int)<(x.shows.length:Int):=by omega
 have mB:0<=b.grams*n/\b.grams*n<=100000000:=⟨tu (by omega) hnb.1,by have:=AK hg.2 hnb.2 hnb.1 (by omega:(0:Int)<=100000);omega⟩
 have w1:IntKind.i64.wrap (b.grams*n)=b.grams*n:=am (by omega) (by omega);have w2:IntKind.i64.wrap (1000*x.stay.hi)=1000*x.stay.hi:=am (by omega) (by omega);have hsp:n7 s (i:Int) b r=((i:Int) != (j:Int)&&decide (b.grams*n*1000^r<1000*x.stay.hi*s.keep.hi^r)):=by
  simp only[n7,jO,hx,hj,hn]
 rw[hsp];simp only[hx,il,hj,hn,jl,w1,go_sem,simprocAttr];cases hc:((i:Int) != (j:Int))
 .simp only[go_sem,simprocAttr]
 simp only[w2,go_sem,simprocAttr]
 (first|refine ae (xa (1000*x.stay.hi) s.keep.hi r (by omega) (by have:=hs.keep;omega) hr) rfl ?_|refine ay (xa (1000*x.stay.hi) s.keep.hi r (by omega) (by have:=hs.keep;omega) hr) rfl ?_)
 simp only[go_sem,simprocAttr]
 (first|refine ae (xa (b.grams*n) 1000 r (by omega) (by omega) hr) rfl ?_|refine ay (xa (b.grams*n) 1000 r (by omega) (by omega) hr) rfl ?_)
 simp only[go_sem,simprocAttr]
theorem RF(s)(l)(before:Int)(b)(hs:ShopOk s)(hb:BatchOk s b)(h0:0<=before/\before<s.colours.length) :
  af TP 313 [Ja s l,.int .i64 before,b.pv] (.int .i64 (iG s before b)):=by
 refine aa (ah Tryz.func313 rfl (by kernel_rfl)) rfl ?_;simp only[go_sem,simprocAttr];refine fp [0,1,5] (σ:=Nat) (λk=>k<=4/\iG s before b=ni (n7 s before b) (4-k) k) (λk=>4-k) (λk=>[(8,.p (.int .i64 k))]) (λk=>[.row 2 [.p b.pv]]) 0 ⟨by decide,rfl⟩ ?_ ?_
 .simp only[go_sem,simprocAttr]<;>simp
 intro k ⟨hk,e2⟩;rcases IS hk with rfl|hlt
 .rw[show 4-4=0 from rfl,ni]at e2;simp only[e2,go_sem,simprocAttr]
 have hd:decide ((k:Int)<4)=true:=by simp;omega
 have hw:IntKind.i64.wrap ((k:Int)+1)=((k+1:Nat):Int):=be (by omega) (by simp[ar];omega) (by omega);rw[show 4-k=(4-(k+1))+1 by omega,ni]at e2;simp only[hd,go_sem,simprocAttr];refine aY (Uc s l before b k hs hb h0 (by omega)) ?_ (.bool _) ?_
 .simp only[go_sem,simprocAttr]
 simp only[go_sem,simprocAttr];cases hc:n7 s before b k
 .rw[hc,if_neg (by decide)]at e2;simp only[e2,go_sem,simprocAttr]
 .rw[hc,if_pos rfl]at e2;simp only[go_sem,simprocAttr];refine bY (k+1) ⟨by omega,e2⟩ (by omega) ?_;simp only[hw,go_sem,simprocAttr]
end Cl
end Abs
end Go.Proofs.YtnjiadikeacfaaaGreatDoor
