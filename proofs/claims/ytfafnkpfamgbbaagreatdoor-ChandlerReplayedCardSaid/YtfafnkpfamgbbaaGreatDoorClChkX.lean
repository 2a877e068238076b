/-
  CONTRACTS: colour.Check, in the program and in the reference: both come to 'clCheck'. No c
  CONTRACTS: colour: a shop that is looked at, with batches; what a batch needs after a colo
-/
import Derived.Test.YtfafnkpfamgbbaaGreatDoorAbsCutX
import Derived.Test.YtfafnkpfamgbbaaGreatDoorLibGoX
set_option linter.unusedSimpArgs false
set_option linter.unusedVariables false
open Go.Proofs.Tryz renaming prog->TP
namespace Go.Proofs.YtfafnkpfamgbbaaGreatDoor
namespace Abs
namespace Cl
set_option maxRecDepth 4000
theorem UK (n lo hi):ah TP 76 [.int .i64 n,.int .i64 lo,.int .i64 hi] (.bool (ar n lo hi)):=by
 refine aa (ai (by kernel_rfl) rfl zbB) rfl ?_;simp only [go_sem,simprocAttr];refine aT (λhb=>?_) (λhb=>?_)<;>simp only [hb,go_sem,simprocAttr]<;>simp [ar,hb]
theorem AL (lo hi n):ah TP 224 [.int .i64 n,.ptr 1 [.int .i64 lo] 0 0,.ptr 1 [.int .i64 hi] 0 0] (.bool (!ar n lo hi)):=by
 refine aa (ai (by kernel_rfl) rfl XC) rfl ?_;simp only [go_sem,simprocAttr];refine aT (λhb=>?_) (λhb=>?_)<;>simp only [hb,go_sem,simprocAttr]<;>simp_all [ar];rw [<-decide_not];congr 1;simp
theorem e8 (lo hi) (l:List Int) (b) (hl:l.length<1000000000):ah TP 162 [.int .i64 lo,.int .i64 hi,.slice 1 (l.map aK) b] (.bool (l.any λn=>!ar n lo hi)):=by
 refine aa (ai (by kernel_rfl) rfl Yk) rfl ?_;simp only [go_sem,simprocAttr];refine bf (jX (fv:=.func (.func 224) [] [.ptr 1 [.int .i64 lo] 0 0,.ptr 1 [.int .i64 hi] 0 0]) l (λn=>!ar n lo hi) b 1 rfl hl λn _=>⟨_,_,_,rfl,AL lo hi n⟩) ?_ (.bool _) ?_
 .simp only [go_sem,simprocAttr]
 .simp only [go_sem,simprocAttr]
def fO (many:Nat) (c:ClColour):Int :=
 if c.shows.length=many then (if (c.shows.any λn=>!ar n 0 1000)=true then 7 else du c.stay.lo c.stay.hi 0 1000) else 3
def eu (many:Nat) (before:List ByteArray) (c:ClColour):Int:=if am before c.name=0 then fO many c else am before c.name
def eJ (s:ClShop):Int:=if ar s.colours.length 1 6=true then (if ar s.rinse 0 10000=true then du s.keep.lo s.keep.hi 0 1000 else 7) else 3
def clCheck (s:ClShop):Int×Int×Int :=
 if eJ s=0 then (match firstErr (eu s.colours.length) (·.name) s.colours [] with | some (i,e)=>(2,i,e) | none=>(0,0,0)) else (1,0,eJ s)
theorem ME {s} {done r} {x} (h0:eJ s=0) (e2:firstErr (eu s.colours.length) (·.name) s.colours []=firstErr (eu s.colours.length) (·.name) (x::r) (done.map (·.name))) :
  (eu s.colours.length (done.map (·.name)) x=0->firstErr (eu s.colours.length) (·.name) s.colours []=firstErr (eu s.colours.length) (·.name) r ((done++[x]).map (·.name))) /\
  ∀ e,eu s.colours.length (done.map (·.name)) x=e->e≠0->clCheck s=(2,(done.length:Int),e):=by
 have hE:firstErr (eu s.colours.length) (·.name) s.colours []=if eu s.colours.length (done.map (·.name)) x=0 then firstErr (eu s.colours.length) (·.name) r ((done++[x]).map (·.name)) else some ((done.length:Int),eu s.colours.length (done.map (·.name)) x):=by
  rw [e2,firstErr];simp
 exact ⟨λh=>by rw [hE,if_pos h],λe he hne=>by rw [clCheck,if_pos h0,hE,he,if_neg hne]⟩
theorem Zy (s) (b c d) (x:ClColour):ah TP 164 [x.pv,.ptr 4 [.agg [.str s,b,c,d]] 0 0] (.bool (x.name==s)):=by
 refine aa (ai (by kernel_rfl) rfl Yi) rfl ?_;simp only [go_sem,simprocAttr]
set_option maxHeartbeats 2000000 in
theorem pU (s):ah TP 93 [s.pv] (al (clCheck s)):=by
 refine aa (ai (by kernel_rfl) rfl zbn) rfl ?_;simp only [go_sem,simprocAttr];refine ae (e8 1 6 [_] true (by simp)) rfl ?_;simp only [bp,bF,bS,go_sem,simprocAttr];cases h1:ar s.colours.length 1 6
 .have hh:eJ s=3:=by rw [eJ,h1];rfl
  simp only [al,clCheck,hh,go_sem,simprocAttr]
 simp only [go_sem,simprocAttr];refine ae (e8 0 10000 [_] true (by simp)) rfl ?_;simp only [bp,bF,bS,go_sem,simprocAttr];cases h2:ar s.rinse 0 10000
 .have hh:eJ s=7:=by rw [eJ,h1,h2];rfl
  simp only [al,clCheck,hh,go_sem,simprocAttr]
 simp only [go_sem,simprocAttr];refine ae (e8 0 1000 [_,_] true (by simp)) rfl ?_;simp only [bp,bF,bS,<-kO,go_sem,simprocAttr];have hh:eJ s=du s.keep.lo s.keep.hi 0 1000:=by rw [eJ,h1,h2];rfl
 unfold du at hh;cases h3:(ar s.keep.lo 0 1000&&ar s.keep.hi 0 1000)
 .rw [if_neg (by rw [<-cK,h3];decide)] at hh;simp only [al,clCheck,hh,go_sem,simprocAttr]
 rw [if_pos (by rw [<-cK,h3])] at hh;simp only [go_sem,simprocAttr];cases h4:decide (s.keep.hi<s.keep.lo);rotate_left
 .rw [if_pos (by simpa using h4)] at hh;simp only [al,clCheck,hh,go_sem,simprocAttr]
 rw [if_neg (by simpa using h4)] at hh;have hlk:s.colours.length<=6:=by simp [ar] at h1;omega
 simp only [go_sem,simprocAttr]
 refine br [1,37,38] s.colours (by omega) (τ:=Unit) (λdone rest _=>firstErr (eu s.colours.length) (·.name) s.colours []=firstErr (eu s.colours.length) (·.name) rest (done.map (·.name)))
  (λdone _=>[(39,.p (.int .i64 done.length)),(4,.p (.int .i64 0))]) (λ_ _=>[.row 4 [.p s.pv]]) () rfl ?_ ?_ ?_
 .simp only [go_sem,simprocAttr]<;>simp
 .intro _ e2;have:clCheck s=(0,0,0):=by rw [clCheck,if_pos hh,e2];rfl
  simp only [al,this,go_sem,simprocAttr]
 .intro done x r _ e1 e2 hx hlt hnx;obtain ⟨go,fin⟩:=ME hh e2;have hle:((done.length:Nat):Int)<=(s.colours.length:Int):=by omega
  have htk:(s.colours.map ClColour.pv).take done.length=done.map ClColour.pv:=by
   rw [e1,bA,d9 (by simp)]
  have hdl:done.length<1000000:=by have:=congrArg List.length e1;simp at this;omega
  have hfl:(done.length==s.colours.length)=false:=by simp;omega
  simp only [hlt,hx,go_sem,simprocAttr];refine ae (jE x.name) rfl ?_;simp only [go_sem,simprocAttr];cases hn:nameOk x.name
  .have he:am (done.map (·.name)) x.name=6:=by simp [am,hn]
   simp only [al,fin 6 (by rw [eu,he];rfl) (by decide),go_sem,simprocAttr]
  simp only [hle,htk,hfl,go_sem,simprocAttr];refine bf (BW (fv:=.func (.func 164) [] [.ptr 4 [x.pv] 0 0]) done (λy=>y.name==x.name) false 4 rfl (by omega) λy _=>⟨_,_,_,rfl,Zy x.name _ _ _ y⟩) ?_ (.bool _) ?_
  .simp only [go_sem,simprocAttr]
  simp only [go_sem,simprocAttr];cases h5:(done.any λy=>y.name==x.name)
  rotate_left
  .have he:am (done.map (·.name)) x.name=5:=by simp only [am,hn,qY,jN,h5,if_true]
   simp only [al,fin 5 (by rw [eu,he];rfl) (by decide),go_sem,simprocAttr]
  have he:am (done.map (·.name)) x.name=0:=by simp only [am,hn,qY,jN,h5,if_true,fA,if_false]
  have hb:eu s.colours.length (done.map (·.name)) x=fO s.colours.length x:=by rw [eu,if_pos he]
  simp only [go_sem,simprocAttr];cases h6:((x.shows.length:Int) != (s.colours.length:Int))
  rotate_left
  .have h6':¬ x.shows.length=s.colours.length:=by simp at h6;omega
   simp only [al,fin 3 (by rw [hb,fO,if_neg h6']) (by decide),go_sem,simprocAttr]
  have h6':x.shows.length=s.colours.length:=by simp at h6;omega
  simp only [go_sem,simprocAttr];refine ae (e8 0 1000 x.shows false (by omega)) rfl ?_;simp only [go_sem,simprocAttr];cases h7:(x.shows.any λn=>!ar n 0 1000)
  rotate_left
  .simp only [al,fin 7 (by rw [hb,fO,if_pos h6',h7];rfl) (by decide),go_sem,simprocAttr]
  simp only [go_sem,simprocAttr];refine ae (e8 0 1000 [_,_] true (by simp)) rfl ?_;simp only [bp,bF,bS,<-kO,go_sem,simprocAttr];rw [fO,if_pos h6',h7,if_neg (by decide)] at hb;unfold du at hb;cases h8:(ar x.stay.lo 0 1000&&ar x.stay.hi 0 1000)
  .rw [if_neg (by rw [<-cK,h8];decide)] at hb;simp only [al,fin 7 hb (by decide),go_sem,simprocAttr]
  rw [if_pos (by rw [<-cK,h8])] at hb;simp only [go_sem,simprocAttr];cases h9:decide (x.stay.hi<x.stay.lo);rotate_left
  .rw [if_pos (by simpa using h9)] at hb;simp only [al,fin 2 hb (by decide),go_sem,simprocAttr]
  rw [if_neg (by simpa using h9)] at hb;simp only [go_sem,simprocAttr];refine aF e1 () (go hb) ?_;simp only [hnx,go_sem,simprocAttr]
theorem UG (c) (many:Nat) (hm:many<1000000000):ah TP 77 [c.pv,.int .i64 many] (.int .i64 (fO many c)):=by
 refine aa (ai (by kernel_rfl) rfl zbA) rfl ?_;simp only [go_sem,simprocAttr];cases h6:((c.shows.length:Int) != (many:Int))
 rotate_left
 .have h6':¬ c.shows.length=many:=by simp at h6;omega
  simp only [fO,if_neg h6',go_sem,simprocAttr]
 have h6':c.shows.length=many:=by simp at h6;omega
 subst h6';have hb:fO c.shows.length c=if (c.shows.any λn=>!ar n 0 1000)=true then 7 else du c.stay.lo c.stay.hi 0 1000:=by rw [fO,if_pos rfl]
 rw [hb];simp only [go_sem,simprocAttr];refine br [1,2] c.shows hm (τ:=Unit) (λdone rest _=>(c.shows.any λn=>!ar n 0 1000)=(rest.any λn=>!ar n 0 1000)) (λdone _=>[(5,.p (.int .i64 done.length))]) (λ_ _=>[.row 4 [.p c.pv]]) () rfl ?_ ?_ ?_
 .simp only [go_sem,simprocAttr]<;>simp
 .intro _ e2;rw [bF] at e2;rw [e2,if_neg (by decide)];simp only [go_sem,simprocAttr];refine ae (pg _ _ _ _) rfl ?_;simp only [go_sem,simprocAttr]
 .intro done n r _ e1 e2 hx hlt hnx;rw [bp] at e2;simp only [hlt,hx,go_sem,simprocAttr];refine ae (UK _ _ _) rfl ?_;simp only [go_sem,simprocAttr];cases h3:ar n 0 1000
  .rw [h3,tI,mO] at e2;rw [e2,if_pos rfl];simp only [go_sem,simprocAttr]
  .rw [h3,Bool.not_true,mN] at e2;simp only [go_sem,simprocAttr];refine aF e1 () e2 ?_;simp only [hnx,go_sem,simprocAttr]
set_option maxHeartbeats 2000000 in
theorem pT (s):ah TP 47 [s.pv] (al (clCheck s)):=by
 refine aa (ai (by kernel_rfl) rfl zb0) rfl ?_;simp only [go_sem,simprocAttr];refine ae (UK _ _ _) rfl ?_;simp only [go_sem,simprocAttr];cases h1:ar s.colours.length 1 6
 .have hh:eJ s=3:=by rw [eJ,h1];rfl
  simp only [al,clCheck,hh,go_sem,simprocAttr]
 simp only [go_sem,simprocAttr];refine ae (pg _ _ _ _) rfl ?_;simp only [go_sem,simprocAttr];refine ae (UK _ _ _) rfl ?_;simp only [go_sem,simprocAttr];cases h2:ar s.rinse 0 10000
 .have hh:eJ s=7:=by rw [eJ,h1,h2];rfl
  simp only [al,clCheck,hh,go_sem,simprocAttr]
 have hh:eJ s=du s.keep.lo s.keep.hi 0 1000:=by rw [eJ,h1,h2];rfl
 simp only [go_sem,simprocAttr];rw [<-hh];cases h3:(eJ s != 0)
 rotate_left
 .have h3':¬ eJ s=0:=by simpa using h3
  simp only [al,clCheck,if_neg h3',go_sem,simprocAttr]
 have h3':eJ s=0:=by simpa using h3
 have hlk:s.colours.length<=6:=by simp [ar] at h1;omega
 simp only [go_sem,simprocAttr];refine cg 6 1 (by simp only [go_sem,simprocAttr]) ?_;simp only [go_sem,simprocAttr]
 refine br [1] s.colours (by omega) (τ:=Unit) (λdone rest _=>firstErr (eu s.colours.length) (·.name) s.colours []=firstErr (eu s.colours.length) (·.name) rest (done.map (·.name)))
  (λdone _=>[(6,.slice 1 done.length 0 done.length),(7,.p (.int .i64 done.length))]) (λdone _=>[.row 4 [.p s.pv],.row 1 (done.map λx=>.p (.str x.name))]) () rfl ?_ ?_ ?_
 .simp only [go_sem,simprocAttr]<;>simp
 .intro _ e2;have:clCheck s=(0,0,0):=by rw [clCheck,if_pos h3',e2];rfl
  simp only [al,this,go_sem,simprocAttr]
 .intro done x r _ e1 e2 hx hlt hnx;obtain ⟨go,fin⟩:=ME h3' e2;have hdl:done.length<s.colours.length:=by have:=congrArg List.length e1;simp at this;omega
  have hrm:done.length+1<=aw:=by simp [aw];omega
  simp only [hlt,hx,go_sem,simprocAttr];refine bf (jq x.name (done.map (·.name)) false (done.map λx=>.str x.name) (by simp) (by simp;omega)) ?_ (.int _ _) ?_
  .simp only [go_sem,simprocAttr]
  simp only [hrm,hlt,hx,go_sem,simprocAttr];cases h5:(am (done.map (·.name)) x.name==0)
  .have h5':am (done.map (·.name)) x.name≠0:=by simpa using h5
   have h5n:(am (done.map (·.name)) x.name != 0)=true:=by simp [bne,h5]
   simp only [h5n,al,fin _ (by rw [eu,if_neg h5']) h5',go_sem,simprocAttr]
  have h5':am (done.map (·.name)) x.name=0:=by simpa using h5
  have hb:eu s.colours.length (done.map (·.name)) x=fO s.colours.length x:=by rw [eu,if_pos h5']
  simp only [hx,hlt,go_sem,simprocAttr]
  (first | refine ae (UG x s.colours.length (by omega)) rfl ?_ | refine aD (UG x s.colours.length (by omega)) rfl ?_)
  simp only [go_sem,simprocAttr];cases h6:(fO s.colours.length x != 0)
  rotate_left
  .have h6':fO s.colours.length x≠0:=by simpa using h6
   simp only [al,fin _ hb h6',go_sem,simprocAttr]
  have h6':fO s.colours.length x=0:=by simpa using h6
  simp only [go_sem,simprocAttr];refine aF e1 () (go (hb.trans h6')) ?_;simp only [hnx,go_sem,simprocAttr];all_goals simp
theorem xt (b) (e) (h):aC TP 311 [.p (.bool b),.p (.int .i64 e)] h (λr h'=>h'=h/\r=if b=true then .ret (.p (.tuple [])) else .panic (.iface 43 (.int .i64 e))):=by
 refine aB (ai (by kernel_rfl) rfl P2) rfl ?_;simp only [go_sem,simprocAttr];cases b
 .simp only [go_sem,simprocAttr]
 .simp only [go_sem,simprocAttr]
theorem az {H} {Q} {ops} {rest} {dst} {A} {b} {e} (h1:b=true->@WO ⟨TP,H,ops,rest,Q⟩ (A.put dst (.p (.tuple [])) A.h))
  (h2:b=false->@WQ ⟨Q⟩ (.panic (.iface 43 (.int .i64 e))) A):@WF ⟨TP,H,ops,rest,Q,dst⟩ A 311 [.p (.bool b),.p (.int .i64 e)]:=by
 refine cq (xt b e A.h) (λv h hr=>?_) (λv h hr=>?_)
 .obtain ⟨rfl,hr⟩:=hr;cases b
  .cases hr
  .cases hr;exact h1 rfl
 .obtain ⟨rfl,hr⟩:=hr;cases b
  .cases hr;exact h2 rfl
  .cases hr
theorem PC {H} {Q} {ops} {rest} {o} {hs} {A} {e} (h:∀ T,@WQ ⟨Q⟩ (.panic (.iface 43 (.int .i64 e))) { A with tmps:=T }) :
  @Nk ⟨TP,H,ops,rest,Q,o⟩ hs A (.call 311 [.p (.bool false),.p (.int .i64 e)]):=by
 refine .inr ⟨_,(xt false e A.h).mono λr h' hr=>?_,h⟩;exact ⟨hr.2,hr.1⟩
def eL (s:ClShop) (b:ClBatch):Int:=if ar b.colour 0 ((s.colours.length:Int)-1)=true then (if ar b.grams 1 100000=true then 0 else 7) else 4
def fi (s:ClShop):List ClBatch->Int
 |[]=>0
 |b::l=>if eL s b=0 then fi s l else eL s b
def s6 (s:ClShop) (l:List ClBatch):Int:=if l.length<=7 then fi s l else 3
def dR (s:ClShop) (aX:Int) (l:List ClBatch):Int :=
 if (clCheck s).2.2=0 then (if ar aX 0 ((s.colours.length:Int)-1)=true then s6 s l else 4) else (clCheck s).2.2
def Cn (s:ClShop) (l:List ClBatch) (m:PV):List PV:=[.slice 4 (s.colours.map ClColour.pv) false,.int .i64 s.keep.lo,.int .i64 s.keep.hi,.int .i64 s.rinse,.slice 2 (l.map ClBatch.pv) false,m]
def JF (s:ClShop) (l:List ClBatch):PV:=.ptr 6 [.agg (Cn s l .any)] 0 0
attribute [go_sem] Cn JF
structure ShopOk (s:ClShop):Prop where
 len:1<=s.colours.length/\s.colours.length<=6
 keep:0<=s.keep.lo/\s.keep.lo<=s.keep.hi/\s.keep.hi<=1000
 rinse:0<=s.rinse/\s.rinse<=10000
 shows:∀ c,c∈s.colours->c.shows.length=s.colours.length/\∀ n,n∈c.shows->0<=n/\n<=1000
 stay:∀ c,c∈s.colours->0<=c.stay.lo/\c.stay.lo<=c.stay.hi/\c.stay.hi<=1000
theorem fF {α} {f:List ByteArray->α->Int} {nm}:∀ {l} {before},firstErr f nm l before=none->∀ x,x∈l->∃ bs,f bs x=0
 |[],_,_,x,hx=>by cases hx
 |y::l,before,h,x,hx=>by
  rw [firstErr] at h;split at h
  .rename_i h0;rcases bw.1 hx with rfl | hx
   .exact ⟨_,h0⟩
   .exact fF h x hx
  .cases h
theorem ic {α} {f:List ByteArray->α->Int} {nm}:∀ {l} {before} {i e},firstErr f nm l before=some (i,e)->e≠0
 |[],_,_,_,h=>by cases h
 |y::r,before,i,e,h=>by
  rw [firstErr] at h;split at h
  .exact ic h
  .rename_i h0;cases h;exact h0
theorem Aw {a b lo hi} (h:du a b lo hi=0):lo<=a/\a<=b/\b<=hi:=by
 unfold du at h;split at h
 .rename_i h1;simp [ar] at h1;split at h
  .cases h
  .omega
 .cases h
theorem xc {s} (h:(clCheck s).2.2=0):ShopOk s:=by
 unfold clCheck at h;split at h
 .rename_i h1;unfold eJ at h1;split at h1
  .rename_i g1;split at h1
   .rename_i g2;have g3:=Aw h1;simp [ar] at g1 g2;have hc:∀ c,c∈s.colours->fO s.colours.length c=0:=by
     intro c hc;split at h
     .rename_i i e he;exact absurd h (ic he)
     .rename_i he;obtain ⟨bs,h0⟩:=fF he c hc;unfold eu at h0;split at h0
      .exact h0
      .contradiction
    refine ⟨by omega,g3,g2,λc hcm=>?_,λc hcm=>?_⟩
    .have:=hc c hcm;unfold fO at this;split at this
     .rename_i e1;split at this
      .cases this
      .rename_i e2;refine ⟨e1,λn hn=>?_⟩;simp only [DW,not_exists,not_and] at e2;have:=e2 n hn;simpa [ar] using this
     .cases this
    .have:=hc c hcm;unfold fO at this;split at this
     .split at this
      .cases this
      .exact Aw this
     .cases this
   .cases h1
  .cases h1
 .contradiction
structure BatchOk (s:ClShop) (b:ClBatch):Prop where
 colour:0<=b.colour/\b.colour<s.colours.length
 grams:1<=b.grams/\b.grams<=100000
theorem Pm {s} {b} (h:eL s b=0):BatchOk s b:=by
 unfold eL at h;split at h
 .rename_i h1;split at h
  .rename_i h2;simp [ar] at h1 h2;exact ⟨by omega,h2⟩
  .cases h
 .cases h
theorem AU {s}:∀ {l},fi s l=0->∀ b,b∈l->BatchOk s b
 |[],_,b,hb=>by cases hb
 |x::l,h,b,hb=>by
  rw [fi] at h;split at h
  .rename_i h0;rcases bw.1 hb with rfl | hb
   .exact Pm h0
   .exact AU h b hb
  .contradiction
def oJ (s:ClShop) (before:Int) (b:ClBatch) (r:Nat):Bool :=
 match s.colours[before.toNat]? with
 |some x=>(match x.shows[b.colour.toNat]? with | some n=>before != b.colour&&decide (b.grams*n*1000^r<1000*x.stay.hi*s.keep.hi^r) | none=>false)
 |none=>false
def nM (can:Nat->Bool):Nat->Nat->Int
 |0,_=>-1
 |c+1,r=>if can r=true then nM can c (r+1) else r
def iL (s:ClShop) (before:Int) (b:ClBatch):Int:=nM (oJ s before b) 4 0
theorem PX {k:Int} (h0:0<=k) (h1:k<=1000):∀ r,0<=k^r/\k^r<=1000^r
 |0=>by simp
 |r+1=>by
  have ih:=PX h0 h1 r;rw [Int.pow_succ,Int.pow_succ];exact ⟨yk ih.1 h0,Bb ih.2 h1 h0 (A9 ih.1 ih.2)⟩
theorem xx (n keep) (r:Nat) (hn:0<=n/\n<=1000000000) (hk:0<=keep/\keep<=1000) (hr:r<=3):ah TP 334 [.int .i64 n,.int .i64 keep,.int .i64 r] (.int .i64 (n*keep^r)):=by
 refine aa (ai (by kernel_rfl) rfl V4) rfl ?_;simp only [go_sem,simprocAttr];have hB:∀ k:Nat,k<=3->0<=n*keep^k/\n*keep^k<=1000000000000000000:=λk hk3=>by
  have h1:=PX hk.1 hk.2 k;have h2:(1000:Int)^k<=1000000000:=by
   match k,hk3 with
   |0,_=>decide
   |1,_=>decide
   |2,_=>decide
   |3,_=>decide
  exact ⟨yk hn.1 h1.1,by have:=Bb hn.2 (A9 h1.2 h2) h1.1 (by omega:(0:Int)<=1000000000);omega⟩
 refine dZ [1,7] (σ:=Nat) (λk=>k<=r) (λk=>r-k) (λk=>[(0,.p (.int .i64 (n*keep^k))),(8,.p (.int .i64 k))]) (λk=>[]) 0 (dD _) rfl ?_ ?_
 .simp only [go_sem,simprocAttr];simp
 intro k hkr;rcases zl hkr with rfl | hlt
 .have hd:decide ((k:Int)<(k:Int))=false:=by simp
  simp only [go_sem,simprocAttr]
 have hd:decide ((k:Int)<(r:Int))=true:=by simp;omega
 have hw:IntKind.i64.wrap ((k:Int)+1)=((k+1:Nat):Int):=ba (by omega) (by simp [aw];omega) (by omega);have hB1:=hB (k+1) (by omega);have hm:IntKind.i64.wrap (n*keep^k*keep)=n*keep^(k+1):=by
  rw [Int.pow_succ,<-vh] at hB1 |-;exact ax (by omega) (by omega)
 simp only [hd,go_sem,simprocAttr];refine aZ (k+1) (by omega) (by omega) rfl ?_;simp only [hw,hm,go_sem,simprocAttr]
theorem UD (s) (l) (before:Int) (b) (r:Nat) (hs:ShopOk s) (hb:BatchOk s b) (h0:0<=before/\before<s.colours.length) (hr:r<=3) :
  ah TP 325 [JF s l,.int .i64 before,b.pv,.int .i64 r] (.bool (oJ s before b r)):=by
 refine aa (ai (by kernel_rfl) rfl Wc) rfl ?_;obtain ⟨i,rfl⟩:∃ i:Nat,before=(i:Int):=⟨before.toNat,by omega⟩
 obtain ⟨j,hj⟩:∃ j:Nat,b.colour=(j:Int):=⟨b.colour.toNat,by have:=hb.colour;omega⟩
 have hbc:=hb.colour;obtain ⟨x,hx⟩:∃ x,s.colours[i]?=some x:=⟨_,bE (by omega)⟩
 have hxm:=aL hx;have hsl:=(hs.shows x hxm).1;obtain ⟨n,hn⟩:∃ n,x.shows[j]?=some n:=⟨_,bE (by omega)⟩
 have hnb:=(hs.shows x hxm).2 n (aL hn);have hst:=hs.stay x hxm;have hg:=hb.grams;have il:(i:Int)<(s.colours.length:Int):=h0.2;have jl:(j:Int)<(x.shows.length:Int):=by omega
 have mB:0<=b.grams*n/\b.grams*n<=100000000:=⟨yk (by omega) hnb.1,by have:=Bb hg.2 hnb.2 hnb.1 (by omega:(0:Int)<=100000);omega⟩
 have w1:IntKind.i64.wrap (b.grams*n)=b.grams*n:=ax (by omega) (by omega);have w2:IntKind.i64.wrap (1000*x.stay.hi)=1000*x.stay.hi:=ax (by omega) (by omega);have hsp:oJ s (i:Int) b r=((i:Int) != (j:Int)&&decide (b.grams*n*1000^r<1000*x.stay.hi*s.keep.hi^r)):=by
  simp only [oJ,iH,hx,hj,hn]
 rw [hsp];simp only [hx,il,hj,hn,jl,w1,go_sem,simprocAttr];cases hc:((i:Int) != (j:Int))
 .simp only [go_sem,simprocAttr]
 simp only [w2,go_sem,simprocAttr]
 (first | refine ae (xx (1000*x.stay.hi) s.keep.hi r (by omega) (by have:=hs.keep;omega) hr) rfl ?_ | refine aD (xx (1000*x.stay.hi) s.keep.hi r (by omega) (by have:=hs.keep;omega) hr) rfl ?_)
 simp only [go_sem,simprocAttr]
 (first | refine ae (xx (b.grams*n) 1000 r (by omega) (by omega) hr) rfl ?_ | refine aD (xx (b.grams*n) 1000 r (by omega) (by omega) hr) rfl ?_)
 simp only [go_sem,simprocAttr]
theorem Sb (s) (l) (before:Int) (b) (hs:ShopOk s) (hb:BatchOk s b) (h0:0<=before/\before<s.colours.length) :
  ah TP 314 [JF s l,.int .i64 before,b.pv] (.int .i64 (iL s before b)):=by
 refine aa (ai (by kernel_rfl) rfl Wo) rfl ?_;simp only [go_sem,simprocAttr];refine gu [0,1,5] (σ:=Nat) (λk=>k<=4/\iL s before b=nM (oJ s before b) (4-k) k) (λk=>4-k) (λk=>[(8,.p (.int .i64 k))]) (λk=>[.row 2 [.p b.pv]]) 0 ⟨by decide,rfl⟩ ?_ ?_
 .simp only [go_sem,simprocAttr]<;>simp
 intro k ⟨hk,e2⟩;rcases zl hk with rfl | hlt
 .rw [show 4-4=0 from rfl,nM] at e2;simp only [e2,go_sem,simprocAttr]
 have hd:decide ((k:Int)<4)=true:=by simp;omega
 have hw:IntKind.i64.wrap ((k:Int)+1)=((k+1:Nat):Int):=ba (by omega) (by simp [aw];omega) (by omega);rw [show 4-k=(4-(k+1))+1 by omega,nM] at e2;simp only [hd,go_sem,simprocAttr];refine bf (UD s l before b k hs hb h0 (by omega)) ?_ (.bool _) ?_
 .simp only [go_sem,simprocAttr]
 simp only [go_sem,simprocAttr];cases hc:oJ s before b k
 .rw [hc,if_neg (by decide)] at e2;simp only [e2,go_sem,simprocAttr]
 .rw [hc,if_pos rfl] at e2;simp only [go_sem,simprocAttr];refine bW (k+1) ⟨by omega,e2⟩ (by omega) ?_;simp only [hw,go_sem,simprocAttr]
end Cl
end Abs
end Go.Proofs.YtfafnkpfamgbbaaGreatDoor
