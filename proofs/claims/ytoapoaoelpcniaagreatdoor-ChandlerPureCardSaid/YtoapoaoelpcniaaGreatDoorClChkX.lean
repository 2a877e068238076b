/- CONTRACTS of the program's functions, and laws on what they return. No conditions but those in the theorems' heads. -/
import Derived.Test.YtoapoaoelpcniaaGreatDoorLibGoX
set_option linter.all false
open Go.Proofs.Tryz renaming prog->TP
namespace Go.Proofs.YtoapoaoelpcniaaGreatDoor
namespace Abs
namespace Cl
set_option maxRecDepth 4000
theorem Ke(n lo hi):af TP 47 [.int .i64 n,.int .i64 lo,.int .i64 hi] (.bool (ar n lo hi)):=by
 refine aa (ah Tryz.func47 rfl (by kernel_rfl)) rfl ?_;simp only[go_sem,simprocAttr];refine aT (λhb=>?_) (λhb=>?_)<;>simp only[hb,go_sem,simprocAttr]<;>simp[ar,hb]
theorem BI(lo hi n):af TP 118 [.int .i64 n,.ptr 1 [.int .i64 lo] 0 0,.ptr 1 [.int .i64 hi] 0 0] (.bool (!ar n lo hi)):=by
 refine aa (ah Tryz.func118 rfl (by kernel_rfl)) rfl ?_;simp only[go_sem,simprocAttr];refine aT (λhb=>?_) (λhb=>?_)<;>simp only[hb,go_sem,simprocAttr]<;>simp_all [ar];rw[<-decide_not];congr 1;simp
theorem fi(lo hi)(l:List Int)(b)(hl:l.length<1000000000):af TP 77 [.int .i64 lo,.int .i64 hi,.slice 1 (l.map aI) b] (.bool (l.any λn=>!ar n lo hi)):=by
 refine aa (ah Tryz.func77 rfl (by kernel_rfl)) rfl ?_;simp only[go_sem,simprocAttr];refine bf (ko (fv:=.func (.func 118) [] [.ptr 1 [.int .i64 lo] 0 0,.ptr 1 [.int .i64 hi] 0 0]) l (λn=>!ar n lo hi) b 1 rfl hl λn _=>⟨_,_,_,rfl,BI lo hi n⟩) ?_ (.bool _) ?_
 .simp only[go_sem,simprocAttr]
 .simp only[go_sem,simprocAttr]
def f9 (many:Nat) (c:ClColour):Int:=
 if c.shows.length=many then(if(c.shows.any λn=>!ar n 0 1000)=true then 7 else dI c.stay.lo c.stay.hi 0 1000) else 3
def eh (many:Nat) (before:List ByteArray) (c:ClColour):Int:=if am before c.name=0 then f9 many c else am before c.name
def eW (s:ClShop):Int:=if ar s.colours.length 1 6=true then(if ar s.rinse 0 10000=true then dI s.keep.lo s.keep.hi 0 1000 else 7) else 3
def clCheck (s:ClShop):Int×Int×Int:=
 if eW s=0 then(match firstErr (eh s.colours.length) (·.name) s.colours []with|some (i,e)=>(2,i,e)|none=>(0,0,0)) else(1,0,eW s)
theorem Ob{s}{done r}{x}(h0:eW s=0)(e2:firstErr (eh s.colours.length) (·.name) s.colours []=firstErr (eh s.colours.length) (·.name) (x::r) (done.map (·.name))) :
  (eh s.colours.length (done.map (·.name)) x=0->firstErr (eh s.colours.length) (·.name) s.colours []=firstErr (eh s.colours.length) (·.name) r ((done++[x]).map (·.name))) /\
  ∀e,eh s.colours.length (done.map (·.name)) x=e->e≠0->clCheck s=(2,(done.length:Int),e):=by
 have hE:firstErr (eh s.colours.length) (·.name) s.colours []=if eh s.colours.length (done.map (·.name)) x=0 then firstErr (eh s.colours.length) (·.name) r ((done++[x]).map (·.name)) else some ((done.length:Int),eh s.colours.length (done.map (·.name)) x):=by
  rw[e2,firstErr];simp
 exact⟨λh=>by rw[hE,if_pos h],λe he hne=>by rw[clCheck,if_pos h0,hE,he,if_neg hne]⟩
theorem XZ(s)(b c d)(x:ClColour):af TP 117 [x.pv,.ptr 4 [.agg [.str s,b,c,d]] 0 0] (.bool (x.name==s)):=by
 refine aa (ah Tryz.func117 rfl (by kernel_rfl)) rfl ?_;simp only[go_sem,simprocAttr]
set_option maxHeartbeats 2000000 in
theorem qJ(s):af TP 75 [s.pv] (al (clCheck s)):=by
 refine aa (ah Tryz.func75 rfl (by kernel_rfl)) rfl ?_;simp only[go_sem,simprocAttr];refine ae (fi 1 6 [_] true (by simp)) rfl ?_;simp only[cV,bw,cD,go_sem,simprocAttr];cases h1:ar s.colours.length 1 6
 .have hh:eW s=3:=by rw[eW,h1];rfl
  simp only[al,clCheck,hh,go_sem,simprocAttr]
 simp only[go_sem,simprocAttr];refine ae (fi 0 10000 [_] true (by simp)) rfl ?_;simp only[cV,bw,cD,go_sem,simprocAttr];cases h2:ar s.rinse 0 10000
 .have hh:eW s=7:=by rw[eW,h1,h2];rfl
  simp only[al,clCheck,hh,go_sem,simprocAttr]
 simp only[go_sem,simprocAttr];refine ae (fi 0 1000 [_,_] true (by simp)) rfl ?_;simp only[cV,bw,cD,<-iZ,go_sem,simprocAttr];have hh:eW s=dI s.keep.lo s.keep.hi 0 1000:=by rw[eW,h1,h2];rfl
 unfold dI at hh;cases h3:(ar s.keep.lo 0 1000&&ar s.keep.hi 0 1000)
 .rw[if_neg (by rw[<-cG,h3];decide)]at hh;simp only[al,clCheck,hh,go_sem,simprocAttr]
 rw[if_pos (by rw[<-cG,h3])]at hh;simp only[go_sem,simprocAttr];cases h4:decide (s.keep.hi<s.keep.lo);rotate_left
 .rw[if_pos (by simpa using h4)]at hh;simp only[al,clCheck,hh,go_sem,simprocAttr]
 rw[if_neg (by simpa using h4)]at hh;have hlk:s.colours.length<=6:=by simp[ar]at h1;omega
 simp only[go_sem,simprocAttr]
 refine aQ [1,37,38] s.colours (by omega) (τ:=Unit) (λdone rest _=>firstErr (eh s.colours.length) (·.name) s.colours []=firstErr (eh s.colours.length) (·.name) rest (done.map (·.name)))
  (λdone _=>[(39,.p (.int .i64 done.length)),(4,.p (.int .i64 0))]) (λ_ _=>[.row 4 [.p s.pv]]) () rfl ?_ ?_ ?_
 .simp only[go_sem,simprocAttr]<;>simp
 .intro _ e2;have:clCheck s=(0,0,0):=by rw[clCheck,if_pos hh,e2];rfl
  simp only[al,this,go_sem,simprocAttr]
 .intro done x r _ e1 e2 hx hlt hnx;obtain⟨go,fin⟩:=Ob hh e2;have hle:((done.length:Nat):Int)<=(s.colours.length:Int):=by omega
  have htk:(s.colours.map ClColour.pv).take done.length=done.map ClColour.pv:=by
   rw[e1,cj,gk (by simp)]
  have hdl:done.length<1000000:=by have:=congrArg List.length e1;simp at this;omega
  have hfl:(done.length==s.colours.length)=false:=by simp;omega
  simp only[hlt,hx,go_sem,simprocAttr];refine ae (jU x.name) rfl ?_;simp only[go_sem,simprocAttr];cases hn:nameOk x.name
  .have he:am (done.map (·.name)) x.name=6:=by simp[am,hn]
   simp only[al,fin 6 (by rw[eh,he];rfl) (by decide),go_sem,simprocAttr]
  simp only[hle,htk,hfl,go_sem,simprocAttr];refine bf (CT (fv:=.func (.func 117) [] [.ptr 4 [x.pv] 0 0]) done (λy=>y.name==x.name) false 4 rfl (by omega) λy _=>⟨_,_,_,rfl,XZ x.name _ _ _ y⟩) ?_ (.bool _) ?_
  .simp only[go_sem,simprocAttr]
  simp only[go_sem,simprocAttr];cases h5:(done.any λy=>y.name==x.name)
  rotate_left
  .have he:am (done.map (·.name)) x.name=5:=by simp only[am,hn,ny,j5,h5,if_true]
   simp only[al,fin 5 (by rw[eh,he];rfl) (by decide),go_sem,simprocAttr]
  have he:am (done.map (·.name)) x.name=0:=by simp only[am,hn,ny,j5,h5,if_true,jc,if_false]
  have hb:eh s.colours.length (done.map (·.name)) x=f9 s.colours.length x:=by rw[eh,if_pos he]
  simp only[go_sem,simprocAttr];cases h6:((x.shows.length:Int) != (s.colours.length:Int))
  rotate_left
  .have h6':¬x.shows.length=s.colours.length:=by simp at h6;omega
   simp only[al,fin 3 (by rw[hb,f9,if_neg h6']) (by decide),go_sem,simprocAttr]
  have h6':x.shows.length=s.colours.length:=by simp at h6;omega
  simp only[go_sem,simprocAttr];refine ae (fi 0 1000 x.shows false (by omega)) rfl ?_;simp only[go_sem,simprocAttr];cases h7:(x.shows.any λn=>!ar n 0 1000)
  rotate_left
  .simp only[al,fin 7 (by rw[hb,f9,if_pos h6',h7];rfl) (by decide),go_sem,simprocAttr]
  simp only[go_sem,simprocAttr];refine ae (fi 0 1000 [_,_] true (by simp)) rfl ?_;simp only[cV,bw,cD,<-iZ,go_sem,simprocAttr];rw[f9,if_pos h6',h7,if_neg (by decide)]at hb;unfold dI at hb;cases h8:(ar x.stay.lo 0 1000&&ar x.stay.hi 0 1000)
  .rw[if_neg (by rw[<-cG,h8];decide)]at hb;simp only[al,fin 7 hb (by decide),go_sem,simprocAttr]
  rw[if_pos (by rw[<-cG,h8])]at hb;simp only[go_sem,simprocAttr];cases h9:decide (x.stay.hi<x.stay.lo);rotate_left
  .rw[if_pos (by simpa using h9)]at hb;simp only[al,fin 2 hb (by decide),go_sem,simprocAttr]
  rw[if_neg (by simpa using h9)]at hb;simp only[go_sem,simprocAttr];refine ak e1 () (go hb) ?_;simp only[hnx,go_sem,simprocAttr]
theorem V4(c)(many:Nat)(hm:many<1000000000):af TP 104 [c.pv,.int .i64 many] (.int .i64 (f9 many c)):=by
 refine aa (ah Tryz.func104 rfl (by kernel_rfl)) rfl ?_;simp only[go_sem,simprocAttr];cases h6:((c.shows.length:Int) != (many:Int))
 rotate_left
 .have h6':¬c.shows.length=many:=by simp at h6;omega
  simp only[f9,if_neg h6',go_sem,simprocAttr]
 have h6':c.shows.length=many:=by simp at h6;omega
 subst h6';have hb:f9 c.shows.length c=if(c.shows.any λn=>!ar n 0 1000)=true then 7 else dI c.stay.lo c.stay.hi 0 1000:=by rw[f9,if_pos rfl]
 rw[hb];simp only[go_sem,simprocAttr];refine aQ [1,2] c.shows hm (τ:=Unit) (λdone rest _=>(c.shows.any λn=>!ar n 0 1000)=(rest.any λn=>!ar n 0 1000)) (λdone _=>[(5,.p (.int .i64 done.length))]) (λ_ _=>[.row 4 [.p c.pv]]) () rfl ?_ ?_ ?_
 .simp only[go_sem,simprocAttr]<;>simp
 .intro _ e2;rw[bw]at e2;rw[e2,if_neg (by decide)];simp only[go_sem,simprocAttr];refine ae (p9 _ _ _ _) rfl ?_;simp only[go_sem,simprocAttr]
 .intro done n r _ e1 e2 hx hlt hnx;rw[cV]at e2;simp only[hlt,hx,go_sem,simprocAttr];refine ae (Ke _ _ _) rfl ?_;simp only[go_sem,simprocAttr];cases h3:ar n 0 1000
  .rw[h3,uV,tL]at e2;rw[e2,if_pos rfl];simp only[go_sem,simprocAttr]
  .rw[h3,Bool.not_true,rf]at e2;simp only[go_sem,simprocAttr];refine ak e1 () e2 ?_;simp only[hnx,go_sem,simprocAttr]
set_option maxHeartbeats 2000000 in
theorem nW(s):af TP 58 [s.pv] (al (clCheck s)):=by
 refine aa (ah Tryz.func58 rfl (by kernel_rfl)) rfl ?_;simp only[go_sem,simprocAttr];refine ae (Ke _ _ _) rfl ?_;simp only[go_sem,simprocAttr];cases h1:ar s.colours.length 1 6
 .have hh:eW s=3:=by rw[eW,h1];rfl
  simp only[al,clCheck,hh,go_sem,simprocAttr]
 simp only[go_sem,simprocAttr];refine ae (p9 _ _ _ _) rfl ?_;simp only[go_sem,simprocAttr];refine ae (Ke _ _ _) rfl ?_;simp only[go_sem,simprocAttr];cases h2:ar s.rinse 0 10000
 .have hh:eW s=7:=by rw[eW,h1,h2];rfl
  simp only[al,clCheck,hh,go_sem,simprocAttr]
 have hh:eW s=dI s.keep.lo s.keep.hi 0 1000:=by rw[eW,h1,h2];rfl
 simp only[go_sem,simprocAttr];rw[<-hh];cases h3:(eW s != 0)
 rotate_left
 .have h3':¬eW s=0:=by simpa using h3
  simp only[al,clCheck,if_neg h3',go_sem,simprocAttr]
 have h3':eW s=0:=by simpa using h3
 have hlk:s.colours.length<=6:=by simp[ar]at h1;omega
 simp only[go_sem,simprocAttr];refine cl 6 1 (by simp only[go_sem,simprocAttr]) ?_;simp only[go_sem,simprocAttr]
 refine aQ [1] s.colours (by omega) (τ:=Unit) (λdone rest _=>firstErr (eh s.colours.length) (·.name) s.colours []=firstErr (eh s.colours.length) (·.name) rest (done.map (·.name)))
  (λdone _=>[(6,.slice 1 done.length 0 done.length),(7,.p (.int .i64 done.length))]) (λdone _=>[.row 4 [.p s.pv],.row 1 (done.map λx=>.p (.str x.name))]) () rfl ?_ ?_ ?_
 .simp only[go_sem,simprocAttr]<;>simp
 .intro _ e2;have:clCheck s=(0,0,0):=by rw[clCheck,if_pos h3',e2];rfl
  simp only[al,this,go_sem,simprocAttr]
 .intro done x r _ e1 e2 hx hlt hnx;obtain⟨go,fin⟩:=Ob h3' e2;have hdl:done.length<s.colours.length:=by have:=congrArg List.length e1;simp at this;omega
  have hrm:done.length+1<=aw:=by simp[aw];omega
  simp only[hlt,hx,go_sem,simprocAttr];refine bf (jG x.name (done.map (·.name)) false (done.map λx=>.str x.name) (by simp) (by simp;omega)) ?_ (.int _ _) ?_
  .simp only[go_sem,simprocAttr]
  simp only[hrm,hlt,hx,go_sem,simprocAttr];cases h5:(am (done.map (·.name)) x.name==0)
  .have h5':am (done.map (·.name)) x.name≠0:=by simpa using h5
   have h5n:(am (done.map (·.name)) x.name != 0)=true:=by simp[bne,h5]
   simp only[h5n,al,fin _ (by rw[eh,if_neg h5']) h5',go_sem,simprocAttr]
  have h5':am (done.map (·.name)) x.name=0:=by simpa using h5
  have hb:eh s.colours.length (done.map (·.name)) x=f9 s.colours.length x:=by rw[eh,if_pos h5']
  simp only[hx,hlt,go_sem,simprocAttr]
  (first|refine ae (V4 x s.colours.length (by omega)) rfl ?_|refine ax (V4 x s.colours.length (by omega)) rfl ?_)
  simp only[go_sem,simprocAttr];cases h6:(f9 s.colours.length x != 0)
  rotate_left
  .have h6':f9 s.colours.length x≠0:=by simpa using h6
   simp only[al,fin _ hb h6',go_sem,simprocAttr]
  have h6':f9 s.colours.length x=0:=by simpa using h6
  simp only[go_sem,simprocAttr];refine ak e1 () (go (hb.trans h6')) ?_;simp only[hnx,go_sem,simprocAttr];all_goals simp
theorem yD(b)(e)(h):aD TP 76 [.p (.bool b),.p (.int .i64 e)] h (λr h'=>h'=h/\r=if b=true then .ret (.p (.tuple [])) else .panic (.iface 49 (.int .i64 e))):=by
 refine aC (ah Tryz.func76 rfl (by kernel_rfl)) rfl ?_;simp only[go_sem,simprocAttr];cases b
 .simp only[go_sem,simprocAttr]
 .simp only[go_sem,simprocAttr]
theorem az{H}{Q}{ops}{rest}{dst}{A}{b}{e}(h1:b=true->@WO ⟨TP,H,ops,rest,Q⟩ (A.put dst (.p (.tuple [])) A.h))
  (h2:b=false->@WQ ⟨Q⟩ (.panic (.iface 49 (.int .i64 e))) A):@WF ⟨TP,H,ops,rest,Q,dst⟩ A 76 [.p (.bool b),.p (.int .i64 e)]:=by
 refine cz (yD b e A.h) (λv h hr=>?_) (λv h hr=>?_)
 .obtain⟨rfl,hr⟩:=hr;cases b
  .cases hr
  .cases hr;exact h1 rfl
 .obtain⟨rfl,hr⟩:=hr;cases b
  .cases hr;exact h2 rfl
  .cases hr
theorem Rw{H}{Q}{ops}{rest}{o}{hs}{A}{e}(h:∀T,@WQ ⟨Q⟩ (.panic (.iface 49 (.int .i64 e))) { A with tmps:=T }) :
  @OX ⟨TP,H,ops,rest,Q,o⟩ hs A (.call 76 [.p (.bool false),.p (.int .i64 e)]):=by
 refine .inr ⟨_,(yD false e A.h).mono λr h' hr=>?_,h⟩;exact⟨hr.2,hr.1⟩
def dE (s:ClShop) (b:ClBatch):Int:=if ar b.colour 0 ((s.colours.length:Int)-1)=true then(if ar b.grams 1 100000=true then 0 else 7) else 4
def dA (s:ClShop):List ClBatch->Int
 |[]=>0
 |b::l=>if dE s b=0 then dA s l else dE s b
def lf (s:ClShop) (l:List ClBatch):Int:=if l.length<=7 then dA s l else 3
def dH (s:ClShop) (aZ:Int) (l:List ClBatch):Int:=
 if(clCheck s).2.2=0 then(if ar aZ 0 ((s.colours.length:Int)-1)=true then lf s l else 4) else(clCheck s).2.2
def Dm (s:ClShop) (l:List ClBatch) (m:PV):List PV:=[.slice 4 (s.colours.map ClColour.pv) false,.int .i64 s.keep.lo,.int .i64 s.keep.hi,.int .i64 s.rinse,.slice 2 (l.map ClBatch.pv) false,m]
def K3 (s:ClShop) (l:List ClBatch):PV:=.ptr 6 [.agg (Dm s l .any)] 0 0
attribute [go_sem] Dm K3
structure ShopOk (s:ClShop):Prop where
 len:1<=s.colours.length/\s.colours.length<=6
 keep:0<=s.keep.lo/\s.keep.lo<=s.keep.hi/\s.keep.hi<=1000
 rinse:0<=s.rinse/\s.rinse<=10000
 shows:∀c,c∈s.colours->c.shows.length=s.colours.length/\∀n,n∈c.shows->0<=n/\n<=1000
 stay:∀c,c∈s.colours->0<=c.stay.lo/\c.stay.lo<=c.stay.hi/\c.stay.hi<=1000
theorem eP{α}{f:List ByteArray->α->Int}{nm}:∀{l} {before},firstErr f nm l before=none->∀x,x∈l->∃bs,f bs x=0
 |[],_,_,x,hx=>by cases hx
 |y::l,before,h,x,hx=>by
  rw[firstErr]at h;split at h
  .rename_i h0;rcases ci.1 hx with rfl|hx
   .exact⟨_,h0⟩
   .exact eP h x hx
  .cases h
theorem gT{α}{f:List ByteArray->α->Int}{nm}:∀{l} {before} {i e},firstErr f nm l before=some (i,e)->e≠0
 |[],_,_,_,h=>by cases h
 |y::r,before,i,e,h=>by
  rw[firstErr]at h;split at h
  .exact gT h
  .rename_i h0;cases h;exact h0
theorem Bs{a b lo hi}(h:dI a b lo hi=0):lo<=a/\a<=b/\b<=hi:=by
 unfold dI at h;split at h
 .rename_i h1;simp[ar]at h1;split at h
  .cases h
  .omega
 .cases h
theorem uh{s}(h:(clCheck s).2.2=0):ShopOk s:=by
 unfold clCheck at h;split at h
 .rename_i h1;unfold eW at h1;split at h1
  .rename_i g1;split at h1
   .rename_i g2;have g3:=Bs h1;simp[ar]at g1 g2;have hc:∀c,c∈s.colours->f9 s.colours.length c=0:=by
     intro c hc;split at h
     .rename_i i e he;exact absurd h (gT he)
     .rename_i he;obtain⟨bs,h0⟩:=eP he c hc;unfold eh at h0;split at h0
      .exact h0
      .contradiction
    refine⟨by omega,g3,g2,λc hcm=>?_,λc hcm=>?_⟩
    .have:=hc c hcm;unfold f9 at this;split at this
     .rename_i e1;split at this
      .cases this
      .rename_i e2;refine⟨e1,λn hn=>?_⟩;simp only[KD,not_exists,not_and]at e2;have:=e2 n hn;simpa[ar]using this
     .cases this
    .have:=hc c hcm;unfold f9 at this;split at this
     .split at this
      .cases this
      .exact Bs this
     .cases this
   .cases h1
  .cases h1
 .contradiction
structure BatchOk (s:ClShop) (b:ClBatch):Prop where
 colour:0<=b.colour/\b.colour<s.colours.length
 grams:1<=b.grams/\b.grams<=100000
theorem Rg{s}{b}(h:dE s b=0):BatchOk s b:=by
 unfold dE at h;split at h
 .rename_i h1;split at h
  .rename_i h2;simp[ar]at h1 h2;exact⟨by omega,h2⟩
  .cases h
 .cases h
theorem BS{s}:∀{l},dA s l=0->∀b,b∈l->BatchOk s b
 |[],_,b,hb=>by cases hb
 |x::l,h,b,hb=>by
  rw[dA]at h;split at h
  .rename_i h0;rcases ci.1 hb with rfl|hb
   .exact Rg h0
   .exact BS h b hb
  .contradiction
def pL (s:ClShop) (before:Int) (b:ClBatch) (r:Nat):Bool:=
 match s.colours[before.toNat]? with
 |some x=>(match x.shows[b.colour.toNat]? with|some n=>before != b.colour&&decide (b.grams*n*1000^r<1000*x.stay.hi*s.keep.hi^r)|none=>false)
 |none=>false
def ow (can:Nat->Bool):Nat->Nat->Int
 |0,_=>-1
 |c+1,r=>if can r=true then ow can c (r+1) else r
def i8 (s:ClShop) (before:Int) (b:ClBatch):Int:=ow (pL s before b) 4 0
theorem RM{k:Int}(h0:0<=k)(h1:k<=1000):∀r,0<=k^r/\k^r<=1000^r
 |0=>by simp
 |r+1=>by
  have ih:=RM h0 h1 r;rw[Int.pow_succ,Int.pow_succ];exact⟨ri ih.1 h0,s9 ih.2 h1 h0 (s8 ih.1 ih.2)⟩
theorem yJ(n keep)(r:Nat)(hn:0<=n/\n<=1000000000)(hk:0<=keep/\keep<=1000)(hr:r<=3):af TP 169 [.int .i64 n,.int .i64 keep,.int .i64 r] (.int .i64 (n*keep^r)):=by
 refine aa (ah Tryz.func169 rfl (by kernel_rfl)) rfl ?_;simp only[go_sem,simprocAttr];have hB:∀k:Nat,k<=3->0<=n*keep^k/\n*keep^k<=1000000000000000000:=λk hk3=>by
  have h1:=RM hk.1 hk.2 k;have h2:(1000:Int)^k<=1000000000:=by
   match k,hk3 with
   |0,_=>decide
   |1,_=>decide
   |2,_=>decide
   |3,_=>decide
  exact⟨ri hn.1 h1.1,by have:=s9 hn.2 (s8 h1.2 h2) h1.1 (by omega:(0:Int)<=1000000000);omega⟩
 refine eC [1,7] (σ:=Nat) (λk=>k<=r) (λk=>r-k) (λk=>[(0,.p (.int .i64 (n*keep^k))),(8,.p (.int .i64 k))]) (λk=>[]) 0 (dY _) rfl ?_ ?_
 .simp only[go_sem,simprocAttr];simp
 intro k hkr;rcases KF hkr with rfl|hlt
 .have hd:decide ((k:Int)<(k:Int))=false:=by simp
  simp only[go_sem,simprocAttr]
 have hd:decide ((k:Int)<(r:Int))=true:=by simp;omega
 have hw:IntKind.i64.wrap ((k:Int)+1)=((k+1:Nat):Int):=bj (by omega) (by simp[aw];omega) (by omega);have hB1:=hB (k+1) (by omega);have hm:IntKind.i64.wrap (n*keep^k*keep)=n*keep^(k+1):=by
  rw[Int.pow_succ,<-wD]at hB1 |-;exact aj (by omega) (by omega)
 simp only[hd,go_sem,simprocAttr];refine bh (k+1) (by omega) (by omega) rfl ?_;simp only[hw,hm,go_sem,simprocAttr]
theorem V0(s)(l)(before:Int)(b)(r:Nat)(hs:ShopOk s)(hb:BatchOk s b)(h0:0<=before/\before<s.colours.length)(hr:r<=3) :
  af TP 119 [K3 s l,.int .i64 before,b.pv,.int .i64 r] (.bool (pL s before b r)):=by
 refine aa (ah Tryz.func119 rfl (by kernel_rfl)) rfl ?_;obtain⟨i,rfl⟩:∃i:Nat,before=(i:Int):=⟨before.toNat,by omega⟩
 obtain⟨j,hj⟩:∃j:Nat,b.colour=(j:Int):=⟨b.colour.toNat,by have:=hb.colour;omega⟩
 have hbc:=hb.colour;obtain⟨x,hx⟩:∃x,s.colours[i]?=some x:=⟨_,dc (by omega)⟩
 have hxm:=aG hx;have hsl:=(hs.shows x hxm).1;obtain⟨n,hn⟩:∃n,x.shows[j]?=some n:=⟨_,dc (by omega)⟩
 have hnb:=(hs.shows x hxm).2 n (aG hn);have hst:=hs.stay x hxm;have hg:=hb.grams;have il:(i:Int)<(s.colours.length:Int):=h0.2;have jl:(j:Int)<(x.shows.length:Int):=by omega
 have mB:0<=b.grams*n/\b.grams*n<=100000000:=⟨ri (by omega) hnb.1,by have:=s9 hg.2 hnb.2 hnb.1 (by omega:(0:Int)<=100000);omega⟩
 have w1:IntKind.i64.wrap (b.grams*n)=b.grams*n:=aj (by omega) (by omega);have w2:IntKind.i64.wrap (1000*x.stay.hi)=1000*x.stay.hi:=aj (by omega) (by omega);have hsp:pL s (i:Int) b r=((i:Int) != (j:Int)&&decide (b.grams*n*1000^r<1000*x.stay.hi*s.keep.hi^r)):=by
  simp only[pL,g7,hx,hj,hn]
 rw[hsp];simp only[hx,il,hj,hn,jl,w1,go_sem,simprocAttr];cases hc:((i:Int) != (j:Int))
 .simp only[go_sem,simprocAttr]
 simp only[w2,go_sem,simprocAttr]
 (first|refine ae (yJ (1000*x.stay.hi) s.keep.hi r (by omega) (by have:=hs.keep;omega) hr) rfl ?_|refine ax (yJ (1000*x.stay.hi) s.keep.hi r (by omega) (by have:=hs.keep;omega) hr) rfl ?_)
 simp only[go_sem,simprocAttr]
 (first|refine ae (yJ (b.grams*n) 1000 r (by omega) (by omega) hr) rfl ?_|refine ax (yJ (b.grams*n) 1000 r (by omega) (by omega) hr) rfl ?_)
 simp only[go_sem,simprocAttr]
theorem TH(s)(l)(before:Int)(b)(hs:ShopOk s)(hb:BatchOk s b)(h0:0<=before/\before<s.colours.length) :
  af TP 80 [K3 s l,.int .i64 before,b.pv] (.int .i64 (i8 s before b)):=by
 refine aa (ah Tryz.func80 rfl (by kernel_rfl)) rfl ?_;simp only[go_sem,simprocAttr];refine gH [0,1,5] (σ:=Nat) (λk=>k<=4/\i8 s before b=ow (pL s before b) (4-k) k) (λk=>4-k) (λk=>[(8,.p (.int .i64 k))]) (λk=>[.row 2 [.p b.pv]]) 0 ⟨by decide,rfl⟩ ?_ ?_
 .simp only[go_sem,simprocAttr]<;>simp
 intro k ⟨hk,e2⟩;rcases KF hk with rfl|hlt
 .rw[show 4-4=0 from rfl,ow]at e2;simp only[e2,go_sem,simprocAttr]
 have hd:decide ((k:Int)<4)=true:=by simp;omega
 have hw:IntKind.i64.wrap ((k:Int)+1)=((k+1:Nat):Int):=bj (by omega) (by simp[aw];omega) (by omega);rw[show 4-k=(4-(k+1))+1 by omega,ow]at e2;simp only[hd,go_sem,simprocAttr];refine bf (V0 s l before b k hs hb h0 (by omega)) ?_ (.bool _) ?_
 .simp only[go_sem,simprocAttr]
 simp only[go_sem,simprocAttr];cases hc:pL s before b k
 .rw[hc,if_neg (by decide)]at e2;simp only[e2,go_sem,simprocAttr]
 .rw[hc,if_pos rfl]at e2;simp only[go_sem,simprocAttr];refine bU (k+1) ⟨by omega,e2⟩ (by omega) ?_;simp only[hw,go_sem,simprocAttr]
def nj (s:ClShop) (l:List ClBatch) (m:Nat):AObj:=.row 6 [.agg [.p (.slice 4 (s.colours.map ClColour.pv) false),.p (.int .i64 s.keep.lo),.p (.int .i64 s.keep.hi),.p (.int .i64 s.rinse),.p (.slice 2 (l.map ClBatch.pv) false),.ref .mp m]]
attribute [go_sem] nj
theorem G8{e e0}{a b c}{u}{t}(hu:u=.p .nilptr\/u=.ptr 6 1 0 0):j3 TP 74 [.ptr 3 1 0 0,.ptr 4 1 0 0] (.pan (.iface 49 (.int .i64 e))) (a::b::c::.row 1 [u]::.row 1 [.p (.int .i64 e0)]::t)
  (λr u h'=>r=.ret (.p (.tuple []))/\u=.recd (.iface 49 (.int .i64 e))/\h'=a::b::c::.row 1 [.p .nilptr]::.row 1 [.p (.int .i64 e)]::t):=by
 refine fY (eg (by kernel_rfl) rfl Vg) rfl ?_;rcases hu with rfl|rfl<;>simp only[Yn,aL,ol,iS,bC,go_sem,simprocAttr]
theorem N6{i j}{h}:j3 TP 74 [.ptr i 1 0 0,.ptr j 1 0 0] .ret h (λr u h'=>r=.ret (.p (.tuple []))/\u=.ret/\h'=h):=by
 refine fY (eg (by kernel_rfl) rfl Vg) rfl ?_;simp only[ol,iS,go_sem,simprocAttr]
theorem dy{rs}{R}{T}{e e0}{a b c}{u}{t}(hu:u=.p .nilptr\/u=.ptr 6 1 0 0)(k:cq TP rs R T [] .ret (a::b::c::.row 1 [.p .nilptr]::.row 1 [.p (.int .i64 e)]::t)) :
  cq TP rs R T [.fn 74 [.ptr 3 1 0 0,.ptr 4 1 0 0]] (.pan (.iface 49 (.int .i64 e))) (a::b::c::.row 1 [u]::.row 1 [.p (.int .i64 e0)]::t):=by
 rw[kK];refine(G8 hu).mono λr u h' hr=>?_;obtain⟨rfl,rfl,rfl⟩:=hr;exact k
theorem zU{rs}{R}{T}{h}(k:cq TP rs R T [] .ret h):cq TP rs R T [.fn 74 [.ptr 3 1 0 0,.ptr 4 1 0 0]] .ret h:=by
 rw[kK];refine N6.mono λr u h' hr=>?_;obtain⟨rfl,rfl,rfl⟩:=hr;exact k
theorem X2(e):af TP 76 [.bool true,.int .i64 e] (.tuple []):=by
 refine aa (ah Tryz.func76 rfl (by kernel_rfl)) rfl ?_;simp only[go_sem,simprocAttr]
theorem pT{P}{H}{ops}{rest}{Q}{o}{hs}{A}{f}{args}{pargs}{v}(hc:af P f pargs v)(ha:args=pargs.map .p)
  (h:@WD ⟨P,H,ops,rest,Q⟩ hs (A.put o.dst (.p v) A.h)):@OX ⟨P,H,ops,rest,Q,o⟩ hs A (.call f args):=by
 subst ha;exact .inl ⟨.p v,λ_ _=>rG hc,h⟩
theorem LK(s)(l)(b)(hn:s.colours.length<=6)(a0 a1 a2 a3 a4 a5 a7):aD TP 78 [.ptr 6 1 0 0,.p b.pv] [a0,a1,a2,a3,a4,a5,nj s l 5,a7]
  (λr h'=>h'=[a0,a1,a2,a3,a4,a5,nj s l 5,a7,.row 2 [.p b.pv]]/\r=if dE s b=0 then .ret (.p (.tuple [])) else .panic (.iface 49 (.int .i64 (dE s b)))):=by
 refine aC (eg (by kernel_rfl) rfl ZT) rfl ?_;have hw:IntKind.i64.wrap ((s.colours.length:Int)-1)=(s.colours.length:Int)-1:=aj (by omega) (by omega);simp only[Ym,aL,hw,go_sem,simprocAttr]
 (first|refine ae (fi 0 ((s.colours.length:Int)-1) [b.colour] true (by simp)) rfl ?_|refine ax (fi 0 ((s.colours.length:Int)-1) [b.colour] true (by simp)) rfl ?_)
 simp only[cV,bw,cD,md,go_sem,simprocAttr];cases h1:ar b.colour 0 ((s.colours.length:Int)-1)
 .have hb:dE s b=4:=by rw[dE,h1];rfl
  refine Rw λT=>?_;simp only[hb,go_sem,simprocAttr]
 refine pT (X2 4) rfl ?_;simp only[go_sem,simprocAttr];refine ae (fi 1 100000 [_] true (by simp)) rfl ?_;simp only[cV,bw,cD,md,go_sem,simprocAttr];cases h2:ar b.grams 1 100000
 .have hb:dE s b=7:=by rw[dE,h1,h2];rfl
  refine az (λh=>by cases h) λ_=>?_;simp only[hb,go_sem,simprocAttr]
 have hb:dE s b=0:=by rw[dE,h1,h2];rfl
 refine az (λ_=>?_) (λh=>by cases h);simp only[hb,go_sem,simprocAttr]
set_option maxHeartbeats 2000000 in
theorem LJ(s)(aZ)(l)(x)(hl:l.length<1000000000):aD TP 44 [.p s.pv,.p (.slice 2 (l.map ClBatch.pv) false),.slice 1 1 0 1] [x,.row 1 [.p (.int .i64 aZ)]]
  (λr h'=>(dH s aZ l=0/\ShopOk s/\(∀b,b∈l->BatchOk s b)/\l.length<=7/\r=.ret (.tuple [.ptr 6 1 0 0,.p (.int .i64 0)])/\h'=[x,.row 1 [.p (.int .i64 aZ)],.row 4 [.p s.pv],.row 1 [.ptr 6 1 0 0],.row 1 [.p (.int .i64 0)],.mp [],nj s l 5]) \/
   (dH s aZ l≠0/\r=.ret (.p (.tuple [.nilptr,.int .i64 (dH s aZ l)]))/\∃t,h'=[x,.row 1 [.p (.int .i64 aZ)],.row 4 [.p s.pv],.row 1 [.p .nilptr],.row 1 [.p (.int .i64 (dH s aZ l))]]++t)):=by
 refine IJ λhbel=>?_;have hx0:bm 7 x:=Ix (n:=2) (by decide) (hbel x (by simp));refine aC (ah Tryz.func44 rfl (by kernel_rfl)) rfl ?_;simp only[go_sem,simprocAttr];refine ae (qJ s) rfl ?_;simp only[al,go_sem,simprocAttr];cases h0:((clCheck s).2.2==0)
 .have h0':¬(clCheck s).2.2=0:=by simpa using h0
  have ho:dH s aZ l=(clCheck s).2.2:=by rw[dH,if_neg h0']
  refine az (λh=>by cases h) λ_=>?_;simp only[go_sem,simprocAttr];refine dy (.inl rfl) ?_;simp only[go_sem,simprocAttr];exact .inr ⟨by rw[ho];exact h0',by rw[ho],[],by rw[ho];exact⟨rfl,rfl⟩⟩
 have h0':(clCheck s).2.2=0:=by simpa using h0
 have hs:=uh h0';have hsl:=hs.len;have hw:IntKind.i64.wrap ((s.colours.length:Int)-1)=(s.colours.length:Int)-1:=aj (by omega) (by omega);refine az (λ_=>?_) (λh=>by cases h);simp only[h0',hw,go_sem,simprocAttr];refine bf (fi 0 ((s.colours.length:Int)-1) [aZ] false (by simp)) ?_ (.bool _) ?_
 .simp only[go_sem,simprocAttr]
 simp only[cV,bw,cD,md,go_sem,simprocAttr];cases h1:ar aZ 0 ((s.colours.length:Int)-1)
 .have ho:dH s aZ l=4:=by rw[dH,if_pos h0',h1];rfl
  refine az (λh=>by cases h) λ_=>?_;simp only[go_sem,simprocAttr];refine dy (.inl rfl) ?_;simp only[go_sem,simprocAttr];exact .inr ⟨by rw[ho];decide,by rw[ho],[],by rw[ho];exact⟨rfl,rfl⟩⟩
 have ho1:dH s aZ l=lf s l:=by rw[dH,if_pos h0',h1];rfl
 refine az (λ_=>?_) (λh=>by cases h);simp only[go_sem,simprocAttr];cases h2:decide ((l.length:Int)<=7)
 .have h2':¬l.length<=7:=by simp at h2;omega
  have ho:dH s aZ l=3:=by rw[ho1,lf,if_neg h2']
  refine az (λh=>by cases h) λ_=>?_;simp only[go_sem,simprocAttr];refine dy (.inl rfl) ?_;simp only[go_sem,simprocAttr];exact .inr ⟨by rw[ho];decide,by rw[ho],[],by rw[ho];exact⟨rfl,rfl⟩⟩
 have h2':l.length<=7:=by simp at h2;omega
 have ho2:dH s aZ l=dA s l:=by rw[ho1,lf,if_pos h2']
 refine az (λ_=>?_) (λh=>by cases h);simp only[go_sem,simprocAttr]
 refine aQ [6,7,38,39] l (by omega) (τ:=Unit) (λdone rest _=>dA s l=dA s rest) (λdone _=>[(40,.p (.int .i64 done.length))])
  (λ_ _=>[x,.row 1 [.p (.int .i64 aZ)],.row 4 [.p s.pv],.row 1 [.ptr 6 1 0 0],.row 1 [.p (.int .i64 0)],.mp [],nj s l 5]) () rfl ?_ ?_ ?_
 .simp only[go_sem,simprocAttr];exact⟨hx0,show 5<7 by decide⟩
 .intro _ e2;rw[dA]at e2;simp only[go_sem,simprocAttr];refine zU ?_;simp only[go_sem,simprocAttr];exact .inl ⟨ho2.trans e2,hs,BS e2,h2'⟩
 .intro done b r _ e1 e2 hx hlt hnx;rw[dA]at e2;simp only[hlt,hx,go_sem,simprocAttr];refine cz (LK s l b (by omega) _ _ _ _ _ _ _) (λv h hr=>?_) (λv h hr=>?_)
  .obtain⟨rfl,hr⟩:=hr;by_cases hb:dE s b=0
   .rw[if_pos hb]at e2 hr;cases hr;simp only[go_sem,simprocAttr];refine ak e1 () e2 ?_;simp only[hnx,go_sem,simprocAttr];exact⟨hx0,show 5<7 by decide⟩
   .rw[if_neg hb]at hr;cases hr
  .obtain⟨rfl,hr⟩:=hr;by_cases hb:dE s b=0
   .rw[if_pos hb]at hr;cases hr
   .rw[if_neg hb]at e2 hr;cases hr;simp only[go_sem,simprocAttr];refine dy (.inr rfl) ?_;simp only[go_sem,simprocAttr];exact .inr ⟨by rw[ho2,e2];exact hb,by rw[ho2,e2],_,by rw[ho2,e2];exact⟨rfl,rfl⟩⟩
section
variable (need:Int->Nat->Option Int) (col:Nat->Int)
def cQ (a b:Option (List Nat×Int)):Option (List Nat×Int):=
 match a,b with
 |none,b=>b
 |a,none=>a
 |some p,some q=>if q.2<p.2 then some q else some p
def ia (i:Nat) (n:Option Int) (r:Option (List Nat×Int)):Option (List Nat×Int):=
 match n,r with
 |some n,some (o,c)=>some (i::o,n+c)
 |_,_=>none
def fw:Nat->Int->List Nat->Option (List Nat×Int)
 |_,_,[]=>some ([],0)
 |0,_,_::_=>none
 |k+1,c,i::l=>(i::l).foldl (λa j=>cQ a (ia j (need c j) (fw k (col j) ((i::l).erase j)))) none
def nM:Nat->List Nat->List (List Nat)
 |_,[]=>[[]]
 |0,_::_=>[]
 |k+1,i::l=>(i::l).flatMap λj=>(nM k ((i::l).erase j)).map (j::·)
def jx:Int->List Nat->Option Int
 |_,[]=>some 0
 |c,i::o=>match need c i,jx (col i) o with|some n,some m=>some (n+m)|_,_=>none
def fJ (c:Int) (l:List (List Nat)) (a:Option (List Nat×Int)):Option (List Nat×Int):=l.foldl (λa o=>cQ a ((jx need col c o).map λn=>(o,n))) a
theorem iF(a):cQ a none=a:=by cases a<;>rfl
theorem fh(a):cQ none a=a:=by cases a<;>rfl
theorem Hx(a b c):cQ (cQ a b) c=cQ a (cQ b c):=by
 cases a with
 |none=>simp[fh]
 |some p=>cases b with
  |none=>simp[iF,fh]
  |some q=>cases c with
   |none=>simp[iF]
   |some r=>
    simp only[cQ];by_cases h1:q.2<p.2
    .rw[if_pos h1];by_cases h2:r.2<q.2
     .rw[if_pos h2];simp only[];rw[if_pos h2,if_pos (by omega)]
     .rw[if_neg h2];simp only[];rw[if_neg h2,if_pos h1]
    .rw[if_neg h1];by_cases h2:r.2<q.2
     .rw[if_pos h2]
     .rw[if_neg h2];simp only[];rw[if_neg h1,if_neg (by omega)]
theorem jv(c):∀(l) (a),fJ need col c l a=cQ a (fJ need col c l none)
 |[],a=>by simp[fJ,iF]
 |o::l,a=>by
  have h1:=jv c l (cQ a ((jx need col c o).map λn=>(o,n)));have h2:=jv c l (cQ none ((jx need col c o).map λn=>(o,n)));simp only[fJ,nd]at h1 h2 |-;rw[h1,h2,fh,Hx]
theorem It(c)(l m)(a):fJ need col c (l++m) a=cQ (fJ need col c l a) (fJ need col c m none):=by
 rw[<-jv];simp[fJ,B8]
theorem G9(i)(n)(a b):ia i n (cQ a b)=cQ (ia i n a) (ia i n b):=by
 cases n with
 |none=>cases a<;>cases b<;>simp[cQ,ia]
 |some n=>cases a with
  |none=>simp[fh,ia]
  |some p=>cases b with
   |none=>simp[iF,ia]
   |some q=>
    simp only[cQ,ia];by_cases h:q.2<p.2
    .rw[if_pos h,if_pos (by omega)]
    .rw[if_neg h,if_neg (by omega)]
theorem DA(c)(i):∀(l),fJ need col c (l.map (i::·)) none=ia i (need c i) (fJ need col (col i) l none)
 |[]=>by cases need c i<;>simp[fJ,ia]
 |o::l=>by
  have ih:=DA c i l;rw[bL];rw[show fJ need col c ((i::o)::l.map (i::·)) none=fJ need col c (l.map (i::·)) (cQ none ((jx need col c (i::o)).map λn=>(i::o,n))) from rfl];rw[show fJ need col (col i) (o::l) none=fJ need col (col i) l (cQ none ((jx need col (col i) o).map λn=>(o,n))) from rfl];rw[jv need col c _ (cQ none _),ih,jv need col (col i) l (cQ none _),G9,fh,fh,jx];have e:(match need c i,jx need col (col i) o with|some n,some m=>some (n+m)|_,_=>none).map (λn=>(i::o,n))=ia i (need c i) ((jx need col (col i) o).map λn=>(o,n)):=by
   cases need c i<;>cases jx need col (col i) o<;>simp[ia]
  rw[e]
theorem p8{α β:Type}{f g:β->α->β}:∀{l:List α} {b},(∀b x,x∈l->f b x=g b x)->l.foldl f b=l.foldl g b
 |[],_,_=>rfl
 |x::l,b,h=>by rw[nd,nd,h b x (by simp),p8 λb y hy=>h b y (by simp[hy])]
theorem Dz(c)(f):∀(l:List Nat) (a),fJ need col c (l.flatMap f) a=l.foldl (λa j=>cQ a (fJ need col c (f j) none)) a
 |[],a=>rfl
 |j::l,a=>by rw[mF,It,nd,<-Dz c f l,jv need col c (l.flatMap f) (cQ a _),jv need col c (f j) a]
theorem Ee:∀(k) (c) (l),l.length<=k->fJ need col c (nM k l) none=fw need col k c l
 |k,c,[],h=>by cases k<;>simp[nM,fw,fJ,jx,fh]
 |0,c,i::l,h=>by simp at h
 |k+1,c,i::l,h=>by
  rw[nM,fw,Dz];refine p8 λa j hj=>?_;rw[DA,Ee k (col j) _ (by rw[List.length_erase_of_mem hj];simp at h |-;omega)]
theorem zN(c):∀(l) (o) (n),fJ need col c l none=some (o,n)->o∈l/\jx need col c o=some n
 |[],o,n,h=>by simp[fJ]at h
 |x::l,o,n,h=>by
  rw[show fJ need col c (x::l) none=fJ need col c l (cQ none ((jx need col c x).map λn=>(x,n))) from rfl,jv,fh]at h
  cases hx:jx need col c x with
  |none=>
   rw[hx,Option.map_none,fh]at h;have:=zN c l o n h
   exact⟨by simp[this.1],this.2⟩
  |some m=>
   rw[hx,jX]at h
   cases hl:fJ need col c l none with
   |none=>rw[hl,iF]at h;cases h;exact⟨by simp,hx⟩
   |some q=>
    rw[hl]at h;simp only[cQ]at h;split at h
    .cases h;have:=zN c l _ _ hl;exact⟨by simp[this.1],this.2⟩
    .cases h;exact⟨by simp,hx⟩
theorem y7:∀(k) (l o),o∈nM k l->o.Perm l
 |k,[],o,h=>by cases k<;>(simp[nM]at h;subst h;exact .refl _)
 |0,i::l,o,h=>by simp[nM]at h
 |k+1,i::l,o,h=>by
  rw[nM,zB]at h;obtain⟨j,hj,h⟩:=h;obtain⟨p,hp,rfl⟩:=cH.1 h;exact((y7 k _ p hp).cons j).trans (List.perm_cons_erase hj).symm
end
end Cl
end Abs
end Go.Proofs.YtoapoaoelpcniaaGreatDoor
namespace Go.Proofs.YtoapoaoelpcniaaGreatDoor
namespace Abs
namespace Cl
def fj (m:Nat):List Nat:=(List.range 7).filter m.testBit
set_option maxRecDepth 100000 in
theorem rK:∀m,m<128->∀i,i<7->m.testBit i=true->(fj m).erase i=fj (m-2^i)/\2^i<=m:=by decide
theorem Hv{m i}:i∈fj m↔i<7/\m.testBit i=true:=by simp[fj]
theorem Ed:fj 0=[]:=by decide
set_option maxRecDepth 100000 in
theorem Hu:∀m,m<128->fj m=[]->m=0:=by decide
theorem wh(m):(fj m).length<=7:=by have:=List.length_filter_le m.testBit (List.range 7);simpa[fj]using this
def lR:Int:=1099511627776
def iN:Option (List Nat×Int)->Int×Int
 |none=>(lR,-2)
 |some (o,n)=>(n,match o with|[]=>-1|i::_=>(i:Int))
section
variable (need:Int->Nat->Option Int) (col:Nat->Int)
def kI (c:Int) (f:Nat->Int×Int) (p:Int×Int) (j:Nat):Int×Int:=
 match need c j with
 |none=>p
 |some n=>if n+(f j).1<p.1 then(n+(f j).1,(j:Int)) else p
def pb (B:Int) (a:Option (List Nat×Int)):Prop:=∀o n,a=some (o,n)->0<=n/\n<=B
theorem wS{B}{a b}(ha:pb B a)(hb:pb B b):pb B (cQ a b):=by
 intro o n h
 cases a with
 |none=>cases b<;>first|exact hb o n h|cases h
 |some p=>
  cases b with
  |none=>exact ha o n h
  |some q=>
   simp only[cQ]at h;split at h
   .exact hb o n h
   .exact ha o n h
theorem yY{α:Type}{B}{f:α->Option (List Nat×Int)}:∀(l:List α) (a),pb B a->(∀x,x∈l->pb B (f x))->pb B (l.foldl (λa x=>cQ a (f x)) a)
 |[],a,ha,_=>ha
 |x::l,a,ha,h=>yY l _ (wS ha (h x (by simp))) λy hy=>h y (by simp[hy])
theorem od(hn:∀c j n,need c j=some n->0<=n/\n<=30000):∀(k:Nat) (c) (l),pb (30000*(k)) (fw need col k c l)
 |k,c,[]=>by
  intro o n h
  cases k<;>(simp only[fw,jO,Au]at h;omega)
 |0,c,i::l=>by intro o n h;cases h
 |k+1,c,i::l=>by
  rw[fw];refine yY _ none (λo n h=>by cases h) λj hj=>?_;intro o n h;unfold ia at h;split at h
  .rename_i n1 o1 c1 h1 h2;have a1:=hn _ _ _ h1;have a2:=od hn k (col j) _ o1 c1 h2;cases h;omega
  .cases h
theorem Nj{B}(hB:B+30000<lR)(hn:∀c j n,need c j=some n->0<=n/\n<=30000)(c)(j){a r}{f}(ha:pb (B+30000) a)(hr:pb B r)(hf:f j=iN r) :
  iN (cQ a (ia j (need c j) r))=kI need c f (iN a) j:=by
 unfold kI
 cases hc:need c j with
 |none=>simp only[ia,iF]
 |some n=>
  have hn':=hn _ _ _ hc;dsimp only;rw[hf]
  cases r with
  |none=>
   simp only[ia,iF];rw[if_neg]
   cases a with
   |none=>simp only[iN];omega
   |some p=>have:=ha p.1 p.2 rfl;simp only[iN];omega
  |some q=>
   have hq:=hr q.1 q.2 rfl;simp only[ia]
   cases a with
   |none=>
    simp only[fh,iN]
    exact(if_pos (show n+q.2<lR by omega)).symm
   |some p=>
    simp only[cQ,iN];by_cases hlt:n+q.2<p.2
    .rw[if_pos hlt];exact(if_pos hlt).symm
    .rw[if_neg hlt];exact(if_neg hlt).symm
theorem AS{B}(hB:B+30000<lR)(hn:∀c j n,need c j=some n->0<=n/\n<=30000)(c)(r:Nat->Option (List Nat×Int))(hr:∀j,pb B (r j)):∀(l:List Nat) (a),pb (B+30000) a ->
  iN (l.foldl (λa j=>cQ a (ia j (need c j) (r j))) a)=l.foldl (kI need c λj=>iN (r j)) (iN a)
 |[],a,_=>rfl
 |j::l,a,ha=>by
  rw[nd,nd,<-Nj need hB hn c j ha (hr j) rfl];refine AS hB hn c r hr l _ (wS ha ?_);intro o n h;unfold ia at h;split at h
  .rename_i n1 o1 c1 h1 h2;have a1:=hn _ _ _ h1;have a2:=hr j o1 c1 h2;cases h;omega
  .cases h
def lP (c:Int) (m:Nat):Int×Int:=iN (fw need col 7 c (fj m))
theorem xV:∀(k) (c) (l),l.length<=k->fw need col (k+1) c l=fw need col k c l
 |0,c,[],_=>rfl
 |0,c,_::_,h=>by simp at h
 |k+1,c,[],_=>rfl
 |k+1,c,i::l,h=>by
  rw[fw,fw];refine p8 λa j hj=>?_;rw[xV k (col j) _ (by rw[List.length_erase_of_mem hj];simp at h |-;omega)]
theorem y4(c):lP need col c 0=(0,-1):=by
 rw[lP,Ed];rfl
theorem Is(hn:∀c j n,need c j=some n->0<=n/\n<=30000)(c){m}(hm:m<128)(h0:m≠0) :
  lP need col c m=(fj m).foldl (kI need c λj=>lP need col (col j) (m-2^j)) (lR,-2):=by
 have hl:=wh m;unfold lP;rw[<-xV need col 7 c _ hl]
 cases hb:fj m with
 |nil=>exact absurd (Hu m hm hb) h0
 |cons i l=>
  rw[fw];have hs:=od need col hn 7;rw[AS need (B:=210000) (by unfold lR;omega) hn c (λj=>fw need col 7 (col j) ((i::l).erase j)) (λj o n h=>hs _ _ o n h) (i::l) none (λo n h=>by cases h)];refine p8 λa j hj=>?_;rw[<-hb]at hj |-;rw[Hv]at hj;simp only[kI,(rK m hm j hj.1 hj.2).1]
theorem Bv{f:Nat->Option (List Nat×Int)}:∀(l:List Nat) (a) (o) (n),l.foldl (λa j=>cQ a (f j)) a=some (o,n)->a=some (o,n)\/∃j,j∈l/\f j=some (o,n)
 |[],a,o,n,h=>.inl h
 |j::l,a,o,n,h=>by
  rcases Bv l _ o n h with h|⟨i,hi,h⟩
  .cases a with
   |none=>exact .inr ⟨j,by simp,(fh _).symm.trans h⟩
   |some p=>
    dsimp only at h
    cases hf:f j with
    |none=>simp only[hf,iF]at h;exact .inl h
    |some q=>
     simp only[hf,cQ]at h;split at h
     .exact .inr ⟨j,by simp,hf.trans h⟩
     .exact .inl h
  .exact .inr ⟨i,by simp[hi],h⟩
theorem OG{k}{c}{i}{l}{o}{n}(h:fw need col (k+1) c (i::l)=some (o,n)):∃j o' n',j∈i::l/\o=j::o'/\fw need col k (col j) ((i::l).erase j)=some (o',n'):=by
 rw[fw]at h;rcases Bv _ none o n h with h|⟨j,hj,h⟩
 .cases h
 .unfold ia at h;split at h
  .rename_i n1 o1 c1 h1 h2;cases h;exact⟨j,o1,c1,hj,rfl,h2⟩
  .cases h
theorem Lh{c}{m}(hm:m<128)(h0:m≠0){o}{n}(h:fw need col 7 c (fj m)=some (o,n)):∃j o' n',j<7/\m.testBit j=true/\o=j::o'/\(lP need col c m).2=(j)/\fw need col 7 (col j) (fj (m-2^j))=some (o',n'):=by
 have hl:=wh m;have hp:lP need col c m=iN (some (o,n)):=by rw[lP,h]
 rw[<-xV need col 7 c _ hl]at h
 cases hb:fj m with
 |nil=>exact absurd (Hu m hm hb) h0
 |cons i l=>
  rw[hb]at h;obtain⟨j,o',n',hj,rfl,h'⟩:=OG need col h;rw[<-hb]at hj h';rw[Hv]at hj;rw[(rK m hm j hj.1 hj.2).1]at h';exact⟨j,o',n',hj.1,hj.2,rfl,by rw[hp];rfl,h'⟩
end
end Cl
end Abs
end Go.Proofs.YtoapoaoelpcniaaGreatDoor
namespace Go.Proofs.YtoapoaoelpcniaaGreatDoor
namespace Abs
namespace Cl
set_option maxRecDepth 4000
theorem Gs(can):∀(c r),ow can c r=-1\/((r)<=ow can c r/\ow can c r<r+c)
 |0,r=>.inl rfl
 |c+1,r=>by
  rw[ow];split
  .rcases Gs can c (r+1) with h|h
   .exact .inl h
   .exact .inr (by omega)
  .exact .inr (by omega)
theorem SO(s)(c)(b):-1<=i8 s c b/\i8 s c b<=3:=by
 have:=Gs (pL s c b) 4 0;unfold i8;omega
def vw (s:ClShop) (c:Int) (b:ClBatch):Option Int:=if i8 s c b<0 then none else some (i8 s c b*s.rinse)
theorem Cv{s}(hs:ShopOk s){c}{b}{n}(h:vw s c b=some n):0<=n/\n<=30000:=by
 unfold vw at h;split at h
 .cases h
 .rename_i h0;cases h;have h1:=SO s c b;have h2:=hs.rinse;have:=s9 h1.2 h2.2 h2.1 (by omega:(0:Int)<=3);exact⟨ri (by omega) h2.1,by omega⟩
end Cl
variable {P:Program} {M0:Nat->Prop}
theorem F8{w:World}{b}{ob}(h:w.heap[b]?=some ob):w.putObj b ob=w:=by
 obtain⟨hlt,he⟩:=r6.1 h;have:w.heap.setIfInBounds b ob=w.heap:=by
  apply nw
  .simp
  .intro i h1 h2;rw[Array.getElem_setIfInBounds];split
   .rename_i e;subst e;exact he.symm
   .rfl
 unfold World.putObj;simp only[this]
theorem Nt{S}(hS:HOk P M0 S){id}{φ}(hid:S.h[id]?=some (.memo φ)) :
  pe φ/\∃es,(∀p,p∈es->φ p.1 p.2=true)/\HOk P M0 ⟨S.m,S.h.set id (.mp es),S.w⟩/\Ev S.h.length S ⟨S.m,S.h.set id (.mp es),S.w⟩:=by
 obtain⟨hg,es,hf,bl,C,clk,hm,hb,hrel⟩:=hS.obj id _ hid;have:=kf hS (o:=.mp es) (ob:=.map C clk) hm hid hb (nO hb) (by intro C T f;simp) (.inr (.inr ⟨by simp[AObj.tag],rfl,rfl⟩)) (λhe hx=>⟨bl,C,clk,rfl,hx,hrel.mono λv a=>he.keepS⟩);rw[F8 hb]at this;exact⟨hg,es,hf,this⟩
theorem vD{S}(hS:HOk P M0 S){id}{es}{φ}(hg:pe φ)(hf:∀p,p∈es->φ p.1 p.2=true)(hid:S.h[id]?=some (.mp es)) :
  HOk P M0 ⟨S.m,S.h.set id (.memo φ),S.w⟩/\Ev S.h.length S ⟨S.m,S.h.set id (.memo φ),S.w⟩:=by
 obtain⟨bl,C,clk,hm,hb,hrel⟩:=hS.obj id _ hid;have:=kf hS (o:=.memo φ) (ob:=.map C clk) hm hid hb (nO hb) (by intro C T f;simp) (.inr (.inr ⟨by simp[AObj.tag],rfl,rfl⟩)) (λhe hx=>⟨hg,es,hf,bl,C,clk,rfl,hx,hrel.mono λv a=>he.keepS⟩);rw[F8 hb]at this;exact this
theorem LH{f}{args}{h}{R}{id}{φ}(hid:h[id]?=some (.memo φ))
  (k:pe φ->∀es,(∀p,p∈es->φ p.1 p.2=true)->aD P f args (h.set id (.mp es)) (λr h''=>(h''=h\/h''=h.set id (.mp es))/\R r h)):aD P f args h R:=by
 intro M0 m w cargs hS hargs;have hidl:=(aF.1 hid).1;obtain⟨hg,es,hf,hS',hev⟩:=Nt hS hid;have:=k hg es hf M0 m w cargs hS' (hargs.imp λv a _ hr=>hev.keep hr);refine⟨this.1,this.2.mono λe w' hh=>?_⟩;obtain⟨r,h'',m',⟨hh,hR⟩,hev',hk,hend⟩:=hh;have hevT:Ev h.length ⟨m,h,w⟩ ⟨m',h'',w'⟩:=hev.trans (by simpa using hev');rcases hh with rfl|rfl
 .exact⟨r,_,m',hR,hevT,hk,hend⟩
 .have hid':(h.set id (.mp es))[id]?=some (.mp es):=jf hidl;obtain⟨hk2,hev2⟩:=vD hk (φ:=φ) hg hf hid';have e1:(h.set id (.mp es)).set id (.memo φ)=h:=by rw[rg];exact jP hid
  dsimp only at hk2 hev2;rw[e1]at hk2 hev2;refine⟨r,h,m',hR,hevT.trans (by simpa using hev2),hk2,?_⟩
  cases e with
  |returned v'=>
   cases r with
   |panic v=>exact hend.elim
   |ret a=>exact hev2.keep hend
  |panicked ch=>
   cases r with
   |ret a=>exact hend.elim
   |panic v=>
    obtain⟨v',h1,h2⟩:=hend
    exact⟨v',h1,hev2.keep (a:=.p v) h2⟩
  |outgrown=>exact hend.elim
theorem MB{A}{id}{es}{φ}(hg:pe φ)(hf:∀p,p∈es->φ p.1 p.2=true)(hid:A.h[id]?=some (.mp es)):f7 P A { A with h:=A.h.set id (.memo φ) }:=
 ⟨rfl,rfl,λM0 S0 b cs0 m a w hr=>⟨m,by
  have:=vD (S:=⟨m,A.h,w⟩) hr.hok hg hf hid
  exact hr.ahead (m':=m) (h':=A.h.set id (.memo φ)) (w':=w) this.2 this.1⟩⟩
variable {H:Hints} {Q:Cont}
end Abs
end Go.Proofs.YtoapoaoelpcniaaGreatDoor
