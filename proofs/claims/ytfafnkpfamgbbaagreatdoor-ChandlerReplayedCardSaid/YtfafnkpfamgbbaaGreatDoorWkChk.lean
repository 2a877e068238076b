/-
  CONTRACTS: what is checked of a shop, in the program and in the reference: both come to 'c
-/
import Derived.Test.YtfafnkpfamgbbaaGreatDoorAbsCutX
import Derived.Test.YtfafnkpfamgbbaaGreatDoorLibGoX
set_option linter.unusedSimpArgs false
set_option linter.unusedVariables false
open Go.Proofs.Tryz renaming prog->TP
namespace Go.Proofs.YtfafnkpfamgbbaaGreatDoor
namespace Abs
namespace Wk
set_option maxRecDepth 4000
theorem AL (lo hi n):ah TP 213 [.int .i64 n,.ptr 1 [.int .i64 lo] 0 0,.ptr 1 [.int .i64 hi] 0 0] (.bool (!ar n lo hi)):=by
 refine aa (ai (by kernel_rfl) rfl XN) rfl ?_;simp only [go_sem,simprocAttr];refine aT (λhb=>?_) (λhb=>?_)<;>simp only [hb,go_sem,simprocAttr]<;>simp_all [ar];rw [<-decide_not];congr 1;simp
theorem e8 (lo hi) (l:List Int) (b) (hl:l.length<1000000000):ah TP 151 [.int .i64 lo,.int .i64 hi,.slice 1 (l.map aK) b] (.bool (l.any λn=>!ar n lo hi)):=by
 refine aa (ai (by kernel_rfl) rfl Yv) rfl ?_;simp only [go_sem,simprocAttr];refine bf (jX (fv:=.func (.func 213) [] [.ptr 1 [.int .i64 lo] 0 0,.ptr 1 [.int .i64 hi] 0 0]) l (λn=>!ar n lo hi) b 1 rfl hl λn _=>⟨_,_,_,rfl,AL lo hi n⟩) ?_ (.bool _) ?_
 .simp only [go_sem,simprocAttr]
 .simp only [go_sem,simprocAttr]
theorem OZ (s:Span):ah TP 214 [s.pv] (.bool (decide (s.hi<s.lo))):=by
 refine aa (ai (by kernel_rfl) rfl XM) rfl ?_;simp only [go_sem,simprocAttr]
theorem xw (l:List Span) (b) (hl:l.length<1000000000):ah TP 152 [.slice 2 (l.map Span.pv) b] (.bool (l.any λs=>decide (s.hi<s.lo))):=by
 refine aa (ai (by kernel_rfl) rfl Yu) rfl ?_;simp only [go_sem,simprocAttr];refine ae (oL (fv:=.func (.func 214) [] []) l (λs=>decide (s.hi<s.lo)) b 2 rfl hl λs _=>⟨_,_,_,rfl,OZ s⟩) rfl ?_;simp only [go_sem,simprocAttr]
theorem wB (x:Wick):ah TP 154 [x.pv] (.str x.name):=by
 refine aa (ai (by kernel_rfl) rfl Ys) rfl ?_;simp only [go_sem,simprocAttr]
theorem F5 (s) (x:Wick):ah TP 216 [x.pv,.ptr 1 [.func (.func 154) [] []] 0 0,.ptr 1 [.str s] 0 0] (.bool (x.name==s)):=by
 refine aa (ai (by kernel_rfl) rfl XK) rfl ?_;simp only [go_sem,simprocAttr];refine aD (wB x) rfl ?_;simp only [go_sem,simprocAttr]
theorem BS (l) (x) (b) (hl:l.length<1000000):ah TP 153 [.slice 4 ((l++[x]).map Wick.pv) b,.func (.func 154) [] []] (.int .i64 (am (l.map (·.name)) x.name)):=by
 have hw:IntKind.i64.wrap ((((l++[x]).length:Nat):Int)-1)=((l.length:Nat):Int):=by
  rw [cM (by simp<;>omega) (by simp [aw]<;>omega)];simp
 have hx:(l++[x])[l.length]?=some x:=by simp
 have hlt:((l.length:Nat):Int)<(((l++[x]).length:Nat):Int):=by simp<;>omega
 have hle:((l.length:Nat):Int)<=(((l++[x]).length:Nat):Int):=by omega
 have htk:((l++[x]).map Wick.pv).take l.length=l.map Wick.pv:=by rw [bA,d9 (by simp)]
 have hfl:(l.length==(l++[x]).length)=false:=by simp
 refine aa (ai (by kernel_rfl) rfl Yt) rfl ?_;simp only [hw,hx,hlt,go_sem,simprocAttr];refine aD (wB x) rfl ?_;simp only [go_sem,simprocAttr];refine ae (jE x.name) rfl ?_;simp only [go_sem,simprocAttr];cases hn:nameOk x.name
 .simp only [go_sem,simprocAttr];simp [am,hn]
 .simp only [hle,H5,fX,htk,hfl,go_sem,simprocAttr];refine bf (B0 (fv:=.func (.func 216) [] [.ptr 1 [.func (.func 154) [] []] 0 0,.ptr 1 [.str x.name] 0 0]) l (λy=>y.name==x.name) false 4 rfl (by omega) λy _=>⟨_,_,_,rfl,F5 x.name y⟩) ?_ (.bool _) ?_
  .simp only [go_sem,simprocAttr]
  simp only [go_sem,simprocAttr];refine aT (λhb=>?_) (λhb=>?_)<;>simp only [hb,go_sem,simprocAttr]
  .simp only [am,hn,qY,jN,hb,if_true]
  .simp only [am,hn,qY,jN,hb,if_true,fA,if_false]
theorem wA (x:Wax):ah TP 156 [x.pv] (.str x.name):=by
 refine aa (ai (by kernel_rfl) rfl Yq) rfl ?_;simp only [go_sem,simprocAttr]
theorem F4 (s) (x:Wax):ah TP 218 [x.pv,.ptr 1 [.func (.func 156) [] []] 0 0,.ptr 1 [.str s] 0 0] (.bool (x.name==s)):=by
 refine aa (ai (by kernel_rfl) rfl XI) rfl ?_;simp only [go_sem,simprocAttr];refine aD (wA x) rfl ?_;simp only [go_sem,simprocAttr]
theorem BR (l) (x) (b) (hl:l.length<1000000):ah TP 155 [.slice 8 ((l++[x]).map Wax.pv) b,.func (.func 156) [] []] (.int .i64 (am (l.map (·.name)) x.name)):=by
 have hw:IntKind.i64.wrap ((((l++[x]).length:Nat):Int)-1)=((l.length:Nat):Int):=by
  rw [cM (by simp<;>omega) (by simp [aw]<;>omega)];simp
 have hx:(l++[x])[l.length]?=some x:=by simp
 have hlt:((l.length:Nat):Int)<(((l++[x]).length:Nat):Int):=by simp<;>omega
 have hle:((l.length:Nat):Int)<=(((l++[x]).length:Nat):Int):=by omega
 have htk:((l++[x]).map Wax.pv).take l.length=l.map Wax.pv:=by rw [bA,d9 (by simp)]
 have hfl:(l.length==(l++[x]).length)=false:=by simp
 refine aa (ai (by kernel_rfl) rfl Yr) rfl ?_;simp only [hw,hx,hlt,go_sem,simprocAttr];refine aD (wA x) rfl ?_;simp only [go_sem,simprocAttr];refine ae (jE x.name) rfl ?_;simp only [go_sem,simprocAttr];cases hn:nameOk x.name
 .simp only [go_sem,simprocAttr];simp [am,hn]
 .simp only [hle,H5,fX,htk,hfl,go_sem,simprocAttr];refine bf (BZ (fv:=.func (.func 218) [] [.ptr 1 [.func (.func 156) [] []] 0 0,.ptr 1 [.str x.name] 0 0]) l (λy=>y.name==x.name) false 8 rfl (by omega) λy _=>⟨_,_,_,rfl,F4 x.name y⟩) ?_ (.bool _) ?_
  .simp only [go_sem,simprocAttr]
  simp only [go_sem,simprocAttr];refine aT (λhb=>?_) (λhb=>?_)<;>simp only [hb,go_sem,simprocAttr]
  .simp only [am,hn,qY,jN,hb,if_true]
  .simp only [am,hn,qY,jN,hb,if_true,fA,if_false]
theorem xt (b) (e) (h):aC TP 150 [.p (.bool b),.p (.int .i64 e)] h (λr h'=>h'=h/\r=if b=true then .ret (.p (.tuple [])) else .panic (.iface 43 (.int .i64 e))):=by
 refine aB (ai (by kernel_rfl) rfl Yw) rfl ?_;simp only [go_sem,simprocAttr];cases b
 .simp only [go_sem,simprocAttr]
 .simp only [go_sem,simprocAttr]
theorem az {H} {Q} {ops} {rest} {dst} {A} {b} {e} (h1:b=true->@WO ⟨TP,H,ops,rest,Q⟩ (A.put dst (.p (.tuple [])) A.h))
  (h2:b=false->@WQ ⟨Q⟩ (.panic (.iface 43 (.int .i64 e))) A):@WF ⟨TP,H,ops,rest,Q,dst⟩ A 150 [.p (.bool b),.p (.int .i64 e)]:=by
 refine cq (xt b e A.h) (λv h hr=>?_) (λv h hr=>?_)
 .obtain ⟨rfl,hr⟩:=hr;cases b
  .cases hr
  .cases hr;exact h1 rfl
 .obtain ⟨rfl,hr⟩:=hr;cases b
  .cases hr;exact h2 rfl
  .cases hr
theorem FW {id} {e e0} {h} (hid:h[id]?=some (.row 1 [.p (.int .i64 e0)])):jM TP 149 [.ptr id 1 0 0] (.pan (.iface 43 (.int .i64 e))) h
  (λr u h'=>r=.ret (.p (.tuple []))/\u=.recd (.iface 43 (.int .i64 e))/\h'=h.set id (.row 1 [.p (.int .i64 e)])):=by
 refine fL (ai (by kernel_rfl) rfl Qe) rfl ?_;simp only [nG,iB,hid,go_sem,simprocAttr]
theorem Mv {id} {h}:jM TP 149 [.ptr id 1 0 0] .ret h (λr u h'=>r=.ret (.p (.tuple []))/\u=.ret/\h'=h):=by
 refine fL (ai (by kernel_rfl) rfl Qe) rfl ?_;simp only [nG,iB,go_sem,simprocAttr]
theorem dm {rs} {R} {T} {id} {e e0} {h} (hid:h[id]?=some (.row 1 [.p (.int .i64 e0)])) (k:ck TP rs R T [] .ret (h.set id (.row 1 [.p (.int .i64 e)]))) :
  ck TP rs R T [.fn 149 [.ptr id 1 0 0]] (.pan (.iface 43 (.int .i64 e))) h:=by
 rw [kj];refine (FW hid).mono λr u h' hr=>?_;obtain ⟨rfl,rfl,rfl⟩:=hr;exact k
theorem yM {rs} {R} {T} {id} {h} (k:ck TP rs R T [] .ret h):ck TP rs R T [.fn 149 [.ptr id 1 0 0]] .ret h:=by
 rw [kj];refine Mv.mono λr u h' hr=>?_;obtain ⟨rfl,rfl,rfl⟩:=hr;exact k
def cp (s:Span) (lo hi:Int):Bool:=ar s.lo lo hi&&ar s.hi lo hi
def aO (s:Span):Bool:=decide (s.hi<s.lo)
def cl (before:List ByteArray) (x:Wick):Int :=
 if am before x.name=0 then (if (ar x.threads 1 100&&cp x.pull 1 1000)=true then (if aO x.pull=true then 2 else 0) else 7) else am before x.name
def dx (before:List ByteArray) (x:Wax):Int :=
 if am before x.name=0 then (if (ar x.chill 0 50&&cp x.flow 1 300&&(cp x.rise 1 1000&&cp x.spread 1 2000))=true then (if (aO x.flow||(aO x.rise||aO x.spread))=true then 2 else 0) else 7) else am before x.name
def dB (s:Shop):Option (Int×Int)->Int×Int×Int
 |some (i,e)=>(2,i,e)
 |none=>match firstErr dx (·.name) s.waxes [] with | some (i,e)=>(3,i,e) | none=>(0,0,0)
def cj (s:Shop):Int×Int×Int :=
 if (ar s.wicks.length 1 12&&ar s.waxes.length 1 6)=true then
  if (cp s.flame 0 2000&&cp s.pool 0 2000)=true then
   if (aO s.flame||aO s.pool)=true then (1,0,2) else dB s (firstErr cl (·.name) s.wicks [])
  else (1,0,7)
 else (1,0,3)
theorem pU (s):ah TP 91 [s.pv] (al (cj s)):=by
 refine aa (ai (by kernel_rfl) rfl zbp) rfl ?_;simp only [go_sem,simprocAttr];refine ae (e8 1 12 [_] true (by simp)) rfl ?_;simp only [bp,bF,bS,lF,go_sem,simprocAttr];cases h1:ar s.wicks.length 1 12
 .simp only [go_sem,simprocAttr];refine az (λh=>(by cases h)) λ_=>?_;simp only [go_sem,simprocAttr];refine dm rfl ?_;simp only [al,cj,h1,go_sem,simprocAttr]
 simp only [go_sem,simprocAttr];refine ae (e8 1 6 [_] true (by simp)) rfl ?_;simp only [bp,bF,bS,lF,go_sem,simprocAttr];refine az (λh2=>?_) λh2=>?_;rotate_left
 .simp only [go_sem,simprocAttr];refine dm rfl ?_;simp only [al,cj,h1,h2,go_sem,simprocAttr]
 simp only [go_sem,simprocAttr];refine ae (e8 0 2000 [_,_,_,_] true (by simp)) rfl ?_;simp only [bp,bF,bS,<-kO,lF,go_sem,simprocAttr];refine az (λh3=>?_) λh3=>?_;rotate_left
 .simp only [go_sem,simprocAttr];refine dm rfl ?_;have h3':(cp s.flame 0 2000&&cp s.pool 0 2000)=false:=by rw [<-h3];simp [cp,Bool.and_assoc]
  simp only [al,cj,h1,h2,h3',go_sem,simprocAttr]
 have h3':(cp s.flame 0 2000&&cp s.pool 0 2000)=true:=by rw [<-h3];simp [cp,Bool.and_assoc]
 simp only [go_sem,simprocAttr];refine ae (xw [s.flame,s.pool] true (by simp)) rfl ?_;simp only [bp,bF,bS,go_sem,simprocAttr];refine az (λh4=>?_) λh4=>?_;rotate_left
 .simp only [go_sem,simprocAttr];refine dm rfl ?_;have h4':(aO s.flame||aO s.pool)=true:=(by have:=congrArg (!·) h4;simpa only [aO,lF,tI] using this)
  simp only [al,cj,h1,h2,h3',h4',go_sem,simprocAttr]
 have h4':(aO s.flame||aO s.pool)=false:=by simpa [aO] using h4
 have hspec:cj s=dB s (firstErr cl (·.name) s.wicks []):=by
  simp [cj,h1,h2,h3',h4']
 rw [hspec];have hlw:s.wicks.length<=12:=by simp [ar] at h1;omega
 have hlx:s.waxes.length<=6:=by simp [ar] at h2;omega
 simp only [go_sem,simprocAttr]
 refine gu [1,2,4,50,51] (σ:=List Wick×List Wick) (λq=>s.wicks=q.1++q.2/\firstErr cl (·.name) s.wicks []=firstErr cl (·.name) q.2 (q.1.map (·.name))) (λq=>q.2.length)
  (λq=>[(52,.p (.int .i64 q.1.length))]) (λ_=>[.row 6 [.p s.pv],.row 1 [.p (.int .i64 0)]]) ([],s.wicks) ⟨rfl,rfl⟩ ?_ ?_
 .simp only [go_sem,simprocAttr]<;>simp
 rintro ⟨done,rest⟩ ⟨e1,e2⟩
 dsimp only at e1 e2
 cases rest with
 |cons x r =>
  obtain ⟨hx,hlt⟩:=de e1;have hln:(done++[x]).length<=s.wicks.length:=by rw [e1];simp
  have hdl:done.length<12:=by simp at hln;omega
  have hnx:IntKind.i64.wrap ((done.length:Int)+1)=(((done++[x]).length:Nat):Int):=ba (by omega) (by simp [aw];omega) (by simp);have hle:(((done++[x]).length:Nat):Int)<=(s.wicks.length:Int):=by omega
  have htk:(s.wicks.map Wick.pv).take (done++[x]).length=(done++[x]).map Wick.pv:=by
   rw [e1,show done++x::r=(done++[x])++r by simp,bA,d9 (by simp)]
  have hE:firstErr cl (·.name) s.wicks []=if cl (done.map (·.name)) x=0 then firstErr cl (·.name) r ((done++[x]).map (·.name)) else some ((done.length:Int),cl (done.map (·.name)) x):=by
   rw [e2,firstErr];simp
  have fin:∀ e,cl (done.map (·.name)) x=e->e≠0->dB s (firstErr cl (·.name) s.wicks [])=(2,(done.length:Int),e):=by
   intro e he hne;rw [hE,he,if_neg hne];rfl
  simp only [hlt,decide_true,hx,hnx,hle,H5,fX,htk,go_sem,simprocAttr];refine ae (BS done x false (by omega)) rfl ?_;simp only [go_sem,simprocAttr];refine az (λh5=>?_) λh5=>?_;rotate_left
  .simp only [go_sem,simprocAttr];refine dm rfl ?_;have h5':am (done.map (·.name)) x.name≠0:=by simpa using h5
   simp only [al,fin _ (by rw [cl,if_neg h5']) h5',go_sem,simprocAttr]
  have h5':am (done.map (·.name)) x.name=0:=by simpa using h5
  simp only [go_sem,simprocAttr];refine ae (e8 1 100 [_] true (by simp)) rfl ?_;simp only [bp,bF,bS,lF,go_sem,simprocAttr];cases h6:ar x.threads 1 100
  .simp only [go_sem,simprocAttr];refine az (λh=>(by cases h)) λ_=>?_;simp only [go_sem,simprocAttr];refine dm rfl ?_;simp only [al,fin 7 (by simp [cl,h5',h6]) (by decide),go_sem,simprocAttr]
  simp only [go_sem,simprocAttr];refine ae (e8 1 1000 [_,_] true (by simp)) rfl ?_;simp only [bp,bF,bS,<-kO,lF,go_sem,simprocAttr];refine az (λh7=>?_) λh7=>?_;rotate_left
  .simp only [go_sem,simprocAttr];refine dm rfl ?_;simp only [al,fin 7 (by simp [cl,h5',h6,cp,h7]) (by decide),go_sem,simprocAttr]
  simp only [go_sem,simprocAttr];refine ae (xw [x.pull] true (by simp)) rfl ?_;simp only [bp,bF,bS,go_sem,simprocAttr];refine az (λh8=>?_) λh8=>?_;rotate_left
  .simp only [go_sem,simprocAttr];refine dm rfl ?_;simp only [al,fin 2 (by simp only [Bool.not_eq_false'] at h8;simp [cl,h5',h6,cp,h7,aO,h8]) (by decide),go_sem,simprocAttr]
  simp only [go_sem,simprocAttr];refine bW (done++[x],r) ⟨by simp [e1],?_⟩ (by simp) ?_
  .rw [hE,if_pos];simp only [zt] at h8;simp [cl,h5',h6,cp,h7,aO,h8]
  .simp only [hnx,h5',go_sem,simprocAttr]
 |nil =>
  have hlt:¬ ((done.length:Int)<(s.wicks.length:Int)):=by rw [e1];simp
  have hT:dB s (firstErr cl (·.name) s.wicks [])=dB s none:=by rw [e2];rfl
  rw [hT];simp only [hlt,decide_false,go_sem,simprocAttr]
  refine gu [1,2,4,93,94] (σ:=List Wax×List Wax) (λq=>s.waxes=q.1++q.2/\firstErr dx (·.name) s.waxes []=firstErr dx (·.name) q.2 (q.1.map (·.name))) (λq=>q.2.length)
   (λq=>[(95,.p (.int .i64 q.1.length))]) (λ_=>[.row 6 [.p s.pv],.row 1 [.p (.int .i64 0)]]) ([],s.waxes) ⟨rfl,rfl⟩ ?_ ?_
  .simp only [go_sem,simprocAttr]<;>simp
  clear e1 e2 hlt hT
  rintro ⟨done,rest⟩ ⟨e1,e2⟩
  dsimp only at e1 e2
  cases rest with
  |cons x r =>
   obtain ⟨hx,hlt⟩:=de e1;have hln:(done++[x]).length<=s.waxes.length:=by rw [e1];simp
   have hdl:done.length<12:=by simp at hln;omega
   have hnx:IntKind.i64.wrap ((done.length:Int)+1)=(((done++[x]).length:Nat):Int):=ba (by omega) (by simp [aw];omega) (by simp);have hle:(((done++[x]).length:Nat):Int)<=(s.waxes.length:Int):=by omega
   have htk:(s.waxes.map Wax.pv).take (done++[x]).length=(done++[x]).map Wax.pv:=by
    rw [e1,show done++x::r=(done++[x])++r by simp,bA,d9 (by simp)]
   have hE:firstErr dx (·.name) s.waxes []=if dx (done.map (·.name)) x=0 then firstErr dx (·.name) r ((done++[x]).map (·.name)) else some ((done.length:Int),dx (done.map (·.name)) x):=by
    rw [e2,firstErr];simp
   have fin:∀ e,dx (done.map (·.name)) x=e->e≠0->dB s none=(3,(done.length:Int),e):=by
    intro e he hne;simp only [dB];rw [hE,he,if_neg hne]
   simp only [hlt,decide_true,hx,hnx,hle,H5,fX,htk,go_sem,simprocAttr];refine ae (BR done x false (by omega)) rfl ?_;simp only [go_sem,simprocAttr];refine az (λh5=>?_) λh5=>?_;rotate_left
   .simp only [go_sem,simprocAttr];refine dm rfl ?_;have h5':am (done.map (·.name)) x.name≠0:=by simpa using h5
    simp only [al,fin _ (by rw [dx,if_neg h5']) h5',go_sem,simprocAttr]
   have h5':am (done.map (·.name)) x.name=0:=by simpa using h5
   simp only [go_sem,simprocAttr];refine ae (e8 0 50 [_] true (by simp)) rfl ?_;simp only [bp,bF,bS,lF,go_sem,simprocAttr];cases h6:ar x.chill 0 50
   .simp only [go_sem,simprocAttr];refine az (λh=>(by cases h)) λ_=>?_;simp only [go_sem,simprocAttr];refine dm rfl ?_;simp only [al,fin 7 (by simp [dx,h5',h6]) (by decide),go_sem,simprocAttr]
   simp only [go_sem,simprocAttr];refine ae (e8 1 300 [_,_] true (by simp)) rfl ?_;simp only [bp,bF,bS,<-kO,lF,go_sem,simprocAttr];refine az (λh7=>?_) λh7=>?_;rotate_left
   .simp only [go_sem,simprocAttr];refine dm rfl ?_;simp only [al,fin 7 (by simp [dx,h5',h6,cp,h7]) (by decide),go_sem,simprocAttr]
   simp only [go_sem,simprocAttr];refine ae (e8 1 1000 [_,_] true (by simp)) rfl ?_;simp only [bp,bF,bS,<-kO,lF,go_sem,simprocAttr];cases h8:(ar x.rise.lo 1 1000&&ar x.rise.hi 1 1000)
   .simp only [go_sem,simprocAttr];refine az (λh=>(by cases h)) λ_=>?_;simp only [go_sem,simprocAttr];refine dm rfl ?_;simp only [al,fin 7 (by simp [dx,h5',h6,cp,h7,h8]) (by decide),go_sem,simprocAttr]
   simp only [go_sem,simprocAttr];refine ae (e8 1 2000 [_,_] true (by simp)) rfl ?_;simp only [bp,bF,bS,<-kO,lF,go_sem,simprocAttr];refine az (λh9=>?_) λh9=>?_;rotate_left
   .simp only [go_sem,simprocAttr];refine dm rfl ?_;simp only [al,fin 7 (by simp [dx,h5',h6,cp,h7,h8,h9]) (by decide),go_sem,simprocAttr]
   simp only [go_sem,simprocAttr];refine ae (xw [x.flow,x.rise,x.spread] true (by simp)) rfl ?_;simp only [bp,bF,bS,go_sem,simprocAttr];refine az (λh10=>?_) λh10=>?_;rotate_left
   .simp only [go_sem,simprocAttr];refine dm rfl ?_;simp only [al,fin 2 (by simp only [Bool.not_eq_false'] at h10;simp only [dx,h5',h6,cp,h7,h8,h9,aO,h10,qZ,if_true]) (by decide),go_sem,simprocAttr]
   simp only [go_sem,simprocAttr];refine bW (done++[x],r) ⟨by simp [e1],?_⟩ (by simp) ?_
   .rw [hE,if_pos];simp only [zt] at h10;simp only [dx,h5',h6,cp,h7,h8,h9,aO,h10,qZ,if_true,fA,if_false]
   .simp only [hnx,h5',go_sem,simprocAttr]
  |nil =>
   have hlt:¬ ((done.length:Int)<(s.waxes.length:Int)):=by rw [e1];simp
   simp only [hlt,decide_false,go_sem,simprocAttr];refine yM ?_;have hT:dB s none=(0,0,0):=by
    simp only [dB];rw [e2];rfl
   simp only [al,hT,go_sem,simprocAttr]
theorem pM (s) (a b):du s.lo s.hi a b=if cp s a b=true then (if aO s=true then 2 else 0) else 7:=by
 unfold du cp aO;cases ar s.lo a b<;>cases ar s.hi a b<;>simp
def jQ:List (Span×Int×Int)->Int->Int
 |[],w=>w
 |q::r,w=>jQ r (if (du q.1.lo q.1.hi q.2.1 q.2.2==7||w==0)=true then du q.1.lo q.1.hi q.2.1 q.2.2 else w)
theorem ML (l) (b1 b2 b3) (hl:l.length<1000000) :
  ah TP 71 [.slice 2 (l.map λq=>q.1.pv) b1,.slice 1 (l.map λq=>aK q.2.1) b2,.slice 1 (l.map λq=>aK q.2.2) b3] (.int .i64 (jQ l 0)):=by
 refine aa (ai (by kernel_rfl) rfl zbG) rfl ?_;simp only [go_sem,simprocAttr];refine tD [0,1,2] (σ:=List (Span×Int×Int)×List (Span×Int×Int)×Int) (λq=>l=q.1++q.2.1/\jQ l 0=jQ q.2.1 q.2.2) (λq=>q.2.1.length) (λq=>[(7,.p (.int .i64 q.2.2)),(8,.p (.int .i64 q.1.length))]) ([],l,0) ⟨rfl,rfl⟩ ?_ ?_
 .simp only [go_sem,simprocAttr]<;>simp
 rintro ⟨done,rest,w⟩ ⟨e1,e2⟩
 dsimp only at e1 e2
 cases rest with
 |nil =>
  have hlt:¬ ((done.length:Int)<(l.length:Int)):=by rw [e1];simp
  simp only [hlt,decide_false,go_sem,simprocAttr]
  rw [e2];rfl
 |cons x r =>
  obtain ⟨hx,hlt⟩:=de e1;have hnx:IntKind.i64.wrap ((done.length:Int)+1)=(((done++[x]).length:Nat):Int):=ba (by omega) (by simp [aw];omega) (by simp);rw [jQ] at e2;simp only [hlt,decide_true,hx,go_sem,simprocAttr];refine aD (pg _ _ _ _) rfl ?_;simp only [go_sem,simprocAttr];cases h7:(du x.1.lo x.1.hi x.2.1 x.2.2==7)
  .simp only [go_sem,simprocAttr];cases h0:(w==0)
   .simp only [go_sem,simprocAttr];refine bW (done++[x],r,w) ⟨by simp [e1],by rw [e2,h7,h0];rfl⟩ (by simp) ?_;simp only [hnx,go_sem,simprocAttr]
   .simp only [go_sem,simprocAttr];refine bW (done++[x],r,du x.1.lo x.1.hi x.2.1 x.2.2) ⟨by simp [e1],by rw [e2,h7,h0];rfl⟩ (by simp) ?_;simp only [hnx,go_sem,simprocAttr]
  .simp only [go_sem,simprocAttr];refine bW (done++[x],r,du x.1.lo x.1.hi x.2.1 x.2.2) ⟨by simp [e1],by rw [e2,h7];rfl⟩ (by simp) ?_;simp only [hnx,go_sem,simprocAttr]
theorem Tt (a b) (x1 y1 x2 y2):jQ [(a,x1,y1),(b,x2,y2)] 0=if (cp a x1 y1&&cp b x2 y2)=true then (if (aO a||aO b)=true then 2 else 0) else 7:=by
 simp only [jQ,pM];cases cp a x1 y1<;>cases cp b x2 y2<;>cases aO a<;>cases aO b<;>rfl
theorem Ts (a b c) (x1 y1 x2 y2 x3 y3):jQ [(a,x1,y1),(b,x2,y2),(c,x3,y3)] 0 =
  if (cp a x1 y1&&(cp b x2 y2&&cp c x3 y3))=true then (if (aO a||(aO b||aO c))=true then 2 else 0) else 7:=by
 simp only [jQ,pM];cases cp a x1 y1<;>cases cp b x2 y2<;>cases cp c x3 y3<;>cases aO a<;>cases aO b<;>cases aO c<;>rfl
theorem pT (s):ah TP 45 [s.pv] (al (cj s)):=by
 refine aa (ai (by kernel_rfl) rfl zb2) rfl ?_;simp only [go_sem,simprocAttr];refine ae (KB _ _ _) rfl ?_;simp only [go_sem,simprocAttr];cases h1:ar s.wicks.length 1 12
 .simp only [al,cj,h1,go_sem,simprocAttr]
 simp only [go_sem,simprocAttr];refine ae (KB _ _ _) rfl ?_;simp only [go_sem,simprocAttr];cases h2:ar s.waxes.length 1 6
 .simp only [al,cj,h1,h2,go_sem,simprocAttr]
 simp only [go_sem,simprocAttr];refine ae (ML [(s.flame,0,2000),(s.pool,0,2000)] true true true (by simp)) rfl ?_;simp only [go_sem,simprocAttr];rw [Tt];cases h3:(cp s.flame 0 2000&&cp s.pool 0 2000)
 .simp only [al,cj,h1,h2,h3,go_sem,simprocAttr]
 cases h4:(aO s.flame||aO s.pool)
 rotate_left
 .simp only [al,cj,h1,h2,h3,h4,go_sem,simprocAttr]
 have hspec:cj s=dB s (firstErr cl (·.name) s.wicks []):=by
  simp [cj,h1,h2,h3,h4]
 rw [hspec];have hlw:s.wicks.length<=12:=by simp [ar] at h1;omega
 have hlx:s.waxes.length<=6:=by simp [ar] at h2;omega
 simp only [go_sem,simprocAttr];refine cg 6 1 (by simp only [go_sem,simprocAttr]) ?_;simp only [go_sem,simprocAttr]
 refine gu [1] (σ:=List Wick×List Wick) (λq=>s.wicks=q.1++q.2/\firstErr cl (·.name) s.wicks []=firstErr cl (·.name) q.2 (q.1.map (·.name))) (λq=>q.2.length)
  (λq=>[(6,.slice 1 q.1.length 0 q.1.length),(7,.p (.int .i64 q.1.length))]) (λq=>[.row 6 [.p s.pv],.row 1 (q.1.map λx=>.p (.str x.name))]) ([],s.wicks) ⟨rfl,rfl⟩ ?_ ?_
 .simp only [go_sem,simprocAttr]<;>simp
 rintro ⟨done,rest⟩ ⟨e1,e2⟩
 dsimp only at e1 e2
 cases rest with
 |cons x r =>
  obtain ⟨hx,hlt⟩:=de e1;have hln:(done++[x]).length<=s.wicks.length:=by rw [e1];simp
  have hdl:done.length<12:=by simp at hln;omega
  have hnx:IntKind.i64.wrap ((done.length:Int)+1)=(((done++[x]).length:Nat):Int):=ba (by omega) (by simp [aw];omega) (by simp);have hrm:done.length+1<=aw:=by simp [aw];omega
  have hE:firstErr cl (·.name) s.wicks []=if cl (done.map (·.name)) x=0 then firstErr cl (·.name) r ((done++[x]).map (·.name)) else some ((done.length:Int),cl (done.map (·.name)) x):=by
   rw [e2,firstErr];simp
  have fin:∀ e,cl (done.map (·.name)) x=e->e≠0->dB s (firstErr cl (·.name) s.wicks [])=(2,(done.length:Int),e):=by
   intro e he hne;rw [hE,he,if_neg hne];rfl
  simp only [hlt,decide_true,hx,go_sem,simprocAttr];refine bf (jq x.name (done.map (·.name)) false (done.map λx=>.str x.name) (by simp) (by simp;omega)) ?_ (.int _ _) ?_
  .simp only [go_sem,simprocAttr]
  simp only [hrm,go_sem,simprocAttr];cases h5:(am (done.map (·.name)) x.name==0)
  .have h5':am (done.map (·.name)) x.name≠0:=by simpa using h5
   have h5n:(am (done.map (·.name)) x.name != 0)=true:=by simp [bne,h5]
   simp only [h5,h5n,al,fin _ (by rw [cl,if_neg h5']) h5',go_sem,simprocAttr]
  have h5':am (done.map (·.name)) x.name=0:=by simpa using h5
  simp only [go_sem,simprocAttr];refine ae (KB _ _ _) rfl ?_;simp only [go_sem,simprocAttr];cases h6:ar x.threads 1 100
  .simp only [al,fin 7 (by simp [cl,h5',h6]) (by decide),go_sem,simprocAttr]
  simp only [h5,go_sem,simprocAttr];refine ae (pg _ _ _ _) rfl ?_;simp only [go_sem,simprocAttr];have hw:cl (done.map (·.name)) x=du x.pull.lo x.pull.hi 1 1000:=by rw [pM];simp [cl,h5',h6]
  cases h7:(du x.pull.lo x.pull.hi 1 1000 != 0)
  .simp only [go_sem,simprocAttr];refine bW (done++[x],r) ⟨by simp [e1],?_⟩ (by simp) ?_
   .rw [hE,if_pos];rw [hw];simpa using h7
   .simp only [hnx,aI,bA,go_sem,simprocAttr]
  .simp only [al,fin _ hw (by simpa using h7),go_sem,simprocAttr]
 |nil =>
  have hlt:¬ ((done.length:Int)<(s.wicks.length:Int)):=by rw [e1];simp
  have hT:dB s (firstErr cl (·.name) s.wicks [])=dB s none:=by rw [e2];rfl
  have hdone:done=s.wicks:=by rw [e1];simp
  rw [hT];simp only [hlt,decide_false,go_sem,simprocAttr];refine cg 6 1 (by simp only [go_sem,simprocAttr]) ?_;simp only [go_sem,simprocAttr]
  refine gu [1] (σ:=List Wax×List Wax) (λq=>s.waxes=q.1++q.2/\firstErr dx (·.name) s.waxes []=firstErr dx (·.name) q.2 (q.1.map (·.name))) (λq=>q.2.length)
   (λq=>[(6,.slice 2 q.1.length 0 q.1.length),(9,.p (.int .i64 q.1.length))]) (λq=>[.row 6 [.p s.pv],.row 1 (done.map λx=>.p (.str x.name)),.row 1 (q.1.map λx=>.p (.str x.name))]) ([],s.waxes) ⟨rfl,rfl⟩ ?_ ?_
  .simp only [go_sem,simprocAttr]<;>simp
  generalize done=dw;clear e1 e2 hlt hT hdone
  rintro ⟨done,rest⟩ ⟨e1,e2⟩
  dsimp only at e1 e2
  cases rest with
  |cons x r =>
   obtain ⟨hx,hlt⟩:=de e1;have hln:(done++[x]).length<=s.waxes.length:=by rw [e1];simp
   have hdl:done.length<12:=by simp at hln;omega
   have hnx:IntKind.i64.wrap ((done.length:Int)+1)=(((done++[x]).length:Nat):Int):=ba (by omega) (by simp [aw];omega) (by simp);have hrm:done.length+1<=aw:=by simp [aw];omega
   have hE:firstErr dx (·.name) s.waxes []=if dx (done.map (·.name)) x=0 then firstErr dx (·.name) r ((done++[x]).map (·.name)) else some ((done.length:Int),dx (done.map (·.name)) x):=by
    rw [e2,firstErr];simp
   have fin:∀ e,dx (done.map (·.name)) x=e->e≠0->dB s none=(3,(done.length:Int),e):=by
    intro e he hne;simp only [dB];rw [hE,he,if_neg hne]
   simp only [hlt,decide_true,hx,go_sem,simprocAttr];refine bf (jq x.name (done.map (·.name)) false (done.map λx=>.str x.name) (by simp) (by simp;omega)) ?_ (.int _ _) ?_
   .simp only [go_sem,simprocAttr]
   simp only [hrm,go_sem,simprocAttr];cases h5:(am (done.map (·.name)) x.name==0)
   .have h5':am (done.map (·.name)) x.name≠0:=by simpa using h5
    have h5n:(am (done.map (·.name)) x.name != 0)=true:=by simp [bne,h5]
    simp only [h5,h5n,al,fin _ (by rw [dx,if_neg h5']) h5',go_sem,simprocAttr]
   have h5':am (done.map (·.name)) x.name=0:=by simpa using h5
   simp only [go_sem,simprocAttr];refine ae (KB _ _ _) rfl ?_;simp only [go_sem,simprocAttr];cases h6:ar x.chill 0 50
   .simp only [al,fin 7 (by simp [dx,h5',h6]) (by decide),go_sem,simprocAttr]
   simp only [h5,go_sem,simprocAttr];refine ae (ML [(x.flow,1,300),(x.rise,1,1000),(x.spread,1,2000)] true true true (by simp)) rfl ?_;simp only [go_sem,simprocAttr];have hw:dx (done.map (·.name)) x=jQ [(x.flow,1,300),(x.rise,1,1000),(x.spread,1,2000)] 0:=by rw [Ts];simp [dx,h5',h6]
   cases h7:(jQ [(x.flow,1,300),(x.rise,1,1000),(x.spread,1,2000)] 0 != 0)
   .simp only [go_sem,simprocAttr];refine bW (done++[x],r) ⟨by simp [e1],?_⟩ (by simp) ?_
    .rw [hE,if_pos];rw [hw];simpa using h7
    .simp only [hnx,aI,bA,go_sem,simprocAttr]
   .simp only [al,fin _ hw (by simpa using h7),go_sem,simprocAttr]
  |nil =>
   have hlt:¬ ((done.length:Int)<(s.waxes.length:Int)):=by rw [e1];simp
   simp only [hlt,decide_false,go_sem,simprocAttr];have hT:dB s none=(0,0,0):=by
    simp only [dB];rw [e2];rfl
   simp only [al,hT,go_sem,simprocAttr]
end Wk
end Abs
end Go.Proofs.YtfafnkpfamgbbaaGreatDoor
