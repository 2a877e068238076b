/-
  CONTRACTS: what is checked of a shop, in the program and in the reference: both come to 'c
-/
import Derived.Test.YtfafnkpfamgbbaaGreatDoorAbsCutX
import Derived.Test.YtfafnkpfamgbbaaGreatDoorLibNameX
set_option linter.unusedSimpArgs false
set_option linter.unusedVariables false
open Go.Proofs.Tryz renaming prog->TP
namespace Go.Proofs.YtfafnkpfamgbbaaGreatDoor
namespace Abs
namespace Wk
set_option maxRecDepth 4000
theorem yN (lo hi n):ah TP 213 [.int .i64 n,.ptr 1 [.int .i64 lo] 0 0,.ptr 1 [.int .i64 hi] 0 0] (.bool (!az n lo hi)):=by
 refine aa (ai (by kernel_rfl) rfl UQ) rfl ?_;simp only [go_sem,simprocAttr];refine aW (λhb=>?_) (λhb=>?_)<;>simp only [hb,go_sem,simprocAttr]<;>simp_all [az];rw [<-decide_not];congr 1;simp
theorem eb (lo hi) (l:List Int) (b) (hl:l.length<1000000000):ah TP 151 [.int .i64 lo,.int .i64 hi,.slice 1 (l.map aJ) b] (.bool (l.any λn=>!az n lo hi)):=by
 refine aa (ai (by kernel_rfl) rfl Vx) rfl ?_;simp only [go_sem,simprocAttr];refine bh (i6 (fv:=.func (.func 213) [] [.ptr 1 [.int .i64 lo] 0 0,.ptr 1 [.int .i64 hi] 0 0]) l (λn=>!az n lo hi) b 1 rfl hl λn _=>⟨_,_,_,rfl,yN lo hi n⟩) ?_ (.bool _) ?_
 .simp only [go_sem,simprocAttr]
 .simp only [go_sem,simprocAttr]
theorem Ml (s:Span):ah TP 214 [s.pv] (.bool (decide (s.hi<s.lo))):=by
 refine aa (ai (by kernel_rfl) rfl UP) rfl ?_;simp only [go_sem,simprocAttr]
theorem vF (l:List Span) (b) (hl:l.length<1000000000):ah TP 152 [.slice 2 (l.map Span.pv) b] (.bool (l.any λs=>decide (s.hi<s.lo))):=by
 refine aa (ai (by kernel_rfl) rfl Vw) rfl ?_;simp only [go_sem,simprocAttr];refine ae (np (fv:=.func (.func 214) [] []) l (λs=>decide (s.hi<s.lo)) b 2 rfl hl λs _=>⟨_,_,_,rfl,Ml s⟩) rfl ?_;simp only [go_sem,simprocAttr]
theorem uG (x:Wick):ah TP 154 [x.pv] (.str x.name):=by
 refine aa (ai (by kernel_rfl) rfl Vu) rfl ?_;simp only [go_sem,simprocAttr]
theorem DO (s) (x:Wick):ah TP 216 [x.pv,.ptr 1 [.func (.func 154) [] []] 0 0,.ptr 1 [.str s] 0 0] (.bool (x.name==s)):=by
 refine aa (ai (by kernel_rfl) rfl UN) rfl ?_;simp only [go_sem,simprocAttr];refine aC (uG x) rfl ?_;simp only [go_sem,simprocAttr]
theorem zQ (l) (x) (b) (hl:l.length<1000000):ah TP 153 [.slice 4 ((l++[x]).map Wick.pv) b,.func (.func 154) [] []] (.int .i64 (aA (l.map (·.name)) x.name)):=by
 have hw:IntKind.i64.wrap ((((l++[x]).length:Nat):Int)-1)=((l.length:Nat):Int):=by
  rw [dj (by simp<;>omega) (by simp [aB]<;>omega)];simp
 have hx:(l++[x])[l.length]?=some x:=by simp
 have hlt:((l.length:Nat):Int)<(((l++[x]).length:Nat):Int):=by simp<;>omega
 have hle:((l.length:Nat):Int)<=(((l++[x]).length:Nat):Int):=by omega
 have htk:((l++[x]).map Wick.pv).take l.length=l.map Wick.pv:=by rw [cp,fD (by simp)]
 have hfl:(l.length==(l++[x]).length)=false:=by simp
 refine aa (ai (by kernel_rfl) rfl Vv) rfl ?_;simp only [hw,hx,hlt,go_sem,simprocAttr];refine aC (uG x) rfl ?_;simp only [go_sem,simprocAttr];refine ae (iM x.name) rfl ?_;simp only [go_sem,simprocAttr];cases hn:nameOk x.name
 .simp only [go_sem,simprocAttr];simp [aA,hn]
 .simp only [hle,zf,gY,htk,hfl,go_sem,simprocAttr];refine bh (zX (fv:=.func (.func 216) [] [.ptr 1 [.func (.func 154) [] []] 0 0,.ptr 1 [.str x.name] 0 0]) l (λy=>y.name==x.name) false 4 rfl (by omega) λy _=>⟨_,_,_,rfl,DO x.name y⟩) ?_ (.bool _) ?_
  .simp only [go_sem,simprocAttr]
  simp only [go_sem,simprocAttr];refine aW (λhb=>?_) (λhb=>?_)<;>simp only [hb,go_sem,simprocAttr]
  .simp only [aA,hn,ly,lK,hb,if_true]
  .simp only [aA,hn,ly,lK,hb,if_true,fa,if_false]
theorem uF (x:Wax):ah TP 156 [x.pv] (.str x.name):=by
 refine aa (ai (by kernel_rfl) rfl Vs) rfl ?_;simp only [go_sem,simprocAttr]
theorem DN (s) (x:Wax):ah TP 218 [x.pv,.ptr 1 [.func (.func 156) [] []] 0 0,.ptr 1 [.str s] 0 0] (.bool (x.name==s)):=by
 refine aa (ai (by kernel_rfl) rfl UL) rfl ?_;simp only [go_sem,simprocAttr];refine aC (uF x) rfl ?_;simp only [go_sem,simprocAttr]
theorem zP (l) (x) (b) (hl:l.length<1000000):ah TP 155 [.slice 8 ((l++[x]).map Wax.pv) b,.func (.func 156) [] []] (.int .i64 (aA (l.map (·.name)) x.name)):=by
 have hw:IntKind.i64.wrap ((((l++[x]).length:Nat):Int)-1)=((l.length:Nat):Int):=by
  rw [dj (by simp<;>omega) (by simp [aB]<;>omega)];simp
 have hx:(l++[x])[l.length]?=some x:=by simp
 have hlt:((l.length:Nat):Int)<(((l++[x]).length:Nat):Int):=by simp<;>omega
 have hle:((l.length:Nat):Int)<=(((l++[x]).length:Nat):Int):=by omega
 have htk:((l++[x]).map Wax.pv).take l.length=l.map Wax.pv:=by rw [cp,fD (by simp)]
 have hfl:(l.length==(l++[x]).length)=false:=by simp
 refine aa (ai (by kernel_rfl) rfl Vt) rfl ?_;simp only [hw,hx,hlt,go_sem,simprocAttr];refine aC (uF x) rfl ?_;simp only [go_sem,simprocAttr];refine ae (iM x.name) rfl ?_;simp only [go_sem,simprocAttr];cases hn:nameOk x.name
 .simp only [go_sem,simprocAttr];simp [aA,hn]
 .simp only [hle,zf,gY,htk,hfl,go_sem,simprocAttr];refine bh (zW (fv:=.func (.func 218) [] [.ptr 1 [.func (.func 156) [] []] 0 0,.ptr 1 [.str x.name] 0 0]) l (λy=>y.name==x.name) false 8 rfl (by omega) λy _=>⟨_,_,_,rfl,DN x.name y⟩) ?_ (.bool _) ?_
  .simp only [go_sem,simprocAttr]
  simp only [go_sem,simprocAttr];refine aW (λhb=>?_) (λhb=>?_)<;>simp only [hb,go_sem,simprocAttr]
  .simp only [aA,hn,ly,lK,hb,if_true]
  .simp only [aA,hn,ly,lK,hb,if_true,fa,if_false]
theorem vB (b) (e) (h):ay TP 150 [.p (.bool b),.p (.int .i64 e)] h (λr h'=>h'=h/\r=if b=true then .ret (.p (.tuple [])) else .panic (.iface 43 (.int .i64 e))):=by
 refine ax (ai (by kernel_rfl) rfl Vy) rfl ?_;simp only [go_sem,simprocAttr];cases b
 .simp only [go_sem,simprocAttr]
 .simp only [go_sem,simprocAttr]
theorem aq {H} {Q} {ops} {rest} {dst} {A} {b} {e} (h1:b=true->@WO ⟨TP,H,ops,rest,Q⟩ (A.put dst (.p (.tuple [])) A.h))
  (h2:b=false->@WQ ⟨Q⟩ (.panic (.iface 43 (.int .i64 e))) A):@WF ⟨TP,H,ops,rest,Q,dst⟩ A 150 [.p (.bool b),.p (.int .i64 e)]:=by
 refine bW (vB b e A.h) (λv h hr=>?_) (λv h hr=>?_)
 .obtain ⟨rfl,hr⟩:=hr;cases b
  .cases hr
  .cases hr;exact h1 rfl
 .obtain ⟨rfl,hr⟩:=hr;cases b
  .cases hr;exact h2 rfl
  .cases hr
theorem DE {id} {e e0} {h} (hid:h[id]?=some (.row 1 [.p (.int .i64 e0)])):iT TP 149 [.ptr id 1 0 0] (.pan (.iface 43 (.int .i64 e))) h
  (λr u h'=>r=.ret (.p (.tuple []))/\u=.recd (.iface 43 (.int .i64 e))/\h'=h.set id (.row 1 [.p (.int .i64 e)])):=by
 refine eU (ai (by kernel_rfl) rfl NA) rfl ?_;simp only [mb,gL,hid,go_sem,simprocAttr]
theorem J3 {id} {h}:iT TP 149 [.ptr id 1 0 0] .ret h (λr u h'=>r=.ret (.p (.tuple []))/\u=.ret/\h'=h):=by
 refine eU (ai (by kernel_rfl) rfl NA) rfl ?_;simp only [mb,gL,go_sem,simprocAttr]
theorem cG {rs} {R} {T} {id} {e e0} {h} (hid:h[id]?=some (.row 1 [.p (.int .i64 e0)])) (k:bU TP rs R T [] .ret (h.set id (.row 1 [.p (.int .i64 e)]))) :
  bU TP rs R T [.fn 149 [.ptr id 1 0 0]] (.pan (.iface 43 (.int .i64 e))) h:=by
 rw [jq];refine (DE hid).mono λr u h' hr=>?_;obtain ⟨rfl,rfl,rfl⟩:=hr;exact k
theorem wS {rs} {R} {T} {id} {h} (k:bU TP rs R T [] .ret h):bU TP rs R T [.fn 149 [.ptr id 1 0 0]] .ret h:=by
 rw [jq];refine J3.mono λr u h' hr=>?_;obtain ⟨rfl,rfl,rfl⟩:=hr;exact k
def dq (s:Span) (lo hi:Int):Bool:=az s.lo lo hi&&az s.hi lo hi
def aZ (s:Span):Bool:=decide (s.hi<s.lo)
def d6 (before:List ByteArray) (x:Wick):Int :=
 if aA before x.name=0 then (if (az x.threads 1 100&&dq x.pull 1 1000)=true then (if aZ x.pull=true then 2 else 0) else 7) else aA before x.name
def fE (before:List ByteArray) (x:Wax):Int :=
 if aA before x.name=0 then (if (az x.chill 0 50&&dq x.flow 1 300&&(dq x.rise 1 1000&&dq x.spread 1 2000))=true then (if (aZ x.flow||(aZ x.rise||aZ x.spread))=true then 2 else 0) else 7) else aA before x.name
def gx (s:Shop):Option (Int×Int)->Int×Int×Int
 |some (i,e)=>(2,i,e)
 |none=>match firstErr fE (·.name) s.waxes [] with | some (i,e)=>(3,i,e) | none=>(0,0,0)
def dJ (s:Shop):Int×Int×Int :=
 if (az s.wicks.length 1 12&&az s.waxes.length 1 6)=true then
  if (dq s.flame 0 2000&&dq s.pool 0 2000)=true then
   if (aZ s.flame||aZ s.pool)=true then (1,0,2) else gx s (firstErr d6 (·.name) s.wicks [])
  else (1,0,7)
 else (1,0,3)
theorem oa (s):ah TP 91 [s.pv] (aE (dJ s)):=by
 refine aa (ai (by kernel_rfl) rfl Yz) rfl ?_;simp only [go_sem,simprocAttr];refine ae (eb 1 12 [_] true (by simp)) rfl ?_;simp only [bg,bj,ca,kx,go_sem,simprocAttr];cases h1:az s.wicks.length 1 12
 .simp only [go_sem,simprocAttr];refine aq (λh=>(by cases h)) λ_=>?_;simp only [go_sem,simprocAttr];refine cG rfl ?_;simp only [aE,dJ,h1,go_sem,simprocAttr]
 simp only [go_sem,simprocAttr];refine ae (eb 1 6 [_] true (by simp)) rfl ?_;simp only [bg,bj,ca,kx,go_sem,simprocAttr];refine aq (λh2=>?_) λh2=>?_;rotate_left
 .simp only [go_sem,simprocAttr];refine cG rfl ?_;simp only [aE,dJ,h1,h2,go_sem,simprocAttr]
 simp only [go_sem,simprocAttr];refine ae (eb 0 2000 [_,_,_,_] true (by simp)) rfl ?_;simp only [bg,bj,ca,<-j4,kx,go_sem,simprocAttr];refine aq (λh3=>?_) λh3=>?_;rotate_left
 .simp only [go_sem,simprocAttr];refine cG rfl ?_;have h3':(dq s.flame 0 2000&&dq s.pool 0 2000)=false:=by rw [<-h3];simp [dq,Bool.and_assoc]
  simp only [aE,dJ,h1,h2,h3',go_sem,simprocAttr]
 have h3':(dq s.flame 0 2000&&dq s.pool 0 2000)=true:=by rw [<-h3];simp [dq,Bool.and_assoc]
 simp only [go_sem,simprocAttr];refine ae (vF [s.flame,s.pool] true (by simp)) rfl ?_;simp only [bg,bj,ca,go_sem,simprocAttr];refine aq (λh4=>?_) λh4=>?_;rotate_left
 .simp only [go_sem,simprocAttr];refine cG rfl ?_;have h4':(aZ s.flame||aZ s.pool)=true:=(by have:=congrArg (!·) h4;simpa only [aZ,kx,y9] using this)
  simp only [aE,dJ,h1,h2,h3',h4',go_sem,simprocAttr]
 have h4':(aZ s.flame||aZ s.pool)=false:=by simpa [aZ] using h4
 have hspec:dJ s=gx s (firstErr d6 (·.name) s.wicks []):=by
  simp [dJ,h1,h2,h3',h4']
 rw [hspec];have hlw:s.wicks.length<=12:=by simp [az] at h1;omega
 have hlx:s.waxes.length<=6:=by simp [az] at h2;omega
 simp only [go_sem,simprocAttr]
 refine i7 [1,2,4,50,51] (σ:=List Wick×List Wick) (λq=>s.wicks=q.1++q.2/\firstErr d6 (·.name) s.wicks []=firstErr d6 (·.name) q.2 (q.1.map (·.name))) (λq=>q.2.length)
  (λq=>[(52,.p (.int .i64 q.1.length))]) (λ_=>[.row 6 [.p s.pv],.row 1 [.p (.int .i64 0)]]) ([],s.wicks) ⟨rfl,rfl⟩ ?_ ?_
 .simp only [go_sem,simprocAttr]<;>simp
 rintro ⟨done,rest⟩ ⟨e1,e2⟩
 dsimp only at e1 e2
 cases rest with
 |cons x r =>
  obtain ⟨hx,hlt⟩:=gC e1;have hln:(done++[x]).length<=s.wicks.length:=by rw [e1];simp
  have hdl:done.length<12:=by simp at hln;omega
  have hnx:IntKind.i64.wrap ((done.length:Int)+1)=(((done++[x]).length:Nat):Int):=bI (by omega) (by simp [aB];omega) (by simp);have hle:(((done++[x]).length:Nat):Int)<=(s.wicks.length:Int):=by omega
  have htk:(s.wicks.map Wick.pv).take (done++[x]).length=(done++[x]).map Wick.pv:=by
   rw [e1,show done++x::r=(done++[x])++r by simp,cp,fD (by simp)]
  have hE:firstErr d6 (·.name) s.wicks []=if d6 (done.map (·.name)) x=0 then firstErr d6 (·.name) r ((done++[x]).map (·.name)) else some ((done.length:Int),d6 (done.map (·.name)) x):=by
   rw [e2,firstErr];simp
  have fin:∀ e,d6 (done.map (·.name)) x=e->e≠0->gx s (firstErr d6 (·.name) s.wicks [])=(2,(done.length:Int),e):=by
   intro e he hne;rw [hE,he,if_neg hne];rfl
  simp only [hlt,decide_true,hx,hnx,hle,zf,gY,htk,go_sem,simprocAttr];refine ae (zQ done x false (by omega)) rfl ?_;simp only [go_sem,simprocAttr];refine aq (λh5=>?_) λh5=>?_;rotate_left
  .simp only [go_sem,simprocAttr];refine cG rfl ?_;have h5':aA (done.map (·.name)) x.name≠0:=by simpa using h5
   simp only [aE,fin _ (by rw [d6,if_neg h5']) h5',go_sem,simprocAttr]
  have h5':aA (done.map (·.name)) x.name=0:=by simpa using h5
  simp only [go_sem,simprocAttr];refine ae (eb 1 100 [_] true (by simp)) rfl ?_;simp only [bg,bj,ca,kx,go_sem,simprocAttr];cases h6:az x.threads 1 100
  .simp only [go_sem,simprocAttr];refine aq (λh=>(by cases h)) λ_=>?_;simp only [go_sem,simprocAttr];refine cG rfl ?_;simp only [aE,fin 7 (by simp [d6,h5',h6]) (by decide),go_sem,simprocAttr]
  simp only [go_sem,simprocAttr];refine ae (eb 1 1000 [_,_] true (by simp)) rfl ?_;simp only [bg,bj,ca,<-j4,kx,go_sem,simprocAttr];refine aq (λh7=>?_) λh7=>?_;rotate_left
  .simp only [go_sem,simprocAttr];refine cG rfl ?_;simp only [aE,fin 7 (by simp [d6,h5',h6,dq,h7]) (by decide),go_sem,simprocAttr]
  simp only [go_sem,simprocAttr];refine ae (vF [x.pull] true (by simp)) rfl ?_;simp only [bg,bj,ca,go_sem,simprocAttr];refine aq (λh8=>?_) λh8=>?_;rotate_left
  .simp only [go_sem,simprocAttr];refine cG rfl ?_;simp only [aE,fin 2 (by simp only [Bool.not_eq_false'] at h8;simp [d6,h5',h6,dq,h7,aZ,h8]) (by decide),go_sem,simprocAttr]
  simp only [go_sem,simprocAttr];refine dp (done++[x],r) ⟨by simp [e1],?_⟩ (by simp) ?_
  .rw [hE,if_pos];simp only [B6] at h8;simp [d6,h5',h6,dq,h7,aZ,h8]
  .simp only [hnx,h5',go_sem,simprocAttr]
 |nil =>
  have hlt:¬ ((done.length:Int)<(s.wicks.length:Int)):=by rw [e1];simp
  have hT:gx s (firstErr d6 (·.name) s.wicks [])=gx s none:=by rw [e2];rfl
  rw [hT];simp only [hlt,decide_false,go_sem,simprocAttr]
  refine i7 [1,2,4,93,94] (σ:=List Wax×List Wax) (λq=>s.waxes=q.1++q.2/\firstErr fE (·.name) s.waxes []=firstErr fE (·.name) q.2 (q.1.map (·.name))) (λq=>q.2.length)
   (λq=>[(95,.p (.int .i64 q.1.length))]) (λ_=>[.row 6 [.p s.pv],.row 1 [.p (.int .i64 0)]]) ([],s.waxes) ⟨rfl,rfl⟩ ?_ ?_
  .simp only [go_sem,simprocAttr]<;>simp
  clear e1 e2 hlt hT
  rintro ⟨done,rest⟩ ⟨e1,e2⟩
  dsimp only at e1 e2
  cases rest with
  |cons x r =>
   obtain ⟨hx,hlt⟩:=gC e1;have hln:(done++[x]).length<=s.waxes.length:=by rw [e1];simp
   have hdl:done.length<12:=by simp at hln;omega
   have hnx:IntKind.i64.wrap ((done.length:Int)+1)=(((done++[x]).length:Nat):Int):=bI (by omega) (by simp [aB];omega) (by simp);have hle:(((done++[x]).length:Nat):Int)<=(s.waxes.length:Int):=by omega
   have htk:(s.waxes.map Wax.pv).take (done++[x]).length=(done++[x]).map Wax.pv:=by
    rw [e1,show done++x::r=(done++[x])++r by simp,cp,fD (by simp)]
   have hE:firstErr fE (·.name) s.waxes []=if fE (done.map (·.name)) x=0 then firstErr fE (·.name) r ((done++[x]).map (·.name)) else some ((done.length:Int),fE (done.map (·.name)) x):=by
    rw [e2,firstErr];simp
   have fin:∀ e,fE (done.map (·.name)) x=e->e≠0->gx s none=(3,(done.length:Int),e):=by
    intro e he hne;simp only [gx];rw [hE,he,if_neg hne]
   simp only [hlt,decide_true,hx,hnx,hle,zf,gY,htk,go_sem,simprocAttr];refine ae (zP done x false (by omega)) rfl ?_;simp only [go_sem,simprocAttr];refine aq (λh5=>?_) λh5=>?_;rotate_left
   .simp only [go_sem,simprocAttr];refine cG rfl ?_;have h5':aA (done.map (·.name)) x.name≠0:=by simpa using h5
    simp only [aE,fin _ (by rw [fE,if_neg h5']) h5',go_sem,simprocAttr]
   have h5':aA (done.map (·.name)) x.name=0:=by simpa using h5
   simp only [go_sem,simprocAttr];refine ae (eb 0 50 [_] true (by simp)) rfl ?_;simp only [bg,bj,ca,kx,go_sem,simprocAttr];cases h6:az x.chill 0 50
   .simp only [go_sem,simprocAttr];refine aq (λh=>(by cases h)) λ_=>?_;simp only [go_sem,simprocAttr];refine cG rfl ?_;simp only [aE,fin 7 (by simp [fE,h5',h6]) (by decide),go_sem,simprocAttr]
   simp only [go_sem,simprocAttr];refine ae (eb 1 300 [_,_] true (by simp)) rfl ?_;simp only [bg,bj,ca,<-j4,kx,go_sem,simprocAttr];refine aq (λh7=>?_) λh7=>?_;rotate_left
   .simp only [go_sem,simprocAttr];refine cG rfl ?_;simp only [aE,fin 7 (by simp [fE,h5',h6,dq,h7]) (by decide),go_sem,simprocAttr]
   simp only [go_sem,simprocAttr];refine ae (eb 1 1000 [_,_] true (by simp)) rfl ?_;simp only [bg,bj,ca,<-j4,kx,go_sem,simprocAttr];cases h8:(az x.rise.lo 1 1000&&az x.rise.hi 1 1000)
   .simp only [go_sem,simprocAttr];refine aq (λh=>(by cases h)) λ_=>?_;simp only [go_sem,simprocAttr];refine cG rfl ?_;simp only [aE,fin 7 (by simp [fE,h5',h6,dq,h7,h8]) (by decide),go_sem,simprocAttr]
   simp only [go_sem,simprocAttr];refine ae (eb 1 2000 [_,_] true (by simp)) rfl ?_;simp only [bg,bj,ca,<-j4,kx,go_sem,simprocAttr];refine aq (λh9=>?_) λh9=>?_;rotate_left
   .simp only [go_sem,simprocAttr];refine cG rfl ?_;simp only [aE,fin 7 (by simp [fE,h5',h6,dq,h7,h8,h9]) (by decide),go_sem,simprocAttr]
   simp only [go_sem,simprocAttr];refine ae (vF [x.flow,x.rise,x.spread] true (by simp)) rfl ?_;simp only [bg,bj,ca,go_sem,simprocAttr];refine aq (λh10=>?_) λh10=>?_;rotate_left
   .simp only [go_sem,simprocAttr];refine cG rfl ?_;simp only [aE,fin 2 (by simp only [Bool.not_eq_false'] at h10;simp only [fE,h5',h6,dq,h7,h8,h9,aZ,h10,y8,if_true]) (by decide),go_sem,simprocAttr]
   simp only [go_sem,simprocAttr];refine dp (done++[x],r) ⟨by simp [e1],?_⟩ (by simp) ?_
   .rw [hE,if_pos];simp only [B6] at h10;simp only [fE,h5',h6,dq,h7,h8,h9,aZ,h10,y8,if_true,fa,if_false]
   .simp only [hnx,h5',go_sem,simprocAttr]
  |nil =>
   have hlt:¬ ((done.length:Int)<(s.waxes.length:Int)):=by rw [e1];simp
   simp only [hlt,decide_false,go_sem,simprocAttr];refine wS ?_;have hT:gx s none=(0,0,0):=by
    simp only [gx];rw [e2];rfl
   simp only [aE,hT,go_sem,simprocAttr]
end Wk
end Abs
end Go.Proofs.YtfafnkpfamgbbaaGreatDoor
