/- CONTRACTS: what is checked of a shop, in the program and in the reference: both come to 'c -/
import Derived.Test.YtmndpldajflenaaGreatDoorLibGoX
set_option linter.all false
open Go.Proofs.Tryz renaming prog->TP
open Go.Proofs.Tryz
namespace Go.Proofs.YtmndpldajflenaaGreatDoor
namespace Abs
namespace Wk
set_option maxRecDepth 4000
theorem zk(lo hi n):af TP 318 [.int .i64 n,.ptr 1 [.int .i64 lo] 0 0,.ptr 1 [.int .i64 hi] 0 0] (.bool (!ak n lo hi)):=by
 refine aa (ag func318 rfl) rfl ?_;simp only[go_sem,simprocAttr];refine aK (λa=>?_) (λa=>?_)<;>simp only[a,go_sem,simprocAttr]<;>simp_all [ak];rw[<-decide_not];congr 1;simp
theorem e6(lo hi)(l:List Int)(b)(a:l.length<1000000000):af TP 257 [.int .i64 lo,.int .i64 hi,.slice 1 (l.map aI) b] (.bool (l.any λn=>!ak n lo hi)):=by
 refine aa (ag func257 rfl) rfl ?_;simp only[go_sem,simprocAttr];refine aU (jC (fv:=.func (.func 318) [] [.ptr 1 [.int .i64 lo] 0 0,.ptr 1 [.int .i64 hi] 0 0]) l (λn=>!ak n lo hi) b 1 rfl a λn _=>⟨_,_,_,rfl,zk lo hi n⟩) ?_ (.bool _) ?_
 .simp only[go_sem,simprocAttr]
 .simp only[go_sem,simprocAttr]
theorem NJ(s:Span):af TP 319 [s.pv] (.bool (decide (s.hi<s.lo))):=by
 refine aa (ag func319 rfl) rfl ?_;simp only[go_sem,simprocAttr]
theorem vU(l:List Span)(b)(a:l.length<1000000000):af TP 258 [.slice 2 (l.map Span.pv) b] (.bool (l.any λs=>decide (s.hi<s.lo))):=by
 refine aa (ag func258 rfl) rfl ?_;simp only[go_sem,simprocAttr];refine ae (nW (fv:=.func (.func 319) [] []) l (λs=>decide (s.hi<s.lo)) b 2 rfl a λs _=>⟨_,_,_,rfl,NJ s⟩) rfl ?_;simp only[go_sem,simprocAttr]
theorem u5(x:Wick):af TP 260 [x.pv] (.str x.name):=by
 refine aa (ag func260 rfl) rfl ?_;simp only[go_sem,simprocAttr]
theorem EL(s)(x:Wick):af TP 321 [x.pv,.ptr 1 [.func (.func 260) [] []] 0 0,.ptr 1 [.str s] 0 0] (.bool (x.name==s)):=by
 refine aa (ag func321 rfl) rfl ?_;simp only[go_sem,simprocAttr];refine ax (u5 x) rfl ?_;simp only[go_sem,simprocAttr]
theorem AC(l)(x)(b)(u:l.length<1000000):af TP 259 [.slice 4 ((l++[x]).map Wick.pv) b,.func (.func 260) [] []] (.int .i64 (ai (l.map (·.name)) x.name)):=by
 have hw:IntKind.i64.wrap ((((l++[x]).length:Nat):Int)-1)=((l.length:Nat):Int):=by
  rw[cl (by simp<;>omega) (by simp[ao]<;>omega)];simp
 have hx:(l++[x])[l.length]?=some x:=by simp
 have j:((l.length:Nat):Int)<(((l++[x]).length:Nat):Int):=by simp<;>omega
 have o:((l.length:Nat):Int)<=(((l++[x]).length:Nat):Int):=by omega
 have i:((l++[x]).map Wick.pv).take l.length=l.map Wick.pv:=by rw[bD,fa (by simp)]
 have q:(l.length==(l++[x]).length)=false:=by simp
 refine aa (ag func259 rfl) rfl ?_;simp only[hw,hx,j,go_sem,simprocAttr];refine ax (u5 x) rfl ?_;simp only[go_sem,simprocAttr];refine ae (jh x.name) rfl ?_;simp only[go_sem,simprocAttr];cases e:nameOk x.name
 .simp only[go_sem,simprocAttr];simp[ai,e]
 .simp only[o,vp,fT,i,q,go_sem,simprocAttr];refine aU (AK (fv:=.func (.func 321) [] [.ptr 1 [.func (.func 260) [] []] 0 0,.ptr 1 [.str x.name] 0 0]) l (λy=>y.name==x.name) false 4 rfl (by omega) λy _=>⟨_,_,_,rfl,EL x.name y⟩) ?_ (.bool _) ?_
  .simp only[go_sem,simprocAttr]
  simp only[go_sem,simprocAttr];refine aK (λa=>?_) (λa=>?_)<;>simp only[a,go_sem,simprocAttr]
  .simp only[ai,e,l5,js,a,if_true]
  .simp only[ai,e,l5,js,a,if_true,eG,if_false]
theorem u4(x:Wax):af TP 262 [x.pv] (.str x.name):=by
 refine aa (ag func262 rfl) rfl ?_;simp only[go_sem,simprocAttr]
theorem EK(s)(x:Wax):af TP 323 [x.pv,.ptr 1 [.func (.func 262) [] []] 0 0,.ptr 1 [.str s] 0 0] (.bool (x.name==s)):=by
 refine aa (ag func323 rfl) rfl ?_;simp only[go_sem,simprocAttr];refine ax (u4 x) rfl ?_;simp only[go_sem,simprocAttr]
theorem AB(l)(x)(b)(u:l.length<1000000):af TP 261 [.slice 8 ((l++[x]).map Wax.pv) b,.func (.func 262) [] []] (.int .i64 (ai (l.map (·.name)) x.name)):=by
 have hw:IntKind.i64.wrap ((((l++[x]).length:Nat):Int)-1)=((l.length:Nat):Int):=by
  rw[cl (by simp<;>omega) (by simp[ao]<;>omega)];simp
 have hx:(l++[x])[l.length]?=some x:=by simp
 have j:((l.length:Nat):Int)<(((l++[x]).length:Nat):Int):=by simp<;>omega
 have o:((l.length:Nat):Int)<=(((l++[x]).length:Nat):Int):=by omega
 have i:((l++[x]).map Wax.pv).take l.length=l.map Wax.pv:=by rw[bD,fa (by simp)]
 have q:(l.length==(l++[x]).length)=false:=by simp
 refine aa (ag func261 rfl) rfl ?_;simp only[hw,hx,j,go_sem,simprocAttr];refine ax (u4 x) rfl ?_;simp only[go_sem,simprocAttr];refine ae (jh x.name) rfl ?_;simp only[go_sem,simprocAttr];cases e:nameOk x.name
 .simp only[go_sem,simprocAttr];simp[ai,e]
 .simp only[o,vp,fT,i,q,go_sem,simprocAttr];refine aU (AJ (fv:=.func (.func 323) [] [.ptr 1 [.func (.func 262) [] []] 0 0,.ptr 1 [.str x.name] 0 0]) l (λy=>y.name==x.name) false 8 rfl (by omega) λy _=>⟨_,_,_,rfl,EK x.name y⟩) ?_ (.bool _) ?_
  .simp only[go_sem,simprocAttr]
  simp only[go_sem,simprocAttr];refine aK (λa=>?_) (λa=>?_)<;>simp only[a,go_sem,simprocAttr]
  .simp only[ai,e,l5,js,a,if_true]
  .simp only[ai,e,l5,js,a,if_true,eG,if_false]
theorem vO(b)(e)(h):ar TP 256 [.p (.bool b),.p (.int .i64 e)] h (λr h'=>h'=h/\r=if b=true then .ret (.p (.tuple [])) else .panic (.iface 32 (.int .i64 e))):=by
 refine au (ag func256 rfl) rfl ?_;simp only[go_sem,simprocAttr];cases b
 .simp only[go_sem,simprocAttr]
 .simp only[go_sem,simprocAttr]
theorem an{H}{Q}{ops}{rest}{dst}{A}{b}{e}(j:b=true->@WO ⟨TP,H,ops,rest,Q⟩ (A.put dst (.p (.tuple [])) A.h))
  (i:b=false->@WQ ⟨Q⟩ (.panic (.iface 32 (.int .i64 e))) A):@WF ⟨TP,H,ops,rest,Q,dst⟩ A 256 [.p (.bool b),.p (.int .i64 e)]:=by
 refine cj (vO b e A.h) (λv h a=>?_) (λv h a=>?_)
 .obtain⟨rfl,a⟩:=a;cases b
  .cases a
  .cases a;exact j rfl
 .obtain⟨rfl,a⟩:=a;cases b
  .cases a;exact i rfl
  .cases a
theorem EC{id}{e i}{h}(a:h[id]?=some (.row 1 [.p (.int .i64 i)])):jr TP 255 [.ptr id 1 0 0] (.pan (.iface 32 (.int .i64 e))) h
  (λr u h'=>r=.ret (.p (.tuple []))/\u=.recd (.iface 32 (.int .i64 e))/\h'=h.set id (.row 1 [.p (.int .i64 e)])):=by
 refine fJ (ag func255 rfl) rfl ?_;simp only[mM,ik,a,go_sem,simprocAttr]
theorem Ll{id}{h}:jr TP 255 [.ptr id 1 0 0] .ret h (λr u h'=>r=.ret (.p (.tuple []))/\u=.ret/\h'=h):=by
 refine fJ (ag func255 rfl) rfl ?_;simp only[mM,ik,go_sem,simprocAttr]
theorem da{rs}{R}{T}{id}{e j}{h}(a:h[id]?=some (.row 1 [.p (.int .i64 j)]))(k:ca TP rs R T [] .ret (h.set id (.row 1 [.p (.int .i64 e)]))) :
  ca TP rs R T [.fn 255 [.ptr id 1 0 0]] (.pan (.iface 32 (.int .i64 e))) h:=by
 rw[jU];refine(EC a).mono λr u h' i=>?_;obtain⟨rfl,rfl,rfl⟩:=i;exact k
theorem xj{rs}{R}{T}{id}{h}(k:ca TP rs R T [] .ret h):ca TP rs R T [.fn 255 [.ptr id 1 0 0]] .ret h:=by
 rw[jU];refine Ll.mono λr u h' a=>?_;obtain⟨rfl,rfl,rfl⟩:=a;exact k
def ci (s:Span) (lo hi:Int):Bool:=ak s.lo lo hi&&ak s.hi lo hi
def aJ (s:Span):Bool:=decide (s.hi<s.lo)
def cd (before:List ByteArray) (x:Wick):Int:=
 if ai before x.name=0 then(if(ak x.threads 1 100&&ci x.pull 1 1000)=true then(if aJ x.pull=true then 2 else 0) else 7) else ai before x.name
def dj (before:List ByteArray) (x:Wax):Int:=
 if ai before x.name=0 then(if(ak x.chill 0 50&&ci x.flow 1 300&&(ci x.rise 1 1000&&ci x.spread 1 2000))=true then(if(aJ x.flow||(aJ x.rise||aJ x.spread))=true then 2 else 0) else 7) else ai before x.name
def dn (s:Shop):Option (Int×Int)->Int×Int×Int
 |some (i,e)=>(2,i,e)
 |none=>match firstErr dj (·.name) s.waxes []with|some (i,e)=>(3,i,e)|none=>(0,0,0)
def bZ (s:Shop):Int×Int×Int:=
 if(ak s.wicks.length 1 12&&ak s.waxes.length 1 6)=true then
  if(ci s.flame 0 2000&&ci s.pool 0 2000)=true then
   if(aJ s.flame||aJ s.pool)=true then(1,0,2) else dn s (firstErr cd (·.name) s.wicks [])
  else(1,0,7)
 else(1,0,3)
theorem o3(s):af TP 195 [s.pv] (ah (bZ s)):=by
 refine aa (ag func195 rfl) rfl ?_;simp only[go_sem,simprocAttr];refine ae (e6 1 12 [_] true (by simp)) rfl ?_;simp only[bJ,cb,cn,nF,go_sem,simprocAttr];cases N:ak s.wicks.length 1 12
 .simp only[go_sem,simprocAttr];refine an (λh=>(by cases h)) λ_=>?_;simp only[go_sem,simprocAttr];refine da rfl ?_;simp only[ah,bZ,N,go_sem,simprocAttr]
 simp only[go_sem,simprocAttr];refine ae (e6 1 6 [_] true (by simp)) rfl ?_;simp only[bJ,cb,cn,nF,go_sem,simprocAttr];refine an (λM=>?_) λM=>?_;rotate_left
 .simp only[go_sem,simprocAttr];refine da rfl ?_;simp only[ah,bZ,N,M,go_sem,simprocAttr]
 simp only[go_sem,simprocAttr];refine ae (e6 0 2000 [_,_,_,_] true (by simp)) rfl ?_;simp only[bJ,cb,cn,<-ko,nF,go_sem,simprocAttr];refine an (λV=>?_) λV=>?_;rotate_left
 .simp only[go_sem,simprocAttr];refine da rfl ?_;have C:(ci s.flame 0 2000&&ci s.pool 0 2000)=false:=by rw[<-V];simp[ci,Bool.and_assoc]
  simp only[ah,bZ,N,M,C,go_sem,simprocAttr]
 have C:(ci s.flame 0 2000&&ci s.pool 0 2000)=true:=by rw[<-V];simp[ci,Bool.and_assoc]
 simp only[go_sem,simprocAttr];refine ae (vU [s.flame,s.pool] true (by simp)) rfl ?_;simp only[bJ,cb,cn,go_sem,simprocAttr];refine an (λU=>?_) λU=>?_;rotate_left
 .simp only[go_sem,simprocAttr];refine da rfl ?_;have K:(aJ s.flame||aJ s.pool)=true:=(by have:=congrArg (!·) U;simpa only[aJ,nF,wR]using this)
  simp only[ah,bZ,N,M,C,K,go_sem,simprocAttr]
 have K:(aJ s.flame||aJ s.pool)=false:=by simpa[aJ]using U
 have L:bZ s=dn s (firstErr cd (·.name) s.wicks []):=by
  simp[bZ,N,M,C,K]
 rw[L];have Z:s.wicks.length<=12:=by simp[ak]at N;omega
 have Y:s.waxes.length<=6:=by simp[ak]at M;omega
 simp only[go_sem,simprocAttr]
 refine gL [1,2,4,50,51] (σ:=List Wick×List Wick) (λq=>s.wicks=q.1++q.2/\firstErr cd (·.name) s.wicks []=firstErr cd (·.name) q.2 (q.1.map (·.name))) (λq=>q.2.length)
  (λq=>[(52,.p (.int .i64 q.1.length))]) (λ_=>[.row 6 [.p s.pv],.row 1 [.p (.int .i64 0)]]) ([],s.wicks) ⟨rfl,rfl⟩ ?_ ?_
 .simp only[go_sem,simprocAttr]<;>simp
 rintro⟨a,rest⟩ ⟨o,D⟩
 dsimp only at o D
 cases rest with
 |cons x r=>
  obtain⟨hx,l⟩:=eT o;have I:(a++[x]).length<=s.wicks.length:=by rw[o];simp
  have X:a.length<12:=by simp at I;omega
  have y:IntKind.i64.wrap ((a.length:Int)+1)=(((a++[x]).length:Nat):Int):=bk (by omega) (by simp[ao];omega) (by simp);have J:(((a++[x]).length:Nat):Int)<=(s.wicks.length:Int):=by omega
  have F:(s.wicks.map Wick.pv).take (a++[x]).length=(a++[x]).map Wick.pv:=by
   rw[o,show a++x::r=(a++[x])++r by simp,bD,fa (by simp)]
  have O:firstErr cd (·.name) s.wicks []=if cd (a.map (·.name)) x=0 then firstErr cd (·.name) r ((a++[x]).map (·.name)) else some ((a.length:Int),cd (a.map (·.name)) x):=by
   rw[D,firstErr];simp
  have j:∀e,cd (a.map (·.name)) x=e->e≠0->dn s (firstErr cd (·.name) s.wicks [])=(2,(a.length:Int),e):=by
   intro e T G;rw[O,T,if_neg G];rfl
  simp only[l,decide_true,hx,y,J,vp,fT,F,go_sem,simprocAttr];refine ae (AC a x false (by omega)) rfl ?_;simp only[go_sem,simprocAttr];refine an (λE=>?_) λE=>?_;rotate_left
  .simp only[go_sem,simprocAttr];refine da rfl ?_;have i:ai (a.map (·.name)) x.name≠0:=by simpa using E
   simp only[ah,j _ (by rw[cd,if_neg i]) i,go_sem,simprocAttr]
  have i:ai (a.map (·.name)) x.name=0:=by simpa using E
  simp only[go_sem,simprocAttr];refine ae (e6 1 100 [_] true (by simp)) rfl ?_;simp only[bJ,cb,cn,nF,go_sem,simprocAttr];cases v:ak x.threads 1 100
  .simp only[go_sem,simprocAttr];refine an (λh=>(by cases h)) λ_=>?_;simp only[go_sem,simprocAttr];refine da rfl ?_;simp only[ah,j 7 (by simp[cd,i,v]) (by decide),go_sem,simprocAttr]
  simp only[go_sem,simprocAttr];refine ae (e6 1 1000 [_,_] true (by simp)) rfl ?_;simp only[bJ,cb,cn,<-ko,nF,go_sem,simprocAttr];refine an (λu=>?_) λu=>?_;rotate_left
  .simp only[go_sem,simprocAttr];refine da rfl ?_;simp only[ah,j 7 (by simp[cd,i,v,ci,u]) (by decide),go_sem,simprocAttr]
  simp only[go_sem,simprocAttr];refine ae (vU [x.pull] true (by simp)) rfl ?_;simp only[bJ,cb,cn,go_sem,simprocAttr];refine an (λA=>?_) λA=>?_;rotate_left
  .simp only[go_sem,simprocAttr];refine da rfl ?_;simp only[ah,j 2 (by simp only[Bool.not_eq_false']at A;simp[cd,i,v,ci,u,aJ,A]) (by decide),go_sem,simprocAttr]
  simp only[go_sem,simprocAttr];refine cc (a++[x],r) ⟨by simp[o],?_⟩ (by simp) ?_
  .rw[O,if_pos];simp only[C7]at A;simp[cd,i,v,ci,u,aJ,A]
  .simp only[y,i,go_sem,simprocAttr]
 |nil=>
  have l:¬((a.length:Int)<(s.wicks.length:Int)):=by rw[o];simp
  have R:dn s (firstErr cd (·.name) s.wicks [])=dn s none:=by rw[D];rfl
  rw[R];simp only[l,decide_false,go_sem,simprocAttr]
  refine gL [1,2,4,93,94] (σ:=List Wax×List Wax) (λq=>s.waxes=q.1++q.2/\firstErr dj (·.name) s.waxes []=firstErr dj (·.name) q.2 (q.1.map (·.name))) (λq=>q.2.length)
   (λq=>[(95,.p (.int .i64 q.1.length))]) (λ_=>[.row 6 [.p s.pv],.row 1 [.p (.int .i64 0)]]) ([],s.waxes) ⟨rfl,rfl⟩ ?_ ?_
  .simp only[go_sem,simprocAttr]<;>simp
  clear o D l R
  rintro⟨a,rest⟩ ⟨o,D⟩
  dsimp only at o D
  cases rest with
  |cons x r=>
   obtain⟨hx,l⟩:=eT o;have I:(a++[x]).length<=s.waxes.length:=by rw[o];simp
   have X:a.length<12:=by simp at I;omega
   have y:IntKind.i64.wrap ((a.length:Int)+1)=(((a++[x]).length:Nat):Int):=bk (by omega) (by simp[ao];omega) (by simp);have J:(((a++[x]).length:Nat):Int)<=(s.waxes.length:Int):=by omega
   have F:(s.waxes.map Wax.pv).take (a++[x]).length=(a++[x]).map Wax.pv:=by
    rw[o,show a++x::r=(a++[x])++r by simp,bD,fa (by simp)]
   have O:firstErr dj (·.name) s.waxes []=if dj (a.map (·.name)) x=0 then firstErr dj (·.name) r ((a++[x]).map (·.name)) else some ((a.length:Int),dj (a.map (·.name)) x):=by
    rw[D,firstErr];simp
   have j:∀e,dj (a.map (·.name)) x=e->e≠0->dn s none=(3,(a.length:Int),e):=by
    intro e T G;simp only[dn];rw[O,T,if_neg G]
   simp only[l,decide_true,hx,y,J,vp,fT,F,go_sem,simprocAttr];refine ae (AB a x false (by omega)) rfl ?_;simp only[go_sem,simprocAttr];refine an (λE=>?_) λE=>?_;rotate_left
   .simp only[go_sem,simprocAttr];refine da rfl ?_;have i:ai (a.map (·.name)) x.name≠0:=by simpa using E
    simp only[ah,j _ (by rw[dj,if_neg i]) i,go_sem,simprocAttr]
   have i:ai (a.map (·.name)) x.name=0:=by simpa using E
   simp only[go_sem,simprocAttr];refine ae (e6 0 50 [_] true (by simp)) rfl ?_;simp only[bJ,cb,cn,nF,go_sem,simprocAttr];cases v:ak x.chill 0 50
   .simp only[go_sem,simprocAttr];refine an (λh=>(by cases h)) λ_=>?_;simp only[go_sem,simprocAttr];refine da rfl ?_;simp only[ah,j 7 (by simp[dj,i,v]) (by decide),go_sem,simprocAttr]
   simp only[go_sem,simprocAttr];refine ae (e6 1 300 [_,_] true (by simp)) rfl ?_;simp only[bJ,cb,cn,<-ko,nF,go_sem,simprocAttr];refine an (λu=>?_) λu=>?_;rotate_left
   .simp only[go_sem,simprocAttr];refine da rfl ?_;simp only[ah,j 7 (by simp[dj,i,v,ci,u]) (by decide),go_sem,simprocAttr]
   simp only[go_sem,simprocAttr];refine ae (e6 1 1000 [_,_] true (by simp)) rfl ?_;simp only[bJ,cb,cn,<-ko,nF,go_sem,simprocAttr];cases A:(ak x.rise.lo 1 1000&&ak x.rise.hi 1 1000)
   .simp only[go_sem,simprocAttr];refine an (λh=>(by cases h)) λ_=>?_;simp only[go_sem,simprocAttr];refine da rfl ?_;simp only[ah,j 7 (by simp[dj,i,v,ci,u,A]) (by decide),go_sem,simprocAttr]
   simp only[go_sem,simprocAttr];refine ae (e6 1 2000 [_,_] true (by simp)) rfl ?_;simp only[bJ,cb,cn,<-ko,nF,go_sem,simprocAttr];refine an (λS=>?_) λS=>?_;rotate_left
   .simp only[go_sem,simprocAttr];refine da rfl ?_;simp only[ah,j 7 (by simp[dj,i,v,ci,u,A,S]) (by decide),go_sem,simprocAttr]
   simp only[go_sem,simprocAttr];refine ae (vU [x.flow,x.rise,x.spread] true (by simp)) rfl ?_;simp only[bJ,cb,cn,go_sem,simprocAttr];refine an (λz=>?_) λz=>?_;rotate_left
   .simp only[go_sem,simprocAttr];refine da rfl ?_;simp only[ah,j 2 (by simp only[Bool.not_eq_false']at z;simp only[dj,i,v,ci,u,A,S,aJ,z,qf,if_true]) (by decide),go_sem,simprocAttr]
   simp only[go_sem,simprocAttr];refine cc (a++[x],r) ⟨by simp[o],?_⟩ (by simp) ?_
   .rw[O,if_pos];simp only[C7]at z;simp only[dj,i,v,ci,u,A,S,aJ,z,qf,if_true,eG,if_false]
   .simp only[y,i,go_sem,simprocAttr]
  |nil=>
   have l:¬((a.length:Int)<(s.waxes.length:Int)):=by rw[o];simp
   simp only[l,decide_false,go_sem,simprocAttr];refine xj ?_;have R:dn s none=(0,0,0):=by
    simp only[dn];rw[D];rfl
   simp only[ah,R,go_sem,simprocAttr]
theorem oV(s)(a b):dg s.lo s.hi a b=if ci s a b=true then(if aJ s=true then 2 else 0) else 7:=by
 unfold dg ci aJ;cases ak s.lo a b<;>cases ak s.hi a b<;>simp
def ju:List (Span×Int×Int)->Int->Int
 |[],w=>w
 |q::r,w=>ju r (if(dg q.1.lo q.1.hi q.2.1 q.2.2==7||w==0)=true then dg q.1.lo q.1.hi q.2.1 q.2.2 else w)
theorem LB(l)(A z y)(C:l.length<1000000) :
  af TP 165 [.slice 2 (l.map λq=>q.1.pv) A,.slice 1 (l.map λq=>aI q.2.1) z,.slice 1 (l.map λq=>aI q.2.2) y] (.int .i64 (ju l 0)):=by
 refine aa (ag func165 rfl) rfl ?_;simp only[go_sem,simprocAttr];refine AU [0,1,2] (σ:=List (Span×Int×Int)×List (Span×Int×Int)×Int) (λq=>l=q.1++q.2.1/\ju l 0=ju q.2.1 q.2.2) (λq=>q.2.1.length) (λq=>[(7,.p (.int .i64 q.2.2)),(8,.p (.int .i64 q.1.length))]) ([],l,0) ⟨rfl,rfl⟩ ?_ ?_
 .simp only[go_sem,simprocAttr]<;>simp
 rintro⟨a,rest,w⟩ ⟨o,j⟩
 dsimp only at o j
 cases rest with
 |nil=>
  have i:¬((a.length:Int)<(l.length:Int)):=by rw[o];simp
  simp only[i,decide_false,go_sem,simprocAttr]
  rw[j];rfl
 |cons x r=>
  obtain⟨hx,i⟩:=eT o;have e:IntKind.i64.wrap ((a.length:Int)+1)=(((a++[x]).length:Nat):Int):=bk (by omega) (by simp[ao];omega) (by simp);rw[ju]at j;simp only[i,decide_true,hx,go_sem,simprocAttr];refine ax (ox _ _ _ _) rfl ?_;simp only[go_sem,simprocAttr];cases u:(dg x.1.lo x.1.hi x.2.1 x.2.2==7)
  .simp only[go_sem,simprocAttr];cases v:(w==0)
   .simp only[go_sem,simprocAttr];refine cc (a++[x],r,w) ⟨by simp[o],by rw[j,u,v];rfl⟩ (by simp) ?_;simp only[e,go_sem,simprocAttr]
   .simp only[go_sem,simprocAttr];refine cc (a++[x],r,dg x.1.lo x.1.hi x.2.1 x.2.2) ⟨by simp[o],by rw[j,u,v];rfl⟩ (by simp) ?_;simp only[e,go_sem,simprocAttr]
  .simp only[go_sem,simprocAttr];refine cc (a++[x],r,dg x.1.lo x.1.hi x.2.1 x.2.2) ⟨by simp[o],by rw[j,u];rfl⟩ (by simp) ?_;simp only[e,go_sem,simprocAttr]
theorem RJ(a b)(i y1 e y2):ju [(a,i,y1),(b,e,y2)] 0=if(ci a i y1&&ci b e y2)=true then(if(aJ a||aJ b)=true then 2 else 0) else 7:=by
 simp only[ju,oV];cases ci a i y1<;>cases ci b e y2<;>cases aJ a<;>cases aJ b<;>rfl
theorem RI(a b c)(j y1 i y2 e y3):ju [(a,j,y1),(b,i,y2),(c,e,y3)] 0 =
  if(ci a j y1&&(ci b i y2&&ci c e y3))=true then(if(aJ a||(aJ b||aJ c))=true then 2 else 0) else 7:=by
 simp only[ju,oV];cases ci a j y1<;>cases ci b i y2<;>cases ci c e y3<;>cases aJ a<;>cases aJ b<;>cases aJ c<;>rfl
theorem o2(s):af TP 129 [s.pv] (ah (bZ s)):=by
 refine aa (ag func129 rfl) rfl ?_;simp only[go_sem,simprocAttr];refine ae (Jj _ _ _) rfl ?_;simp only[go_sem,simprocAttr];cases G:ak s.wicks.length 1 12
 .simp only[ah,bZ,G,go_sem,simprocAttr]
 simp only[go_sem,simprocAttr];refine ae (Jj _ _ _) rfl ?_;simp only[go_sem,simprocAttr];cases L:ak s.waxes.length 1 6
 .simp only[ah,bZ,G,L,go_sem,simprocAttr]
 simp only[go_sem,simprocAttr];refine ae (LB [(s.flame,0,2000),(s.pool,0,2000)] true true true (by simp)) rfl ?_;simp only[go_sem,simprocAttr];rw[RJ];cases O:(ci s.flame 0 2000&&ci s.pool 0 2000)
 .simp only[ah,bZ,G,L,O,go_sem,simprocAttr]
 cases S:(aJ s.flame||aJ s.pool)
 rotate_left
 .simp only[ah,bZ,G,L,O,S,go_sem,simprocAttr]
 have E:bZ s=dn s (firstErr cd (·.name) s.wicks []):=by
  simp[bZ,G,L,O,S]
 rw[E];have U:s.wicks.length<=12:=by simp[ak]at G;omega
 have T:s.waxes.length<=6:=by simp[ak]at L;omega
 simp only[go_sem,simprocAttr];refine cp 6 1 (by simp only[go_sem,simprocAttr]) ?_;simp only[go_sem,simprocAttr]
 refine gL [1] (σ:=List Wick×List Wick) (λq=>s.wicks=q.1++q.2/\firstErr cd (·.name) s.wicks []=firstErr cd (·.name) q.2 (q.1.map (·.name))) (λq=>q.2.length)
  (λq=>[(6,.slice 1 q.1.length 0 q.1.length),(7,.p (.int .i64 q.1.length))]) (λq=>[.row 6 [.p s.pv],.row 1 (q.1.map λx=>.p (.str x.name))]) ([],s.wicks) ⟨rfl,rfl⟩ ?_ ?_
 .simp only[go_sem,simprocAttr]<;>simp
 rintro⟨a,rest⟩ ⟨o,v⟩
 dsimp only at o v
 cases rest with
 |cons x r=>
  obtain⟨hx,j⟩:=eT o;have C:(a++[x]).length<=s.wicks.length:=by rw[o];simp
  have R:a.length<12:=by simp at C;omega
  have z:IntKind.i64.wrap ((a.length:Int)+1)=(((a++[x]).length:Nat):Int):=bk (by omega) (by simp[ao];omega) (by simp);have y:a.length+1<=ao:=by simp[ao];omega
  have I:firstErr cd (·.name) s.wicks []=if cd (a.map (·.name)) x=0 then firstErr cd (·.name) r ((a++[x]).map (·.name)) else some ((a.length:Int),cd (a.map (·.name)) x):=by
   rw[v,firstErr];simp
  have l:∀e,cd (a.map (·.name)) x=e->e≠0->dn s (firstErr cd (·.name) s.wicks [])=(2,(a.length:Int),e):=by
   intro e N A;rw[I,N,if_neg A];rfl
  simp only[j,decide_true,hx,go_sem,simprocAttr];refine aU (i8 x.name (a.map (·.name)) false (a.map λx=>.str x.name) (by simp) (by simp;omega)) ?_ (.int _ _) ?_
  .simp only[go_sem,simprocAttr]
  simp only[y,go_sem,simprocAttr];cases u:(ai (a.map (·.name)) x.name==0)
  .have i:ai (a.map (·.name)) x.name≠0:=by simpa using u
   have D:(ai (a.map (·.name)) x.name != 0)=true:=by simp[bne,u]
   simp only[u,D,ah,l _ (by rw[cd,if_neg i]) i,go_sem,simprocAttr]
  have i:ai (a.map (·.name)) x.name=0:=by simpa using u
  simp only[go_sem,simprocAttr];refine ae (Jj _ _ _) rfl ?_;simp only[go_sem,simprocAttr];cases K:ak x.threads 1 100
  .simp only[ah,l 7 (by simp[cd,i,K]) (by decide),go_sem,simprocAttr]
  simp only[u,go_sem,simprocAttr];refine ae (ox _ _ _ _) rfl ?_;simp only[go_sem,simprocAttr];have hw:cd (a.map (·.name)) x=dg x.pull.lo x.pull.hi 1 1000:=by rw[oV];simp[cd,i,K]
  cases J:(dg x.pull.lo x.pull.hi 1 1000 != 0)
  .simp only[go_sem,simprocAttr];refine cc (a++[x],r) ⟨by simp[o],?_⟩ (by simp) ?_
   .rw[I,if_pos];rw[hw];simpa using J
   .simp only[z,aL,bD,go_sem,simprocAttr]
  .simp only[ah,l _ hw (by simpa using J),go_sem,simprocAttr]
 |nil=>
  have j:¬((a.length:Int)<(s.wicks.length:Int)):=by rw[o];simp
  have M:dn s (firstErr cd (·.name) s.wicks [])=dn s none:=by rw[v];rfl
  have F:a=s.wicks:=by rw[o];simp
  rw[M];simp only[j,decide_false,go_sem,simprocAttr];refine cp 6 1 (by simp only[go_sem,simprocAttr]) ?_;simp only[go_sem,simprocAttr]
  refine gL [1] (σ:=List Wax×List Wax) (λq=>s.waxes=q.1++q.2/\firstErr dj (·.name) s.waxes []=firstErr dj (·.name) q.2 (q.1.map (·.name))) (λq=>q.2.length)
   (λq=>[(6,.slice 2 q.1.length 0 q.1.length),(9,.p (.int .i64 q.1.length))]) (λq=>[.row 6 [.p s.pv],.row 1 (a.map λx=>.p (.str x.name)),.row 1 (q.1.map λx=>.p (.str x.name))]) ([],s.waxes) ⟨rfl,rfl⟩ ?_ ?_
  .simp only[go_sem,simprocAttr]<;>simp
  generalize a=V;clear o v j M F
  rintro⟨a,rest⟩ ⟨o,v⟩
  dsimp only at o v
  cases rest with
  |cons x r=>
   obtain⟨hx,j⟩:=eT o;have C:(a++[x]).length<=s.waxes.length:=by rw[o];simp
   have R:a.length<12:=by simp at C;omega
   have z:IntKind.i64.wrap ((a.length:Int)+1)=(((a++[x]).length:Nat):Int):=bk (by omega) (by simp[ao];omega) (by simp);have y:a.length+1<=ao:=by simp[ao];omega
   have I:firstErr dj (·.name) s.waxes []=if dj (a.map (·.name)) x=0 then firstErr dj (·.name) r ((a++[x]).map (·.name)) else some ((a.length:Int),dj (a.map (·.name)) x):=by
    rw[v,firstErr];simp
   have l:∀e,dj (a.map (·.name)) x=e->e≠0->dn s none=(3,(a.length:Int),e):=by
    intro e N A;simp only[dn];rw[I,N,if_neg A]
   simp only[j,decide_true,hx,go_sem,simprocAttr];refine aU (i8 x.name (a.map (·.name)) false (a.map λx=>.str x.name) (by simp) (by simp;omega)) ?_ (.int _ _) ?_
   .simp only[go_sem,simprocAttr]
   simp only[y,go_sem,simprocAttr];cases u:(ai (a.map (·.name)) x.name==0)
   .have i:ai (a.map (·.name)) x.name≠0:=by simpa using u
    have D:(ai (a.map (·.name)) x.name != 0)=true:=by simp[bne,u]
    simp only[u,D,ah,l _ (by rw[dj,if_neg i]) i,go_sem,simprocAttr]
   have i:ai (a.map (·.name)) x.name=0:=by simpa using u
   simp only[go_sem,simprocAttr];refine ae (Jj _ _ _) rfl ?_;simp only[go_sem,simprocAttr];cases K:ak x.chill 0 50
   .simp only[ah,l 7 (by simp[dj,i,K]) (by decide),go_sem,simprocAttr]
   simp only[u,go_sem,simprocAttr];refine ae (LB [(x.flow,1,300),(x.rise,1,1000),(x.spread,1,2000)] true true true (by simp)) rfl ?_;simp only[go_sem,simprocAttr];have hw:dj (a.map (·.name)) x=ju [(x.flow,1,300),(x.rise,1,1000),(x.spread,1,2000)] 0:=by rw[RI];simp[dj,i,K]
   cases J:(ju [(x.flow,1,300),(x.rise,1,1000),(x.spread,1,2000)] 0 != 0)
   .simp only[go_sem,simprocAttr];refine cc (a++[x],r) ⟨by simp[o],?_⟩ (by simp) ?_
    .rw[I,if_pos];rw[hw];simpa using J
    .simp only[z,aL,bD,go_sem,simprocAttr]
   .simp only[ah,l _ hw (by simpa using J),go_sem,simprocAttr]
  |nil=>
   have j:¬((a.length:Int)<(s.waxes.length:Int)):=by rw[o];simp
   simp only[j,decide_false,go_sem,simprocAttr];have M:dn s none=(0,0,0):=by
    simp only[dn];rw[v];rfl
   simp only[ah,M,go_sem,simprocAttr]
end Wk
end Abs
end Go.Proofs.YtmndpldajflenaaGreatDoor
