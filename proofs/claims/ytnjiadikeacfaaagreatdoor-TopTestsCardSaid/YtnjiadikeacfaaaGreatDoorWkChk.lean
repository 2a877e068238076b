/- CONTRACTS: what is checked of a shop, in the program and in the reference: both come to 'c -/
import Derived.Test.YtnjiadikeacfaaaGreatDoorLibGoX
set_option linter.all false
open Go.Proofs.Tryz renaming prog->TP
namespace Go.Proofs.YtnjiadikeacfaaaGreatDoor
namespace Abs
namespace Wk
set_option maxRecDepth 4000
theorem An(lo hi n):af TP 243 [.int .i64 n,.ptr 1 [.int .i64 lo] 0 0,.ptr 1 [.int .i64 hi] 0 0] (.bool (!al n lo hi)):=by
 refine aa (ah Tryz.func243 rfl (by kernel_rfl)) rfl ?_;simp only[go_sem,simprocAttr];refine aR (λhb=>?_) (λhb=>?_)<;>simp only[hb,go_sem,simprocAttr]<;>simp_all [al];rw[<-decide_not];congr 1;simp
theorem eS(lo hi)(l:List Int)(b)(hl:l.length<1000000000):af TP 185 [.int .i64 lo,.int .i64 hi,.slice 1 (l.map aG) b] (.bool (l.any λn=>!al n lo hi)):=by
 refine aa (ah Tryz.func185 rfl (by kernel_rfl)) rfl ?_;simp only[go_sem,simprocAttr];refine aY (jF (fv:=.func (.func 243) [] [.ptr 1 [.int .i64 lo] 0 0,.ptr 1 [.int .i64 hi] 0 0]) l (λn=>!al n lo hi) b 1 rfl hl λn _=>⟨_,_,_,rfl,An lo hi n⟩) ?_ (.bool _) ?_
 .simp only[go_sem,simprocAttr]
 .simp only[go_sem,simprocAttr]
theorem ON(s:Span):af TP 244 [s.pv] (.bool (decide (s.hi<s.lo))):=by
 refine aa (ah Tryz.func244 rfl (by kernel_rfl)) rfl ?_;simp only[go_sem,simprocAttr]
theorem w9(l:List Span)(b)(hl:l.length<1000000000):af TP 186 [.slice 2 (l.map Span.pv) b] (.bool (l.any λs=>decide (s.hi<s.lo))):=by
 refine aa (ah Tryz.func186 rfl (by kernel_rfl)) rfl ?_;simp only[go_sem,simprocAttr];refine ae (n8 (fv:=.func (.func 244) [] []) l (λs=>decide (s.hi<s.lo)) b 2 rfl hl λs _=>⟨_,_,_,rfl,ON s⟩) rfl ?_;simp only[go_sem,simprocAttr]
theorem v6(x:Wick):af TP 188 [x.pv] (.str x.name):=by
 refine aa (ah Tryz.func188 rfl (by kernel_rfl)) rfl ?_;simp only[go_sem,simprocAttr]
theorem Fz(s)(x:Wick):af TP 246 [x.pv,.ptr 1 [.func (.func 188) [] []] 0 0,.ptr 1 [.str s] 0 0] (.bool (x.name==s)):=by
 refine aa (ah Tryz.func246 rfl (by kernel_rfl)) rfl ?_;simp only[go_sem,simprocAttr];refine ay (v6 x) rfl ?_;simp only[go_sem,simprocAttr]
theorem Br(l)(x)(b)(hl:l.length<1000000):af TP 187 [.slice 4 ((l++[x]).map Wick.pv) b,.func (.func 188) [] []] (.int .i64 (ak (l.map (·.name)) x.name)):=by
 have hw:IntKind.i64.wrap ((((l++[x]).length:Nat):Int)-1)=((l.length:Nat):Int):=by
  rw[cI (by simp<;>omega) (by simp[ar]<;>omega)];simp
 have hx:(l++[x])[l.length]?=some x:=by simp
 have hlt:((l.length:Nat):Int)<(((l++[x]).length:Nat):Int):=by simp<;>omega
 have hle:((l.length:Nat):Int)<=(((l++[x]).length:Nat):Int):=by omega
 have htk:((l++[x]).map Wick.pv).take l.length=l.map Wick.pv:=by rw[ca,jL (by simp)]
 have hfl:(l.length==(l++[x]).length)=false:=by simp
 refine aa (ah Tryz.func187 rfl (by kernel_rfl)) rfl ?_;simp only[hw,hx,hlt,go_sem,simprocAttr];refine ay (v6 x) rfl ?_;simp only[go_sem,simprocAttr];refine ae (jn x.name) rfl ?_;simp only[go_sem,simprocAttr];cases hn:nameOk x.name
 .simp only[go_sem,simprocAttr];simp[ak,hn]
 .simp only[hle,wv,kL,htk,hfl,go_sem,simprocAttr];refine aY (BA (fv:=.func (.func 246) [] [.ptr 1 [.func (.func 188) [] []] 0 0,.ptr 1 [.str x.name] 0 0]) l (λy=>y.name==x.name) false 4 rfl (by omega) λy _=>⟨_,_,_,rfl,Fz x.name y⟩) ?_ (.bool _) ?_
  .simp only[go_sem,simprocAttr]
  simp only[go_sem,simprocAttr];refine aR (λhb=>?_) (λhb=>?_)<;>simp only[hb,go_sem,simprocAttr]
  .simp only[ak,hn,jP,jw,hb,if_true]
  .simp only[ak,hn,jP,jw,hb,if_true,d4,if_false]
theorem vZ(x:Wax):af TP 190 [x.pv] (.str x.name):=by
 refine aa (ah Tryz.func190 rfl (by kernel_rfl)) rfl ?_;simp only[go_sem,simprocAttr]
theorem Fy(s)(x:Wax):af TP 248 [x.pv,.ptr 1 [.func (.func 190) [] []] 0 0,.ptr 1 [.str s] 0 0] (.bool (x.name==s)):=by
 refine aa (ah Tryz.func248 rfl (by kernel_rfl)) rfl ?_;simp only[go_sem,simprocAttr];refine ay (vZ x) rfl ?_;simp only[go_sem,simprocAttr]
theorem Bq(l)(x)(b)(hl:l.length<1000000):af TP 189 [.slice 8 ((l++[x]).map Wax.pv) b,.func (.func 190) [] []] (.int .i64 (ak (l.map (·.name)) x.name)):=by
 have hw:IntKind.i64.wrap ((((l++[x]).length:Nat):Int)-1)=((l.length:Nat):Int):=by
  rw[cI (by simp<;>omega) (by simp[ar]<;>omega)];simp
 have hx:(l++[x])[l.length]?=some x:=by simp
 have hlt:((l.length:Nat):Int)<(((l++[x]).length:Nat):Int):=by simp<;>omega
 have hle:((l.length:Nat):Int)<=(((l++[x]).length:Nat):Int):=by omega
 have htk:((l++[x]).map Wax.pv).take l.length=l.map Wax.pv:=by rw[ca,jL (by simp)]
 have hfl:(l.length==(l++[x]).length)=false:=by simp
 refine aa (ah Tryz.func189 rfl (by kernel_rfl)) rfl ?_;simp only[hw,hx,hlt,go_sem,simprocAttr];refine ay (vZ x) rfl ?_;simp only[go_sem,simprocAttr];refine ae (jn x.name) rfl ?_;simp only[go_sem,simprocAttr];cases hn:nameOk x.name
 .simp only[go_sem,simprocAttr];simp[ak,hn]
 .simp only[hle,wv,kL,htk,hfl,go_sem,simprocAttr];refine aY (Bz (fv:=.func (.func 248) [] [.ptr 1 [.func (.func 190) [] []] 0 0,.ptr 1 [.str x.name] 0 0]) l (λy=>y.name==x.name) false 8 rfl (by omega) λy _=>⟨_,_,_,rfl,Fy x.name y⟩) ?_ (.bool _) ?_
  .simp only[go_sem,simprocAttr]
  simp only[go_sem,simprocAttr];refine aR (λhb=>?_) (λhb=>?_)<;>simp only[hb,go_sem,simprocAttr]
  .simp only[ak,hn,jP,jw,hb,if_true]
  .simp only[ak,hn,jP,jw,hb,if_true,d4,if_false]
theorem wX(b)(e)(h):aB TP 184 [.p (.bool b),.p (.int .i64 e)] h (λr h'=>h'=h/\r=if b=true then .ret (.p (.tuple [])) else .panic (.iface 44 (.int .i64 e))):=by
 refine aA (ah Tryz.func184 rfl (by kernel_rfl)) rfl ?_;simp only[go_sem,simprocAttr];cases b
 .simp only[go_sem,simprocAttr]
 .simp only[go_sem,simprocAttr]
theorem au{H}{Q}{ops}{rest}{dst}{A}{b}{e}(h1:b=true->@WO ⟨TP,H,ops,rest,Q⟩ (A.put dst (.p (.tuple [])) A.h))
  (h2:b=false->@WQ ⟨Q⟩ (.panic (.iface 44 (.int .i64 e))) A):@WF ⟨TP,H,ops,rest,Q,dst⟩ A 184 [.p (.bool b),.p (.int .i64 e)]:=by
 refine cp (wX b e A.h) (λv h hr=>?_) (λv h hr=>?_)
 .obtain⟨rfl,hr⟩:=hr;cases b
  .cases hr
  .cases hr;exact h1 rfl
 .obtain⟨rfl,hr⟩:=hr;cases b
  .cases hr;exact h2 rfl
  .cases hr
theorem Fp{id}{e e0}{h}(hid:h[id]?=some (.row 1 [.p (.int .i64 e0)])):ju TP 183 [.ptr id 1 0 0] (.pan (.iface 44 (.int .i64 e))) h
  (λr u h'=>r=.ret (.p (.tuple []))/\u=.recd (.iface 44 (.int .i64 e))/\h'=h.set id (.row 1 [.p (.int .i64 e)])):=by
 refine fF (ah Tryz.func183 rfl (by kernel_rfl)) rfl ?_;simp only[mZ,iv,hid,go_sem,simprocAttr]
theorem L'{id}{h}:ju TP 183 [.ptr id 1 0 0] .ret h (λr u h'=>r=.ret (.p (.tuple []))/\u=.ret/\h'=h):=by
 refine fF (ah Tryz.func183 rfl (by kernel_rfl)) rfl ?_;simp only[mZ,iv,go_sem,simprocAttr]
theorem cZ{rs}{R}{T}{id}{e e0}{h}(hid:h[id]?=some (.row 1 [.p (.int .i64 e0)]))(k:cg TP rs R T [] .ret (h.set id (.row 1 [.p (.int .i64 e)]))) :
  cg TP rs R T [.fn 183 [.ptr id 1 0 0]] (.pan (.iface 44 (.int .i64 e))) h:=by
 rw[jY];refine(Fp hid).mono λr u h' hr=>?_;obtain⟨rfl,rfl,rfl⟩:=hr;exact k
theorem yv{rs}{R}{T}{id}{h}(k:cg TP rs R T [] .ret h):cg TP rs R T [.fn 183 [.ptr id 1 0 0]] .ret h:=by
 rw[jY];refine L'.mono λr u h' hr=>?_;obtain⟨rfl,rfl,rfl⟩:=hr;exact k
def cn (s:Span) (lo hi:Int):Bool:=al s.lo lo hi&&al s.hi lo hi
def aL (s:Span):Bool:=decide (s.hi<s.lo)
def cj (before:List ByteArray) (x:Wick):Int:=
 if ak before x.name=0 then(if(al x.threads 1 100&&cn x.pull 1 1000)=true then(if aL x.pull=true then 2 else 0) else 7) else ak before x.name
def dm (before:List ByteArray) (x:Wax):Int:=
 if ak before x.name=0 then(if(al x.chill 0 50&&cn x.flow 1 300&&(cn x.rise 1 1000&&cn x.spread 1 2000))=true then(if(aL x.flow||(aL x.rise||aL x.spread))=true then 2 else 0) else 7) else ak before x.name
def dt (s:Shop):Option (Int×Int)->Int×Int×Int
 |some (i,e)=>(2,i,e)
 |none=>match firstErr dm (·.name) s.waxes []with|some (i,e)=>(3,i,e)|none=>(0,0,0)
def cf (s:Shop):Int×Int×Int:=
 if(al s.wicks.length 1 12&&al s.waxes.length 1 6)=true then
  if(cn s.flame 0 2000&&cn s.pool 0 2000)=true then
   if(aL s.flame||aL s.pool)=true then(1,0,2) else dt s (firstErr cj (·.name) s.wicks [])
  else(1,0,7)
 else(1,0,3)
theorem pj(s):af TP 124 [s.pv] (aj (cf s)):=by
 refine aa (ah Tryz.func124 rfl (by kernel_rfl)) rfl ?_;simp only[go_sem,simprocAttr];refine ae (eS 1 12 [_] true (by simp)) rfl ?_;simp only[bF,bp,cl,nM,go_sem,simprocAttr];cases h1:al s.wicks.length 1 12
 .simp only[go_sem,simprocAttr];refine au (λh=>(by cases h)) λ_=>?_;simp only[go_sem,simprocAttr];refine cZ rfl ?_;simp only[aj,cf,h1,go_sem,simprocAttr]
 simp only[go_sem,simprocAttr];refine ae (eS 1 6 [_] true (by simp)) rfl ?_;simp only[bF,bp,cl,nM,go_sem,simprocAttr];refine au (λh2=>?_) λh2=>?_;rotate_left
 .simp only[go_sem,simprocAttr];refine cZ rfl ?_;simp only[aj,cf,h1,h2,go_sem,simprocAttr]
 simp only[go_sem,simprocAttr];refine ae (eS 0 2000 [_,_,_,_] true (by simp)) rfl ?_;simp only[bF,bp,cl,<-iD,nM,go_sem,simprocAttr];refine au (λh3=>?_) λh3=>?_;rotate_left
 .simp only[go_sem,simprocAttr];refine cZ rfl ?_;have h3':(cn s.flame 0 2000&&cn s.pool 0 2000)=false:=by rw[<-h3];simp[cn,Bool.and_assoc]
  simp only[aj,cf,h1,h2,h3',go_sem,simprocAttr]
 have h3':(cn s.flame 0 2000&&cn s.pool 0 2000)=true:=by rw[<-h3];simp[cn,Bool.and_assoc]
 simp only[go_sem,simprocAttr];refine ae (w9 [s.flame,s.pool] true (by simp)) rfl ?_;simp only[bF,bp,cl,go_sem,simprocAttr];refine au (λh4=>?_) λh4=>?_;rotate_left
 .simp only[go_sem,simprocAttr];refine cZ rfl ?_;have h4':(aL s.flame||aL s.pool)=true:=(by have:=congrArg (!·) h4;simpa only[aL,nM,xZ]using this)
  simp only[aj,cf,h1,h2,h3',h4',go_sem,simprocAttr]
 have h4':(aL s.flame||aL s.pool)=false:=by simpa[aL]using h4
 have hspec:cf s=dt s (firstErr cj (·.name) s.wicks []):=by
  simp[cf,h1,h2,h3',h4']
 rw[hspec];have hlw:s.wicks.length<=12:=by simp[al]at h1;omega
 have hlx:s.waxes.length<=6:=by simp[al]at h2;omega
 simp only[go_sem,simprocAttr]
 refine fp [1,2,4,50,51] (σ:=List Wick×List Wick) (λq=>s.wicks=q.1++q.2/\firstErr cj (·.name) s.wicks []=firstErr cj (·.name) q.2 (q.1.map (·.name))) (λq=>q.2.length)
  (λq=>[(52,.p (.int .i64 q.1.length))]) (λ_=>[.row 6 [.p s.pv],.row 1 [.p (.int .i64 0)]]) ([],s.wicks) ⟨rfl,rfl⟩ ?_ ?_
 .simp only[go_sem,simprocAttr]<;>simp
 rintro⟨done,rest⟩ ⟨e1,e2⟩
 dsimp only at e1 e2
 cases rest with
 |cons x r=>
  obtain⟨hx,hlt⟩:=dZ e1;have hln:(done++[x]).length<=s.wicks.length:=by rw[e1];simp
  have hdl:done.length<12:=by simp at hln;omega
  have hnx:IntKind.i64.wrap ((done.length:Int)+1)=(((done++[x]).length:Nat):Int):=be (by omega) (by simp[ar];omega) (by simp);have hle:(((done++[x]).length:Nat):Int)<=(s.wicks.length:Int):=by omega
  have htk:(s.wicks.map Wick.pv).take (done++[x]).length=(done++[x]).map Wick.pv:=by
   rw[e1,show done++x::r=(done++[x])++r by simp,ca,jL (by simp)]
  have hE:firstErr cj (·.name) s.wicks []=if cj (done.map (·.name)) x=0 then firstErr cj (·.name) r ((done++[x]).map (·.name)) else some ((done.length:Int),cj (done.map (·.name)) x):=by
   rw[e2,firstErr];simp
  have fin:∀e,cj (done.map (·.name)) x=e->e≠0->dt s (firstErr cj (·.name) s.wicks [])=(2,(done.length:Int),e):=by
   intro e he hne;rw[hE,he,if_neg hne];rfl
  simp only[hlt,decide_true,hx,hnx,hle,wv,kL,htk,go_sem,simprocAttr];refine ae (Br done x false (by omega)) rfl ?_;simp only[go_sem,simprocAttr];refine au (λh5=>?_) λh5=>?_;rotate_left
  .simp only[go_sem,simprocAttr];refine cZ rfl ?_;have h5':ak (done.map (·.name)) x.name≠0:=by simpa using h5
   simp only[aj,fin _ (by rw[cj,if_neg h5']) h5',go_sem,simprocAttr]
  have h5':ak (done.map (·.name)) x.name=0:=by simpa using h5
  simp only[go_sem,simprocAttr];refine ae (eS 1 100 [_] true (by simp)) rfl ?_;simp only[bF,bp,cl,nM,go_sem,simprocAttr];cases h6:al x.threads 1 100
  .simp only[go_sem,simprocAttr];refine au (λh=>(by cases h)) λ_=>?_;simp only[go_sem,simprocAttr];refine cZ rfl ?_;simp only[aj,fin 7 (by simp[cj,h5',h6]) (by decide),go_sem,simprocAttr]
  simp only[go_sem,simprocAttr];refine ae (eS 1 1000 [_,_] true (by simp)) rfl ?_;simp only[bF,bp,cl,<-iD,nM,go_sem,simprocAttr];refine au (λh7=>?_) λh7=>?_;rotate_left
  .simp only[go_sem,simprocAttr];refine cZ rfl ?_;simp only[aj,fin 7 (by simp[cj,h5',h6,cn,h7]) (by decide),go_sem,simprocAttr]
  simp only[go_sem,simprocAttr];refine ae (w9 [x.pull] true (by simp)) rfl ?_;simp only[bF,bp,cl,go_sem,simprocAttr];refine au (λh8=>?_) λh8=>?_;rotate_left
  .simp only[go_sem,simprocAttr];refine cZ rfl ?_;simp only[aj,fin 2 (by simp only[Bool.not_eq_false']at h8;simp[cj,h5',h6,cn,h7,aL,h8]) (by decide),go_sem,simprocAttr]
  simp only[go_sem,simprocAttr];refine bY (done++[x],r) ⟨by simp[e1],?_⟩ (by simp) ?_
  .rw[hE,if_pos];simp only[yY]at h8;simp[cj,h5',h6,cn,h7,aL,h8]
  .simp only[hnx,h5',go_sem,simprocAttr]
 |nil=>
  have hlt:¬((done.length:Int)<(s.wicks.length:Int)):=by rw[e1];simp
  have hT:dt s (firstErr cj (·.name) s.wicks [])=dt s none:=by rw[e2];rfl
  rw[hT];simp only[hlt,decide_false,go_sem,simprocAttr]
  refine fp [1,2,4,93,94] (σ:=List Wax×List Wax) (λq=>s.waxes=q.1++q.2/\firstErr dm (·.name) s.waxes []=firstErr dm (·.name) q.2 (q.1.map (·.name))) (λq=>q.2.length)
   (λq=>[(95,.p (.int .i64 q.1.length))]) (λ_=>[.row 6 [.p s.pv],.row 1 [.p (.int .i64 0)]]) ([],s.waxes) ⟨rfl,rfl⟩ ?_ ?_
  .simp only[go_sem,simprocAttr]<;>simp
  clear e1 e2 hlt hT
  rintro⟨done,rest⟩ ⟨e1,e2⟩
  dsimp only at e1 e2
  cases rest with
  |cons x r=>
   obtain⟨hx,hlt⟩:=dZ e1;have hln:(done++[x]).length<=s.waxes.length:=by rw[e1];simp
   have hdl:done.length<12:=by simp at hln;omega
   have hnx:IntKind.i64.wrap ((done.length:Int)+1)=(((done++[x]).length:Nat):Int):=be (by omega) (by simp[ar];omega) (by simp);have hle:(((done++[x]).length:Nat):Int)<=(s.waxes.length:Int):=by omega
   have htk:(s.waxes.map Wax.pv).take (done++[x]).length=(done++[x]).map Wax.pv:=by
    rw[e1,show done++x::r=(done++[x])++r by simp,ca,jL (by simp)]
   have hE:firstErr dm (·.name) s.waxes []=if dm (done.map (·.name)) x=0 then firstErr dm (·.name) r ((done++[x]).map (·.name)) else some ((done.length:Int),dm (done.map (·.name)) x):=by
    rw[e2,firstErr];simp
   have fin:∀e,dm (done.map (·.name)) x=e->e≠0->dt s none=(3,(done.length:Int),e):=by
    intro e he hne;simp only[dt];rw[hE,he,if_neg hne]
   simp only[hlt,decide_true,hx,hnx,hle,wv,kL,htk,go_sem,simprocAttr];refine ae (Bq done x false (by omega)) rfl ?_;simp only[go_sem,simprocAttr];refine au (λh5=>?_) λh5=>?_;rotate_left
   .simp only[go_sem,simprocAttr];refine cZ rfl ?_;have h5':ak (done.map (·.name)) x.name≠0:=by simpa using h5
    simp only[aj,fin _ (by rw[dm,if_neg h5']) h5',go_sem,simprocAttr]
   have h5':ak (done.map (·.name)) x.name=0:=by simpa using h5
   simp only[go_sem,simprocAttr];refine ae (eS 0 50 [_] true (by simp)) rfl ?_;simp only[bF,bp,cl,nM,go_sem,simprocAttr];cases h6:al x.chill 0 50
   .simp only[go_sem,simprocAttr];refine au (λh=>(by cases h)) λ_=>?_;simp only[go_sem,simprocAttr];refine cZ rfl ?_;simp only[aj,fin 7 (by simp[dm,h5',h6]) (by decide),go_sem,simprocAttr]
   simp only[go_sem,simprocAttr];refine ae (eS 1 300 [_,_] true (by simp)) rfl ?_;simp only[bF,bp,cl,<-iD,nM,go_sem,simprocAttr];refine au (λh7=>?_) λh7=>?_;rotate_left
   .simp only[go_sem,simprocAttr];refine cZ rfl ?_;simp only[aj,fin 7 (by simp[dm,h5',h6,cn,h7]) (by decide),go_sem,simprocAttr]
   simp only[go_sem,simprocAttr];refine ae (eS 1 1000 [_,_] true (by simp)) rfl ?_;simp only[bF,bp,cl,<-iD,nM,go_sem,simprocAttr];cases h8:(al x.rise.lo 1 1000&&al x.rise.hi 1 1000)
   .simp only[go_sem,simprocAttr];refine au (λh=>(by cases h)) λ_=>?_;simp only[go_sem,simprocAttr];refine cZ rfl ?_;simp only[aj,fin 7 (by simp[dm,h5',h6,cn,h7,h8]) (by decide),go_sem,simprocAttr]
   simp only[go_sem,simprocAttr];refine ae (eS 1 2000 [_,_] true (by simp)) rfl ?_;simp only[bF,bp,cl,<-iD,nM,go_sem,simprocAttr];refine au (λh9=>?_) λh9=>?_;rotate_left
   .simp only[go_sem,simprocAttr];refine cZ rfl ?_;simp only[aj,fin 7 (by simp[dm,h5',h6,cn,h7,h8,h9]) (by decide),go_sem,simprocAttr]
   simp only[go_sem,simprocAttr];refine ae (w9 [x.flow,x.rise,x.spread] true (by simp)) rfl ?_;simp only[bF,bp,cl,go_sem,simprocAttr];refine au (λh10=>?_) λh10=>?_;rotate_left
   .simp only[go_sem,simprocAttr];refine cZ rfl ?_;simp only[aj,fin 2 (by simp only[Bool.not_eq_false']at h10;simp only[dm,h5',h6,cn,h7,h8,h9,aL,h10,mO,if_true]) (by decide),go_sem,simprocAttr]
   simp only[go_sem,simprocAttr];refine bY (done++[x],r) ⟨by simp[e1],?_⟩ (by simp) ?_
   .rw[hE,if_pos];simp only[yY]at h10;simp only[dm,h5',h6,cn,h7,h8,h9,aL,h10,mO,if_true,d4,if_false]
   .simp only[hnx,h5',go_sem,simprocAttr]
  |nil=>
   have hlt:¬((done.length:Int)<(s.waxes.length:Int)):=by rw[e1];simp
   simp only[hlt,decide_false,go_sem,simprocAttr];refine yv ?_;have hT:dt s none=(0,0,0):=by
    simp only[dt];rw[e2];rfl
   simp only[aj,hT,go_sem,simprocAttr]
theorem o8(s)(a b):dj s.lo s.hi a b=if cn s a b=true then(if aL s=true then 2 else 0) else 7:=by
 unfold dj cn aL;cases al s.lo a b<;>cases al s.hi a b<;>simp
def jz:List (Span×Int×Int)->Int->Int
 |[],w=>w
 |q::r,w=>jz r (if(dj q.1.lo q.1.hi q.2.1 q.2.2==7||w==0)=true then dj q.1.lo q.1.hi q.2.1 q.2.2 else w)
theorem Mp(l)(b1 b2 b3)(hl:l.length<1000000) :
  af TP 58 [.slice 2 (l.map λq=>q.1.pv) b1,.slice 1 (l.map λq=>aG q.2.1) b2,.slice 1 (l.map λq=>aG q.2.2) b3] (.int .i64 (jz l 0)):=by
 refine aa (ah Tryz.func58 rfl (by kernel_rfl)) rfl ?_;simp only[go_sem,simprocAttr];refine BJ [0,1,2] (σ:=List (Span×Int×Int)×List (Span×Int×Int)×Int) (λq=>l=q.1++q.2.1/\jz l 0=jz q.2.1 q.2.2) (λq=>q.2.1.length) (λq=>[(7,.p (.int .i64 q.2.2)),(8,.p (.int .i64 q.1.length))]) ([],l,0) ⟨rfl,rfl⟩ ?_ ?_
 .simp only[go_sem,simprocAttr]<;>simp
 rintro⟨done,rest,w⟩ ⟨e1,e2⟩
 dsimp only at e1 e2
 cases rest with
 |nil=>
  have hlt:¬((done.length:Int)<(l.length:Int)):=by rw[e1];simp
  simp only[hlt,decide_false,go_sem,simprocAttr]
  rw[e2];rfl
 |cons x r=>
  obtain⟨hx,hlt⟩:=dZ e1;have hnx:IntKind.i64.wrap ((done.length:Int)+1)=(((done++[x]).length:Nat):Int):=be (by omega) (by simp[ar];omega) (by simp);rw[jz]at e2;simp only[hlt,decide_true,hx,go_sem,simprocAttr];refine ay (oF _ _ _ _) rfl ?_;simp only[go_sem,simprocAttr];cases h7:(dj x.1.lo x.1.hi x.2.1 x.2.2==7)
  .simp only[go_sem,simprocAttr];cases h0:(w==0)
   .simp only[go_sem,simprocAttr];refine bY (done++[x],r,w) ⟨by simp[e1],by rw[e2,h7,h0];rfl⟩ (by simp) ?_;simp only[hnx,go_sem,simprocAttr]
   .simp only[go_sem,simprocAttr];refine bY (done++[x],r,dj x.1.lo x.1.hi x.2.1 x.2.2) ⟨by simp[e1],by rw[e2,h7,h0];rfl⟩ (by simp) ?_;simp only[hnx,go_sem,simprocAttr]
  .simp only[go_sem,simprocAttr];refine bY (done++[x],r,dj x.1.lo x.1.hi x.2.1 x.2.2) ⟨by simp[e1],by rw[e2,h7];rfl⟩ (by simp) ?_;simp only[hnx,go_sem,simprocAttr]
theorem SV(a b)(x1 y1 x2 y2):jz [(a,x1,y1),(b,x2,y2)] 0=if(cn a x1 y1&&cn b x2 y2)=true then(if(aL a||aL b)=true then 2 else 0) else 7:=by
 simp only[jz,o8];cases cn a x1 y1<;>cases cn b x2 y2<;>cases aL a<;>cases aL b<;>rfl
theorem SU(a b c)(x1 y1 x2 y2 x3 y3):jz [(a,x1,y1),(b,x2,y2),(c,x3,y3)] 0 =
  if(cn a x1 y1&&(cn b x2 y2&&cn c x3 y3))=true then(if(aL a||(aL b||aL c))=true then 2 else 0) else 7:=by
 simp only[jz,o8];cases cn a x1 y1<;>cases cn b x2 y2<;>cases cn c x3 y3<;>cases aL a<;>cases aL b<;>cases aL c<;>rfl
theorem ph(s):af TP 15 [s.pv] (aj (cf s)):=by
 refine aa (ah Tryz.func15 rfl (by kernel_rfl)) rfl ?_;simp only[go_sem,simprocAttr];refine ae (J3 _ _ _) rfl ?_;simp only[go_sem,simprocAttr];cases h1:al s.wicks.length 1 12
 .simp only[aj,cf,h1,go_sem,simprocAttr]
 simp only[go_sem,simprocAttr];refine ae (J3 _ _ _) rfl ?_;simp only[go_sem,simprocAttr];cases h2:al s.waxes.length 1 6
 .simp only[aj,cf,h1,h2,go_sem,simprocAttr]
 simp only[go_sem,simprocAttr];refine ae (Mp [(s.flame,0,2000),(s.pool,0,2000)] true true true (by simp)) rfl ?_;simp only[go_sem,simprocAttr];rw[SV];cases h3:(cn s.flame 0 2000&&cn s.pool 0 2000)
 .simp only[aj,cf,h1,h2,h3,go_sem,simprocAttr]
 cases h4:(aL s.flame||aL s.pool)
 rotate_left
 .simp only[aj,cf,h1,h2,h3,h4,go_sem,simprocAttr]
 have hspec:cf s=dt s (firstErr cj (·.name) s.wicks []):=by
  simp[cf,h1,h2,h3,h4]
 rw[hspec];have hlw:s.wicks.length<=12:=by simp[al]at h1;omega
 have hlx:s.waxes.length<=6:=by simp[al]at h2;omega
 simp only[go_sem,simprocAttr];refine ck 6 1 (by simp only[go_sem,simprocAttr]) ?_;simp only[go_sem,simprocAttr]
 refine fp [1] (σ:=List Wick×List Wick) (λq=>s.wicks=q.1++q.2/\firstErr cj (·.name) s.wicks []=firstErr cj (·.name) q.2 (q.1.map (·.name))) (λq=>q.2.length)
  (λq=>[(6,.slice 1 q.1.length 0 q.1.length),(7,.p (.int .i64 q.1.length))]) (λq=>[.row 6 [.p s.pv],.row 1 (q.1.map λx=>.p (.str x.name))]) ([],s.wicks) ⟨rfl,rfl⟩ ?_ ?_
 .simp only[go_sem,simprocAttr]<;>simp
 rintro⟨done,rest⟩ ⟨e1,e2⟩
 dsimp only at e1 e2
 cases rest with
 |cons x r=>
  obtain⟨hx,hlt⟩:=dZ e1;have hln:(done++[x]).length<=s.wicks.length:=by rw[e1];simp
  have hdl:done.length<12:=by simp at hln;omega
  have hnx:IntKind.i64.wrap ((done.length:Int)+1)=(((done++[x]).length:Nat):Int):=be (by omega) (by simp[ar];omega) (by simp);have hrm:done.length+1<=ar:=by simp[ar];omega
  have hE:firstErr cj (·.name) s.wicks []=if cj (done.map (·.name)) x=0 then firstErr cj (·.name) r ((done++[x]).map (·.name)) else some ((done.length:Int),cj (done.map (·.name)) x):=by
   rw[e2,firstErr];simp
  have fin:∀e,cj (done.map (·.name)) x=e->e≠0->dt s (firstErr cj (·.name) s.wicks [])=(2,(done.length:Int),e):=by
   intro e he hne;rw[hE,he,if_neg hne];rfl
  simp only[hlt,decide_true,hx,go_sem,simprocAttr];refine aY (je x.name (done.map (·.name)) false (done.map λx=>.str x.name) (by simp) (by simp;omega)) ?_ (.int _ _) ?_
  .simp only[go_sem,simprocAttr]
  simp only[hrm,go_sem,simprocAttr];cases h5:(ak (done.map (·.name)) x.name==0)
  .have h5':ak (done.map (·.name)) x.name≠0:=by simpa using h5
   have h5n:(ak (done.map (·.name)) x.name != 0)=true:=by simp[bne,h5]
   simp only[h5,h5n,aj,fin _ (by rw[cj,if_neg h5']) h5',go_sem,simprocAttr]
  have h5':ak (done.map (·.name)) x.name=0:=by simpa using h5
  simp only[go_sem,simprocAttr];refine ae (J3 _ _ _) rfl ?_;simp only[go_sem,simprocAttr];cases h6:al x.threads 1 100
  .simp only[aj,fin 7 (by simp[cj,h5',h6]) (by decide),go_sem,simprocAttr]
  simp only[h5,go_sem,simprocAttr];refine ae (oF _ _ _ _) rfl ?_;simp only[go_sem,simprocAttr];have hw:cj (done.map (·.name)) x=dj x.pull.lo x.pull.hi 1 1000:=by rw[o8];simp[cj,h5',h6]
  cases h7:(dj x.pull.lo x.pull.hi 1 1000 != 0)
  .simp only[go_sem,simprocAttr];refine bY (done++[x],r) ⟨by simp[e1],?_⟩ (by simp) ?_
   .rw[hE,if_pos];rw[hw];simpa using h7
   .simp only[hnx,aK,ca,go_sem,simprocAttr]
  .simp only[aj,fin _ hw (by simpa using h7),go_sem,simprocAttr]
 |nil=>
  have hlt:¬((done.length:Int)<(s.wicks.length:Int)):=by rw[e1];simp
  have hT:dt s (firstErr cj (·.name) s.wicks [])=dt s none:=by rw[e2];rfl
  have hdone:done=s.wicks:=by rw[e1];simp
  rw[hT];simp only[hlt,decide_false,go_sem,simprocAttr];refine ck 6 1 (by simp only[go_sem,simprocAttr]) ?_;simp only[go_sem,simprocAttr]
  refine fp [1] (σ:=List Wax×List Wax) (λq=>s.waxes=q.1++q.2/\firstErr dm (·.name) s.waxes []=firstErr dm (·.name) q.2 (q.1.map (·.name))) (λq=>q.2.length)
   (λq=>[(6,.slice 2 q.1.length 0 q.1.length),(9,.p (.int .i64 q.1.length))]) (λq=>[.row 6 [.p s.pv],.row 1 (done.map λx=>.p (.str x.name)),.row 1 (q.1.map λx=>.p (.str x.name))]) ([],s.waxes) ⟨rfl,rfl⟩ ?_ ?_
  .simp only[go_sem,simprocAttr]<;>simp
  generalize done=dw;clear e1 e2 hlt hT hdone
  rintro⟨done,rest⟩ ⟨e1,e2⟩
  dsimp only at e1 e2
  cases rest with
  |cons x r=>
   obtain⟨hx,hlt⟩:=dZ e1;have hln:(done++[x]).length<=s.waxes.length:=by rw[e1];simp
   have hdl:done.length<12:=by simp at hln;omega
   have hnx:IntKind.i64.wrap ((done.length:Int)+1)=(((done++[x]).length:Nat):Int):=be (by omega) (by simp[ar];omega) (by simp);have hrm:done.length+1<=ar:=by simp[ar];omega
   have hE:firstErr dm (·.name) s.waxes []=if dm (done.map (·.name)) x=0 then firstErr dm (·.name) r ((done++[x]).map (·.name)) else some ((done.length:Int),dm (done.map (·.name)) x):=by
    rw[e2,firstErr];simp
   have fin:∀e,dm (done.map (·.name)) x=e->e≠0->dt s none=(3,(done.length:Int),e):=by
    intro e he hne;simp only[dt];rw[hE,he,if_neg hne]
   simp only[hlt,decide_true,hx,go_sem,simprocAttr];refine aY (je x.name (done.map (·.name)) false (done.map λx=>.str x.name) (by simp) (by simp;omega)) ?_ (.int _ _) ?_
   .simp only[go_sem,simprocAttr]
   simp only[hrm,go_sem,simprocAttr];cases h5:(ak (done.map (·.name)) x.name==0)
   .have h5':ak (done.map (·.name)) x.name≠0:=by simpa using h5
    have h5n:(ak (done.map (·.name)) x.name != 0)=true:=by simp[bne,h5]
    simp only[h5,h5n,aj,fin _ (by rw[dm,if_neg h5']) h5',go_sem,simprocAttr]
   have h5':ak (done.map (·.name)) x.name=0:=by simpa using h5
   simp only[go_sem,simprocAttr];refine ae (J3 _ _ _) rfl ?_;simp only[go_sem,simprocAttr];cases h6:al x.chill 0 50
   .simp only[aj,fin 7 (by simp[dm,h5',h6]) (by decide),go_sem,simprocAttr]
   simp only[h5,go_sem,simprocAttr];refine ae (Mp [(x.flow,1,300),(x.rise,1,1000),(x.spread,1,2000)] true true true (by simp)) rfl ?_;simp only[go_sem,simprocAttr];have hw:dm (done.map (·.name)) x=jz [(x.flow,1,300),(x.rise,1,1000),(x.spread,1,2000)] 0:=by rw[SU];simp[dm,h5',h6]
   cases h7:(jz [(x.flow,1,300),(x.rise,1,1000),(x.spread,1,2000)] 0 != 0)
   .simp only[go_sem,simprocAttr];refine bY (done++[x],r) ⟨by simp[e1],?_⟩ (by simp) ?_
    .rw[hE,if_pos];rw[hw];simpa using h7
    .simp only[hnx,aK,ca,go_sem,simprocAttr]
   .simp only[aj,fin _ hw (by simpa using h7),go_sem,simprocAttr]
  |nil=>
   have hlt:¬((done.length:Int)<(s.waxes.length:Int)):=by rw[e1];simp
   simp only[hlt,decide_false,go_sem,simprocAttr];have hT:dt s none=(0,0,0):=by
    simp only[dt];rw[e2];rfl
   simp only[aj,hT,go_sem,simprocAttr]
end Wk
end Abs
end Go.Proofs.YtnjiadikeacfaaaGreatDoor
