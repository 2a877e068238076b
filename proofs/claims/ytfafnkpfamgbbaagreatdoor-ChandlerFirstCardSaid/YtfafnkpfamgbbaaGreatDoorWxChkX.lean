/-
  CONTRACTS: wax.Check, in the program and in the reference: both come to 'wxCheck'. No cond
  LAWS: builders of one's own: what is written into them, what they are read as. No conditio
  LAWS: iterators with memory of their own that yield immutable values. No conditions but th
-/
import Derived.Test.YtfafnkpfamgbbaaGreatDoorAbsCutX
import Derived.Test.YtfafnkpfamgbbaaGreatDoorLibNameX
import Derived.Test.YtfafnkpfamgbbaaGreatDoorClGoX
import Derived.Test.YtfafnkpfamgbbaaGreatDoorAbsKill
import Derived.Lib.UnsafeStr
set_option linter.unusedSimpArgs false
set_option linter.unusedVariables false
open Go.Proofs.Tryz renaming prog->TP
namespace Go.Proofs.YtfafnkpfamgbbaaGreatDoor
namespace Abs
namespace Wx
set_option maxRecDepth 4000
theorem yN (lo hi n):ah TP 205 [.int .i64 n,.ptr 1 [.int .i64 lo] 0 0,.ptr 1 [.int .i64 hi] 0 0] (.bool (!az n lo hi)):=by
 refine aa (ai (by kernel_rfl) rfl UY) rfl ?_;simp only [go_sem,simprocAttr];refine aW (λhb=>?_) (λhb=>?_)<;>simp only [hb,go_sem,simprocAttr]<;>simp_all [az];rw [<-decide_not];congr 1;simp
theorem eb (lo hi) (l:List Int) (b) (hl:l.length<1000000000):ah TP 137 [.int .i64 lo,.int .i64 hi,.slice 1 (l.map aJ) b] (.bool (l.any λn=>!az n lo hi)):=by
 refine aa (ai (by kernel_rfl) rfl VK) rfl ?_;simp only [go_sem,simprocAttr];refine bh (i6 (fv:=.func (.func 205) [] [.ptr 1 [.int .i64 lo] 0 0,.ptr 1 [.int .i64 hi] 0 0]) l (λn=>!az n lo hi) b 1 rfl hl λn _=>⟨_,_,_,rfl,yN lo hi n⟩) ?_ (.bool _) ?_
 .simp only [go_sem,simprocAttr]
 .simp only [go_sem,simprocAttr]
theorem uG (x:WxProp):ah TP 139 [x.pv] (.str x.name):=by
 refine aa (ai (by kernel_rfl) rfl VI) rfl ?_;simp only [go_sem,simprocAttr]
theorem DO (s) (x:WxProp):ah TP 207 [x.pv,.ptr 1 [.func (.func 139) [] []] 0 0,.ptr 1 [.str s] 0 0] (.bool (x.name==s)):=by
 refine aa (ai (by kernel_rfl) rfl UW) rfl ?_;simp only [go_sem,simprocAttr];refine aC (uG x) rfl ?_;simp only [go_sem,simprocAttr]
theorem zQ (l) (x) (b) (hl:l.length<1000000):ah TP 138 [.slice 2 ((l++[x]).map WxProp.pv) b,.func (.func 139) [] []] (.int .i64 (aA (l.map (·.name)) x.name)):=by
 have hw:IntKind.i64.wrap ((((l++[x]).length:Nat):Int)-1)=((l.length:Nat):Int):=by
  rw [dj (by simp<;>omega) (by simp [aB]<;>omega)];simp
 have hx:(l++[x])[l.length]?=some x:=by simp
 have hlt:((l.length:Nat):Int)<(((l++[x]).length:Nat):Int):=by simp<;>omega
 have hle:((l.length:Nat):Int)<=(((l++[x]).length:Nat):Int):=by omega
 have htk:((l++[x]).map WxProp.pv).take l.length=l.map WxProp.pv:=by rw [cp,fD (by simp)]
 have hfl:(l.length==(l++[x]).length)=false:=by simp
 refine aa (ai (by kernel_rfl) rfl VJ) rfl ?_;simp only [hw,hx,hlt,go_sem,simprocAttr];refine aC (uG x) rfl ?_;simp only [go_sem,simprocAttr];refine ae (iM x.name) rfl ?_;simp only [go_sem,simprocAttr];cases hn:nameOk x.name
 .simp only [go_sem,simprocAttr];simp [aA,hn]
 .simp only [hle,htk,hfl,go_sem,simprocAttr];refine bh (zV (fv:=.func (.func 207) [] [.ptr 1 [.func (.func 139) [] []] 0 0,.ptr 1 [.str x.name] 0 0]) l (λy=>y.name==x.name) false 2 rfl (by omega) λy _=>⟨_,_,_,rfl,DO x.name y⟩) ?_ (.bool _) ?_
  .simp only [go_sem,simprocAttr]
  simp only [go_sem,simprocAttr];refine aW (λhb=>?_) (λhb=>?_)<;>simp only [hb,go_sem,simprocAttr]
  .simp only [aA,hn,ly,lK,hb,if_true]
  .simp only [aA,hn,ly,lK,hb,if_true,fa,if_false]
theorem uF (x:WxKind):ah TP 141 [x.pv] (.str x.name):=by
 refine aa (ai (by kernel_rfl) rfl VG) rfl ?_;simp only [go_sem,simprocAttr]
theorem DN (s) (x:WxKind):ah TP 209 [x.pv,.ptr 1 [.func (.func 141) [] []] 0 0,.ptr 1 [.str s] 0 0] (.bool (x.name==s)):=by
 refine aa (ai (by kernel_rfl) rfl UU) rfl ?_;simp only [go_sem,simprocAttr];refine aC (uF x) rfl ?_;simp only [go_sem,simprocAttr]
theorem zP (l) (x) (b) (hl:l.length<1000000):ah TP 140 [.slice 2 ((l++[x]).map WxKind.pv) b,.func (.func 141) [] []] (.int .i64 (aA (l.map (·.name)) x.name)):=by
 have hw:IntKind.i64.wrap ((((l++[x]).length:Nat):Int)-1)=((l.length:Nat):Int):=by
  rw [dj (by simp<;>omega) (by simp [aB]<;>omega)];simp
 have hx:(l++[x])[l.length]?=some x:=by simp
 have hlt:((l.length:Nat):Int)<(((l++[x]).length:Nat):Int):=by simp<;>omega
 have hle:((l.length:Nat):Int)<=(((l++[x]).length:Nat):Int):=by omega
 have htk:((l++[x]).map WxKind.pv).take l.length=l.map WxKind.pv:=by rw [cp,fD (by simp)]
 have hfl:(l.length==(l++[x]).length)=false:=by simp
 refine aa (ai (by kernel_rfl) rfl VH) rfl ?_;simp only [hw,hx,hlt,go_sem,simprocAttr];refine aC (uF x) rfl ?_;simp only [go_sem,simprocAttr];refine ae (iM x.name) rfl ?_;simp only [go_sem,simprocAttr];cases hn:nameOk x.name
 .simp only [go_sem,simprocAttr];simp [aA,hn]
 .simp only [hle,htk,hfl,go_sem,simprocAttr];refine bh (zU (fv:=.func (.func 209) [] [.ptr 1 [.func (.func 141) [] []] 0 0,.ptr 1 [.str x.name] 0 0]) l (λy=>y.name==x.name) false 2 rfl (by omega) λy _=>⟨_,_,_,rfl,DN x.name y⟩) ?_ (.bool _) ?_
  .simp only [go_sem,simprocAttr]
  simp only [go_sem,simprocAttr];refine aW (λhb=>?_) (λhb=>?_)<;>simp only [hb,go_sem,simprocAttr]
  .simp only [aA,hn,ly,lK,hb,if_true]
  .simp only [aA,hn,ly,lK,hb,if_true,fa,if_false]
def pO (p:WxProp):Int:=if az p.error 0 10000=true then 0 else 7
def u9 (s:Span):Bool:=az s.lo 0 100000&&az s.hi 0 100000
def jr (many:Nat) (k:WxKind):Int:=if k.props.length=many then (if (k.props.any λs=>!u9 s)=true then 7 else if (k.props.any λs=>decide (s.hi<s.lo))=true then 2 else 0) else 3
def du (before:List ByteArray) (p:WxProp):Int:=if aA before p.name=0 then pO p else aA before p.name
def kindErr (many:Nat) (before:List ByteArray) (k:WxKind):Int:=if aA before k.name=0 then jr many k else aA before k.name
def tail (t:WxTable):Option (Int×Int)->Int×Int×Int
 |some (i,e)=>(2,i,e)
 |none=>match firstErr (kindErr t.props.length) (·.name) t.kinds [] with | some (i,e)=>(3,i,e) | none=>(0,0,0)
def wxCheck (t:WxTable):Int×Int×Int :=
 if (az t.props.length 1 5&&az t.kinds.length 1 8)=true then
  if az t.purity 1 1000=true then tail t (firstErr du (·.name) t.props []) else (1,0,7)
 else (1,0,3)
theorem Oh {t} {done r} {x} (e2:firstErr du (·.name) t.props []=firstErr du (·.name) (x::r) (done.map (·.name))) :
  (du (done.map (·.name)) x=0->firstErr du (·.name) t.props []=firstErr du (·.name) r ((done++[x]).map (·.name))) /\
  ∀ e,du (done.map (·.name)) x=e->e≠0->tail t (firstErr du (·.name) t.props [])=(2,(done.length:Int),e):=by
 have hE:firstErr du (·.name) t.props []=if du (done.map (·.name)) x=0 then firstErr du (·.name) r ((done++[x]).map (·.name)) else some ((done.length:Int),du (done.map (·.name)) x):=by
  rw [e2,firstErr];simp
 exact ⟨λh=>by rw [hE,if_pos h],λe he hne=>by rw [hE,he,if_neg hne];rfl⟩
theorem OD {t} {done r} {x} (e2:firstErr (kindErr t.props.length) (·.name) t.kinds []=firstErr (kindErr t.props.length) (·.name) (x::r) (done.map (·.name))) :
  (kindErr t.props.length (done.map (·.name)) x=0->firstErr (kindErr t.props.length) (·.name) t.kinds []=firstErr (kindErr t.props.length) (·.name) r ((done++[x]).map (·.name))) /\
  ∀ e,kindErr t.props.length (done.map (·.name)) x=e->e≠0->tail t none=(3,(done.length:Int),e):=by
 have hE:firstErr (kindErr t.props.length) (·.name) t.kinds []=if kindErr t.props.length (done.map (·.name)) x=0 then firstErr (kindErr t.props.length) (·.name) r ((done++[x]).map (·.name)) else some ((done.length:Int),kindErr t.props.length (done.map (·.name)) x):=by
  rw [e2,firstErr];simp
 exact ⟨λh=>by rw [hE,if_pos h],λe he hne=>by simp only [tail];rw [hE,he,if_neg hne]⟩
theorem Wt (s):ah TP 143 [s.pv] (.bool (!u9 s)):=by
 refine aa (ai (by kernel_rfl) rfl VE) rfl ?_;simp only [go_sem,simprocAttr];refine ae (eb 0 100000 [_,_] true (by simp)) rfl ?_;simp only [bg,bj,ca,<-j4,u9,go_sem,simprocAttr]
theorem Ws (s:Span):ah TP 144 [s.pv] (.bool (decide (s.hi<s.lo))):=by
 refine aa (ai (by kernel_rfl) rfl VD) rfl ?_;simp only [go_sem,simprocAttr]
set_option maxHeartbeats 1000000 in
theorem oa (t):ah TP 89 [t.pv] (aE (wxCheck t)):=by
 refine aa (ai (by kernel_rfl) rfl YB) rfl ?_;simp only [go_sem,simprocAttr];refine ae (eb 1 5 [_] true (by simp)) rfl ?_;simp only [bg,bj,ca,go_sem,simprocAttr];cases h1:az t.props.length 1 5
 .simp only [aE,wxCheck,h1,go_sem,simprocAttr]
 simp only [go_sem,simprocAttr];refine ae (eb 1 8 [_] true (by simp)) rfl ?_;simp only [bg,bj,ca,go_sem,simprocAttr];cases h2:az t.kinds.length 1 8
 .simp only [aE,wxCheck,h1,h2,go_sem,simprocAttr]
 simp only [go_sem,simprocAttr];refine ae (eb 1 1000 [_] true (by simp)) rfl ?_;simp only [bg,bj,ca,go_sem,simprocAttr];cases h3:az t.purity 1 1000
 .simp only [aE,wxCheck,h1,h2,h3,go_sem,simprocAttr]
 have hspec:wxCheck t=tail t (firstErr du (·.name) t.props []):=by simp only [wxCheck,h1,h2,h3,y8,if_true]
 rw [hspec];have hlp:t.props.length<=5:=by simp [az] at h1;omega
 have hlk:t.kinds.length<=8:=by simp [az] at h2;omega
 simp only [go_sem,simprocAttr]
 refine bT [1,28,29] t.props (by omega) (τ:=Unit) (λdone rest _=>firstErr du (·.name) t.props []=firstErr du (·.name) rest (done.map (·.name)))
  (λdone _=>[(30,.p (.int .i64 done.length)),(4,.p (.int .i64 0))]) (λ_ _=>[.row 3 [.p t.pv]]) () rfl ?_ ?_ ?_
 .simp only [go_sem,simprocAttr]<;>simp
 .intro _ e2;have hT:tail t (firstErr du (·.name) t.props [])=tail t none:=by rw [e2];rfl
  rw [hT];simp only [go_sem,simprocAttr]
  refine bT [1,52,53] t.kinds (by omega) (τ:=Unit) (λdone rest _=>firstErr (kindErr t.props.length) (·.name) t.kinds []=firstErr (kindErr t.props.length) (·.name) rest (done.map (·.name)))
   (λdone _=>[(54,.p (.int .i64 done.length)),(4,.p (.int .i64 0))]) (λ_ _=>[.row 3 [.p t.pv]]) () rfl ?_ ?_ ?_
  .simp only [go_sem,simprocAttr]<;>simp
  .intro _ e2;have hT:tail t none=(0,0,0):=by
    simp only [tail];rw [e2];rfl
   simp only [aE,hT,go_sem,simprocAttr]
  .intro done x r _ e1 e2 hx hlt hnx;obtain ⟨go,fin⟩:=OD e2;have hle:(((done++[x]).length:Nat):Int)<=(t.kinds.length:Int):=by rw [e1];simp<;>omega
   have htk:(t.kinds.map WxKind.pv).take (done++[x]).length=(done++[x]).map WxKind.pv:=by
    rw [e1,show done++x::r=(done++[x])++r by simp,cp,fD (by simp)]
   have hdl:done.length<1000000:=by have:=congrArg List.length e1;simp at this;omega
   simp only [hlt,hx,hnx,hle,htk,go_sem,simprocAttr];refine ae (zP done x false hdl) rfl ?_;simp only [go_sem,simprocAttr];cases h5:(aA (done.map (·.name)) x.name != 0)
   rotate_left
   .have h5':aA (done.map (·.name)) x.name≠0:=by simpa using h5
    simp only [aE,fin _ (by rw [kindErr,if_neg h5']) h5',go_sem,simprocAttr]
   have h5':aA (done.map (·.name)) x.name=0:=by simpa using h5
   have hb:kindErr t.props.length (done.map (·.name)) x=jr t.props.length x:=by rw [kindErr,if_pos h5']
   simp only [go_sem,simprocAttr];cases h6:((x.props.length:Int) != (t.props.length:Int))
   rotate_left
   .have h6':¬ x.props.length=t.props.length:=by simp at h6;omega
    simp only [aE,fin 3 (by rw [hb,jr,if_neg h6']) (by decide),go_sem,simprocAttr]
   have h6':x.props.length=t.props.length:=by simp at h6;omega
   simp only [go_sem,simprocAttr];refine ae (np (fv:=.func (.func 143) [] []) x.props (λs=>!u9 s) false 2 rfl (by omega) λs _=>⟨_,_,_,rfl,Wt s⟩) rfl ?_;simp only [go_sem,simprocAttr];cases h7:(x.props.any λs=>!u9 s)
   rotate_left
   .simp only [aE,fin 7 (by rw [hb,jr,if_pos h6',h7];rfl) (by decide),go_sem,simprocAttr]
   simp only [go_sem,simprocAttr];refine ae (np (fv:=.func (.func 144) [] []) x.props (λs=>decide (s.hi<s.lo)) false 2 rfl (by omega) λs _=>⟨_,_,_,rfl,Ws s⟩) rfl ?_;simp only [go_sem,simprocAttr];cases h8:(x.props.any λs=>decide (s.hi<s.lo))
   rotate_left
   .simp only [aE,fin 2 (by rw [hb,jr,if_pos h6',h7,h8];rfl) (by decide),go_sem,simprocAttr]
   simp only [h5',go_sem,simprocAttr];refine aL e1 () (go (by rw [hb,jr,if_pos h6',h7,h8];rfl)) ?_;simp only [hnx,go_sem,simprocAttr]
 .intro done x r _ e1 e2 hx hlt hnx;obtain ⟨go,fin⟩:=Oh e2;have hle:(((done++[x]).length:Nat):Int)<=(t.props.length:Int):=by rw [e1];simp<;>omega
  have htk:(t.props.map WxProp.pv).take (done++[x]).length=(done++[x]).map WxProp.pv:=by
   rw [e1,show done++x::r=(done++[x])++r by simp,cp,fD (by simp)]
  have hdl:done.length<1000000:=by have:=congrArg List.length e1;simp at this;omega
  simp only [hlt,hx,hnx,hle,htk,go_sem,simprocAttr];refine ae (zQ done x false hdl) rfl ?_;simp only [go_sem,simprocAttr];cases h5:(aA (done.map (·.name)) x.name != 0)
  rotate_left
  .have h5':aA (done.map (·.name)) x.name≠0:=by simpa using h5
   simp only [aE,fin _ (by rw [du,if_neg h5']) h5',go_sem,simprocAttr]
  have h5':aA (done.map (·.name)) x.name=0:=by simpa using h5
  have hb:du (done.map (·.name)) x=pO x:=by rw [du,if_pos h5']
  simp only [go_sem,simprocAttr];refine ae (eb 0 10000 [_] true (by simp)) rfl ?_;simp only [bg,bj,ca,go_sem,simprocAttr];cases h6:az x.error 0 10000
  .simp only [aE,fin 7 (by rw [hb,pO,h6];rfl) (by decide),go_sem,simprocAttr]
  simp only [h5',go_sem,simprocAttr];refine aL e1 () (go (by rw [hb,pO,h6];rfl)) ?_;simp only [hnx,go_sem,simprocAttr]
end Wx
variable {P:Program} {M0:Nat->Prop}
structure OnlyB (b:Nat) (w w':World):Prop where
 os:w'.os=w.os
 tape:w'.tape=w.tape
 output:w'.output=w.output
 size:w'.heap.size=w.heap.size
 block:∀ k,k≠b->w'.heap[k]?=w.heap[k]?
theorem OnlyB.refl (b) (w):OnlyB b w w:=⟨rfl,rfl,rfl,rfl,λ_ _=>rfl⟩
theorem ll (w) (b i) (v):OnlyB b w (w.setCell ⟨b,i,none⟩ v) :=
 ⟨rfl,rfl,rfl,by simp [World.setCell],λk hk=>Go.RowKit.Below.heap_setCell _ _ _ _ hk⟩
theorem yV {S} (hS:HOk P M0 S) {i b} {T e} {x x'} {p p' v v'} {w'} (hid:S.h[i]?=some (.bld T e x)) (hm:S.m.getD i none=some b)
  (hb:S.w.heap[b]?=some (.cells #[p,v] T (0,0))) (hw:OnlyB b S.w w') (hb':w'.heap[b]?=some (.cells #[p',v'] T (0,0))) (hp:p'=.pointer none\/p'=.pointer (some ⟨b,0,none⟩))
  (hx:x'=.p .nilslice\/∃ j n,x'=.slice j n 0 n) (hr:ck M0 S v' x') (hs:∀ a n c,v'=.slice (some a) n c->∃ N,S.w.shape? a.block=some (e,N)) :
  HOk P M0 ⟨S.m,S.h.set i (.bld T e x'),w'⟩/\Ev S.h.length S ⟨S.m,S.h.set i (.bld T e x'),w'⟩:=by
 have hidlt:=(ar.1 hid).1;have hown:Own S.m b:=aI (cc hm);have hsh:∀ c,w'.shape? c=S.w.shape? c:=by
  intro c;by_cases hc:c=b
  .subst hc;simp [World.shape?,hb,hb']
  .simp only [World.shape?,hw.block c hc]
 have he:Ev S.h.length S ⟨S.m,S.h.set i (.bld T e x'),w'⟩ :=
  {fr:=⟨hw.os,hw.tape,hw.output,GS hw.size.symm,λc _ hn=>hw.block c (λh=>hn (h▸hown)),λc _=>hsh c⟩
   sub:=λc h=>.inl h
   obj:=λy oy hy hoy=>by
    by_cases hyi:y=i
    .subst hyi;rw [hid] at hoy;cases hoy;exact ⟨.bld T e x',by simp [hidlt],.inr (.inr ⟨by simp [AObj.tag],rfl,rfl⟩)⟩
    .exact ⟨oy,by simp [cw (Ne.symm hyi),hoy],ObjEv.refl _ _⟩ }
 refine ⟨?_,he⟩
 exact
  {len:=by simpa using hS.len
   lt:=λc h=>iH (hS.lt c h) he.fr.size
   m0:=λc h=>⟨iH (hS.m0 c h).1 he.fr.size,(hS.m0 c h).2⟩
   inj:=hS.inj
   gl:=he.glob hS.gl
   obj:=λy oy hoy=>by
    by_cases hyi:y=i
    .subst hyi;have hoy':(S.h.set y (.bld T e x'))[y]?=some oy:=hoy;rw [gX hidlt] at hoy';cases hoy';exact ⟨b,p',v',hm,hb',hp,hx,he.rep0 hr (fA hr),λa n c hv=>let ⟨N,hN⟩:=hs a n c hv;⟨N,(hsh _).trans hN⟩⟩
    .have hoy':(S.h.set i (.bld T e x'))[y]?=some oy:=hoy;rw [cw (Ne.symm hyi)] at hoy';refine (hS.obj y oy hoy').keep he λc hc=>hw.block c λh=>hyi ?_;subst h
     exact hS.inj y i c (cc hc) (cc hm) }
theorem mV {h:Heap} {i} {o} (hid:h[i]?=some o):h.set i o=h:=iI hid
theorem Ef {S} (hS:HOk P M0 S) {T U e ty} {x} {v v2} {s} {w2} (hx:x=.p .nilslice\/∃ j n xs,x=.slice j n 0 n/\S.h[j]?=some (.row 1 xs)/\xs.length=n/\n+s.size<=aB)
  (hs0:s.size<=aB) (hr:ck M0 S v x) (hT:ba P T=some e) (hU:dW P U=true) (hsz:bM P e=some 1) (hby:kt P e=some 1) (hz:fm P e 1=true)
  (hsh:∀ a n c,v=.slice (some a) n c->∃ N,S.w.shape? a.block=some (e,N)) (hrun:(Builtin.append_ #[T,U] ty #[v,.string s]).run P S.w=.ok v2 w2) (hev:∀ b,b<S.w.heap.size->w2.shape? b=S.w.shape? b) :
  ∀ a n c,v2=.slice (some a) n c->∃ N,w2.shape? a.block=some (e,N):=by
 have hTu:=bY hT;have hUu:(∃ f,P.underlying U=some (.slice f))\/P.underlying U=some .string:=.inr (eD hU);have hstr:Rep M0 S (.string s) (.p (.str s)):=RepP.str s;obtain ⟨D,hlen,hD,hDs,hDel⟩:=kM (P:=P) hS (y:=.p (.str s)) (sz:=1) (ys:=s.data.toList.map λb:UInt8=>AV.p (PV.int .u8 (b.toNat:Int))) hstr (by unfold jy;exact if_pos rfl);have hyl:(s.data.toList.map λb:UInt8=>AV.p (PV.int .u8 (b.toNat:Int))).length=s.size:=by rw [fY];exact r6
 rw [hyl] at hlen hD hDs
 have key:∀ (base:Option Addr) (n cap:Nat) (O:Array Value),n+s.size<=aB->cap<n+s.size->v=.slice base n cap->(Builtin.firstCells 1 n (.slice base n cap)).run P S.w.drew=.ok O S.w.drew ->
   ∀ a n c,v2=.slice (some a) n c->∃ N,w2.shape? a.block=some (e,N):=by
  intro base n cap O hroom hlt hv hO a n' c hv2;subst hv;obtain ⟨nc,R,hnc,hR,hrun2⟩:=jU (ty:=ty) hTu hUu hsz hby (by omega) hz hroom hlt S.w hlen hO (hD _ rfl);rw [hrun2] at hrun;cases hrun;cases hv2;refine ⟨(O++D++R).size,?_⟩;show (S.w.drew.alloc _).shape? S.w.drew.heap.size=_;unfold World.shape?;rw [bt]
 have nil:v=.slice none 0 0->∀ a n c,v2=.slice (some a) n c->∃ N,w2.shape? a.block=some (e,N):=by
  intro hv;rcases oI s.size with h0 | h0
  .subst hv;intro a n c hv2;have:=kD (ty:=ty) hTu hUu hsz S.w (by rw [hlen,h0]) (by have:=hD S.w rfl;rw [h0] at this;exact this);rw [this] at hrun;cases hrun;cases hv2
  .exact key none 0 0 #[] (by omega) (by omega) hv rfl
 rcases hx with rfl | ⟨j,n,xs,rfl,hj,hn,hroom⟩
 .have h':RepP (Avoid M0 S.m) S.w v .nilslice:=hr;cases h';exact nil rfl
 .obtain ⟨O,hlo,hO,hOs,hOel⟩:=kM (P:=P) (y:=.slice j n 0 n) (v:=v) (ys:=xs) (sz:=1) hS hr (by simp [jy,hj,hn,sub,fx (GS hn)]);rcases cv hr.2 hj hn with ⟨h1,h2,h3,_⟩ | ⟨b,cap,T',N,hm,rfl,hcap,hsh2,hfit,hreach⟩ | ⟨_,rfl,h0⟩
  .omega
  .rcases cJ cap (n+s.size) with hlt | hge
   .have:=hO S.w.drew rfl;rw [hn] at this;exact key _ n cap O hroom hlt rfl (by simpa using this)
   .obtain ⟨C,T2,hb2,hsize2,hel2⟩:=eC hS hj hm;have hNC:N=C.size:=by
     unfold World.shape? at hsh2;rw [hb2] at hsh2;simp at hsh2;exact hsh2.2.symm
    have hrun2:=ma (ty:=ty) (cap:=cap) hTu hUu hsz hge S.w hlen (hD _ rfl) (by simpa using hb2) (by rw [hDs];omega) (n7 hyl (by rw [hDs]) hDel);have hv:(Value.slice (some ⟨b,0*1,none⟩) n cap)=.slice (some ⟨b,0,none⟩) n cap:=by rw [BL]
    rw [hv,hrun2] at hrun;intro a n' c hv2;cases hrun;cases hv2;obtain ⟨N',hN'⟩:=hsh _ _ _ rfl;exact ⟨N',(hev _ (pG hN')).trans hN'⟩
  .subst h0;exact nil rfl
end Abs
end Go.Proofs.YtfafnkpfamgbbaaGreatDoor
namespace Go.Proofs.YtfafnkpfamgbbaaGreatDoor
namespace Abs
variable {P:Program} {H:Hints} {Q:Cont}
def IE (P:Program) (fv:PV) (n:Nat) (l:List (List PV)):Prop :=
 (∀ a,a∈l->a.length=n)/\∃ (g:FuncId) (first cap:List PV),fv=.func (.func g) first cap/\∀ (id:Nat) (Inv:Nat->Heap->Prop) (Fin:Heap->Prop) (h0:Heap),id<h0.length ->
  (∀ (k:Nat) (xs:List PV) (lo mid:Heap),l[k]?=some xs->Inv k lo->lo.length=h0.length ->
   rg P id (xs.map .p) (lo++mid) (λr h'=>∃ lo' ext,h'=lo'++mid++ext/\lo'.length=h0.length /\
    ((r=.ret (.p (.bool true))/\Inv (k+1) lo')\/(r=.ret (.p (.bool false))/\Fin lo')))) ->
  Inv 0 h0->ay P g (first.map .p++[.ref .yl id]++cap.map .p) h0 (λr h'=>r=.ret (.p (.tuple []))/\∃ lo mid,h'=lo++mid/\lo.length=h0.length/\(Inv l.length lo\/Fin lo))
theorem GE {ps} {assign body} {g} {A} {fv} {l} (Inv:AObj->Nat->Heap->Prop) (Fin:Code->Heap->Prop)
  (hrc:A.rc=.no) (hg:A.eval g=.p fv) (hit:IE P fv ps.size l) (hD:dw P) (hps:mY A.n ps=true) (hoka:cN H A.n assign=true) (hokb:cN H A.n body=true)
  (hat:∀ o k h,Inv o k h->h[A.h.length+1]?=some o) (h0:∀ o,Inv o 0 (A.h++[.dblock,o]))
  (hround:∀ (oR oB) (oD) (k) (xs) (lo mid),l[k]?=some xs->Inv oR k lo->lo.length=A.h.length+2 ->
   @W ⟨P,H,assign,rL oR oB (A.h.length+1) (lo++mid).length (λB=>wp P H body (nP oB oR oD (A.h.length+1) (lo++mid).length
    (λr h'=>∃ lo' ext,h'=lo'++mid++ext/\lo'.length=A.h.length+2/\((r=.ret (.p (.bool true))/\Inv oR (k+1) lo')\/(r=.ret (.p (.bool false))/\∃ c,Fin c lo'/\lo'[A.h.length+1]?=some (oD c))))) B)⟩
    {n:=A.n,bs:=(lo++mid).length,rc:=.rnd,tmps:=fF A.tmps ps.toList (xs.map .p),h:=lo++mid,df:=[] })
  (hend:∀ o lo mid,Inv o l.length lo->lo.length=A.h.length+2->@WQ ⟨Q⟩ .normal { A with h:=(lo++mid).set (A.h.length+1) .dead,df:=.collected A.h.length::A.df })
  (hfin:∀ c lo mid,Fin c lo->lo.length=A.h.length+2->uk Q { A with h:=(lo++mid).set (A.h.length+1) .dead,df:=.collected A.h.length::A.df } c):@W ⟨P,H,.rangeFunc g ps assign body,Q⟩ A:=by
 obtain ⟨hn,gf,first,cap,rfl,hi⟩:=hit;have hoR:∃ oR,oR=AObj.loop A.n A.tmps ps assign body .ready none:=⟨_,rfl⟩
 obtain ⟨oR,hR⟩:=hoR
 refine vL (f:=gf) (args:=first.map .p++[.ref .yl (A.h.length+1)]++cap.map .p)
  (R:=λr h=>r=.ret (.p (.tuple []))/\∃ lo mid,h=lo++mid/\lo.length=A.h.length+2/\(Inv oR l.length lo\/∃ c,Fin c lo/\lo[A.h.length+1]?=some (.loop A.n A.tmps ps assign body .done (some c))))
  hrc (by rw [hg];rfl) ?_ (λv h hr=>?_) λv h hr=>(by cases hr.1)
 .rw [<-hR];have hl2:(A.h++[.dblock,oR]).length=A.h.length+2:=by simp
  have key:=hi (A.h.length+1) (Inv oR) (λlo=>∃ c,Fin c lo/\lo[A.h.length+1]?=some (.loop A.n A.tmps ps assign body .done (some c))) (A.h++[.dblock,oR]) (by simp) (λk xs lo mid hv hI hlo=>?_) (h0 oR)
  .rw [hl2] at key;exact key
  rw [hl2] at hlo |-;have hat':=hat _ _ _ hI;have hat2:(lo++mid)[A.h.length+1]?=some oR:=by rw [aS (by omega)];exact hat'
  rw [hR] at hat2;refine o9 hD (H:=H) hat2 hps (by rw [fY];exact (hn xs (aI hv)).symm) hoka hokb ?_;have:=hround oR (.loop A.n A.tmps ps assign body .busy none) (λj=>.loop A.n A.tmps ps assign body .done (some j)) k xs lo mid hv hI hlo;refine iU assign (λe B hB=>?_) this
  cases e with
  |normal =>
   obtain ⟨b1,b2,b3⟩:=hB;rw [hR] at b2;refine ⟨b1,b2,iU body (λe C hC=>?_) b3⟩
   cases e with
   |normal =>
    obtain ⟨c1,c2,c3⟩:=hC;refine ⟨c1,⟨_,_,c2⟩,?_⟩;rw [<-hR];obtain ⟨lo',ext,d1,d2,d3⟩:=c3;refine ⟨lo',ext,d1,d2,?_⟩;rcases d3 with d3 | ⟨d3,_⟩
    .exact .inl d3
    .cases d3
   |exit id =>
    obtain ⟨c1,c2,c3⟩:=hC;refine ⟨c1,⟨_,_,c2⟩,?_⟩;obtain ⟨lo',ext,d1,d2,d3⟩:=c3;refine ⟨lo',ext,d1,d2,?_⟩;rcases d3 with ⟨d3,_⟩ | ⟨d3,c,f1,f2⟩
    .cases d3
    .exact .inr ⟨rfl,c,f1,f2⟩
   |ret =>
    obtain ⟨c1,c2,c3⟩:=hC;refine ⟨c1,⟨_,_,c2⟩,?_⟩;obtain ⟨lo',ext,d1,d2,d3⟩:=c3;refine ⟨lo',ext,d1,d2,?_⟩;rcases d3 with ⟨d3,_⟩ | ⟨d3,c,f1,f2⟩
    .cases d3
    .exact .inr ⟨rfl,c,f1,f2⟩
   |panic v =>
    obtain ⟨_,_,c3⟩:=hC;obtain ⟨lo',ext,d1,d2,d3⟩:=c3
    rcases d3 with ⟨d3,_⟩ | ⟨d3,_⟩<;>cases d3
  |exit id=>exact hB
  |ret=>exact hB
  |panic v=>exact hB
 .obtain ⟨hr,lo,mid,rfl,hlo,hI⟩:=hr;rcases hI with hI | ⟨c,f1,f2⟩
  .have hat':(lo++mid)[A.h.length+1]?=some oR:=by rw [aS (by omega)];exact hat _ _ _ hI
   rw [hR] at hat';rw [hat'];exact ⟨by simp,hend _ _ _ hI hlo⟩
  .have hat':(lo++mid)[A.h.length+1]?=some (.loop A.n A.tmps ps assign body .done (some c)):=by rw [aS (by omega)];exact f2
   rw [hat'];have:=hfin c lo mid f1 hlo;refine ⟨by simp,?_⟩;cases c<;>first | exact this.elim | exact this
theorem km {lo:Heap} {n0} (h:lo.length=n0) (t) (j):(lo++t)[n0+j]?=t[j]?:=by rw [cD (by omega)];congr 1;omega
theorem kn {lo:Heap} {n0} (h:lo.length=n0) (t):(lo++t)[n0]?=t[0]?:=km h t 0
theorem mA {lo:Heap} {n0} (h:lo.length=n0) (t) (j) (x):(lo++t).set (n0+j) x=lo++t.set j x:=by
 rw [wx _ _ (by omega)];congr 2;omega
theorem mC {lo:Heap} {n0} (h:lo.length=n0) (t) (x):(lo++t).set n0 x=lo++t.set 0 x:=mA h t 0 x
end Abs
end Go.Proofs.YtfafnkpfamgbbaaGreatDoor
