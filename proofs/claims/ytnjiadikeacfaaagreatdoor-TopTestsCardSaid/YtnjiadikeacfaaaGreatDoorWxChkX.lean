/- CONTRACTS of the program's functions, and laws on what they return. No conditions but those in the theorems' heads. -/
import Derived.Test.YtnjiadikeacfaaaGreatDoorClGoX
import Derived.Lib.UnsafeStr
set_option linter.all false
open Go.Proofs.Tryz renaming prog->TP
namespace Go.Proofs.YtnjiadikeacfaaaGreatDoor
namespace Abs
namespace Wx
set_option maxRecDepth 4000
theorem An(lo hi n):af TP 235 [.int .i64 n,.ptr 1 [.int .i64 lo] 0 0,.ptr 1 [.int .i64 hi] 0 0] (.bool (!al n lo hi)):=by
 refine aa (ah Tryz.func235 rfl (by kernel_rfl)) rfl ?_;simp only[go_sem,simprocAttr];refine aR (λhb=>?_) (λhb=>?_)<;>simp only[hb,go_sem,simprocAttr]<;>simp_all [al];rw[<-decide_not];congr 1;simp
theorem eS(lo hi)(l:List Int)(b)(hl:l.length<1000000000):af TP 171 [.int .i64 lo,.int .i64 hi,.slice 1 (l.map aG) b] (.bool (l.any λn=>!al n lo hi)):=by
 refine aa (ah Tryz.func171 rfl (by kernel_rfl)) rfl ?_;simp only[go_sem,simprocAttr];refine aY (jF (fv:=.func (.func 235) [] [.ptr 1 [.int .i64 lo] 0 0,.ptr 1 [.int .i64 hi] 0 0]) l (λn=>!al n lo hi) b 1 rfl hl λn _=>⟨_,_,_,rfl,An lo hi n⟩) ?_ (.bool _) ?_
 .simp only[go_sem,simprocAttr]
 .simp only[go_sem,simprocAttr]
theorem v6(x:WxProp):af TP 173 [x.pv] (.str x.name):=by
 refine aa (ah Tryz.func173 rfl (by kernel_rfl)) rfl ?_;simp only[go_sem,simprocAttr]
theorem Fz(s)(x:WxProp):af TP 237 [x.pv,.ptr 1 [.func (.func 173) [] []] 0 0,.ptr 1 [.str s] 0 0] (.bool (x.name==s)):=by
 refine aa (ah Tryz.func237 rfl (by kernel_rfl)) rfl ?_;simp only[go_sem,simprocAttr];refine ay (v6 x) rfl ?_;simp only[go_sem,simprocAttr]
theorem Br(l)(x)(b)(hl:l.length<1000000):af TP 172 [.slice 2 ((l++[x]).map WxProp.pv) b,.func (.func 173) [] []] (.int .i64 (ak (l.map (·.name)) x.name)):=by
 have hw:IntKind.i64.wrap ((((l++[x]).length:Nat):Int)-1)=((l.length:Nat):Int):=by
  rw[cI (by simp<;>omega) (by simp[ar]<;>omega)];simp
 have hx:(l++[x])[l.length]?=some x:=by simp
 have hlt:((l.length:Nat):Int)<(((l++[x]).length:Nat):Int):=by simp<;>omega
 have hle:((l.length:Nat):Int)<=(((l++[x]).length:Nat):Int):=by omega
 have htk:((l++[x]).map WxProp.pv).take l.length=l.map WxProp.pv:=by rw[ca,jL (by simp)]
 have hfl:(l.length==(l++[x]).length)=false:=by simp
 refine aa (ah Tryz.func172 rfl (by kernel_rfl)) rfl ?_;simp only[hw,hx,hlt,go_sem,simprocAttr];refine ay (v6 x) rfl ?_;simp only[go_sem,simprocAttr];refine ae (jn x.name) rfl ?_;simp only[go_sem,simprocAttr];cases hn:nameOk x.name
 .simp only[go_sem,simprocAttr];simp[ak,hn]
 .simp only[hle,htk,hfl,go_sem,simprocAttr];refine aY (By (fv:=.func (.func 237) [] [.ptr 1 [.func (.func 173) [] []] 0 0,.ptr 1 [.str x.name] 0 0]) l (λy=>y.name==x.name) false 2 rfl (by omega) λy _=>⟨_,_,_,rfl,Fz x.name y⟩) ?_ (.bool _) ?_
  .simp only[go_sem,simprocAttr]
  simp only[go_sem,simprocAttr];refine aR (λhb=>?_) (λhb=>?_)<;>simp only[hb,go_sem,simprocAttr]
  .simp only[ak,hn,jP,jw,hb,if_true]
  .simp only[ak,hn,jP,jw,hb,if_true,d4,if_false]
theorem vZ(x:WxKind):af TP 175 [x.pv] (.str x.name):=by
 refine aa (ah Tryz.func175 rfl (by kernel_rfl)) rfl ?_;simp only[go_sem,simprocAttr]
theorem Fy(s)(x:WxKind):af TP 239 [x.pv,.ptr 1 [.func (.func 175) [] []] 0 0,.ptr 1 [.str s] 0 0] (.bool (x.name==s)):=by
 refine aa (ah Tryz.func239 rfl (by kernel_rfl)) rfl ?_;simp only[go_sem,simprocAttr];refine ay (vZ x) rfl ?_;simp only[go_sem,simprocAttr]
theorem Bq(l)(x)(b)(hl:l.length<1000000):af TP 174 [.slice 2 ((l++[x]).map WxKind.pv) b,.func (.func 175) [] []] (.int .i64 (ak (l.map (·.name)) x.name)):=by
 have hw:IntKind.i64.wrap ((((l++[x]).length:Nat):Int)-1)=((l.length:Nat):Int):=by
  rw[cI (by simp<;>omega) (by simp[ar]<;>omega)];simp
 have hx:(l++[x])[l.length]?=some x:=by simp
 have hlt:((l.length:Nat):Int)<(((l++[x]).length:Nat):Int):=by simp<;>omega
 have hle:((l.length:Nat):Int)<=(((l++[x]).length:Nat):Int):=by omega
 have htk:((l++[x]).map WxKind.pv).take l.length=l.map WxKind.pv:=by rw[ca,jL (by simp)]
 have hfl:(l.length==(l++[x]).length)=false:=by simp
 refine aa (ah Tryz.func174 rfl (by kernel_rfl)) rfl ?_;simp only[hw,hx,hlt,go_sem,simprocAttr];refine ay (vZ x) rfl ?_;simp only[go_sem,simprocAttr];refine ae (jn x.name) rfl ?_;simp only[go_sem,simprocAttr];cases hn:nameOk x.name
 .simp only[go_sem,simprocAttr];simp[ak,hn]
 .simp only[hle,htk,hfl,go_sem,simprocAttr];refine aY (Bw (fv:=.func (.func 239) [] [.ptr 1 [.func (.func 175) [] []] 0 0,.ptr 1 [.str x.name] 0 0]) l (λy=>y.name==x.name) false 2 rfl (by omega) λy _=>⟨_,_,_,rfl,Fy x.name y⟩) ?_ (.bool _) ?_
  .simp only[go_sem,simprocAttr]
  simp only[go_sem,simprocAttr];refine aR (λhb=>?_) (λhb=>?_)<;>simp only[hb,go_sem,simprocAttr]
  .simp only[ak,hn,jP,jw,hb,if_true]
  .simp only[ak,hn,jP,jw,hb,if_true,d4,if_false]
def kS (p:WxProp):Int:=if al p.error 0 10000=true then 0 else 7
def l5 (s:Span):Bool:=al s.lo 0 100000&&al s.hi 0 100000
def fD (many:Nat) (k:WxKind):Int:=if k.props.length=many then(if(k.props.any λs=>!l5 s)=true then 7 else if(k.props.any λs=>decide (s.hi<s.lo))=true then 2 else 0) else 3
def cF (before:List ByteArray) (p:WxProp):Int:=if ak before p.name=0 then kS p else ak before p.name
def kindErr (many:Nat) (before:List ByteArray) (k:WxKind):Int:=if ak before k.name=0 then fD many k else ak before k.name
def tail (t:WxTable):Option (Int×Int)->Int×Int×Int
 |some (i,e)=>(2,i,e)
 |none=>match firstErr (kindErr t.props.length) (·.name) t.kinds []with|some (i,e)=>(3,i,e)|none=>(0,0,0)
def wxCheck (t:WxTable):Int×Int×Int:=
 if(al t.props.length 1 5&&al t.kinds.length 1 8)=true then
  if al t.purity 1 1000=true then tail t (firstErr cF (·.name) t.props []) else(1,0,7)
 else(1,0,3)
theorem HK{t}{done r}{x}(e2:firstErr cF (·.name) t.props []=firstErr cF (·.name) (x::r) (done.map (·.name))) :
  (cF (done.map (·.name)) x=0->firstErr cF (·.name) t.props []=firstErr cF (·.name) r ((done++[x]).map (·.name))) /\
  ∀e,cF (done.map (·.name)) x=e->e≠0->tail t (firstErr cF (·.name) t.props [])=(2,(done.length:Int),e):=by
 have hE:firstErr cF (·.name) t.props []=if cF (done.map (·.name)) x=0 then firstErr cF (·.name) r ((done++[x]).map (·.name)) else some ((done.length:Int),cF (done.map (·.name)) x):=by
  rw[e2,firstErr];simp
 exact⟨λh=>by rw[hE,if_pos h],λe he hne=>by rw[hE,he,if_neg hne];rfl⟩
theorem HX{t}{done r}{x}(e2:firstErr (kindErr t.props.length) (·.name) t.kinds []=firstErr (kindErr t.props.length) (·.name) (x::r) (done.map (·.name))) :
  (kindErr t.props.length (done.map (·.name)) x=0->firstErr (kindErr t.props.length) (·.name) t.kinds []=firstErr (kindErr t.props.length) (·.name) r ((done++[x]).map (·.name))) /\
  ∀e,kindErr t.props.length (done.map (·.name)) x=e->e≠0->tail t none=(3,(done.length:Int),e):=by
 have hE:firstErr (kindErr t.props.length) (·.name) t.kinds []=if kindErr t.props.length (done.map (·.name)) x=0 then firstErr (kindErr t.props.length) (·.name) r ((done++[x]).map (·.name)) else some ((done.length:Int),kindErr t.props.length (done.map (·.name)) x):=by
  rw[e2,firstErr];simp
 exact⟨λh=>by rw[hE,if_pos h],λe he hne=>by simp only[tail];rw[hE,he,if_neg hne]⟩
theorem VV(s):af TP 177 [s.pv] (.bool (!l5 s)):=by
 refine aa (ah Tryz.func177 rfl (by kernel_rfl)) rfl ?_;simp only[go_sem,simprocAttr];refine ae (eS 0 100000 [_,_] true (by simp)) rfl ?_;simp only[bF,bp,cl,<-iD,l5,go_sem,simprocAttr]
theorem VU(s:Span):af TP 178 [s.pv] (.bool (decide (s.hi<s.lo))):=by
 refine aa (ah Tryz.func178 rfl (by kernel_rfl)) rfl ?_;simp only[go_sem,simprocAttr]
set_option maxHeartbeats 1000000 in
theorem pj(t):af TP 122 [t.pv] (aj (wxCheck t)):=by
 refine aa (ah Tryz.func122 rfl (by kernel_rfl)) rfl ?_;simp only[go_sem,simprocAttr];refine ae (eS 1 5 [_] true (by simp)) rfl ?_;simp only[bF,bp,cl,go_sem,simprocAttr];cases h1:al t.props.length 1 5
 .simp only[aj,wxCheck,h1,go_sem,simprocAttr]
 simp only[go_sem,simprocAttr];refine ae (eS 1 8 [_] true (by simp)) rfl ?_;simp only[bF,bp,cl,go_sem,simprocAttr];cases h2:al t.kinds.length 1 8
 .simp only[aj,wxCheck,h1,h2,go_sem,simprocAttr]
 simp only[go_sem,simprocAttr];refine ae (eS 1 1000 [_] true (by simp)) rfl ?_;simp only[bF,bp,cl,go_sem,simprocAttr];cases h3:al t.purity 1 1000
 .simp only[aj,wxCheck,h1,h2,h3,go_sem,simprocAttr]
 have hspec:wxCheck t=tail t (firstErr cF (·.name) t.props []):=by simp only[wxCheck,h1,h2,h3,mO,if_true]
 rw[hspec];have hlp:t.props.length<=5:=by simp[al]at h1;omega
 have hlk:t.kinds.length<=8:=by simp[al]at h2;omega
 simp only[go_sem,simprocAttr]
 refine bm [1,28,29] t.props (by omega) (τ:=Unit) (λdone rest _=>firstErr cF (·.name) t.props []=firstErr cF (·.name) rest (done.map (·.name)))
  (λdone _=>[(30,.p (.int .i64 done.length)),(4,.p (.int .i64 0))]) (λ_ _=>[.row 3 [.p t.pv]]) () rfl ?_ ?_ ?_
 .simp only[go_sem,simprocAttr]<;>simp
 .intro _ e2;have hT:tail t (firstErr cF (·.name) t.props [])=tail t none:=by rw[e2];rfl
  rw[hT];simp only[go_sem,simprocAttr]
  refine bm [1,52,53] t.kinds (by omega) (τ:=Unit) (λdone rest _=>firstErr (kindErr t.props.length) (·.name) t.kinds []=firstErr (kindErr t.props.length) (·.name) rest (done.map (·.name)))
   (λdone _=>[(54,.p (.int .i64 done.length)),(4,.p (.int .i64 0))]) (λ_ _=>[.row 3 [.p t.pv]]) () rfl ?_ ?_ ?_
  .simp only[go_sem,simprocAttr]<;>simp
  .intro _ e2;have hT:tail t none=(0,0,0):=by
    simp only[tail];rw[e2];rfl
   simp only[aj,hT,go_sem,simprocAttr]
  .intro done x r _ e1 e2 hx hlt hnx;obtain⟨go,fin⟩:=HX e2;have hle:(((done++[x]).length:Nat):Int)<=(t.kinds.length:Int):=by rw[e1];simp<;>omega
   have htk:(t.kinds.map WxKind.pv).take (done++[x]).length=(done++[x]).map WxKind.pv:=by
    rw[e1,show done++x::r=(done++[x])++r by simp,ca,jL (by simp)]
   have hdl:done.length<1000000:=by have:=congrArg List.length e1;simp at this;omega
   simp only[hlt,hx,hnx,hle,htk,go_sem,simprocAttr];refine ae (Bq done x false hdl) rfl ?_;simp only[go_sem,simprocAttr];cases h5:(ak (done.map (·.name)) x.name != 0)
   rotate_left
   .have h5':ak (done.map (·.name)) x.name≠0:=by simpa using h5
    simp only[aj,fin _ (by rw[kindErr,if_neg h5']) h5',go_sem,simprocAttr]
   have h5':ak (done.map (·.name)) x.name=0:=by simpa using h5
   have hb:kindErr t.props.length (done.map (·.name)) x=fD t.props.length x:=by rw[kindErr,if_pos h5']
   simp only[go_sem,simprocAttr];cases h6:((x.props.length:Int) != (t.props.length:Int))
   rotate_left
   .have h6':¬x.props.length=t.props.length:=by simp at h6;omega
    simp only[aj,fin 3 (by rw[hb,fD,if_neg h6']) (by decide),go_sem,simprocAttr]
   have h6':x.props.length=t.props.length:=by simp at h6;omega
   simp only[go_sem,simprocAttr];refine ae (n8 (fv:=.func (.func 177) [] []) x.props (λs=>!l5 s) false 2 rfl (by omega) λs _=>⟨_,_,_,rfl,VV s⟩) rfl ?_;simp only[go_sem,simprocAttr];cases h7:(x.props.any λs=>!l5 s)
   rotate_left
   .simp only[aj,fin 7 (by rw[hb,fD,if_pos h6',h7];rfl) (by decide),go_sem,simprocAttr]
   simp only[go_sem,simprocAttr];refine ae (n8 (fv:=.func (.func 178) [] []) x.props (λs=>decide (s.hi<s.lo)) false 2 rfl (by omega) λs _=>⟨_,_,_,rfl,VU s⟩) rfl ?_;simp only[go_sem,simprocAttr];cases h8:(x.props.any λs=>decide (s.hi<s.lo))
   rotate_left
   .simp only[aj,fin 2 (by rw[hb,fD,if_pos h6',h7,h8];rfl) (by decide),go_sem,simprocAttr]
   simp only[h5',go_sem,simprocAttr];refine aE e1 () (go (by rw[hb,fD,if_pos h6',h7,h8];rfl)) ?_;simp only[hnx,go_sem,simprocAttr]
 .intro done x r _ e1 e2 hx hlt hnx;obtain⟨go,fin⟩:=HK e2;have hle:(((done++[x]).length:Nat):Int)<=(t.props.length:Int):=by rw[e1];simp<;>omega
  have htk:(t.props.map WxProp.pv).take (done++[x]).length=(done++[x]).map WxProp.pv:=by
   rw[e1,show done++x::r=(done++[x])++r by simp,ca,jL (by simp)]
  have hdl:done.length<1000000:=by have:=congrArg List.length e1;simp at this;omega
  simp only[hlt,hx,hnx,hle,htk,go_sem,simprocAttr];refine ae (Br done x false hdl) rfl ?_;simp only[go_sem,simprocAttr];cases h5:(ak (done.map (·.name)) x.name != 0)
  rotate_left
  .have h5':ak (done.map (·.name)) x.name≠0:=by simpa using h5
   simp only[aj,fin _ (by rw[cF,if_neg h5']) h5',go_sem,simprocAttr]
  have h5':ak (done.map (·.name)) x.name=0:=by simpa using h5
  have hb:cF (done.map (·.name)) x=kS x:=by rw[cF,if_pos h5']
  simp only[go_sem,simprocAttr];refine ae (eS 0 10000 [_] true (by simp)) rfl ?_;simp only[bF,bp,cl,go_sem,simprocAttr];cases h6:al x.error 0 10000
  .simp only[aj,fin 7 (by rw[hb,kS,h6];rfl) (by decide),go_sem,simprocAttr]
  simp only[h5',go_sem,simprocAttr];refine aE e1 () (go (by rw[hb,kS,h6];rfl)) ?_;simp only[hnx,go_sem,simprocAttr]
end Wx
variable {P:Program} {M0:Nat->Prop}
structure OnlyB (b:Nat) (w w':World):Prop where
 os:w'.os=w.os
 tape:w'.tape=w.tape
 output:w'.output=w.output
 size:w'.heap.size=w.heap.size
 block:∀k,k≠b->w'.heap[k]?=w.heap[k]?
theorem OnlyB.refl(b)(w):OnlyB b w w:=⟨rfl,rfl,rfl,rfl,λ_ _=>rfl⟩
theorem l8(w)(b i)(v):OnlyB b w (w.setCell ⟨b,i,none⟩ v):=
 ⟨rfl,rfl,rfl,by simp[World.setCell],λk hk=>Go.RowKit.Below.heap_setCell _ _ _ _ hk⟩
theorem Av{S}(hS:HOk P M0 S){i b}{T e}{x x'}{p p' v v'}{w'}(hid:S.h[i]?=some (.bld T e x))(hm:S.m.getD i none=some b)
  (hb:S.w.heap[b]?=some (.cells #[p,v] T (0,0))) (hw:OnlyB b S.w w') (hb':w'.heap[b]?=some (.cells #[p',v'] T (0,0))) (hp:p'=.pointer none\/p'=.pointer (some ⟨b,0,none⟩))
  (hx:x'=.p .nilslice\/∃j n,x'=.slice j n 0 n) (hr:cD M0 S v' x') (hs:∀a n c,v'=.slice (some a) n c->∃N,S.w.shape? a.block=some (e,N)) :
  HOk P M0 ⟨S.m,S.h.set i (.bld T e x'),w'⟩/\Ev S.h.length S ⟨S.m,S.h.set i (.bld T e x'),w'⟩:=by
 have hidlt:=(ax.1 hid).1;have hown:Own S.m b:=aT (cu hm);have hsh:∀c,w'.shape? c=S.w.shape? c:=by
  intro c;by_cases hc:c=b
  .subst hc;simp[World.shape?,hb,hb']
  .simp only[World.shape?,hw.block c hc]
 have he:Ev S.h.length S ⟨S.m,S.h.set i (.bld T e x'),w'⟩:=
  {fr:=⟨hw.os,hw.tape,hw.output,II hw.size.symm,λc _ hn=>hw.block c (λh=>hn (h▸hown)),λc _=>hsh c⟩
   sub:=λc h=>.inl h
   obj:=λy oy hy hoy=>by
    by_cases hyi:y=i
    .subst hyi;rw[hid]at hoy;cases hoy;exact⟨.bld T e x',by simp[hidlt],.inr (.inr ⟨by simp[AObj.tag],rfl,rfl⟩)⟩
    .exact⟨oy,by simp[dS (Ne.symm hyi),hoy],ObjEv.refl _ _⟩ }
 refine⟨?_,he⟩
 exact
  {len:=by simpa using hS.len
   lt:=λc h=>gb (hS.lt c h) he.fr.size
   m0:=λc h=>⟨gb (hS.m0 c h).1 he.fr.size,(hS.m0 c h).2⟩
   inj:=hS.inj
   gl:=he.glob hS.gl
   obj:=λy oy hoy=>by
    by_cases hyi:y=i
    .subst hyi;have hoy':(S.h.set y (.bld T e x'))[y]?=some oy:=hoy;rw[iJ hidlt]at hoy';cases hoy';exact⟨b,p',v',hm,hb',hp,hx,he.rep0 hr (gp hr),λa n c hv=>let ⟨N,hN⟩:=hs a n c hv;⟨N,(hsh _).trans hN⟩⟩
    .have hoy':(S.h.set i (.bld T e x'))[y]?=some oy:=hoy;rw[dS (Ne.symm hyi)]at hoy';refine(hS.obj y oy hoy').keep he λc hc=>hw.block c λh=>hyi ?_;subst h
     exact hS.inj y i c (cu hc) (cu hm) }
theorem nO{h:Heap}{i}{o}(hid:h[i]?=some o):h.set i o=h:=ji hid
theorem FZ{S}(hS:HOk P M0 S){T U e ty}{x}{v v2}{s}{w2}(hx:x=.p .nilslice\/∃j n xs,x=.slice j n 0 n/\S.h[j]?=some (.row 1 xs)/\xs.length=n/\n+s.size<=ar)
  (hs0:s.size<=ar) (hr:cD M0 S v x) (hT:bu P T=some e) (hU:eG P U=true) (hsz:b8 P e=some 1) (hby:ld P e=some 1) (hz:f8 P e 1=true)
  (hsh:∀a n c,v=.slice (some a) n c->∃N,S.w.shape? a.block=some (e,N)) (hrun:(Builtin.append_ #[T,U] ty #[v,.string s]).run P S.w=.ok v2 w2) (hev:∀b,b<S.w.heap.size->w2.shape? b=S.w.shape? b) :
  ∀a n c,v2=.slice (some a) n c->∃N,w2.shape? a.block=some (e,N):=by
 have hTu:=cq hT;have hUu:(∃f,P.underlying U=some (.slice f))\/P.underlying U=some .string:=.inr (fm hU);have hstr:Rep M0 S (.string s) (.p (.str s)):=RepP.str s;obtain⟨D,hlen,hD,hDs,hDel⟩:=lA (P:=P) hS (y:=.p (.str s)) (sz:=1) (ys:=s.data.toList.map λb:UInt8=>AV.p (PV.int .u8 (b.toNat:Int))) hstr (by unfold j3;exact if_pos rfl);have hyl:(s.data.toList.map λb:UInt8=>AV.p (PV.int .u8 (b.toNat:Int))).length=s.size:=by rw[dL];exact BO
 rw[hyl]at hlen hD hDs
 have key:∀(base:Option Addr) (n cap:Nat) (O:Array Value),n+s.size<=ar->cap<n+s.size->v=.slice base n cap->(Builtin.firstCells 1 n (.slice base n cap)).run P S.w.drew=.ok O S.w.drew ->
   ∀a n c,v2=.slice (some a) n c->∃N,w2.shape? a.block=some (e,N):=by
  intro base n cap O hroom hlt hv hO a n' c hv2;subst hv;obtain⟨nc,R,hnc,hR,hrun2⟩:=kz (ty:=ty) hTu hUu hsz hby (by omega) hz hroom hlt S.w hlen hO (hD _ rfl);rw[hrun2]at hrun;cases hrun;cases hv2;refine⟨(O++D++R).size,?_⟩;show (S.w.drew.alloc _).shape? S.w.drew.heap.size=_;unfold World.shape?;rw[bI]
 have nil:v=.slice none 0 0->∀a n c,v2=.slice (some a) n c->∃N,w2.shape? a.block=some (e,N):=by
  intro hv;rcases oo s.size with h0|h0
  .subst hv;intro a n c hv2;have:=lm (ty:=ty) hTu hUu hsz S.w (by rw[hlen,h0]) (by have:=hD S.w rfl;rw[h0]at this;exact this);rw[this]at hrun;cases hrun;cases hv2
  .exact key none 0 0 #[] (by omega) (by omega) hv rfl
 rcases hx with rfl|⟨j,n,xs,rfl,hj,hn,hroom⟩
 .have h':RepP (Avoid M0 S.m) S.w v .nilslice:=hr;cases h';exact nil rfl
 .obtain⟨O,hlo,hO,hOs,hOel⟩:=lA (P:=P) (y:=.slice j n 0 n) (v:=v) (ys:=xs) (sz:=1) hS hr (by simp[j3,hj,hn,sub,gv (II hn)]);rcases cR hr.2 hj hn with⟨h1,h2,h3,_⟩|⟨b,cap,T',N,hm,rfl,hcap,hsh2,hfit,hreach⟩|⟨_,rfl,h0⟩
  .omega
  .rcases dg cap (n+s.size) with hlt|hge
   .have:=hO S.w.drew rfl;rw[hn]at this;exact key _ n cap O hroom hlt rfl (by simpa using this)
   .obtain⟨C,T2,hb2,hsize2,hel2⟩:=fk hS hj hm;have hNC:N=C.size:=by
     unfold World.shape? at hsh2;rw[hb2]at hsh2;simp at hsh2;exact hsh2.2.symm
    have hrun2:=mX (ty:=ty) (cap:=cap) hTu hUu hsz hge S.w hlen (hD _ rfl) (by simpa using hb2) (by rw[hDs];omega) (pe hyl (by rw[hDs]) hDel);have hv:(Value.slice (some ⟨b,0*1,none⟩) n cap)=.slice (some ⟨b,0,none⟩) n cap:=by rw[IK]
    rw[hv,hrun2]at hrun;intro a n' c hv2;cases hrun;cases hv2;obtain⟨N',hN'⟩:=hsh _ _ _ rfl;exact⟨N',(hev _ (qF hN')).trans hN'⟩
  .subst h0;exact nil rfl
end Abs
end Go.Proofs.YtnjiadikeacfaaaGreatDoor
namespace Go.Proofs.YtnjiadikeacfaaaGreatDoor
namespace Abs
variable {P:Program} {H:Hints} {Q:Cont}
def Kw (P:Program) (fv:PV) (n:Nat) (l:List (List PV)):Prop:=
 (∀a,a∈l->a.length=n)/\∃(g:FuncId) (first cap:List PV),fv=.func (.func g) first cap/\∀(id:Nat) (Inv:Nat->Heap->Prop) (Fin:Heap->Prop) (h0:Heap),id<h0.length ->
  (∀(k:Nat) (xs:List PV) (lo mid:Heap),l[k]?=some xs->Inv k lo->lo.length=h0.length ->
   sC P id (xs.map .p) (lo++mid) (λr h'=>∃lo' ext,h'=lo'++mid++ext/\lo'.length=h0.length /\
    ((r=.ret (.p (.bool true))/\Inv (k+1) lo')\/(r=.ret (.p (.bool false))/\Fin lo')))) ->
  Inv 0 h0->aB P g (first.map .p++[.ref .yl id]++cap.map .p) h0 (λr h'=>r=.ret (.p (.tuple []))/\∃lo mid,h'=lo++mid/\lo.length=h0.length/\(Inv l.length lo\/Fin lo))
theorem Iv{ps}{assign body}{g}{A}{fv}{l}(Inv:AObj->Nat->Heap->Prop)(Fin:Code->Heap->Prop)
  (hrc:A.rc=.no) (hg:A.eval g=.p fv) (hit:Kw P fv ps.size l) (hD:dK P) (hps:nT A.n ps=true) (hoka:cU H A.n assign=true) (hokb:cU H A.n body=true)
  (hat:∀o k h,Inv o k h->h[A.h.length+1]?=some o) (h0:∀o,Inv o 0 (A.h++[.dblock,o]))
  (hround:∀(oR oB) (oD) (k) (xs) (lo mid),l[k]?=some xs->Inv oR k lo->lo.length=A.h.length+2 ->
   @W ⟨P,H,assign,sY oR oB (A.h.length+1) (lo++mid).length (λB=>wp P H body (oO oB oR oD (A.h.length+1) (lo++mid).length
    (λr h'=>∃lo' ext,h'=lo'++mid++ext/\lo'.length=A.h.length+2/\((r=.ret (.p (.bool true))/\Inv oR (k+1) lo')\/(r=.ret (.p (.bool false))/\∃c,Fin c lo'/\lo'[A.h.length+1]?=some (oD c))))) B)⟩
    {n:=A.n,bs:=(lo++mid).length,rc:=.rnd,tmps:=gx A.tmps ps.toList (xs.map .p),h:=lo++mid,df:=[] })
  (hend:∀o lo mid,Inv o l.length lo->lo.length=A.h.length+2->@WQ ⟨Q⟩ .normal { A with h:=(lo++mid).set (A.h.length+1) .dead,df:=.collected A.h.length::A.df })
  (hfin:∀c lo mid,Fin c lo->lo.length=A.h.length+2->vI Q { A with h:=(lo++mid).set (A.h.length+1) .dead,df:=.collected A.h.length::A.df } c):@W ⟨P,H,.rangeFunc g ps assign body,Q⟩ A:=by
 obtain⟨hn,gf,first,cap,rfl,hi⟩:=hit;have hoR:∃oR,oR=AObj.loop A.n A.tmps ps assign body .ready none:=⟨_,rfl⟩
 obtain⟨oR,hR⟩:=hoR
 refine xg (f:=gf) (args:=first.map .p++[.ref .yl (A.h.length+1)]++cap.map .p)
  (R:=λr h=>r=.ret (.p (.tuple []))/\∃lo mid,h=lo++mid/\lo.length=A.h.length+2/\(Inv oR l.length lo\/∃c,Fin c lo/\lo[A.h.length+1]?=some (.loop A.n A.tmps ps assign body .done (some c))))
  hrc (by rw[hg];rfl) ?_ (λv h hr=>?_) λv h hr=>(by cases hr.1)
 .rw[<-hR];have hl2:(A.h++[.dblock,oR]).length=A.h.length+2:=by simp
  have key:=hi (A.h.length+1) (Inv oR) (λlo=>∃c,Fin c lo/\lo[A.h.length+1]?=some (.loop A.n A.tmps ps assign body .done (some c))) (A.h++[.dblock,oR]) (by simp) (λk xs lo mid hv hI hlo=>?_) (h0 oR)
  .rw[hl2]at key;exact key
  rw[hl2]at hlo |-;have hat':=hat _ _ _ hI;have hat2:(lo++mid)[A.h.length+1]?=some oR:=by rw[aZ (by omega)];exact hat'
  rw[hR]at hat2;refine p7 hD (H:=H) hat2 hps (by rw[dL];exact(hn xs (aT hv)).symm) hoka hokb ?_;have:=hround oR (.loop A.n A.tmps ps assign body .busy none) (λj=>.loop A.n A.tmps ps assign body .done (some j)) k xs lo mid hv hI hlo;refine jx assign (λe B hB=>?_) this
  cases e with
  |normal=>
   obtain⟨b1,b2,b3⟩:=hB;rw[hR]at b2;refine⟨b1,b2,jx body (λe C hC=>?_) b3⟩
   cases e with
   |normal=>
    obtain⟨c1,c2,c3⟩:=hC;refine⟨c1,⟨_,_,c2⟩,?_⟩;rw[<-hR];obtain⟨lo',ext,d1,d2,d3⟩:=c3;refine⟨lo',ext,d1,d2,?_⟩;rcases d3 with d3|⟨d3,_⟩
    .exact .inl d3
    .cases d3
   |exit id=>
    obtain⟨c1,c2,c3⟩:=hC;refine⟨c1,⟨_,_,c2⟩,?_⟩;obtain⟨lo',ext,d1,d2,d3⟩:=c3;refine⟨lo',ext,d1,d2,?_⟩;rcases d3 with⟨d3,_⟩|⟨d3,c,f1,f2⟩
    .cases d3
    .exact .inr ⟨rfl,c,f1,f2⟩
   |ret=>
    obtain⟨c1,c2,c3⟩:=hC;refine⟨c1,⟨_,_,c2⟩,?_⟩;obtain⟨lo',ext,d1,d2,d3⟩:=c3;refine⟨lo',ext,d1,d2,?_⟩;rcases d3 with⟨d3,_⟩|⟨d3,c,f1,f2⟩
    .cases d3
    .exact .inr ⟨rfl,c,f1,f2⟩
   |panic v=>
    obtain⟨_,_,c3⟩:=hC;obtain⟨lo',ext,d1,d2,d3⟩:=c3
    rcases d3 with⟨d3,_⟩|⟨d3,_⟩<;>cases d3
  |exit id=>exact hB
  |ret=>exact hB
  |panic v=>exact hB
 .obtain⟨hr,lo,mid,rfl,hlo,hI⟩:=hr;rcases hI with hI|⟨c,f1,f2⟩
  .have hat':(lo++mid)[A.h.length+1]?=some oR:=by rw[aZ (by omega)];exact hat _ _ _ hI
   rw[hR]at hat';rw[hat'];exact⟨by simp,hend _ _ _ hI hlo⟩
  .have hat':(lo++mid)[A.h.length+1]?=some (.loop A.n A.tmps ps assign body .done (some c)):=by rw[aZ (by omega)];exact f2
   rw[hat'];have:=hfin c lo mid f1 hlo;refine⟨by simp,?_⟩;cases c<;>first|exact this.elim|exact this
theorem kf{lo:Heap}{n0}(h:lo.length=n0)(t)(j):(lo++t)[n0+j]?=t[j]?:=by rw[cm (by omega)];congr 1;omega
theorem kg{lo:Heap}{n0}(h:lo.length=n0)(t):(lo++t)[n0]?=t[0]?:=kf h t 0
theorem lP{lo:Heap}{n0}(h:lo.length=n0)(t)(j)(x):(lo++t).set (n0+j) x=lo++t.set j x:=by
 rw[tt _ _ (by omega)];congr 2;omega
theorem lQ{lo:Heap}{n0}(h:lo.length=n0)(t)(x):(lo++t).set n0 x=lo++t.set 0 x:=lP h t 0 x
end Abs
end Go.Proofs.YtnjiadikeacfaaaGreatDoor
