/- CONTRACTS of the program's functions, and laws on what they return. No conditions but those in the theorems' heads. -/
import Derived.Test.YtoapoaoelpcniaaGreatDoorClGoX
import Derived.Lib.UnsafeStr
set_option linter.all false
open Go.Proofs.Tryz renaming prog->TP
namespace Go.Proofs.YtoapoaoelpcniaaGreatDoor
namespace Abs
namespace Wx
set_option maxRecDepth 4000
theorem BI(lo hi n):af TP 240 [.int .i64 n,.ptr 1 [.int .i64 lo] 0 0,.ptr 1 [.int .i64 hi] 0 0] (.bool (!ar n lo hi)):=by
 refine aa (ah Tryz.func240 rfl (by kernel_rfl)) rfl ?_;simp only[go_sem,simprocAttr];refine aT (λhb=>?_) (λhb=>?_)<;>simp only[hb,go_sem,simprocAttr]<;>simp_all [ar];rw[<-decide_not];congr 1;simp
theorem fi(lo hi)(l:List Int)(b)(hl:l.length<1000000000):af TP 176 [.int .i64 lo,.int .i64 hi,.slice 1 (l.map aI) b] (.bool (l.any λn=>!ar n lo hi)):=by
 refine aa (ah Tryz.func176 rfl (by kernel_rfl)) rfl ?_;simp only[go_sem,simprocAttr];refine bf (ko (fv:=.func (.func 240) [] [.ptr 1 [.int .i64 lo] 0 0,.ptr 1 [.int .i64 hi] 0 0]) l (λn=>!ar n lo hi) b 1 rfl hl λn _=>⟨_,_,_,rfl,BI lo hi n⟩) ?_ (.bool _) ?_
 .simp only[go_sem,simprocAttr]
 .simp only[go_sem,simprocAttr]
theorem xQ(x:WxProp):af TP 178 [x.pv] (.str x.name):=by
 refine aa (ah Tryz.func178 rfl (by kernel_rfl)) rfl ?_;simp only[go_sem,simprocAttr]
theorem Hh(s)(x:WxProp):af TP 242 [x.pv,.ptr 1 [.func (.func 178) [] []] 0 0,.ptr 1 [.str s] 0 0] (.bool (x.name==s)):=by
 refine aa (ah Tryz.func242 rfl (by kernel_rfl)) rfl ?_;simp only[go_sem,simprocAttr];refine ax (xQ x) rfl ?_;simp only[go_sem,simprocAttr]
theorem CP(l)(x)(b)(hl:l.length<1000000):af TP 177 [.slice 2 ((l++[x]).map WxProp.pv) b,.func (.func 178) [] []] (.int .i64 (am (l.map (·.name)) x.name)):=by
 have hw:IntKind.i64.wrap ((((l++[x]).length:Nat):Int)-1)=((l.length:Nat):Int):=by
  rw[cA (by simp<;>omega) (by simp[aw]<;>omega)];simp
 have hx:(l++[x])[l.length]?=some x:=by simp
 have hlt:((l.length:Nat):Int)<(((l++[x]).length:Nat):Int):=by simp<;>omega
 have hle:((l.length:Nat):Int)<=(((l++[x]).length:Nat):Int):=by omega
 have htk:((l++[x]).map WxProp.pv).take l.length=l.map WxProp.pv:=by rw[cj,gk (by simp)]
 have hfl:(l.length==(l++[x]).length)=false:=by simp
 refine aa (ah Tryz.func177 rfl (by kernel_rfl)) rfl ?_;simp only[hw,hx,hlt,go_sem,simprocAttr];refine ax (xQ x) rfl ?_;simp only[go_sem,simprocAttr];refine ae (jU x.name) rfl ?_;simp only[go_sem,simprocAttr];cases hn:nameOk x.name
 .simp only[go_sem,simprocAttr];simp[am,hn]
 .simp only[hle,htk,hfl,go_sem,simprocAttr];refine bf (CV (fv:=.func (.func 242) [] [.ptr 1 [.func (.func 178) [] []] 0 0,.ptr 1 [.str x.name] 0 0]) l (λy=>y.name==x.name) false 2 rfl (by omega) λy _=>⟨_,_,_,rfl,Hh x.name y⟩) ?_ (.bool _) ?_
  .simp only[go_sem,simprocAttr]
  simp only[go_sem,simprocAttr];refine aT (λhb=>?_) (λhb=>?_)<;>simp only[hb,go_sem,simprocAttr]
  .simp only[am,hn,ny,j5,hb,if_true]
  .simp only[am,hn,ny,j5,hb,if_true,jc,if_false]
theorem xP(x:WxKind):af TP 180 [x.pv] (.str x.name):=by
 refine aa (ah Tryz.func180 rfl (by kernel_rfl)) rfl ?_;simp only[go_sem,simprocAttr]
theorem Hg(s)(x:WxKind):af TP 244 [x.pv,.ptr 1 [.func (.func 180) [] []] 0 0,.ptr 1 [.str s] 0 0] (.bool (x.name==s)):=by
 refine aa (ah Tryz.func244 rfl (by kernel_rfl)) rfl ?_;simp only[go_sem,simprocAttr];refine ax (xP x) rfl ?_;simp only[go_sem,simprocAttr]
theorem CO(l)(x)(b)(hl:l.length<1000000):af TP 179 [.slice 2 ((l++[x]).map WxKind.pv) b,.func (.func 180) [] []] (.int .i64 (am (l.map (·.name)) x.name)):=by
 have hw:IntKind.i64.wrap ((((l++[x]).length:Nat):Int)-1)=((l.length:Nat):Int):=by
  rw[cA (by simp<;>omega) (by simp[aw]<;>omega)];simp
 have hx:(l++[x])[l.length]?=some x:=by simp
 have hlt:((l.length:Nat):Int)<(((l++[x]).length:Nat):Int):=by simp<;>omega
 have hle:((l.length:Nat):Int)<=(((l++[x]).length:Nat):Int):=by omega
 have htk:((l++[x]).map WxKind.pv).take l.length=l.map WxKind.pv:=by rw[cj,gk (by simp)]
 have hfl:(l.length==(l++[x]).length)=false:=by simp
 refine aa (ah Tryz.func179 rfl (by kernel_rfl)) rfl ?_;simp only[hw,hx,hlt,go_sem,simprocAttr];refine ax (xP x) rfl ?_;simp only[go_sem,simprocAttr];refine ae (jU x.name) rfl ?_;simp only[go_sem,simprocAttr];cases hn:nameOk x.name
 .simp only[go_sem,simprocAttr];simp[am,hn]
 .simp only[hle,htk,hfl,go_sem,simprocAttr];refine bf (CU (fv:=.func (.func 244) [] [.ptr 1 [.func (.func 180) [] []] 0 0,.ptr 1 [.str x.name] 0 0]) l (λy=>y.name==x.name) false 2 rfl (by omega) λy _=>⟨_,_,_,rfl,Hg x.name y⟩) ?_ (.bool _) ?_
  .simp only[go_sem,simprocAttr]
  simp only[go_sem,simprocAttr];refine aT (λhb=>?_) (λhb=>?_)<;>simp only[hb,go_sem,simprocAttr]
  .simp only[am,hn,ny,j5,hb,if_true]
  .simp only[am,hn,ny,j5,hb,if_true,jc,if_false]
def lO (p:WxProp):Int:=if ar p.error 0 10000=true then 0 else 7
def ni (s:Span):Bool:=ar s.lo 0 100000&&ar s.hi 0 100000
def fW (many:Nat) (k:WxKind):Int:=if k.props.length=many then(if(k.props.any λs=>!ni s)=true then 7 else if(k.props.any λs=>decide (s.hi<s.lo))=true then 2 else 0) else 3
def cU (before:List ByteArray) (p:WxProp):Int:=if am before p.name=0 then lO p else am before p.name
def kindErr (many:Nat) (before:List ByteArray) (k:WxKind):Int:=if am before k.name=0 then fW many k else am before k.name
def tail (t:WxTable):Option (Int×Int)->Int×Int×Int
 |some (i,e)=>(2,i,e)
 |none=>match firstErr (kindErr t.props.length) (·.name) t.kinds []with|some (i,e)=>(3,i,e)|none=>(0,0,0)
def wxCheck (t:WxTable):Int×Int×Int:=
 if(ar t.props.length 1 5&&ar t.kinds.length 1 8)=true then
  if ar t.purity 1 1000=true then tail t (firstErr cU (·.name) t.props []) else(1,0,7)
 else(1,0,3)
theorem JC{t}{done r}{x}(e2:firstErr cU (·.name) t.props []=firstErr cU (·.name) (x::r) (done.map (·.name))) :
  (cU (done.map (·.name)) x=0->firstErr cU (·.name) t.props []=firstErr cU (·.name) r ((done++[x]).map (·.name))) /\
  ∀e,cU (done.map (·.name)) x=e->e≠0->tail t (firstErr cU (·.name) t.props [])=(2,(done.length:Int),e):=by
 have hE:firstErr cU (·.name) t.props []=if cU (done.map (·.name)) x=0 then firstErr cU (·.name) r ((done++[x]).map (·.name)) else some ((done.length:Int),cU (done.map (·.name)) x):=by
  rw[e2,firstErr];simp
 exact⟨λh=>by rw[hE,if_pos h],λe he hne=>by rw[hE,he,if_neg hne];rfl⟩
theorem JS{t}{done r}{x}(e2:firstErr (kindErr t.props.length) (·.name) t.kinds []=firstErr (kindErr t.props.length) (·.name) (x::r) (done.map (·.name))) :
  (kindErr t.props.length (done.map (·.name)) x=0->firstErr (kindErr t.props.length) (·.name) t.kinds []=firstErr (kindErr t.props.length) (·.name) r ((done++[x]).map (·.name))) /\
  ∀e,kindErr t.props.length (done.map (·.name)) x=e->e≠0->tail t none=(3,(done.length:Int),e):=by
 have hE:firstErr (kindErr t.props.length) (·.name) t.kinds []=if kindErr t.props.length (done.map (·.name)) x=0 then firstErr (kindErr t.props.length) (·.name) r ((done++[x]).map (·.name)) else some ((done.length:Int),kindErr t.props.length (done.map (·.name)) x):=by
  rw[e2,firstErr];simp
 exact⟨λh=>by rw[hE,if_pos h],λe he hne=>by simp only[tail];rw[hE,he,if_neg hne]⟩
theorem XT(s):af TP 182 [s.pv] (.bool (!ni s)):=by
 refine aa (ah Tryz.func182 rfl (by kernel_rfl)) rfl ?_;simp only[go_sem,simprocAttr];refine ae (fi 0 100000 [_,_] true (by simp)) rfl ?_;simp only[cV,bw,cD,<-iZ,ni,go_sem,simprocAttr]
theorem XS(s:Span):af TP 183 [s.pv] (.bool (decide (s.hi<s.lo))):=by
 refine aa (ah Tryz.func183 rfl (by kernel_rfl)) rfl ?_;simp only[go_sem,simprocAttr]
set_option maxHeartbeats 1000000 in
theorem qJ(t):af TP 129 [t.pv] (al (wxCheck t)):=by
 refine aa (ah Tryz.func129 rfl (by kernel_rfl)) rfl ?_;simp only[go_sem,simprocAttr];refine ae (fi 1 5 [_] true (by simp)) rfl ?_;simp only[cV,bw,cD,go_sem,simprocAttr];cases h1:ar t.props.length 1 5
 .simp only[al,wxCheck,h1,go_sem,simprocAttr]
 simp only[go_sem,simprocAttr];refine ae (fi 1 8 [_] true (by simp)) rfl ?_;simp only[cV,bw,cD,go_sem,simprocAttr];cases h2:ar t.kinds.length 1 8
 .simp only[al,wxCheck,h1,h2,go_sem,simprocAttr]
 simp only[go_sem,simprocAttr];refine ae (fi 1 1000 [_] true (by simp)) rfl ?_;simp only[cV,bw,cD,go_sem,simprocAttr];cases h3:ar t.purity 1 1000
 .simp only[al,wxCheck,h1,h2,h3,go_sem,simprocAttr]
 have hspec:wxCheck t=tail t (firstErr cU (·.name) t.props []):=by simp only[wxCheck,h1,h2,h3,nY,if_true]
 rw[hspec];have hlp:t.props.length<=5:=by simp[ar]at h1;omega
 have hlk:t.kinds.length<=8:=by simp[ar]at h2;omega
 simp only[go_sem,simprocAttr]
 refine aQ [1,28,29] t.props (by omega) (τ:=Unit) (λdone rest _=>firstErr cU (·.name) t.props []=firstErr cU (·.name) rest (done.map (·.name)))
  (λdone _=>[(30,.p (.int .i64 done.length)),(4,.p (.int .i64 0))]) (λ_ _=>[.row 3 [.p t.pv]]) () rfl ?_ ?_ ?_
 .simp only[go_sem,simprocAttr]<;>simp
 .intro _ e2;have hT:tail t (firstErr cU (·.name) t.props [])=tail t none:=by rw[e2];rfl
  rw[hT];simp only[go_sem,simprocAttr]
  refine aQ [1,52,53] t.kinds (by omega) (τ:=Unit) (λdone rest _=>firstErr (kindErr t.props.length) (·.name) t.kinds []=firstErr (kindErr t.props.length) (·.name) rest (done.map (·.name)))
   (λdone _=>[(54,.p (.int .i64 done.length)),(4,.p (.int .i64 0))]) (λ_ _=>[.row 3 [.p t.pv]]) () rfl ?_ ?_ ?_
  .simp only[go_sem,simprocAttr]<;>simp
  .intro _ e2;have hT:tail t none=(0,0,0):=by
    simp only[tail];rw[e2];rfl
   simp only[al,hT,go_sem,simprocAttr]
  .intro done x r _ e1 e2 hx hlt hnx;obtain⟨go,fin⟩:=JS e2;have hle:(((done++[x]).length:Nat):Int)<=(t.kinds.length:Int):=by rw[e1];simp<;>omega
   have htk:(t.kinds.map WxKind.pv).take (done++[x]).length=(done++[x]).map WxKind.pv:=by
    rw[e1,show done++x::r=(done++[x])++r by simp,cj,gk (by simp)]
   have hdl:done.length<1000000:=by have:=congrArg List.length e1;simp at this;omega
   simp only[hlt,hx,hnx,hle,htk,go_sem,simprocAttr];refine ae (CO done x false hdl) rfl ?_;simp only[go_sem,simprocAttr];cases h5:(am (done.map (·.name)) x.name != 0)
   rotate_left
   .have h5':am (done.map (·.name)) x.name≠0:=by simpa using h5
    simp only[al,fin _ (by rw[kindErr,if_neg h5']) h5',go_sem,simprocAttr]
   have h5':am (done.map (·.name)) x.name=0:=by simpa using h5
   have hb:kindErr t.props.length (done.map (·.name)) x=fW t.props.length x:=by rw[kindErr,if_pos h5']
   simp only[go_sem,simprocAttr];cases h6:((x.props.length:Int) != (t.props.length:Int))
   rotate_left
   .have h6':¬x.props.length=t.props.length:=by simp at h6;omega
    simp only[al,fin 3 (by rw[hb,fW,if_neg h6']) (by decide),go_sem,simprocAttr]
   have h6':x.props.length=t.props.length:=by simp at h6;omega
   simp only[go_sem,simprocAttr];refine ae (pM (fv:=.func (.func 182) [] []) x.props (λs=>!ni s) false 2 rfl (by omega) λs _=>⟨_,_,_,rfl,XT s⟩) rfl ?_;simp only[go_sem,simprocAttr];cases h7:(x.props.any λs=>!ni s)
   rotate_left
   .simp only[al,fin 7 (by rw[hb,fW,if_pos h6',h7];rfl) (by decide),go_sem,simprocAttr]
   simp only[go_sem,simprocAttr];refine ae (pM (fv:=.func (.func 183) [] []) x.props (λs=>decide (s.hi<s.lo)) false 2 rfl (by omega) λs _=>⟨_,_,_,rfl,XS s⟩) rfl ?_;simp only[go_sem,simprocAttr];cases h8:(x.props.any λs=>decide (s.hi<s.lo))
   rotate_left
   .simp only[al,fin 2 (by rw[hb,fW,if_pos h6',h7,h8];rfl) (by decide),go_sem,simprocAttr]
   simp only[h5',go_sem,simprocAttr];refine ak e1 () (go (by rw[hb,fW,if_pos h6',h7,h8];rfl)) ?_;simp only[hnx,go_sem,simprocAttr]
 .intro done x r _ e1 e2 hx hlt hnx;obtain⟨go,fin⟩:=JC e2;have hle:(((done++[x]).length:Nat):Int)<=(t.props.length:Int):=by rw[e1];simp<;>omega
  have htk:(t.props.map WxProp.pv).take (done++[x]).length=(done++[x]).map WxProp.pv:=by
   rw[e1,show done++x::r=(done++[x])++r by simp,cj,gk (by simp)]
  have hdl:done.length<1000000:=by have:=congrArg List.length e1;simp at this;omega
  simp only[hlt,hx,hnx,hle,htk,go_sem,simprocAttr];refine ae (CP done x false hdl) rfl ?_;simp only[go_sem,simprocAttr];cases h5:(am (done.map (·.name)) x.name != 0)
  rotate_left
  .have h5':am (done.map (·.name)) x.name≠0:=by simpa using h5
   simp only[al,fin _ (by rw[cU,if_neg h5']) h5',go_sem,simprocAttr]
  have h5':am (done.map (·.name)) x.name=0:=by simpa using h5
  have hb:cU (done.map (·.name)) x=lO x:=by rw[cU,if_pos h5']
  simp only[go_sem,simprocAttr];refine ae (fi 0 10000 [_] true (by simp)) rfl ?_;simp only[cV,bw,cD,go_sem,simprocAttr];cases h6:ar x.error 0 10000
  .simp only[al,fin 7 (by rw[hb,lO,h6];rfl) (by decide),go_sem,simprocAttr]
  simp only[h5',go_sem,simprocAttr];refine ak e1 () (go (by rw[hb,lO,h6];rfl)) ?_;simp only[hnx,go_sem,simprocAttr]
end Wx
variable {P:Program} {M0:Nat->Prop}
structure OnlyB (b:Nat) (w w':World):Prop where
 os:w'.os=w.os
 tape:w'.tape=w.tape
 output:w'.output=w.output
 size:w'.heap.size=w.heap.size
 block:∀k,k≠b->w'.heap[k]?=w.heap[k]?
theorem OnlyB.refl(b)(w):OnlyB b w w:=⟨rfl,rfl,rfl,rfl,λ_ _=>rfl⟩
theorem np(w)(b i)(v):OnlyB b w (w.setCell ⟨b,i,none⟩ v):=
 ⟨rfl,rfl,rfl,by simp[World.setCell],λk hk=>Go.RowKit.Below.heap_setCell _ _ _ _ hk⟩
theorem BQ{S}(hS:HOk P M0 S){i b}{T e}{x x'}{p p' v v'}{w'}(hid:S.h[i]?=some (.bld T e x))(hm:S.m.getD i none=some b)
  (hb:S.w.heap[b]?=some (.cells #[p,v] T (0,0))) (hw:OnlyB b S.w w') (hb':w'.heap[b]?=some (.cells #[p',v'] T (0,0))) (hp:p'=.pointer none\/p'=.pointer (some ⟨b,0,none⟩))
  (hx:x'=.p .nilslice\/∃j n,x'=.slice j n 0 n) (hr:cS M0 S v' x') (hs:∀a n c,v'=.slice (some a) n c->∃N,S.w.shape? a.block=some (e,N)) :
  HOk P M0 ⟨S.m,S.h.set i (.bld T e x'),w'⟩/\Ev S.h.length S ⟨S.m,S.h.set i (.bld T e x'),w'⟩:=by
 have hidlt:=(aF.1 hid).1;have hown:Own S.m b:=aG (cK hm);have hsh:∀c,w'.shape? c=S.w.shape? c:=by
  intro c;by_cases hc:c=b
  .subst hc;simp[World.shape?,hb,hb']
  .simp only[World.shape?,hw.block c hc]
 have he:Ev S.h.length S ⟨S.m,S.h.set i (.bld T e x'),w'⟩:=
  {fr:=⟨hw.os,hw.tape,hw.output,EX hw.size.symm,λc _ hn=>hw.block c (λh=>hn (h▸hown)),λc _=>hsh c⟩
   sub:=λc h=>.inl h
   obj:=λy oy hy hoy=>by
    by_cases hyi:y=i
    .subst hyi;rw[hid]at hoy;cases hoy;exact⟨.bld T e x',by simp[hidlt],.inr (.inr ⟨by simp[AObj.tag],rfl,rfl⟩)⟩
    .exact⟨oy,by simp[eo (Ne.symm hyi),hoy],ObjEv.refl _ _⟩ }
 refine⟨?_,he⟩
 exact
  {len:=by simpa using hS.len
   lt:=λc h=>jM (hS.lt c h) he.fr.size
   m0:=λc h=>⟨jM (hS.m0 c h).1 he.fr.size,(hS.m0 c h).2⟩
   inj:=hS.inj
   gl:=he.glob hS.gl
   obj:=λy oy hoy=>by
    by_cases hyi:y=i
    .subst hyi;have hoy':(S.h.set y (.bld T e x'))[y]?=some oy:=hoy;rw[jf hidlt]at hoy';cases hoy';exact⟨b,p',v',hm,hb',hp,hx,he.rep0 hr (gJ hr),λa n c hv=>let ⟨N,hN⟩:=hs a n c hv;⟨N,(hsh _).trans hN⟩⟩
    .have hoy':(S.h.set i (.bld T e x'))[y]?=some oy:=hoy;rw[eo (Ne.symm hyi)]at hoy';refine(hS.obj y oy hoy').keep he λc hc=>hw.block c λh=>hyi ?_;subst h
     exact hS.inj y i c (cK hc) (cK hm) }
theorem pu{h:Heap}{i}{o}(hid:h[i]?=some o):h.set i o=h:=jP hid
theorem HI{S}(hS:HOk P M0 S){T U e ty}{x}{v v2}{s}{w2}(hx:x=.p .nilslice\/∃j n xs,x=.slice j n 0 n/\S.h[j]?=some (.row 1 xs)/\xs.length=n/\n+s.size<=aw)
  (hs0:s.size<=aw) (hr:cS M0 S v x) (hT:bv P T=some e) (hU:e9 P U=true) (hsz:ce P e=some 1) (hby:l8 P e=some 1) (hz:gD P e 1=true)
  (hsh:∀a n c,v=.slice (some a) n c->∃N,S.w.shape? a.block=some (e,N)) (hrun:(Builtin.append_ #[T,U] ty #[v,.string s]).run P S.w=.ok v2 w2) (hev:∀b,b<S.w.heap.size->w2.shape? b=S.w.shape? b) :
  ∀a n c,v2=.slice (some a) n c->∃N,w2.shape? a.block=some (e,N):=by
 have hTu:=cB hT;have hUu:(∃f,P.underlying U=some (.slice f))\/P.underlying U=some .string:=.inr (fH hU);have hstr:Rep M0 S (.string s) (.p (.str s)):=RepP.str s;obtain⟨D,hlen,hD,hDs,hDel⟩:=my (P:=P) hS (y:=.p (.str s)) (sz:=1) (ys:=s.data.toList.map λb:UInt8=>AV.p (PV.int .u8 (b.toNat:Int))) hstr (by unfold kO;exact if_pos rfl);have hyl:(s.data.toList.map λb:UInt8=>AV.p (PV.int .u8 (b.toNat:Int))).length=s.size:=by rw[eF];exact uX
 rw[hyl]at hlen hD hDs
 have key:∀(base:Option Addr) (n cap:Nat) (O:Array Value),n+s.size<=aw->cap<n+s.size->v=.slice base n cap->(Builtin.firstCells 1 n (.slice base n cap)).run P S.w.drew=.ok O S.w.drew ->
   ∀a n c,v2=.slice (some a) n c->∃N,w2.shape? a.block=some (e,N):=by
  intro base n cap O hroom hlt hv hO a n' c hv2;subst hv;obtain⟨nc,R,hnc,hR,hrun2⟩:=lv (ty:=ty) hTu hUu hsz hby (by omega) hz hroom hlt S.w hlen hO (hD _ rfl);rw[hrun2]at hrun;cases hrun;cases hv2;refine⟨(O++D++R).size,?_⟩;show (S.w.drew.alloc _).shape? S.w.drew.heap.size=_;unfold World.shape?;rw[bK]
 have nil:v=.slice none 0 0->∀a n c,v2=.slice (some a) n c->∃N,w2.shape? a.block=some (e,N):=by
  intro hv;rcases tN s.size with h0|h0
  .subst hv;intro a n c hv2;have:=ml (ty:=ty) hTu hUu hsz S.w (by rw[hlen,h0]) (by have:=hD S.w rfl;rw[h0]at this;exact this);rw[this]at hrun;cases hrun;cases hv2
  .exact key none 0 0 #[] (by omega) (by omega) hv rfl
 rcases hx with rfl|⟨j,n,xs,rfl,hj,hn,hroom⟩
 .have h':RepP (Avoid M0 S.m) S.w v .nilslice:=hr;cases h';exact nil rfl
 .obtain⟨O,hlo,hO,hOs,hOel⟩:=my (P:=P) (y:=.slice j n 0 n) (v:=v) (ys:=xs) (sz:=1) hS hr (by simp[kO,hj,hn,sub,eD (EX hn)]);rcases di hr.2 hj hn with⟨h1,h2,h3,_⟩|⟨b,cap,T',N,hm,rfl,hcap,hsh2,hfit,hreach⟩|⟨_,rfl,h0⟩
  .omega
  .rcases dF cap (n+s.size) with hlt|hge
   .have:=hO S.w.drew rfl;rw[hn]at this;exact key _ n cap O hroom hlt rfl (by simpa using this)
   .obtain⟨C,T2,hb2,hsize2,hel2⟩:=fF hS hj hm;have hNC:N=C.size:=by
     unfold World.shape? at hsh2;rw[hb2]at hsh2;simp at hsh2;exact hsh2.2.symm
    have hrun2:=oh (ty:=ty) (cap:=cap) hTu hUu hsz hge S.w hlen (hD _ rfl) (by simpa using hb2) (by rw[hDs];omega) (qG hyl (by rw[hDs]) hDel);have hv:(Value.slice (some ⟨b,0*1,none⟩) n cap)=.slice (some ⟨b,0,none⟩) n cap:=by rw[E0]
    rw[hv,hrun2]at hrun;intro a n' c hv2;cases hrun;cases hv2;obtain⟨N',hN'⟩:=hsh _ _ _ rfl;exact⟨N',(hev _ (sc hN')).trans hN'⟩
  .subst h0;exact nil rfl
end Abs
end Go.Proofs.YtoapoaoelpcniaaGreatDoor
namespace Go.Proofs.YtoapoaoelpcniaaGreatDoor
namespace Abs
variable {P:Program} {H:Hints} {Q:Cont}
def Mv (P:Program) (fv:PV) (n:Nat) (l:List (List PV)):Prop:=
 (∀a,a∈l->a.length=n)/\∃(g:FuncId) (first cap:List PV),fv=.func (.func g) first cap/\∀(id:Nat) (Inv:Nat->Heap->Prop) (Fin:Heap->Prop) (h0:Heap),id<h0.length ->
  (∀(k:Nat) (xs:List PV) (lo mid:Heap),l[k]?=some xs->Inv k lo->lo.length=h0.length ->
   ue P id (xs.map .p) (lo++mid) (λr h'=>∃lo' ext,h'=lo'++mid++ext/\lo'.length=h0.length /\
    ((r=.ret (.p (.bool true))/\Inv (k+1) lo')\/(r=.ret (.p (.bool false))/\Fin lo')))) ->
  Inv 0 h0->aD P g (first.map .p++[.ref .yl id]++cap.map .p) h0 (λr h'=>r=.ret (.p (.tuple []))/\∃lo mid,h'=lo++mid/\lo.length=h0.length/\(Inv l.length lo\/Fin lo))
theorem Kn{ps}{assign body}{g}{A}{fv}{l}(Inv:AObj->Nat->Heap->Prop)(Fin:Code->Heap->Prop)
  (hrc:A.rc=.no) (hg:A.eval g=.p fv) (hit:Mv P fv ps.size l) (hD:ea P) (hps:pB A.n ps=true) (hoka:dh H A.n assign=true) (hokb:dh H A.n body=true)
  (hat:∀o k h,Inv o k h->h[A.h.length+1]?=some o) (h0:∀o,Inv o 0 (A.h++[.dblock,o]))
  (hround:∀(oR oB) (oD) (k) (xs) (lo mid),l[k]?=some xs->Inv oR k lo->lo.length=A.h.length+2 ->
   @W ⟨P,H,assign,uG oR oB (A.h.length+1) (lo++mid).length (λB=>wp P H body (qo oB oR oD (A.h.length+1) (lo++mid).length
    (λr h'=>∃lo' ext,h'=lo'++mid++ext/\lo'.length=A.h.length+2/\((r=.ret (.p (.bool true))/\Inv oR (k+1) lo')\/(r=.ret (.p (.bool false))/\∃c,Fin c lo'/\lo'[A.h.length+1]?=some (oD c))))) B)⟩
    {n:=A.n,bs:=(lo++mid).length,rc:=.rnd,tmps:=gQ A.tmps ps.toList (xs.map .p),h:=lo++mid,df:=[] })
  (hend:∀o lo mid,Inv o l.length lo->lo.length=A.h.length+2->@WQ ⟨Q⟩ .normal { A with h:=(lo++mid).set (A.h.length+1) .dead,df:=.collected A.h.length::A.df })
  (hfin:∀c lo mid,Fin c lo->lo.length=A.h.length+2->xx Q { A with h:=(lo++mid).set (A.h.length+1) .dead,df:=.collected A.h.length::A.df } c):@W ⟨P,H,.rangeFunc g ps assign body,Q⟩ A:=by
 obtain⟨hn,gf,first,cap,rfl,hi⟩:=hit;have hoR:∃oR,oR=AObj.loop A.n A.tmps ps assign body .ready none:=⟨_,rfl⟩
 obtain⟨oR,hR⟩:=hoR
 refine yR (f:=gf) (args:=first.map .p++[.ref .yl (A.h.length+1)]++cap.map .p)
  (R:=λr h=>r=.ret (.p (.tuple []))/\∃lo mid,h=lo++mid/\lo.length=A.h.length+2/\(Inv oR l.length lo\/∃c,Fin c lo/\lo[A.h.length+1]?=some (.loop A.n A.tmps ps assign body .done (some c))))
  hrc (by rw[hg];rfl) ?_ (λv h hr=>?_) λv h hr=>(by cases hr.1)
 .rw[<-hR];have hl2:(A.h++[.dblock,oR]).length=A.h.length+2:=by simp
  have key:=hi (A.h.length+1) (Inv oR) (λlo=>∃c,Fin c lo/\lo[A.h.length+1]?=some (.loop A.n A.tmps ps assign body .done (some c))) (A.h++[.dblock,oR]) (by simp) (λk xs lo mid hv hI hlo=>?_) (h0 oR)
  .rw[hl2]at key;exact key
  rw[hl2]at hlo |-;have hat':=hat _ _ _ hI;have hat2:(lo++mid)[A.h.length+1]?=some oR:=by rw[aX (by omega)];exact hat'
  rw[hR]at hat2;refine rF hD (H:=H) hat2 hps (by rw[eF];exact(hn xs (aG hv)).symm) hoka hokb ?_;have:=hround oR (.loop A.n A.tmps ps assign body .busy none) (λj=>.loop A.n A.tmps ps assign body .done (some j)) k xs lo mid hv hI hlo;refine j7 assign (λe B hB=>?_) this
  cases e with
  |normal=>
   obtain⟨b1,b2,b3⟩:=hB;rw[hR]at b2;refine⟨b1,b2,j7 body (λe C hC=>?_) b3⟩
   cases e with
   |normal=>
    obtain⟨c1,c2,c3⟩:=hC;refine⟨c1,⟨_,_,c2⟩,?_⟩;rw[<-hR];obtain⟨lo',ext,d1,d2,d3⟩:=c3;refine⟨lo',ext,d1,d2,?_⟩;rcases d3 with d3|⟨d3,_⟩
    .exact .inl d3
    .cases d3
   |exit id=>
    obtain⟨c1,c2,c3⟩:=hC;refine⟨c1,⟨_,_,c2⟩,?_⟩;obtain⟨lo',ext,d1,d2,d3⟩:=c3;refine⟨lo',ext,d1,d2,?_⟩;rcases d3 with⟨d3,_⟩|⟨d3,c,f1,f2⟩
    .cases d3
    .exact .inr ⟨rfl,c,f1,f2⟩
   |ret=>
    obtain⟨c1,c2,c3⟩:=hC;refine⟨c1,⟨_,_,c2⟩,?_⟩;obtain⟨lo',ext,d1,d2,d3⟩:=c3;refine⟨lo',ext,d1,d2,?_⟩;rcases d3 with⟨d3,_⟩|⟨d3,c,f1,f2⟩
    .cases d3
    .exact .inr ⟨rfl,c,f1,f2⟩
   |panic v=>
    obtain⟨_,_,c3⟩:=hC;obtain⟨lo',ext,d1,d2,d3⟩:=c3
    rcases d3 with⟨d3,_⟩|⟨d3,_⟩<;>cases d3
  |exit id=>exact hB
  |ret=>exact hB
  |panic v=>exact hB
 .obtain⟨hr,lo,mid,rfl,hlo,hI⟩:=hr;rcases hI with hI|⟨c,f1,f2⟩
  .have hat':(lo++mid)[A.h.length+1]?=some oR:=by rw[aX (by omega)];exact hat _ _ _ hI
   rw[hR]at hat';rw[hat'];exact⟨by simp,hend _ _ _ hI hlo⟩
  .have hat':(lo++mid)[A.h.length+1]?=some (.loop A.n A.tmps ps assign body .done (some c)):=by rw[aX (by omega)];exact f2
   rw[hat'];have:=hfin c lo mid f1 hlo;refine⟨by simp,?_⟩;cases c<;>first|exact this.elim|exact this
theorem k7{lo:Heap}{n0}(h:lo.length=n0)(t)(j):(lo++t)[n0+j]?=t[j]?:=by rw[bW (by omega)];congr 1;omega
theorem k8{lo:Heap}{n0}(h:lo.length=n0)(t):(lo++t)[n0]?=t[0]?:=k7 h t 0
theorem mS{lo:Heap}{n0}(h:lo.length=n0)(t)(j)(x):(lo++t).set (n0+j) x=lo++t.set j x:=by
 rw[uU _ _ (by omega)];congr 2;omega
theorem mT{lo:Heap}{n0}(h:lo.length=n0)(t)(x):(lo++t).set n0 x=lo++t.set 0 x:=mS h t 0 x
end Abs
end Go.Proofs.YtoapoaoelpcniaaGreatDoor
