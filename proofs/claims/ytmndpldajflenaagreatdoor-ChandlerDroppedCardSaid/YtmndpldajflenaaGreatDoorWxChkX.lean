/- CONTRACTS of the program's functions, and laws on what they return. No conditions but those in the theorems' heads. -/
import Derived.Test.YtmndpldajflenaaGreatDoorClGoX
import Derived.Lib.UnsafeStr
set_option linter.all false
set_option maxHeartbeats 1000000
open Go.Proofs.Tryz renaming prog->TP
open Go.Proofs.Tryz
namespace Go.Proofs.YtmndpldajflenaaGreatDoor
namespace Abs
namespace Wx
set_option maxRecDepth 4000
theorem zk(lo hi n):af TP 310 [.int .i64 n,.ptr 1 [.int .i64 lo] 0 0,.ptr 1 [.int .i64 hi] 0 0] (.bool (!ak n lo hi)):=by
 refine aa (ag func310 rfl) rfl ?_;simp only[go_sem,simprocAttr];refine aK (λa=>?_) (λa=>?_)<;>simp only[a,go_sem,simprocAttr]<;>simp_all [ak];rw[<-decide_not];congr 1;simp
theorem e6(lo hi)(l:List Int)(b)(a:l.length<1000000000):af TP 243 [.int .i64 lo,.int .i64 hi,.slice 1 (l.map aI) b] (.bool (l.any λn=>!ak n lo hi)):=by
 refine aa (ag func243 rfl) rfl ?_;simp only[go_sem,simprocAttr];refine aU (jC (fv:=.func (.func 310) [] [.ptr 1 [.int .i64 lo] 0 0,.ptr 1 [.int .i64 hi] 0 0]) l (λn=>!ak n lo hi) b 1 rfl a λn _=>⟨_,_,_,rfl,zk lo hi n⟩) ?_ (.bool _) ?_
 .simp only[go_sem,simprocAttr]
 .simp only[go_sem,simprocAttr]
theorem u5(x:WxProp):af TP 245 [x.pv] (.str x.name):=by
 refine aa (ag func245 rfl) rfl ?_;simp only[go_sem,simprocAttr]
theorem EL(s)(x:WxProp):af TP 312 [x.pv,.ptr 1 [.func (.func 245) [] []] 0 0,.ptr 1 [.str s] 0 0] (.bool (x.name==s)):=by
 refine aa (ag func312 rfl) rfl ?_;simp only[go_sem,simprocAttr];refine ax (u5 x) rfl ?_;simp only[go_sem,simprocAttr]
theorem AC(l)(x)(b)(u:l.length<1000000):af TP 244 [.slice 2 ((l++[x]).map WxProp.pv) b,.func (.func 245) [] []] (.int .i64 (ai (l.map (·.name)) x.name)):=by
 have hw:IntKind.i64.wrap ((((l++[x]).length:Nat):Int)-1)=((l.length:Nat):Int):=by
  rw[cl (by simp<;>omega) (by simp[ao]<;>omega)];simp
 have hx:(l++[x])[l.length]?=some x:=by simp
 have j:((l.length:Nat):Int)<(((l++[x]).length:Nat):Int):=by simp<;>omega
 have o:((l.length:Nat):Int)<=(((l++[x]).length:Nat):Int):=by omega
 have i:((l++[x]).map WxProp.pv).take l.length=l.map WxProp.pv:=by rw[bD,fa (by simp)]
 have q:(l.length==(l++[x]).length)=false:=by simp
 refine aa (ag func244 rfl) rfl ?_;simp only[hw,hx,j,go_sem,simprocAttr];refine ax (u5 x) rfl ?_;simp only[go_sem,simprocAttr];refine ae (jh x.name) rfl ?_;simp only[go_sem,simprocAttr];cases e:nameOk x.name
 .simp only[go_sem,simprocAttr];simp[ai,e]
 .simp only[o,i,q,go_sem,simprocAttr];refine aU (AI (fv:=.func (.func 312) [] [.ptr 1 [.func (.func 245) [] []] 0 0,.ptr 1 [.str x.name] 0 0]) l (λy=>y.name==x.name) false 2 rfl (by omega) λy _=>⟨_,_,_,rfl,EL x.name y⟩) ?_ (.bool _) ?_
  .simp only[go_sem,simprocAttr]
  simp only[go_sem,simprocAttr];refine aK (λa=>?_) (λa=>?_)<;>simp only[a,go_sem,simprocAttr]
  .simp only[ai,e,l5,js,a,if_true]
  .simp only[ai,e,l5,js,a,if_true,eG,if_false]
theorem u4(x:WxKind):af TP 247 [x.pv] (.str x.name):=by
 refine aa (ag func247 rfl) rfl ?_;simp only[go_sem,simprocAttr]
theorem EK(s)(x:WxKind):af TP 314 [x.pv,.ptr 1 [.func (.func 247) [] []] 0 0,.ptr 1 [.str s] 0 0] (.bool (x.name==s)):=by
 refine aa (ag func314 rfl) rfl ?_;simp only[go_sem,simprocAttr];refine ax (u4 x) rfl ?_;simp only[go_sem,simprocAttr]
theorem AB(l)(x)(b)(u:l.length<1000000):af TP 246 [.slice 2 ((l++[x]).map WxKind.pv) b,.func (.func 247) [] []] (.int .i64 (ai (l.map (·.name)) x.name)):=by
 have hw:IntKind.i64.wrap ((((l++[x]).length:Nat):Int)-1)=((l.length:Nat):Int):=by
  rw[cl (by simp<;>omega) (by simp[ao]<;>omega)];simp
 have hx:(l++[x])[l.length]?=some x:=by simp
 have j:((l.length:Nat):Int)<(((l++[x]).length:Nat):Int):=by simp<;>omega
 have o:((l.length:Nat):Int)<=(((l++[x]).length:Nat):Int):=by omega
 have i:((l++[x]).map WxKind.pv).take l.length=l.map WxKind.pv:=by rw[bD,fa (by simp)]
 have q:(l.length==(l++[x]).length)=false:=by simp
 refine aa (ag func246 rfl) rfl ?_;simp only[hw,hx,j,go_sem,simprocAttr];refine ax (u4 x) rfl ?_;simp only[go_sem,simprocAttr];refine ae (jh x.name) rfl ?_;simp only[go_sem,simprocAttr];cases e:nameOk x.name
 .simp only[go_sem,simprocAttr];simp[ai,e]
 .simp only[o,i,q,go_sem,simprocAttr];refine aU (AH (fv:=.func (.func 314) [] [.ptr 1 [.func (.func 247) [] []] 0 0,.ptr 1 [.str x.name] 0 0]) l (λy=>y.name==x.name) false 2 rfl (by omega) λy _=>⟨_,_,_,rfl,EK x.name y⟩) ?_ (.bool _) ?_
  .simp only[go_sem,simprocAttr]
  simp only[go_sem,simprocAttr];refine aK (λa=>?_) (λa=>?_)<;>simp only[a,go_sem,simprocAttr]
  .simp only[ai,e,l5,js,a,if_true]
  .simp only[ai,e,l5,js,a,if_true,eG,if_false]
def kL (p:WxProp):Int:=if ak p.error 0 10000=true then 0 else 7
def lT (s:Span):Bool:=ak s.lo 0 100000&&ak s.hi 0 100000
def fG (many:Nat) (k:WxKind):Int:=if k.props.length=many then(if(k.props.any λs=>!lT s)=true then 7 else if(k.props.any λs=>decide (s.hi<s.lo))=true then 2 else 0) else 3
def cD (before:List ByteArray) (p:WxProp):Int:=if ai before p.name=0 then kL p else ai before p.name
def kindErr (many:Nat) (before:List ByteArray) (k:WxKind):Int:=if ai before k.name=0 then fG many k else ai before k.name
def tail (t:WxTable):Option (Int×Int)->Int×Int×Int
 |some (i,e)=>(2,i,e)
 |none=>match firstErr (kindErr t.props.length) (·.name) t.kinds []with|some (i,e)=>(3,i,e)|none=>(0,0,0)
def wxCheck (t:WxTable):Int×Int×Int:=
 if(ak t.props.length 1 5&&ak t.kinds.length 1 8)=true then
  if ak t.purity 1 1000=true then tail t (firstErr cD (·.name) t.props []) else(1,0,7)
 else(1,0,3)
theorem GW{t}{a r}{x}(o:firstErr cD (·.name) t.props []=firstErr cD (·.name) (x::r) (a.map (·.name))) :
  (cD (a.map (·.name)) x=0->firstErr cD (·.name) t.props []=firstErr cD (·.name) r ((a++[x]).map (·.name))) /\
  ∀e,cD (a.map (·.name)) x=e->e≠0->tail t (firstErr cD (·.name) t.props [])=(2,(a.length:Int),e):=by
 have j:firstErr cD (·.name) t.props []=if cD (a.map (·.name)) x=0 then firstErr cD (·.name) r ((a++[x]).map (·.name)) else some ((a.length:Int),cD (a.map (·.name)) x):=by
  rw[o,firstErr];simp
 exact⟨λh=>by rw[j,if_pos h],λe l i=>by rw[j,l,if_neg i];rfl⟩
theorem Hc{t}{a r}{x}(o:firstErr (kindErr t.props.length) (·.name) t.kinds []=firstErr (kindErr t.props.length) (·.name) (x::r) (a.map (·.name))) :
  (kindErr t.props.length (a.map (·.name)) x=0->firstErr (kindErr t.props.length) (·.name) t.kinds []=firstErr (kindErr t.props.length) (·.name) r ((a++[x]).map (·.name))) /\
  ∀e,kindErr t.props.length (a.map (·.name)) x=e->e≠0->tail t none=(3,(a.length:Int),e):=by
 have j:firstErr (kindErr t.props.length) (·.name) t.kinds []=if kindErr t.props.length (a.map (·.name)) x=0 then firstErr (kindErr t.props.length) (·.name) r ((a++[x]).map (·.name)) else some ((a.length:Int),kindErr t.props.length (a.map (·.name)) x):=by
  rw[o,firstErr];simp
 exact⟨λh=>by rw[j,if_pos h],λe l i=>by simp only[tail];rw[j,l,if_neg i]⟩
theorem UA(s):af TP 249 [s.pv] (.bool (!lT s)):=by
 refine aa (ag func249 rfl) rfl ?_;simp only[go_sem,simprocAttr];refine ae (e6 0 100000 [_,_] true (by simp)) rfl ?_;simp only[bJ,cb,cn,<-ko,lT,go_sem,simprocAttr]
theorem Uz(s:Span):af TP 250 [s.pv] (.bool (decide (s.hi<s.lo))):=by
 refine aa (ag func250 rfl) rfl ?_;simp only[go_sem,simprocAttr]
theorem o3(t):af TP 193 [t.pv] (ah (wxCheck t)):=by
 refine aa (ag func193 rfl) rfl ?_;simp only[go_sem,simprocAttr];refine ae (e6 1 5 [_] true (by simp)) rfl ?_;simp only[bJ,cb,cn,go_sem,simprocAttr];cases F:ak t.props.length 1 5
 .simp only[ah,wxCheck,F,go_sem,simprocAttr]
 simp only[go_sem,simprocAttr];refine ae (e6 1 8 [_] true (by simp)) rfl ?_;simp only[bJ,cb,cn,go_sem,simprocAttr];cases G:ak t.kinds.length 1 8
 .simp only[ah,wxCheck,F,G,go_sem,simprocAttr]
 simp only[go_sem,simprocAttr];refine ae (e6 1 1000 [_] true (by simp)) rfl ?_;simp only[bJ,cb,cn,go_sem,simprocAttr];cases M:ak t.purity 1 1000
 .simp only[ah,wxCheck,F,G,M,go_sem,simprocAttr]
 have C:wxCheck t=tail t (firstErr cD (·.name) t.props []):=by simp only[wxCheck,F,G,M,qf,if_true]
 rw[C];have N:t.props.length<=5:=by simp[ak]at F;omega
 have O:t.kinds.length<=8:=by simp[ak]at G;omega
 simp only[go_sem,simprocAttr]
 refine bg [1,28,29] t.props (by omega) (τ:=Unit) (λa rest _=>firstErr cD (·.name) t.props []=firstErr cD (·.name) rest (a.map (·.name)))
  (λa _=>[(30,.p (.int .i64 a.length)),(4,.p (.int .i64 0))]) (λ_ _=>[.row 3 [.p t.pv]]) () rfl ?_ ?_ ?_
 .simp only[go_sem,simprocAttr]<;>simp
 .intro _ u;have I:tail t (firstErr cD (·.name) t.props [])=tail t none:=by rw[u];rfl
  rw[I];simp only[go_sem,simprocAttr]
  refine bg [1,52,53] t.kinds (by omega) (τ:=Unit) (λa rest _=>firstErr (kindErr t.props.length) (·.name) t.kinds []=firstErr (kindErr t.props.length) (·.name) rest (a.map (·.name)))
   (λa _=>[(54,.p (.int .i64 a.length)),(4,.p (.int .i64 0))]) (λ_ _=>[.row 3 [.p t.pv]]) () rfl ?_ ?_ ?_
  .simp only[go_sem,simprocAttr]<;>simp
  .intro _ u;have I:tail t none=(0,0,0):=by
    simp only[tail];rw[u];rfl
   simp only[ah,I,go_sem,simprocAttr]
  .intro a x r _ o u hx y j;obtain⟨K,i⟩:=Hc u;have z:(((a++[x]).length:Nat):Int)<=(t.kinds.length:Int):=by rw[o];simp<;>omega
   have v:(t.kinds.map WxKind.pv).take (a++[x]).length=(a++[x]).map WxKind.pv:=by
    rw[o,show a++x::r=(a++[x])++r by simp,bD,fa (by simp)]
   have A:a.length<1000000:=by have:=congrArg List.length o;simp at this;omega
   simp only[y,hx,j,z,v,go_sem,simprocAttr];refine ae (AB a x false A) rfl ?_;simp only[go_sem,simprocAttr];cases E:(ai (a.map (·.name)) x.name != 0)
   rotate_left
   .have e:ai (a.map (·.name)) x.name≠0:=by simpa using E
    simp only[ah,i _ (by rw[kindErr,if_neg e]) e,go_sem,simprocAttr]
   have e:ai (a.map (·.name)) x.name=0:=by simpa using E
   have q:kindErr t.props.length (a.map (·.name)) x=fG t.props.length x:=by rw[kindErr,if_pos e]
   simp only[go_sem,simprocAttr];cases D:((x.props.length:Int) != (t.props.length:Int))
   rotate_left
   .have l:¬x.props.length=t.props.length:=by simp at D;omega
    simp only[ah,i 3 (by rw[q,fG,if_neg l]) (by decide),go_sem,simprocAttr]
   have l:x.props.length=t.props.length:=by simp at D;omega
   simp only[go_sem,simprocAttr];refine ae (nW (fv:=.func (.func 249) [] []) x.props (λs=>!lT s) false 2 rfl (by omega) λs _=>⟨_,_,_,rfl,UA s⟩) rfl ?_;simp only[go_sem,simprocAttr];cases J:(x.props.any λs=>!lT s)
   rotate_left
   .simp only[ah,i 7 (by rw[q,fG,if_pos l,J];rfl) (by decide),go_sem,simprocAttr]
   simp only[go_sem,simprocAttr];refine ae (nW (fv:=.func (.func 250) [] []) x.props (λs=>decide (s.hi<s.lo)) false 2 rfl (by omega) λs _=>⟨_,_,_,rfl,Uz s⟩) rfl ?_;simp only[go_sem,simprocAttr];cases L:(x.props.any λs=>decide (s.hi<s.lo))
   rotate_left
   .simp only[ah,i 2 (by rw[q,fG,if_pos l,J,L];rfl) (by decide),go_sem,simprocAttr]
   simp only[e,go_sem,simprocAttr];refine aD o () (K (by rw[q,fG,if_pos l,J,L];rfl)) ?_;simp only[j,go_sem,simprocAttr]
 .intro a x r _ o u hx y j;obtain⟨K,i⟩:=GW u;have z:(((a++[x]).length:Nat):Int)<=(t.props.length:Int):=by rw[o];simp<;>omega
  have v:(t.props.map WxProp.pv).take (a++[x]).length=(a++[x]).map WxProp.pv:=by
   rw[o,show a++x::r=(a++[x])++r by simp,bD,fa (by simp)]
  have A:a.length<1000000:=by have:=congrArg List.length o;simp at this;omega
  simp only[y,hx,j,z,v,go_sem,simprocAttr];refine ae (AC a x false A) rfl ?_;simp only[go_sem,simprocAttr];cases E:(ai (a.map (·.name)) x.name != 0)
  rotate_left
  .have e:ai (a.map (·.name)) x.name≠0:=by simpa using E
   simp only[ah,i _ (by rw[cD,if_neg e]) e,go_sem,simprocAttr]
  have e:ai (a.map (·.name)) x.name=0:=by simpa using E
  have q:cD (a.map (·.name)) x=kL x:=by rw[cD,if_pos e]
  simp only[go_sem,simprocAttr];refine ae (e6 0 10000 [_] true (by simp)) rfl ?_;simp only[bJ,cb,cn,go_sem,simprocAttr];cases D:ak x.error 0 10000
  .simp only[ah,i 7 (by rw[q,kL,D];rfl) (by decide),go_sem,simprocAttr]
  simp only[e,go_sem,simprocAttr];refine aD o () (K (by rw[q,kL,D];rfl)) ?_;simp only[j,go_sem,simprocAttr]
end Wx
variable {P:Program} {M0:Nat->Prop}
structure OnlyB (b:Nat) (w w':World):Prop where
 os:w'.os=w.os
 tape:w'.tape=w.tape
 output:w'.output=w.output
 size:w'.heap.size=w.heap.size
 block:∀k,k≠b->w'.heap[k]?=w.heap[k]?
theorem OnlyB.refl(b)(w):OnlyB b w w:=⟨rfl,rfl,rfl,rfl,λ_ _=>rfl⟩
theorem lW(w)(b i)(v):OnlyB b w (w.setCell ⟨b,i,none⟩ v):=
 ⟨rfl,rfl,rfl,by simp[World.setCell],λk a=>Go.RowKit.Below.heap_setCell _ _ _ _ a⟩
theorem zx{S}(z:HOk P M0 S){i b}{T e}{x x'}{p p' v v'}{w'}(E:S.h[i]?=some (.bld T e x))(J:S.m.getD i none=some b)
  (U:S.w.heap[b]?=some (.cells #[p,v] T (0,0))) (hw:OnlyB b S.w w') (F:w'.heap[b]?=some (.cells #[p',v'] T (0,0))) (O:p'=.pointer none\/p'=.pointer (some ⟨b,0,none⟩))
  (hx:x'=.p .nilslice\/∃j n,x'=.slice j n 0 n) (K:bB M0 S v' x') (M:∀a n c,v'=.slice (some a) n c->∃N,S.w.shape? a.block=some (e,N)) :
  HOk P M0 ⟨S.m,S.h.set i (.bld T e x'),w'⟩/\Ev S.h.length S ⟨S.m,S.h.set i (.bld T e x'),w'⟩:=by
 have u:=(aB.1 E).1;have G:Own S.m b:=aG (cu J);have D:∀c,w'.shape? c=S.w.shape? c:=by
  intro c;by_cases I:c=b
  .subst I;simp[World.shape?,U,F]
  .simp only[World.shape?,hw.block c I]
 have A:Ev S.h.length S ⟨S.m,S.h.set i (.bld T e x'),w'⟩:=
  {fr:=⟨hw.os,hw.tape,hw.output,CG hw.size.symm,λc _ R=>hw.block c (λh=>R (h▸G)),λc _=>D c⟩
   sub:=λc h=>.inl h
   obj:=λy C X q=>by
    by_cases o:y=i
    .subst o;rw[E]at q;cases q;exact⟨.bld T e x',by simp[u],.inr (.inr ⟨by simp[AObj.tag],rfl,rfl⟩)⟩
    .exact⟨C,by simp[db (Ne.symm o),q],ObjEv.refl _ _⟩ }
 refine⟨?_,A⟩
 exact
  {len:=by simpa using z.len
   lt:=λc h=>gk (z.lt c h) A.fr.size
   m0:=λc h=>⟨gk (z.m0 c h).1 A.fr.size,(z.m0 c h).2⟩
   inj:=z.inj
   gl:=A.glob z.gl
   obj:=λy C q=>by
    by_cases o:y=i
    .subst o;have l:(S.h.set y (.bld T e x'))[y]?=some C:=q;rw[fZ u]at l;cases l;exact⟨b,p',v',J,F,O,hx,A.rep0 K (fb K),λa n c L=>let ⟨N,V⟩:=M a n c L;⟨N,(D _).trans V⟩⟩
    .have l:(S.h.set i (.bld T e x'))[y]?=some C:=q;rw[db (Ne.symm o)]at l;refine(z.obj y C l).keep A λc I=>hw.block c λh=>o ?_;subst h
     exact z.inj y i c (cu I) (cu J) }
theorem nH{h:Heap}{i}{o}(a:h[i]?=some o):h.set i o=h:=je a
theorem E'{S}(hS:HOk P M0 S){T U e ty}{x}{v v2}{s}{K}(hx:x=.p .nilslice\/∃j n xs,x=.slice j n 0 n/\S.h[j]?=some (.row 1 xs)/\xs.length=n/\n+s.size<=ao)
  (b1:s.size<=ao) (hr:bB M0 S v x) (hT:aP P T=some e) (hU:eg P U=true) (A:bL P e=some 1) (a6:np P e=some 1) (hz:lm P e 1=true)
  (a3:∀a n c,v=.slice (some a) n c->∃N,S.w.shape? a.block=some (e,N)) (i:(Builtin.append_ #[T,U] ty #[v,.string s]).run P S.w=.ok v2 K) (a5:∀b,b<S.w.heap.size->K.shape? b=S.w.shape? b) :
  ∀a n c,v2=.slice (some a) n c->∃N,K.shape? a.block=some (e,N):=by
 have G:=bW hT;have F:(∃f,P.underlying U=some (.slice f))\/P.underlying U=some .string:=.inr (fk hU);have Z:Rep M0 S (.string s) (.p (.str s)):=RepP.str s;obtain⟨D,u,hD,I,a0⟩:=lv (P:=P) hS (y:=.p (.str s)) (sz:=1) (ys:=s.data.toList.map λb:UInt8=>AV.p (PV.int .u8 (b.toNat:Int))) Z (by unfold gj;exact if_pos rfl);have V:(s.data.toList.map λb:UInt8=>AV.p (PV.int .u8 (b.toNat:Int))).length=s.size:=by rw[dp];exact wS
 rw[V]at u hD I
 have M:∀(base:Option Addr) (n cap:Nat) (O:Array Value),n+s.size<=ao->cap<n+s.size->v=.slice base n cap->(Builtin.firstCells 1 n (.slice base n cap)).run P S.w.drew=.ok O S.w.drew ->
   ∀a n c,v2=.slice (some a) n c->∃N,K.shape? a.block=some (e,N):=by
  intro base n cap O o E J hO a n' c z;subst J;obtain⟨nc,R,b2,hR,l⟩:=kr (ty:=ty) G F A a6 (by omega) hz o E S.w u hO (hD _ rfl);rw[l]at i;cases i;cases z;refine⟨(O++D++R).size,?_⟩;show (S.w.drew.alloc _).shape? S.w.drew.heap.size=_;unfold World.shape?;rw[bw]
 have nil:v=.slice none 0 0->∀a n c,v2=.slice (some a) n c->∃N,K.shape? a.block=some (e,N):=by
  intro J;rcases pu s.size with L|L
  .subst J;intro a n c z;have:=li (ty:=ty) G F A S.w (by rw[u,L]) (by have:=hD S.w rfl;rw[L]at this;exact this);rw[this]at i;cases i;cases z
  .exact M none 0 0 #[] (by omega) (by omega) J rfl
 rcases hx with rfl|⟨j,n,xs,rfl,hj,hn,o⟩
 .have h':RepP (Avoid M0 S.m) S.w v .nilslice:=hr;cases h';exact nil rfl
 .obtain⟨O,b3,hO,b4,b0⟩:=lv (P:=P) (y:=.slice j n 0 n) (v:=v) (ys:=xs) (sz:=1) hS hr (by simp[gj,hj,hn,sub,fC (CG hn)]);rcases cm hr.2 hj hn with⟨h1,h2,h3,_⟩|⟨b,cap,T',N,hm,rfl,a9,q,a7,a2⟩|⟨_,rfl,L⟩
  .omega
  .rcases cx cap (n+s.size) with E|a4
   .have:=hO S.w.drew rfl;rw[hn]at this;exact M _ n cap O o E rfl (by simpa using this)
   .obtain⟨C,T2,X,a1,a8⟩:=fj hS hj hm;have b5:N=C.size:=by
     unfold World.shape? at q;rw[X]at q;simp at q;exact q.2.symm
    have l:=mL (ty:=ty) (cap:=cap) G F A a4 S.w u (hD _ rfl) (by simpa using X) (by rw[I];omega) (oZ V (by rw[I]) a0);have J:(Value.slice (some ⟨b,0*1,none⟩) n cap)=.slice (some ⟨b,0,none⟩) n cap:=by rw[CD]
    rw[J,l]at i;intro a n' c z;cases i;cases z;obtain⟨N',Y⟩:=a3 _ _ _ rfl;exact⟨N',(a5 _ (ql Y)).trans Y⟩
  .subst L;exact nil rfl
end Abs
end Go.Proofs.YtmndpldajflenaaGreatDoor
namespace Go.Proofs.YtmndpldajflenaaGreatDoor
namespace Abs
variable {P:Program} {H:Hints} {Q:Cont}
def JL (P:Program) (fv:PV) (n:Nat) (l:List (List PV)):Prop:=
 (∀a,a∈l->a.length=n)/\∃(g:FuncId) (first cap:List PV),fv=.func (.func g) first cap/\∀(id:Nat) (Inv:Nat->Heap->Prop) (Fin:Heap->Prop) (h0:Heap),id<h0.length ->
  (∀(k:Nat) (xs:List PV) (lo mid:Heap),l[k]?=some xs->Inv k lo->lo.length=h0.length ->
   rT P id (xs.map .p) (lo++mid) (λr h'=>∃lo' ext,h'=lo'++mid++ext/\lo'.length=h0.length /\
    ((r=.ret (.p (.bool true))/\Inv (k+1) lo')\/(r=.ret (.p (.bool false))/\Fin lo')))) ->
  Inv 0 h0->ar P g (first.map .p++[.ref .yl id]++cap.map .p) h0 (λr h'=>r=.ret (.p (.tuple []))/\∃lo mid,h'=lo++mid/\lo.length=h0.length/\(Inv l.length lo\/Fin lo))
theorem HH{ps}{assign body}{g}{A}{fv}{l}(z:AObj->Nat->Heap->Prop)(Fin:Code->Heap->Prop)
  (a0:A.rc=.no) (hg:A.eval g=.p fv) (a3:JL P fv ps.size l) (hD:dI P) (a1:nL A.n ps=true) (X:cZ H A.n assign=true) (V:cZ H A.n body=true)
  (U:∀o k h,z o k h->h[A.h.length+1]?=some o) (h0:∀o,z o 0 (A.h++[.dblock,o]))
  (E:∀(y oB) (oD) (k) (xs) (lo a),l[k]?=some xs->z y k lo->lo.length=A.h.length+2 ->
   @W ⟨P,H,assign,sq y oB (A.h.length+1) (lo++a).length (λB=>wp P H body (oL oB y oD (A.h.length+1) (lo++a).length
    (λr h'=>∃i ext,h'=i++a++ext/\i.length=A.h.length+2/\((r=.ret (.p (.bool true))/\z y (k+1) i)\/(r=.ret (.p (.bool false))/\∃c,Fin c i/\i[A.h.length+1]?=some (oD c))))) B)⟩
    {n:=A.n,bs:=(lo++a).length,rc:=.rnd,tmps:=gu A.tmps ps.toList (xs.map .p),h:=lo++a,df:=[] })
  (Z:∀o lo a,z o l.length lo->lo.length=A.h.length+2->@WQ ⟨Q⟩ .normal { A with h:=(lo++a).set (A.h.length+1) .dead,df:=.collected A.h.length::A.df })
  (Y:∀c lo a,Fin c lo->lo.length=A.h.length+2->uM Q { A with h:=(lo++a).set (A.h.length+1) .dead,df:=.collected A.h.length::A.df } c):@W ⟨P,H,.rangeFunc g ps assign body,Q⟩ A:=by
 obtain⟨hn,gf,first,cap,rfl,hi⟩:=a3;have a2:∃y,y=AObj.loop A.n A.tmps ps assign body .ready none:=⟨_,rfl⟩
 obtain⟨y,L⟩:=a2
 refine v6 (f:=gf) (args:=first.map .p++[.ref .yl (A.h.length+1)]++cap.map .p)
  (R:=λr h=>r=.ret (.p (.tuple []))/\∃lo a,h=lo++a/\lo.length=A.h.length+2/\(z y l.length lo\/∃c,Fin c lo/\lo[A.h.length+1]?=some (.loop A.n A.tmps ps assign body .done (some c))))
  a0 (by rw[hg];rfl) ?_ (λv h hr=>?_) λv h hr=>(by cases hr.1)
 .rw[<-L];have T:(A.h++[.dblock,y]).length=A.h.length+2:=by simp
  have S:=hi (A.h.length+1) (z y) (λlo=>∃c,Fin c lo/\lo[A.h.length+1]?=some (.loop A.n A.tmps ps assign body .done (some c))) (A.h++[.dblock,y]) (by simp) (λk xs lo a hv G D=>?_) (h0 y)
  .rw[T]at S;exact S
  rw[T]at D |-;have u:=U _ _ _ G;have F:(lo++a)[A.h.length+1]?=some y:=by rw[bp (by omega)];exact u
  rw[L]at F;refine pO hD (H:=H) F a1 (by rw[dp];exact(hn xs (aG hv)).symm) X V ?_;have:=E y (.loop A.n A.tmps ps assign body .busy none) (λj=>.loop A.n A.tmps ps assign body .done (some j)) k xs lo a hv G D;refine jt assign (λe B hB=>?_) this
  cases e with
  |normal=>
   obtain⟨b1,b2,b3⟩:=hB;rw[L]at b2;refine⟨b1,b2,jt body (λe C hC=>?_) b3⟩
   cases e with
   |normal=>
    obtain⟨c1,O,I⟩:=hC;refine⟨c1,⟨_,_,O⟩,?_⟩;rw[<-L];obtain⟨i,ext,K,J,q⟩:=I;refine⟨i,ext,K,J,?_⟩;rcases q with q|⟨q,_⟩
    .exact .inl q
    .cases q
   |exit id=>
    obtain⟨c1,O,I⟩:=hC;refine⟨c1,⟨_,_,O⟩,?_⟩;obtain⟨i,ext,K,J,q⟩:=I;refine⟨i,ext,K,J,?_⟩;rcases q with⟨q,_⟩|⟨q,c,N,M⟩
    .cases q
    .exact .inr ⟨rfl,c,N,M⟩
   |ret=>
    obtain⟨c1,O,I⟩:=hC;refine⟨c1,⟨_,_,O⟩,?_⟩;obtain⟨i,ext,K,J,q⟩:=I;refine⟨i,ext,K,J,?_⟩;rcases q with⟨q,_⟩|⟨q,c,N,M⟩
    .cases q
    .exact .inr ⟨rfl,c,N,M⟩
   |panic v=>
    obtain⟨_,_,I⟩:=hC;obtain⟨i,ext,K,J,q⟩:=I
    rcases q with⟨q,_⟩|⟨q,_⟩<;>cases q
  |exit id=>exact hB
  |ret=>exact hB
  |panic v=>exact hB
 .obtain⟨hr,lo,a,rfl,D,G⟩:=hr;rcases G with G|⟨c,N,M⟩
  .have u:(lo++a)[A.h.length+1]?=some y:=by rw[bp (by omega)];exact U _ _ _ G
   rw[L]at u;rw[u];exact⟨by simp,Z _ _ _ G D⟩
  .have u:(lo++a)[A.h.length+1]?=some (.loop A.n A.tmps ps assign body .done (some c)):=by rw[bp (by omega)];exact M
   rw[u];have:=Y c lo a N D;refine⟨by simp,?_⟩;cases c<;>first|exact this.elim|exact this
theorem kT{lo:Heap}{a}(h:lo.length=a)(t)(j):(lo++t)[a+j]?=t[j]?:=by rw[cG (by omega)];congr 1;omega
theorem kU{lo:Heap}{a}(h:lo.length=a)(t):(lo++t)[a]?=t[0]?:=kT h t 0
theorem m4{lo:Heap}{a}(h:lo.length=a)(t)(j)(x):(lo++t).set (a+j) x=lo++t.set j x:=by
 rw[sH _ _ (by omega)];congr 2;omega
theorem m5{lo:Heap}{a}(h:lo.length=a)(t)(x):(lo++t).set a x=lo++t.set 0 x:=m4 h t 0 x
end Abs
end Go.Proofs.YtmndpldajflenaaGreatDoor
