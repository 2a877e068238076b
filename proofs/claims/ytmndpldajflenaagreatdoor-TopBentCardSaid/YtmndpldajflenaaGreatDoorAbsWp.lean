/- DEFINITIONS: what stands for an activation; what is known of calls; what a code comes to f -/
import Derived.Test.YtmndpldajflenaaGreatDoorAbsOpsF
import Derived.AtR
import Derived.Recover
set_option linter.all false
namespace Go.Proofs.YtmndpldajflenaaGreatDoor
namespace Abs
def Ho (M0:Nat->Prop) (S:Mem):Ending->AEnd->Prop
 |.returned v',.ret v=>Rep M0 S v' v
 |.panicked ch,.panic v=>∃v',ch=[{ v:=v',recovered:=false }]/\RepP (Avoid M0 S.m) S.w v' v
 |_,_=>False
def oq (P:Program) (M0:Nat->Prop) (S:Mem) (R:AEnd->Heap->Prop) (e:Ending) (w':World):Prop:=
 ∃(r:AEnd) (h':Heap) (m':List (Option Nat)),R r h'/\Ev S.h.length S ⟨m',h',w'⟩/\HOk P M0 ⟨m',h',w'⟩/\Ho M0 ⟨m',h',w'⟩ e r
def aN (P:Program) (f:FuncId) (args:List AV) (h:Heap) (R:AEnd->Heap->Prop):Prop:=
 ∀(M0:Nat->Prop) (m:List (Option Nat)) (w:World) (cargs:Array Value),HOk P M0 ⟨m,h,w⟩->cK (Rep M0 ⟨m,h,w⟩) cargs args ->
  (∀w',(callFunc f cargs).run P w'=.ok (.enter f cargs) w')/\Calls P f cargs w (oq P M0 ⟨m,h,w⟩ R)
def Fe (P:Program) (l:Nat) (args:List AV) (h:Heap) (R:AEnd->Heap->Prop):Prop:=
 (∃o,h[l]?=some o/\o.tag=some .yl) /\
 ∀(M0:Nat->Prop) (m:List (Option Nat)) (w:World) (cargs:Array Value) (b:Nat),HOk P M0 ⟨m,h,w⟩->cK (Rep M0 ⟨m,h,w⟩) cargs args->m.getD l none=some b ->
  ∃(f:FuncId) (tmps:Array Value) (assign body:Code),(Instr.yield b cargs).run P w=.ok (.round b f tmps assign body) w /\
   ∀(c:Frame) (cs:List Frame),∃e w',oq P M0 ⟨m,h,w⟩ R e w' /\
    match e with
    |.returned v=>Steps P (lone (Frame.round b f tmps assign body .normal) (c::cs) w) (lone (c.finish v) cs w')
    |.panicked ch=>Steps P (lone (Frame.round b f tmps assign body .normal) (c::cs) w) (lone (c.raise ch) cs w')
    |.outgrown=>False
inductive AMode where
 |ret
 |pan (v:PV)
 |recd (v:PV)
def tD:AMode->AMode
 |.recd _=>.ret
 |u=>u
def gF (M0:Nat->Prop) (S:Mem) (um:FrameMode):AMode->Prop
 |.ret=>um=.returning
 |.pan v=>∃v',um=.panicking [{ v:=v',recovered:=false }]/\RepP (Avoid M0 S.m) S.w v' v
 |.recd _=>∃v',um=.panicking [{ v:=v',recovered:=true }]
def oW (P:Program) (f:FuncId) (args:List AV) (u:AMode) (h:Heap) (R:AEnd->AMode->Heap->Prop):Prop:=
 ∀(M0:Nat->Prop) (m:List (Option Nat)) (w:World) (cargs:Array Value) (um:FrameMode),HOk P M0 ⟨m,h,w⟩->cK (Rep M0 ⟨m,h,w⟩) cargs args->gF M0 ⟨m,h,w⟩ um u ->
  (∀w',(callFunc f cargs).run P w'=.ok (.enter f cargs) w') /\
  CallsD P f cargs um w λe um' w'=>∃(r:AEnd) (u':AMode) (h':Heap) (m':List (Option Nat)),R r u' h'/\Ev h.length ⟨m,h,w⟩ ⟨m',h',w'⟩/\HOk P M0 ⟨m',h',w'⟩ /\
   Ho M0 ⟨m',h',w'⟩ e r/\gF M0 ⟨m',h',w'⟩ um' u'
def BT (P:Program) (M0:Nat->Prop) (S:Mem) (d:Deferred):ADef->Prop
 |.fn g args=>∃(fv:Fn) (cap dargs cargs:Array Value),d={ target:=.fn fv cap,args:=dargs } /\
   (∀w,(invoke (.fn fv cap) dargs).run P w=(callFunc g cargs).run P w)/\cK (Rep M0 S) cargs args
 |.collected id=>∃b,d={ target:=.collected b,args:=#[] }/\(S.h[id]?=some .dead\/(S.h[id]?=some .dblock/\S.m.getD id none=some b))
def DefsRep (P:Program) (M0:Nat->Prop) (S:Mem):List Deferred->List ADef->Prop
 |[],[]=>True
 |d::ds,x::xs=>BT P M0 S d x/\DefsRep P M0 S ds xs
 |_,_=>False
def RcRep (M0:Nat->Prop) (S:Mem) (b:Frame) (cs0:List Frame):Rc->Prop
 |.no=>b.roundOf=none
 |.rnd=>b.roundOf.isSome=true/\b.kind=.normal
 |.none=>b.roundOf=none/\b.kind=.deferred/\recoverD cs0=none
 |.pend v=>b.roundOf=none/\b.kind=.deferred/\∃v' cs1,recoverD cs0=some (v',cs1)/\RepP (Avoid M0 S.m) S.w v' v
 |.got _=>b.roundOf=none/\b.kind=.deferred/\∃v' cs1,recoverD cs0=some (v',cs1)
def bn:Rc->List Frame->List Frame
 |.got _,cs=>match recoverD cs with|some (_,c)=>c|none=>cs
 |_,cs=>cs
structure Rel (P:Program) (M0:Nat->Prop) (S0:Mem) (b:Frame) (cs0:List Frame) (m:List (Option Nat)) (A:AAct) (a:Act) (w:World):Prop where
 size:a.tmps.size=A.n
 tmps:∀t,Rep M0 ⟨m,A.h,w⟩ (a.tmps.getD t undef) (A.tmps t)
 hok:HOk P M0 ⟨m,A.h,w⟩
 ev:Ev A.bs S0 ⟨m,A.h,w⟩
 le:A.bs<=A.h.length/\∃f,P.funcs[b.fn]?=some f
 df:DefsRep P M0 ⟨m,A.h,w⟩ a.defers A.df
 rc:RcRep M0 ⟨m,A.h,w⟩ b cs0 A.rc
def fy (P:Program) (A B:AAct):Prop:=
 B.n=A.n/\B.rc=A.rc/\∀M0 S0 b cs0 m a w,Rel P M0 S0 b cs0 m A a w->∃m',Rel P M0 S0 b cs0 m' B a w
def xd (K:AV->Heap->Prop) (Q:PV->Heap->Prop):AEnd->Heap->Prop
 |.ret v,h=>K v h
 |.panic v,h=>Q v h
def rf (K:Prop):Rc->Prop
 |.rnd=>False
 |_=>K
def HH (A:AAct) (K:AAct->PV->Prop):Rc->Prop
 |.none=>K A .niliface
 |.pend v=>K { A with rc:=.got v } v
 |.got _=>K A .niliface
 |_=>False
def ja (P:Program) (A:AAct) (dst:Option Tmp) (K:AAct->Prop) (Q:Ex->AAct->Prop):OR->Prop
 |.val v h=>K (A.put dst v h)
 |.skip h=>K (A.put dst (.p (.tuple [])) h)
 |.call f args=>aN P f args A.h (xd (λv h=>K (A.put dst v h)) (λv h=>Q (.panic v) { A with h:=h }))
 |.yld l args=>Fe P l args A.h (xd (λv h=>K (A.put dst v h)) (λv h=>Q (.panic v) { A with h:=h }))
 |.dfr d=>rf (K ({ A with df:=d::A.df }.put dst (.p (.tuple [])) A.h)) A.rc
 |.recover=>HH A (λB v=>K (B.put dst (.p v) A.h)) A.rc
 |.panic v=>Q (.panic v) A
 |.stuck=>False
def oC (X Y:Unit->Prop):Option Bool->Prop
 |some b=>BU b X Y
 |none=>False
def yX (X Y:Unit->Prop):AV->Prop
 |.p (.bool b)=>BU b X Y
 |_=>False
def dZ (K:AAct->Prop) (Q:Ex->AAct->Prop):Ex->AAct->Prop
 |.normal,A=>K A
 |.exit j,A=>Q (.exit j) A
 |.ret,A=>Q .ret A
 |.panic v,A=>Q (.panic v) A
def j4 (id:Nat) (Q:Ex->AAct->Prop):Ex->AAct->Prop
 |.exit j,A=>if j=id then Q .normal A else Q (.exit j) A
 |.normal,A=>Q .normal A
 |.ret,A=>Q .ret A
 |.panic v,A=>Q (.panic v) A
inductive Hint where
 |std|mut|low|bar
  |slot (j sz:Nat)
  |sto
  |nop
  |app (t:Nat)
  |thr
  |cal
 deriving DecidableEq
def Hint.isMut:Hint->Bool
 |.mut=>true
 |_=>false
abbrev Hints:=Nat->Hint
def au (H:Hints):Nat->Bool:=λd=>(H d).isMut
def fY (P:Program) (H:Hints) (ops:Array Oper) (Q:Ex->AAct->Prop):List Oper->AAct->Prop
 |[],A=>Q .normal A
 |o::rest,A=>
   oC (λ_=>ja P A o.dst (fY P H ops Q rest) Q (aW P (au H) o A.eval A.h))
    (λ_=>fY P H ops Q rest (A.put o.dst (.p (.tuple [])) A.h)) (aX ops A o)
def AObj.isDead:AObj->Bool
 |.dead=>true
 |_=>false
def bL (h h':Heap):Prop:=∀(id:Nat) (o:AObj),h[id]?=some o->o.isDead=false->h'[id]?=some o
inductive DC where
 |bar|alloc|quiet|low
 |slot (j sz:Nat)
 |sto
 |nop
 |app (t:Nat)
 |thr
 |cal
 deriving DecidableEq
def mo:Op->Bool
 |.alloc _=>true
 |.box _ _=>true
 |.makeSlice _ _ _=>true
 |.makeMap _ none=>true
 |_=>false
def uv:Op->Bool
 |.alloc _=>true
 |.box _ _=>true
 |_=>false
def bR:Op->Bool
 |.move _|.assign _|.pick _ _ _|.build _ _|.buildSlice _ _ _|.load _ _|.nilCheck _|.binOp _ _ _ _ _|.unOp _ _ _|.convert _ _ _|.makeInterface _ _|.makeFunc _ _ _
 |.slice _ _ _ _ _|.fieldAddr _ _ _|.field _ _ _|.indexAddr _ _ _|.index _ _ _|.extract _ _|.lookup _ _ _ _|.typeAssert _ _ _ _=>true
 |.call c=>
  match c.callee with
  |.value _=>true
  |.builtin .len=>true
  |.builtin .min=>true
  |.builtin .max=>true
  |_=>false
 |_=>false
def vw:Op->Bool
 |.call c=>match c.callee with|.builtin .append=>true|.builtin .copy=>true|_=>false
 |_=>false
def dE:Op->Bool
 |.call c=>match c.callee with|.builtin .append=>true|_=>false
 |_=>false
def kb (t:Nat):Bool:=decide (8000000<=t)
def AN (t:Nat) (op:Op):Bool:=if kb t=true then dE op||bR op else vw op
def I7:Operand->Nat
 |.tmp x=>x
 |_=>999
def oE (H:Hints):Op->DC
 |.store _ (.tmp t) y=>match H (1000000+1000*t+I7 y) with|.sto=>.sto|.nop=>.nop|_=>.bar
 |_=>.bar
def bh (H:Hints) (o:Oper):DC:=
 match o.dst with
 |none=>oE H o.op
 |some d=>
  match H d with
  |.std=>if mo o.op=true then .alloc else if bR o.op=true then .quiet else .bar
  |.mut=>.alloc
  |.low=>if bR o.op=true then .low else .bar
  |.slot j sz=>if uv o.op=true then .slot j sz else .bar
  |.app t=>if AN t o.op=true then .app t else .bar
  |.thr=>if bR o.op=true then .thr else .bar
  |.cal=>if bR o.op=true then .cal else .bar
  |_=>.bar
def tN (P:Program) (h:Heap) (K:AV->Prop):OR->Prop
 |.val v h'=>h'=h/\K v
 |.call f args=>∃v,(∀h',bL h h'->aN P f args h' (λr h''=>r=.ret v/\h''=h'))/\K v
 |_=>False
def xm (h:Heap) (K:AV->Heap->Prop):OR->Prop
 |.val v h'=>(∃t,h'=h++t)/\K v h'
 |_=>False
def fo (P:Program) (e:Operand->AV):Op->Option AV
 |.alloc T=>(ax P T).map .p
 |.box _ x=>some (e x)
 |_=>none
def eG (hs:Heap) (id:Nat):Bool:=
 match hs[id]? with
 |some .dead=>true
 |none=>true
 |_=>false
def oF (hs h:Heap) (j sz:Nat) (K:AV->Heap->Prop):Option AV->Prop
 |some z=>z.cells.map (·.length)=some sz/\eG hs (hs.length-1-j)=true/\h[hs.length-1-j]?=some (.row sz [])/\K (.ptr (hs.length-1-j) 1 0 0) (h.set (hs.length-1-j) (.row sz [z]))
 |none=>False
def mP (K:Heap->Prop):OR->Prop
 |.skip h=>K h
 |_=>False
def rV (P:Program) (hs h:Heap) (e:Operand->AV) (K:Heap->Prop):Op->Prop
 |.store T a x=>match e a with
  |.ptr id ver i o=>eG hs id=true/\mP K (fi P T (.ptr id ver i o) (e x) h)
  |_=>False
 |_=>False
def sc (P:Program) (h:Heap) (e:Operand->AV) (K:Prop):Op->Prop
 |.store T a x=>fi P T (e a) (e x) h=.skip h/\K
 |_=>False
def Jl (hs h h':Heap):Prop:=(∃t,h'=h++t)\/∃id ob,h'=h.set id ob/\eG hs id=true
def BD (hs h:Heap) (K:AV->Heap->Prop):OR->Prop
 |.val v h'=>Jl hs h h'/\K v h'
 |_=>False
def il (hs:Heap) (i:Nat):Bool:=match hs[i]? with|some .dead=>true|_=>false
def bD (hs h:Heap):Heap:=h.mapIdx λi o=>if il hs i=true then .dead else o
def jS (hs h g:Heap):Heap:=g.mapIdx λi o=>if il hs i=true then h.getD i .dead else o
def nN (P:Program) (ap:Bool) (hs h:Heap) (K:AV->Heap->Prop):OR->Prop
 |.val v g=>if ap=true then(0<hs.length/\hs.length<=h.length)/\((∃l,g=bD hs h++l)\/∃id ob,g=(bD hs h).set id ob/\hs.length<=id)/\K v (jS hs h g) else 0<hs.length/\g=bD hs h/\K v h
 |.call f args=>ap=false/\0<hs.length/\((∃v,(∀h',bL (bD hs h) h'->aN P f args h' (λr h''=>r=.ret v/\h''=h'))/\K v h) \/
   ∃v id,hs.length<=id/\(∀h',bL (bD hs h) h'->aN P f args h' (λr h''=>r=.ret v/\h''=h'.set id .dead))/\K v (h.set id .dead))
 |_=>False
def mK (P:Program) (t:Nat) (ap:Bool) (hs h:Heap) (K:AV->Heap->Prop) (F:Heap->OR):Prop:=if kb t=true then nN P ap hs h K (F (bD hs h)) else BD hs h K (F h)
def ug (P:Program) (Q:Ex->AAct->Prop) (A:AAct) (K:AV->Prop):OR->Prop
 |.call f args=>(∃v,(∀h',bL A.h h'->aN P f args h' (λr h''=>r=.ret v/\h''=h'))/\K v) \/
   ∃v,aN P f args A.h (λr h''=>r=.panic v/\h''=A.h)/\∀T,Q (.panic v) { A with tmps:=T }
 |_=>False
def kept (H:Hints) (T S:Nat->AV):Prop:=∀t,H (6000000+t)=.nop->T t=S t
def n4 (P:Program) (H:Hints) (Q:Ex->AAct->Prop) (hs:Heap) (A:AAct) (K:AV->Heap->Prop):OR->Prop
 |.call f args=>aN P f args A.h (xd (λv h=>bL hs h/\K v h) (λv h=>∀T,kept H T A.tmps->Q (.panic v) { A with tmps:=T,h:=h }))
 |_=>False
def L7 (X Y Z W:Unit->Prop) (U:Nat->Nat->Prop) (V N:Unit->Prop) (E:Nat->Prop) (R C:Unit->Prop):DC->Prop
 |.bar=>X ()
 |.alloc=>Y ()
 |.quiet=>Z ()
 |.low=>W ()
 |.slot j sz=>U j sz
 |.sto=>V ()
 |.nop=>N ()
 |.app t=>E t
 |.thr=>R ()
 |.cal=>C ()
def bi (P:Program) (H:Hints) (ops:Array Oper) (Q:Ex->AAct->Prop):List Oper->Heap->AAct->Prop
 |[],_,A=>Q .normal A
 |o::rest,hs,A=>
   oC (λ_=>L7
     (λ_=>ja P A o.dst (λB=>bi P H ops Q rest B.h B) Q (aW P (au H) o A.eval A.h))
     (λ_=>xm A.h (λv h=>bi P H ops Q rest hs (A.put o.dst v h)) (aW P (au H) o A.eval A.h))
     (λ_=>tN P A.h (λv=>bi P H ops Q rest hs (A.put o.dst v A.h)) (aW P (au H) o A.eval A.h))
     (λ_=>tN P hs (λv=>bi P H ops Q rest hs (A.put o.dst v A.h)) (aW P (au H) o A.eval hs))
     (λj sz=>oF hs A.h j sz (λv h=>bi P H ops Q rest hs (A.put o.dst v h)) (fo P A.eval o.op))
     (λ_=>rV P hs A.h A.eval (λh=>bi P H ops Q rest hs (A.put o.dst (.p (.tuple [])) h)) o.op)
     (λ_=>sc P A.h A.eval (bi P H ops Q rest hs (A.put o.dst (.p (.tuple [])) A.h)) o.op)
     (λt=>mK P t (dE o.op) hs A.h (λv h=>bi P H ops Q rest hs (A.put o.dst v h)) (λh=>aW P (au H) o A.eval h))
     (λ_=>ug P Q A (λv=>bi P H ops Q rest hs (A.put o.dst v A.h)) (aW P (au H) o A.eval A.h))
     (λ_=>n4 P H Q hs A (λv h=>bi P H ops Q rest hs (A.put o.dst v h)) (aW P (au H) o A.eval A.h))
     (bh H o))
    (λ_=>bi P H ops Q rest hs (A.put o.dst (.p (.tuple [])) A.h)) (aX ops A o)
def oG (H:Hints):List Oper->List Nat
 |[]=>[]
 |o::l=>match bh H o with|.slot _ sz=>sz::oG H l|_=>oG H l
def jT (H:Hints) (T:Nat->AV):List Oper->List Nat
 |[]=>[]
 |o::l=>match bh H o,o.op with
  |.sto,.store _ (.tmp t) _=>(match T t with|.ptr id _ _ _=>id::jT H T l|_=>jT H T l)
  |.app t,_=>if kb t=true then jT H T l else(match T t with|.slice id _ _ _=>id::jT H T l|_=>jT H T l)
  |_,_=>jT H T l
def qO (h:Heap):List Nat->Heap
 |[]=>h
 |id::l=>qO (h.set id .dead) l
def jp (id:Nat) (h:Heap):Heap:=h.mapIdx λi o=>if i=id then o else .dead
def D6 (H:Hints) (T:Nat->AV):Option Nat:=match H 5000001 with|.app t=>(match T t with|.ptr id _ _ _=>some id|.slice id _ _ _=>some id|_=>none)|.nop=>some 1000000000|_=>none
def ti (H:Hints) (ops:List Oper) (A:AAct):Heap:=match D6 H A.tmps with|some id=>jp id A.h|none=>qO A.h (jT H A.tmps ops)
def lk (H:Hints) (ops:List Oper) (A:AAct):Heap:=ti H ops A++(oG H ops).map λ_=>.dead
def Aw {α:Type} (a b:Nat) (l:List α):List α:=if a<b/\b<l.length then l.take a++(l.drop (a+1)).take (b-a)++(l.drop a).take 1++l.drop (b+1) else l
def qJ (H:Hints) (n:Nat):List Nat:=match H 5000000 with|.slot a b=>Aw a b (List.range n)|_=>List.range n
def ur (H:Hints) (l:List Oper):List Oper:=match H 5000000 with|.slot a b=>Aw a b l|_=>l
def mU (H:Hints) (ops:List Oper) (A:AAct):AAct:={ A with h:=A.h++(oG H ops).map λsz=>.row sz [] }
def qV (Q:Ex->AAct->Prop) (A:AAct):Option Code->Prop
 |none=>Q .normal A
 |some .ret=>Q .ret A
 |some (.exit id)=>Q (.exit id) A
 |_=>False
def kF (Q:Ex->AAct->Prop) (A:AAct) (l:Nat):Option AObj->Prop
 |some (.loop _ _ _ _ _ st pend)=>st≠.busy/\qV Q { A with h:=A.h.set l .dead } pend
 |_=>False
def r8 (P:Program) (A:AAct) (h:Heap) (l:Nat) (Q:Ex->AAct->Prop):OR->Prop
 |.call g args=>aN P g args h (xd (λ_ h'=>kF Q { A with h:=h',df:=.collected l::A.df } (l+1) h'[l+1]?)
   (λv h'=>Q (.panic v) { A with h:=h',df:=.collected l::A.df }))
 |_=>False
def wp (P:Program) (H:Hints):Code->(Ex->AAct->Prop)->AAct->Prop
 |.skip,Q,A=>Q .normal A
 |.region _ ops false,Q,A=>fY P H ops Q ops.toList A
 |.region _ ops true,Q,A=>bi P H ops Q (ur H ops.toList) (lk H ops.toList A) (mU H ops.toList A)
 |.seq a b,Q,A=>wp P H a (dZ (wp P H b Q) Q) A
 |.cond c x y,Q,A=>yX (λ_=>wp P H x Q A) (λ_=>wp P H y Q A) (A.eval c)
 |.block id b,Q,A=>wp P H b (j4 id Q) A
 |.loop b,Q,A=>∀X:AAct->Prop,(∀B,wp P H b (dZ (λC=>∃D,fy P C D/\X D) Q) B->X B)->∃B,fy P A B/\X B
 |.rangeFunc g ps assign body,Q,A=>rf (r8 P A (A.h++[.dblock,.loop A.n A.tmps ps assign body .ready none]) A.h.length Q (eX (A.eval g) [.ref .yl (A.h.length+1)])) A.rc
 |.exit id,Q,A=>Q (.exit id) A
 |.ret,Q,A=>Q .ret A
 |.scope b,Q,A=>wp P H b Q A
 |.label _,Q,A=>Q .normal A
 |_,_,_=>False
def lj (n:Nat) (o:Oper):Bool:=match o.dst with|some d=>decide (d<n)|none=>true
def Bw (b:Array Nat) (i j:Nat):Bool:=(b.getD j 0).testBit i
def ii:DC->DC->Bool
 |.alloc,.low=>true
 |.quiet,.alloc|.quiet,.quiet|.quiet,.low=>true
 |.low,.alloc|.low,.quiet|.low,.low|.low,.slot _ _|.low,.sto=>true
 |.slot _ _,.low|.slot _ _,.slot _ _=>true
 |.sto,.low=>true
 |.app _,.low|.low,.app _=>true
 |.app t,.slot _ _|.slot _ _,.app t=>kb t
 |.nop,.low|.nop,.quiet|.nop,.nop|.low,.nop|.quiet,.nop=>true
 |.quiet,.thr|.low,.thr=>true
 |.low,.cal=>true
 |_,_=>false
def qW (o:Oper):Bool:=
 match o.guard,o.op with
 |none,.move _=>true
 |none,.assign _=>true
 |_,_=>false
def oI:DC->Bool
 |.thr=>true
 |_=>false
def mS:DC->Bool
 |.quiet=>true
 |_=>false
def Ji (H:Hints) (x y:Oper):Bool:=
 match bh H y with
 |.cal=>(match x.dst with|some d=>decide (H (6000000+d)≠.nop)|none=>true)
 |_=>true
def ml (H:Hints) (ops:Array Oper) (x y:Oper):Bool:=(ii (bh H x) (bh H y)||(oI (bh H x)&&qW y&&mS (bh H y)))&&(Oper.apart ops x y&&Ji H x y)
def vb (H:Hints) (ops:Array Oper) (b:Array Nat):List Nat->Bool
 |[]=>true
 |i::r=>
  (match ops[i]? with
   |some x=>(x.after.all λe=>!Region.binds .any e||(decide (e.on<ops.size)&&!(i::r).contains e.on)) &&
    r.all λj=>!(i==j)&&(match ops[j]? with|some y=>Bw b i j||ml H ops x y|none=>false)
   |none=>false)&&vb H ops b r
def A8 (H:Hints) (ops:Array Oper):Bool:=
 (ops.toList.all λy=>Region.noSelect ops)&&decide ((qJ H ops.size).length=ops.size)&&vb H ops (Region.before ops) (qJ H ops.size)
def dr (H:Hints) (n:Nat):Code->Bool
 |.region _ ops false=>ops.toList.all (lj n)
 |.region _ ops true=>ops.toList.all (lj n)&&A8 H ops
 |.seq a b=>dr H n a&&dr H n b
 |.cond _ a b=>dr H n a&&dr H n b
 |.block _ b=>dr H n b
 |.loop b=>dr H n b
 |.rangeFunc _ _ a b=>dr H n a&&dr H n b
 |.scope b=>dr H n b
 |_=>true
end Abs
end Go.Proofs.YtmndpldajflenaaGreatDoor
