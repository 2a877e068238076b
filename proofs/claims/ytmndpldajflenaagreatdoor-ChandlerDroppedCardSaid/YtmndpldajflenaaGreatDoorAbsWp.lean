/- DEFINITIONS: what stands for an activation; what is known of calls; what a code comes to f -/
import Derived.Test.YtmndpldajflenaaGreatDoorAbsOpsF
import Derived.AtR
import Derived.Recover
set_option linter.all false
namespace Go.Proofs.YtmndpldajflenaaGreatDoor
namespace Abs
def Mh (M0:Nat->Prop) (S:Mem):Ending->AEnd->Prop
 |.returned v',.ret v=>Rep M0 S v' v
 |.panicked ch,.panic v=>∃v',ch=[{ v:=v',recovered:=false }]/\RepP (Avoid M0 S.m) S.w v' v
 |_,_=>False
def qY (P:Program) (M0:Nat->Prop) (S:Mem) (R:AEnd->Heap->Prop) (e:Ending) (w':World):Prop:=
 ∃(r:AEnd) (h':Heap) (m':List (Option Nat)),R r h'/\Ev S.h.length S ⟨m',h',w'⟩/\HOk P M0 ⟨m',h',w'⟩/\Mh M0 ⟨m',h',w'⟩ e r
def ar (P:Program) (f:FuncId) (args:List AV) (h:Heap) (R:AEnd->Heap->Prop):Prop:=
 ∀(M0:Nat->Prop) (m:List (Option Nat)) (w:World) (cargs:Array Value),HOk P M0 ⟨m,h,w⟩->dz (Rep M0 ⟨m,h,w⟩) cargs args ->
  (∀w',(callFunc f cargs).run P w'=.ok (.enter f cargs) w')/\Calls P f cargs w (qY P M0 ⟨m,h,w⟩ R)
def rT (P:Program) (l:Nat) (args:List AV) (h:Heap) (R:AEnd->Heap->Prop):Prop:=
 (∃o,h[l]?=some o/\o.tag=some .yl) /\
 ∀(M0:Nat->Prop) (m:List (Option Nat)) (w:World) (cargs:Array Value) (b:Nat),HOk P M0 ⟨m,h,w⟩->dz (Rep M0 ⟨m,h,w⟩) cargs args->m.getD l none=some b ->
  ∃(f:FuncId) (tmps:Array Value) (assign body:Code),(Instr.yield b cargs).run P w=.ok (.round b f tmps assign body) w /\
   ∀(c:Frame) (cs:List Frame),∃e w',qY P M0 ⟨m,h,w⟩ R e w' /\
    match e with
    |.returned v=>Steps P (lone (Frame.round b f tmps assign body .normal) (c::cs) w) (lone (c.finish v) cs w')
    |.panicked ch=>Steps P (lone (Frame.round b f tmps assign body .normal) (c::cs) w) (lone (c.raise ch) cs w')
    |.outgrown=>False
inductive AMode where
 |ret
 |pan (v:PV)
 |recd (v:PV)
def vY:AMode->AMode
 |.recd _=>.ret
 |u=>u
def iG (M0:Nat->Prop) (S:Mem) (um:FrameMode):AMode->Prop
 |.ret=>um=.returning
 |.pan v=>∃v',um=.panicking [{ v:=v',recovered:=false }]/\RepP (Avoid M0 S.m) S.w v' v
 |.recd _=>∃v',um=.panicking [{ v:=v',recovered:=true }]
def jr (P:Program) (f:FuncId) (args:List AV) (u:AMode) (h:Heap) (R:AEnd->AMode->Heap->Prop):Prop:=
 ∀(M0:Nat->Prop) (m:List (Option Nat)) (w:World) (cargs:Array Value) (um:FrameMode),HOk P M0 ⟨m,h,w⟩->dz (Rep M0 ⟨m,h,w⟩) cargs args->iG M0 ⟨m,h,w⟩ um u ->
  (∀w',(callFunc f cargs).run P w'=.ok (.enter f cargs) w') /\
  CallsD P f cargs um w λe um' w'=>∃(r:AEnd) (u':AMode) (h':Heap) (m':List (Option Nat)),R r u' h'/\Ev h.length ⟨m,h,w⟩ ⟨m',h',w'⟩/\HOk P M0 ⟨m',h',w'⟩ /\
   Mh M0 ⟨m',h',w'⟩ e r/\iG M0 ⟨m',h',w'⟩ um' u'
def Fz (P:Program) (M0:Nat->Prop) (S:Mem) (d:Deferred):ADef->Prop
 |.fn g args=>∃(fv:Fn) (cap dargs cargs:Array Value),d={ target:=.fn fv cap,args:=dargs } /\
   (∀w,(invoke (.fn fv cap) dargs).run P w=(callFunc g cargs).run P w)/\dz (Rep M0 S) cargs args
 |.collected id=>∃b,d={ target:=.collected b,args:=#[] }/\(S.h[id]?=some .dead\/(S.h[id]?=some .dblock/\S.m.getD id none=some b))
def DefsRep (P:Program) (M0:Nat->Prop) (S:Mem):List Deferred->List ADef->Prop
 |[],[]=>True
 |d::ds,x::xs=>Fz P M0 S d x/\DefsRep P M0 S ds xs
 |_,_=>False
def RcRep (M0:Nat->Prop) (S:Mem) (b:Frame) (cs0:List Frame):Rc->Prop
 |.no=>b.roundOf=none
 |.rnd=>b.roundOf.isSome=true/\b.kind=.normal
 |.none=>b.roundOf=none/\b.kind=.deferred/\recoverD cs0=none
 |.pend v=>b.roundOf=none/\b.kind=.deferred/\∃v' cs1,recoverD cs0=some (v',cs1)/\RepP (Avoid M0 S.m) S.w v' v
 |.got _=>b.roundOf=none/\b.kind=.deferred/\∃v' cs1,recoverD cs0=some (v',cs1)
def bu:Rc->List Frame->List Frame
 |.got _,cs=>match recoverD cs with|some (_,c)=>c|none=>cs
 |_,cs=>cs
structure Rel (P:Program) (M0:Nat->Prop) (S0:Mem) (b:Frame) (cs0:List Frame) (m:List (Option Nat)) (A:AAct) (a:Act) (w:World):Prop where
 size:a.tmps.size=A.n
 tmps:∀t,Rep M0 ⟨m,A.h,w⟩ (a.tmps.getD t undef) (A.tmps t)
 hok:HOk P M0 ⟨m,A.h,w⟩
 ev:Ev A.bs S0 ⟨m,A.h,w⟩
 le:A.bs<=A.h.length/\∃f,P.funcs[b.fn]?=some f
 df:DefsRep P M0 ⟨m,A.h,w⟩ a.defers A.df
 rc:RcRep M0 ⟨m,A.h,w⟩ b cs0 A.rc
def fS (P:Program) (A B:AAct):Prop:=
 B.n=A.n/\B.rc=A.rc/\∀M0 S0 b cs0 m a w,Rel P M0 S0 b cs0 m A a w->∃m',Rel P M0 S0 b cs0 m' B a w
def As (K:AV->Heap->Prop) (Q:PV->Heap->Prop):AEnd->Heap->Prop
 |.ret v,h=>K v h
 |.panic v,h=>Q v h
def tD (K:Prop):Rc->Prop
 |.rnd=>False
 |_=>K
def MM (A:AAct) (K:AAct->PV->Prop):Rc->Prop
 |.none=>K A .niliface
 |.pend v=>K { A with rc:=.got v } v
 |.got _=>K A .niliface
 |_=>False
def kt (P:Program) (A:AAct) (dst:Option Tmp) (K:AAct->Prop) (Q:Ex->AAct->Prop):OR->Prop
 |.val v h=>K (A.put dst v h)
 |.skip h=>K (A.put dst (.p (.tuple [])) h)
 |.call f args=>ar P f args A.h (As (λv h=>K (A.put dst v h)) (λv h=>Q (.panic v) { A with h:=h }))
 |.yld l args=>rT P l args A.h (As (λv h=>K (A.put dst v h)) (λv h=>Q (.panic v) { A with h:=h }))
 |.dfr d=>tD (K ({ A with df:=d::A.df }.put dst (.p (.tuple [])) A.h)) A.rc
 |.recover=>MM A (λB v=>K (B.put dst (.p v) A.h)) A.rc
 |.panic v=>Q (.panic v) A
 |.stuck=>False
def ra (X Y:Unit->Prop):Option Bool->Prop
 |some b=>FA b X Y
 |none=>False
def CS (X Y:Unit->Prop):AV->Prop
 |.p (.bool b)=>FA b X Y
 |_=>False
def eH (K:AAct->Prop) (Q:Ex->AAct->Prop):Ex->AAct->Prop
 |.normal,A=>K A
 |.exit j,A=>Q (.exit j) A
 |.ret,A=>Q .ret A
 |.panic v,A=>Q (.panic v) A
def lR (id:Nat) (Q:Ex->AAct->Prop):Ex->AAct->Prop
 |.exit j,A=>if j=id then Q .normal A else Q (.exit j) A
 |.normal,A=>Q .normal A
 |.ret,A=>Q .ret A
 |.panic v,A=>Q (.panic v) A
inductive Hint where
 |std|mut|low|bar
  |slot (j sz:Nat)
  |sto
  |nop
  |app (t:Nat)
  |thr
  |cal
 deriving DecidableEq
def Hint.isMut:Hint->Bool
 |.mut=>true
 |_=>false
abbrev Hints:=Nat->Hint
def aE (H:Hints):Nat->Bool:=λd=>(H d).isMut
def iu (P:Program) (H:Hints) (ops:Array Oper) (Q:Ex->AAct->Prop):List Oper->AAct->Prop
 |[],A=>Q .normal A
 |o::rest,A=>
   ra (λ_=>kt P A o.dst (iu P H ops Q rest) Q (bh P (aE H) o A.eval A.h))
    (λ_=>iu P H ops Q rest (A.put o.dst (.p (.tuple [])) A.h)) (bo ops A o)
def AObj.isDead:AObj->Bool
 |.dead=>true
 |_=>false
def bY (h h':Heap):Prop:=∀(id:Nat) (o:AObj),h[id]?=some o->o.isDead=false->h'[id]?=some o
inductive DC where
 |bar|alloc|quiet|low
 |slot (j sz:Nat)
 |sto
 |nop
 |app (t:Nat)
 |thr
 |cal
 deriving DecidableEq
def oT:Op->Bool
 |.alloc _=>true
 |.box _ _=>true
 |.makeSlice _ _ _=>true
 |.makeMap _ none=>true
 |_=>false
def xr:Op->Bool
 |.alloc _=>true
 |.box _ _=>true
 |_=>false
def cv:Op->Bool
 |.move _|.assign _|.pick _ _ _|.build _ _|.buildSlice _ _ _|.load _ _|.nilCheck _|.binOp _ _ _ _ _|.unOp _ _ _|.convert _ _ _|.makeInterface _ _|.makeFunc _ _ _
 |.slice _ _ _ _ _|.fieldAddr _ _ _|.field _ _ _|.indexAddr _ _ _|.index _ _ _|.extract _ _|.lookup _ _ _ _|.typeAssert _ _ _ _=>true
 |.call c=>
  match c.callee with
  |.value _=>true
  |.builtin .len=>true
  |.builtin .min=>true
  |.builtin .max=>true
  |_=>false
 |_=>false
def yN:Op->Bool
 |.call c=>match c.callee with|.builtin .append=>true|.builtin .copy=>true|_=>false
 |_=>false
def eU:Op->Bool
 |.call c=>match c.callee with|.builtin .append=>true|_=>false
 |_=>false
def lY (t:Nat):Bool:=decide (8000000<=t)
def Eg (t:Nat) (op:Op):Bool:=if lY t=true then eU op||cv op else yN op
def OE:Operand->Nat
 |.tmp x=>x
 |_=>999
def rd (H:Hints):Op->DC
 |.store _ (.tmp t) y=>match H (1000000+1000*t+OE y) with|.sto=>.sto|.nop=>.nop|_=>.bar
 |_=>.bar
def bA (H:Hints) (o:Oper):DC:=
 match o.dst with
 |none=>rd H o.op
 |some d=>
  match H d with
  |.std=>if oT o.op=true then .alloc else if cv o.op=true then .quiet else .bar
  |.mut=>.alloc
  |.low=>if cv o.op=true then .low else .bar
  |.slot j sz=>if xr o.op=true then .slot j sz else .bar
  |.app t=>if Eg t o.op=true then .app t else .bar
  |.thr=>if cv o.op=true then .thr else .bar
  |.cal=>if cv o.op=true then .cal else .bar
  |_=>.bar
def wh (P:Program) (h:Heap) (K:AV->Prop):OR->Prop
 |.val v h'=>h'=h/\K v
 |.call f args=>∃v,(∀h',bY h h'->ar P f args h' (λr h''=>r=.ret v/\h''=h'))/\K v
 |_=>False
def AP (h:Heap) (K:AV->Heap->Prop):OR->Prop
 |.val v h'=>(∃t,h'=h++t)/\K v h'
 |_=>False
def gG (P:Program) (e:Operand->AV):Op->Option AV
 |.alloc T=>(aw P T).map .p
 |.box _ x=>some (e x)
 |_=>none
def fI (hs:Heap) (id:Nat):Bool:=
 match hs[id]? with
 |some .dead=>true
 |none=>true
 |_=>false
def rh (hs h:Heap) (j sz:Nat) (K:AV->Heap->Prop):Option AV->Prop
 |some z=>z.cells.map (·.length)=some sz/\fI hs (hs.length-1-j)=true/\h[hs.length-1-j]?=some (.row sz [])/\K (.ptr (hs.length-1-j) 1 0 0) (h.set (hs.length-1-j) (.row sz [z]))
 |none=>False
def pD (K:Heap->Prop):OR->Prop
 |.skip h=>K h
 |_=>False
def ul (P:Program) (hs h:Heap) (e:Operand->AV) (K:Heap->Prop):Op->Prop
 |.store T a x=>match e a with
  |.ptr id ver i o=>fI hs id=true/\pD K (gC P T (.ptr id ver i o) (e x) h)
  |_=>False
 |_=>False
def uA (P:Program) (h:Heap) (e:Operand->AV) (K:Prop):Op->Prop
 |.store T a x=>gC P T (e a) (e x) h=.skip h/\K
 |_=>False
def O1 (hs h h':Heap):Prop:=(∃t,h'=h++t)\/∃id ob,h'=h.set id ob/\fI hs id=true
def Fa (hs h:Heap) (K:AV->Heap->Prop):OR->Prop
 |.val v h'=>O1 hs h h'/\K v h'
 |_=>False
def jB (hs:Heap) (i:Nat):Bool:=match hs[i]? with|some .dead=>true|_=>false
def bT (hs h:Heap):Heap:=h.mapIdx λi o=>if jB hs i=true then .dead else o
def lF (hs h g:Heap):Heap:=g.mapIdx λi o=>if jB hs i=true then h.getD i .dead else o
def mb (P:Program) (ap:Bool) (hs h:Heap) (K:AV->Heap->Prop):OR->Prop
 |.val v g=>if ap=true then(0<hs.length/\hs.length<=h.length)/\((∃l,g=bT hs h++l)\/∃id ob,g=(bT hs h).set id ob/\hs.length<=id)/\K v (lF hs h g) else 0<hs.length/\g=bT hs h/\K v h
 |.call f args=>ap=false/\0<hs.length/\((∃v,(∀h',bY (bT hs h) h'->ar P f args h' (λr h''=>r=.ret v/\h''=h'))/\K v h) \/
   ∃v id,hs.length<=id/\(∀h',bY (bT hs h) h'->ar P f args h' (λr h''=>r=.ret v/\h''=h'.set id .dead))/\K v (h.set id .dead))
 |_=>False
def pm (P:Program) (t:Nat) (ap:Bool) (hs h:Heap) (K:AV->Heap->Prop) (F:Heap->OR):Prop:=if lY t=true then mb P ap hs h K (F (bT hs h)) else Fa hs h K (F h)
def wT (P:Program) (Q:Ex->AAct->Prop) (A:AAct) (K:AV->Prop):OR->Prop
 |.call f args=>(∃v,(∀h',bY A.h h'->ar P f args h' (λr h''=>r=.ret v/\h''=h'))/\K v) \/
   ∃v,ar P f args A.h (λr h''=>r=.panic v/\h''=A.h)/\∀T,Q (.panic v) { A with tmps:=T }
 |_=>False
def II (H:Hints) (T S:Nat->AV):Prop:=∀t,H (6000000+t)=.nop->T t=S t
def qK (P:Program) (H:Hints) (Q:Ex->AAct->Prop) (hs:Heap) (A:AAct) (K:AV->Heap->Prop):OR->Prop
 |.call f args=>ar P f args A.h (As (λv h=>bY hs h/\K v h) (λv h=>∀T,II H T A.tmps->Q (.panic v) { A with tmps:=T,h:=h }))
 |_=>False
def SC (X Y Z W:Unit->Prop) (U:Nat->Nat->Prop) (V N:Unit->Prop) (E:Nat->Prop) (R C:Unit->Prop):DC->Prop
 |.bar=>X ()
 |.alloc=>Y ()
 |.quiet=>Z ()
 |.low=>W ()
 |.slot j sz=>U j sz
 |.sto=>V ()
 |.nop=>N ()
 |.app t=>E t
 |.thr=>R ()
 |.cal=>C ()
def bE (P:Program) (H:Hints) (ops:Array Oper) (Q:Ex->AAct->Prop):List Oper->Heap->AAct->Prop
 |[],_,A=>Q .normal A
 |o::rest,hs,A=>
   ra (λ_=>SC
     (λ_=>kt P A o.dst (λB=>bE P H ops Q rest B.h B) Q (bh P (aE H) o A.eval A.h))
     (λ_=>AP A.h (λv h=>bE P H ops Q rest hs (A.put o.dst v h)) (bh P (aE H) o A.eval A.h))
     (λ_=>wh P A.h (λv=>bE P H ops Q rest hs (A.put o.dst v A.h)) (bh P (aE H) o A.eval A.h))
     (λ_=>wh P hs (λv=>bE P H ops Q rest hs (A.put o.dst v A.h)) (bh P (aE H) o A.eval hs))
     (λj sz=>rh hs A.h j sz (λv h=>bE P H ops Q rest hs (A.put o.dst v h)) (gG P A.eval o.op))
     (λ_=>ul P hs A.h A.eval (λh=>bE P H ops Q rest hs (A.put o.dst (.p (.tuple [])) h)) o.op)
     (λ_=>uA P A.h A.eval (bE P H ops Q rest hs (A.put o.dst (.p (.tuple [])) A.h)) o.op)
     (λt=>pm P t (eU o.op) hs A.h (λv h=>bE P H ops Q rest hs (A.put o.dst v h)) (λh=>bh P (aE H) o A.eval h))
     (λ_=>wT P Q A (λv=>bE P H ops Q rest hs (A.put o.dst v A.h)) (bh P (aE H) o A.eval A.h))
     (λ_=>qK P H Q hs A (λv h=>bE P H ops Q rest hs (A.put o.dst v h)) (bh P (aE H) o A.eval A.h))
     (bA H o))
    (λ_=>bE P H ops Q rest hs (A.put o.dst (.p (.tuple [])) A.h)) (bo ops A o)
def ri (H:Hints):List Oper->List Nat
 |[]=>[]
 |o::l=>match bA H o with|.slot _ sz=>sz::ri H l|_=>ri H l
def lG (H:Hints) (T:Nat->AV):List Oper->List Nat
 |[]=>[]
 |o::l=>match bA H o,o.op with
  |.sto,.store _ (.tmp t) _=>(match T t with|.ptr id _ _ _=>id::lG H T l|_=>lG H T l)
  |.app t,_=>if lY t=true then lG H T l else(match T t with|.slice id _ _ _=>id::lG H T l|_=>lG H T l)
  |_,_=>lG H T l
def td (h:Heap):List Nat->Heap
 |[]=>h
 |id::l=>td (h.set id .dead) l
def ga (id:Nat) (h:Heap):Heap:=h.mapIdx λi o=>if i=id then o else .dead
def Iv (H:Hints) (T:Nat->AV):Option Nat:=match H 5000001 with|.app t=>(match T t with|.ptr id _ _ _=>some id|.slice id _ _ _=>some id|_=>none)|.nop=>some 1000000000|_=>none
def vF (H:Hints) (ops:List Oper) (A:AAct):Heap:=match Iv H A.tmps with|some id=>ga id A.h|none=>td A.h (lG H A.tmps ops)
def nh (H:Hints) (ops:List Oper) (A:AAct):Heap:=vF H ops A++(ri H ops).map λ_=>.dead
def DT {α:Type} (a b:Nat) (l:List α):List α:=if a<b/\b<l.length then l.take a++(l.drop (a+1)).take (b-a)++(l.drop a).take 1++l.drop (b+1) else l
def s6 (H:Hints) (n:Nat):List Nat:=match H 5000000 with|.slot a b=>DT a b (List.range n)|_=>List.range n
def xd (H:Hints) (l:List Oper):List Oper:=match H 5000000 with|.slot a b=>DT a b l|_=>l
def pQ (H:Hints) (ops:List Oper) (A:AAct):AAct:={ A with h:=A.h++(ri H ops).map λsz=>.row sz [] }
def tk (Q:Ex->AAct->Prop) (A:AAct):Option Code->Prop
 |none=>Q .normal A
 |some .ret=>Q .ret A
 |some (.exit id)=>Q (.exit id) A
 |_=>False
def mv (Q:Ex->AAct->Prop) (A:AAct) (l:Nat):Option AObj->Prop
 |some (.loop _ _ _ _ _ st pend)=>st≠.busy/\tk Q { A with h:=A.h.set l .dead } pend
 |_=>False
def ux (P:Program) (A:AAct) (h:Heap) (l:Nat) (Q:Ex->AAct->Prop):OR->Prop
 |.call g args=>ar P g args h (As (λ_ h'=>mv Q { A with h:=h',df:=.collected l::A.df } (l+1) h'[l+1]?)
   (λv h'=>Q (.panic v) { A with h:=h',df:=.collected l::A.df }))
 |_=>False
def wp (P:Program) (H:Hints):Code->(Ex->AAct->Prop)->AAct->Prop
 |.skip,Q,A=>Q .normal A
 |.region _ ops false,Q,A=>iu P H ops Q ops.toList A
 |.region _ ops true,Q,A=>bE P H ops Q (xd H ops.toList) (nh H ops.toList A) (pQ H ops.toList A)
 |.seq a b,Q,A=>wp P H a (eH (wp P H b Q) Q) A
 |.cond c x y,Q,A=>CS (λ_=>wp P H x Q A) (λ_=>wp P H y Q A) (A.eval c)
 |.block id b,Q,A=>wp P H b (lR id Q) A
 |.loop b,Q,A=>∀X:AAct->Prop,(∀B,wp P H b (eH (λC=>∃D,fS P C D/\X D) Q) B->X B)->∃B,fS P A B/\X B
 |.rangeFunc g ps assign body,Q,A=>tD (ux P A (A.h++[.dblock,.loop A.n A.tmps ps assign body .ready none]) A.h.length Q (fO (A.eval g) [.ref .yl (A.h.length+1)])) A.rc
 |.exit id,Q,A=>Q (.exit id) A
 |.ret,Q,A=>Q .ret A
 |.scope b,Q,A=>wp P H b Q A
 |.label _,Q,A=>Q .normal A
 |_,_,_=>False
def nd (n:Nat) (o:Oper):Bool:=match o.dst with|some d=>decide (d<n)|none=>true
def E6 (b:Array Nat) (i j:Nat):Bool:=(b.getD j 0).testBit i
def jy:DC->DC->Bool
 |.alloc,.low=>true
 |.quiet,.alloc|.quiet,.quiet|.quiet,.low=>true
 |.low,.alloc|.low,.quiet|.low,.low|.low,.slot _ _|.low,.sto=>true
 |.slot _ _,.low|.slot _ _,.slot _ _=>true
 |.sto,.low=>true
 |.app _,.low|.low,.app _=>true
 |.app t,.slot _ _|.slot _ _,.app t=>lY t
 |.nop,.low|.nop,.quiet|.nop,.nop|.low,.nop|.quiet,.nop=>true
 |.quiet,.thr|.low,.thr=>true
 |.low,.cal=>true
 |_,_=>false
def tm (o:Oper):Bool:=
 match o.guard,o.op with
 |none,.move _=>true
 |none,.assign _=>true
 |_,_=>false
def rp:DC->Bool
 |.thr=>true
 |_=>false
def pN:DC->Bool
 |.quiet=>true
 |_=>false
def OU (H:Hints) (x y:Oper):Bool:=
 match bA H y with
 |.cal=>(match x.dst with|some d=>decide (H (6000000+d)≠.nop)|none=>true)
 |_=>true
def oN (H:Hints) (ops:Array Oper) (x y:Oper):Bool:=(jy (bA H x) (bA H y)||(rp (bA H x)&&tm y&&pN (bA H y)))&&(Oper.apart ops x y&&OU H x y)
def yr (H:Hints) (ops:Array Oper) (b:Array Nat):List Nat->Bool
 |[]=>true
 |i::r=>
  (match ops[i]? with
   |some x=>(x.after.all λe=>!Region.binds .any e||(decide (e.on<ops.size)&&!(i::r).contains e.on)) &&
    r.all λj=>!(i==j)&&(match ops[j]? with|some y=>E6 b i j||oN H ops x y|none=>false)
   |none=>false)&&yr H ops b r
def Ew (H:Hints) (ops:Array Oper):Bool:=
 (ops.toList.all λy=>Region.noSelect ops)&&decide ((s6 H ops.size).length=ops.size)&&yr H ops (Region.before ops) (s6 H ops.size)
def cZ (H:Hints) (n:Nat):Code->Bool
 |.region _ ops false=>ops.toList.all (nd n)
 |.region _ ops true=>ops.toList.all (nd n)&&Ew H ops
 |.seq a b=>cZ H n a&&cZ H n b
 |.cond _ a b=>cZ H n a&&cZ H n b
 |.block _ b=>cZ H n b
 |.loop b=>cZ H n b
 |.rangeFunc _ _ a b=>cZ H n a&&cZ H n b
 |.scope b=>cZ H n b
 |_=>true
end Abs
end Go.Proofs.YtmndpldajflenaaGreatDoor
