/-
  DEFINITIONS: what stands for an activation; what is known of calls; what a code comes to f
-/
import Derived.Test.YtfafnkpfamgbbaaGreatDoorAbsOpsF
import Derived.AtR
import Derived.Recover
set_option linter.unusedSimpArgs false
set_option linter.unusedVariables false
namespace Go.Proofs.YtfafnkpfamgbbaaGreatDoor
namespace Abs
def Nr (M0:Nat->Prop) (S:Mem):Ending->AEnd->Prop
 |.returned v',.ret v=>Rep M0 S v' v
 |.panicked ch,.panic v=>∃ v',ch=[{ v:=v',recovered:=false }]/\RepP (Avoid M0 S.m) S.w v' v
 |_,_=>False
def rY (P:Program) (M0:Nat->Prop) (S:Mem) (R:AEnd->Heap->Prop) (e:Ending) (w':World):Prop :=
 ∃ (r:AEnd) (h':Heap) (m':List (Option Nat)),R r h'/\Ev S.h.length S ⟨m',h',w'⟩/\HOk P M0 ⟨m',h',w'⟩/\Nr M0 ⟨m',h',w'⟩ e r
def aC (P:Program) (f:FuncId) (args:List AV) (h:Heap) (R:AEnd->Heap->Prop):Prop :=
 ∀ (M0:Nat->Prop) (m:List (Option Nat)) (w:World) (cargs:Array Value),HOk P M0 ⟨m,h,w⟩->dM (Rep M0 ⟨m,h,w⟩) cargs args ->
  (∀ w',(callFunc f cargs).run P w'=.ok (.enter f cargs) w')/\Calls P f cargs w (rY P M0 ⟨m,h,w⟩ R)
def sT (P:Program) (l:Nat) (args:List AV) (h:Heap) (R:AEnd->Heap->Prop):Prop :=
 (∃ o,h[l]?=some o/\o.tag=some .yl) /\
 ∀ (M0:Nat->Prop) (m:List (Option Nat)) (w:World) (cargs:Array Value) (b:Nat),HOk P M0 ⟨m,h,w⟩->dM (Rep M0 ⟨m,h,w⟩) cargs args->m.getD l none=some b ->
  ∃ (f:FuncId) (tmps:Array Value) (assign body:Code),(Instr.yield b cargs).run P w=.ok (.round b f tmps assign body) w /\
   ∀ (c:Frame) (cs:List Frame),∃ e w',rY P M0 ⟨m,h,w⟩ R e w' /\
    match e with
    |.returned v=>Steps P (lone (Frame.round b f tmps assign body .normal) (c::cs) w) (lone (c.finish v) cs w')
    |.panicked ch=>Steps P (lone (Frame.round b f tmps assign body .normal) (c::cs) w) (lone (c.raise ch) cs w')
    |.outgrown=>False
inductive AMode where
 |ret
 |pan (v:PV)
 |recd (v:PV)
def xA:AMode->AMode
 |.recd _=>.ret
 |u=>u
def iU (M0:Nat->Prop) (S:Mem) (um:FrameMode):AMode->Prop
 |.ret=>um=.returning
 |.pan v=>∃ v',um=.panicking [{ v:=v',recovered:=false }]/\RepP (Avoid M0 S.m) S.w v' v
 |.recd _=>∃ v',um=.panicking [{ v:=v',recovered:=true }]
def jM (P:Program) (f:FuncId) (args:List AV) (u:AMode) (h:Heap) (R:AEnd->AMode->Heap->Prop):Prop :=
 ∀ (M0:Nat->Prop) (m:List (Option Nat)) (w:World) (cargs:Array Value) (um:FrameMode),HOk P M0 ⟨m,h,w⟩->dM (Rep M0 ⟨m,h,w⟩) cargs args->iU M0 ⟨m,h,w⟩ um u ->
  (∀ w',(callFunc f cargs).run P w'=.ok (.enter f cargs) w') /\
  CallsD P f cargs um w λe um' w'=>∃ (r:AEnd) (u':AMode) (h':Heap) (m':List (Option Nat)),R r u' h'/\Ev h.length ⟨m,h,w⟩ ⟨m',h',w'⟩/\HOk P M0 ⟨m',h',w'⟩ /\
   Nr M0 ⟨m',h',w'⟩ e r/\iU M0 ⟨m',h',w'⟩ um' u'
def GP (P:Program) (M0:Nat->Prop) (S:Mem) (d:Deferred):ADef->Prop
 |.fn g args=>∃ (fv:Fn) (cap dargs cargs:Array Value),d={ target:=.fn fv cap,args:=dargs } /\
   (∀ w,(invoke (.fn fv cap) dargs).run P w=(callFunc g cargs).run P w)/\dM (Rep M0 S) cargs args
 |.collected id=>∃ b,d={ target:=.collected b,args:=#[] }/\(S.h[id]?=some .dead\/(S.h[id]?=some .dblock/\S.m.getD id none=some b))
def DefsRep (P:Program) (M0:Nat->Prop) (S:Mem):List Deferred->List ADef->Prop
 |[],[]=>True
 |d::ds,x::xs=>GP P M0 S d x/\DefsRep P M0 S ds xs
 |_,_=>False
def RcRep (M0:Nat->Prop) (S:Mem) (b:Frame) (cs0:List Frame):Rc->Prop
 |.no=>b.roundOf=none
 |.rnd=>b.roundOf.isSome=true/\b.kind=.normal
 |.none=>b.roundOf=none/\b.kind=.deferred/\recoverD cs0=none
 |.pend v=>b.roundOf=none/\b.kind=.deferred/\∃ v' cs1,recoverD cs0=some (v',cs1)/\RepP (Avoid M0 S.m) S.w v' v
 |.got _=>b.roundOf=none/\b.kind=.deferred/\∃ v' cs1,recoverD cs0=some (v',cs1)
def bJ:Rc->List Frame->List Frame
 |.got _,cs=>match recoverD cs with | some (_,c)=>c | none=>cs
 |_,cs=>cs
structure Rel (P:Program) (M0:Nat->Prop) (S0:Mem) (b:Frame) (cs0:List Frame) (m:List (Option Nat)) (A:AAct) (a:Act) (w:World):Prop where
 size:a.tmps.size=A.n
 tmps:∀ t,Rep M0 ⟨m,A.h,w⟩ (a.tmps.getD t undef) (A.tmps t)
 hok:HOk P M0 ⟨m,A.h,w⟩
 ev:Ev A.bs S0 ⟨m,A.h,w⟩
 le:A.bs<=A.h.length/\∃ f,P.funcs[b.fn]?=some f
 df:DefsRep P M0 ⟨m,A.h,w⟩ a.defers A.df
 rc:RcRep M0 ⟨m,A.h,w⟩ b cs0 A.rc
def fW (P:Program) (A B:AAct):Prop :=
 B.n=A.n/\B.rc=A.rc/\∀ M0 S0 b cs0 m a w,Rel P M0 S0 b cs0 m A a w->∃ m',Rel P M0 S0 b cs0 m' B a w
def BH (K:AV->Heap->Prop) (Q:PV->Heap->Prop):AEnd->Heap->Prop
 |.ret v,h=>K v h
 |.panic v,h=>Q v h
def uG (K:Prop):Rc->Prop
 |.rnd=>False
 |_=>K
def N1 (A:AAct) (K:AAct->PV->Prop):Rc->Prop
 |.none=>K A .niliface
 |.pend v=>K { A with rc:=.got v } v
 |.got _=>K A .niliface
 |_=>False
def kT (P:Program) (A:AAct) (dst:Option Tmp) (K:AAct->Prop) (Q:Ex->AAct->Prop):OR->Prop
 |.val v h=>K (A.put dst v h)
 |.skip h=>K (A.put dst (.p (.tuple [])) h)
 |.call f args=>aC P f args A.h (BH (λv h=>K (A.put dst v h)) (λv h=>Q (.panic v) { A with h:=h }))
 |.yld l args=>sT P l args A.h (BH (λv h=>K (A.put dst v h)) (λv h=>Q (.panic v) { A with h:=h }))
 |.dfr d=>uG (K ({ A with df:=d::A.df }.put dst (.p (.tuple [])) A.h)) A.rc
 |.recover=>N1 A (λB v=>K (B.put dst (.p v) A.h)) A.rc
 |.panic v=>Q (.panic v) A
 |.stuck=>False
def r7 (X Y:Unit->Prop):Option Bool->Prop
 |some b=>GQ b X Y
 |none=>False
def Ec (X Y:Unit->Prop):AV->Prop
 |.p (.bool b)=>GQ b X Y
 |_=>False
def eK (K:AAct->Prop) (Q:Ex->AAct->Prop):Ex->AAct->Prop
 |.normal,A=>K A
 |.exit j,A=>Q (.exit j) A
 |.ret,A=>Q .ret A
 |.panic v,A=>Q (.panic v) A
def mv (id:Nat) (Q:Ex->AAct->Prop):Ex->AAct->Prop
 |.exit j,A=>if j=id then Q .normal A else Q (.exit j) A
 |.normal,A=>Q .normal A
 |.ret,A=>Q .ret A
 |.panic v,A=>Q (.panic v) A
inductive Hint where
 |std | mut | low | bar
  |slot (j sz:Nat)
  |sto
  |nop
  |app (t:Nat)
  |thr
  |cal
 deriving DecidableEq
def Hint.isMut:Hint->Bool
 |.mut=>true
 |_=>false
abbrev Hints:=Nat->Hint
def aQ (H:Hints):Nat->Bool:=λd=>(H d).isMut
def iJ (P:Program) (H:Hints) (ops:Array Oper) (Q:Ex->AAct->Prop):List Oper->AAct->Prop
 |[],A=>Q .normal A
 |o::rest,A =>
   r7 (λ_=>kT P A o.dst (iJ P H ops Q rest) Q (bY P (aQ H) o A.eval A.h))
    (λ_=>iJ P H ops Q rest (A.put o.dst (.p (.tuple [])) A.h)) (bC ops A o)
def AObj.isDead:AObj->Bool
 |.dead=>true
 |_=>false
def cB (h h':Heap):Prop:=∀ (id:Nat) (o:AObj),h[id]?=some o->o.isDead=false->h'[id]?=some o
inductive DC where
 |bar | alloc | quiet | low
 |slot (j sz:Nat)
 |sto
 |nop
 |app (t:Nat)
 |thr
 |cal
 deriving DecidableEq
def pK:Op->Bool
 |.alloc _=>true
 |.box _ _=>true
 |.makeSlice _ _ _=>true
 |.makeMap _ none=>true
 |_=>false
def yS:Op->Bool
 |.alloc _=>true
 |.box _ _=>true
 |_=>false
def eR:Op->Bool
 |.move _ | .assign _ | .pick _ _ _ | .build _ _ | .buildSlice _ _ _ | .load _ _ | .nilCheck _ | .binOp _ _ _ _ _ | .unOp _ _ _ | .convert _ _ _ | .makeInterface _ _ | .makeFunc _ _ _
 |.slice _ _ _ _ _ | .fieldAddr _ _ _ | .field _ _ _ | .indexAddr _ _ _ | .index _ _ _ | .extract _ _ | .lookup _ _ _ _ | .typeAssert _ _ _ _=>true
 |.call c =>
  match c.callee with
  |.value _=>true
  |.builtin .len=>true
  |.builtin .min=>true
  |.builtin .max=>true
  |_=>false
 |_=>false
def Ao:Op->Bool
 |.call c=>match c.callee with | .builtin .append=>true | .builtin .copy=>true | _=>false
 |_=>false
def PT:Operand->Nat
 |.tmp x=>x
 |_=>999
def tX (H:Hints):Op->DC
 |.store _ (.tmp t) y=>match H (1000000+1000*t+PT y) with | .sto=>.sto | .nop=>.nop | _=>.bar
 |_=>.bar
def bV (H:Hints) (o:Oper):DC :=
 match o.dst with
 |none=>tX H o.op
 |some d =>
  match H d with
  |.std=>if pK o.op=true then .alloc else if eR o.op=true then .quiet else .bar
  |.mut=>.alloc
  |.low=>if eR o.op=true then .low else .bar
  |.slot j sz=>if yS o.op=true then .slot j sz else .bar
  |.app t=>if Ao o.op=true then .app t else .bar
  |.thr=>if eR o.op=true then .thr else .bar
  |.cal=>if eR o.op=true then .cal else .bar
  |_=>.bar
def xJ (P:Program) (h:Heap) (K:AV->Prop):OR->Prop
 |.val v h'=>h'=h/\K v
 |.call f args=>∃ v,(∀ h',cB h h'->aC P f args h' (λr h''=>r=.ret v/\h''=h'))/\K v
 |_=>False
def B5 (h:Heap) (K:AV->Heap->Prop):OR->Prop
 |.val v h'=>(∃ t,h'=h++t)/\K v h'
 |_=>False
def gO (P:Program) (e:Operand->AV):Op->Option AV
 |.alloc T=>(ak P T).map .p
 |.box _ x=>some (e x)
 |_=>none
def iG (hs:Heap) (id:Nat):Bool :=
 match hs[id]? with
 |some .dead=>true
 |none=>true
 |_=>false
def r9 (hs h:Heap) (j sz:Nat) (K:AV->Heap->Prop):Option AV->Prop
 |some z=>z.cells.map (·.length)=some sz/\iG hs (hs.length-1-j)=true/\h[hs.length-1-j]?=some (.row sz [])/\K (.ptr (hs.length-1-j) 1 0 0) (h.set (hs.length-1-j) (.row sz [z]))
 |none=>False
def qp (K:Heap->Prop):OR->Prop
 |.skip h=>K h
 |_=>False
def vv (P:Program) (hs h:Heap) (e:Operand->AV) (K:Heap->Prop):Op->Prop
 |.store T a x=>match e a with
  |.ptr id ver i o=>iG hs id=true/\qp K (gK P T (.ptr id ver i o) (e x) h)
  |_=>False
 |_=>False
def vS (P:Program) (h:Heap) (e:Operand->AV) (K:Prop):Op->Prop
 |.store T a x=>gK P T (e a) (e x) h=.skip h/\K
 |_=>False
def Qz (hs h h':Heap):Prop:=(∃ t,h'=h++t)\/∃ id ob,h'=h.set id ob/\iG hs id=true
def zd (hs h:Heap) (K:AV->Heap->Prop):OR->Prop
 |.val v h'=>Qz hs h h'/\K v h'
 |_=>False
def yq (P:Program) (Q:Ex->AAct->Prop) (A:AAct) (K:AV->Prop):OR->Prop
 |.call f args=>(∃ v,(∀ h',cB A.h h'->aC P f args h' (λr h''=>r=.ret v/\h''=h'))/\K v) \/
   ∃ v,aC P f args A.h (λr h''=>r=.panic v/\h''=A.h)/\∀ T,Q (.panic v) { A with tmps:=T }
 |_=>False
def J3 (H:Hints) (T S:Nat->AV):Prop:=∀ t,H (6000000+t)=.nop->T t=S t
def rJ (P:Program) (H:Hints) (Q:Ex->AAct->Prop) (hs:Heap) (A:AAct) (K:AV->Heap->Prop):OR->Prop
 |.call f args=>aC P f args A.h (BH (λv h=>cB hs h/\K v h) (λv h=>∀ T,J3 H T A.tmps->Q (.panic v) { A with tmps:=T,h:=h }))
 |_=>False
def Ut (X Y Z W:Unit->Prop) (U:Nat->Nat->Prop) (V N E R C:Unit->Prop):DC->Prop
 |.bar=>X ()
 |.alloc=>Y ()
 |.quiet=>Z ()
 |.low=>W ()
 |.slot j sz=>U j sz
 |.sto=>V ()
 |.nop=>N ()
 |.app _=>E ()
 |.thr=>R ()
 |.cal=>C ()
def bU (P:Program) (H:Hints) (ops:Array Oper) (Q:Ex->AAct->Prop):List Oper->Heap->AAct->Prop
 |[],_,A=>Q .normal A
 |o::rest,hs,A =>
   r7 (λ_=>Ut
     (λ_=>kT P A o.dst (λB=>bU P H ops Q rest B.h B) Q (bY P (aQ H) o A.eval A.h))
     (λ_=>B5 A.h (λv h=>bU P H ops Q rest hs (A.put o.dst v h)) (bY P (aQ H) o A.eval A.h))
     (λ_=>xJ P A.h (λv=>bU P H ops Q rest hs (A.put o.dst v A.h)) (bY P (aQ H) o A.eval A.h))
     (λ_=>xJ P hs (λv=>bU P H ops Q rest hs (A.put o.dst v A.h)) (bY P (aQ H) o A.eval hs))
     (λj sz=>r9 hs A.h j sz (λv h=>bU P H ops Q rest hs (A.put o.dst v h)) (gO P A.eval o.op))
     (λ_=>vv P hs A.h A.eval (λh=>bU P H ops Q rest hs (A.put o.dst (.p (.tuple [])) h)) o.op)
     (λ_=>vS P A.h A.eval (bU P H ops Q rest hs (A.put o.dst (.p (.tuple [])) A.h)) o.op)
     (λ_=>zd hs A.h (λv h=>bU P H ops Q rest hs (A.put o.dst v h)) (bY P (aQ H) o A.eval A.h))
     (λ_=>yq P Q A (λv=>bU P H ops Q rest hs (A.put o.dst v A.h)) (bY P (aQ H) o A.eval A.h))
     (λ_=>rJ P H Q hs A (λv h=>bU P H ops Q rest hs (A.put o.dst v h)) (bY P (aQ H) o A.eval A.h))
     (bV H o))
    (λ_=>bU P H ops Q rest hs (A.put o.dst (.p (.tuple [])) A.h)) (bC ops A o)
def sa (H:Hints):List Oper->List Nat
 |[]=>[]
 |o::l=>match bV H o with | .slot _ sz=>sz::sa H l | _=>sa H l
def nA (H:Hints) (T:Nat->AV):List Oper->List Nat
 |[]=>[]
 |o::l=>match bV H o,o.op with
  |.sto,.store _ (.tmp t) _=>(match T t with | .ptr id _ _ _=>id::nA H T l | _=>nA H T l)
  |.app t,_=>(match T t with | .slice id _ _ _=>id::nA H T l | _=>nA H T l)
  |_,_=>nA H T l
def uo (h:Heap):List Nat->Heap
 |[]=>h
 |id::l=>uo (h.set id .dead) l
def gc (id:Nat) (h:Heap):Heap:=h.mapIdx λi o=>if i=id then o else .dead
def JR (H:Hints) (T:Nat->AV):Option Nat:=match H 5000001 with | .app t=>(match T t with | .ptr id _ _ _=>some id | .slice id _ _ _=>some id | _=>none) | .nop=>some 1000000000 | _=>none
def xl (H:Hints) (ops:List Oper) (A:AAct):Heap:=match JR H A.tmps with | some id=>gc id A.h | none=>uo A.h (nA H A.tmps ops)
def n7 (H:Hints) (ops:List Oper) (A:AAct):Heap:=xl H ops A++(sa H ops).map λ_=>.dead
def Fg {α:Type} (a b:Nat) (l:List α):List α:=if a<b/\b<l.length then l.take a++(l.drop (a+1)).take (b-a)++(l.drop a).take 1++l.drop (b+1) else l
def ui (H:Hints) (n:Nat):List Nat:=match H 5000000 with | .slot a b=>Fg a b (List.range n) | _=>List.range n
def yH (H:Hints) (l:List Oper):List Oper:=match H 5000000 with | .slot a b=>Fg a b l | _=>l
def qF (H:Hints) (ops:List Oper) (A:AAct):AAct:={ A with h:=A.h++(sa H ops).map λsz=>.row sz [] }
def ux (Q:Ex->AAct->Prop) (A:AAct):Option Code->Prop
 |none=>Q .normal A
 |some .ret=>Q .ret A
 |some (.exit id)=>Q (.exit id) A
 |_=>False
def ng (Q:Ex->AAct->Prop) (A:AAct) (l:Nat):Option AObj->Prop
 |some (.loop _ _ _ _ _ st pend)=>st≠.busy/\ux Q { A with h:=A.h.set l .dead } pend
 |_=>False
def vO (P:Program) (A:AAct) (h:Heap) (l:Nat) (Q:Ex->AAct->Prop):OR->Prop
 |.call g args=>aC P g args h (BH (λ_ h'=>ng Q { A with h:=h',df:=.collected l::A.df } (l+1) h'[l+1]?)
   (λv h'=>Q (.panic v) { A with h:=h',df:=.collected l::A.df }))
 |_=>False
def wp (P:Program) (H:Hints):Code->(Ex->AAct->Prop)->AAct->Prop
 |.skip,Q,A=>Q .normal A
 |.region _ ops false,Q,A=>iJ P H ops Q ops.toList A
 |.region _ ops true,Q,A=>bU P H ops Q (yH H ops.toList) (n7 H ops.toList A) (qF H ops.toList A)
 |.seq a b,Q,A=>wp P H a (eK (wp P H b Q) Q) A
 |.cond c x y,Q,A=>Ec (λ_=>wp P H x Q A) (λ_=>wp P H y Q A) (A.eval c)
 |.block id b,Q,A=>wp P H b (mv id Q) A
 |.loop b,Q,A=>∀ X:AAct->Prop,(∀ B,wp P H b (eK (λC=>∃ D,fW P C D/\X D) Q) B->X B)->∃ B,fW P A B/\X B
 |.rangeFunc g ps assign body,Q,A=>uG (vO P A (A.h++[.dblock,.loop A.n A.tmps ps assign body .ready none]) A.h.length Q (fQ (A.eval g) [.ref .yl (A.h.length+1)])) A.rc
 |.exit id,Q,A=>Q (.exit id) A
 |.ret,Q,A=>Q .ret A
 |.scope b,Q,A=>wp P H b Q A
 |.label _,Q,A=>Q .normal A
 |_,_,_=>False
def n6 (n:Nat) (o:Oper):Bool:=match o.dst with | some d=>decide (d<n) | none=>true
def Gq (b:Array Nat) (i j:Nat):Bool:=(b.getD j 0).testBit i
def lh:DC->DC->Bool
 |.alloc,.low=>true
 |.quiet,.alloc | .quiet,.quiet | .quiet,.low=>true
 |.low,.alloc | .low,.quiet | .low,.low | .low,.slot _ _ | .low,.sto=>true
 |.slot _ _,.low | .slot _ _,.slot _ _=>true
 |.sto,.low=>true
 |.app _,.low | .low,.app _=>true
 |.nop,.low | .nop,.quiet | .nop,.nop | .low,.nop | .quiet,.nop=>true
 |.quiet,.thr | .low,.thr=>true
 |.low,.cal=>true
 |_,_=>false
def uy (o:Oper):Bool :=
 match o.guard,o.op with
 |none,.move _=>true
 |none,.assign _=>true
 |_,_=>false
def xm:DC->Bool
 |.thr=>true
 |_=>false
def qC:DC->Bool
 |.quiet=>true
 |_=>false
def Qq (H:Hints) (x y:Oper):Bool :=
 match bV H y with
 |.cal=>(match x.dst with | some d=>decide (H (6000000+d)≠.nop) | none=>true)
 |_=>true
def pE (H:Hints) (ops:Array Oper) (x y:Oper):Bool:=(lh (bV H x) (bV H y)||(xm (bV H x)&&uy y&&qC (bV H y)))&&(Oper.apart ops x y&&Qq H x y)
def zT (H:Hints) (ops:Array Oper) (b:Array Nat):List Nat->Bool
 |[]=>true
 |i::r =>
  (match ops[i]? with
   |some x=>(x.after.all λe=>!Region.binds .any e||(decide (e.on<ops.size)&&!(i::r).contains e.on)) &&
    r.all λj=>!(i==j)&&(match ops[j]? with | some y=>Gq b i j||pE H ops x y | none=>false)
   |none=>false)&&zT H ops b r
def FO (H:Hints) (ops:Array Oper):Bool :=
 (ops.toList.all λy=>Region.noSelect ops)&&decide ((ui H ops.size).length=ops.size)&&zT H ops (Region.before ops) (ui H ops.size)
def dl (H:Hints) (n:Nat):Code->Bool
 |.region _ ops false=>ops.toList.all (n6 n)
 |.region _ ops true=>ops.toList.all (n6 n)&&FO H ops
 |.seq a b=>dl H n a&&dl H n b
 |.cond _ a b=>dl H n a&&dl H n b
 |.block _ b=>dl H n b
 |.loop b=>dl H n b
 |.rangeFunc _ _ a b=>dl H n a&&dl H n b
 |.scope b=>dl H n b
 |_=>true
end Abs
end Go.Proofs.YtfafnkpfamgbbaaGreatDoor
