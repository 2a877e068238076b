/- HOW THE MODEL'S VALUES AND MEMORY STAND FOR THOSE OF THE ABSTRACT MACHINE. Definitions, an -/
import Derived.Test.YtmndpldajflenaaGreatDoorAbsDef
import Derived.Lib.LaidTab
import Derived.Lib.ItoaNum
set_option linter.all false
namespace Go.Proofs.YtmndpldajflenaaGreatDoor
namespace Abs
inductive RepP (M:Nat->Prop) (w:World):Value->PV->Prop
 |bool (b:Bool):RepP M w (.bool b) (.bool b)
 |int (k:IntKind) (n:Int):RepP M w (.int k n) (.int k n)
 |str (s:ByteArray):RepP M w (.string s) (.str s)
 |agg {C:Array Value} {cs:List PV} (hn:C.size=cs.length) (hs:∀c,c∈cs->c.isCell=true)
   (h:∀(i:Nat) (c:PV),cs[i]?=some c->RepP M w (C.getD i undef) c):RepP M w (.agg C) (.agg cs)
 |tuple {C:Array Value} {cs:List PV} (hn:C.size=cs.length)
   (h:∀(i:Nat) (c:PV),cs[i]?=some c->RepP M w (C.getD i undef) c):RepP M w (.tuple C) (.tuple cs)
 |slice {b off len cap sz:Nat} {xs:List PV} {full:Bool} (f:Nat->Value) (hlen:len=xs.length) (hcap:len<=cap) (hfull:full=true->cap=len)
   (hsz:∀x,x∈xs->x.cells.length=sz/\∀c,c∈x.cells->c.isCell=true)
   (hM:xs.length*sz≠0->¬M b)
   (hc:∀k,k<xs.length*sz->w.cell? ⟨b,off+k,none⟩=some (f k))
   (hr:∀(i j:Nat) (x c:PV),xs[i]?=some x->x.cells[j]?=some c->RepP M w (f (i*sz+j)) c) :
   RepP M w (.slice (some ⟨b,off,none⟩) len cap) (.slice sz xs full)
 |empty {a:Option Addr} {cap sz:Nat} {full:Bool} (hfull:full=true->cap=0):RepP M w (.slice a 0 cap) (.slice sz [] full)
 |nilslice:RepP M w (.slice none 0 0) .nilslice
 |ptr {b off sz:Nat} {xs:List PV} {i o at_:Nat} (f:Nat->Value) (hat:at_=off+i*sz+o)
   (hsz:∀x,x∈xs->x.cells.length=sz/\∀c,c∈x.cells->c.isCell=true)
   (hM:xs.length*sz≠0->¬M b)
   (hc:∀k,k<xs.length*sz->w.cell? ⟨b,off+k,none⟩=some (f k))
   (hr:∀(i j:Nat) (x c:PV),xs[i]?=some x->x.cells[j]?=some c->RepP M w (f (i*sz+j)) c) :
   RepP M w (.pointer (some ⟨b,at_,none⟩)) (.ptr sz xs i o)
 |nilptr:RepP M w (.pointer none) .nilptr
 |func {fn:Fn} {F C:Array Value} {first cap:List PV} (hf:F.size=first.length) (hc:C.size=cap.length)
   (h1:∀(i:Nat) (c:PV),first[i]?=some c->RepP M w (F.getD i undef) c)
   (h2:∀(i:Nat) (c:PV),cap[i]?=some c->RepP M w (C.getD i undef) c):RepP M w (.func fn F C) (.func fn first cap)
 |nilfunc:RepP M w .nilFunc .nilfunc
 |iface {t:TypeId} {v:Value} {q:PV} (h:RepP M w v q):RepP M w (.iface t v) (.iface t q)
 |niliface:RepP M w .nilIface .niliface
 |any {a:Option Addr}:RepP M w (.pointer a) .any
 |anyMap {r:Option Nat}:RepP M w (.map r) .any
def Own (m:List (Option Nat)) (b:Nat):Prop:=some b∈m
def Avoid (M0:Nat->Prop) (m:List (Option Nat)) (b:Nat):Prop:=M0 b\/Own m b
structure Mem where
 m:List (Option Nat)
 h:Heap
 w:World
def b8 (S:Mem) (id ver:Nat) (X:Nat->Option Nat->Prop):Prop:=
 S.h[id]?=some .dead\/∃sz xs,S.h[id]?=some (.row sz xs)/\ver<=xs.length/\(xs.length=ver->X sz (S.m.getD id none))
def MX (v:Value) (i o sz:Nat) (μ:Option Nat):Prop:=∃b,μ=some b/\v=.pointer (some ⟨b,i*sz+o,none⟩)
def sliceAt (w:World) (v:Value) (ver off len sz:Nat) (μ:Option Nat):Prop:=
 (len=0/\ver≠0/\off=ver/\∃a cap,v=.slice a 0 cap) \/
 (∃b cap T n,μ=some b/\v=.slice (some ⟨b,off*sz,none⟩) len cap/\(len<=cap/\off+len<=ver)/\w.shape? b=some (T,n)/\(off+cap)*sz<=n/\ver<=off+cap) \/
 (μ=none/\v=.slice none 0 0/\len=0)
def rZ:RK->Nat->Value
 |.it,b=>.pointer (some ⟨b,0,none⟩)
 |.yl,b=>.func (.yield b) #[] #[]
 |.mp,b=>.map (some b)
 |.dk,b=>.pointer (some ⟨b,0,none⟩)
 |.bl,b=>.pointer (some ⟨b,0,none⟩)
def bp (M0:Nat->Prop) (S:Mem) (v:Value):AV->Prop
 |.p q=>RepP (Avoid M0 S.m) S.w v q
 |.ptr id ver i o=>(∃a,v=.pointer a)/\b8 S id ver (MX v i o)
 |.slice id ver off len=>(∃a n c,v=.slice a n c)/\b8 S id ver (sliceAt S.w v ver off len)
 |.ref k id=>(∃b,v=rZ k b)/\(S.h[id]?=some .dead\/(∃o,S.h[id]?=some o/\o.tag=some k)/\∃b,S.m.getD id none=some b/\v=rZ k b)
 |.iptr t id=>(∃a,v=.iface t (.pointer a))/\b8 S id 1 (λ_ μ=>∃b,μ=some b/\v=.iface t (.pointer (some ⟨b,0,none⟩)))
 |.arr id ver i o n=>(∃a c,v=.slice a n c)/\b8 S id ver (λsz μ=>∃b cap,μ=some b/\n<=cap/\(n≠0->v=.slice (some ⟨b,i*sz+o,none⟩) n cap))
 |.undef=>True
 |_=>False
def cK (R:Value->AV->Prop) (C:Array Value) (cs:List AV):Prop:=
 C.size=cs.length/\∀(i:Nat) (c:AV),cs[i]?=some c->R (C.getD i undef) c
def aY (M0:Nat->Prop) (S:Mem) (v:Value):AV->Prop
 |.func fn first cap=>∃F C,v=.func fn F C/\cK (bp M0 S) F first/\cK (bp M0 S) C cap
 |a=>bp M0 S v a
def cc (M0:Nat->Prop) (S:Mem) (v:Value):AV->Prop
 |.agg cs=>∃C,v=.agg C/\(∀c,c∈cs->c.isCell=true)/\cK (aY M0 S) C cs
 |a=>aY M0 S v a
def Rep (M0:Nat->Prop) (S:Mem) (v:Value):AV->Prop
 |.tuple cs=>∃C,v=.tuple C/\cK (cc M0 S) C cs
 |a=>cc M0 S v a
def fk (R:Value->AV->Prop):List MapEntry->List (PV×PV)->Prop
 |[],[]=>True
 |e::C,p::es=>R e.key (.p p.1)/\R e.val (.p p.2)/\fk R C es
 |_,_=>False
theorem fk.mono{R R'}(h:∀v a,R v a->R' v a):∀{C} {es},fk R C es->fk R' C es
 |[],[],_=>trivial
 |_::_,_::_,k=>⟨h _ _ k.1,h _ _ k.2.1,fk.mono h k.2.2⟩
 |[],_::_,k=>k.elim
 |_::_,[],k=>k.elim
theorem fk.monoP{R R'}(h:∀v (q),R v (.p q)->R' v (.p q)):∀{C} {es},fk R C es->fk R' C es
 |[],[],_=>trivial
 |_::_,_::_,k=>⟨h _ _ k.1,h _ _ k.2.1,fk.monoP h k.2.2⟩
 |[],_::_,k=>k.elim
 |_::_,[],k=>k.elim
def lu (f:PV->PV->Bool):Prop:=∀k q v u,f k v=true->f q u=true->∃b,jF k q=some b/\(b=true->k=q)
def ObjOk (P:Program) (M0:Nat->Prop) (S:Mem) (μ:Option Nat):AObj->Prop
 |.row sz xs=>(μ=none/\xs=[])\/∃b T C,μ=some b/\S.w.heap[b]?=some (.cells C T (0,0))/\xs.length*sz<=C.size /\
   ∀(i:Nat) (x:AV),xs[i]?=some x->∃cs,x.cells=some cs/\cs.length=sz/\∀(j:Nat) (c:AV),cs[j]?=some c->c.isCell=true/\aY M0 S (C.getD (i*sz+j) undef) c
 |.strIter s pos=>∃b,μ=some b/\S.w.heap[b]?=some (.stringIter s pos)
 |.mp es=>∃b C clk,μ=some b/\S.w.heap[b]?=some (.map C clk)/\fk (aY M0 S) C.toList es
 |.memo f=>lu f/\∃es:List (PV×PV),(∀p,p∈es->f p.1 p.2=true)/\∃b C clk,μ=some b/\S.w.heap[b]?=some (.map C clk)/\fk (aY M0 S) C.toList es
 |.loop n tmps ps assign body st pend=>∃b r,μ=some b/\S.w.heap[b]?=some (.loop r)/\r.tmps.size=n/\(∀t,Rep M0 S (r.tmps.getD t undef) (tmps t)) /\
   r.params=ps/\r.assign=assign/\r.body=body/\r.state=st/\r.pending=pend/\∃fn,P.funcs[r.fn]?=some fn
 |.dblock=>∃b,μ=some b/\S.w.heap[b]?=some (.deferred (some []))
 |.bld T e x=>∃b p v,μ=some b/\S.w.heap[b]?=some (.cells #[p,v] T (0,0))/\(p=.pointer none\/p=.pointer (some ⟨b,0,none⟩))/\(x=.p .nilslice\/∃j n,x=.slice j n 0 n)/\bp M0 S v x /\
   ∀a n c,v=.slice (some a) n c->∃N,S.w.shape? a.block=some (e,N)
 |.dead=>True
def Er (P:Program) (b:Nat):Prop:=
 P.globalNamed "internal/strconv.uint64pow10" = some b\/P.globalNamed "strconv.ErrSyntax" = some b\/P.globalNamed "strconv.ErrRange" = some b
def s4 (P:Program) (w:World):Prop:=
 (∀b,P.globalNamed "internal/strconv.uint64pow10" = some b->Lib.TabIs P w "internal/strconv.uint64pow10" .u64 Lib.pow10Tab) /\
 (∀b,P.globalNamed "strconv.ErrSyntax" = some b->∃tp p,w.var? P "strconv.ErrSyntax" = some #[.iface tp p]) /\
 (∀b,P.globalNamed "strconv.ErrRange" = some b->∃tp p,w.var? P "strconv.ErrRange" = some #[.iface tp p])
theorem s4.same{P}{w w'}(h:s4 P w)(hb:∀b,Er P b->w'.heap[b]?=w.heap[b]?):s4 P w':=by
 have key:∀n b,P.globalNamed n=some b->w'.heap[b]?=w.heap[b]?->w'.var? P n=w.var? P n:=by
  intro n b hn he;simp only[World.var?,hn,ot,he]
 refine⟨λb hn=>?_,λb hn=>?_,λb hn=>?_⟩
 .have:=h.1 b hn;unfold Lib.TabIs at this |-;rwa [key _ b hn (hb b (.inl hn))]
 .obtain⟨tp,p,h⟩:=h.2.1 b hn;exact⟨tp,p,by rwa [key _ b hn (hb b (.inr (.inl hn)))]⟩
 .obtain⟨tp,p,h⟩:=h.2.2 b hn;exact⟨tp,p,by rwa [key _ b hn (hb b (.inr (.inr hn)))]⟩
theorem zF{P}{w:World}{n}{b}{x}(hn:P.globalNamed n=some b)(h:w.var? P n=some x):b<w.heap.size:=by
 simp only[World.var?,hn,ot]at h;rcases aw b w.heap.size with h'|h'
 .exact h'
 .simp[xv h']at h
theorem s4.lt{P}{w}(h:s4 P w){b}(hb:Er P b):b<w.heap.size:=by
 rcases hb with hb|hb|hb
 .exact zF hb (h.1 b hb)
 .obtain⟨_,_,h⟩:=h.2.1 b hb;exact zF hb h
 .obtain⟨_,_,h⟩:=h.2.2 b hb;exact zF hb h
def Glob (P:Program) (S:Mem):Prop:=s4 P S.w/\∀b,Er P b->¬Own S.m b
structure HOk (P:Program) (M0:Nat->Prop) (S:Mem):Prop where
 len:S.m.length=S.h.length
 lt:∀b,Own S.m b->b<S.w.heap.size
 m0:∀b,M0 b->b<S.w.heap.size/\¬Own S.m b
 inj:∀(i j b:Nat),S.m[i]?=some (some b)->S.m[j]?=some (some b)->i=j
 obj:∀id o,S.h[id]?=some o->ObjOk P M0 S (S.m.getD id none) o
 gl:Glob P S
structure Fr (m:List (Option Nat)) (w w':World):Prop where
 os:w'.os=w.os
 tape:w'.tape=w.tape
 output:w'.output=w.output
 size:w.heap.size<=w'.heap.size
 block:∀b,b<w.heap.size->¬Own m b->w'.heap[b]?=w.heap[b]?
 shape:∀b,b<w.heap.size->w'.shape? b=w.shape? b
def ObjEv (μ:Option Nat) (o:AObj) (μ':Option Nat) (o':AObj):Prop:=
 o'=.dead \/
 (∃sz xs xs',o=.row sz xs/\o'=.row sz xs'/\((xs'.length=xs.length/\μ'=μ)\/xs.length<xs'.length)) \/
 (o.tag≠none/\o'.tag=o.tag/\μ'=μ)
structure Ev (base:Nat) (S S':Mem):Prop where
 fr:Fr S.m S.w S'.w
 sub:∀b,Own S'.m b->Own S.m b\/S.w.heap.size<=b
 obj:∀id o,id<base->S.h[id]?=some o->∃o',S'.h[id]?=some o'/\ObjEv (S.m.getD id none) o (S'.m.getD id none) o'
theorem Glob.fr{P}{S S'}(h:Glob P S)(hb:∀b,b<S.w.heap.size->¬Own S.m b->S'.w.heap[b]?=S.w.heap[b]?)(hs:∀b,Own S'.m b->Own S.m b\/S.w.heap.size<=b):Glob P S':=
 ⟨h.1.same λb hg=>hb b (h.1.lt hg) (h.2 b hg),λb hg ho=>(hs b ho).elim (h.2 b hg) λk=>by have:=h.1.lt hg;omega⟩
theorem Ev.glob{P}{base}{S S'}(e:Ev base S S')(h:Glob P S):Glob P S':=h.fr e.fr.block e.sub
theorem Fr.refl(m)(w):Fr m w w:=⟨rfl,rfl,rfl,aJ _,λ_ _ _=>rfl,λ_ _=>rfl⟩
theorem ObjEv.refl(μ)(o):ObjEv μ o μ o:=by
 cases o with
 |row sz xs=>exact .inr (.inl ⟨sz,xs,xs,rfl,rfl,.inl ⟨rfl,rfl⟩⟩)
 |dead=>exact .inl rfl
 |_=>exact .inr (.inr ⟨by simp[AObj.tag],rfl,rfl⟩)
theorem ObjEv.trans{μ μ' μ''}{o o' o''}(h:ObjEv μ o μ' o')(k:ObjEv μ' o' μ'' o''):ObjEv μ o μ'' o'':=by
 rcases k with rfl|⟨sz,xs,xs',rfl,rfl,k⟩|⟨k1,k2,rfl⟩
 .exact .inl rfl
 .rcases h with h|⟨sz',ys,ys',rfl,h,h'⟩|⟨h1,h2,h⟩
  .cases h
  .cases h;refine .inr (.inl ⟨_,_,_,rfl,rfl,?_⟩);rcases h' with⟨h1,rfl⟩|h1
   .rcases k with⟨k1,rfl⟩|k1
    .exact .inl ⟨k1.trans h1,rfl⟩
    .exact .inr (by omega)
   .rcases k with⟨k1,rfl⟩|k1
    .exact .inr (by omega)
    .exact .inr (by omega)
  .exact absurd h2.symm h1
 .rcases h with rfl|⟨_,_,_,rfl,rfl,_⟩|⟨h1,h2,h⟩
  .exact absurd rfl k1
  .exact absurd rfl k1
  .exact .inr (.inr ⟨h1,k2.trans h2,h⟩)
theorem Ev.refl(base)(S):Ev base S S:=⟨Fr.refl _ _,λ_ h=>.inl h,λ_ o _ h=>⟨o,h,ObjEv.refl _ _⟩⟩
theorem Ev.trans{base:Nat}{S T U:Mem}(h:Ev base S T)(k:Ev base T U):Ev base S U where
 fr:=
  {os:=k.fr.os.trans h.fr.os
   tape:=k.fr.tape.trans h.fr.tape
   output:=k.fr.output.trans h.fr.output
   size:=iZ h.fr.size k.fr.size
   block:=λb hb hn=>by
    have h1:=h.fr.block b hb hn;have h2:¬Own T.m b:=λho=>by
     rcases h.sub b ho with h'|h'
     .exact hn h'
     .omega
    exact(k.fr.block b (hP hb h.fr.size) h2).trans h1
   shape:=λb hb=>(k.fr.shape b (hP hb h.fr.size)).trans (h.fr.shape b hb) }
 sub:=λb hb=>by
  rcases k.sub b hb with h'|h'
  .exact h.sub b h'
  .exact .inr (iZ h.fr.size h')
 obj:=λid o hid ho=>by
  obtain⟨o',ho',he⟩:=h.obj id o hid ho;obtain⟨o'',ho'',he'⟩:=k.obj id o' hid ho';exact⟨o'',ho'',he.trans he'⟩
theorem Ev.mono{base base'}{S T}(h:Ev base S T)(hb:base'<=base):Ev base' S T:=
 ⟨h.fr,h.sub,λid o hid ho=>h.obj id o (by omega) ho⟩
theorem RepP.mono{M M'}{w w'}{v}{q}(h:RepP M w v q)
  (hb:∀b,b<w.heap.size->¬M b->w'.heap[b]?=w.heap[b]?) (hM:∀b,M' b->M b\/w.heap.size<=b):RepP M' w' v q:=by
 have cells:∀(b off n:Nat) (f:Nat->Value),(n≠0->¬M b)->(∀k,k<n->w.cell? ⟨b,off+k,none⟩=some (f k)) ->
   (n≠0->¬M' b)/\∀k,k<n->w'.cell? ⟨b,off+k,none⟩=some (f k):=by
  intro b off n f h1 h2;by_cases hn:n=0
  .subst hn;exact⟨λe=>absurd rfl e,λk hk=>by omega⟩
  .have hlt:b<w.heap.size:=World.block_lt_of_cell? (a:=⟨b,off+0,none⟩) w (h2 0 (by omega));refine⟨λ_ hm=>?_,λk hk=>?_⟩
   .rcases hM b hm with h'|h'
    .exact h1 hn h'
    .omega
   .rw[<-h2 k hk];simp only[World.cell?,hb b hlt (h1 hn)]
 induction h with
 |bool b=>exact .bool b
 |int k n=>exact .int k n
 |str s=>exact .str s
 |agg hn hs _ ih=>exact .agg hn hs ih
 |tuple hn _ ih=>exact .tuple hn ih
 |slice f hlen hcap hfull hsz hm hc _ ih=>
  obtain⟨h1,h2⟩:=cells _ _ _ f hm hc
  exact .slice f hlen hcap hfull hsz h1 h2 ih
 |empty hf=>exact .empty hf
 |nilslice=>exact .nilslice
 |ptr f hat hsz hm hc _ ih=>
  obtain⟨h1,h2⟩:=cells _ _ _ f hm hc
  exact .ptr f hat hsz h1 h2 ih
 |nilptr=>exact .nilptr
 |func hf hc _ _ ih1 ih2=>exact .func hf hc ih1 ih2
 |nilfunc=>exact .nilfunc
 |iface _ ih=>exact .iface ih
 |niliface=>exact .niliface
 |any=>exact .any
 |anyMap=>exact .anyMap
theorem RepP.less{M M'}{w}{v}{q}(h:RepP M w v q)(hM:∀b,M' b->M b):RepP M' w v q:=
 h.mono (λ_ _ _=>rfl) (λb hb=>.inl (hM b hb))
def bP (n:Nat):AV->Prop
 |.ptr id _ _ _=>id<n
 |.slice id _ _ _=>id<n
 |.ref _ id=>id<n
 |.iptr _ id=>id<n
 |.arr id _ _ _ _=>id<n
 |_=>True
def bS (n:Nat):AV->Prop
 |.func _ first cap=>(∀c,c∈first->bP n c)/\∀c,c∈cap->bP n c
 |a=>bP n a
def de (n:Nat):AV->Prop
 |.agg cs=>∀c,c∈cs->bS n c
 |a=>bS n a
def below (n:Nat):AV->Prop
 |.tuple cs=>∀c,c∈cs->de n c
 |a=>de n a
theorem Ev.live{base}{S S'}(e:Ev base S S'){id ver}{X}(h:b8 S id ver X)(hid:id<base)
  {Y} (hXY:∀sz,X sz (S.m.getD id none)->Y sz (S.m.getD id none)):b8 S' id ver Y:=by
 rcases h with h|⟨sz,xs,h,hv,hx⟩
 .obtain⟨o',ho',he⟩:=e.obj id _ hid h;rcases he with rfl|⟨_,_,_,he,_⟩|⟨he,_⟩
  .exact .inl ho'
  .cases he
  .exact absurd rfl he
 .obtain⟨o',ho',he⟩:=e.obj id _ hid h;rcases he with rfl|⟨sz',ys,ys',he,rfl,he'⟩|⟨he,_⟩
  .exact .inl ho'
  .cases he;refine .inr ⟨sz,ys',ho',?_,?_⟩
   .rcases he' with⟨h1,_⟩|h1<;>omega
   .intro hlen;rcases he' with⟨h1,h2⟩|h1
    .rw[h2];exact hXY sz (hx (by omega))
    .omega
  .exact absurd rfl he
theorem Ev.avoid{base}{S S'}(e:Ev base S S')(M0)(b)(h:Avoid M0 S'.m b):Avoid M0 S.m b\/S.w.heap.size<=b:=by
 rcases h with h|h
 .exact .inl (.inl h)
 .rcases e.sub b h with h'|h'
  .exact .inl (.inr h')
  .exact .inr h'
theorem Ev.repP{base}{S S'}(e:Ev base S S'){M0}{v}{q}(h:RepP (Avoid M0 S.m) S.w v q):RepP (Avoid M0 S'.m) S'.w v q:=
 h.mono (λb hb hn=>e.fr.block b hb (λho=>hn (.inr ho))) (e.avoid M0)
theorem nF{w:World}{b T n}(h:w.shape? b=some (T,n)):b<w.heap.size:=by
 unfold World.shape? at h;rcases aw b w.heap.size with h'|h'
 .exact h'
 .simp[xv h']at h
theorem Ev.rep0{base}{S S'}(e:Ev base S S'){M0}{v}{a}(h:bp M0 S v a)(hb:bP base a):bp M0 S' v a:=by
 cases a with
 |p q=>exact e.repP h
 |ptr id ver i o=>exact⟨h.1,e.live h.2 hb λ_ hx=>hx⟩
 |slice id ver off len=>
  refine⟨h.1,e.live h.2 hb λsz hx=>?_⟩;rcases hx with hx|⟨b,cap,T,n,h1,h2,h3,h4,h5⟩|hx
  .exact .inl hx
  .exact .inr (.inl ⟨b,cap,T,n,h1,h2,h3,(e.fr.shape b (nF h4)).trans h4,h5⟩)
  .exact .inr (.inr hx)
 |ref k id=>
  refine⟨h.1,?_⟩;rcases h.2 with h2|⟨⟨o,h2,h5⟩,b,h3,h4⟩
  .obtain⟨o',ho',he⟩:=e.obj id _ hb h2;rcases he with rfl|⟨_,_,_,he,_⟩|⟨he,_⟩
   .exact .inl ho'
   .cases he
   .exact absurd rfl he
  .obtain⟨o',ho',he⟩:=e.obj id _ hb h2;rcases he with rfl|⟨_,_,_,rfl,_⟩|⟨h6,h7,he'⟩
   .exact .inl ho'
   .cases h5
   .refine .inr ⟨⟨_,ho',h7.trans h5⟩,b,?_,h4⟩
    rw[he',h3]
 |iptr t id=>exact⟨h.1,e.live h.2 hb λ_ hx=>hx⟩
 |arr id ver i o n=>exact⟨h.1,e.live h.2 hb λ_ hx=>hx⟩
 |agg cs=>exact h.elim
 |func fn f c=>exact h.elim
 |tuple vs=>exact h.elim
 |undef=>exact trivial
theorem cK.imp{R R'}{C}{cs}(h:cK R C cs)(hr:∀v c,c∈cs->R v c->R' v c):cK R' C cs:=
 ⟨h.1,λi c hi=>hr _ c (aV hi) (h.2 i c hi)⟩
theorem Ev.repS{base}{S S'}(e:Ev base S S'){M0}{v}{a}(h:aY M0 S v a)(hb:bS base a):aY M0 S' v a:=by
 cases a with
 |func fn f c=>
  obtain⟨F,C,rfl,h1,h2⟩:=h
  exact⟨F,C,rfl,h1.imp λv c hc hr=>e.rep0 hr (hb.1 c hc),h2.imp λv c hc hr=>e.rep0 hr (hb.2 c hc)⟩
 |_=>first|exact False.elim h|exact Ev.rep0 e (M0:=M0) (v:=v) (a:=.p _) h hb|exact Ev.rep0 e (M0:=M0) (v:=v) (a:=.ptr _ _ _ _) h hb|exact Ev.rep0 e (M0:=M0) (v:=v) (a:=.slice _ _ _ _) h hb|exact Ev.rep0 e (M0:=M0) (v:=v) (a:=.ref _ _) h hb|exact Ev.rep0 e (M0:=M0) (v:=v) (a:=.iptr _ _) h hb|exact Ev.rep0 e (M0:=M0) (v:=v) (a:=.arr _ _ _ _ _) h hb|exact Ev.rep0 e (M0:=M0) (v:=v) (a:=.agg _) h hb|exact Ev.rep0 e (M0:=M0) (v:=v) (a:=.tuple _) h hb|exact Ev.rep0 e (M0:=M0) (v:=v) (a:=.undef) h hb|exact Ev.rep0 e (M0:=M0) (v:=v) (a:=.func _ _ _) h hb
theorem Ev.repA{base}{S S'}(e:Ev base S S'){M0}{v}{a}(h:cc M0 S v a)(hb:de base a):cc M0 S' v a:=by
 cases a with
 |agg cs=>
  obtain⟨C,rfl,h1,h2⟩:=h
  exact⟨C,rfl,h1,h2.imp λv c hc hr=>e.repS hr (hb c hc)⟩
 |_=>first|exact False.elim h|exact Ev.repS e (M0:=M0) (v:=v) (a:=.p _) h hb|exact Ev.repS e (M0:=M0) (v:=v) (a:=.ptr _ _ _ _) h hb|exact Ev.repS e (M0:=M0) (v:=v) (a:=.slice _ _ _ _) h hb|exact Ev.repS e (M0:=M0) (v:=v) (a:=.ref _ _) h hb|exact Ev.repS e (M0:=M0) (v:=v) (a:=.iptr _ _) h hb|exact Ev.repS e (M0:=M0) (v:=v) (a:=.arr _ _ _ _ _) h hb|exact Ev.repS e (M0:=M0) (v:=v) (a:=.agg _) h hb|exact Ev.repS e (M0:=M0) (v:=v) (a:=.tuple _) h hb|exact Ev.repS e (M0:=M0) (v:=v) (a:=.undef) h hb|exact Ev.repS e (M0:=M0) (v:=v) (a:=.func _ _ _) h hb
theorem Ev.rep{base}{S S'}(e:Ev base S S'){M0}{v}{a}(h:Rep M0 S v a)(hb:below base a):Rep M0 S' v a:=by
 cases a with
 |tuple cs=>
  obtain⟨C,rfl,h2⟩:=h
  exact⟨C,rfl,h2.imp λv c hc hr=>e.repA hr (hb c hc)⟩
 |_=>first|exact False.elim h|exact Ev.repA e (M0:=M0) (v:=v) (a:=.p _) h hb|exact Ev.repA e (M0:=M0) (v:=v) (a:=.ptr _ _ _ _) h hb|exact Ev.repA e (M0:=M0) (v:=v) (a:=.slice _ _ _ _) h hb|exact Ev.repA e (M0:=M0) (v:=v) (a:=.ref _ _) h hb|exact Ev.repA e (M0:=M0) (v:=v) (a:=.iptr _ _) h hb|exact Ev.repA e (M0:=M0) (v:=v) (a:=.arr _ _ _ _ _) h hb|exact Ev.repA e (M0:=M0) (v:=v) (a:=.agg _) h hb|exact Ev.repA e (M0:=M0) (v:=v) (a:=.tuple _) h hb|exact Ev.repA e (M0:=M0) (v:=v) (a:=.undef) h hb|exact Ev.repA e (M0:=M0) (v:=v) (a:=.func _ _ _) h hb
theorem AH{S:Mem}{id ver:Nat}{X Y:Nat->Option Nat->Prop}(h:b8 S id ver X)(k:∀sz μ,X sz μ->Y sz μ):b8 S id ver Y:=by
 rcases h with h|⟨sz,xs,h1,h2,h3⟩
 .exact .inl h
 .exact .inr ⟨sz,xs,h1,h2,λe=>k _ _ (h3 e)⟩
theorem qz{M0:Nat->Prop}{S:Mem}{v:Value}{t:TypeId}{id:Nat}(h:bp M0 S v (.iptr t id)):∃a,v=.iface t (.pointer a)/\bp M0 S (.pointer a) (.ptr id 1 0 0):=by
 obtain⟨⟨a,rfl⟩,h⟩:=h;refine⟨a,rfl,⟨a,rfl⟩,AH h λsz μ hx=>?_⟩;obtain⟨b,h1,h2⟩:=hx;injection h2 with _ h2
 exact⟨b,h1,by rw[h2];simp⟩
theorem H3{M0:Nat->Prop}{S:Mem}{v:Value}{t:TypeId}{id:Nat}(h:bp M0 S v (.ptr id 1 0 0)):bp M0 S (.iface t v) (.iptr t id):=by
 obtain⟨⟨a,rfl⟩,h⟩:=h;refine⟨⟨a,rfl⟩,AH h λsz μ hx=>?_⟩;obtain⟨b,h1,h2⟩:=hx;exact⟨b,h1,by rw[h2];simp⟩
theorem lc{S}{id ver}{X}(h:b8 S id ver X):id<S.h.length:=by
 rcases h with h|⟨_,_,h,_⟩
 .exact(aA.1 h).1
 .exact(aA.1 h).1
theorem eh{M0}{S}{v}{a}(h:bp M0 S v a):bP S.h.length a:=by
 cases a with
 |ptr id ver i o=>exact lc h.2
 |slice id ver off len=>exact lc h.2
 |ref k id=>
  rcases h.2 with h2|⟨⟨_,h2,_⟩,_⟩<;>exact(aA.1 h2).1
 |iptr t id=>exact lc h.2
 |arr id ver i o n=>exact lc h.2
 |_=>exact trivial
theorem cK.mem{R}{C}{cs}(h:cK R C cs){c}(hc:c∈cs):∃v,R v c:=by
 obtain⟨i,hi⟩:=eL hc;exact⟨_,h.2 i c hi⟩
theorem dL{M0}{S}{v}{a}(h:aY M0 S v a):bS S.h.length a:=by
 cases a with
 |func fn f c=>
  obtain⟨F,C,rfl,h1,h2⟩:=h
  exact⟨λc hc=>let ⟨_,hv⟩:=h1.mem hc;eh hv,λc hc=>let ⟨_,hv⟩:=h2.mem hc;eh hv⟩
 |p q=>exact trivial
 |ptr id ver i o=>exact eh (M0:=M0) (v:=v) (show bp M0 S v (.ptr id ver i o) from h)
 |slice id ver off len=>exact eh (M0:=M0) (v:=v) (show bp M0 S v (.slice id ver off len) from h)
 |ref k id=>exact eh (M0:=M0) (v:=v) (show bp M0 S v (.ref k id) from h)
 |iptr t id=>exact eh (M0:=M0) (v:=v) (show bp M0 S v (.iptr t id) from h)
 |arr id ver i o n=>exact eh (M0:=M0) (v:=v) (show bp M0 S v (.arr id ver i o n) from h)
 |agg cs=>exact trivial
 |tuple cs=>exact trivial
 |undef=>exact trivial
theorem eg{M0}{S}{v}{a}(h:cc M0 S v a):de S.h.length a:=by
 cases a with
 |agg cs=>
  obtain⟨C,rfl,_,h2⟩:=h
  exact λc hc=>let ⟨_,hv⟩:=h2.mem hc;dL hv
 |_=>first|exact False.elim h|exact dL (M0:=M0) (S:=S) (v:=v) (a:=.p _) h|exact dL (M0:=M0) (S:=S) (v:=v) (a:=.ptr _ _ _ _) h|exact dL (M0:=M0) (S:=S) (v:=v) (a:=.slice _ _ _ _) h|exact dL (M0:=M0) (S:=S) (v:=v) (a:=.ref _ _) h|exact dL (M0:=M0) (S:=S) (v:=v) (a:=.iptr _ _) h|exact dL (M0:=M0) (S:=S) (v:=v) (a:=.arr _ _ _ _ _) h|exact dL (M0:=M0) (S:=S) (v:=v) (a:=.agg _) h|exact dL (M0:=M0) (S:=S) (v:=v) (a:=.tuple _) h|exact dL (M0:=M0) (S:=S) (v:=v) (a:=.undef) h|exact dL (M0:=M0) (S:=S) (v:=v) (a:=.func _ _ _) h
theorem FF{M0}{S}{v}{a}(h:Rep M0 S v a):below S.h.length a:=by
 cases a with
 |tuple cs=>
  obtain⟨C,rfl,h2⟩:=h
  exact λc hc=>let ⟨_,hv⟩:=h2.mem hc;eg hv
 |_=>first|exact False.elim h|exact eg (M0:=M0) (S:=S) (v:=v) (a:=.p _) h|exact eg (M0:=M0) (S:=S) (v:=v) (a:=.ptr _ _ _ _) h|exact eg (M0:=M0) (S:=S) (v:=v) (a:=.slice _ _ _ _) h|exact eg (M0:=M0) (S:=S) (v:=v) (a:=.ref _ _) h|exact eg (M0:=M0) (S:=S) (v:=v) (a:=.iptr _ _) h|exact eg (M0:=M0) (S:=S) (v:=v) (a:=.arr _ _ _ _ _) h|exact eg (M0:=M0) (S:=S) (v:=v) (a:=.agg _) h|exact eg (M0:=M0) (S:=S) (v:=v) (a:=.tuple _) h|exact eg (M0:=M0) (S:=S) (v:=v) (a:=.undef) h|exact eg (M0:=M0) (S:=S) (v:=v) (a:=.func _ _ _) h
theorem Ev.keep{S S'}(e:Ev S.h.length S S'){M0}{v}{a}(h:Rep M0 S v a):Rep M0 S' v a:=e.rep h (FF h)
theorem Ev.keepS{S S'}(e:Ev S.h.length S S'){M0}{v}{a}(h:aY M0 S v a):aY M0 S' v a:=e.repS h (dL h)
end Abs
end Go.Proofs.YtmndpldajflenaaGreatDoor
