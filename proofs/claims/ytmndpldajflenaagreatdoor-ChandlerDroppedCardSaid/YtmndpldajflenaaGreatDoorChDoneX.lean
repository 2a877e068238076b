/- CONTRACTS of the program's functions, and laws on what they return. No conditions but those in the theorems' heads. -/
import Derived.Test.YtmndpldajflenaaGreatDoorChRd3
set_option linter.all false
set_option maxHeartbeats 2000000
open Go.Proofs.Tryz renaming prog->TP
namespace Go.Proofs.YtmndpldajflenaaGreatDoor
namespace Abs
namespace Ch
set_option maxRecDepth 4000
def nA (s:ChShop) (b:ChBooks) (ex:List PV) (q:Except Int (ChBooks×List UInt8×Bool)) (r:AEnd) (h':Heap):Prop:=
 match q with
 |.error e=>r=.ret (.p (.tuple [.str .empty,.bool false,.int .i64 e]))/\h'=B7 s b ex
 |.ok (b',a,w)=>r=.ret (.p (.tuple [.str (bs a),.bool w,.int .i64 0]))/\((∃ex',h'=B7 s b' ex')\/(b'.batches=[]/\∃l x,h'=vo s b' l x))
theorem EC{e}{v q o l j i a}{t}:jr TP 157 [.ptr 7 1 0 0,.ptr 8 1 0 0,.ptr 9 1 0 0] (.pan (gc e)) (v::q::o::l::j::i::a::.row 1 [.p (.str .empty)]::.row 1 [.p (.bool false)]::.row 1 [.p (.int .i64 0)]::t)
  (λr u h'=>r=.ret (.p (.tuple []))/\u=.recd (gc e)/\h'=v::q::o::l::j::i::a::.row 1 [.p (.str .empty)]::.row 1 [.p (.bool false)]::.row 1 [.p (.int .i64 e)]::t):=by
 refine fJ (eI (by kernel_rfl) rfl OK) rfl ?_;simp only[TB,aO,mM,ik,bt,go_sem,simprocAttr];rfl
theorem Ll{i j k}{h}:jr TP 157 [.ptr i 1 0 0,.ptr j 1 0 0,.ptr k 1 0 0] .ret h (λr u h'=>r=.ret (.p (.tuple []))/\u=.ret/\h'=h):=by
 refine fJ (eI (by kernel_rfl) rfl OK) rfl ?_;simp only[mM,ik,go_sem,simprocAttr]
def rB:Hints:=ez [(12,.low),(13,.low),(14,.cal),(15,.low),(16,.low),(1004014,.sto),(5000000,.slot 2 4),(5000001,.app 7),(6000004,.nop),(6000005,.nop),(6000006,.nop)]
theorem R2:cy rB Tryz.f125=true:=by kernel_rfl
theorem Q1{P}{Q}{A}(i)(v u q o l j e a):@W ⟨P,rB,.region i ⟨[v,u,q,o,l,j,e,a]⟩ true,Q⟩ A=@WD ⟨P,rB,⟨[v,u,q,o,l,j,e,a]⟩,[v,u,o,l,q,j,e,a],Q⟩ (nh rB [v,u,q,o,l,j,e,a] A) (pQ rB [v,u,q,o,l,j,e,a] A):=by
 rw[HI];rfl
theorem M'(h)(x):ga h.length (h++[x])=h.map (λ_=>.dead)++[x]:=by
 unfold ga;apply mD;intro i;rw[ua];rcases H2 i h.length with hi|hi|hi
 .rw[bp hi,bp (by simpa using hi),cW]
  cases h[i]? with
  |none=>rfl
  |some o=>simp[vq hi]
 .subst hi;rw[cG (ba _),cG (by simp)];simp
 .rw[lC (by simp;omega),lC (by simp;omega)];rfl
theorem CX{t}(h:t.take 3=D3):t=D3++t.drop 3:=by rw[<-h,mE]
theorem yE{rs}{R}{T}{e}{v q o l j i a}{t}(k:ca TP rs R T [] .ret (v::q::o::l::j::i::a::.row 1 [.p (.str .empty)]::.row 1 [.p (.bool false)]::.row 1 [.p (.int .i64 e)]::t)) :
  ca TP rs R T [.fn 157 [.ptr 7 1 0 0,.ptr 8 1 0 0,.ptr 9 1 0 0]] (.pan (gc e)) (v::q::o::l::j::i::a::.row 1 [.p (.str .empty)]::.row 1 [.p (.bool false)]::.row 1 [.p (.int .i64 0)]::t):=by
 rw[jU];refine EC.mono λr u h' y=>?_;obtain⟨rfl,rfl,rfl⟩:=y;exact k
theorem Bu{rs}{R}{T}{i j k}{h}(e:ca TP rs R T [] .ret h):ca TP rs R T [.fn 157 [.ptr i 1 0 0,.ptr j 1 0 0,.ptr k 1 0 0]] .ret h:=by
 rw[jU];refine Ll.mono λr u h' a=>?_;obtain⟨rfl,rfl,rfl⟩:=a;exact e
theorem Ot{P}{H}{ops}{rest}{Q}{o}{a}{A}{f}{args}{R}(i:ar P f args A.h R)
  (l:∀v h',R (.ret v) h'->bY a h'/\@WD ⟨P,H,ops,rest,Q⟩ a (A.put o.dst v h')) (j:∀v h',R (.panic v) h'->∀T,II H T A.tmps->@WQ ⟨Q⟩ (.panic v) { A with tmps:=T,h:=h' }):@UW ⟨P,H,ops,rest,Q,o⟩ a A (.call f args):=by
 refine i.mono λr h' e=>?_
 cases r with
 |ret v=>exact l v h' e
 |panic v=>exact j v h' e
theorem Ph{h h':Heap}(x)(e:h'.length=h.length):bY (h.map (λ_=>AObj.dead)++[x]) (h'++[x]):=by
 intro id o a i;rcases cx id h.length with hi|hi
 .rw[bp (by simpa using hi),cW]at a
  cases hh:h[id]? with
  |none=>rw[hh]at a;cases a
  |some y=>rw[hh]at a;cases a;cases i
 .rw[cG (by simpa using hi)]at a;rw[cG (by omega),e];simpa using a
theorem OP(s)(b)(ex)(n)(hs:SOk s)(hb:BkOk s b n)(i):ar TP 125 [.ptr 2 1 0 0,.p (.str (bs i))] (B7 s b ex) (nA s b ex (eB s b i)):=by
 refine bz (eI (by kernel_rfl) rfl R2) rfl ?_;simp only[go_sem,simprocAttr];refine cj (Uj s b ex n hs hb i) (λv h j=>?_) (λv h j=>?_);rotate_left
 .unfold tO at j
  cases y:gr i with
  |ok c=>rw[y]at j;obtain⟨_,_,_,_,_,j,_⟩:=j;cases j
  |error e=>
   rw[y]at j;obtain⟨j,t,S,rfl⟩:=j;cases j;have D:eB s b i=.error e:=by rw[eB,y]
   rw[CX S];unfold H7;simp only[go_sem,simprocAttr];refine yE ?_;simp only[go_sem,simprocAttr];exact⟨B7 s b ex,_,rfl,rfl,fi s b ex,trivial,by unfold nA;rw[D];exact⟨rfl,rfl⟩⟩
 unfold tO at j
 cases y:gr i with
 |error e=>rw[y]at j;cases j.1
 |ok c=>
  rw[y]at j;obtain⟨F,first,N,t,C,E,hh,V,X,hc⟩:=j;cases E;have gg:=qP (lo:=h) rfl;have g0:=o5 (lo:=h) rfl;have ss:=qO (lo:=h) rfl;have s0:∀t x,(h++t).set h.length x=h++t.set 0 x:=λt x=>ss t 0 x;simp only[g0,s0,go_sem,simprocAttr];have gd:∀(u:Heap),(h.map (λ_=>AObj.dead)++u)[h.length]?=u[0]?:=λu=>o5 (lo:=h.map λ_=>.dead) (by simp) u;simp only[Q1,go_sem,simprocAttr];simp only[rB,M',bt,gd,go_sem,simprocAttr];have M:∀r h',jp s b ex t (aR s b c) r h'->h'.length=h.length:=λr h' z=>by
   obtain⟨h1,Y,e1,o,O,_⟩:=z;rw[e1,hh,aL,Fw o,O];unfold H7;rw[aL];rfl
  have I:∀u:Heap,(h.map (λ_=>AObj.dead)++u)[7]?=some .dead:=λu=>by
   have Z:7<h.length:=by
    rw[hh];unfold H7;rw[CX C,aL];show 7<7+_;simp[D3]
   rw[bp (by simpa using Z),cW,bO Z];rfl
  have U:=g' V X (hc.mono λr h' z=>⟨M r h' z,z⟩) [AObj.row 2 [AV.agg [AV.p (PV.bool c.written),AV.func (Fn.func F) first N]]];refine Ot U (λv h2 j=>?_) (λv h2 j T R=>?_)
  .obtain⟨S,rfl,G,z⟩:=j;refine⟨Ph _ G,?_⟩;obtain⟨h1,Y,rfl,o,O,k1⟩:=z;rw[C]at k1;rw[CX k1]
   cases A:aR s b c with
   |error e=>rw[A]at o;cases o.1
   |ok q=>
    obtain⟨b',a⟩:=q;rw[A]at o;obtain⟨E,hx⟩:=o;cases E;have D:eB s b i=.ok (b',a,c.written):=by unfold eB;rw[y];dsimp only;rw[A]
    rcases hx with⟨ex',rfl⟩|⟨h0,l,x,rfl⟩
    .simp only[rB,I,go_sem,simprocAttr];refine Bu ?_;simp only[go_sem,simprocAttr];exact⟨B7 s b' ex',_,rfl,rfl,fi s b' ex',trivial,by unfold nA;rw[D];exact⟨rfl,.inl ⟨_,rfl⟩⟩⟩
    .simp only[rB,I,go_sem,simprocAttr];refine Bu ?_;simp only[go_sem,simprocAttr];exact⟨vo s b' l x,_,rfl,rfl,Cb s b' l x,trivial,by unfold nA;rw[D];exact⟨rfl,.inr ⟨h0,_,_,rfl⟩⟩⟩
  .obtain⟨S,rfl,G,z⟩:=j;obtain⟨h1,Y,rfl,o,O,k1⟩:=z;rw[C]at k1;rw[CX k1]
   cases A:aR s b c with
   |ok q=>rw[A]at o;cases o.1
   |error e=>
    rw[A]at o;obtain⟨E,rfl⟩:=o;cases E;have D:eB s b i=.error e:=by unfold eB;rw[y];dsimp only;rw[A]
    have L:=R 4 rfl;have K:=R 5 rfl;have J:=R 6 rfl;simp only[go_sem,simprocAttr]at L K J;simp only[go_sem,simprocAttr];refine yE ?_;simp only[L,K,J,go_sem,simprocAttr];exact⟨B7 s b ex,_,rfl,rfl,fi s b ex,trivial,by unfold nA;rw[D];exact⟨rfl,rfl⟩⟩
def JN:Cmd->Prop
 |.lot name _ _ _=>name.length<=20
 |.batch name _ _ _=>name.length<=20
 |_=>True
theorem Bp{w v}(h:cM w=some v):v.length<=20:=by
 unfold cM at h;split at h
 .rename_i a;cases h;unfold nameOk at a;rw[dQ,decide_eq_true_eq,aj]at a;omega
 .cases h
theorem Pm{v}{ws}{c}(h:fy v ws=some c):JN c:=by
 unfold fy at h;split at h
 .split at h
  .split at h
   .rename_i a _ _ _;cases h;exact Bp a
   .cases h
  .cases h
 split at h
 .split at h
  .split at h
   .rename_i a _ _ _;cases h;exact Bp a
   .cases h
  .cases h
 split at h
 .split at h
  .simp only[bC]at h;obtain⟨_,_,rfl⟩:=h;trivial
  .cases h
 split at h
 .split at h
  .simp only[bC]at h;obtain⟨_,_,rfl⟩:=h;trivial
  .cases h
 split at h
 .split at h
  .simp only[bC]at h;obtain⟨_,_,rfl⟩:=h;trivial
  .cases h
 split at h
 .split at h
  .simp only[bC]at h;obtain⟨_,_,rfl⟩:=h;trivial
  .cases h
 split at h
 .split at h
  .split at h
   .cases h;trivial
   .cases h
  .cases h
 split at h
 .split at h
  .cases h;trivial
  .cases h
 split at h
 .split at h
  .split at h
   .cases h;trivial
   .cases h
  .cases h
 split at h
 .split at h
  .split at h
   .cases h;trivial
   .cases h
  .cases h
 split at h
 .split at h
  .cases h;trivial
  .cases h
 .cases h
theorem RN{l}{c}(h:gr l=.ok c):JN c:=by
 unfold gr at h;split at h
 .cases h
 .split at h
  .cases h;trivial
  .split at h
   .cases h
   .split at h
    .rename_i a;cases h;exact Pm a
    .cases h
theorem LO(l):(bs l).size=l.length:=aj l
theorem BkOk.mono{s}{b}{n m}(h:BkOk s b n)(e:n<=m)(a:m<=40):BkOk s b m:=
 {h with
  grams:=λx hx=>by have:=h.grams x hx;exact⟨this.1,by omega⟩
  poured:=by have:=h.poured;exact⟨this.1,by omega⟩
  lost:=by have:=h.lost;exact⟨this.1,by omega⟩
  few:=a }
theorem rZ{α:Type}{l:List α}{i}{a x}(h:x∈l.set i a):x∈l\/x=a:=H' h
theorem Te{s}{b b'}{n}{c}{a}(I:SOk s)(u:BkOk s b n)(K:n+1<=40)(F:JN c)(h:aR s b c=.ok (b',a)):BkOk s b' (n+1):=by
 have i:=u.mono (Nat.le_succ n) K
 cases c with
 |lot name kind grams rs=>
  simp only[aR]at h;split at h
  .cases h
  split at h
  .cases h
  split at h
  .cases h
  rename_i C;split at h
  .cases h
  split at h
  .cases h
  rename_i q;have A:1<=grams/\grams<=100000:=Classical.byContradiction C;have v:b.lots.length<8:=Classical.byContradiction q;cases h;refine { i with lots:=?_,grams:=?_,names:=?_,waits:=?_ }
  .simp;omega
  .intro x hx;rcases ck.1 hx with hx|hx
   .exact i.grams x hx
   .rw[dT.1 hx];dsimp only;omega
  .intro x hx;rcases ck.1 hx with hx|hx
   .exact i.names x hx
   .rw[dT.1 hx];dsimp only;rw[LO];exact F
  .intro x hx;have:=i.waits x hx
   exact⟨this.1,⟨this.2.1.1,by simp;omega⟩,this.2.2⟩
 |batch name colour lot grams=>
  simp only[aR]at h;split at h
  .cases h
  split at h
  .cases h
  split at h
  .cases h
  rename_i hi;split at h
  .cases h
  rename_i C;split at h
  .cases h
  rename_i x hx;split at h
  .cases h
  rename_i E;split at h
  .cases h
  rename_i q;have A:1<=grams/\grams<=100000:=Classical.byContradiction C;have v:b.batches.length<7:=Classical.byContradiction q;have M:grams<=x.grams:=Classical.byContradiction E;have D:=i.grams x (aG hx);have N:=(aB.1 hx).1;cases h;refine { i with lots:=?_,batches:=?_,grams:=?_,names:=?_,waits:=?_ }
  .simp;exact i.lots
  .simp;omega
  .intro y j;rcases rZ j with j|rfl
   .exact i.grams y j
   .dsimp only;omega
  .intro y j;rcases rZ j with j|rfl
   .exact i.names y j
   .exact i.names x (aG hx)
  .intro y j;rw[sI];rcases ck.1 j with j|j
   .exact i.waits y j
   .rw[dT.1 j];dsimp only
    exact⟨A,⟨by omega,by omega⟩,by rw[LO];exact F⟩
 |drop name=>
  simp only[aR]at h;split at h
  .cases h
  split at h
  .cases h
  rename_i y j;split at h
  .cases h
  rename_i x hx;have D:=u.grams x (aG hx);have L:=i.waits y (aG j);cases h;refine { i with lots:=?_,batches:=?_,grams:=?_,names:=?_,waits:=?_ }
  .simp;exact i.lots
  .have:=i.batches;rw[sJ];split<;>omega
  .intro z l;rcases rZ l with l|rfl
   .exact i.grams z l
   .dsimp only;omega
  .intro z l;rcases rZ l with l|rfl
   .exact i.names z l
   .exact i.names x (aG hx)
  .intro z l;rw[sI]
   exact i.waits z (List.mem_of_mem_eraseIdx l)
 |plan c=>
  simp only[aR]at h;split at h
  .cases h
  .cases h;exact i
 |pour c=>
  simp only[aR]at h;split at h
  .cases h
  .rename_i o m J;have R:=tK I u J;have G:=pC u b.batches λx hx=>hx;have S:=u.poured;have q:=u.lost;have O:=u.batches;have e:Mx b.batches=pb b.batches:=rfl;cases h;refine { i with batches:=?_,waits:=?_,poured:=?_,lost:=?_ }
   .exact de _
   .intro x hx;cases hx
   .dsimp only;rw[e];omega
   .dsimp only;omega
 |test text=>
  simp only[aR]at h;split at h
  .cases h
  split at h
  .cases h
  rename_i q;have v:b.tests.length<8:=Classical.byContradiction q;cases h
  exact { i with tests:=by simp;omega }
 |promise kind=>
  simp only[aR]at h;split at h
  .cases h
  .cases h;exact i
 |box kind hours=>
  simp only[aR]at h;split at h
  .cases h
  split at h
  .cases h
  split at h
  .cases h
  rename_i q;have v:b.boxes.length<20:=Classical.byContradiction q;cases h
  exact { i with boxes:=by simp;omega }
 |look=>simp only[aR]at h;cases h;exact i
 |wick kind a b c d=>
  simp only[aR]at h;split at h
  .cases h
  split at h
  .cases h
  split at h
  .cases h
  split at h
  .cases h
  .cases h;exact i
 |blend a b c=>
  simp only[aR]at h;split at h
  .cases h
  .cases h;exact i
 |stock=>simp only[aR]at h;cases h;exact i
def eR (e:Int):Prop:=0<=e/\e<=12
theorem eR.ite{p}[Decidable p]{a b}(i:eR a)(e:eR b):eR (if p then a else b):=by split<;>assumption
theorem Sy(s)(c):eR (Wk.eQ s c):=by
 unfold Wk.eQ;repeat (first|apply eR.ite|exact⟨by decide,by decide⟩)
theorem Ss{s}{c}{x}(h:Wk.shopErr s=0):eR (Wk.eb s c x).2:=by
 unfold Wk.eb;split
 .split<;>(unfold eR;dsimp only;decide)
 .dsimp only;unfold Wk.gS;rw[if_pos h];split
  .exact Sy s c
  .unfold eR;decide
theorem St(a)(t):eR (bQ a t):=by
 unfold bQ;repeat (first|apply eR.ite|exact⟨by decide,by decide⟩)
theorem At(a):∀l,eR (cL a l)
 |[]=>by unfold eR cL;decide
 |t::r=>by
  rw[cL];split
  .exact At a r
  .exact St a t
theorem Sw{s}{l}{k}(h:(hrCheck s).2.2=0):eR (eh s l k).2:=by
 have a:eR (bf s l k).2:=by
  unfold bf;split
  .split
   .unfold eR;decide
   .split
    .unfold eR;dsimp only;decide
    .split<;>(unfold eR;dsimp only;decide)
  .dsimp only;unfold cU;rw[if_pos h];split
   .unfold eR;decide
   .exact At _ _
 unfold eh;split
 .unfold eR;dsimp only;decide
 .exact a
theorem Sv{s}{a}(h:(hrCheck s).2.2=0):eR (aN s a).2:=by
 unfold aN;split
 .split
  .unfold eR;dsimp only;decide
  .split
   .unfold eR;dsimp only;decide
   .split<;>(unfold eR;dsimp only;decide)
 .dsimp only;unfold bX;rw[if_pos h];exact At _ _
theorem PX(s)(b):eR (Cl.eJ s b):=by
 unfold Cl.eJ;repeat (first|apply eR.ite|exact⟨by decide,by decide⟩)
theorem BO(s):∀l,eR (Cl.fg s l)
 |[]=>by unfold eR Cl.fg;decide
 |b::r=>by
  rw[Cl.fg];split
  .exact BO s r
  .exact PX s b
theorem Sx{s}{k}{l}(h:(Cl.clCheck s).2.2=0):eR (Cl.dG s k l):=by
 unfold Cl.dG;rw[if_pos h];split
 .unfold Cl.r0;split
  .exact BO s l
  .unfold eR;decide
 .unfold eR;decide
theorem Su{t}{rs}{k}(h:(Wx.wxCheck t).2.2=0):eR (Wx.bq t rs k).2.2:=by
 unfold Wx.bq;split
 .split
  .unfold Wx.mn;split
   .unfold eR;dsimp only;decide
   .split
    .unfold eR;dsimp only;decide
    .split<;>(unfold eR;dsimp only;decide)
  .unfold eR;dsimp only;decide
 .dsimp only;unfold Wx.eM;rw[if_pos h];split
  .split<;>(unfold eR;decide)
  .unfold eR;decide
theorem PW{l}{w}(h:wK l=0):eR (bR l w).2.2:=by
 unfold bR;split
 .split<;>(unfold eR;dsimp only;decide)
 .dsimp only;unfold iD;rw[if_pos h];split
  .unfold KL;repeat (first|apply eR.ite|exact⟨by decide,by decide⟩)
  .unfold eR;decide
theorem rX{e}(h:eR e)(a:e≠0):1<=e/\e<=12:=by unfold eR at h;omega
theorem E1{s}{b}{c}{e}(a:SOk s)(h:lA s b c=.error e):1<=e/\e<=12:=by
 unfold lA at h;dsimp only at h;split at h
 .cases h;decide
 .split at h
  .rename_i i;cases h;exact rX (Sx a.colour) i
  .split at h
   .cases h;decide
   .cases h
theorem DB{s}{b}{k}{e}(a:SOk s)(h:f' s b k=.error e):1<=e/\e<=12:=by
 unfold f' at h;dsimp only at h;split at h
 .cases h;decide
 .split at h
  .rename_i i;cases h;exact rX (Sw a.hour) i
  .cases h
theorem QW{s}{b}{c}{e}(j:SOk s)(h:aR s b c=.error e):1<=e/\e<=12:=by
 cases c with
 |lot name kind grams rs=>
  simp only[aR]at h;split at h
  .cases h;decide
  split at h
  .cases h;decide
  split at h
  .cases h;decide
  split at h
  .rename_i i;cases h;exact rX (Su j.wax) i
  split at h
  .cases h;decide
  .cases h
 |batch name colour lot grams=>
  simp only[aR]at h;split at h
  .cases h;decide
  split at h
  .cases h;decide
  split at h
  .cases h;decide
  split at h
  .cases h;decide
  split at h
  .cases h;decide
  split at h
  .cases h;decide
  split at h
  .cases h;decide
  .cases h
 |drop name=>
  simp only[aR]at h;split at h
  .cases h;decide
  split at h
  .cases h;decide
  split at h
  .cases h;decide
  .cases h
 |plan c=>
  simp only[aR]at h;split at h
  .rename_i i;cases h;exact E1 j i
  .cases h
 |pour c=>
  simp only[aR]at h;split at h
  .rename_i i;cases h;exact E1 j i
  .cases h
 |test text=>
  simp only[aR]at h;split at h
  .rename_i i;cases h;exact rX (Sv j.hour) i
  split at h
  .cases h;decide
  .cases h
 |promise kind=>
  simp only[aR]at h;split at h
  .rename_i i;cases h;exact DB j i
  .cases h
 |box kind hours=>
  simp only[aR]at h;split at h
  .rename_i i;cases h;exact DB j i
  split at h
  .cases h;decide
  split at h
  .cases h;decide
  .cases h
 |look=>simp only[aR]at h;cases h
 |wick kind a b c d=>
  simp only[aR]at h;split at h
  .cases h;decide
  split at h
  .cases h;decide
  split at h
  .rename_i i;cases h;exact rX (Ss j.wick) i
  split at h
  .cases h;decide
  .cases h
 |blend a b c=>
  simp only[aR]at h;split at h
  .rename_i i;cases h;exact rX (PW j.blend) i
  .cases h
 |stock=>simp only[aR]at h;cases h
def aZ (s:ChShop):Int×Int×Int:=
 if(Wx.wxCheck s.wax).2.2=0 then
  if(bdCheck s.blend).2.2=0 then
   if(Wk.bZ s.wick).2.2=0 then
    if(hrCheck s.hour).2.2=0 then
     if(Cl.clCheck s.colour).2.2=0 then(0,0,0) else(5,0,(Cl.clCheck s.colour).2.2)
    else(4,0,(hrCheck s.hour).2.2)
   else(3,0,(Wk.bZ s.wick).2.2)
  else(2,0,(bdCheck s.blend).2.2)
 else(1,0,(Wx.wxCheck s.wax).2.2)
theorem yb{s}(h:(aZ s).2.2=0):SOk s:=by
 unfold aZ at h;split at h
 .rename_i l;split at h
  .rename_i j;split at h
   .rename_i i;split at h
    .rename_i e;split at h
     .rename_i a;exact⟨l,j,i,e,a⟩
     .contradiction
    .contradiction
   .contradiction
  .contradiction
 .contradiction
theorem EU(s):af TP 156 [s.pv] (ah (aZ s)):=by
 refine aa (ag Tryz.func156 rfl) rfl ?_;simp only[ChShop.cells,go_sem,simprocAttr];refine ae (Wx.o3 s.wax) rfl ?_;simp only[ah,go_sem,simprocAttr];refine ae (xC s.blend) rfl ?_;simp only[ah,go_sem,simprocAttr];refine ae (Wk.o3 s.wick) rfl ?_;simp only[ah,go_sem,simprocAttr];refine ae (ER s.hour) rfl ?_;simp only[ah,go_sem,simprocAttr];refine ae (Cl.o3 s.colour) rfl ?_;simp only[ah,go_sem,simprocAttr];refine aY ?_;by_cases i:(Wx.wxCheck s.wax).2.2=0;rotate_left
 .have e:((Wx.wxCheck s.wax).2.2 != 0)=true:=by simpa using i
  have a:aZ s=(1,0,(Wx.wxCheck s.wax).2.2):=by unfold aZ;rw[if_neg i]
  simp only[e,a,ah,go_sem,simprocAttr]
 simp only[i,go_sem,simprocAttr];refine aY ?_;by_cases j:(bdCheck s.blend).2.2=0;rotate_left
 .have e:((bdCheck s.blend).2.2 != 0)=true:=by simpa using j
  have a:aZ s=(2,0,(bdCheck s.blend).2.2):=by unfold aZ;rw[if_pos i,if_neg j]
  simp only[e,a,ah,go_sem,simprocAttr]
 simp only[j,go_sem,simprocAttr];refine aY ?_;by_cases l:(Wk.bZ s.wick).2.2=0;rotate_left
 .have e:((Wk.bZ s.wick).2.2 != 0)=true:=by simpa using l
  have a:aZ s=(3,0,(Wk.bZ s.wick).2.2):=by unfold aZ;rw[if_pos i,if_pos j,if_neg l]
  simp only[e,a,ah,go_sem,simprocAttr]
 simp only[l,go_sem,simprocAttr];refine aY ?_;by_cases o:(hrCheck s.hour).2.2=0;rotate_left
 .have e:((hrCheck s.hour).2.2 != 0)=true:=by simpa using o
  have a:aZ s=(4,0,(hrCheck s.hour).2.2):=by unfold aZ;rw[if_pos i,if_pos j,if_pos l,if_neg o]
  simp only[e,a,ah,go_sem,simprocAttr]
 simp only[o,go_sem,simprocAttr];refine aY ?_;by_cases q:(Cl.clCheck s.colour).2.2=0;rotate_left
 .have e:((Cl.clCheck s.colour).2.2 != 0)=true:=by simpa using q
  have a:aZ s=(5,0,(Cl.clCheck s.colour).2.2):=by unfold aZ;rw[if_pos i,if_pos j,if_pos l,if_pos o,if_neg q]
  simp only[e,a,ah,go_sem,simprocAttr]
 simp only[q,go_sem,simprocAttr];refine aY ?_;have a:aZ s=(0,0,0):=by unfold aZ;rw[if_pos i,if_pos j,if_pos l,if_pos o,if_pos q]
 simp only[a,ah,go_sem,simprocAttr]
theorem Gh(s):af TP 71 [s.pv] (ah (aZ s)):=by
 refine aa (ag Tryz.func71 rfl) rfl ?_;simp only[ChShop.cells,go_sem,simprocAttr];refine ae (Wx.o2 s.wax) rfl ?_;simp only[ah,go_sem,simprocAttr];refine ae (Gj s.blend) rfl ?_;simp only[ah,go_sem,simprocAttr];refine ae (Wk.o2 s.wick) rfl ?_;simp only[ah,go_sem,simprocAttr];refine ae (Gg s.hour) rfl ?_;simp only[ah,go_sem,simprocAttr];refine ae (Cl.o2 s.colour) rfl ?_;simp only[ah,go_sem,simprocAttr];refine aY ?_;by_cases i:(Wx.wxCheck s.wax).2.2=0;rotate_left
 .have e:((Wx.wxCheck s.wax).2.2 != 0)=true:=by simpa using i
  have a:aZ s=(1,0,(Wx.wxCheck s.wax).2.2):=by unfold aZ;rw[if_neg i]
  simp only[e,a,ah,go_sem,simprocAttr]
 simp only[i,go_sem,simprocAttr];refine aY ?_;by_cases j:(bdCheck s.blend).2.2=0;rotate_left
 .have e:((bdCheck s.blend).2.2 != 0)=true:=by simpa using j
  have a:aZ s=(2,0,(bdCheck s.blend).2.2):=by unfold aZ;rw[if_pos i,if_neg j]
  simp only[e,a,ah,go_sem,simprocAttr]
 simp only[j,go_sem,simprocAttr];refine aY ?_;by_cases l:(Wk.bZ s.wick).2.2=0;rotate_left
 .have e:((Wk.bZ s.wick).2.2 != 0)=true:=by simpa using l
  have a:aZ s=(3,0,(Wk.bZ s.wick).2.2):=by unfold aZ;rw[if_pos i,if_pos j,if_neg l]
  simp only[e,a,ah,go_sem,simprocAttr]
 simp only[l,go_sem,simprocAttr];refine aY ?_;by_cases o:(hrCheck s.hour).2.2=0;rotate_left
 .have e:((hrCheck s.hour).2.2 != 0)=true:=by simpa using o
  have a:aZ s=(4,0,(hrCheck s.hour).2.2):=by unfold aZ;rw[if_pos i,if_pos j,if_pos l,if_neg o]
  simp only[e,a,ah,go_sem,simprocAttr]
 simp only[o,go_sem,simprocAttr];refine aY ?_;by_cases q:(Cl.clCheck s.colour).2.2=0;rotate_left
 .have e:((Cl.clCheck s.colour).2.2 != 0)=true:=by simpa using q
  have a:aZ s=(5,0,(Cl.clCheck s.colour).2.2):=by unfold aZ;rw[if_pos i,if_pos j,if_pos l,if_pos o,if_neg q]
  simp only[e,a,ah,go_sem,simprocAttr]
 simp only[q,go_sem,simprocAttr];refine aY ?_;have a:aZ s=(0,0,0):=by unfold aZ;rw[if_pos i,if_pos j,if_pos l,if_pos o,if_pos q]
 simp only[a,ah,go_sem,simprocAttr]
end Ch
theorem fR{P}{H}{Q}{x}{A}(live)(i sz s)(u v)(hi:A.bs<=i)(G:A.bs<=A.h.length)(hx:A.h[i]?=some (.row s [u]))(D:yw A.h.length u v)(E:∀t,t∈live->below A.h.length (A.tmps t))(C:∀o,o∈A.h->aX A.h.length o)(F:A.df=[])
  (k:@W ⟨P,H,.loop x,Q⟩ { n:=A.n,bs:=A.bs,rc:=A.rc,tmps:=cN (bU A.tmps live []),h:=A.h.set i (.row s [v])++[.row sz []],df:=A.df }):@W ⟨P,H,.loop x,Q⟩ A:=by
 have q:i<A.h.length:=(aB.1 hx).1
 have hw:=sN (P:=P) (A:={ A with h:=A.h++[.row sz []] }) (T:=cN (bU A.tmps live [])) A.h.length i sz s [u] [v] G hi (by simp) (by omega)
  (by rw[bp q];exact hx) rfl (λn x y a l=>by
   match n,a,l with
   |0,a,l=>cases a;cases l;exact D
   |n+1,a,l=>simp at a) (λt=>by
   rcases pL (T:=A.tmps) live t with⟨a,l⟩|a
   .exact .inl ⟨a,yQ (E t l)⟩
   .exact .inr a) (λid o I j=>by
   have z:id<A.h.length:=by
    have:=(aB.1 j).1;simp at this;omega
   rw[bp z]at j
   exact Bn (C o (aG j))) F
 have e:((A.h++[AObj.row sz []]).set A.h.length (.row sz [])).set i (.row s [v])=A.h.set i (.row s [v])++[.row sz []]:=by
  rw[sH _ _ (ba _),qZ];show (A.h++[AObj.row sz []]).set i _=_;rw[xP _ _ q]
 refine e9 (Da sz) (e9 hw ?_);dsimp only;rw[e];exact k
theorem xG{P}{Q}{σ}{V:σ->Prop}{I}{μ}{z}{A}(live)(k i sz s)(u v)(G:A.bs<=k)(hi:A.bs<=i)(l:k<A.h.length)(q:i≠k)(hx:A.h[i]?=some (.row s [u]))(E:yw k u v)
  (F:∀t,t∈live->qz (·≠k) (A.tmps t)) (D:∀o,o∈A.h->oP (·≠k) o) (J:A.df=[])
  (C:@WQ ⟨eH (g8 P V I μ z) Q⟩ .normal { n:=A.n,bs:=A.bs,rc:=A.rc,tmps:=cN (bU A.tmps live []),h:=(A.h.set k (.row sz [])).set i (.row s [v]),df:=A.df }):@WQ ⟨eH (g8 P V I μ z) Q⟩ .normal A:=by
 refine Q5 (sN (T:=cN (bU A.tmps live [])) k i sz s [u] [v] G hi l q hx rfl (λn x y a e=>by
   match n,a,e with
   |0,a,e=>cases a;cases e;exact E
   |n+1,a,e=>simp at a) (λt=>by
   rcases pL (T:=A.tmps) live t with⟨a,e⟩|a
   .exact .inl ⟨a,F t e⟩
   .exact .inr a) (λid o K j=>D o (aG j)) J) C
theorem q9{P}{A}(id):fS P A { A with h:=A.h.set id .dead }:=
 ⟨rfl,rfl,λM0 j b cs0 m a w e=>⟨fu (λi=>i==id) m,by
  rw[<-Eb]
  exact e.ahead (m':=fu (λi=>i==id) m) (h':=cS (λi=>i==id) A.h) (w':=w) (vS ⟨m,A.h,w⟩ (λi=>i==id) _) (tq e.hok _)⟩⟩
theorem gv{k}{u v}{cs}(j)(q:u.cells=some cs)(o:v.cells=some (cs.set j (.slice k 0 0 0)))(l:cs[j]?=some (.p .nilslice)):yw k u v:=by
 refine⟨cs,_,q,o,by simp,λi c d e a=>?_⟩;by_cases hi:j=i
 .subst hi;rw[fZ (aB.1 l).1]at a;cases a;rw[l]at e;cases e;exact .inr ⟨rfl,rfl⟩
 .rw[db hi,e]at a;cases a;exact .inl rfl
namespace Ch
set_option maxRecDepth 4000
def bS:ChBooks:=⟨[],[],[],[],0,0⟩
def Ag (s:ChShop):AObj:=.row 23 [.p (.agg ([.nilslice,.nilslice,.nilslice,.nilslice,.int .i64 0,.int .i64 0]++s.cells))]
theorem IY(s)(a):ar TP 124 [.p s.pv] [a] (λr h'=>r=.ret (.tuple [.ptr 2 1 0 0,.p (.int .i64 (aZ s).2.2)])/\h'=[a,.row 17 [.p s.pv],Ag s]):=by
 refine au (ag Tryz.func124 rfl) rfl ?_;simp only[go_sem,simprocAttr];refine ae (EU s) rfl ?_;simp only[ah,Ag,go_sem,simprocAttr]
def er (s:ChShop) (q:ChBooks×List (List UInt8)×List (List UInt8)) (l:List UInt8):ChBooks×List (List UInt8)×List (List UInt8):=
 match eB s q.1 l with
 |.error e=>(q.1,q.2.1++[joinL [Dc,bH e]],q.2.2)
 |.ok (b,a,w)=>(b,q.2.1++[a],if w=true then q.2.2++[l] else q.2.2)
def bx (s:ChShop) (ls:List (List UInt8)):ChBooks×List (List UInt8)×List (List UInt8):=ls.foldl (er s) (bS,[],[])
def bi (s:ChShop) (ls:List (List UInt8)):Int:=if(aZ s).2.2=0 then(if 40<ls.length then 3 else 0) else(aZ s).2.2
theorem MC(s)(q)(l):(er s q l).2.1.length=q.2.1.length+1/\(er s q l).2.2.length<=q.2.2.length+1:=by
 unfold er;split
 .simp
 .dsimp only;refine⟨by simp,?_⟩;split<;>simp
theorem Er(s):∀(d:List (List UInt8)) (q),(d.foldl (er s) q).2.1.length=q.2.1.length+d.length/\(d.foldl (er s) q).2.2.length<=q.2.2.length+d.length
 |[],q=>⟨rfl,ba _⟩
 |l::d,q=>by
  have e:=MC s q l;have a:=Er s d (er s q l);rw[o8,dB];omega
theorem GS{s}{q}{l}{n}(o:SOk s)(j:BkOk s q.1 n)(i:n+1<=40):BkOk s (er s q l).1 (n+1):=by
 unfold er;split
 .exact j.mono (Nat.le_succ n) i
 .rename_i b a w e;dsimp only;unfold eB at e;split at e
  .cases e
  .rename_i c u;split at e
   .cases e
   .rename_i b' y v;cases e;exact Te o j i (RN u) v
theorem Hk{s}(a:SOk s):∀(d:List (List UInt8)) (q) (n),BkOk s q.1 n->n+d.length<=40->BkOk s (d.foldl (er s) q).1 (n+d.length)
 |[],q,n,h,_=>h
 |l::d,q,n,h,e=>by
  rw[dB]at e |-;have j:=GS (l:=l) a h (by omega);have i:=Hk a d (er s q l) (n+1) j (by omega);rw[o8,show n+(d.length+1)=n+1+d.length by omega];exact i
theorem OL(s):BkOk s bS 0:=
 ⟨by decide,by decide,by decide,by decide,λx hx=>(by cases hx),λx hx=>(by cases hx),λx hx=>(by cases hx),by decide,by decide,by decide⟩
theorem GT(s)(d):(bx s d).2.1.length=d.length/\(bx s d).2.2.length<=d.length:=by
 have:=Er s d (bS,[],[]);simpa[bx]using this
theorem Dr{s}(a:SOk s){d}(e:d.length<=40):BkOk s (bx s d).1 d.length:=by
 have:=Hk a d (bS,[],[]) 0 (OL s) (by omega);rw[gV]at this;exact this
theorem HQ(s)(b)(l)(ex):∀o,o∈vo s b l ex->oP (·≠4) o:=by
 intro o e;simp only[vo,ce,fD,or_false]at e;rcases e with rfl|rfl|rfl|rfl|rfl|rfl|rfl
 .trivial
 .trivial
 .intro x hx;simp only[dT]at hx;subst hx;intro c a;simp only[ChShop.cells,bK,cf,ck,ce,fD,or_false]at a;rcases a with(rfl|rfl|rfl|rfl|rfl|rfl)|a
  .show 3≠4;decide
  .trivial
  .show 5≠4;decide
  .show 6≠4;decide
  .trivial
  .trivial
  .rcases a with rfl|rfl|rfl|rfl|rfl|rfl|rfl|rfl|rfl|rfl|rfl|rfl|rfl|rfl|rfl|rfl|rfl<;>trivial
 .intro x hx;obtain⟨y,_,rfl⟩:=cX.1 hx;trivial
 .intro x hx;rcases ck.1 hx with hx|hx
  .obtain⟨y,_,rfl⟩:=cX.1 hx;trivial
  .obtain⟨y,_,rfl⟩:=cX.1 hx;trivial
 .intro x hx;obtain⟨y,_,rfl⟩:=cX.1 hx;trivial
 .intro x hx;obtain⟨y,_,rfl⟩:=cX.1 hx;trivial
theorem Dt{s}{b}{l}{ex}(u v)(i:∀x,x∈u->qz (·≠4) x)(e:∀x,x∈v->qz (·≠4) x):∀o,o∈vo s b l ex++[.row 1 u,.row 1 v]->oP (·≠4) o:=by
 intro o a;rcases ck.1 a with a|a
 .exact HQ s b l ex o a
 .simp only[ce,fD,or_false]at a;rcases a with rfl|rfl
  .exact i
  .exact e
theorem B'{s}{b}{ex}{q}{r}{h'}(h:nA s b ex q r h'):h'.length=7:=by
 unfold nA at h;split at h
 .rw[h.2];rfl
 .rcases h.2 with⟨_,h⟩|⟨_,_,_,h⟩<;>rw[h]<;>rfl
theorem Pl{l}{e}(h:gr l=.error e):1<=e/\e<=12:=by
 unfold gr at h;split at h
 .cases h;decide
 .split at h
  .cases h
  .split at h
   .cases h;decide
   .split at h
    .cases h
    .cases h;decide
theorem Nz{s}{b}{l}{e}(i:SOk s)(h:eB s b l=.error e):1<=e/\e<=12:=by
 unfold eB at h;split at h
 .rename_i a;cases h;exact Pl a
 .split at h
  .rename_i a;cases h;exact QW i a
  .cases h
def bv (l:List (List UInt8)):PV:=.slice 1 (l.map λx=>.str (bs x)) false
def kE (s:ChShop) (ls:List (List UInt8)):PV:=
 if bi s ls=0 then .tuple [.ptr 23 [.agg ((bx s ls).1.cells++s.cells)] 0 0,bv (bx s ls).2.1,bv (bx s ls).2.2,.int .i64 0]
 else .tuple [.nilptr,.nilslice,.nilslice,.int .i64 (bi s ls)]
def fK (s:ChShop) (l:List AV):AV:=.agg (l++[.p (.int .i64 0),.p (.int .i64 0)]++s.cells.map .p)
theorem Jb(s)(u):af TP 70 [s.pv,bv u] (kE s u):=by
 refine gQ (ag Tryz.func70 rfl) rfl ?_;simp only[go_sem,simprocAttr];refine cj (IY s _) (λv h j=>?_) (λv h j=>by cases j.1);obtain⟨J,rfl⟩:=j;cases J;simp only[bv,go_sem,simprocAttr];by_cases E:(aZ s).2.2=0;rotate_left
 .have Y:((aZ s).2.2==0)=false:=by simpa using E
  have X:((aZ s).2.2 != 0)=true:=by simpa using E
  have G:bi s u=(aZ s).2.2:=by rw[bi,if_neg E]
  simp only[Y,X,kE,G,if_neg E,go_sem,simprocAttr]
 by_cases L:40<u.length
 .have K:decide ((40:Int)<(u.length:Int))=true:=decide_eq_true (by omega);have G:bi s u=3:=by rw[bi,if_pos E,if_pos L]
  simp only[E,K,kE,G,go_sem,simprocAttr]
 have K:decide ((40:Int)<(u.length:Int))=false:=decide_eq_false (by omega);have G:bi s u=0:=by rw[bi,if_pos E,if_neg L]
 have O:=yb E;have hl:u.length<1000000000:=by omega
 simp only[E,K,go_sem,simprocAttr];refine fR [4,28,29,5,6,30] 2 4 23 _ (fK s [.slice 3 0 0 0,.p .nilslice,.p .nilslice,.p .nilslice]) (de _) (de _) rfl (gv 0 rfl rfl rfl) ?_ ?_ rfl ?_
 .simp only[go_sem,simprocAttr]
 .simp only[Ag,go_sem,simprocAttr]
 simp only[go_sem,simprocAttr];refine fR [4,28,29,5,6,30] 2 4 23 _ (fK s [.slice 3 0 0 0,.slice 4 0 0 0,.p .nilslice,.p .nilslice]) (de _) (de _) rfl (gv 1 rfl rfl rfl) ?_ ?_ rfl ?_
 .simp only[go_sem,simprocAttr]
 .simp only[fK,go_sem,simprocAttr]
 simp only[go_sem,simprocAttr];refine fR [4,28,29,5,6,30] 2 3 23 _ (fK s [.slice 3 0 0 0,.slice 4 0 0 0,.slice 5 0 0 0,.p .nilslice]) (de _) (de _) rfl (gv 2 rfl rfl rfl) ?_ ?_ rfl ?_
 .simp only[go_sem,simprocAttr]
 .simp only[fK,go_sem,simprocAttr]
 simp only[go_sem,simprocAttr];refine fR [4,28,29,5,6,30] 2 2 23 _ (fK s [.slice 3 0 0 0,.slice 4 0 0 0,.slice 5 0 0 0,.slice 6 0 0 0]) (de _) (de _) rfl (gv 3 rfl rfl rfl) ?_ ?_ rfl ?_
 .simp only[go_sem,simprocAttr]
 .simp only[fK,go_sem,simprocAttr]
 simp only[go_sem,simprocAttr];refine cp 5 1 (by simp only[go_sem,simprocAttr]) ?_;simp only[go_sem,simprocAttr];refine cp 6 1 (by simp only[go_sem,simprocAttr]) ?_;refine e9 (q9 0) (e9 (q9 1) ?_);simp only[fK,go_sem,simprocAttr];have M:∀d,(bx s d).2.1.length=d.length/\(bx s d).2.2.length<=d.length:=λd=>GT s d;have Z:∀d:List (List UInt8),d.length<=40->BkOk s (bx s d).1 d.length:=λd K=>Dr O K
 refine bg [4,28,29] u hl (τ:=List PV) (λi rest _=>True) (λi ex=>[(5,.slice 7 (bx s i).2.1.length 0 (bx s i).2.1.length),(6,.slice 8 (bx s i).2.2.length 0 (bx s i).2.2.length),(30,.p (.int .i64 i.length))])
  (λi ex=>B7 s (bx s i).1 ex++[.row 1 ((bx s i).2.1.map sS),.row 1 ((bx s i).2.2.map sS)]) [] trivial ?_ ?_ ?_
 .simp only[bx,bS,List.foldl_nil,dL,cf,bt,go_sem,simprocAttr]
 .intro ex _;have t1:∀l:List (List UInt8),List.take l.length (l.map λx=>PV.str (bs x))=l.map λx=>PV.str (bs x):=λl=>fC (by simp);have N:kE s u=.tuple [.ptr 23 [.agg ((bx s u).1.cells++s.cells)] 0 0,bv (bx s u).2.1,bv (bx s u).2.2,.int .i64 0]:=by rw[kE,if_pos G]
  simp only[Lh,t1,l7,N,bv,go_sem,simprocAttr]
 .intro i l r ex I _ hx U C;have a1:i.length+1<=40:=by
   have:=congrArg List.length I;simp at this;omega
  obtain⟨r1,r2⟩:=M i;have A:bx s (i++[l])=er s (bx s i) l:=by rw[bx,zK];rfl
  have a0:=OP s (bx s i).1 ex i.length O (Z i (by omega)) l;have V:=g' (fi s (bx s i).1 ex) (args:=[.ptr 2 1 0 0,.p (.str (bs l))]) (by simp only[go_sem,simprocAttr]) (a0.mono λr h' j=>⟨B' j,j⟩) [.row 1 ((bx s i).2.1.map sS),.row 1 ((bx s i).2.2.map sS)];have o:(bx s i).2.1.length+1<=ao:=by simp only[ao];omega
  have F:(bx s i).2.2.length+1<=ao:=by simp only[ao];omega
  simp only[U,hx,go_sem,simprocAttr];refine cj V (λv h j=>?_) (λv h j=>?_);rotate_left
  .obtain⟨h',_,_,j⟩:=j;unfold nA at j;split at j<;>cases j.1
  obtain⟨h',rfl,_,j⟩:=j;unfold nA at j
  cases D:eB s (bx s i).1 l with
  |error e=>
   rw[D]at j;obtain⟨J,rfl⟩:=j;cases J;have G:=Nz O D;have z:er s (bx s i) l=((bx s i).1,(bx s i).2.1++[joinL [Dc,bH e]],(bx s i).2.2):=by rw[er,D]
   have T:(e != 0)=true:=by rw[bne_iff_ne];omega
   have S:=oy [.s Dc,.n e] true (by simp) (λw hw=>by
    simp only[ce,fD,or_false]at hw;rcases hw with rfl|rfl
    .show (2:Nat)<=1000;decide
    .exact⟨by omega,by omega⟩)
   simp only[T,go_sem,simprocAttr];refine ae S rfl ?_;simp only[o,go_sem,simprocAttr];refine aD I ex trivial ?_
   simp only[C,A,z,aL,aV,bD,bK,cf,Word.ws,mC,wN,bt,go_sem,simprocAttr]
  |ok q=>
   obtain⟨b',a,w⟩:=q;rw[D]at j;obtain⟨J,R⟩:=j;cases J;have z:er s (bx s i) l=(b',(bx s i).2.1++[a],if w=true then(bx s i).2.2++[l] else(bx s i).2.2):=by rw[er,D]
   rcases R with⟨ex',rfl⟩|⟨h0,l0,x0,rfl⟩
   .cases w
    .simp only[o,go_sem,simprocAttr];refine aD I ex' trivial ?_;simp only[C,A,z,aL,aV,bD,bK,cf,go_sem,simprocAttr]
    .simp only[o,F,go_sem,simprocAttr];refine aD I ex' trivial ?_;simp only[C,A,z,aL,aV,bD,bK,cf,go_sem,simprocAttr]
   .cases w
    .simp only[o,go_sem,simprocAttr];refine xG [4,28,29,5,6,30] 4 2 4 23 _ (.agg ([.slice 3 b'.lots.length 0 b'.lots.length,.slice 4 0 0 0,.slice 5 b'.tests.length 0 b'.tests.length,.slice 6 b'.boxes.length 0 b'.boxes.length,.p (.int .i64 b'.poured),.p (.int .i64 b'.lost)]++s.cells.map .p)) (de _) (de _) (by show 4<9;decide) (by decide) rfl (gv 1 rfl rfl rfl) ?_ (Dt _ _ ?_ ?_) rfl ?_
     .simp only[qz,rL,qy,pf,go_sem,simprocAttr]
     .intro x hx;rcases ck.1 hx with hx|hx
      .obtain⟨y,_,rfl⟩:=cX.1 hx;trivial
      .rw[dT.1 hx];trivial
     .intro x hx;obtain⟨y,_,rfl⟩:=cX.1 hx;trivial
     simp only[go_sem,simprocAttr];refine aD I [] trivial ?_;simp only[C,A,z,h0,aL,aV,bD,bK,cf,dL,bt,go_sem,simprocAttr]
    .simp only[o,F,go_sem,simprocAttr];refine xG [4,28,29,5,6,30] 4 2 4 23 _ (.agg ([.slice 3 b'.lots.length 0 b'.lots.length,.slice 4 0 0 0,.slice 5 b'.tests.length 0 b'.tests.length,.slice 6 b'.boxes.length 0 b'.boxes.length,.p (.int .i64 b'.poured),.p (.int .i64 b'.lost)]++s.cells.map .p)) (de _) (de _) (by show 4<9;decide) (by decide) rfl (gv 1 rfl rfl rfl) ?_ (Dt _ _ ?_ ?_) rfl ?_
     .simp only[qz,rL,qy,pf,go_sem,simprocAttr]
     .intro x hx;rcases ck.1 hx with hx|hx
      .obtain⟨y,_,rfl⟩:=cX.1 hx;trivial
      .rw[dT.1 hx];trivial
     .intro x hx;rcases ck.1 hx with hx|hx
      .obtain⟨y,_,rfl⟩:=cX.1 hx;trivial
      .rw[dT.1 hx];trivial
     simp only[go_sem,simprocAttr];refine aD I [] trivial ?_;simp only[C,A,z,h0,aL,aV,bD,bK,cf,dL,bt,go_sem,simprocAttr]
end Ch
end Abs
end Go.Proofs.YtmndpldajflenaaGreatDoor
