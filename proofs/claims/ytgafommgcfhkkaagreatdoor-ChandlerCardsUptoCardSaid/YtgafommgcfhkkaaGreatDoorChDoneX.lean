/- CONTRACTS of functions and laws. No conditions but those in the heads. -/
import Derived.Test.YtgafommgcfhkkaaGreatDoorChRepX
import Derived.Lib.MakeNoZero
import Derived.Laws.IdiomCopy
set_option linter.all false
set_option maxHeartbeats 2000000
open Go.Proofs.Tryz renaming prog->TP
namespace Go.Proofs.YtgafommgcfhkkaaGreatDoor
namespace Abs
namespace Ch
set_option maxRecDepth 4000
def qq (s:ChShop) (b:ChBooks) (ex:List PV) (q:Except Int (ChBooks×List UInt8×Bool)) (r:AEnd) (h':Heap):Prop:=
 match q with
 |.error e=>r=.ret (.p (.tuple [.str .empty,.bool false,.int .i64 e]))/\h'=B7 s b ex
 |.ok (b',a,w)=>r=.ret (.p (.tuple [.str (bs a),.bool w,.int .i64 0]))/\((∃ex',h'=B7 s b' ex')\/(b'.batches=[]/\∃l x,h'=zC s b' l x))
def IY{e}{z y v q l j i}{t}:lk TP 108 [.ptr 7 1 0 0,.ptr 8 1 0 0,.ptr 9 1 0 0] (.pan (iJ e)) (z::y::v::q::l::j::i::.row 1 [.p (.str .empty)]::.row 1 [.p (.bool false)]::.row 1 [.p (.int .i64 0)]::t)
  (λr u h'=>r=.ret (.p (.tuple []))/\u=.recd (iJ e)/\h'=z::y::v::q::l::j::i::.row 1 [.p (.str .empty)]::.row 1 [.p (.bool false)]::.row 1 [.p (.int .i64 e)]::t):=by
 refine ii (dv (by kernel_rfl) rfl Ud) rfl ?_;simp only[Zx,aD,pS,j0,bI,go_sem,simprocAttr];rfl
def Qt{i j k}{h}:lk TP 108 [.ptr i 1 0 0,.ptr j 1 0 0,.ptr k 1 0 0] .ret h (λr u h'=>r=.ret (.p (.tuple []))/\u=.ret/\h'=h):=by
 refine ii (dv (by kernel_rfl) rfl Ud) rfl ?_;simp[pS,j0,go_sem]
def uH:Hints:=dx [(12,.low),(13,.low),(14,.cal),(15,.low),(16,.low),(1004014,.sto),(5000000,.slot 2 4),(5000001,.app 7),(6000004,.nop),(6000005,.nop),(6000006,.nop)]
def XU:cu uH Tryz.f49=true:=by kernel_rfl
def WV{P}{Q}{A}(i)(z y v u q l j e):@W ⟨P,uH,.region i ⟨[z,y,v,u,q,l,j,e]⟩ true,Q⟩ A=@WD ⟨P,uH,⟨[z,y,v,u,q,l,j,e]⟩,[z,y,u,q,v,l,j,e],Q⟩ (qe uH [z,y,v,u,q,l,j,e] A) (sO uH [z,y,v,u,q,l,j,e] A):=by
 rw[Mi];rfl
def Sr(h)(x):gE h.length (h++[x])=h.map (λ_=>.dead)++[x]:=by
 unfold gE;apply pE;intro i;rw[DB];rcases GO i h.length with hi|hi|hi
 .rw[bJ hi,bJ (by simpa using hi),cX]
  cases h[i]? with
  |none=>rfl
  |some o=>simp[zF hi]
 .subst hi;rw[dB (ba _),dB (by simp)];simp
 .rw[vV (by simp;omega),vV (by simp;omega)];rfl
def G8{t}(h:t.take 3=D3):t=D3++t.drop 3:=by rw[<-h,ja]
def CH{rs}{R}{T}{e}{z y v q l j i}{t}(k:cW TP rs R T [] .ret (z::y::v::q::l::j::i::.row 1 [.p (.str .empty)]::.row 1 [.p (.bool false)]::.row 1 [.p (.int .i64 e)]::t)) :
  cW TP rs R T [.fn 108 [.ptr 7 1 0 0,.ptr 8 1 0 0,.ptr 9 1 0 0]] (.pan (iJ e)) (z::y::v::q::l::j::i::.row 1 [.p (.str .empty)]::.row 1 [.p (.bool false)]::.row 1 [.p (.int .i64 0)]::t):=by
 rw[l7];refine IY.mono λr u h' A=>?_;obtain⟨rfl,rfl,rfl⟩:=A;exact k
def Fs{rs}{R}{T}{i j k}{h}(l:cW TP rs R T [] .ret h):cW TP rs R T [.fn 108 [.ptr i 1 0 0,.ptr j 1 0 0,.ptr k 1 0 0]] .ret h:=by
 rw[l7];refine Qt.mono λr u h' e=>?_;obtain⟨rfl,rfl,rfl⟩:=e;exact l
def TQ{P}{H}{ops}{rest}{Q}{o}{e}{A}{f}{args}{R}(j:aw P f args A.h R)
  (q:∀v h',R (.ret v) h'->dr e h'/\@WD ⟨P,H,ops,rest,Q⟩ e (A.put o.dst v h')) (l:∀v h',R (.panic v) h'->∀T,Ng H T A.tmps->@WQ ⟨Q⟩ (.panic v) { A with tmps:=T,h:=h' }):@Ze ⟨P,H,ops,rest,Q,o⟩ e A (.call f args):=by
 refine j.mono λr h' i=>?_
 cases r with
 |ret v=>exact q v h' i
 |panic v=>exact l v h' i
def UT{h h':Heap}(x)(i:h'.length=h.length):dr (h.map (λ_=>AObj.dead)++[x]) (h'++[x]):=by
 intro id o e j;rcases dO id h.length with hi|hi
 .rw[bJ (by simpa using hi),cX]at e
  cases hh:h[id]? with
  |none=>rw[hh]at e;cases e
  |some y=>rw[hh]at e;cases e;cases j
 .rw[dB (by simpa using hi)]at e;rw[dB (by omega),i];simpa using e
def Ui(s)(b)(ex)(n)(hs:SOk s)(hb:BkOk s b n)(i):aw TP 49 [.ptr 2 1 0 0,.p (.str (bs i))] (B7 s b ex) (qq s b ex (ey s b i)):=by
 refine ci (dv (by kernel_rfl) rfl XU) rfl (zm ?_);refine cZ (zab s b ex n hs hb i) (λv h j=>?_) (λv h j=>?_);rotate_left
 .unfold xz at j
  cases z:gc i with
  |ok c=>rw[z]at j;obtain⟨_,_,_,_,_,j,_⟩:=j;cases j
  |error e=>
   rw[z]at j;obtain⟨j,t,U,rfl⟩:=j;cases j;have E:ey s b i=.error e:=by rw[ey,z]
   rw[G8 U];unfold H7;refine zm ?_;refine CH (zm ?_);exact⟨B7 s b ex,_,rfl,rfl,gJ s b ex,trivial,by unfold qq;rw[E];exact⟨rfl,rfl⟩⟩
 unfold xz at j
 cases z:gc i with
 |error e=>rw[z]at j;cases j.1
 |ok c=>
  rw[z]at j;obtain⟨F,first,O,t,D,G,hh,X,Y,hc⟩:=j;cases G;have gg:=tX (lo:=h) rfl;have g0:=r8 (lo:=h) rfl;have ss:=tW (lo:=h) rfl;have s0:∀t x,(h++t).set h.length x=h++t.set 0 x:=λt x=>ss t 0 x;refine zo g0 s0 ?_;have gd:∀(u:Heap),(h.map (λ_=>AObj.dead)++u)[h.length]?=u[0]?:=λu=>r8 (lo:=h.map λ_=>.dead) (by simp) u;refine zn @WV ?_;simp only[uH,Sr,bI,gd,go_sem,simprocAttr];have N:∀r h',li s b ex t (aH s b c) r h'->h'.length=h.length:=λr h' A=>by
   obtain⟨h1,Z,e1,y,R,_⟩:=A;rw[e1,hh,ak,J1 y,R];unfold H7;rw[ak];rfl
  have J:∀u:Heap,(h.map (λ_=>AObj.dead)++u)[7]?=some .dead:=λu=>by
   have hl:7<h.length:=by
    rw[hh];unfold H7;rw[G8 D,ak];show 7<7+_;simp[D3]
   rw[bJ (by simpa using hl),cX,bL hl];rfl
  have V:=iR X Y (hc.mono λr h' A=>⟨N r h' A,A⟩) [AObj.row 2 [AV.agg [AV.p (PV.bool c.written),AV.func (Fn.func F) first O]]];refine TQ V (λv h2 j=>?_) (λv h2 j T S=>?_)
  .obtain⟨U,rfl,I,A⟩:=j;refine⟨UT _ I,?_⟩;obtain⟨h1,Z,rfl,y,R,k1⟩:=A;rw[D]at k1;rw[G8 k1]
   cases C:aH s b c with
   |error e=>rw[C]at y;cases y.1
   |ok q=>
    obtain⟨b',a⟩:=q;rw[C]at y;obtain⟨G,hx⟩:=y;cases G;have E:ey s b i=.ok (b',a,c.written):=by unfold ey;rw[z];dsimp only;rw[C]
    rcases hx with⟨ex',rfl⟩|⟨h0,l,x,rfl⟩
    .simp only[uH,J,go_sem,simprocAttr];refine Fs (zm ?_);exact⟨B7 s b' ex',_,rfl,rfl,gJ s b' ex',trivial,by unfold qq;rw[E];exact⟨rfl,.inl ⟨_,rfl⟩⟩⟩
    .simp only[uH,J,go_sem,simprocAttr];refine Fs (zm ?_);exact⟨zC s b' l x,_,rfl,rfl,Gi s b' l x,trivial,by unfold qq;rw[E];exact⟨rfl,.inr ⟨h0,_,_,rfl⟩⟩⟩
  .obtain⟨U,rfl,I,A⟩:=j;obtain⟨h1,Z,rfl,y,R,k1⟩:=A;rw[D]at k1;rw[G8 k1]
   cases C:aH s b c with
   |ok q=>rw[C]at y;cases y.1
   |error e=>
    rw[C]at y;obtain⟨G,rfl⟩:=y;cases G;have E:ey s b i=.error e:=by unfold ey;rw[z];dsimp only;rw[C]
    have M:=S 4 rfl;have L:=S 5 rfl;have K:=S 6 rfl;simp only[go_sem,simprocAttr]at M L K;refine zm ?_;refine CH (zp M L K ?_);exact⟨B7 s b ex,_,rfl,rfl,gJ s b ex,trivial,by unfold qq;rw[E];exact⟨rfl,rfl⟩⟩
def OI:Cmd->Prop
 |.lot name _ _ _=>name.length<=20
 |.batch name _ _ _=>name.length<=20
 |_=>True
def Fl{w v}(h:bn w=some v):v.length<=20:=by
 unfold bn at h;split at h
 .rename_i e;cases h;unfold nameOk at e;rw[eI,decide_eq_true_eq,al]at e;omega
 .cases h
def U2{v}{ws}{c}(h:dL v ws=some c):OI c:=by
 unfold dL at h;split at h
 .split at h
  .split at h
   .rename_i e _ _ _;cases h;exact Fl e
   .cases h
  .cases h
 split at h
 .split at h
  .split at h
   .rename_i e _ _ _;cases h;exact Fl e
   .cases h
  .cases h
 split at h
 .split at h
  .simp only[bg]at h;obtain⟨_,_,rfl⟩:=h;trivial
  .cases h
 split at h
 .split at h
  .simp only[bg]at h;obtain⟨_,_,rfl⟩:=h;trivial
  .cases h
 split at h
 .split at h
  .simp only[bg]at h;obtain⟨_,_,rfl⟩:=h;trivial
  .cases h
 split at h
 .split at h
  .simp only[bg]at h;obtain⟨_,_,rfl⟩:=h;trivial
  .cases h
 split at h
 .split at h
  .split at h
   .cases h;trivial
   .cases h
  .cases h
 split at h
 .split at h
  .cases h;trivial
  .cases h
 split at h
 .split at h
  .split at h
   .cases h;trivial
   .cases h
  .cases h
 split at h
 .split at h
  .split at h
   .cases h;trivial
   .cases h
  .cases h
 split at h
 .split at h
  .cases h;trivial
  .cases h
 .cases h
def Hy{l}{c}(h:gc l=.ok c):OI c:=by
 unfold gc at h;split at h
 .cases h
 .split at h
  .cases h;trivial
  .split at h
   .cases h
   .split at h
    .rename_i e;cases h;exact U2 e
    .cases h
def Q6(l):(bs l).size=l.length:=al l
def BkOk.mono{s}{b}{n m}(h:BkOk s b n)(i:n<=m)(e:m<=40):BkOk s b m:=
 {h with
  grams:=λx hx=>by have:=h.grams x hx;exact⟨this.1,by omega⟩
  poured:=by have:=h.poured;exact⟨this.1,by omega⟩
  lost:=by have:=h.lost;exact⟨this.1,by omega⟩
  few:=e }
def vr{α:Type}{l:List α}{i}{a x}(h:x∈l.set i a):x∈l\/x=a:=BZ h
def JL{s}{b b'}{n}{c}{a}(I:SOk s)(u:BkOk s b n)(K:n+1<=40)(F:OI c)(h:aH s b c=.ok (b',a)):BkOk s b' (n+1):=by
 have i:=u.mono (Nat.le_succ n) K
 cases c with
 |lot name kind grams rs=>
  simp only[aH]at h;split at h
  .cases h
  split at h
  .cases h
  split at h
  .cases h
  rename_i C;split at h
  .cases h
  split at h
  .cases h
  rename_i q;have A:1<=grams/\grams<=100000:=Classical.byContradiction C;have v:b.lots.length<8:=Classical.byContradiction q;cases h;refine { i with lots:=?_,grams:=?_,names:=?_,waits:=?_ }
  .simp;omega
  .intro x hx;rcases cn.1 hx with hx|hx
   .exact i.grams x hx
   .rw[dW.1 hx];dsimp only;omega
  .intro x hx;rcases cn.1 hx with hx|hx
   .exact i.names x hx
   .rw[dW.1 hx];dsimp only;rw[Q6];exact F
  .intro x hx;have:=i.waits x hx
   exact⟨this.1,⟨this.2.1.1,by simp;omega⟩,this.2.2⟩
 |batch name colour lot grams=>
  simp only[aH]at h;split at h
  .cases h
  split at h
  .cases h
  split at h
  .cases h
  rename_i hi;split at h
  .cases h
  rename_i C;split at h
  .cases h
  rename_i x hx;split at h
  .cases h
  rename_i E;split at h
  .cases h
  rename_i q;have A:1<=grams/\grams<=100000:=Classical.byContradiction C;have v:b.batches.length<7:=Classical.byContradiction q;have M:grams<=x.grams:=Classical.byContradiction E;have D:=i.grams x (aB hx);have N:=(aC.1 hx).1;cases h;refine { i with lots:=?_,batches:=?_,grams:=?_,names:=?_,waits:=?_ }
  .simp;exact i.lots
  .simp;omega
  .intro y j;rcases vr j with j|rfl
   .exact i.grams y j
   .dsimp only;omega
  .intro y j;rcases vr j with j|rfl
   .exact i.names y j
   .exact i.names x (aB hx)
  .intro y j;rw[wh];rcases cn.1 j with j|j
   .exact i.waits y j
   .rw[dW.1 j];dsimp only
    exact⟨A,⟨by omega,by omega⟩,by rw[Q6];exact F⟩
 |drop name=>
  simp only[aH]at h;split at h
  .cases h
  split at h
  .cases h
  rename_i y j;split at h
  .cases h
  rename_i x hx;have D:=u.grams x (aB hx);have L:=i.waits y (aB j);cases h;refine { i with lots:=?_,batches:=?_,grams:=?_,names:=?_,waits:=?_ }
  .simp;exact i.lots
  .have:=i.batches;rw[wi];split<;>omega
  .intro z l;rcases vr l with l|rfl
   .exact i.grams z l
   .dsimp only;omega
  .intro z l;rcases vr l with l|rfl
   .exact i.names z l
   .exact i.names x (aB hx)
  .intro z l;rw[wh]
   exact i.waits z (List.mem_of_mem_eraseIdx l)
 |plan c=>
  simp only[aH]at h;split at h
  .cases h
  .cases h;exact i
 |pour c=>
  simp only[aH]at h;split at h
  .cases h
  .rename_i o m J;have R:=qi I u J;have G:=nU u b.batches λx hx=>hx;have S:=u.poured;have q:=u.lost;have O:=u.batches;have e:MJ b.batches=lU b.batches:=rfl;cases h;refine { i with batches:=?_,waits:=?_,poured:=?_,lost:=?_ }
   .exact cG _
   .intro x hx;cases hx
   .dsimp only;rw[e];omega
   .dsimp only;omega
 |test text=>
  simp only[aH]at h;split at h
  .cases h
  split at h
  .cases h
  rename_i q;have v:b.tests.length<8:=Classical.byContradiction q;cases h
  exact { i with tests:=by simp;omega }
 |promise kind=>
  simp only[aH]at h;split at h
  .cases h
  .cases h;exact i
 |box kind hours=>
  simp only[aH]at h;split at h
  .cases h
  split at h
  .cases h
  split at h
  .cases h
  rename_i q;have v:b.boxes.length<20:=Classical.byContradiction q;cases h
  exact { i with boxes:=by simp;omega }
 |look=>simp only[aH]at h;cases h;exact i
 |wick kind a b c d=>
  simp only[aH]at h;split at h
  .cases h
  split at h
  .cases h
  split at h
  .cases h
  split at h
  .cases h
  .cases h;exact i
 |blend a b c=>
  simp only[aH]at h;split at h
  .cases h
  .cases h;exact i
 |stock=>simp only[aH]at h;cases h;exact i
def fZ (e:Int):Prop:=0<=e/\e<=12
def fZ.ite{p}[Decidable p]{a b}(i:fZ a)(e:fZ b):fZ (if p then a else b):=by split<;>assumption
def Yp(s)(c):fZ (Wk.ef s c):=by
 unfold Wk.ef;repeat (first|apply fZ.ite|exact⟨by decide,by decide⟩)
def Yj{s}{c}{x}(h:Wk.shopErr s=0):fZ (Wk.de s c x).2:=by
 unfold Wk.de;split
 .split<;>(unfold fZ;dsimp only;decide)
 .dsimp only;unfold Wk.dN;rw[if_pos h];split
  .exact Yp s c
  .unfold fZ;decide
def Yk(e)(t):fZ (bm e t):=by
 unfold bm;repeat (first|apply fZ.ite|exact⟨by decide,by decide⟩)
def Ek(e):∀l,fZ (cR e l)
 |[]=>by unfold fZ cR;decide
 |t::r=>by
  rw[cR];split
  .exact Ek e r
  .exact Yk e t
def Yn{s}{l}{k}(h:(hrCheck s).2.2=0):fZ (aY s l k).2:=by
 have e:fZ (bk s l k).2:=by
  unfold bk;split
  .split
   .unfold fZ;decide
   .split
    .unfold fZ;dsimp only;decide
    .split<;>(unfold fZ;dsimp only;decide)
  .dsimp only;unfold bY;rw[if_pos h];split
   .unfold fZ;decide
   .exact Ek _ _
 unfold aY;split
 .unfold fZ;dsimp only;decide
 .exact e
def Ym{s}{a}(h:(hrCheck s).2.2=0):fZ (aI s a).2:=by
 unfold aI;split
 .split
  .unfold fZ;dsimp only;decide
  .split
   .unfold fZ;dsimp only;decide
   .split<;>(unfold fZ;dsimp only;decide)
 .dsimp only;unfold bO;rw[if_pos h];exact Ek _ _
def VL(s)(b):fZ (Cl.ep s b):=by
 unfold Cl.ep;repeat (first|apply fZ.ite|exact⟨by decide,by decide⟩)
def FL(s):∀l,fZ (Cl.eh s l)
 |[]=>by unfold fZ Cl.eh;decide
 |b::r=>by
  rw[Cl.eh];split
  .exact FL s r
  .exact VL s b
def Yo{s}{k}{l}(h:(Cl.clCheck s).2.2=0):fZ (Cl.dj s k l):=by
 unfold Cl.dj;rw[if_pos h];split
 .unfold Cl.iH;split
  .exact FL s l
  .unfold fZ;decide
 .unfold fZ;decide
def Yl{t}{rs}{k}(h:(Wx.wxCheck t).2.2=0):fZ (Wx.bj t rs k).2.2:=by
 unfold Wx.bj;split
 .split
  .unfold Wx.jd;split
   .unfold fZ;dsimp only;decide
   .split
    .unfold fZ;dsimp only;decide
    .split<;>(unfold fZ;dsimp only;decide)
  .unfold fZ;dsimp only;decide
 .dsimp only;unfold Wx.cU;rw[if_pos h];split
  .split<;>(unfold fZ;decide)
  .unfold fZ;decide
def VK{l}{w}(h:uC l=0):fZ (aJ l w).2.2:=by
 unfold aJ;split
 .split<;>(unfold fZ;dsimp only;decide)
 .dsimp only;unfold fe;rw[if_pos h];split
  .unfold oh;repeat (first|apply fZ.ite|exact⟨by decide,by decide⟩)
  .unfold fZ;decide
def vm{e}(h:fZ e)(i:e≠0):1<=e/\e<=12:=by unfold fZ at h;omega
def Jy{s}{b}{c}{e}(i:SOk s)(h:iU s b c=.error e):1<=e/\e<=12:=by
 unfold iU at h;dsimp only at h;split at h
 .cases h;decide
 .split at h
  .rename_i j;cases h;exact vm (Yo i.colour) j
  .split at h
   .cases h;decide
   .cases h
def HP{s}{b}{k}{e}(i:SOk s)(h:ej s b k=.error e):1<=e/\e<=12:=by
 unfold ej at h;dsimp only at h;split at h
 .cases h;decide
 .split at h
  .rename_i j;cases h;exact vm (Yn i.hour) j
  .cases h
def WP{s}{b}{c}{e}(j:SOk s)(h:aH s b c=.error e):1<=e/\e<=12:=by
 cases c with
 |lot name kind grams rs=>
  simp only[aH]at h;split at h
  .cases h;decide
  split at h
  .cases h;decide
  split at h
  .cases h;decide
  split at h
  .rename_i i;cases h;exact vm (Yl j.wax) i
  split at h
  .cases h;decide
  .cases h
 |batch name colour lot grams=>
  simp only[aH]at h;split at h
  .cases h;decide
  split at h
  .cases h;decide
  split at h
  .cases h;decide
  split at h
  .cases h;decide
  split at h
  .cases h;decide
  split at h
  .cases h;decide
  split at h
  .cases h;decide
  .cases h
 |drop name=>
  simp only[aH]at h;split at h
  .cases h;decide
  split at h
  .cases h;decide
  split at h
  .cases h;decide
  .cases h
 |plan c=>
  simp only[aH]at h;split at h
  .rename_i i;cases h;exact Jy j i
  .cases h
 |pour c=>
  simp only[aH]at h;split at h
  .rename_i i;cases h;exact Jy j i
  .cases h
 |test text=>
  simp only[aH]at h;split at h
  .rename_i i;cases h;exact vm (Ym j.hour) i
  split at h
  .cases h;decide
  .cases h
 |promise kind=>
  simp only[aH]at h;split at h
  .rename_i i;cases h;exact HP j i
  .cases h
 |box kind hours=>
  simp only[aH]at h;split at h
  .rename_i i;cases h;exact HP j i
  split at h
  .cases h;decide
  split at h
  .cases h;decide
  .cases h
 |look=>simp only[aH]at h;cases h
 |wick kind a b c d=>
  simp only[aH]at h;split at h
  .cases h;decide
  split at h
  .cases h;decide
  split at h
  .rename_i i;cases h;exact vm (Yj j.wick) i
  split at h
  .cases h;decide
  .cases h
 |blend a b c=>
  simp only[aH]at h;split at h
  .rename_i i;cases h;exact vm (VK j.blend) i
  .cases h
 |stock=>simp only[aH]at h;cases h
def bu (s:ChShop):Int×Int×Int:=
 if(Wx.wxCheck s.wax).2.2=0 then
  if(bdCheck s.blend).2.2=0 then
   if(Wk.cN s.wick).2.2=0 then
    if(hrCheck s.hour).2.2=0 then
     if(Cl.clCheck s.colour).2.2=0 then(0,0,0) else(5,0,(Cl.clCheck s.colour).2.2)
    else(4,0,(hrCheck s.hour).2.2)
   else(3,0,(Wk.cN s.wick).2.2)
  else(2,0,(bdCheck s.blend).2.2)
 else(1,0,(Wx.wxCheck s.wax).2.2)
def tr{s}(h:(bu s).2.2=0):SOk s:=by
 unfold bu at h;split at h
 .rename_i q;split at h
  .rename_i l;split at h
   .rename_i j;split at h
    .rename_i i;split at h
     .rename_i e;exact⟨q,l,j,i,e⟩
     .contradiction
    .contradiction
   .contradiction
  .contradiction
 .contradiction
def BH(s):af TP 5 [s.pv] (ao (bu s)):=by
 refine ae (ag Tryz.func5 rfl) rfl ?_;simp only[ChShop.cells,go_sem,simprocAttr];refine aa (Wx.rY s.wax) rfl ?_;simp only[ao,go_sem,simprocAttr];refine aa (BI s.blend) rfl ?_;simp only[ao,go_sem,simprocAttr];refine aa (Wk.rY s.wick) rfl ?_;simp only[ao,go_sem,simprocAttr];refine aa (Jm s.hour) rfl ?_;simp only[ao,go_sem,simprocAttr];refine aa (Cl.rY s.colour) rfl ?_;simp only[ao,go_sem,simprocAttr];refine bw ?_;by_cases j:(Wx.wxCheck s.wax).2.2=0;rotate_left
 .have i:((Wx.wxCheck s.wax).2.2 != 0)=true:=by simpa using j
  have e:bu s=(1,0,(Wx.wxCheck s.wax).2.2):=by unfold bu;rw[if_neg j]
  simp[i,e,ao,go_sem]
 refine zn j ?_;refine bw ?_;by_cases l:(bdCheck s.blend).2.2=0;rotate_left
 .have i:((bdCheck s.blend).2.2 != 0)=true:=by simpa using l
  have e:bu s=(2,0,(bdCheck s.blend).2.2):=by unfold bu;rw[if_pos j,if_neg l]
  simp[i,e,ao,go_sem]
 refine zn l ?_;refine bw ?_;by_cases q:(Wk.cN s.wick).2.2=0;rotate_left
 .have i:((Wk.cN s.wick).2.2 != 0)=true:=by simpa using q
  have e:bu s=(3,0,(Wk.cN s.wick).2.2):=by unfold bu;rw[if_pos j,if_pos l,if_neg q]
  simp[i,e,ao,go_sem]
 refine zn q ?_;refine bw ?_;by_cases u:(hrCheck s.hour).2.2=0;rotate_left
 .have i:((hrCheck s.hour).2.2 != 0)=true:=by simpa using u
  have e:bu s=(4,0,(hrCheck s.hour).2.2):=by unfold bu;rw[if_pos j,if_pos l,if_pos q,if_neg u]
  simp[i,e,ao,go_sem]
 refine zn u ?_;refine bw ?_;by_cases v:(Cl.clCheck s.colour).2.2=0;rotate_left
 .have i:((Cl.clCheck s.colour).2.2 != 0)=true:=by simpa using v
  have e:bu s=(5,0,(Cl.clCheck s.colour).2.2):=by unfold bu;rw[if_pos j,if_pos l,if_pos q,if_pos u,if_neg v]
  simp[i,e,ao,go_sem]
 refine zn v ?_;refine bw ?_;have e:bu s=(0,0,0):=by unfold bu;rw[if_pos j,if_pos l,if_pos q,if_pos u,if_pos v]
 simp[e,ao,go_sem]
def u5(s):af TP 6 [s.pv] (ao (bu s)):=by
 refine ae (ag Tryz.func6 rfl) rfl ?_;simp only[ChShop.cells,go_sem,simprocAttr];refine aa (Wx.lN s.wax) rfl ?_;simp only[ao,go_sem,simprocAttr];refine aa (u7 s.blend) rfl ?_;simp only[ao,go_sem,simprocAttr];refine aa (Wk.lN s.wick) rfl ?_;simp only[ao,go_sem,simprocAttr];refine aa (rq s.hour) rfl ?_;simp only[ao,go_sem,simprocAttr];refine aa (Cl.lN s.colour) rfl ?_;simp only[ao,go_sem,simprocAttr];refine bw ?_;by_cases j:(Wx.wxCheck s.wax).2.2=0;rotate_left
 .have i:((Wx.wxCheck s.wax).2.2 != 0)=true:=by simpa using j
  have e:bu s=(1,0,(Wx.wxCheck s.wax).2.2):=by unfold bu;rw[if_neg j]
  simp[i,e,ao,go_sem]
 refine zn j ?_;refine bw ?_;by_cases l:(bdCheck s.blend).2.2=0;rotate_left
 .have i:((bdCheck s.blend).2.2 != 0)=true:=by simpa using l
  have e:bu s=(2,0,(bdCheck s.blend).2.2):=by unfold bu;rw[if_pos j,if_neg l]
  simp[i,e,ao,go_sem]
 refine zn l ?_;refine bw ?_;by_cases q:(Wk.cN s.wick).2.2=0;rotate_left
 .have i:((Wk.cN s.wick).2.2 != 0)=true:=by simpa using q
  have e:bu s=(3,0,(Wk.cN s.wick).2.2):=by unfold bu;rw[if_pos j,if_pos l,if_neg q]
  simp[i,e,ao,go_sem]
 refine zn q ?_;refine bw ?_;by_cases u:(hrCheck s.hour).2.2=0;rotate_left
 .have i:((hrCheck s.hour).2.2 != 0)=true:=by simpa using u
  have e:bu s=(4,0,(hrCheck s.hour).2.2):=by unfold bu;rw[if_pos j,if_pos l,if_pos q,if_neg u]
  simp[i,e,ao,go_sem]
 refine zn u ?_;refine bw ?_;by_cases v:(Cl.clCheck s.colour).2.2=0;rotate_left
 .have i:((Cl.clCheck s.colour).2.2 != 0)=true:=by simpa using v
  have e:bu s=(5,0,(Cl.clCheck s.colour).2.2):=by unfold bu;rw[if_pos j,if_pos l,if_pos q,if_pos u,if_neg v]
  simp[i,e,ao,go_sem]
 refine zn v ?_;refine bw ?_;have e:bu s=(0,0,0):=by unfold bu;rw[if_pos j,if_pos l,if_pos q,if_pos u,if_pos v]
 simp[e,ao,go_sem]
end Ch
def fC{P}{H}{Q}{x}{A}(live)(i sz s)(u v)(hi:A.bs<=i)(I:A.bs<=A.h.length)(hx:A.h[i]?=some (.row s [u]))(E:tG A.h.length u v)(F:∀t,t∈live->below A.h.length (A.tmps t))(D:∀o,o∈A.h->bB A.h.length o)(G:A.df=[])
  (k:@W ⟨P,H,.loop x,Q⟩ { n:=A.n,bs:=A.bs,rc:=A.rc,tmps:=cM (bP A.tmps live []),h:=A.h.set i (.row s [v])++[.row sz []],df:=A.df }):@W ⟨P,H,.loop x,Q⟩ A:=by
 have z:i<A.h.length:=(aC.1 hx).1
 have hw:=pK (P:=P) (A:={ A with h:=A.h++[.row sz []] }) (T:=cM (bP A.tmps live [])) A.h.length i sz s [u] [v] I hi (by simp) (by omega)
  (by rw[bJ z];exact hx) rfl (λn x y j q=>by
   match n,j,q with
   |0,j,q=>cases j;cases q;exact E
   |n+1,j,q=>simp at j) (λt=>by
   rcases n6 (T:=A.tmps) live t with⟨j,q⟩|j
   .exact .inl ⟨j,vv (F t q)⟩
   .exact .inr j) (λid o J l=>by
   have C:id<A.h.length:=by
    have:=(aC.1 l).1;simp at this;omega
   rw[bJ C]at l
   exact uv (D o (aB l))) G
 have e:((A.h++[AObj.row sz []]).set A.h.length (.row sz [])).set i (.row s [v])=A.h.set i (.row s [v])++[.row sz []]:=by
  rw[ra _ _ (ba _),ud];show (A.h++[AObj.row sz []]).set i _=_;rw[ue _ _ z]
 refine eR (wk sz) (eR hw ?_);dsimp only;rw[e];exact k
def BP{P}{Q}{σ}{V:σ->Prop}{I}{μ}{C}{A}(live)(k i sz s)(u v)(J:A.bs<=k)(hi:A.bs<=i)(q:k<A.h.length)(z:i≠k)(hx:A.h[i]?=some (.row s [u]))(F:tG k u v)
  (G:∀t,t∈live->ids (·≠k) (A.tmps t)) (E:∀o,o∈A.h->rK (·≠k) o) (K:A.df=[])
  (D:@WQ ⟨fh (iA P V I μ C) Q⟩ .normal { n:=A.n,bs:=A.bs,rc:=A.rc,tmps:=cM (bP A.tmps live []),h:=(A.h.set k (.row sz [])).set i (.row s [v]),df:=A.df }):@WQ ⟨fh (iA P V I μ C) Q⟩ .normal A:=by
 refine WZ (pK (T:=cM (bP A.tmps live [])) k i sz s [u] [v] J hi q z hx rfl (λn x y e j=>by
   match n,e,j with
   |0,e,j=>cases e;cases j;exact F
   |n+1,e,j=>simp at e) (λt=>by
   rcases n6 (T:=A.tmps) live t with⟨e,j⟩|e
   .exact .inl ⟨e,G t j⟩
   .exact .inr e) (λid o L l=>E o (aB l)) K) D
def uh{P}{A}(id):gU P A { A with h:=A.h.set id .dead }:=
 ⟨rfl,rfl,λM0 j b cs0 m a w e=>⟨cT (λi=>i==id) m,by
  rw[<-Bq]
  exact e.ahead (m':=cT (λi=>i==id) m) (h':=aQ (λi=>i==id) A.h) (w':=w) (s7 ⟨m,A.h,w⟩ (λi=>i==id) _) (qM e.hok _)⟩⟩
def gL{k}{u v}{cs}(j)(z:u.cells=some cs)(y:v.cells=some (cs.set j (.slice k 0 0 0)))(q:cs[j]?=some (.p .nilslice)):tG k u v:=by
 refine⟨cs,_,z,y,by simp,λi c d l e=>?_⟩;by_cases hi:j=i
 .subst hi;rw[jp (aC.1 q).1]at e;cases e;rw[q]at l;cases l;exact .inr ⟨rfl,rfl⟩
 .rw[eS hi,l]at e;cases e;exact .inl rfl
namespace Ch
set_option maxRecDepth 4000
def cK:ChBooks:=⟨[],[],[],[],0,0⟩
def D1 (s:ChShop):AObj:=.row 23 [.p (.agg ([.nilslice,.nilslice,.nilslice,.nilslice,.int .i64 0,.int .i64 0]++s.cells))]
def Nx(s)(a):aw TP 48 [.p s.pv] [a] (λr h'=>r=.ret (.tuple [.ptr 2 1 0 0,.p (.int .i64 (bu s).2.2)])/\h'=[a,.row 17 [.p s.pv],D1 s]):=by
 refine au (ag Tryz.func48 rfl) rfl (zm ?_);refine aa (BH s) rfl ?_;simp[ao,D1,go_sem]
def eP (s:ChShop) (q:ChBooks×List (List UInt8)×List (List UInt8)) (l:List UInt8):ChBooks×List (List UInt8)×List (List UInt8):=
 match ey s q.1 l with
 |.error e=>(q.1,q.2.1++[joinL [EV,aX e]],q.2.2)
 |.ok (b,a,w)=>(b,q.2.1++[a],if w=true then q.2.2++[l] else q.2.2)
def bh (s:ChShop) (ls:List (List UInt8)):ChBooks×List (List UInt8)×List (List UInt8):=ls.foldl (eP s) (cK,[],[])
def be (s:ChShop) (ls:List (List UInt8)):Int:=if(bu s).2.2=0 then(if 40<ls.length then 3 else 0) else(bu s).2.2
def RW(s)(q)(l):(eP s q l).2.1.length=q.2.1.length+1/\(eP s q l).2.2.length<=q.2.2.length+1:=by
 unfold eP;split
 .simp
 .dsimp only;refine⟨by simp,?_⟩;split<;>simp
def IN(s):∀(d:List (List UInt8)) (q),(d.foldl (eP s) q).2.1.length=q.2.1.length+d.length/\(d.foldl (eP s) q).2.2.length<=q.2.2.length+d.length
 |[],q=>⟨rfl,ba _⟩
 |l::d,q=>by
  have i:=RW s q l;have e:=IN s d (eP s q l);rw[pD,bc];omega
def Lo{s}{q}{l}{n}(u:SOk s)(j:BkOk s q.1 n)(i:n+1<=40):BkOk s (eP s q l).1 (n+1):=by
 unfold eP;split
 .exact j.mono (Nat.le_succ n) i
 .rename_i b a w e;dsimp only;unfold ey at e;split at e
  .cases e
  .rename_i c v;split at e
   .cases e
   .rename_i b' z y;cases e;exact JL u j i (Hy v) y
def LS{s}(e:SOk s):∀(d:List (List UInt8)) (q) (n),BkOk s q.1 n->n+d.length<=40->BkOk s (d.foldl (eP s) q).1 (n+d.length)
 |[],q,n,h,_=>h
 |l::d,q,n,h,i=>by
  rw[bc]at i |-;have u:=Lo (l:=l) e h (by omega);have j:=LS e d (eP s q l) (n+1) u (by omega);rw[pD,show n+(d.length+1)=n+1+d.length by omega];exact j
def GZ(s):BkOk s cK 0:=
 ⟨by decide,by decide,by decide,by decide,λx hx=>(by cases hx),λx hx=>(by cases hx),λx hx=>(by cases hx),by decide,by decide,by decide⟩
def vi(s)(d):(bh s d).2.1.length=d.length/\(bh s d).2.2.length<=d.length:=by
 have:=IN s d (cK,[],[]);simpa[bh]using this
def HC{s}(e:SOk s){d}(i:d.length<=40):BkOk s (bh s d).1 d.length:=by
 have:=LS e d (cK,[],[]) 0 (GZ s) (by omega);rw[gZ]at this;exact this
def Mo(s)(b)(l)(ex):∀o,o∈zC s b l ex->rK (·≠4) o:=by
 intro o i;simp only[zC,br,dP,or_false]at i;rcases i with rfl|rfl|rfl|rfl|rfl|rfl|rfl
 .trivial
 .trivial
 .intro x hx;simp only[dW]at hx;subst hx;intro c e;simp only[ChShop.cells,bf,bx,cn,br,dP,or_false]at e;rcases e with(rfl|rfl|rfl|rfl|rfl|rfl)|e
  .show 3≠4;decide
  .trivial
  .show 5≠4;decide
  .show 6≠4;decide
  .trivial
  .trivial
  .rcases e with rfl|rfl|rfl|rfl|rfl|rfl|rfl|rfl|rfl|rfl|rfl|rfl|rfl|rfl|rfl|rfl|rfl<;>trivial
 .intro x hx;obtain⟨y,_,rfl⟩:=cA.1 hx;trivial
 .intro x hx;rcases cn.1 hx with hx|hx
  .obtain⟨y,_,rfl⟩:=cA.1 hx;trivial
  .obtain⟨y,_,rfl⟩:=cA.1 hx;trivial
 .intro x hx;obtain⟨y,_,rfl⟩:=cA.1 hx;trivial
 .intro x hx;obtain⟨y,_,rfl⟩:=cA.1 hx;trivial
def HF{s}{b}{l}{ex}(u v)(j:∀x,x∈u->ids (·≠4) x)(i:∀x,x∈v->ids (·≠4) x):∀o,o∈zC s b l ex++[.row 1 u,.row 1 v]->rK (·≠4) o:=by
 intro o e;rcases cn.1 e with e|e
 .exact Mo s b l ex o e
 .simp only[br,dP,or_false]at e;rcases e with rfl|rfl
  .exact j
  .exact i
def Gh{s}{b}{ex}{q}{r}{h'}(h:qq s b ex q r h'):h'.length=7:=by
 unfold qq at h;split at h
 .rw[h.2];rfl
 .rcases h.2 with⟨_,h⟩|⟨_,_,_,h⟩<;>rw[h]<;>rfl
def U0{l}{e}(h:gc l=.error e):1<=e/\e<=12:=by
 unfold gc at h;split at h
 .cases h;decide
 .split at h
  .cases h
  .split at h
   .cases h;decide
   .split at h
    .cases h
    .cases h;decide
def Bz{s}{b}{l}{e}(j:SOk s)(h:ey s b l=.error e):1<=e/\e<=12:=by
 unfold ey at h;split at h
 .rename_i i;cases h;exact U0 i
 .split at h
  .rename_i i;cases h;exact WP j i
  .cases h
def aN (l:List (List UInt8)):PV:=.slice 1 (l.map λx=>.str (bs x)) false
def nb (s:ChShop) (ls:List (List UInt8)):PV:=
 if be s ls=0 then .tuple [.ptr 23 [.agg ((bh s ls).1.cells++s.cells)] 0 0,aN (bh s ls).2.1,aN (bh s ls).2.2,.int .i64 0]
 else .tuple [.nilptr,.nilslice,.nilslice,.int .i64 (be s ls)]
def gO (s:ChShop) (l:List AV):AV:=.agg (l++[.p (.int .i64 0),.p (.int .i64 0)]++s.cells.map .p)
def NN(s)(u):af TP 30 [s.pv,aN u] (nb s u):=by
 refine bF (ag Tryz.func30 rfl) rfl (zm ?_);refine cZ (Nx s _) (λv h i=>?_) (λv h i=>by cases i.1);obtain⟨J,rfl⟩:=i;cases J;simp only[aN,go_sem,simprocAttr];by_cases E:(bu s).2.2=0;rotate_left
 .have Y:((bu s).2.2==0)=false:=by simpa using E
  have X:((bu s).2.2 != 0)=true:=by simpa using E
  have G:be s u=(bu s).2.2:=by rw[be,if_neg E]
  simp[Y,X,nb,G,if_neg E,go_sem]
 by_cases L:40<u.length
 .have K:decide ((40:Int)<(u.length:Int))=true:=decide_eq_true (by omega);have G:be s u=3:=by rw[be,if_pos E,if_pos L]
  simp[E,K,nb,G,go_sem]
 have K:decide ((40:Int)<(u.length:Int))=false:=decide_eq_false (by omega);have G:be s u=0:=by rw[be,if_pos E,if_neg L]
 have O:=tr E;have hl:u.length<1000000000:=by omega
 refine zo E K ?_;refine fC [4,28,29,5,6,30] 2 4 23 _ (gO s [.slice 3 0 0 0,.p .nilslice,.p .nilslice,.p .nilslice]) (cG _) (cG _) rfl (gL 0 rfl rfl rfl) ?_ ?_ rfl ?_
 .simp[go_sem]
 .simp[D1,go_sem]
 refine zm ?_;refine fC [4,28,29,5,6,30] 2 4 23 _ (gO s [.slice 3 0 0 0,.slice 4 0 0 0,.p .nilslice,.p .nilslice]) (cG _) (cG _) rfl (gL 1 rfl rfl rfl) ?_ ?_ rfl ?_
 .simp[go_sem]
 .simp[gO,go_sem]
 refine zm ?_;refine fC [4,28,29,5,6,30] 2 3 23 _ (gO s [.slice 3 0 0 0,.slice 4 0 0 0,.slice 5 0 0 0,.p .nilslice]) (cG _) (cG _) rfl (gL 2 rfl rfl rfl) ?_ ?_ rfl ?_
 .simp[go_sem]
 .simp[gO,go_sem]
 refine zm ?_;refine fC [4,28,29,5,6,30] 2 2 23 _ (gO s [.slice 3 0 0 0,.slice 4 0 0 0,.slice 5 0 0 0,.slice 6 0 0 0]) (cG _) (cG _) rfl (gL 3 rfl rfl rfl) ?_ ?_ rfl ?_
 .simp[go_sem]
 .simp[gO,go_sem]
 refine zm ?_;refine bt 5 1 (by simp only[go_sem,simprocAttr]) (zm ?_);refine bt 6 1 (by simp[go_sem]) ?_;refine eR (uh 0) (eR (uh 1) ?_);simp only[gO,go_sem,simprocAttr];have M:∀d,(bh s d).2.1.length=d.length/\(bh s d).2.2.length<=d.length:=λd=>vi s d;have Z:∀d:List (List UInt8),d.length<=40->BkOk s (bh s d).1 d.length:=λd K=>HC O K
 refine aG [4,28,29] u hl (τ:=List PV) (λd_ rest _=>True) (λd_ ex=>[(5,.slice 7 (bh s d_).2.1.length 0 (bh s d_).2.1.length),(6,.slice 8 (bh s d_).2.2.length 0 (bh s d_).2.2.length),(30,.p (.int .i64 d_.length))])
  (λd_ ex=>B7 s (bh s d_).1 ex++[.row 1 ((bh s d_).2.1.map ng),.row 1 ((bh s d_).2.2.map ng)]) [] trivial ?_ ?_ ?_
 .simp[bh,cK,List.foldl_nil,bS,bx,bI,go_sem]
 .intro ex _;have t1:∀l:List (List UInt8),List.take l.length (l.map λx=>PV.str (bs x))=l.map λx=>PV.str (bs x):=λl=>dt (by simp);have N:nb s u=.tuple [.ptr 23 [.agg ((bh s u).1.cells++s.cells)] 0 0,aN (bh s u).2.1,aN (bh s u).2.2,.int .i64 0]:=by rw[nb,if_pos G]
  simp[nJ,t1,o3,N,aN,go_sem]
 .intro d_ l r ex I _ hx U C;have a1:d_.length+1<=40:=by
   have:=congrArg List.length I;simp at this;omega
  obtain⟨r1,r2⟩:=M d_;have A:bh s (d_++[l])=eP s (bh s d_) l:=by rw[bh,vW];rfl
  have a0:=Ui s (bh s d_).1 ex d_.length O (Z d_ (by omega)) l;have V:=iR (gJ s (bh s d_).1 ex) (args:=[.ptr 2 1 0 0,.p (.str (bs l))]) (by simp only[go_sem,simprocAttr]) (a0.mono λr h' i=>⟨Gh i,i⟩) [.row 1 ((bh s d_).2.1.map ng),.row 1 ((bh s d_).2.2.map ng)];have j:(bh s d_).2.1.length+1<=ai:=by simp only[ai];omega
  have F:(bh s d_).2.2.length+1<=ai:=by simp only[ai];omega
  simp only[U,hx,go_sem,simprocAttr];refine cZ V (λv h i=>?_) (λv h i=>?_);rotate_left
  .obtain⟨h',_,_,i⟩:=i;unfold qq at i;split at i<;>cases i.1
  obtain⟨h',rfl,_,i⟩:=i;unfold qq at i
  cases D:ey s (bh s d_).1 l with
  |error e=>
   rw[D]at i;obtain⟨J,rfl⟩:=i;cases J;have G:=Bz O D;have z:eP s (bh s d_) l=((bh s d_).1,(bh s d_).2.1++[joinL [EV,aX e]],(bh s d_).2.2):=by rw[eP,D]
   have T:(e != 0)=true:=by rw[bne_iff_ne];omega
   have S:=rp [.s EV,.n e] true (by simp) (λw hw=>by
    simp only[br,dP,or_false]at hw;rcases hw with rfl|rfl
    .show (2:Nat)<=1000;decide
    .exact⟨by omega,by omega⟩)
   refine zn T ?_;refine aa S rfl (zn j ?_);refine am I ex trivial ?_
   simp only[C,A,z,ak,aK,aS,bf,bx,Word.ws,mS,xP,bI,go_sem,simprocAttr]
  |ok q=>
   obtain⟨b',a,w⟩:=q;rw[D]at i;obtain⟨J,R⟩:=i;cases J;have z:eP s (bh s d_) l=(b',(bh s d_).2.1++[a],if w=true then(bh s d_).2.2++[l] else(bh s d_).2.2):=by rw[eP,D]
   rcases R with⟨ex',rfl⟩|⟨h0,l0,x0,rfl⟩
   .cases w
    .simp only[j,go_sem,simprocAttr];refine am I ex' trivial ?_;simp only[C,A,z,ak,aK,aS,bf,bx,go_sem,simprocAttr]
    .simp only[j,F,go_sem,simprocAttr];refine am I ex' trivial ?_;simp only[C,A,z,ak,aK,aS,bf,bx,go_sem,simprocAttr]
   .cases w
    .simp only[j,go_sem,simprocAttr];refine BP [4,28,29,5,6,30] 4 2 4 23 _ (.agg ([.slice 3 b'.lots.length 0 b'.lots.length,.slice 4 0 0 0,.slice 5 b'.tests.length 0 b'.tests.length,.slice 6 b'.boxes.length 0 b'.boxes.length,.p (.int .i64 b'.poured),.p (.int .i64 b'.lost)]++s.cells.map .p)) (cG _) (cG _) (by show 4<9;decide) (by decide) rfl (gL 1 rfl rfl rfl) ?_ (HF _ _ ?_ ?_) rfl ?_
     .simp[ids,uY,tI,sf,go_sem]
     .intro x hx;rcases cn.1 hx with hx|hx
      .obtain⟨y,_,rfl⟩:=cA.1 hx;trivial
      .rw[dW.1 hx];trivial
     .intro x hx;obtain⟨y,_,rfl⟩:=cA.1 hx;trivial
     simp only[go_sem,simprocAttr];refine am I [] trivial ?_;simp only[C,A,z,h0,ak,aK,aS,bf,bx,bS,bI,go_sem,simprocAttr]
    .simp only[j,F,go_sem,simprocAttr];refine BP [4,28,29,5,6,30] 4 2 4 23 _ (.agg ([.slice 3 b'.lots.length 0 b'.lots.length,.slice 4 0 0 0,.slice 5 b'.tests.length 0 b'.tests.length,.slice 6 b'.boxes.length 0 b'.boxes.length,.p (.int .i64 b'.poured),.p (.int .i64 b'.lost)]++s.cells.map .p)) (cG _) (cG _) (by show 4<9;decide) (by decide) rfl (gL 1 rfl rfl rfl) ?_ (HF _ _ ?_ ?_) rfl ?_
     .simp[ids,uY,tI,sf,go_sem]
     .intro x hx;rcases cn.1 hx with hx|hx
      .obtain⟨y,_,rfl⟩:=cA.1 hx;trivial
      .rw[dW.1 hx];trivial
     .intro x hx;rcases cn.1 hx with hx|hx
      .obtain⟨y,_,rfl⟩:=cA.1 hx;trivial
      .rw[dW.1 hx];trivial
     simp only[go_sem,simprocAttr];refine am I [] trivial ?_;simp only[C,A,z,h0,ak,aK,aS,bf,bx,bS,bI,go_sem,simprocAttr]
end Ch
open Go.Proofs.Tryz
open Go.IntKind (i64)
namespace Ch
set_option maxRecDepth 4000
def eC (l:List UInt8):Int:=match bV l with|some v=>v|none=>-1
def Bj (l:List UInt8):Int:=
 if l.length=0\/8<l.length\/(1<l.length/\l[0]?=some 48) then -1 else match Lib.decFrom 0 l with|none=>-1|some n=>if 10000000<n then -1 else(n:Int)
def IB{a b:List UInt8}(h:a≠[]):(a++b)[0]?=a[0]?:=by
 cases a with
 |nil=>exact absurd rfl h
 |cons x a=>rfl
def IX:∀(k n),n<=k->10<=n->(Lib.decDigits n)[0]?≠some 48
 |0,n,l,j=>by omega
 |k+1,n,l,j=>by
  rw[Lib.decDigits,dif_neg (by omega),IB (qf _)];by_cases h:n / 10<10
  .rw[Lib.decDigits,dif_pos h];intro i;have e:UInt8.ofNat (48+n / 10)=48:=by simpa using i
   have:=congrArg UInt8.toNat e;simp at this;omega
  .exact IX k (n / 10) (by omega) (by omega)
def SP{b}{d}(h:Lib.digitVal b=some d):d<10/\b=UInt8.ofNat (48+d):=by
 unfold Lib.digitVal at h;split at h
 .rename_i e;cases h;refine⟨by omega,?_⟩;apply UInt8.toNat_inj.1;simp;omega
 .cases h
def Um:∀(k) (l) (n),l.length=k->Lib.decFrom 0 l=some n->l≠[]->(1<l.length->l[0]?≠some 48)->Lib.decDigits n=l
 |0,l,n,y,_,z,_=>absurd (qx y) z
 |k+1,l,n,y,i,z,C=>by
  rcases AW l with rfl|⟨a,b,rfl⟩
  .exact absurd rfl z
  rw[AX]at *
  rw[vE]at i
  cases q:Lib.decFrom 0 a with
  |none=>rw[q]at i;cases i
  |some m=>
   rw[q,iv,Lib.decFrom]at i
   cases v:Lib.digitVal b with
   |none=>rw[v]at i;cases i
   |some d=>
    rw[v]at i;have I:m*10+d=n:=by simpa[Lib.decFrom]using i
    obtain⟨G,rfl⟩:=SP v;by_cases e:a=[]
    .subst e;have D:m=0:=by simpa[Lib.decFrom]using q.symm
     subst D;rw[Lib.decDigits,dif_pos (by omega),show n=d by omega];rfl
    .have A:a.length=k:=by simpa using y
     have F:0<a.length:=zH.2 e;have j:a[0]?≠some 48:=by
      have:=C (by simp;omega);rwa [IB e]at this
     have u:=Um k a m A q e (λ_=>j);have E:1<=m:=by
      rcases q9 m with h|h
      .subst h;rw[Lib.decDigits,dif_pos (by omega)]at u;rw[<-u]at j;exact absurd rfl j
      .exact h
     rw[Lib.decDigits,dif_neg (by omega),show n / 10=m by omega,show n%10=d by omega,u]
def Vi(l):Bj l=eC l:=by
 unfold Bj eC
 cases i:bV l with
 |some v=>
  unfold bV at i;split at i
  .rename_i v' L;split at i
   .rename_i h;cases i;obtain⟨G,K,C⟩:=h;obtain⟨m,rfl⟩:=na G;have I:=lC G K;rw[C]at I;have y:Lib.decDigits m=l:=by rw[<-C];rfl
    have j:=qf m;rw[y]at j;have M:0<l.length:=zH.2 j;have D:¬(1<l.length/\l[0]?=some 48):=by
     rintro⟨A,z⟩
     by_cases F:m<10
     .rw[<-y,Lib.decDigits,dif_pos F]at A;simp at A
     .rw[<-y]at z;exact IX m m (ba _) (by omega) z
    rw[if_neg (by rintro(h|h|h)<;>first|omega|exact D h),<-y,u2];simp only;rw[if_neg (by omega)]
   .cases i
  .cases i
 |none=>
  split
  .rfl
  .rename_i h
   cases J:Lib.decFrom 0 l with
   |none=>rfl
   |some n=>
    simp only;split
    .rfl
    .rename_i C;exfalso;have j:l≠[]:=λe=>h (.inl (by rw[e];rfl));have E:=Um _ l n rfl J j (λA z=>h (.inr (.inr ⟨A,z⟩)));have u:aX (n:Int)=l:=E;have q:=wM (n:=(n:Int)) (by omega) (by omega);rw[u]at q;unfold bV at i;rw[q]at i;simp only at i;rw[if_pos ⟨by omega,by omega,u⟩]at i;cases i
def N2(l):af TP 204 [.str (bs l)] (.int .i64 (eC l)):=by
 rw[<-Vi];refine ae (ag func204 rfl) rfl ?_;have j:((bs l).size:Int)=(l.length:Int):=by rw[al]
 refine zn j ?_;by_cases J:l.length=0
 .have D:((l.length:Int)==0)=true:=by simp[J]
  have y:Bj l=-1:=if_pos (.inl J);simp[D,y,go_sem]
 have D:((l.length:Int)==0)=false:=by simp;exact λe=>J (by simp[e])
 by_cases X:8<l.length
 .have i:decide ((8:Int)<(l.length:Int))=true:=decide_eq_true (by omega);have y:Bj l=-1:=if_pos (.inr (.inl X));simp[j,D,i,y,go_sem]
 have i:decide ((8:Int)<(l.length:Int))=false:=decide_eq_false (by omega);obtain⟨b,L⟩:∃b,l[0]?=some b:=⟨_,bL (by omega)⟩
 have G:(bs l)[0]?=some b:=by rw[tU];exact L
 have Y:(0:Int)<(l.length:Int):=by omega
 have T:(0:Nat)<(bs l).size:=by rw[al];omega
 by_cases E:1<l.length/\b=48
 .obtain⟨E,rfl⟩:=E;have b3:decide ((1:Int)<(l.length:Int))=true:=decide_eq_true (by omega);have y:Bj l=-1:=if_pos (.inr (.inr ⟨E,L⟩));simp[j,D,i,b3,G,y,go_sem]
 have y:Bj l=match Lib.decFrom 0 l with|none=>-1|some n=>if 10000000<n then -1 else(n:Int):=by
  rw[Bj,if_neg]
  rintro(h|h|h)
  .exact J h
  .exact X h
  .rw[L]at h;exact E ⟨h.1,kw h.2⟩
 rw[y];have a1:l.length<=8:=by omega
 by_cases h4:1<l.length;case' pos=>
  have O:decide ((1:Int)<(l.length:Int))=true:=decide_eq_true (by omega);have b5:(((b.toNat:Nat):Int)==48)=false:=by
   rw[beq_eq_false_iff_ne];intro e;exact E ⟨h4,UInt8.toNat_inj.1 (by show b.toNat=48;omega)⟩
  simp[j,D,i,O,G,b5,go_sem]
 case' neg=>
  have O:decide ((1:Int)<(l.length:Int))=false:=decide_eq_false (by omega);simp[j,D,i,O,go_sem]
 all_goals
  refine mR [0] (σ:=List UInt8×List UInt8×Nat) (λq=>l=q.1++q.2.1/\Lib.decFrom 0 l=Lib.decFrom q.2.2 q.2.1/\q.2.2<10^q.1.length) (λq=>q.2.1.length)
   (λq=>[(3,.p (.int .i64 q.2.2)),(4,.p (.int .i64 q.1.length))]) ([],l,0) ⟨rfl,rfl,by simp⟩ ?_ ?_
  .simp[go_sem]
  rintro⟨d_,rest,u⟩ ⟨C,z,e3⟩
  dsimp only at C z e3;have S:=congrArg List.length C;rw[ak]at S;have hp:10^d_.length<=10^8:=mX (by omega) (by omega);have a0:(10:Nat)^8=100000000:=rfl
  cases rest with
  |nil=>
   have v:¬((d_.length:Int)<(l.length:Int)):=by rw[C];simp
   have hf:Lib.decFrom 0 l=some u:=by rw[z];rfl
   rw[hf];by_cases V:10000000<u
   .have N:decide ((10000000:Int)<(u:Int))=true:=decide_eq_true (by omega);simp[j,v,decide_false,N,if_pos V,go_sem]
   .have N:decide ((10000000:Int)<(u:Int))=false:=decide_eq_false (by omega)
    simp[j,v,decide_false,N,if_neg V,go_sem]
  |cons i r=>
   obtain⟨hx,v⟩:=ca C;have I:=congrArg List.length C;simp only[ak,bc]at I;have A:(bs l)[d_.length]?=some i:=by rw[tU];exact hx
   have R:i64.wrap ((d_.length:Int)+1)=(((d_++[i]).length:Nat):Int):=aO (by omega) (by simp[ai];omega) (by simp);have a2:i.toNat<256:=i.toNat_lt;have Z:decide ((d_.length:Int)<(l.length:Int))=true:=by simpa using v
   rw[Lib.decFrom]at z;by_cases U:48<=i.toNat/\i.toNat<=57
   .have K:Lib.digitVal i=some (i.toNat-48):=by rw[Lib.digitVal,if_pos U]
    rw[K]at z;have F:decide (((i.toNat:Nat):Int)<48)=false:=decide_eq_false (by omega);have M:decide ((57:Int)<((i.toNat:Nat):Int))=false:=decide_eq_false (by omega);have w1:i64.wrap (10*(u:Int))=10*(u:Int):=ah;have w2:IntKind.u8.wrap (((i.toNat:Nat):Int)-48)=((i.toNat-48:Nat):Int):=by
     simp[IntKind.wrap,IntKind.signed,IntKind.bits];omega
    have w3:i64.wrap (((i.toNat-48:Nat):Int))=((i.toNat-48:Nat):Int):=ah;have w4:i64.wrap (10*(u:Int)+((i.toNat-48:Nat):Int))=((u*10+(i.toNat-48):Nat):Int):=by
     rw[ah];simp;omega
    simp only[j,v,A,F,M,w1,w2,w3,w4,go_sem,simprocAttr];refine aF (d_++[i],r,u*10+(i.toNat-48)) ⟨by rw[C];simp,z,?_⟩ (dc _) ?_
    .show u*10+(i.toNat-48)<10^(d_++[i]).length;rw[ak,aK,Nat.pow_succ];omega
    simp[R,go_sem]
   .have K:Lib.digitVal i=none:=by rw[Lib.digitVal,if_neg U]
    rw[K]at z;rw[z];by_cases h7:i.toNat<48
    .have F:decide (((i.toNat:Nat):Int)<48)=true:=decide_eq_true (by omega);simp[j,v,A,F,go_sem]
    .have F:decide (((i.toNat:Nat):Int)<48)=false:=decide_eq_false (by omega);have M:decide ((57:Int)<((i.toNat:Nat):Int))=true:=decide_eq_true (by omega);simp[j,v,A,F,M,go_sem]
def Us(l)(J:l.length<1000000000):af TP 121 [.str (bs l)] (.int .i64 (Lib.indexByte l 10)):=by
 refine ae (ag func121 rfl) rfl ?_;have j:((bs l).size:Int)=(l.length:Int):=by rw[al]
 refine zm ?_
 refine mR [0] (σ:=List UInt8×List UInt8) (λq=>l=q.1++q.2/\Lib.indexByte l 10=if Lib.indexByte q.2 10=-1 then -1 else(q.1.length:Int)+Lib.indexByte q.2 10) (λq=>q.2.length)
  (λq=>[(3,.p (.int .i64 q.1.length))]) ([],l) ⟨rfl,?_⟩ ?_ ?_
 .simp only[bS];split
  .assumption
  .simp
 .simp[go_sem]
 rintro⟨d_,rest⟩ ⟨v,u⟩
 dsimp only at v u
 cases rest with
 |nil=>
  have i:¬((d_.length:Int)<(l.length:Int)):=by rw[v];simp
  rw[u];refine zp j i decide_false ?_
  rfl
 |cons b r=>
  obtain⟨hx,i⟩:=ca v;have z:=congrArg List.length v;simp only[ak,bc]at z;have y:(bs l)[d_.length]?=some b:=by rw[tU];exact hx
  have C:i64.wrap ((d_.length:Int)+1)=(((d_++[b]).length:Nat):Int):=aO (by omega) (by simp[ai];omega) (by simp);have F:decide ((d_.length:Int)<(l.length:Int))=true:=by simpa using i
  have I:=Lib.indexByte_ge r 10;rw[Lib.indexByte]at u;by_cases A:b=10
  .subst A;have E:((((10:UInt8).toNat:Nat):Int)==10)=true:=rfl;rw[u];refine zp j i y ?_;simp
  .have E:(((b.toNat:Nat):Int)==10)=false:=by
    rw[beq_eq_false_iff_ne];intro e;exact A (UInt8.toNat_inj.1 (by show b.toNat=10;omega))
   have G:(b==10)=false:=by simpa using A
   refine s_ j i y E ?_;refine aF (d_++[b],r) ⟨by rw[v];simp,?_⟩ (dc _) ?_
   .rw[u,G];simp only[fD,if_false,ak,aK]
    cases D:Lib.indexByte r 10==-1 with
    |true=>
     have:Lib.indexByte r 10=-1:=by simpa using D
     simp[this]
    |false=>
     have:¬Lib.indexByte r 10=-1:=by simpa using D
     simp only[fD,if_false,this];rw[if_neg (by omega)];omega
   simp[C,go_sem]
def SY(s)(e):af TP 7 [s.pv,aN e] (if be s e=0 then .tuple [aN (bh s e).2.1,.int .i64 0] else .tuple [.nilslice,.int .i64 (be s e)]):=by
 refine ae (ag func7 rfl) rfl (zm ?_);refine aa (NN s e) rfl ?_;by_cases i:be s e=0
 .simp[nb,i,aN,go_sem]
 .simp[nb,if_neg i,aN,go_sem]
def YU(s)(e):af TP 10 [s.pv,aN e] (if be s e=0 then .tuple [(bh s e).1.pv,.int .i64 0] else .tuple [.agg [.nilslice,.nilslice,.nilslice,.nilslice,.int .i64 0,.int .i64 0],.int .i64 (be s e)]):=by
 refine ae (ag func10 rfl) rfl (zm ?_);refine aa (NN s e) rfl ?_;by_cases i:be s e=0
 .simp[nb,i,aN,go_sem]
 .have j:(be s e != 0)=true:=by simpa using i
  simp[nb,if_neg i,j,aN,go_sem]
end Ch
open Go.RowKit
set_option maxRecDepth 100000
def GG{w:World}{b i}{v}{o}(h:b<w.heap.size):((w.setCell ⟨b,i,none⟩ v).alloc o).heap=((w.alloc o).setCell ⟨b,i,none⟩ v).heap:=by
 apply Xq;intro k;simp only[World.alloc,World.setCell,BU,Xl,Array.size_modify];by_cases e:k=w.heap.size
 .subst e;rw[if_pos rfl,if_neg (by omega),if_pos rfl]
 .rw[if_neg e,if_neg e]
def Ry (b n:Nat) (w w':World):Prop:=∃cs:Array Value,n<=cs.size/\w'.os=w.os/\w'.tape=w.tape/\w'.output=w.output /\
 w'.heap=((w.alloc (.cells cs 5)).setCell ⟨b,1,none⟩ (.slice (some ⟨w.heap.size,0,none⟩) 0 cs.size)).heap
def To(b n:Nat)(w)(j:w.heap[b]?=some (.cells #[.pointer (some ⟨b,0,none⟩),.slice none 0 0] 97 (0,0)))(D:n<=281474976710656) :
  Calls TP 222 #[.pointer (some ⟨b,0,none⟩),.int .i64 n] w λe w'=>e=.returned (.tuple #[])/\Ry b n w w':=by
 obtain⟨cs,u,y,C⟩:=Lib.run_makeNoZero (P:=TP) w.drew #[3] 95 5 underlying95 n D;have hw:i64.wrap (n:Int)=n:=by
  rw[IntKind.wrap_i64];omega
 have A:(callFunc 281 #[.int .i64 (i64.wrap (n:Int))]).run TP w.drew=.ok (.value (.slice (some ⟨w.drew.heap.size,0,none⟩) n cs.size)) (w.drew.drew.drew.alloc (.cells cs 5)):=by
  rw[hw,run_callFunc_extern func281 (by kernel_rfl) (by kernel_rfl) (by kernel_rfl) (e:=Extern.BytealgMakeNoZero.makeNoZero #[3] #[95]) (by kernel_rfl),u];rfl
 have l:b<w.heap.size:=by
  rcases dO b w.heap.size with h'|h'
  .exact h'
  .simp[BV h']at j
 have c1:w.drew.cell? ⟨b,1,none⟩=some (.slice none 0 0):=by
  have:w.drew.heap[b]?=_:=j;rw[iK this];rfl
 have F:(w.alloc (.cells cs 5)).cell? ⟨b,1,none⟩=some (.slice none 0 0):=by
  have:(w.alloc (.cells cs 5)).heap[b]?=_:=(iq w _ b l).trans j;rw[iK this];rfl
 have E:(w.alloc (.cells cs 5)).frozen? ⟨b,1,none⟩=false:=by
  have:(w.alloc (.cells cs 5)).heap[b]?=_:=(iq w _ b l).trans j;simp[World.frozen?,this]
 have z:∀W:World,(Builtin.copy_ #[95,95] 3 #[.slice (some ⟨w.heap.size,0,none⟩) 0 cs.size,.slice none 0 0]).run TP W=.ok (goInt 0) W:=
  λW=>run_copy_none W 95 95 3 5 _ _ 0 cs.size 0 0 underlying95 (by kernel_rfl) rfl
 have q:=GG (w:=w) (b:=b) (i:=1) (v:=.slice (some ⟨w.heap.size,0,none⟩) 0 cs.size) (o:=.cells cs 5) l;clear hw
 go_enter func222,ntmps222
 go_wp2
 go_region
 all_goals (go_wp2;go_end0;exact⟨rfl,cs,y,rfl,rfl,rfl,q⟩)
def Hx{w:World}{b}{cs}{T}{fr}{v}{i}(u:w.heap[b]?=some (.cells cs T fr))(l:cs[i]?=some v):w.setCell ⟨b,i,none⟩ v=w:=by
 have h:(w.setCell ⟨b,i,none⟩ v).heap=w.heap:=by
  apply Xq;intro k;simp only[World.setCell,BU];split
  .rename_i e;subst e;have j:cs.setIfInBounds i v=cs:=by
    apply Xq;intro k;rw[Xp];split
    .rename_i e;subst e;rw[l];split
     .rfl
     .rename_i q;exact absurd (xC.1 l).1 q
    .rfl
   rw[u];simp[j]
  .rfl
 cases w;simp only[World.setCell]at h |-;rw[h]
def WI(b n:Nat)(w)(p)(i:w.heap[b]?=some (.cells #[p,.slice none 0 0] 97 (0,0)))(q:p=.pointer none\/p=.pointer (some ⟨b,0,none⟩))(z:1<=n)(u:n<=281474976710656) :
  Calls TP 157 #[.pointer (some ⟨b,0,none⟩),.int .i64 n] w λe w'=>e=.returned (.tuple #[])/\Ry b n (w.setCell ⟨b,0,none⟩ (.pointer (some ⟨b,0,none⟩))) w':=by
 have j:(w.setCell ⟨b,0,none⟩ (.pointer (some ⟨b,0,none⟩))).heap[b]?=some (.cells #[.pointer (some ⟨b,0,none⟩),.slice none 0 0] 97 (0,0)):=by
  simp[World.setCell,BU,i]
 have c1:(w.setCell ⟨b,0,none⟩ (.pointer (some ⟨b,0,none⟩))).cell? ⟨b,1,none⟩=some (.slice none 0 0):=by rw[iK j];rfl
 have l:Calls TP 104 #[.pointer (some ⟨b,0,none⟩)] w λe w'=>e=.returned (.tuple #[])/\w'=w.setCell ⟨b,0,none⟩ (.pointer (some ⟨b,0,none⟩)):=by
  rcases q with rfl|rfl
  .exact vJ b w (by rw[iK i];rfl) (by simp[World.shape?,i]) (by simp[World.frozen?,i])
  .refine(xM b w (by rw[iK i];rfl)).mono ?_
   rintro e w' ⟨rfl,rfl⟩
   refine⟨rfl,?_⟩;exact(Hx i rfl).symm
 have y:(w.setCell ⟨b,0,none⟩ (.pointer (some ⟨b,0,none⟩))).drew.cell? ⟨b,1,none⟩=some (.slice none 0 0):=c1
 go_enter func157,ntmps157
 go_wp2_with (go_at_call 104;refine l.mono ?_;rintro e w' ⟨rfl,rfl⟩)
 go_region
 all_goals go_wp2_with (go_at_call 222;refine(To b n (w.setCell ⟨b,0,none⟩ (.pointer (some ⟨b,0,none⟩))).drew j u).mono ?_;rintro e w' ⟨rfl,v⟩)
 all_goals (go_end0;exact⟨rfl,v⟩)
def SE{h}{i n:Nat}(hi:h[i]?=some (.bld 97 5 (.p .nilslice)))(h0:1<=n)(hn:n<=281474976710656) :
  aw TP 157 [.ref .bl i,.p (.int .i64 n)] h (λr h'=>r=.ret (.p (.tuple []))/\h'=(h++[AObj.row 1 []]).set i (.bld 97 5 (.slice h.length 0 0 0))):=by
 intro M0 m w l I G;have M:=G.1;have Y:=G.2 0 _ rfl;have X:=G.2 1 _ rfl
 obtain⟨c0,c1,rfl⟩:∃c0 c1,l=#[c0,c1]:=⟨l.getD 0 undef,l.getD 1 undef,by
  apply tk
  .simpa using M
  .intro i h1 h2;have:i=0\/i=1:=by simp at h2;omega
   rcases this with rfl|rfl<;>simp[h1]⟩
 have F:RepP (Avoid M0 m) w c1 (.int .i64 n):=X;cases F;obtain⟨b,p,v,hm,hb,hp,a0,hr,a1⟩:=I.obj i _ hi;have z:m.getD i none=some b:=hm;obtain rfl:c0=.pointer (some ⟨b,0,none⟩):=by
  rcases Y.2 with hd|⟨_,b',V,y⟩
  .have D:h[i]?=some .dead:=hd;rw[hi]at D;cases D
  .have u:m.getD i none=some b':=V;rw[z]at u;cases u;exact y
 have y:RepP (Avoid M0 m) w v .nilslice:=hr;cases y;have C:w.heap[b]?=some (.cells #[p,.slice none 0 0] 97 (0,0)):=hb;refine⟨λw'=>Go.Proofs.enters_of func157 (by kernel_rfl) rfl _ w',?_⟩;refine(WI b n w p C hp h0 hn).mono ?_
 rintro e w' ⟨rfl,cs,a2,K,J,E,j⟩
 have A:(w.setCell ⟨b,0,none⟩ (.pointer (some ⟨b,0,none⟩))).heap[b]?=some (.cells #[.pointer (some ⟨b,0,none⟩),.slice none 0 0] 97 (0,0)):=by
  simp[World.setCell,BU,C]
 obtain⟨k1,e1⟩:=Do (S:=⟨m,h,w⟩) I hi z C (oT _ _ _ _) A (.inr rfl) (.inl rfl) (show dw M0 ⟨m,h,w⟩ (.slice none 0 0) (.p .nilslice) from .nilslice) (λa n c y=>by cases y);rw[show (Mem.mk m h w).h.set i (.bld 97 5 (.p .nilslice))=h from qD hi]at k1 e1;have O:m.length=h.length:=I.len;have k2:=HOk.new k1 (o:=.row 1 []) (ob:=.cells cs 5) (.inr ⟨_,5,cs,rfl,cg _ _,by simp,λi x hx=>by simp at hx⟩);have e2:=Ev.new h.length M0 k1 (ba _) (.row 1 []) (.cells cs 5);have R:=(aC.1 hi).1;have T:(h++[AObj.row 1 []])[i]?=some (.bld 97 5 (.p .nilslice)):=by rw[bJ R];exact hi
 have N:(m++[some (w.setCell ⟨b,0,none⟩ (.pointer (some ⟨b,0,none⟩))).heap.size]).getD i none=some b:=by
  rw[da,bJ (by omega),<-da];exact z
 have U:b<(w.setCell ⟨b,0,none⟩ (.pointer (some ⟨b,0,none⟩))).heap.size:=(xC.1 A).1;have u:((w.setCell ⟨b,0,none⟩ (.pointer (some ⟨b,0,none⟩))).alloc (.cells cs 5)).heap[b]?=some (.cells #[.pointer (some ⟨b,0,none⟩),.slice none 0 0] 97 (0,0)):=(iq _ _ _ U).trans A;have L:OnlyB b ((w.setCell ⟨b,0,none⟩ (.pointer (some ⟨b,0,none⟩))).alloc (.cells cs 5)) w':=by
  have Z:=oT ((w.setCell ⟨b,0,none⟩ (.pointer (some ⟨b,0,none⟩))).alloc (.cells cs 5)) b 1 (.slice (some ⟨(w.setCell ⟨b,0,none⟩ (.pointer (some ⟨b,0,none⟩))).heap.size,0,none⟩) 0 cs.size);refine⟨K.trans rfl,J.trans rfl,E.trans rfl,?_,?_⟩
  .rw[j];exact Z.size
  .intro k hk;rw[j];exact Z.block k hk
 have q:((w.setCell ⟨b,0,none⟩ (.pointer (some ⟨b,0,none⟩))).alloc (.cells cs 5)).shape? (w.setCell ⟨b,0,none⟩ (.pointer (some ⟨b,0,none⟩))).heap.size=some (5,cs.size):=by
  unfold World.shape?;rw[cg]
 obtain⟨k3,e3⟩:=Do (S:=⟨m++[some (w.setCell ⟨b,0,none⟩ (.pointer (some ⟨b,0,none⟩))).heap.size],h++[.row 1 []],(w.setCell ⟨b,0,none⟩ (.pointer (some ⟨b,0,none⟩))).alloc (.cells cs 5)⟩)
  (w':=w') (p':=.pointer (some ⟨b,0,none⟩)) (v':=.slice (some ⟨(w.setCell ⟨b,0,none⟩ (.pointer (some ⟨b,0,none⟩))).heap.size,0,none⟩) 0 cs.size) (x':=.slice h.length 0 0 0) k2 T N u L
  (by rw[j];simp[World.setCell,BU]at u |-;simp[u]) (.inr rfl) (.inr ⟨_,_,rfl⟩)
  ⟨⟨_,_,_,rfl⟩,.inr ⟨1,[],by simp,ba _,λ_=>.inr (.inl ⟨(w.setCell ⟨b,0,none⟩ (.pointer (some ⟨b,0,none⟩))).heap.size,cs.size,5,cs.size,by simp[O.symm],by simp,⟨cG _,ba _⟩,q,by simp,cG _⟩)⟩⟩
  (λa n c y=>by cases y;exact⟨_,q⟩)
 exact⟨.ret (.p (.tuple [])),_,_,⟨rfl,rfl⟩,(e1.trans e2).trans (e3.mono (by simp)),k3,.tuple rfl λi c hi=>by simp at hi⟩
set_option maxRecDepth 4000
def repL (a b:UInt8) (l:List UInt8):List UInt8:=l.map λx=>if x=a then b else x
def gD(a b)(l):(repL a b l).length=l.length:=by simp[repL]
def Bb(a b)(x y):repL a b (x++y)=repL a b x++repL a b y:=by simp[repL]
def zM(a b):∀l,l.count a=0->repL a b l=l
 |[],_=>rfl
 |x::r,h=>by
  rw[List.count_cons]at h;have hx:x≠a:=λe=>by subst e;simp at h
  have:=zM a b r (by omega);unfold repL at this |-;rw[bf,this,if_neg hx]
def xk(a):∀l,(aP a l).1.count a=0
 |[]=>rfl
 |x::r=>by
  unfold aP;by_cases hx:x=a
  .rw[if_pos hx];rfl
  .rw[if_neg hx];show (x::(aP a r).1).count a=0;rw[List.count_cons_of_ne hx];exact xk a r
def ST(a){l}(h:l.count a≠0):∃p r,l=p++a::r/\p.count a=0/\Lib.indexByte l a=(p.length:Int):=by
 rcases lA a l with⟨j,e,i⟩|⟨r,j,e,i⟩
 .exact absurd (e▸xk a l) h
 .exact⟨_,r,i,xk a l,e⟩
def S6(l)(a b)(E:a≠b)(hl:l.length<=900000):af TP 107 [.str (bs l),.str (bs [a]),.str (bs [b]),.int .i64 (-1)] (.str (bs (repL a b l))):=by
 have e0:(bs [a]==bs [b])=false:=by rw[cF];simpa using E
 refine ae (ag func107 rfl) rfl (zn e0 ?_);refine aa (Q1 (bs l) a) rfl ?_;rw[io];by_cases F:l.count a=0
 .have A:((Lib.countByte l a:Nat):Int)=0:=by simpa[Lib.countByte]using F
  refine zn A ?_;rw[zM a b l F]
 .have a0:=List.count_le_length (a:=a) (l:=l);obtain⟨k,V⟩:∃k,l.count a=k+1:=⟨l.count a-1,by omega⟩
  have A:((Lib.countByte l a:Nat):Int)=((k+1:Nat):Int):=by rw[Lib.countByte,V]
  have e2:(((k+1:Nat):Int)==0)=false:=by simp;omega
  simp only[A,e2,al,aK,go_sem,simprocAttr];have D:1<=l.length:=by omega
  have e3:i64.wrap ((l.length:Int)+i64.wrap (((k+1:Nat):Int)*0))=((l.length:Nat):Int):=by
   rw[AY,show i64.wrap 0=0 from rfl,uJ];exact ah
  rw[e3];refine cw (SE (n:=l.length) rfl D (by omega)) ?_;have J:decide (0<(((bs [a]).size:Nat):Int))=true:=rfl;refine zn J ?_
  refine dY [0,1,2,10,52] (σ:=List UInt8×List UInt8) (λq=>l=q.1++q.2) (λq=>q.2.length)
   (λq=>[(11,.p (.int .i64 q.1.length)),(53,.p (.int .i64 ((q.1.count a:Nat):Int)))])
   (λq=>[.bld 97 5 (.slice 1 q.1.length 0 q.1.length),.row 1 (iY (bs (repL a b q.1)))]) ([],l) rfl rfl ?_ ?_
  .simp[List.count_nil,go_sem]
  rintro⟨d_,rest⟩ e
  dsimp only at e;have I:l.count a=d_.count a+rest.count a:=by rw[e,List.count_append]
  have y:=congrArg List.length e;rw[ak]at y;have u:((d_.length:Nat):Int)<=((bs l).size:Int):=by rw[al];omega
  have v:(bs l).extract d_.length (bs l).size=bs rest:=by
   rw[dF,al,nS]
   congr 1
   rw[e];simp
  rcases q9 (rest.count a) with S|hp
  .have i:¬(((d_.count a:Nat):Int)<((k+1:Nat):Int)):=by omega
   refine s_ i decide_false u v ?_;refine cw (qa (s:=bs rest) (j:=1) rfl rfl (by rw[mi,al,gD]) (by decide) (by rw[al];omega)) ?_;have T:repL a b d_++rest=repL a b l:=by rw[e,Bb,zM a b rest S]
   have U:d_.length+(bs rest).size=(bs (repL a b l)).size:=by rw[al,al,gD];omega
   refine s_ @mD @cc T U ?_;refine cw (xa (j:=1) (s:=bs (repL a b l)) rfl rfl (by rw[al,gD];omega) (by rw[al,gD];omega)) ?_;simp[go_sem]
  .obtain⟨p,r,z,G,Z⟩:=ST a (l:=rest) (by omega);have i:(((d_.count a:Nat):Int)<((k+1:Nat):Int)):=by omega
   have C:=congrArg List.length z;simp only[ak,bc]at C;refine s_ i decide_true u v ?_;refine aa (Ji (bs rest) a) rfl ?_;rw[io,Z];have R:i64.wrap ((d_.length:Int)+(p.length:Int))=((d_.length+p.length:Nat):Int):=aO (by omega) (by simp[ai];omega) (by simp);have O:((d_.length+p.length:Nat):Int)<=((bs l).size:Int):=by rw[al];omega
   have N:(((d_.length:Nat):Int)<=((d_.length+p.length:Nat):Int)):=by omega
   have M:(bs l).extract d_.length (d_.length+p.length)=bs p:=by
    rw[dF]
    congr 1
    rw[e,z];simp[List.take_append]
   have L:i64.wrap (((d_.length+p.length:Nat):Int)+1)=(((d_++(p++[a])).length:Nat):Int):=aO (by omega) (by simp[ai];omega) (by simp;omega);have K:i64.wrap (((d_.count a:Nat):Int)+1)=(((d_++(p++[a])).count a:Nat):Int):=aO (by omega) (by simp[ai];omega) (by simp[G]);refine s_ R O N M ?_;refine cw (qa (s:=bs p) (j:=1) rfl rfl (by rw[mi,al,gD]) (by decide) (by rw[al];omega)) ?_;refine zo @mD @cc ?_;refine cw (qa (s:=bs [b]) (j:=1) rfl rfl (by rw[mi,al,al,ak,gD]) (by decide) (by rw[al,al];simp;omega)) ?_;simp only[mD,cc,al,aK,L,go_sem,simprocAttr];refine aZ (d_++(p++[a]),r) (by rw[e,z];simp) (by show r.length<rest.length;omega) ?_ ?_
   .have Y:repL a b (d_++(p++[a]))=repL a b d_++p++[b]:=by
     rw[Bb,Bb,zM a b p G,dD];simp[repL]
    have X:(d_++(p++[a])).length=d_.length+p.length+1:=by simp;omega
    show _=[AObj.bld 97 5 (.slice 1 (d_++(p++[a])).length 0 (d_++(p++[a])).length),AObj.row 1 (iY (bs (repL a b (d_++(p++[a])))))]
    rw[Y,X]
   simp[K,go_sem]
def AL(l)(a b)(e:a≠b)(i:l.length<=900000):af TP 44 [.str (bs l),.str (bs [a]),.str (bs [b])] (.str (bs (repL a b l))):=by
 refine ae (ag func44 rfl) rfl (zm ?_);refine aa (S6 l a b e i) rfl ?_;simp[go_sem]
namespace Ch
def me (i:Nat) (x:List UInt8):List UInt8:=aX ((i+1:Nat):Int)++[32]++repL 10 47 x++[10]
def FR{i}{x}(hi:i<=50):(me i x).length<=x.length+10:=by
 have:=lC (n:=((i+1:Nat):Int)) (by omega) (by omega);simp only[me,ak,gD,aK];omega
def Em (l:List (List UInt8)):PV:=.func (.func 103) [] [.ptr 1 [aN l] 0 0]
def Ww(l):af TP 38 [aN l] (Em l):=by
 refine bX (ag func38 rfl) rfl ?_;simp[Em,aN,go_sem]
def SD(l)(R:l.length<=40)(hw:∀x,x∈l->x.length<=1000)(id)(A)(Inv:List (List UInt8)->Heap->Prop)
  (K:∀d_ x rest h,l=d_++x::rest->Inv d_ h->ve TP id [.p (.str (bs (me d_.length x)))] h (λr h'=>r=.ret (.p (.bool true))/\Inv (d_++[x]) h')) (hi:Inv [] A) :
  aw TP 103 [.ref .yl id,.p (.ptr 1 [aN l] 0 0)] A (λr h'=>r=.ret (.p (.tuple []))/\Inv l h'):=by
 refine au (ag func103 rfl) rfl ?_;simp only[aN,go_sem,simprocAttr]
 refine dY [0,5,6] (σ:=List (List UInt8)×List (List UInt8)×Heap) (λq=>l=q.1++q.2.1/\Inv q.1 q.2.2) (λq=>q.2.1.length)
  (λq=>[(7,.p (.int .i64 q.1.length))]) (λq=>q.2.2) ([],l,A) ⟨rfl,hi⟩ rfl ?_ ?_
 .simp[go_sem]
 rintro⟨d_,rest,h⟩ ⟨e,C⟩
 dsimp only at e C
 cases rest with
 |nil=>
  have j:¬((d_.length:Int)<(l.length:Int)):=by rw[e];simp
  refine zo j decide_false ?_;rw[bI]at e;rw[e]
  exact C
 |cons x rest=>
  obtain⟨hx,j⟩:=ca e;have z:=congrArg List.length e;simp only[ak,bc]at z;have E:i64.wrap ((d_.length:Int)+1)=(((d_++[x]).length:Nat):Int):=aO (by omega) (by simp[ai];omega) (by simp);have F:i64.wrap ((d_.length:Int)+1)=((d_.length+1:Nat):Int):=aO (by omega) (by simp[ai];omega) (by simp);have O:=hw x (by rw[e];simp);have L:=lC (n:=((d_.length+1:Nat):Int)) (by omega) (by omega);have y:=o8 (n:=((d_.length+1:Nat):Int)) (by omega);have c1:(⟨#[32]⟩:ByteArray)=bs [32]:=rfl;have N:(⟨#[10]⟩:ByteArray)=bs [10]:=rfl;have S:(⟨#[47]⟩:ByteArray)=bs [47]:=rfl;have i:=K d_ x rest h e C;rw[show me d_.length x=aX ((d_.length+1:Nat):Int)++[32]++repL 10 47 x++[10] from rfl]at i;generalize aX ((d_.length+1:Nat):Int)=D at L y i;have J:(bs (D)).size+(bs [32]).size<=aM:=by simp[al,aM];omega
  have I:(bs (D++[32])).size+(bs (repL 10 47 x)).size<=aM:=by simp[al,aM,gD];omega
  have G:(bs (D++[32]++repL 10 47 x)).size+(bs [10]).size<=aM:=by simp[al,aM,gD];omega
  refine s_ j decide_true hx F ?_;refine aa (Aa ((d_.length+1:Nat):Int) (by omega) (by omega)) rfl (s_ y c1 J @cc ?_);refine aa (AL x 10 47 (by decide) (by omega)) rfl (s_ N I G @cc ?_);refine r9 i (λv h' u=>?_) (λv h' u=>?_)
  .obtain⟨u,M⟩:=u;cases u;refine zm ?_;refine aZ (d_++[x],rest,h') ⟨by rw[e];simp,M⟩ (dc _) rfl ?_;simp[E,go_sem]
  .cases u.1
def dy (l:List (List UInt8)):List UInt8:=(l.mapIdx me).flatten
def ro(l)(x):dy (l++[x])=dy l++me l.length x:=by
 unfold dy;rw[List.mapIdx_concat];simp
def AH:∀(n) (l r),l.length=n->(l++r).length<=40->(∀x,x∈l++r->x.length<=400)->(dy l).length<=410*n
 |0,l,r,e,_,_=>by
  rw[qx e]
  exact ba _
 |n+1,l,r,e,q,j=>by
  rcases AW l with rfl|⟨l,x,rfl⟩
  .cases e
  rw[AX]at e q j |-;have u:l.length=n:=by simpa using e
  have z:=AH n l ([x]++r) u (by simpa using q) (by simpa using j);have y:=j x (by simp);have v:=FR (i:=l.length) (x:=x) (by simp at q;omega);rw[ro,ak];omega
def Dd(l r)(i:(l++r).length<=40)(e:∀x,x∈l++r->x.length<=400):(dy l).length<=410*l.length:=AH _ l r rfl i e
def SV(i)(x):(me i x).length≠0:=by simp[me]
def E3{l}{c}(h:gc l=.ok c):l.length<=400:=by
 unfold gc at h;split at h
 .cases h
 .omega
def MK{s}{q}{l}(e:∀x,x∈q.2.2->x.length<=400):∀x,x∈(eP s q l).2.2->x.length<=400:=by
 unfold eP;split
 .exact e
 .rename_i b a w i;dsimp only;split
  .intro x hx;rcases cn.1 hx with hx|hx
   .exact e x hx
   .simp only[dW]at hx;subst hx;unfold ey at i;split at i
    .cases i
    .rename_i c j;exact E3 j
  .exact e
def C6{s}:∀(d:List (List UInt8)) (q),(∀x,x∈q.2.2->x.length<=400)->∀x,x∈(d.foldl (eP s) q).2.2->x.length<=400
 |[],q,h=>h
 |l::d,q,h=>C6 d (eP s q l) (MK h)
def E6(s)(d):∀x,x∈(bh s d).2.2->x.length<=400:=C6 d _ (λx hx=>(by cases hx))
def xl (n:Nat):AV:=if n=0 then .p .nilslice else .slice 4 n 0 n
def rX (t:List UInt8):Heap:=if t.length=0 then [] else [.row 1 (iY (bs t))]
def u3 (s:ChShop) (o:AObj) (t:List UInt8):Heap:=[.row 17 [.p s.pv],.bld 97 5 (xl t.length),.dblock,o]++rX t
def md (s:ChShop) (ls:List (List UInt8)):PV:=if be s ls=0 then .tuple [.str (bs (dy (bh s ls).2.2)),.int .i64 0] else .tuple [.str (bs []),.int .i64 (be s ls)]
def YT(s)(z):af TP 14 [s.pv,aN z] (md s z):=by
 refine ae (ag func14 rfl) rfl (zm ?_);refine aa (NN s z) rfl ?_;by_cases u:be s z=0;rotate_left
 .have N:(be s z != 0)=true:=by simpa using u
  simp only[nb,if_neg u,N,md,go_sem,simprocAttr];rfl
 have e:(bh s z).2.2.length<=40:=by
  have X:=(vi s z).2;unfold be at u;split at u
  .split at u
   .cases u
   .omega
  .exact absurd u (by assumption)
 have q:=E6 s z;simp only[nb,u,go_sem,simprocAttr];generalize E:(bh s z).2.2=w at e q;refine aa (Ww w) rfl (zm ?_)
 refine JQ (f:=103) (args:=[.ref .yl 3,.p (.ptr 1 [aN w] 0 0)])
  (R:=λr h=>r=.ret (.p (.tuple []))/\∃o,h=u3 s o (dy w))
  rfl (by simp[Em,go_sem]) cH (by kernel_rfl) (by kernel_rfl) (by kernel_rfl) (λL U T l=>?_) (λv h M=>by cases M.1)
 have I:∀t o,(u3 s o t)[3]?=some o:=λt o=>rfl;refine(SD w e (λx hx=>fP (q x hx) (by decide)) 3 _ (λd_ h=>h=u3 s L (dy d_)) ?_ rfl).mono ?_
 .rintro d_ x rest h J rfl
  have G:=Dd d_ (x::rest) (by rw[<-J];exact e) (by rw[<-J];exact q);have S:d_.length<=40:=by rw[J]at e;simp at e;omega
  have K:=FR (i:=d_.length) (x:=x) (by omega);have O:=q x (by rw[J];simp);have A:=SV d_.length x;refine l _ _ _ rfl (I _ _) ?_;clear l;rw[ro];generalize dy d_=t at G;generalize me d_.length x=y at K A;have F:(t++y).length≠0:=by rw[ak];omega
  by_cases D:t.length=0
  .have C:t=[]:=qx D;subst C;simp only[u3,xl,rX,bS,go_sem,simprocAttr];refine cw (Aw (s:=bs y) rfl (by rw[al];omega) (by rw[al];exact A)) ?_;refine zn @al ?_;refine⟨rfl,?_⟩;rw[u3,xl,rX,if_neg A,if_neg A];rfl
  .simp only[u3,xl,rX,if_neg D,go_sem,simprocAttr];refine cw (qa (s:=bs y) (j:=4) rfl rfl (by rw[mi,al]) (by decide) (by rw[al];omega)) ?_;refine zp @al @mD @cc ?_;refine⟨by rw[u3,rX,if_neg D];rfl,?_⟩;rw[u3,xl,rX,if_neg F,if_neg F,ak];rfl
 .rintro r h ⟨rfl,rfl⟩
  refine⟨⟨rfl,L,rfl⟩,λv V=>.inl ⟨I _ _,?_⟩⟩;clear l;have G:=Dd w [] (by simpa using e) (by simpa using q);by_cases D:(dy w).length=0
  .have C:dy w=[]:=qx D;rw[C];simp only[u3,xl,rX,bS,go_sem,simprocAttr];refine cw (Qh rfl) (zn @cB ?_);rw[md,if_pos u,E,C];rfl
  .simp only[u3,xl,rX,if_neg D,go_sem,simprocAttr];refine cw (xa (j:=4) (s:=bs (dy w)) (by rw[al];rfl) rfl (by rw[al];exact D) (by rw[al];omega)) ?_;refine zn @cB ?_;rw[md,if_pos u,E]
end Ch
end Abs
end Go.Proofs.YtgafommgcfhkkaaGreatDoor
