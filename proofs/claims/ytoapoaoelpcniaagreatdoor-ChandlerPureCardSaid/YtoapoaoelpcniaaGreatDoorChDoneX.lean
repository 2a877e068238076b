/- CONTRACTS of the program's functions, and laws on what they return. No conditions but those in the theorems' heads. -/
import Derived.Test.YtoapoaoelpcniaaGreatDoorChRd3
set_option linter.all false
open Go.Proofs.Tryz renaming prog->TP
namespace Go.Proofs.YtoapoaoelpcniaaGreatDoor
namespace Abs
namespace Ch
set_option maxRecDepth 4000
def pc (s:ChShop) (b:ChBooks) (ex:List PV) (q:Except Int (ChBooks×List UInt8×Bool)) (r:AEnd) (h':Heap):Prop:=
 match q with
 |.error e=>r=.ret (.p (.tuple [.str .empty,.bool false,.int .i64 e]))/\h'=B7 s b ex
 |.ok (b',a,w)=>r=.ret (.p (.tuple [.str (bs a),.bool w,.int .i64 0]))/\((∃ex',h'=B7 s b' ex')\/(b'.batches=[]/\∃l x,h'=yf s b' l x))
theorem G8{e}{a0 a1 a2 a3 a4 a5 a6}{t}:j3 TP 92 [.ptr 7 1 0 0,.ptr 8 1 0 0,.ptr 9 1 0 0] (.pan (gE e)) (a0::a1::a2::a3::a4::a5::a6::.row 1 [.p (.str .empty)]::.row 1 [.p (.bool false)]::.row 1 [.p (.int .i64 0)]::t)
  (λr u h'=>r=.ret (.p (.tuple []))/\u=.recd (gE e)/\h'=a0::a1::a2::a3::a4::a5::a6::.row 1 [.p (.str .empty)]::.row 1 [.p (.bool false)]::.row 1 [.p (.int .i64 e)]::t):=by
 refine fY (eg (by kernel_rfl) rfl Vf) rfl ?_;simp only[Yk,aL,ol,iS,bC,go_sem,simprocAttr];rfl
theorem N6{i j k}{h}:j3 TP 92 [.ptr i 1 0 0,.ptr j 1 0 0,.ptr k 1 0 0] .ret h (λr u h'=>r=.ret (.p (.tuple []))/\u=.ret/\h'=h):=by
 refine fY (eg (by kernel_rfl) rfl Vf) rfl ?_;simp only[ol,iS,go_sem,simprocAttr]
def tI:Hints:=ec [(12,.low),(13,.low),(14,.cal),(15,.low),(16,.low),(1004014,.sto),(5000000,.slot 2 4),(5000001,.app 7),(6000004,.nop),(6000005,.nop),(6000006,.nop)]
theorem Vd:cC tI Tryz.f53=true:=by kernel_rfl
theorem Ui{P}{Q}{A}(i)(o0 o1 o2 o3 o4 o5 o6 o7):@W ⟨P,tI,.region i ⟨[o0,o1,o2,o3,o4,o5,o6,o7]⟩ true,Q⟩ A=@WD ⟨P,tI,⟨[o0,o1,o2,o3,o4,o5,o6,o7]⟩,[o0,o1,o3,o4,o2,o5,o6,o7],Q⟩ (oU tI [o0,o1,o2,o3,o4,o5,o6,o7] A) (rH tI [o0,o1,o2,o3,o4,o5,o6,o7] A):=by
 rw[Ko];rfl
theorem Qa(h)(x):gA h.length (h++[x])=h.map (λ_=>.dead)++[x]:=by
 unfold gA;apply uS;intro i;rw[E5];rcases rk i h.length with hi|hi|hi
 .rw[aX hi,aX (by simpa using hi),cO]
  cases h[i]? with
  |none=>rfl
  |some o=>simp[B6 hi]
 .subst hi;rw[bW (bB _),bW (by simp)];simp
 .rw[na (by simp;omega),na (by simp;omega)];rfl
theorem Fp{t}(h:t.take 3=D3):t=D3++t.drop 3:=by rw[<-h,lr]
theorem Bb{rs}{R}{T}{e}{a0 a1 a2 a3 a4 a5 a6}{t}(k:cq TP rs R T [] .ret (a0::a1::a2::a3::a4::a5::a6::.row 1 [.p (.str .empty)]::.row 1 [.p (.bool false)]::.row 1 [.p (.int .i64 e)]::t)) :
  cq TP rs R T [.fn 92 [.ptr 7 1 0 0,.ptr 8 1 0 0,.ptr 9 1 0 0]] (.pan (gE e)) (a0::a1::a2::a3::a4::a5::a6::.row 1 [.p (.str .empty)]::.row 1 [.p (.bool false)]::.row 1 [.p (.int .i64 0)]::t):=by
 rw[kK];refine G8.mono λr u h' hr=>?_;obtain⟨rfl,rfl,rfl⟩:=hr;exact k
theorem DK{rs}{R}{T}{i j k}{h}(hk:cq TP rs R T [] .ret h):cq TP rs R T [.fn 92 [.ptr i 1 0 0,.ptr j 1 0 0,.ptr k 1 0 0]] .ret h:=by
 rw[kK];refine N6.mono λr u h' hr=>?_;obtain⟨rfl,rfl,rfl⟩:=hr;exact hk
theorem Ry{P}{H}{ops}{rest}{Q}{o}{hs}{A}{f}{args}{R}(hc:aD P f args A.h R)
  (h1:∀v h',R (.ret v) h'->cL hs h'/\@WD ⟨P,H,ops,rest,Q⟩ hs (A.put o.dst v h')) (h2:∀v h',R (.panic v) h'->∀T,Lt H T A.tmps->@WQ ⟨Q⟩ (.panic v) { A with tmps:=T,h:=h' }):@Yh ⟨P,H,ops,rest,Q,o⟩ hs A (.call f args):=by
 refine hc.mono λr h' hr=>?_
 cases r with
 |ret v=>exact h1 v h' hr
 |panic v=>exact h2 v h' hr
theorem Sq{h h':Heap}(x)(hl:h'.length=h.length):cL (h.map (λ_=>AObj.dead)++[x]) (h'++[x]):=by
 intro id o ho hd;rcases dF id h.length with hi|hi
 .rw[aX (by simpa using hi),cO]at ho
  cases hh:h[id]? with
  |none=>rw[hh]at ho;cases ho
  |some y=>rw[hh]at ho;cases ho;cases hd
 .rw[bW (by simpa using hi)]at ho;rw[bW (by omega),hl];simpa using ho
set_option maxHeartbeats 2000000 in
theorem RR(s)(b)(ex)(n)(hs:SOk s)(hb:BkOk s b n)(line):aD TP 53 [.ptr 2 1 0 0,.p (.str (bs line))] (B7 s b ex) (pc s b ex (eX s b line)):=by
 refine bN (eg (by kernel_rfl) rfl Vd) rfl ?_;simp only[go_sem,simprocAttr];refine cz (XC s b ex n hs hb line) (λv h hr=>?_) (λv h hr=>?_);rotate_left
 .unfold wm at hr
  cases hq:du line with
  |ok c=>rw[hq]at hr;obtain⟨_,_,_,_,_,hr,_⟩:=hr;cases hr
  |error e=>
   rw[hq]at hr;obtain⟨hr,t,h3,rfl⟩:=hr;cases hr;have hd:eX s b line=.error e:=by rw[eX,hq]
   rw[Fp h3];unfold H7;simp only[go_sem,simprocAttr];refine Bb ?_;simp only[go_sem,simprocAttr];exact⟨B7 s b ex,_,rfl,rfl,fE s b ex,trivial,by unfold pc;rw[hd];exact⟨rfl,rfl⟩⟩
 unfold wm at hr
 cases hq:du line with
 |error e=>rw[hq]at hr;cases hr.1
 |ok c=>
  rw[hq]at hr;obtain⟨F,first,caps,t,h3',hv,hh,hbo,hba,hc⟩:=hr;cases hv;have gg:=sO (lo:=h) rfl;have g0:=qK (lo:=h) rfl;have ss:=sN (lo:=h) rfl;have s0:∀t x,(h++t).set h.length x=h++t.set 0 x:=λt x=>ss t 0 x;simp only[g0,s0,go_sem,simprocAttr];have gd:∀(u:Heap),(h.map (λ_=>AObj.dead)++u)[h.length]?=u[0]?:=λu=>qK (lo:=h.map λ_=>.dead) (by simp) u;simp only[Ui,go_sem,simprocAttr];simp only[tI,Qa,bC,gd,go_sem,simprocAttr];have hlen:∀r h',j1 s b ex t (aO s b c) r h'->h'.length=h.length:=λr h' hp=>by
   obtain⟨h1,t1,e1,p1,l1,_⟩:=hp;rw[e1,hh,aB,H2 p1,l1];unfold H7;rw[aB];rfl
  have hd7:∀u:Heap,(h.map (λ_=>AObj.dead)++u)[7]?=some .dead:=λu=>by
   have hl:7<h.length:=by
    rw[hh];unfold H7;rw[Fp h3',aB];show 7<7+_;simp[D3]
   rw[aX (by simpa using hl),cO,dc hl];rfl
  have hfr:=iE hbo hba (hc.mono λr h' hp=>⟨hlen r h' hp,hp⟩) [AObj.row 2 [AV.agg [AV.p (PV.bool c.written),AV.func (Fn.func F) first caps]]];refine Ry hfr (λv h2 hr=>?_) (λv h2 hr T hT=>?_)
  .obtain⟨h3,rfl,hl3,hp⟩:=hr;refine⟨Sq _ hl3,?_⟩;obtain⟨h1,t1,rfl,p1,l1,k1⟩:=hp;rw[h3']at k1;rw[Fp k1]
   cases ha:aO s b c with
   |error e=>rw[ha]at p1;cases p1.1
   |ok q=>
    obtain⟨b',a⟩:=q;rw[ha]at p1;obtain⟨hv,hx⟩:=p1;cases hv;have hd:eX s b line=.ok (b',a,c.written):=by unfold eX;rw[hq];dsimp only;rw[ha]
    rcases hx with⟨ex',rfl⟩|⟨h0,l,x,rfl⟩
    .simp only[tI,hd7,go_sem,simprocAttr];refine DK ?_;simp only[go_sem,simprocAttr];exact⟨B7 s b' ex',_,rfl,rfl,fE s b' ex',trivial,by unfold pc;rw[hd];exact⟨rfl,.inl ⟨_,rfl⟩⟩⟩
    .simp only[tI,hd7,go_sem,simprocAttr];refine DK ?_;simp only[go_sem,simprocAttr];exact⟨yf s b' l x,_,rfl,rfl,Er s b' l x,trivial,by unfold pc;rw[hd];exact⟨rfl,.inr ⟨h0,_,_,rfl⟩⟩⟩
  .obtain⟨h3,rfl,hl3,hp⟩:=hr;obtain⟨h1,t1,rfl,p1,l1,k1⟩:=hp;rw[h3']at k1;rw[Fp k1]
   cases ha:aO s b c with
   |ok q=>rw[ha]at p1;cases p1.1
   |error e=>
    rw[ha]at p1;obtain⟨hv,rfl⟩:=p1;cases hv;have hd:eX s b line=.error e:=by unfold eX;rw[hq];dsimp only;rw[ha]
    have hT4:=hT 4 rfl;have hT5:=hT 5 rfl;have hT6:=hT 6 rfl;simp only[go_sem,simprocAttr]at hT4 hT5 hT6;simp only[go_sem,simprocAttr];refine Bb ?_;simp only[hT4,hT5,hT6,go_sem,simprocAttr];exact⟨B7 s b ex,_,rfl,rfl,fE s b ex,trivial,by unfold pc;rw[hd];exact⟨rfl,rfl⟩⟩
def Mx:Cmd->Prop
 |.lot name _ _ _=>name.length<=20
 |.batch name _ _ _=>name.length<=20
 |_=>True
theorem DG{w v}(h:aW w=some v):v.length<=20:=by
 unfold aW at h;split at h
 .rename_i hn;cases h;unfold nameOk at hn;rw[cG,decide_eq_true_eq,ao]at hn;omega
 .cases h
theorem Sw{v}{ws}{c}(h:cW v ws=some c):Mx c:=by
 unfold cW at h;split at h
 .split at h
  .split at h
   .rename_i h1 _ _ _;cases h;exact DG h1
   .cases h
  .cases h
 split at h
 .split at h
  .split at h
   .rename_i h1 _ _ _;cases h;exact DG h1
   .cases h
  .cases h
 split at h
 .split at h
  .simp only[cg]at h;obtain⟨_,_,rfl⟩:=h;trivial
  .cases h
 split at h
 .split at h
  .simp only[cg]at h;obtain⟨_,_,rfl⟩:=h;trivial
  .cases h
 split at h
 .split at h
  .simp only[cg]at h;obtain⟨_,_,rfl⟩:=h;trivial
  .cases h
 split at h
 .split at h
  .simp only[cg]at h;obtain⟨_,_,rfl⟩:=h;trivial
  .cases h
 split at h
 .split at h
  .split at h
   .cases h;trivial
   .cases h
  .cases h
 split at h
 .split at h
  .cases h;trivial
  .cases h
 split at h
 .split at h
  .split at h
   .cases h;trivial
   .cases h
  .cases h
 split at h
 .split at h
  .split at h
   .cases h;trivial
   .cases h
  .cases h
 split at h
 .split at h
  .cases h;trivial
  .cases h
 .cases h
theorem UZ{l}{c}(h:du l=.ok c):Mx c:=by
 unfold du at h;split at h
 .cases h
 .split at h
  .cases h;trivial
  .split at h
   .cases h
   .split at h
    .rename_i h1;cases h;exact Sw h1
    .cases h
theorem Oz(l):(bs l).size=l.length:=ao l
theorem BkOk.mono{s}{b}{n m}(h:BkOk s b n)(hm:n<=m)(hf:m<=40):BkOk s b m:=
 {h with
  grams:=λx hx=>by have:=h.grams x hx;exact⟨this.1,by omega⟩
  poured:=by have:=h.poured;exact⟨this.1,by omega⟩
  lost:=by have:=h.lost;exact⟨this.1,by omega⟩
  few:=hf }
theorem un{α:Type}{l:List α}{i}{a x}(h:x∈l.set i a):x∈l\/x=a:=O' h
theorem Wt{s}{b b'}{n}{c}{a}(hs:SOk s)(hb:BkOk s b n)(hf:n+1<=40)(hc:Mx c)(h:aO s b c=.ok (b',a)):BkOk s b' (n+1):=by
 have hm:=hb.mono (Nat.le_succ n) hf
 cases c with
 |lot name kind grams rs=>
  simp only[aO]at h;split at h
  .cases h
  split at h
  .cases h
  split at h
  .cases h
  rename_i hg;split at h
  .cases h
  split at h
  .cases h
  rename_i hl;have hg':1<=grams/\grams<=100000:=Classical.byContradiction hg;have hl':b.lots.length<8:=Classical.byContradiction hl;cases h;refine { hm with lots:=?_,grams:=?_,names:=?_,waits:=?_ }
  .simp;omega
  .intro x hx;rcases dr.1 hx with hx|hx
   .exact hm.grams x hx
   .rw[gh.1 hx];dsimp only;omega
  .intro x hx;rcases dr.1 hx with hx|hx
   .exact hm.names x hx
   .rw[gh.1 hx];dsimp only;rw[Oz];exact hc
  .intro x hx;have:=hm.waits x hx
   exact⟨this.1,⟨this.2.1.1,by simp;omega⟩,this.2.2⟩
 |batch name colour lot grams=>
  simp only[aO]at h;split at h
  .cases h
  split at h
  .cases h
  split at h
  .cases h
  rename_i hi;split at h
  .cases h
  rename_i hg;split at h
  .cases h
  rename_i x hx;split at h
  .cases h
  rename_i hx2;split at h
  .cases h
  rename_i hl;have hg':1<=grams/\grams<=100000:=Classical.byContradiction hg;have hl':b.batches.length<7:=Classical.byContradiction hl;have hx':grams<=x.grams:=Classical.byContradiction hx2;have hxg:=hm.grams x (aG hx);have hil:=(aF.1 hx).1;cases h;refine { hm with lots:=?_,batches:=?_,grams:=?_,names:=?_,waits:=?_ }
  .simp;exact hm.lots
  .simp;omega
  .intro y hy;rcases un hy with hy|rfl
   .exact hm.grams y hy
   .dsimp only;omega
  .intro y hy;rcases un hy with hy|rfl
   .exact hm.names y hy
   .exact hm.names x (aG hx)
  .intro y hy;rw[As];rcases dr.1 hy with hy|hy
   .exact hm.waits y hy
   .rw[gh.1 hy];dsimp only
    exact⟨hg',⟨by omega,by omega⟩,by rw[Oz];exact hc⟩
 |drop name=>
  simp only[aO]at h;split at h
  .cases h
  split at h
  .cases h
  rename_i y hy;split at h
  .cases h
  rename_i x hx;have hxg:=hb.grams x (aG hx);have hyw:=hm.waits y (aG hy);cases h;refine { hm with lots:=?_,batches:=?_,grams:=?_,names:=?_,waits:=?_ }
  .simp;exact hm.lots
  .have:=hm.batches;rw[uW];split<;>omega
  .intro z hz;rcases un hz with hz|rfl
   .exact hm.grams z hz
   .dsimp only;omega
  .intro z hz;rcases un hz with hz|rfl
   .exact hm.names z hz
   .exact hm.names x (aG hx)
  .intro z hz;rw[As]
   exact hm.waits z (List.mem_of_mem_eraseIdx hz)
 |plan c=>
  simp only[aO]at h;split at h
  .cases h
  .cases h;exact hm
 |pour c=>
  simp only[aO]at h;split at h
  .cases h
  .rename_i o m hq;have hbf:=rL hs hb hq;have hsum:=rp hb b.batches λx hx=>hx;have hp:=hb.poured;have hl:=hb.lost;have hbl:=hb.batches;have e:j8 b.batches=qO b.batches:=rfl;cases h;refine { hm with batches:=?_,waits:=?_,poured:=?_,lost:=?_ }
   .exact dY _
   .intro x hx;cases hx
   .dsimp only;rw[e];omega
   .dsimp only;omega
 |test text=>
  simp only[aO]at h;split at h
  .cases h
  split at h
  .cases h
  rename_i hl;have hl':b.tests.length<8:=Classical.byContradiction hl;cases h
  exact { hm with tests:=by simp;omega }
 |promise kind=>
  simp only[aO]at h;split at h
  .cases h
  .cases h;exact hm
 |box kind hours=>
  simp only[aO]at h;split at h
  .cases h
  split at h
  .cases h
  split at h
  .cases h
  rename_i hl;have hl':b.boxes.length<20:=Classical.byContradiction hl;cases h
  exact { hm with boxes:=by simp;omega }
 |look=>simp only[aO]at h;cases h;exact hm
 |wick kind a b c d=>
  simp only[aO]at h;split at h
  .cases h
  split at h
  .cases h
  split at h
  .cases h
  split at h
  .cases h
  .cases h;exact hm
 |blend a b c=>
  simp only[aO]at h;split at h
  .cases h
  .cases h;exact hm
 |stock=>simp only[aO]at h;cases h;exact hm
def fe (e:Int):Prop:=0<=e/\e<=12
theorem fe.ite{p}[Decidable p]{a b}(h1:fe a)(h2:fe b):fe (if p then a else b):=by split<;>assumption
theorem VK(s)(c):fe (Wk.fb s c):=by
 unfold Wk.fb;repeat (first|apply fe.ite|exact⟨by decide,by decide⟩)
theorem VE{s}{c}{x}(h:Wk.shopErr s=0):fe (Wk.eG s c x).2:=by
 unfold Wk.eG;split
 .split<;>(unfold fe;dsimp only;decide)
 .dsimp only;unfold Wk.io;rw[if_pos h];split
  .exact VK s c
  .unfold fe;decide
theorem VF(nk)(t):fe (bV nk t):=by
 unfold bV;repeat (first|apply fe.ite|exact⟨by decide,by decide⟩)
theorem CH(nk):∀l,fe (cr nk l)
 |[]=>by unfold fe cr;decide
 |t::r=>by
  rw[cr];split
  .exact CH nk r
  .exact VF nk t
theorem VI{s}{l}{k}(h:(hrCheck s).2.2=0):fe (dz s l k).2:=by
 have hl:fe (hrLook s l k).2:=by
  unfold hrLook;split
  .split
   .unfold fe;decide
   .split
    .unfold fe;dsimp only;decide
    .split<;>(unfold fe;dsimp only;decide)
  .dsimp only;unfold hrTests;rw[if_pos h];split
   .unfold fe;decide
   .exact CH _ _
 unfold dz;split
 .unfold fe;dsimp only;decide
 .exact hl
theorem VH{s}{a}(h:(hrCheck s).2.2=0):fe (aU s a).2:=by
 unfold aU;split
 .split
  .unfold fe;dsimp only;decide
  .split
   .unfold fe;dsimp only;decide
   .split<;>(unfold fe;dsimp only;decide)
 .dsimp only;unfold bS;rw[if_pos h];exact CH _ _
theorem Te(s)(b):fe (Cl.dE s b):=by
 unfold Cl.dE;repeat (first|apply fe.ite|exact⟨by decide,by decide⟩)
theorem D1(s):∀l,fe (Cl.dA s l)
 |[]=>by unfold fe Cl.dA;decide
 |b::r=>by
  rw[Cl.dA];split
  .exact D1 s r
  .exact Te s b
theorem VJ{s}{k}{l}(h:(Cl.clCheck s).2.2=0):fe (Cl.dH s k l):=by
 unfold Cl.dH;rw[if_pos h];split
 .unfold Cl.lf;split
  .exact D1 s l
  .unfold fe;decide
 .unfold fe;decide
theorem VG{t}{rs}{k}(h:(Wx.wxCheck t).2.2=0):fe (Wx.bD t rs k).2.2:=by
 unfold Wx.bD;split
 .split
  .unfold Wx.mi;split
   .unfold fe;dsimp only;decide
   .split
    .unfold fe;dsimp only;decide
    .split<;>(unfold fe;dsimp only;decide)
  .unfold fe;dsimp only;decide
 .dsimp only;unfold Wx.cE;rw[if_pos h];split
  .split<;>(unfold fe;decide)
  .unfold fe;decide
theorem Td{l}{w}(h:zw l=0):fe (cf l w).2.2:=by
 unfold cf;split
 .split<;>(unfold fe;dsimp only;decide)
 .dsimp only;unfold jh;rw[if_pos h];split
  .unfold Nw;repeat (first|apply fe.ite|exact⟨by decide,by decide⟩)
  .unfold fe;decide
theorem uk{e}(h:fe e)(h0:e≠0):1<=e/\e<=12:=by unfold fe at h;omega
theorem Hy{s}{b}{c}{e}(hs:SOk s)(h:jK s b c=.error e):1<=e/\e<=12:=by
 unfold jK at h;dsimp only at h;split at h
 .cases h;decide
 .split at h
  .rename_i h0;cases h;exact uk (VJ hs.colour) h0
  .split at h
   .cases h;decide
   .cases h
theorem Gb{s}{b}{k}{e}(hs:SOk s)(h:fA s b k=.error e):1<=e/\e<=12:=by
 unfold fA at h;dsimp only at h;split at h
 .cases h;decide
 .split at h
  .rename_i h0;cases h;exact uk (VI hs.hour) h0
  .cases h
theorem Ud{s}{b}{c}{e}(hs:SOk s)(h:aO s b c=.error e):1<=e/\e<=12:=by
 cases c with
 |lot name kind grams rs=>
  simp only[aO]at h;split at h
  .cases h;decide
  split at h
  .cases h;decide
  split at h
  .cases h;decide
  split at h
  .rename_i h0;cases h;exact uk (VG hs.wax) h0
  split at h
  .cases h;decide
  .cases h
 |batch name colour lot grams=>
  simp only[aO]at h;split at h
  .cases h;decide
  split at h
  .cases h;decide
  split at h
  .cases h;decide
  split at h
  .cases h;decide
  split at h
  .cases h;decide
  split at h
  .cases h;decide
  split at h
  .cases h;decide
  .cases h
 |drop name=>
  simp only[aO]at h;split at h
  .cases h;decide
  split at h
  .cases h;decide
  split at h
  .cases h;decide
  .cases h
 |plan c=>
  simp only[aO]at h;split at h
  .rename_i h0;cases h;exact Hy hs h0
  .cases h
 |pour c=>
  simp only[aO]at h;split at h
  .rename_i h0;cases h;exact Hy hs h0
  .cases h
 |test text=>
  simp only[aO]at h;split at h
  .rename_i h0;cases h;exact uk (VH hs.hour) h0
  split at h
  .cases h;decide
  .cases h
 |promise kind=>
  simp only[aO]at h;split at h
  .rename_i h0;cases h;exact Gb hs h0
  .cases h
 |box kind hours=>
  simp only[aO]at h;split at h
  .rename_i h0;cases h;exact Gb hs h0
  split at h
  .cases h;decide
  split at h
  .cases h;decide
  .cases h
 |look=>simp only[aO]at h;cases h
 |wick kind a b c d=>
  simp only[aO]at h;split at h
  .cases h;decide
  split at h
  .cases h;decide
  split at h
  .rename_i h0;cases h;exact uk (VE hs.wick) h0
  split at h
  .cases h;decide
  .cases h
 |blend a b c=>
  simp only[aO]at h;split at h
  .rename_i h0;cases h;exact uk (Td hs.blend) h0
  .cases h
 |stock=>simp only[aO]at h;cases h
def bi (s:ChShop):Int×Int×Int:=
 if(Wx.wxCheck s.wax).2.2=0 then
  if(bdCheck s.blend).2.2=0 then
   if(Wk.cp s.wick).2.2=0 then
    if(hrCheck s.hour).2.2=0 then
     if(Cl.clCheck s.colour).2.2=0 then(0,0,0) else(5,0,(Cl.clCheck s.colour).2.2)
    else(4,0,(hrCheck s.hour).2.2)
   else(3,0,(Wk.cp s.wick).2.2)
  else(2,0,(bdCheck s.blend).2.2)
 else(1,0,(Wx.wxCheck s.wax).2.2)
theorem sa{s}(h:(bi s).2.2=0):SOk s:=by
 unfold bi at h;split at h
 .rename_i h0;split at h
  .rename_i h1;split at h
   .rename_i h2;split at h
    .rename_i h3;split at h
     .rename_i h4;exact⟨h0,h1,h2,h3,h4⟩
     .contradiction
    .contradiction
   .contradiction
  .contradiction
 .contradiction
theorem Hq(s):af TP 91 [s.pv] (al (bi s)):=by
 refine aa (ah Tryz.func91 rfl (by kernel_rfl)) rfl ?_;simp only[ChShop.cells,go_sem,simprocAttr];refine ae (Wx.qJ s.wax) rfl ?_;simp only[al,go_sem,simprocAttr];refine ae (Ai s.blend) rfl ?_;simp only[al,go_sem,simprocAttr];refine ae (Wk.qJ s.wick) rfl ?_;simp only[al,go_sem,simprocAttr];refine ae (Hn s.hour) rfl ?_;simp only[al,go_sem,simprocAttr];refine ae (Cl.qJ s.colour) rfl ?_;simp only[al,go_sem,simprocAttr];refine br ?_;by_cases h0:(Wx.wxCheck s.wax).2.2=0;rotate_left
 .have hb:((Wx.wxCheck s.wax).2.2 != 0)=true:=by simpa using h0
  have hs:bi s=(1,0,(Wx.wxCheck s.wax).2.2):=by unfold bi;rw[if_neg h0]
  simp only[hb,hs,al,go_sem,simprocAttr]
 simp only[h0,go_sem,simprocAttr];refine br ?_;by_cases h1:(bdCheck s.blend).2.2=0;rotate_left
 .have hb:((bdCheck s.blend).2.2 != 0)=true:=by simpa using h1
  have hs:bi s=(2,0,(bdCheck s.blend).2.2):=by unfold bi;rw[if_pos h0,if_neg h1]
  simp only[hb,hs,al,go_sem,simprocAttr]
 simp only[h1,go_sem,simprocAttr];refine br ?_;by_cases h2:(Wk.cp s.wick).2.2=0;rotate_left
 .have hb:((Wk.cp s.wick).2.2 != 0)=true:=by simpa using h2
  have hs:bi s=(3,0,(Wk.cp s.wick).2.2):=by unfold bi;rw[if_pos h0,if_pos h1,if_neg h2]
  simp only[hb,hs,al,go_sem,simprocAttr]
 simp only[h2,go_sem,simprocAttr];refine br ?_;by_cases h3:(hrCheck s.hour).2.2=0;rotate_left
 .have hb:((hrCheck s.hour).2.2 != 0)=true:=by simpa using h3
  have hs:bi s=(4,0,(hrCheck s.hour).2.2):=by unfold bi;rw[if_pos h0,if_pos h1,if_pos h2,if_neg h3]
  simp only[hb,hs,al,go_sem,simprocAttr]
 simp only[h3,go_sem,simprocAttr];refine br ?_;by_cases h4:(Cl.clCheck s.colour).2.2=0;rotate_left
 .have hb:((Cl.clCheck s.colour).2.2 != 0)=true:=by simpa using h4
  have hs:bi s=(5,0,(Cl.clCheck s.colour).2.2):=by unfold bi;rw[if_pos h0,if_pos h1,if_pos h2,if_pos h3,if_neg h4]
  simp only[hb,hs,al,go_sem,simprocAttr]
 simp only[h4,go_sem,simprocAttr];refine br ?_;have hs:bi s=(0,0,0):=by unfold bi;rw[if_pos h0,if_pos h1,if_pos h2,if_pos h3,if_pos h4]
 simp only[hs,al,go_sem,simprocAttr]
theorem IV(s):af TP 25 [s.pv] (al (bi s)):=by
 refine aa (ah Tryz.func25 rfl (by kernel_rfl)) rfl ?_;simp only[ChShop.cells,go_sem,simprocAttr];refine ae (Wx.nW s.wax) rfl ?_;simp only[al,go_sem,simprocAttr];refine ae (IX s.blend) rfl ?_;simp only[al,go_sem,simprocAttr];refine ae (Wk.nW s.wick) rfl ?_;simp only[al,go_sem,simprocAttr];refine ae (IU s.hour) rfl ?_;simp only[al,go_sem,simprocAttr];refine ae (Cl.nW s.colour) rfl ?_;simp only[al,go_sem,simprocAttr];refine br ?_;by_cases h0:(Wx.wxCheck s.wax).2.2=0;rotate_left
 .have hb:((Wx.wxCheck s.wax).2.2 != 0)=true:=by simpa using h0
  have hs:bi s=(1,0,(Wx.wxCheck s.wax).2.2):=by unfold bi;rw[if_neg h0]
  simp only[hb,hs,al,go_sem,simprocAttr]
 simp only[h0,go_sem,simprocAttr];refine br ?_;by_cases h1:(bdCheck s.blend).2.2=0;rotate_left
 .have hb:((bdCheck s.blend).2.2 != 0)=true:=by simpa using h1
  have hs:bi s=(2,0,(bdCheck s.blend).2.2):=by unfold bi;rw[if_pos h0,if_neg h1]
  simp only[hb,hs,al,go_sem,simprocAttr]
 simp only[h1,go_sem,simprocAttr];refine br ?_;by_cases h2:(Wk.cp s.wick).2.2=0;rotate_left
 .have hb:((Wk.cp s.wick).2.2 != 0)=true:=by simpa using h2
  have hs:bi s=(3,0,(Wk.cp s.wick).2.2):=by unfold bi;rw[if_pos h0,if_pos h1,if_neg h2]
  simp only[hb,hs,al,go_sem,simprocAttr]
 simp only[h2,go_sem,simprocAttr];refine br ?_;by_cases h3:(hrCheck s.hour).2.2=0;rotate_left
 .have hb:((hrCheck s.hour).2.2 != 0)=true:=by simpa using h3
  have hs:bi s=(4,0,(hrCheck s.hour).2.2):=by unfold bi;rw[if_pos h0,if_pos h1,if_pos h2,if_neg h3]
  simp only[hb,hs,al,go_sem,simprocAttr]
 simp only[h3,go_sem,simprocAttr];refine br ?_;by_cases h4:(Cl.clCheck s.colour).2.2=0;rotate_left
 .have hb:((Cl.clCheck s.colour).2.2 != 0)=true:=by simpa using h4
  have hs:bi s=(5,0,(Cl.clCheck s.colour).2.2):=by unfold bi;rw[if_pos h0,if_pos h1,if_pos h2,if_pos h3,if_neg h4]
  simp only[hb,hs,al,go_sem,simprocAttr]
 simp only[h4,go_sem,simprocAttr];refine br ?_;have hs:bi s=(0,0,0):=by unfold bi;rw[if_pos h0,if_pos h1,if_pos h2,if_pos h3,if_pos h4]
 simp only[hs,al,go_sem,simprocAttr]
end Ch
theorem eQ{P}{H}{Q}{x}{A}(live)(i sz s)(u v)(hi:A.bs<=i)(hb:A.bs<=A.h.length)(hx:A.h[i]?=some (.row s [u]))(hn:A4 A.h.length u v)(hl:∀t,t∈live->below A.h.length (A.tmps t))(ho:∀o,o∈A.h->bm A.h.length o)(hd:A.df=[])
  (k:@W ⟨P,H,.loop x,Q⟩ { n:=A.n,bs:=A.bs,rc:=A.rc,tmps:=cX (bY A.tmps live []),h:=A.h.set i (.row s [v])++[.row sz []],df:=A.df }):@W ⟨P,H,.loop x,Q⟩ A:=by
 have hil:i<A.h.length:=(aF.1 hx).1
 have hw:=u0 (P:=P) (A:={ A with h:=A.h++[.row sz []] }) (T:=cX (bY A.tmps live [])) A.h.length i sz s [u] [v] hb hi (by simp) (by omega)
  (by rw[aX hil];exact hx) rfl (λn x y h1 h2=>by
   match n,h1,h2 with
   |0,h1,h2=>cases h1;cases h2;exact hn
   |n+1,h1,h2=>simp at h1) (λt=>by
   rcases rC (T:=A.tmps) live t with⟨h1,h2⟩|h1
   .exact .inl ⟨h1,Bo (hl t h2)⟩
   .exact .inr h1) (λid o hid ho'=>by
   have hlt:id<A.h.length:=by
    have:=(aF.1 ho').1;simp at this;omega
   rw[aX hlt]at ho'
   exact DD (ho o (aG ho'))) hd
 have e:((A.h++[AObj.row sz []]).set A.h.length (.row sz [])).set i (.row s [v])=A.h.set i (.row s [v])++[.row sz []]:=by
  rw[uU _ _ (bB _),wF];show (A.h++[AObj.row sz []]).set i _=_;rw[Aw _ _ hil]
 refine fm (FE sz) (fm hw ?_);dsimp only;rw[e];exact k
theorem Ap{P}{Q}{σ}{V:σ->Prop}{I}{μ}{s0}{A}(live)(k i sz s)(u v)(hk:A.bs<=k)(hi:A.bs<=i)(hkl:k<A.h.length)(hik:i≠k)(hx:A.h[i]?=some (.row s [u]))(hn:A4 k u v)
  (hl:∀t,t∈live->sC (·≠k) (A.tmps t)) (ho:∀o,o∈A.h->qu (·≠k) o) (hd:A.df=[])
  (kk:@WQ ⟨ep (gu P V I μ s0) Q⟩ .normal { n:=A.n,bs:=A.bs,rc:=A.rc,tmps:=cX (bY A.tmps live []),h:=(A.h.set k (.row sz [])).set i (.row s [v]),df:=A.df }):@WQ ⟨ep (gu P V I μ s0) Q⟩ .normal A:=by
 refine Um (u0 (T:=cX (bY A.tmps live [])) k i sz s [u] [v] hk hi hkl hik hx rfl (λn x y h1 h2=>by
   match n,h1,h2 with
   |0,h1,h2=>cases h1;cases h2;exact hn
   |n+1,h1,h2=>simp at h1) (λt=>by
   rcases rC (T:=A.tmps) live t with⟨h1,h2⟩|h1
   .exact .inl ⟨h1,hl t h2⟩
   .exact .inr h1) (λid o hid ho'=>ho o (aG ho')) hd) kk
theorem te{P}{A}(id):f7 P A { A with h:=A.h.set id .dead }:=
 ⟨rfl,rfl,λM0 S0 b cs0 m a w hr=>⟨gM (λi=>i==id) m,by
  rw[<-GK]
  exact hr.ahead (m':=gM (λi=>i==id) m) (h':=eU (λi=>i==id) A.h) (w':=w) (CF ⟨m,A.h,w⟩ (λi=>i==id) _) (z7 hr.hok _)⟩⟩
theorem fG{k}{u v}{cs}(j)(hu:u.cells=some cs)(hv:v.cells=some (cs.set j (.slice k 0 0 0)))(hj:cs[j]?=some (.p .nilslice)):A4 k u v:=by
 refine⟨cs,_,hu,hv,by simp,λi c d h1 h2=>?_⟩;by_cases hi:j=i
 .subst hi;rw[jf (aF.1 hj).1]at h2;cases h2;rw[hj]at h1;cases h1;exact .inr ⟨rfl,rfl⟩
 .rw[eo hi,h1]at h2;cases h2;exact .inl rfl
namespace Ch
set_option maxRecDepth 4000
def aJ:ChBooks:=⟨[],[],[],[],0,0⟩
def Cu (s:ChShop):AObj:=.row 23 [.p (.agg ([.nilslice,.nilslice,.nilslice,.nilslice,.int .i64 0,.int .i64 0]++s.cells))]
theorem LJ(s)(a):aD TP 52 [.p s.pv] [a] (λr h'=>r=.ret (.tuple [.ptr 2 1 0 0,.p (.int .i64 (bi s).2.2)])/\h'=[a,.row 17 [.p s.pv],Cu s]):=by
 refine aC (ah Tryz.func52 rfl (by kernel_rfl)) rfl ?_;simp only[go_sem,simprocAttr];refine ae (Hq s) rfl ?_;simp only[al,Cu,go_sem,simprocAttr]
def eR (s:ChShop) (q:ChBooks×List (List UInt8)×List (List UInt8)) (l:List UInt8):ChBooks×List (List UInt8)×List (List UInt8):=
 match eX s q.1 l with
 |.error e=>(q.1,q.2.1++[joinL [Az,be e]],q.2.2)
 |.ok (b,a,w)=>(b,q.2.1++[a],if w=true then q.2.2++[l] else q.2.2)
def bM (s:ChShop) (ls:List (List UInt8)):ChBooks×List (List UInt8)×List (List UInt8):=ls.foldl (eR s) (aJ,[],[])
def aY (s:ChShop) (ls:List (List UInt8)):Int:=if(bi s).2.2=0 then(if 40<ls.length then 3 else 0) else(bi s).2.2
theorem Px(s)(q)(l):(eR s q l).2.1.length=q.2.1.length+1/\(eR s q l).2.2.length<=q.2.2.length+1:=by
 unfold eR;split
 .simp
 .dsimp only;refine⟨by simp,?_⟩;split<;>simp
theorem GV(s):∀(d:List (List UInt8)) (q),(d.foldl (eR s) q).2.1.length=q.2.1.length+d.length/\(d.foldl (eR s) q).2.2.length<=q.2.2.length+d.length
 |[],q=>⟨rfl,bB _⟩
 |l::d,q=>by
  have h1:=Px s q l;have h2:=GV s d (eR s q l);rw[nd,cu];omega
theorem Jv{s}{q}{l}{n}(hs:SOk s)(hb:BkOk s q.1 n)(hn:n+1<=40):BkOk s (eR s q l).1 (n+1):=by
 unfold eR;split
 .exact hb.mono (Nat.le_succ n) hn
 .rename_i b a w hd;dsimp only;unfold eX at hd;split at hd
  .cases hd
  .rename_i c hc;split at hd
   .cases hd
   .rename_i b' a' ha;cases hd;exact Wt hs hb hn (UZ hc) ha
theorem J0{s}(hs:SOk s):∀(d:List (List UInt8)) (q) (n),BkOk s q.1 n->n+d.length<=40->BkOk s (d.foldl (eR s) q).1 (n+d.length)
 |[],q,n,h,_=>h
 |l::d,q,n,h,hn=>by
  rw[cu]at hn |-;have h1:=Jv (l:=l) hs h (by omega);have h2:=J0 hs d (eR s q l) (n+1) h1 (by omega);rw[nd,show n+(d.length+1)=n+1+d.length by omega];exact h2
theorem RO(s):BkOk s aJ 0:=
 ⟨by decide,by decide,by decide,by decide,λx hx=>(by cases hx),λx hx=>(by cases hx),λx hx=>(by cases hx),by decide,by decide,by decide⟩
theorem Jy(s)(d):(bM s d).2.1.length=d.length/\(bM s d).2.2.length<=d.length:=by
 have:=GV s d (aJ,[],[]);simpa[bM]using this
theorem wZ{s}(hs:SOk s){d}(hd:d.length<=40):BkOk s (bM s d).1 d.length:=by
 have:=J0 hs d (aJ,[],[]) 0 (RO s) (by omega);rw[iq]at this;exact this
theorem Ky(s)(b)(l)(ex):∀o,o∈yf s b l ex->qu (·≠4) o:=by
 intro o ho;simp only[yf,ci,iL,or_false]at ho;rcases ho with rfl|rfl|rfl|rfl|rfl|rfl|rfl
 .trivial
 .trivial
 .intro x hx;simp only[gh]at hx;subst hx;intro c hc;simp only[ChShop.cells,bL,ck,dr,ci,iL,or_false]at hc;rcases hc with(rfl|rfl|rfl|rfl|rfl|rfl)|hc
  .show 3≠4;decide
  .trivial
  .show 5≠4;decide
  .show 6≠4;decide
  .trivial
  .trivial
  .rcases hc with rfl|rfl|rfl|rfl|rfl|rfl|rfl|rfl|rfl|rfl|rfl|rfl|rfl|rfl|rfl|rfl|rfl<;>trivial
 .intro x hx;obtain⟨y,_,rfl⟩:=cH.1 hx;trivial
 .intro x hx;rcases dr.1 hx with hx|hx
  .obtain⟨y,_,rfl⟩:=cH.1 hx;trivial
  .obtain⟨y,_,rfl⟩:=cH.1 hx;trivial
 .intro x hx;obtain⟨y,_,rfl⟩:=cH.1 hx;trivial
 .intro x hx;obtain⟨y,_,rfl⟩:=cH.1 hx;trivial
theorem F2{s}{b}{l}{ex}(u v)(hu:∀x,x∈u->sC (·≠4) x)(hv:∀x,x∈v->sC (·≠4) x):∀o,o∈yf s b l ex++[.row 1 u,.row 1 v]->qu (·≠4) o:=by
 intro o ho;rcases dr.1 ho with ho|ho
 .exact Ky s b l ex o ho
 .simp only[ci,iL,or_false]at ho;rcases ho with rfl|rfl
  .exact hu
  .exact hv
theorem Eo{s}{b}{ex}{q}{r}{h'}(h:pc s b ex q r h'):h'.length=7:=by
 unfold pc at h;split at h
 .rw[h.2];rfl
 .rcases h.2 with⟨_,h⟩|⟨_,_,_,h⟩<;>rw[h]<;>rfl
theorem Sv{l}{e}(h:du l=.error e):1<=e/\e<=12:=by
 unfold du at h;split at h
 .cases h;decide
 .split at h
  .cases h
  .split at h
   .cases h;decide
   .split at h
    .cases h
    .cases h;decide
theorem Qz{s}{b}{l}{e}(hs:SOk s)(h:eX s b l=.error e):1<=e/\e<=12:=by
 unfold eX at h;split at h
 .rename_i h1;cases h;exact Sv h1
 .split at h
  .rename_i h1;cases h;exact Ud hs h1
  .cases h
def bp (l:List (List UInt8)):PV:=.slice 1 (l.map λx=>.str (bs x)) false
def lI (s:ChShop) (ls:List (List UInt8)):PV:=
 if aY s ls=0 then .tuple [.ptr 23 [.agg ((bM s ls).1.cells++s.cells)] 0 0,bp (bM s ls).2.1,bp (bM s ls).2.2,.int .i64 0]
 else .tuple [.nilptr,.nilslice,.nilslice,.int .i64 (aY s ls)]
def fZ (s:ChShop) (l:List AV):AV:=.agg (l++[.p (.int .i64 0),.p (.int .i64 0)]++s.cells.map .p)
set_option maxHeartbeats 2000000 in
theorem LV(s)(ls):af TP 24 [s.pv,bp ls] (lI s ls):=by
 refine dj (ah Tryz.func24 rfl (by kernel_rfl)) rfl ?_;simp only[go_sem,simprocAttr];refine cz (LJ s _) (λv h hr=>?_) (λv h hr=>by cases hr.1);obtain⟨hv,rfl⟩:=hr;cases hv;simp only[bp,go_sem,simprocAttr];by_cases hc:(bi s).2.2=0;rotate_left
 .have hc':((bi s).2.2==0)=false:=by simpa using hc
  have hcn:((bi s).2.2 != 0)=true:=by simpa using hc
  have he:aY s ls=(bi s).2.2:=by rw[aY,if_neg hc]
  simp only[hc',hcn,lI,he,if_neg hc,go_sem,simprocAttr]
 by_cases h40:40<ls.length
 .have hd:decide ((40:Int)<(ls.length:Int))=true:=decide_eq_true (by omega);have he:aY s ls=3:=by rw[aY,if_pos hc,if_pos h40]
  simp only[hc,hd,lI,he,go_sem,simprocAttr]
 have hd:decide ((40:Int)<(ls.length:Int))=false:=decide_eq_false (by omega);have he:aY s ls=0:=by rw[aY,if_pos hc,if_neg h40]
 have hs:=sa hc;have hl:ls.length<1000000000:=by omega
 simp only[hc,hd,go_sem,simprocAttr];refine eQ [4,28,29,5,6,30] 2 4 23 _ (fZ s [.slice 3 0 0 0,.p .nilslice,.p .nilslice,.p .nilslice]) (dY _) (dY _) rfl (fG 0 rfl rfl rfl) ?_ ?_ rfl ?_
 .simp only[go_sem,simprocAttr]
 .simp only[Cu,go_sem,simprocAttr]
 simp only[go_sem,simprocAttr];refine eQ [4,28,29,5,6,30] 2 4 23 _ (fZ s [.slice 3 0 0 0,.slice 4 0 0 0,.p .nilslice,.p .nilslice]) (dY _) (dY _) rfl (fG 1 rfl rfl rfl) ?_ ?_ rfl ?_
 .simp only[go_sem,simprocAttr]
 .simp only[fZ,go_sem,simprocAttr]
 simp only[go_sem,simprocAttr];refine eQ [4,28,29,5,6,30] 2 3 23 _ (fZ s [.slice 3 0 0 0,.slice 4 0 0 0,.slice 5 0 0 0,.p .nilslice]) (dY _) (dY _) rfl (fG 2 rfl rfl rfl) ?_ ?_ rfl ?_
 .simp only[go_sem,simprocAttr]
 .simp only[fZ,go_sem,simprocAttr]
 simp only[go_sem,simprocAttr];refine eQ [4,28,29,5,6,30] 2 2 23 _ (fZ s [.slice 3 0 0 0,.slice 4 0 0 0,.slice 5 0 0 0,.slice 6 0 0 0]) (dY _) (dY _) rfl (fG 3 rfl rfl rfl) ?_ ?_ rfl ?_
 .simp only[go_sem,simprocAttr]
 .simp only[fZ,go_sem,simprocAttr]
 simp only[go_sem,simprocAttr];refine cl 5 1 (by simp only[go_sem,simprocAttr]) ?_;simp only[go_sem,simprocAttr];refine cl 6 1 (by simp only[go_sem,simprocAttr]) ?_;refine fm (te 0) (fm (te 1) ?_);simp only[fZ,go_sem,simprocAttr];have hrun:∀d,(bM s d).2.1.length=d.length/\(bM s d).2.2.length<=d.length:=λd=>Jy s d;have hbk:∀d:List (List UInt8),d.length<=40->BkOk s (bM s d).1 d.length:=λd hd=>wZ hs hd
 refine aQ [4,28,29] ls hl (τ:=List PV) (λdone rest _=>True) (λdone ex=>[(5,.slice 7 (bM s done).2.1.length 0 (bM s done).2.1.length),(6,.slice 8 (bM s done).2.2.length 0 (bM s done).2.2.length),(30,.p (.int .i64 done.length))])
  (λdone ex=>B7 s (bM s done).1 ex++[.row 1 ((bM s done).2.1.map pp),.row 1 ((bM s done).2.2.map pp)]) [] trivial ?_ ?_ ?_
 .simp only[bM,aJ,List.foldl_nil,cw,ck,bC,go_sem,simprocAttr]
 .intro ex _;have t1:∀l:List (List UInt8),List.take l.length (l.map λx=>PV.str (bs x))=l.map λx=>PV.str (bs x):=λl=>eD (by simp);have hres:lI s ls=.tuple [.ptr 23 [.agg ((bM s ls).1.cells++s.cells)] 0 0,bp (bM s ls).2.1,bp (bM s ls).2.2,.int .i64 0]:=by rw[lI,if_pos he]
  simp only[oP,t1,nB,hres,bp,go_sem,simprocAttr]
 .intro done l r ex e1 _ hx hlt hnx;have hdl:done.length+1<=40:=by
   have:=congrArg List.length e1;simp at this;omega
  obtain⟨r1,r2⟩:=hrun done;have hst:bM s (done++[l])=eR s (bM s done) l:=by rw[bM,B8];rfl
  have hDn:=RR s (bM s done).1 ex done.length hs (hbk done (by omega)) l;have hfr:=iE (fE s (bM s done).1 ex) (args:=[.ptr 2 1 0 0,.p (.str (bs l))]) (by simp only[go_sem,simprocAttr]) (hDn.mono λr h' hr=>⟨Eo hr,hr⟩) [.row 1 ((bM s done).2.1.map pp),.row 1 ((bM s done).2.2.map pp)];have hrm1:(bM s done).2.1.length+1<=aw:=by simp only[aw];omega
  have hrm2:(bM s done).2.2.length+1<=aw:=by simp only[aw];omega
  simp only[hlt,hx,go_sem,simprocAttr];refine cz hfr (λv h hr=>?_) (λv h hr=>?_);rotate_left
  .obtain⟨h',_,_,hr⟩:=hr;unfold pc at hr;split at hr<;>cases hr.1
  obtain⟨h',rfl,_,hr⟩:=hr;unfold pc at hr
  cases hdn:eX s (bM s done).1 l with
  |error e=>
   rw[hdn]at hr;obtain⟨hv,rfl⟩:=hr;cases hv;have he:=Qz hs hdn;have hs2:eR s (bM s done) l=((bM s done).1,(bM s done).2.1++[joinL [Az,be e]],(bM s done).2.2):=by rw[eR,hdn]
   have hne:(e != 0)=true:=by rw[bne_iff_ne];omega
   have hsd:=qa [.s Az,.n e] true (by simp) (λw hw=>by
    simp only[ci,iL,or_false]at hw;rcases hw with rfl|rfl
    .show (2:Nat)<=1000;decide
    .exact⟨by omega,by omega⟩)
   simp only[hne,go_sem,simprocAttr];refine ae hsd rfl ?_;simp only[hrm1,go_sem,simprocAttr];refine ak e1 ex trivial ?_
   simp only[hnx,hst,hs2,aB,bn,cj,bL,ck,Word.ws,mF,zA,bC,go_sem,simprocAttr]
  |ok q=>
   obtain⟨b',a,w⟩:=q;rw[hdn]at hr;obtain⟨hv,hx2⟩:=hr;cases hv;have hs2:eR s (bM s done) l=(b',(bM s done).2.1++[a],if w=true then(bM s done).2.2++[l] else(bM s done).2.2):=by rw[eR,hdn]
   rcases hx2 with⟨ex',rfl⟩|⟨h0,l0,x0,rfl⟩
   .cases w
    .simp only[hrm1,go_sem,simprocAttr];refine ak e1 ex' trivial ?_;simp only[hnx,hst,hs2,aB,bn,cj,bL,ck,go_sem,simprocAttr]
    .simp only[hrm1,hrm2,go_sem,simprocAttr];refine ak e1 ex' trivial ?_;simp only[hnx,hst,hs2,aB,bn,cj,bL,ck,go_sem,simprocAttr]
   .cases w
    .simp only[hrm1,go_sem,simprocAttr];refine Ap [4,28,29,5,6,30] 4 2 4 23 _ (.agg ([.slice 3 b'.lots.length 0 b'.lots.length,.slice 4 0 0 0,.slice 5 b'.tests.length 0 b'.tests.length,.slice 6 b'.boxes.length 0 b'.boxes.length,.p (.int .i64 b'.poured),.p (.int .i64 b'.lost)]++s.cells.map .p)) (dY _) (dY _) (by show 4<9;decide) (by decide) rfl (fG 1 rfl rfl rfl) ?_ (F2 _ _ ?_ ?_) rfl ?_
     .simp only[sC,tZ,sB,qV,go_sem,simprocAttr]
     .intro x hx;rcases dr.1 hx with hx|hx
      .obtain⟨y,_,rfl⟩:=cH.1 hx;trivial
      .rw[gh.1 hx];trivial
     .intro x hx;obtain⟨y,_,rfl⟩:=cH.1 hx;trivial
     simp only[go_sem,simprocAttr];refine ak e1 [] trivial ?_;simp only[hnx,hst,hs2,h0,aB,bn,cj,bL,ck,cw,bC,go_sem,simprocAttr]
    .simp only[hrm1,hrm2,go_sem,simprocAttr];refine Ap [4,28,29,5,6,30] 4 2 4 23 _ (.agg ([.slice 3 b'.lots.length 0 b'.lots.length,.slice 4 0 0 0,.slice 5 b'.tests.length 0 b'.tests.length,.slice 6 b'.boxes.length 0 b'.boxes.length,.p (.int .i64 b'.poured),.p (.int .i64 b'.lost)]++s.cells.map .p)) (dY _) (dY _) (by show 4<9;decide) (by decide) rfl (fG 1 rfl rfl rfl) ?_ (F2 _ _ ?_ ?_) rfl ?_
     .simp only[sC,tZ,sB,qV,go_sem,simprocAttr]
     .intro x hx;rcases dr.1 hx with hx|hx
      .obtain⟨y,_,rfl⟩:=cH.1 hx;trivial
      .rw[gh.1 hx];trivial
     .intro x hx;rcases dr.1 hx with hx|hx
      .obtain⟨y,_,rfl⟩:=cH.1 hx;trivial
      .rw[gh.1 hx];trivial
     simp only[go_sem,simprocAttr];refine ak e1 [] trivial ?_;simp only[hnx,hst,hs2,h0,aB,bn,cj,bL,ck,cw,bC,go_sem,simprocAttr]
end Ch
end Abs
end Go.Proofs.YtoapoaoelpcniaaGreatDoor
