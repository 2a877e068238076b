/- CONTRACTS of the program's functions, and laws on what they return. No conditions but those in the theorems' heads. -/
import Derived.Test.YtnjiadikeacfaaaGreatDoorChRd3
set_option linter.all false
open Go.Proofs.Tryz renaming prog->TP
namespace Go.Proofs.YtnjiadikeacfaaaGreatDoor
namespace Abs
namespace Ch
set_option maxRecDepth 4000
def nH (s:ChShop) (b:ChBooks) (ex:List PV) (q:Except Int (ChBooks×List UInt8×Bool)) (r:AEnd) (h':Heap):Prop:=
 match q with
 |.error e=>r=.ret (.p (.tuple [.str .empty,.bool false,.int .i64 e]))/\h'=B7 s b ex
 |.ok (b',a,w)=>r=.ret (.p (.tuple [.str (bs a),.bool w,.int .i64 0]))/\((∃ex',h'=B7 s b' ex')\/(b'.batches=[]/\∃l x,h'=wu s b' l x))
theorem Fp{e}{a0 a1 a2 a3 a4 a5 a6}{t}:ju TP 97 [.ptr 7 1 0 0,.ptr 8 1 0 0,.ptr 9 1 0 0] (.pan (f9 e)) (a0::a1::a2::a3::a4::a5::a6::.row 1 [.p (.str .empty)]::.row 1 [.p (.bool false)]::.row 1 [.p (.int .i64 0)]::t)
  (λr u h'=>r=.ret (.p (.tuple []))/\u=.recd (f9 e)/\h'=a0::a1::a2::a3::a4::a5::a6::.row 1 [.p (.str .empty)]::.row 1 [.p (.bool false)]::.row 1 [.p (.int .i64 e)]::t):=by
 refine fF (eA (by kernel_rfl) rfl Tk) rfl ?_;simp only[Wi,aV,mZ,iv,bw,go_sem,simprocAttr];rfl
theorem L'{i j k}{h}:ju TP 97 [.ptr i 1 0 0,.ptr j 1 0 0,.ptr k 1 0 0] .ret h (λr u h'=>r=.ret (.p (.tuple []))/\u=.ret/\h'=h):=by
 refine fF (eA (by kernel_rfl) rfl Tk) rfl ?_;simp only[mZ,iv,go_sem,simprocAttr]
def r9:Hints:=eu [(12,.low),(13,.low),(14,.cal),(15,.low),(16,.low),(1004014,.sto),(5000000,.slot 2 4),(5000001,.app 7),(6000004,.nop),(6000005,.nop),(6000006,.nop)]
theorem Ti:cv r9 Tryz.f48=true:=by kernel_rfl
theorem Sc{P}{Q}{A}(i)(o0 o1 o2 o3 o4 o5 o6 o7):@W ⟨P,r9,.region i ⟨[o0,o1,o2,o3,o4,o5,o6,o7]⟩ true,Q⟩ A=@WD ⟨P,r9,⟨[o0,o1,o2,o3,o4,o5,o6,o7]⟩,[o0,o1,o3,o4,o2,o5,o6,o7],Q⟩ (nA r9 [o0,o1,o2,o3,o4,o5,o6,o7] A) (p9 r9 [o0,o1,o2,o3,o4,o5,o6,o7] A):=by
 rw[Iw];rfl
theorem Oc(h)(x):fY h.length (h++[x])=h.map (λ_=>.dead)++[x]:=by
 unfold fY;apply qu;intro i;rw[AH];rcases IU i h.length with hi|hi|hi
 .rw[aZ hi,aZ (by simpa using hi),cz]
  cases h[i]? with
  |none=>rfl
  |some o=>simp[wy hi]
 .subst hi;rw[cm (bi _),cm (by simp)];simp
 .rw[wz (by simp;omega),wz (by simp;omega)];rfl
theorem DK{t}(h:t.take 3=D3):t=D3++t.drop 3:=by rw[<-h,rC]
theorem zM{rs}{R}{T}{e}{a0 a1 a2 a3 a4 a5 a6}{t}(k:cg TP rs R T [] .ret (a0::a1::a2::a3::a4::a5::a6::.row 1 [.p (.str .empty)]::.row 1 [.p (.bool false)]::.row 1 [.p (.int .i64 e)]::t)) :
  cg TP rs R T [.fn 97 [.ptr 7 1 0 0,.ptr 8 1 0 0,.ptr 9 1 0 0]] (.pan (f9 e)) (a0::a1::a2::a3::a4::a5::a6::.row 1 [.p (.str .empty)]::.row 1 [.p (.bool false)]::.row 1 [.p (.int .i64 0)]::t):=by
 rw[jY];refine Fp.mono λr u h' hr=>?_;obtain⟨rfl,rfl,rfl⟩:=hr;exact k
theorem Ck{rs}{R}{T}{i j k}{h}(hk:cg TP rs R T [] .ret h):cg TP rs R T [.fn 97 [.ptr i 1 0 0,.ptr j 1 0 0,.ptr k 1 0 0]] .ret h:=by
 rw[jY];refine L'.mono λr u h' hr=>?_;obtain⟨rfl,rfl,rfl⟩:=hr;exact hk
theorem Pw{P}{H}{ops}{rest}{Q}{o}{hs}{A}{f}{args}{R}(hc:aB P f args A.h R)
  (h1:∀v h',R (.ret v) h'->cw hs h'/\@WD ⟨P,H,ops,rest,Q⟩ hs (A.put o.dst v h')) (h2:∀v h',R (.panic v) h'->∀T,Ju H T A.tmps->@WQ ⟨Q⟩ (.panic v) { A with tmps:=T,h:=h' }):@Wf ⟨P,H,ops,rest,Q,o⟩ hs A (.call f args):=by
 refine hc.mono λr h' hr=>?_
 cases r with
 |ret v=>exact h1 v h' hr
 |panic v=>exact h2 v h' hr
theorem Qr{h h':Heap}(x)(hl:h'.length=h.length):cw (h.map (λ_=>AObj.dead)++[x]) (h'++[x]):=by
 intro id o ho hd;rcases dg id h.length with hi|hi
 .rw[aZ (by simpa using hi),cz]at ho
  cases hh:h[id]? with
  |none=>rw[hh]at ho;cases ho
  |some y=>rw[hh]at ho;cases ho;cases hd
 .rw[cm (by simpa using hi)]at ho;rw[cm (by omega),hl];simpa using ho
set_option maxHeartbeats 2000000 in
theorem PU(s)(b)(ex)(n)(hs:SOk s)(hb:BkOk s b n)(line):aB TP 48 [.ptr 2 1 0 0,.p (.str (bs line))] (B7 s b ex) (nH s b ex (d8 s b line)):=by
 refine bK (eA (by kernel_rfl) rfl Ti) rfl ?_;simp only[go_sem,simprocAttr];refine cp (VD s b ex n hs hb line) (λv h hr=>?_) (λv h hr=>?_);rotate_left
 .unfold uG at hr
  cases hq:fj line with
  |ok c=>rw[hq]at hr;obtain⟨_,_,_,_,_,hr,_⟩:=hr;cases hr
  |error e=>
   rw[hq]at hr;obtain⟨hr,t,h3,rfl⟩:=hr;cases hr;have hd:d8 s b line=.error e:=by rw[d8,hq]
   rw[DK h3];unfold H7;simp only[go_sem,simprocAttr];refine zM ?_;simp only[go_sem,simprocAttr];exact⟨B7 s b ex,_,rfl,rfl,fi s b ex,trivial,by unfold nH;rw[hd];exact⟨rfl,rfl⟩⟩
 unfold uG at hr
 cases hq:fj line with
 |error e=>rw[hq]at hr;cases hr.1
 |ok c=>
  rw[hq]at hr;obtain⟨F,first,caps,t,h3',hv,hh,hbo,hba,hc⟩:=hr;cases hv;have gg:=rl (lo:=h) rfl;have g0:=pk (lo:=h) rfl;have ss:=rk (lo:=h) rfl;have s0:∀t x,(h++t).set h.length x=h++t.set 0 x:=λt x=>ss t 0 x;simp only[g0,s0,go_sem,simprocAttr];have gd:∀(u:Heap),(h.map (λ_=>AObj.dead)++u)[h.length]?=u[0]?:=λu=>pk (lo:=h.map λ_=>.dead) (by simp) u;simp only[Sc,go_sem,simprocAttr];simp only[r9,Oc,bw,gd,go_sem,simprocAttr];have hlen:∀r h',js s b ex t (aP s b c) r h'->h'.length=h.length:=λr h' hp=>by
   obtain⟨h1,t1,e1,p1,l1,_⟩:=hp;rw[e1,hh,aK,Gh p1,l1];unfold H7;rw[aK];rfl
  have hd7:∀u:Heap,(h.map (λ_=>AObj.dead)++u)[7]?=some .dead:=λu=>by
   have hl:7<h.length:=by
    rw[hh];unfold H7;rw[DK h3',aK];show 7<7+_;simp[D3]
   rw[aZ (by simpa using hl),cz,bA hl];rfl
  have hfr:=hZ hbo hba (hc.mono λr h' hp=>⟨hlen r h' hp,hp⟩) [AObj.row 2 [AV.agg [AV.p (PV.bool c.written),AV.func (Fn.func F) first caps]]];refine Pw hfr (λv h2 hr=>?_) (λv h2 hr T hT=>?_)
  .obtain⟨h3,rfl,hl3,hp⟩:=hr;refine⟨Qr _ hl3,?_⟩;obtain⟨h1,t1,rfl,p1,l1,k1⟩:=hp;rw[h3']at k1;rw[DK k1]
   cases ha:aP s b c with
   |error e=>rw[ha]at p1;cases p1.1
   |ok q=>
    obtain⟨b',a⟩:=q;rw[ha]at p1;obtain⟨hv,hx⟩:=p1;cases hv;have hd:d8 s b line=.ok (b',a,c.written):=by unfold d8;rw[hq];dsimp only;rw[ha]
    rcases hx with⟨ex',rfl⟩|⟨h0,l,x,rfl⟩
    .simp only[r9,hd7,go_sem,simprocAttr];refine Ck ?_;simp only[go_sem,simprocAttr];exact⟨B7 s b' ex',_,rfl,rfl,fi s b' ex',trivial,by unfold nH;rw[hd];exact⟨rfl,.inl ⟨_,rfl⟩⟩⟩
    .simp only[r9,hd7,go_sem,simprocAttr];refine Ck ?_;simp only[go_sem,simprocAttr];exact⟨wu s b' l x,_,rfl,rfl,CZ s b' l x,trivial,by unfold nH;rw[hd];exact⟨rfl,.inr ⟨h0,_,_,rfl⟩⟩⟩
  .obtain⟨h3,rfl,hl3,hp⟩:=hr;obtain⟨h1,t1,rfl,p1,l1,k1⟩:=hp;rw[h3']at k1;rw[DK k1]
   cases ha:aP s b c with
   |ok q=>rw[ha]at p1;cases p1.1
   |error e=>
    rw[ha]at p1;obtain⟨hv,rfl⟩:=p1;cases hv;have hd:d8 s b line=.error e:=by unfold d8;rw[hq];dsimp only;rw[ha]
    have hT4:=hT 4 rfl;have hT5:=hT 5 rfl;have hT6:=hT 6 rfl;simp only[go_sem,simprocAttr]at hT4 hT5 hT6;simp only[go_sem,simprocAttr];refine zM ?_;simp only[hT4,hT5,hT6,go_sem,simprocAttr];exact⟨B7 s b ex,_,rfl,rfl,fi s b ex,trivial,by unfold nH;rw[hd];exact⟨rfl,rfl⟩⟩
def Ky:Cmd->Prop
 |.lot name _ _ _=>name.length<=20
 |.batch name _ _ _=>name.length<=20
 |_=>True
theorem Cf{w v}(h:cS w=some v):v.length<=20:=by
 unfold cS at h;split at h
 .rename_i hn;cases h;unfold nameOk at hn;rw[dD,decide_eq_true_eq,aw]at hn;omega
 .cases h
theorem Qx{v}{ws}{c}(h:ff v ws=some c):Ky c:=by
 unfold ff at h;split at h
 .split at h
  .split at h
   .rename_i h1 _ _ _;cases h;exact Cf h1
   .cases h
  .cases h
 split at h
 .split at h
  .split at h
   .rename_i h1 _ _ _;cases h;exact Cf h1
   .cases h
  .cases h
 split at h
 .split at h
  .simp only[cd]at h;obtain⟨_,_,rfl⟩:=h;trivial
  .cases h
 split at h
 .split at h
  .simp only[cd]at h;obtain⟨_,_,rfl⟩:=h;trivial
  .cases h
 split at h
 .split at h
  .simp only[cd]at h;obtain⟨_,_,rfl⟩:=h;trivial
  .cases h
 split at h
 .split at h
  .simp only[cd]at h;obtain⟨_,_,rfl⟩:=h;trivial
  .cases h
 split at h
 .split at h
  .split at h
   .cases h;trivial
   .cases h
  .cases h
 split at h
 .split at h
  .cases h;trivial
  .cases h
 split at h
 .split at h
  .split at h
   .cases h;trivial
   .cases h
  .cases h
 split at h
 .split at h
  .split at h
   .cases h;trivial
   .cases h
  .cases h
 split at h
 .split at h
  .cases h;trivial
  .cases h
 .cases h
theorem SZ{l}{c}(h:fj l=.ok c):Ky c:=by
 unfold fj at h;split at h
 .cases h
 .split at h
  .cases h;trivial
  .split at h
   .cases h
   .split at h
    .rename_i h1;cases h;exact Qx h1
    .cases h
theorem MG(l):(bs l).size=l.length:=aw l
theorem BkOk.mono{s}{b}{n m}(h:BkOk s b n)(hm:n<=m)(hf:m<=40):BkOk s b m:=
 {h with
  grams:=λx hx=>by have:=h.grams x hx;exact⟨this.1,by omega⟩
  poured:=by have:=h.poured;exact⟨this.1,by omega⟩
  lost:=by have:=h.lost;exact⟨this.1,by omega⟩
  few:=hf }
theorem sH{α:Type}{l:List α}{i}{a x}(h:x∈l.set i a):x∈l\/x=a:=SE h
theorem UD{s}{b b'}{n}{c}{a}(hs:SOk s)(hb:BkOk s b n)(hf:n+1<=40)(hc:Ky c)(h:aP s b c=.ok (b',a)):BkOk s b' (n+1):=by
 have hm:=hb.mono (Nat.le_succ n) hf
 cases c with
 |lot name kind grams rs=>
  simp only[aP]at h;split at h
  .cases h
  split at h
  .cases h
  split at h
  .cases h
  rename_i hg;split at h
  .cases h
  split at h
  .cases h
  rename_i hl;have hg':1<=grams/\grams<=100000:=Classical.byContradiction hg;have hl':b.lots.length<8:=Classical.byContradiction hl;cases h;refine { hm with lots:=?_,grams:=?_,names:=?_,waits:=?_ }
  .simp;omega
  .intro x hx;rcases b7.1 hx with hx|hx
   .exact hm.grams x hx
   .rw[dA.1 hx];dsimp only;omega
  .intro x hx;rcases b7.1 hx with hx|hx
   .exact hm.names x hx
   .rw[dA.1 hx];dsimp only;rw[MG];exact hc
  .intro x hx;have:=hm.waits x hx
   exact⟨this.1,⟨this.2.1.1,by simp;omega⟩,this.2.2⟩
 |batch name colour lot grams=>
  simp only[aP]at h;split at h
  .cases h
  split at h
  .cases h
  split at h
  .cases h
  rename_i hi;split at h
  .cases h
  rename_i hg;split at h
  .cases h
  rename_i x hx;split at h
  .cases h
  rename_i hx2;split at h
  .cases h
  rename_i hl;have hg':1<=grams/\grams<=100000:=Classical.byContradiction hg;have hl':b.batches.length<7:=Classical.byContradiction hl;have hx':grams<=x.grams:=Classical.byContradiction hx2;have hxg:=hm.grams x (aT hx);have hil:=(ax.1 hx).1;cases h;refine { hm with lots:=?_,batches:=?_,grams:=?_,names:=?_,waits:=?_ }
  .simp;exact hm.lots
  .simp;omega
  .intro y hy;rcases sH hy with hy|rfl
   .exact hm.grams y hy
   .dsimp only;omega
  .intro y hy;rcases sH hy with hy|rfl
   .exact hm.names y hy
   .exact hm.names x (aT hx)
  .intro y hy;rw[y8];rcases b7.1 hy with hy|hy
   .exact hm.waits y hy
   .rw[dA.1 hy];dsimp only
    exact⟨hg',⟨by omega,by omega⟩,by rw[MG];exact hc⟩
 |drop name=>
  simp only[aP]at h;split at h
  .cases h
  split at h
  .cases h
  rename_i y hy;split at h
  .cases h
  rename_i x hx;have hxg:=hb.grams x (aT hx);have hyw:=hm.waits y (aT hy);cases h;refine { hm with lots:=?_,batches:=?_,grams:=?_,names:=?_,waits:=?_ }
  .simp;exact hm.lots
  .have:=hm.batches;rw[xV];split<;>omega
  .intro z hz;rcases sH hz with hz|rfl
   .exact hm.grams z hz
   .dsimp only;omega
  .intro z hz;rcases sH hz with hz|rfl
   .exact hm.names z hz
   .exact hm.names x (aT hx)
  .intro z hz;rw[y8]
   exact hm.waits z (List.mem_of_mem_eraseIdx hz)
 |plan c=>
  simp only[aP]at h;split at h
  .cases h
  .cases h;exact hm
 |pour c=>
  simp only[aP]at h;split at h
  .cases h
  .rename_i o m hq;have hbf:=uB hs hb hq;have hsum:=pS hb b.batches λx hx=>hx;have hp:=hb.poured;have hl:=hb.lost;have hbl:=hb.batches;have e:Nz b.batches=pw b.batches:=rfl;cases h;refine { hm with batches:=?_,waits:=?_,poured:=?_,lost:=?_ }
   .exact cV _
   .intro x hx;cases hx
   .dsimp only;rw[e];omega
   .dsimp only;omega
 |test text=>
  simp only[aP]at h;split at h
  .cases h
  split at h
  .cases h
  rename_i hl;have hl':b.tests.length<8:=Classical.byContradiction hl;cases h
  exact { hm with tests:=by simp;omega }
 |promise kind=>
  simp only[aP]at h;split at h
  .cases h
  .cases h;exact hm
 |box kind hours=>
  simp only[aP]at h;split at h
  .cases h
  split at h
  .cases h
  split at h
  .cases h
  rename_i hl;have hl':b.boxes.length<20:=Classical.byContradiction hl;cases h
  exact { hm with boxes:=by simp;omega }
 |look=>simp only[aP]at h;cases h;exact hm
 |wick kind a b c d=>
  simp only[aP]at h;split at h
  .cases h
  split at h
  .cases h
  split at h
  .cases h
  split at h
  .cases h
  .cases h;exact hm
 |blend a b c=>
  simp only[aP]at h;split at h
  .cases h
  .cases h;exact hm
 |stock=>simp only[aP]at h;cases h;exact hm
def eK (e:Int):Prop:=0<=e/\e<=12
theorem eK.ite{p}[Decidable p]{a b}(h1:eK a)(h2:eK b):eK (if p then a else b):=by split<;>assumption
theorem TY(s)(c):eK (Wk.eI s c):=by
 unfold Wk.eI;repeat (first|apply eK.ite|exact⟨by decide,by decide⟩)
theorem TR{s}{c}{x}(h:Wk.shopErr s=0):eK (Wk.d9 s c x).2:=by
 unfold Wk.d9;split
 .split<;>(unfold eK;dsimp only;decide)
 .dsimp only;unfold Wk.gY;rw[if_pos h];split
  .exact TY s c
  .unfold eK;decide
theorem TT(nk)(t):eK (aO nk t):=by
 unfold aO;repeat (first|apply eK.ite|exact⟨by decide,by decide⟩)
theorem Bi(nk):∀l,eK (bW nk l)
 |[]=>by unfold eK bW;decide
 |t::r=>by
  rw[bW];split
  .exact Bi nk r
  .exact TT nk t
theorem TW{s}{l}{k}(h:(hrCheck s).2.2=0):eK (cx s l k).2:=by
 have hl:eK (aD s l k).2:=by
  unfold aD;split
  .split
   .unfold eK;decide
   .split
    .unfold eK;dsimp only;decide
    .split<;>(unfold eK;dsimp only;decide)
  .dsimp only;unfold bg;rw[if_pos h];split
   .unfold eK;decide
   .exact Bi _ _
 unfold cx;split
 .unfold eK;dsimp only;decide
 .exact hl
theorem TV{s}{a}(h:(hrCheck s).2.2=0):eK (aM s a).2:=by
 unfold aM;split
 .split
  .unfold eK;dsimp only;decide
  .split
   .unfold eK;dsimp only;decide
   .split<;>(unfold eK;dsimp only;decide)
 .dsimp only;unfold bn;rw[if_pos h];exact Bi _ _
theorem Ra(s)(b):eK (Cl.eD s b):=by
 unfold Cl.eD;repeat (first|apply eK.ite|exact⟨by decide,by decide⟩)
theorem CB(s):∀l,eK (Cl.fe s l)
 |[]=>by unfold eK Cl.fe;decide
 |b::r=>by
  rw[Cl.fe];split
  .exact CB s r
  .exact Ra s b
theorem TX{s}{k}{l}(h:(Cl.clCheck s).2.2=0):eK (Cl.dJ s k l):=by
 unfold Cl.dJ;rw[if_pos h];split
 .unfold Cl.sI;split
  .exact CB s l
  .unfold eK;decide
 .unfold eK;decide
theorem TU{t}{rs}{k}(h:(Wx.wxCheck t).2.2=0):eK (Wx.bE t rs k).2.2:=by
 unfold Wx.bE;split
 .split
  .unfold Wx.mz;split
   .unfold eK;dsimp only;decide
   .split
    .unfold eK;dsimp only;decide
    .split<;>(unfold eK;dsimp only;decide)
  .unfold eK;dsimp only;decide
 .dsimp only;unfold Wx.eF;rw[if_pos h];split
  .split<;>(unfold eK;decide)
  .unfold eK;decide
theorem Q9{l}{w}(h:xS l=0):eK (b9 l w).2.2:=by
 unfold b9;split
 .split<;>(unfold eK;dsimp only;decide)
 .dsimp only;unfold iK;rw[if_pos h];split
  .unfold Lw;repeat (first|apply eK.ite|exact⟨by decide,by decide⟩)
  .unfold eK;decide
theorem sF{e}(h:eK e)(h0:e≠0):1<=e/\e<=12:=by unfold eK at h;omega
theorem FQ{s}{b}{c}{e}(hs:SOk s)(h:lC s b c=.error e):1<=e/\e<=12:=by
 unfold lC at h;dsimp only at h;split at h
 .cases h;decide
 .split at h
  .rename_i h0;cases h;exact sF (TX hs.colour) h0
  .split at h
   .cases h;decide
   .cases h
theorem Ep{s}{b}{k}{e}(hs:SOk s)(h:fX s b k=.error e):1<=e/\e<=12:=by
 unfold fX at h;dsimp only at h;split at h
 .cases h;decide
 .split at h
  .rename_i h0;cases h;exact sF (TW hs.hour) h0
  .cases h
theorem R6{s}{b}{c}{e}(hs:SOk s)(h:aP s b c=.error e):1<=e/\e<=12:=by
 cases c with
 |lot name kind grams rs=>
  simp only[aP]at h;split at h
  .cases h;decide
  split at h
  .cases h;decide
  split at h
  .cases h;decide
  split at h
  .rename_i h0;cases h;exact sF (TU hs.wax) h0
  split at h
  .cases h;decide
  .cases h
 |batch name colour lot grams=>
  simp only[aP]at h;split at h
  .cases h;decide
  split at h
  .cases h;decide
  split at h
  .cases h;decide
  split at h
  .cases h;decide
  split at h
  .cases h;decide
  split at h
  .cases h;decide
  split at h
  .cases h;decide
  .cases h
 |drop name=>
  simp only[aP]at h;split at h
  .cases h;decide
  split at h
  .cases h;decide
  split at h
  .cases h;decide
  .cases h
 |plan c=>
  simp only[aP]at h;split at h
  .rename_i h0;cases h;exact FQ hs h0
  .cases h
 |pour c=>
  simp only[aP]at h;split at h
  .rename_i h0;cases h;exact FQ hs h0
  .cases h
 |test text=>
  simp only[aP]at h;split at h
  .rename_i h0;cases h;exact sF (TV hs.hour) h0
  split at h
  .cases h;decide
  .cases h
 |promise kind=>
  simp only[aP]at h;split at h
  .rename_i h0;cases h;exact Ep hs h0
  .cases h
 |box kind hours=>
  simp only[aP]at h;split at h
  .rename_i h0;cases h;exact Ep hs h0
  split at h
  .cases h;decide
  split at h
  .cases h;decide
  .cases h
 |look=>simp only[aP]at h;cases h
 |wick kind a b c d=>
  simp only[aP]at h;split at h
  .cases h;decide
  split at h
  .cases h;decide
  split at h
  .rename_i h0;cases h;exact sF (TR hs.wick) h0
  split at h
  .cases h;decide
  .cases h
 |blend a b c=>
  simp only[aP]at h;split at h
  .rename_i h0;cases h;exact sF (Q9 hs.blend) h0
  .cases h
 |stock=>simp only[aP]at h;cases h
def bh (s:ChShop):Int×Int×Int:=
 if(Wx.wxCheck s.wax).2.2=0 then
  if(bdCheck s.blend).2.2=0 then
   if(Wk.cf s.wick).2.2=0 then
    if(hrCheck s.hour).2.2=0 then
     if(Cl.clCheck s.colour).2.2=0 then(0,0,0) else(5,0,(Cl.clCheck s.colour).2.2)
    else(4,0,(hrCheck s.hour).2.2)
   else(3,0,(Wk.cf s.wick).2.2)
  else(2,0,(bdCheck s.blend).2.2)
 else(1,0,(Wx.wxCheck s.wax).2.2)
theorem zm{s}(h:(bh s).2.2=0):SOk s:=by
 unfold bh at h;split at h
 .rename_i h0;split at h
  .rename_i h1;split at h
   .rename_i h2;split at h
    .rename_i h3;split at h
     .rename_i h4;exact⟨h0,h1,h2,h3,h4⟩
     .contradiction
    .contradiction
   .contradiction
  .contradiction
 .contradiction
theorem FI(s):af TP 96 [s.pv] (aj (bh s)):=by
 refine aa (ah Tryz.func96 rfl (by kernel_rfl)) rfl ?_;simp only[ChShop.cells,go_sem,simprocAttr];refine ae (Wx.pj s.wax) rfl ?_;simp only[aj,go_sem,simprocAttr];refine ae (yO s.blend) rfl ?_;simp only[aj,go_sem,simprocAttr];refine ae (Wk.pj s.wick) rfl ?_;simp only[aj,go_sem,simprocAttr];refine ae (FF s.hour) rfl ?_;simp only[aj,go_sem,simprocAttr];refine ae (Cl.pj s.colour) rfl ?_;simp only[aj,go_sem,simprocAttr];refine aU ?_;by_cases h0:(Wx.wxCheck s.wax).2.2=0;rotate_left
 .have hb:((Wx.wxCheck s.wax).2.2 != 0)=true:=by simpa using h0
  have hs:bh s=(1,0,(Wx.wxCheck s.wax).2.2):=by unfold bh;rw[if_neg h0]
  simp only[hb,hs,aj,go_sem,simprocAttr]
 simp only[h0,go_sem,simprocAttr];refine aU ?_;by_cases h1:(bdCheck s.blend).2.2=0;rotate_left
 .have hb:((bdCheck s.blend).2.2 != 0)=true:=by simpa using h1
  have hs:bh s=(2,0,(bdCheck s.blend).2.2):=by unfold bh;rw[if_pos h0,if_neg h1]
  simp only[hb,hs,aj,go_sem,simprocAttr]
 simp only[h1,go_sem,simprocAttr];refine aU ?_;by_cases h2:(Wk.cf s.wick).2.2=0;rotate_left
 .have hb:((Wk.cf s.wick).2.2 != 0)=true:=by simpa using h2
  have hs:bh s=(3,0,(Wk.cf s.wick).2.2):=by unfold bh;rw[if_pos h0,if_pos h1,if_neg h2]
  simp only[hb,hs,aj,go_sem,simprocAttr]
 simp only[h2,go_sem,simprocAttr];refine aU ?_;by_cases h3:(hrCheck s.hour).2.2=0;rotate_left
 .have hb:((hrCheck s.hour).2.2 != 0)=true:=by simpa using h3
  have hs:bh s=(4,0,(hrCheck s.hour).2.2):=by unfold bh;rw[if_pos h0,if_pos h1,if_pos h2,if_neg h3]
  simp only[hb,hs,aj,go_sem,simprocAttr]
 simp only[h3,go_sem,simprocAttr];refine aU ?_;by_cases h4:(Cl.clCheck s.colour).2.2=0;rotate_left
 .have hb:((Cl.clCheck s.colour).2.2 != 0)=true:=by simpa using h4
  have hs:bh s=(5,0,(Cl.clCheck s.colour).2.2):=by unfold bh;rw[if_pos h0,if_pos h1,if_pos h2,if_pos h3,if_neg h4]
  simp only[hb,hs,aj,go_sem,simprocAttr]
 simp only[h4,go_sem,simprocAttr];refine aU ?_;have hs:bh s=(0,0,0):=by unfold bh;rw[if_pos h0,if_pos h1,if_pos h2,if_pos h3,if_pos h4]
 simp only[hs,aj,go_sem,simprocAttr]
theorem G3(s):af TP 4 [s.pv] (aj (bh s)):=by
 refine aa (ah Tryz.func4 rfl (by kernel_rfl)) rfl ?_;simp only[ChShop.cells,go_sem,simprocAttr];refine ae (Wx.ph s.wax) rfl ?_;simp only[aj,go_sem,simprocAttr];refine ae (G5 s.blend) rfl ?_;simp only[aj,go_sem,simprocAttr];refine ae (Wk.ph s.wick) rfl ?_;simp only[aj,go_sem,simprocAttr];refine ae (xO s.hour) rfl ?_;simp only[aj,go_sem,simprocAttr];refine ae (Cl.ph s.colour) rfl ?_;simp only[aj,go_sem,simprocAttr];refine aU ?_;by_cases h0:(Wx.wxCheck s.wax).2.2=0;rotate_left
 .have hb:((Wx.wxCheck s.wax).2.2 != 0)=true:=by simpa using h0
  have hs:bh s=(1,0,(Wx.wxCheck s.wax).2.2):=by unfold bh;rw[if_neg h0]
  simp only[hb,hs,aj,go_sem,simprocAttr]
 simp only[h0,go_sem,simprocAttr];refine aU ?_;by_cases h1:(bdCheck s.blend).2.2=0;rotate_left
 .have hb:((bdCheck s.blend).2.2 != 0)=true:=by simpa using h1
  have hs:bh s=(2,0,(bdCheck s.blend).2.2):=by unfold bh;rw[if_pos h0,if_neg h1]
  simp only[hb,hs,aj,go_sem,simprocAttr]
 simp only[h1,go_sem,simprocAttr];refine aU ?_;by_cases h2:(Wk.cf s.wick).2.2=0;rotate_left
 .have hb:((Wk.cf s.wick).2.2 != 0)=true:=by simpa using h2
  have hs:bh s=(3,0,(Wk.cf s.wick).2.2):=by unfold bh;rw[if_pos h0,if_pos h1,if_neg h2]
  simp only[hb,hs,aj,go_sem,simprocAttr]
 simp only[h2,go_sem,simprocAttr];refine aU ?_;by_cases h3:(hrCheck s.hour).2.2=0;rotate_left
 .have hb:((hrCheck s.hour).2.2 != 0)=true:=by simpa using h3
  have hs:bh s=(4,0,(hrCheck s.hour).2.2):=by unfold bh;rw[if_pos h0,if_pos h1,if_pos h2,if_neg h3]
  simp only[hb,hs,aj,go_sem,simprocAttr]
 simp only[h3,go_sem,simprocAttr];refine aU ?_;by_cases h4:(Cl.clCheck s.colour).2.2=0;rotate_left
 .have hb:((Cl.clCheck s.colour).2.2 != 0)=true:=by simpa using h4
  have hs:bh s=(5,0,(Cl.clCheck s.colour).2.2):=by unfold bh;rw[if_pos h0,if_pos h1,if_pos h2,if_pos h3,if_neg h4]
  simp only[hb,hs,aj,go_sem,simprocAttr]
 simp only[h4,go_sem,simprocAttr];refine aU ?_;have hs:bh s=(0,0,0):=by unfold bh;rw[if_pos h0,if_pos h1,if_pos h2,if_pos h3,if_pos h4]
 simp only[hs,aj,go_sem,simprocAttr]
end Ch
theorem fQ{P}{H}{Q}{x}{A}(live)(i sz s)(u v)(hi:A.bs<=i)(hb:A.bs<=A.h.length)(hx:A.h[i]?=some (.row s [u]))(hn:zE A.h.length u v)(hl:∀t,t∈live->below A.h.length (A.tmps t))(ho:∀o,o∈A.h->bf A.h.length o)(hd:A.df=[])
  (k:@W ⟨P,H,.loop x,Q⟩ { n:=A.n,bs:=A.bs,rc:=A.rc,tmps:=cK (bT A.tmps live []),h:=A.h.set i (.row s [v])++[.row sz []],df:=A.df }):@W ⟨P,H,.loop x,Q⟩ A:=by
 have hil:i<A.h.length:=(ax.1 hx).1
 have hw:=tz (P:=P) (A:={ A with h:=A.h++[.row sz []] }) (T:=cK (bT A.tmps live [])) A.h.length i sz s [u] [v] hb hi (by simp) (by omega)
  (by rw[aZ hil];exact hx) rfl (λn x y h1 h2=>by
   match n,h1,h2 with
   |0,h1,h2=>cases h1;cases h2;exact hn
   |n+1,h1,h2=>simp at h1) (λt=>by
   rcases p4 (T:=A.tmps) live t with⟨h1,h2⟩|h1
   .exact .inl ⟨h1,zY (hl t h2)⟩
   .exact .inr h1) (λid o hid ho'=>by
   have hlt:id<A.h.length:=by
    have:=(ax.1 ho').1;simp at this;omega
   rw[aZ hlt]at ho'
   exact Cd (ho o (aT ho'))) hd
 have e:((A.h++[AObj.row sz []]).set A.h.length (.row sz [])).set i (.row s [v])=A.h.set i (.row s [v])++[.row sz []]:=by
  rw[tt _ _ (bi _),zb];show (A.h++[AObj.row sz []]).set i _=_;rw[y9 _ _ hil]
 refine eV (DX sz) (eV hw ?_);dsimp only;rw[e];exact k
theorem yU{P}{Q}{σ}{V:σ->Prop}{I}{μ}{s0}{A}(live)(k i sz s)(u v)(hk:A.bs<=k)(hi:A.bs<=i)(hkl:k<A.h.length)(hik:i≠k)(hx:A.h[i]?=some (.row s [u]))(hn:zE k u v)
  (hl:∀t,t∈live->qU (·≠k) (A.tmps t)) (ho:∀o,o∈A.h->oT (·≠k) o) (hd:A.df=[])
  (kk:@WQ ⟨dT (fT P V I μ s0) Q⟩ .normal { n:=A.n,bs:=A.bs,rc:=A.rc,tmps:=cK (bT A.tmps live []),h:=(A.h.set k (.row sz [])).set i (.row s [v]),df:=A.df }):@WQ ⟨dT (fT P V I μ s0) Q⟩ .normal A:=by
 refine Sg (tz (T:=cK (bT A.tmps live [])) k i sz s [u] [v] hk hi hkl hik hx rfl (λn x y h1 h2=>by
   match n,h1,h2 with
   |0,h1,h2=>cases h1;cases h2;exact hn
   |n+1,h1,h2=>simp at h1) (λt=>by
   rcases p4 (T:=A.tmps) live t with⟨h1,h2⟩|h1
   .exact .inl ⟨h1,hl t h2⟩
   .exact .inr h1) (λid o hid ho'=>ho o (aT ho')) hd) kk
theorem rF{P}{A}(id):fJ P A { A with h:=A.h.set id .dead }:=
 ⟨rfl,rfl,λM0 S0 b cs0 m a w hr=>⟨gr (λi=>i==id) m,by
  rw[<-E2]
  exact hr.ahead (m':=gr (λi=>i==id) m) (h':=dB (λi=>i==id) A.h) (w':=w) (Bg ⟨m,A.h,w⟩ (λi=>i==id) _) (yD hr.hok _)⟩⟩
theorem gz{k}{u v}{cs}(j)(hu:u.cells=some cs)(hv:v.cells=some (cs.set j (.slice k 0 0 0)))(hj:cs[j]?=some (.p .nilslice)):zE k u v:=by
 refine⟨cs,_,hu,hv,by simp,λi c d h1 h2=>?_⟩;by_cases hi:j=i
 .subst hi;rw[iJ (ax.1 hj).1]at h2;cases h2;rw[hj]at h1;cases h1;exact .inr ⟨rfl,rfl⟩
 .rw[dS hi,h1]at h2;cases h2;exact .inl rfl
namespace Ch
set_option maxRecDepth 4000
def b5:ChBooks:=⟨[],[],[],[],0,0⟩
def A6 (s:ChShop):AObj:=.row 23 [.p (.agg ([.nilslice,.nilslice,.nilslice,.nilslice,.int .i64 0,.int .i64 0]++s.cells))]
theorem JK(s)(a):aB TP 47 [.p s.pv] [a] (λr h'=>r=.ret (.tuple [.ptr 2 1 0 0,.p (.int .i64 (bh s).2.2)])/\h'=[a,.row 17 [.p s.pv],A6 s]):=by
 refine aA (ah Tryz.func47 rfl (by kernel_rfl)) rfl ?_;simp only[go_sem,simprocAttr];refine ae (FI s) rfl ?_;simp only[aj,A6,go_sem,simprocAttr]
def eo (s:ChShop) (q:ChBooks×List (List UInt8)×List (List UInt8)) (l:List UInt8):ChBooks×List (List UInt8)×List (List UInt8):=
 match d8 s q.1 l with
 |.error e=>(q.1,q.2.1++[joinL [HA,bC e]],q.2.2)
 |.ok (b,a,w)=>(b,q.2.1++[a],if w=true then q.2.2++[l] else q.2.2)
def bJ (s:ChShop) (ls:List (List UInt8)):ChBooks×List (List UInt8)×List (List UInt8):=ls.foldl (eo s) (b5,[],[])
def bU (s:ChShop) (ls:List (List UInt8)):Int:=if(bh s).2.2=0 then(if 40<ls.length then 3 else 0) else(bh s).2.2
theorem NE(s)(q)(l):(eo s q l).2.1.length=q.2.1.length+1/\(eo s q l).2.2.length<=q.2.2.length+1:=by
 unfold eo;split
 .simp
 .dsimp only;refine⟨by simp,?_⟩;split<;>simp
theorem Fe(s):∀(d:List (List UInt8)) (q),(d.foldl (eo s) q).2.1.length=q.2.1.length+d.length/\(d.foldl (eo s) q).2.2.length<=q.2.2.length+d.length
 |[],q=>⟨rfl,bi _⟩
 |l::d,q=>by
  have h1:=NE s q l;have h2:=Fe s d (eo s q l);rw[pp,cc];omega
theorem HF{s}{q}{l}{n}(hs:SOk s)(hb:BkOk s q.1 n)(hn:n+1<=40):BkOk s (eo s q l).1 (n+1):=by
 unfold eo;split
 .exact hb.mono (Nat.le_succ n) hn
 .rename_i b a w hd;dsimp only;unfold d8 at hd;split at hd
  .cases hd
  .rename_i c hc;split at hd
   .cases hd
   .rename_i b' a' ha;cases hd;exact UD hs hb hn (SZ hc) ha
theorem H6{s}(hs:SOk s):∀(d:List (List UInt8)) (q) (n),BkOk s q.1 n->n+d.length<=40->BkOk s (d.foldl (eo s) q).1 (n+d.length)
 |[],q,n,h,_=>h
 |l::d,q,n,h,hn=>by
  rw[cc]at hn |-;have h1:=HF (l:=l) hs h (by omega);have h2:=H6 hs d (eo s q l) (n+1) h1 (by omega);rw[pp,show n+(d.length+1)=n+1+d.length by omega];exact h2
theorem PO(s):BkOk s b5 0:=
 ⟨by decide,by decide,by decide,by decide,λx hx=>(by cases hx),λx hx=>(by cases hx),λx hx=>(by cases hx),by decide,by decide,by decide⟩
theorem HG(s)(d):(bJ s d).2.1.length=d.length/\(bJ s d).2.2.length<=d.length:=by
 have:=Fe s d (b5,[],[]);simpa[bJ]using this
theorem K0{s}(hs:SOk s){d}(hd:d.length<=40):BkOk s (bJ s d).1 d.length:=by
 have:=H6 hs d (b5,[],[]) 0 (PO s) (by omega);rw[d5]at this;exact this
theorem ID(s)(b)(l)(ex):∀o,o∈wu s b l ex->oT (·≠4) o:=by
 intro o ho;simp only[wu,ce,fW,or_false]at ho;rcases ho with rfl|rfl|rfl|rfl|rfl|rfl|rfl
 .trivial
 .trivial
 .intro x hx;simp only[dA]at hx;subst hx;intro c hc;simp only[ChShop.cells,bD,bj,b7,ce,fW,or_false]at hc;rcases hc with(rfl|rfl|rfl|rfl|rfl|rfl)|hc
  .show 3≠4;decide
  .trivial
  .show 5≠4;decide
  .show 6≠4;decide
  .trivial
  .trivial
  .rcases hc with rfl|rfl|rfl|rfl|rfl|rfl|rfl|rfl|rfl|rfl|rfl|rfl|rfl|rfl|rfl|rfl|rfl<;>trivial
 .intro x hx;obtain⟨y,_,rfl⟩:=dN.1 hx;trivial
 .intro x hx;rcases b7.1 hx with hx|hx
  .obtain⟨y,_,rfl⟩:=dN.1 hx;trivial
  .obtain⟨y,_,rfl⟩:=dN.1 hx;trivial
 .intro x hx;obtain⟨y,_,rfl⟩:=dN.1 hx;trivial
 .intro x hx;obtain⟨y,_,rfl⟩:=dN.1 hx;trivial
theorem Eg{s}{b}{l}{ex}(u v)(hu:∀x,x∈u->qU (·≠4) x)(hv:∀x,x∈v->qU (·≠4) x):∀o,o∈wu s b l ex++[.row 1 u,.row 1 v]->oT (·≠4) o:=by
 intro o ho;rcases b7.1 ho with ho|ho
 .exact ID s b l ex o ho
 .simp only[ce,fW,or_false]at ho;rcases ho with rfl|rfl
  .exact hu
  .exact hv
theorem CW{s}{b}{ex}{q}{r}{h'}(h:nH s b ex q r h'):h'.length=7:=by
 unfold nH at h;split at h
 .rw[h.2];rfl
 .rcases h.2 with⟨_,h⟩|⟨_,_,_,h⟩<;>rw[h]<;>rfl
theorem Qw{l}{e}(h:fj l=.error e):1<=e/\e<=12:=by
 unfold fj at h;split at h
 .cases h;decide
 .split at h
  .cases h
  .split at h
   .cases h;decide
   .split at h
    .cases h
    .cases h;decide
theorem OE{s}{b}{l}{e}(hs:SOk s)(h:d8 s b l=.error e):1<=e/\e<=12:=by
 unfold d8 at h;split at h
 .rename_i h1;cases h;exact Qw h1
 .split at h
  .rename_i h1;cases h;exact R6 hs h1
  .cases h
def bB (l:List (List UInt8)):PV:=.slice 1 (l.map λx=>.str (bs x)) false
def kM (s:ChShop) (ls:List (List UInt8)):PV:=
 if bU s ls=0 then .tuple [.ptr 23 [.agg ((bJ s ls).1.cells++s.cells)] 0 0,bB (bJ s ls).2.1,bB (bJ s ls).2.2,.int .i64 0]
 else .tuple [.nilptr,.nilslice,.nilslice,.int .i64 (bU s ls)]
def fG (s:ChShop) (l:List AV):AV:=.agg (l++[.p (.int .i64 0),.p (.int .i64 0)]++s.cells.map .p)
set_option maxHeartbeats 2000000 in
theorem JV(s)(ls):af TP 43 [s.pv,bB ls] (kM s ls):=by
 refine eB (ah Tryz.func43 rfl (by kernel_rfl)) rfl ?_;simp only[go_sem,simprocAttr];refine cp (JK s _) (λv h hr=>?_) (λv h hr=>by cases hr.1);obtain⟨hv,rfl⟩:=hr;cases hv;simp only[bB,go_sem,simprocAttr];by_cases hc:(bh s).2.2=0;rotate_left
 .have hc':((bh s).2.2==0)=false:=by simpa using hc
  have hcn:((bh s).2.2 != 0)=true:=by simpa using hc
  have he:bU s ls=(bh s).2.2:=by rw[bU,if_neg hc]
  simp only[hc',hcn,kM,he,if_neg hc,go_sem,simprocAttr]
 by_cases h40:40<ls.length
 .have hd:decide ((40:Int)<(ls.length:Int))=true:=decide_eq_true (by omega);have he:bU s ls=3:=by rw[bU,if_pos hc,if_pos h40]
  simp only[hc,hd,kM,he,go_sem,simprocAttr]
 have hd:decide ((40:Int)<(ls.length:Int))=false:=decide_eq_false (by omega);have he:bU s ls=0:=by rw[bU,if_pos hc,if_neg h40]
 have hs:=zm hc;have hl:ls.length<1000000000:=by omega
 simp only[hc,hd,go_sem,simprocAttr];refine fQ [4,28,29,5,6,30] 2 4 23 _ (fG s [.slice 3 0 0 0,.p .nilslice,.p .nilslice,.p .nilslice]) (cV _) (cV _) rfl (gz 0 rfl rfl rfl) ?_ ?_ rfl ?_
 .simp only[go_sem,simprocAttr]
 .simp only[A6,go_sem,simprocAttr]
 simp only[go_sem,simprocAttr];refine fQ [4,28,29,5,6,30] 2 4 23 _ (fG s [.slice 3 0 0 0,.slice 4 0 0 0,.p .nilslice,.p .nilslice]) (cV _) (cV _) rfl (gz 1 rfl rfl rfl) ?_ ?_ rfl ?_
 .simp only[go_sem,simprocAttr]
 .simp only[fG,go_sem,simprocAttr]
 simp only[go_sem,simprocAttr];refine fQ [4,28,29,5,6,30] 2 3 23 _ (fG s [.slice 3 0 0 0,.slice 4 0 0 0,.slice 5 0 0 0,.p .nilslice]) (cV _) (cV _) rfl (gz 2 rfl rfl rfl) ?_ ?_ rfl ?_
 .simp only[go_sem,simprocAttr]
 .simp only[fG,go_sem,simprocAttr]
 simp only[go_sem,simprocAttr];refine fQ [4,28,29,5,6,30] 2 2 23 _ (fG s [.slice 3 0 0 0,.slice 4 0 0 0,.slice 5 0 0 0,.slice 6 0 0 0]) (cV _) (cV _) rfl (gz 3 rfl rfl rfl) ?_ ?_ rfl ?_
 .simp only[go_sem,simprocAttr]
 .simp only[fG,go_sem,simprocAttr]
 simp only[go_sem,simprocAttr];refine ck 5 1 (by simp only[go_sem,simprocAttr]) ?_;simp only[go_sem,simprocAttr];refine ck 6 1 (by simp only[go_sem,simprocAttr]) ?_;refine eV (rF 0) (eV (rF 1) ?_);simp only[fG,go_sem,simprocAttr];have hrun:∀d,(bJ s d).2.1.length=d.length/\(bJ s d).2.2.length<=d.length:=λd=>HG s d;have hbk:∀d:List (List UInt8),d.length<=40->BkOk s (bJ s d).1 d.length:=λd hd=>K0 hs hd
 refine bm [4,28,29] ls hl (τ:=List PV) (λdone rest _=>True) (λdone ex=>[(5,.slice 7 (bJ s done).2.1.length 0 (bJ s done).2.1.length),(6,.slice 8 (bJ s done).2.2.length 0 (bJ s done).2.2.length),(30,.p (.int .i64 done.length))])
  (λdone ex=>B7 s (bJ s done).1 ex++[.row 1 ((bJ s done).2.1.map tE),.row 1 ((bJ s done).2.2.map tE)]) [] trivial ?_ ?_ ?_
 .simp only[bJ,b5,List.foldl_nil,cH,bj,bw,go_sem,simprocAttr]
 .intro ex _;have t1:∀l:List (List UInt8),List.take l.length (l.map λx=>PV.str (bs x))=l.map λx=>PV.str (bs x):=λl=>gv (by simp);have hres:kM s ls=.tuple [.ptr 23 [.agg ((bJ s ls).1.cells++s.cells)] 0 0,bB (bJ s ls).2.1,bB (bJ s ls).2.2,.int .i64 0]:=by rw[kM,if_pos he]
  simp only[Fa,t1,mh,hres,bB,go_sem,simprocAttr]
 .intro done l r ex e1 _ hx hlt hnx;have hdl:done.length+1<=40:=by
   have:=congrArg List.length e1;simp at this;omega
  obtain⟨r1,r2⟩:=hrun done;have hst:bJ s (done++[l])=eo s (bJ s done) l:=by rw[bJ,AI];rfl
  have hDn:=PU s (bJ s done).1 ex done.length hs (hbk done (by omega)) l;have hfr:=hZ (fi s (bJ s done).1 ex) (args:=[.ptr 2 1 0 0,.p (.str (bs l))]) (by simp only[go_sem,simprocAttr]) (hDn.mono λr h' hr=>⟨CW hr,hr⟩) [.row 1 ((bJ s done).2.1.map tE),.row 1 ((bJ s done).2.2.map tE)];have hrm1:(bJ s done).2.1.length+1<=ar:=by simp only[ar];omega
  have hrm2:(bJ s done).2.2.length+1<=ar:=by simp only[ar];omega
  simp only[hlt,hx,go_sem,simprocAttr];refine cp hfr (λv h hr=>?_) (λv h hr=>?_);rotate_left
  .obtain⟨h',_,_,hr⟩:=hr;unfold nH at hr;split at hr<;>cases hr.1
  obtain⟨h',rfl,_,hr⟩:=hr;unfold nH at hr
  cases hdn:d8 s (bJ s done).1 l with
  |error e=>
   rw[hdn]at hr;obtain⟨hv,rfl⟩:=hr;cases hv;have he:=OE hs hdn;have hs2:eo s (bJ s done) l=((bJ s done).1,(bJ s done).2.1++[joinL [HA,bC e]],(bJ s done).2.2):=by rw[eo,hdn]
   have hne:(e != 0)=true:=by rw[bne_iff_ne];omega
   have hsd:=oG [.s HA,.n e] true (by simp) (λw hw=>by
    simp only[ce,fW,or_false]at hw;rcases hw with rfl|rfl
    .show (2:Nat)<=1000;decide
    .exact⟨by omega,by omega⟩)
   simp only[hne,go_sem,simprocAttr];refine ae hsd rfl ?_;simp only[hrm1,go_sem,simprocAttr];refine aE e1 ex trivial ?_
   simp only[hnx,hst,hs2,aK,bt,ca,bD,bj,Word.ws,mN,tm,bw,go_sem,simprocAttr]
  |ok q=>
   obtain⟨b',a,w⟩:=q;rw[hdn]at hr;obtain⟨hv,hx2⟩:=hr;cases hv;have hs2:eo s (bJ s done) l=(b',(bJ s done).2.1++[a],if w=true then(bJ s done).2.2++[l] else(bJ s done).2.2):=by rw[eo,hdn]
   rcases hx2 with⟨ex',rfl⟩|⟨h0,l0,x0,rfl⟩
   .cases w
    .simp only[hrm1,go_sem,simprocAttr];refine aE e1 ex' trivial ?_;simp only[hnx,hst,hs2,aK,bt,ca,bD,bj,go_sem,simprocAttr]
    .simp only[hrm1,hrm2,go_sem,simprocAttr];refine aE e1 ex' trivial ?_;simp only[hnx,hst,hs2,aK,bt,ca,bD,bj,go_sem,simprocAttr]
   .cases w
    .simp only[hrm1,go_sem,simprocAttr];refine yU [4,28,29,5,6,30] 4 2 4 23 _ (.agg ([.slice 3 b'.lots.length 0 b'.lots.length,.slice 4 0 0 0,.slice 5 b'.tests.length 0 b'.tests.length,.slice 6 b'.boxes.length 0 b'.boxes.length,.p (.int .i64 b'.poured),.p (.int .i64 b'.lost)]++s.cells.map .p)) (cV _) (cV _) (by show 4<9;decide) (by decide) rfl (gz 1 rfl rfl rfl) ?_ (Eg _ _ ?_ ?_) rfl ?_
     .simp only[qU,su,qT,pD,go_sem,simprocAttr]
     .intro x hx;rcases b7.1 hx with hx|hx
      .obtain⟨y,_,rfl⟩:=dN.1 hx;trivial
      .rw[dA.1 hx];trivial
     .intro x hx;obtain⟨y,_,rfl⟩:=dN.1 hx;trivial
     simp only[go_sem,simprocAttr];refine aE e1 [] trivial ?_;simp only[hnx,hst,hs2,h0,aK,bt,ca,bD,bj,cH,bw,go_sem,simprocAttr]
    .simp only[hrm1,hrm2,go_sem,simprocAttr];refine yU [4,28,29,5,6,30] 4 2 4 23 _ (.agg ([.slice 3 b'.lots.length 0 b'.lots.length,.slice 4 0 0 0,.slice 5 b'.tests.length 0 b'.tests.length,.slice 6 b'.boxes.length 0 b'.boxes.length,.p (.int .i64 b'.poured),.p (.int .i64 b'.lost)]++s.cells.map .p)) (cV _) (cV _) (by show 4<9;decide) (by decide) rfl (gz 1 rfl rfl rfl) ?_ (Eg _ _ ?_ ?_) rfl ?_
     .simp only[qU,su,qT,pD,go_sem,simprocAttr]
     .intro x hx;rcases b7.1 hx with hx|hx
      .obtain⟨y,_,rfl⟩:=dN.1 hx;trivial
      .rw[dA.1 hx];trivial
     .intro x hx;rcases b7.1 hx with hx|hx
      .obtain⟨y,_,rfl⟩:=dN.1 hx;trivial
      .rw[dA.1 hx];trivial
     simp only[go_sem,simprocAttr];refine aE e1 [] trivial ?_;simp only[hnx,hst,hs2,h0,aK,bt,ca,bD,bj,cH,bw,go_sem,simprocAttr]
end Ch
end Abs
end Go.Proofs.YtnjiadikeacfaaaGreatDoor
