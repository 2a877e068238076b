/-
  CONTRACTS: chandler: done. No conditions but those in the theorems' heads.
  WHAT STAYS TRUE OF THE BOOKS, line by line; plain Lean. No conditions but those in the the
  THE ERRORS OF LINES; plain Lean. No conditions but those in the theorems' heads.
  CONTRACTS: chandler.Check and its reference. No conditions but those in the theorems' head
  CONTRACTS: chandler: open, work. No conditions but those in the theorems' heads.
-/
import Derived.Test.YtfafnkpfamgbbaaGreatDoorAbsCutX
import Derived.Test.YtfafnkpfamgbbaaGreatDoorChRd3
import Derived.Test.YtfafnkpfamgbbaaGreatDoorHrLaw0X
import Derived.Test.YtfafnkpfamgbbaaGreatDoorChBk4X
set_option linter.unusedSimpArgs false
set_option linter.unusedVariables false
open Go.Proofs.Tryz renaming prog->TP
namespace Go.Proofs.YtfafnkpfamgbbaaGreatDoor
namespace Abs
namespace Ch
set_option maxRecDepth 4000
def mQ (s:ChShop) (b:ChBooks) (ex:List PV) (q:Except Int (ChBooks×List UInt8×Bool)) (r:AEnd) (h':Heap):Prop :=
 match q with
 |.error e=>r=.ret (.p (.tuple [.str .empty,.bool false,.int .i64 e]))/\h'=B7 s b ex
 |.ok (b',a,w)=>r=.ret (.p (.tuple [.str (bs a),.bool w,.int .i64 0]))/\((∃ ex',h'=B7 s b' ex')\/(b'.batches=[]/\∃ l x,h'=uV s b' l x))
theorem DE {e} {a0 a1 a2 a3 a4 a5 a6} {t}:iT TP 57 [.ptr 7 1 0 0,.ptr 8 1 0 0,.ptr 9 1 0 0] (.pan (fo e)) (a0::a1::a2::a3::a4::a5::a6::.row 1 [.p (.str .empty)]::.row 1 [.p (.bool false)]::.row 1 [.p (.int .i64 0)]::t)
  (λr u h'=>r=.ret (.p (.tuple []))/\u=.recd (fo e)/\h'=a0::a1::a2::a3::a4::a5::a6::.row 1 [.p (.str .empty)]::.row 1 [.p (.bool false)]::.row 1 [.p (.int .i64 e)]::t):=by
 refine eU (ai (by kernel_rfl) rfl QU) rfl ?_;simp only [W2,bf,mb,gL,bF,go_sem,simprocAttr];rfl
theorem J3 {i j k} {h}:iT TP 57 [.ptr i 1 0 0,.ptr j 1 0 0,.ptr k 1 0 0] .ret h (λr u h'=>r=.ret (.p (.tuple []))/\u=.ret/\h'=h):=by
 refine eU (ai (by kernel_rfl) rfl QU) rfl ?_;simp only [mb,gL,go_sem,simprocAttr]
def qK:Hints:=dY [(12,.low),(13,.low),(14,.cal),(15,.low),(16,.low),(1004014,.sto),(5000000,.slot 2 4),(5000001,.app 7),(6000004,.nop),(6000005,.nop),(6000006,.nop)]
theorem QQ:aj qK Tryz.f35=true:=by kernel_rfl
theorem PW {P} {Q} {A} (i) (o0 o1 o2 o3 o4 o5 o6 o7):@W ⟨P,qK,.region i ⟨[o0,o1,o2,o3,o4,o5,o6,o7]⟩ true,Q⟩ A=@WD ⟨P,qK,⟨[o0,o1,o2,o3,o4,o5,o6,o7]⟩,[o0,o1,o3,o4,o2,o5,o6,o7],Q⟩ (mJ qK [o0,o1,o2,o3,o4,o5,o6,o7] A) (pc qK [o0,o1,o2,o3,o4,o5,o6,o7] A):=by
 rw [GF];rfl
theorem LP (h) (x):fi h.length (h++[x])=h.map (λ_=>.dead)++[x]:=by
 unfold fi;apply rV;intro i;rw [GP];rcases K1 i h.length with hi | hi | hi
 .rw [aS hi,aS (by simpa using hi),cg]
  cases h[i]? with
  |none=>rfl
  |some o=>simp [y7 hi]
 .subst hi;rw [cD (bR _),cD (by simp)];simp
 .rw [ze (by simp;omega),ze (by simp;omega)];rfl
theorem B3 {t} (h:t.take 3=D3):t=D3++t.drop 3:=by rw [<-h,ol]
theorem yc {rs} {R} {T} {e} {a0 a1 a2 a3 a4 a5 a6} {t} (k:bU TP rs R T [] .ret (a0::a1::a2::a3::a4::a5::a6::.row 1 [.p (.str .empty)]::.row 1 [.p (.bool false)]::.row 1 [.p (.int .i64 e)]::t)) :
  bU TP rs R T [.fn 57 [.ptr 7 1 0 0,.ptr 8 1 0 0,.ptr 9 1 0 0]] (.pan (fo e)) (a0::a1::a2::a3::a4::a5::a6::.row 1 [.p (.str .empty)]::.row 1 [.p (.bool false)]::.row 1 [.p (.int .i64 0)]::t):=by
 rw [jq];refine DE.mono λr u h' hr=>?_;obtain ⟨rfl,rfl,rfl⟩:=hr;exact k
theorem AH {rs} {R} {T} {i j k} {h} (hk:bU TP rs R T [] .ret h):bU TP rs R T [.fn 57 [.ptr i 1 0 0,.ptr j 1 0 0,.ptr k 1 0 0]] .ret h:=by
 rw [jq];refine J3.mono λr u h' hr=>?_;obtain ⟨rfl,rfl,rfl⟩:=hr;exact hk
theorem MZ {P} {H} {ops} {rest} {Q} {o} {hs} {A} {f} {args} {R} (hc:ay P f args A.h R)
  (h1:∀ v h',R (.ret v) h'->cd hs h'/\@WD ⟨P,H,ops,rest,Q⟩ hs (A.put o.dst v h')) (h2:∀ v h',R (.panic v) h'->∀ T,HG H T A.tmps->@WQ ⟨Q⟩ (.panic v) { A with tmps:=T,h:=h' }):@WZ ⟨P,H,ops,rest,Q,o⟩ hs A (.call f args):=by
 refine hc.mono λr h' hr=>?_
 cases r with
 |ret v=>exact h1 v h' hr
 |panic v=>exact h2 v h' hr
theorem Oa {h h':Heap} (x) (hl:h'.length=h.length):cd (h.map (λ_=>AObj.dead)++[x]) (h'++[x]):=by
 intro id o ho hd;rcases cJ id h.length with hi | hi
 .rw [aS (by simpa using hi),cg] at ho
  cases hh:h[id]? with
  |none=>rw [hh] at ho;cases ho
  |some y=>rw [hh] at ho;cases ho;cases hd
 .rw [cD (by simpa using hi)] at ho;rw [cD (by omega),hl];simpa using ho
set_option maxHeartbeats 2000000 in
theorem NH (s) (b) (ex) (n) (hs:SOk s) (hb:BkOk s b n) (line):ay TP 35 [.ptr 2 1 0 0,.p (.str (bs line))] (B7 s b ex) (mQ s b ex (iA s b line)):=by
 refine bv (ai (by kernel_rfl) rfl QQ) rfl ?_;simp only [go_sem,simprocAttr];refine bW (Wb s b ex n hs hb line) (λv h hr=>?_) (λv h hr=>?_);rotate_left
 .unfold th at hr
  cases hq:iW line with
  |ok c=>rw [hq] at hr;obtain ⟨_,_,_,_,_,hr,_⟩:=hr;cases hr
  |error e =>
   rw [hq] at hr;obtain ⟨hr,t,h3,rfl⟩:=hr;cases hr;have hd:iA s b line=.error e:=by rw [iA,hq]
   rw [B3 h3];unfold H7;simp only [go_sem,simprocAttr];refine yc ?_;simp only [go_sem,simprocAttr];exact ⟨B7 s b ex,_,rfl,rfl,eB s b ex,trivial,by unfold mQ;rw [hd];exact ⟨rfl,rfl⟩⟩
 unfold th at hr
 cases hq:iW line with
 |error e=>rw [hq] at hr;cases hr.1
 |ok c =>
  rw [hq] at hr;obtain ⟨F,first,caps,t,h3',hv,hh,hbo,hba,hc⟩:=hr;cases hv;have gg:=p8 (lo:=h) rfl;have g0:=od (lo:=h) rfl;have ss:=p7 (lo:=h) rfl;have s0:∀ t x,(h++t).set h.length x=h++t.set 0 x:=λt x=>ss t 0 x;simp only [g0,s0,go_sem,simprocAttr];have gd:∀ (u:Heap),(h.map (λ_=>AObj.dead)++u)[h.length]?=u[0]?:=λu=>od (lo:=h.map λ_=>.dead) (by simp) u;simp only [PW,go_sem,simprocAttr];simp only [qK,LP,bF,gd,go_sem,simprocAttr];have hlen:∀ r h',iR s b ex t (aU s b c) r h'->h'.length=h.length:=λr h' hp=>by
   obtain ⟨h1,t1,e1,p1,l1,_⟩:=hp;rw [e1,hh,aP,Ez p1,l1];unfold H7;rw [aP];rfl
  have hd7:∀ u:Heap,(h.map (λ_=>AObj.dead)++u)[7]?=some .dead:=λu=>by
   have hl:7<h.length:=by
    rw [hh];unfold H7;rw [B3 h3',aP];show 7<7+_;simp [D3]
   rw [aS (by simpa using hl),cg,b6 hl];rfl
  have hfr:=gu hbo hba (hc.mono λr h' hp=>⟨hlen r h' hp,hp⟩) [AObj.row 2 [AV.agg [AV.p (PV.bool c.written),AV.func (Fn.func F) first caps]]];refine MZ hfr (λv h2 hr=>?_) (λv h2 hr T hT=>?_)
  .obtain ⟨h3,rfl,hl3,hp⟩:=hr;refine ⟨Oa _ hl3,?_⟩;obtain ⟨h1,t1,rfl,p1,l1,k1⟩:=hp;rw [h3'] at k1;rw [B3 k1]
   cases ha:aU s b c with
   |error e=>rw [ha] at p1;cases p1.1
   |ok q =>
    obtain ⟨b',a⟩:=q;rw [ha] at p1;obtain ⟨hv,hx⟩:=p1;cases hv;have hd:iA s b line=.ok (b',a,c.written):=by unfold iA;rw [hq];dsimp only;rw [ha]
    rcases hx with ⟨ex',rfl⟩ | ⟨h0,l,x,rfl⟩
    .simp only [qK,hd7,go_sem,simprocAttr];refine AH ?_;simp only [go_sem,simprocAttr];exact ⟨B7 s b' ex',_,rfl,rfl,eB s b' ex',trivial,by unfold mQ;rw [hd];exact ⟨rfl,.inl ⟨_,rfl⟩⟩⟩
    .simp only [qK,hd7,go_sem,simprocAttr];refine AH ?_;simp only [go_sem,simprocAttr];exact ⟨uV s b' l x,_,rfl,rfl,Bk s b' l x,trivial,by unfold mQ;rw [hd];exact ⟨rfl,.inr ⟨h0,_,_,rfl⟩⟩⟩
  .obtain ⟨h3,rfl,hl3,hp⟩:=hr;obtain ⟨h1,t1,rfl,p1,l1,k1⟩:=hp;rw [h3'] at k1;rw [B3 k1]
   cases ha:aU s b c with
   |ok q=>rw [ha] at p1;cases p1.1
   |error e =>
    rw [ha] at p1;obtain ⟨hv,rfl⟩:=p1;cases hv;have hd:iA s b line=.error e:=by unfold iA;rw [hq];dsimp only;rw [ha]
    have hT4:=hT 4 rfl;have hT5:=hT 5 rfl;have hT6:=hT 6 rfl;simp only [go_sem,simprocAttr] at hT4 hT5 hT6;simp only [go_sem,simprocAttr];refine yc ?_;simp only [hT4,hT5,hT6,go_sem,simprocAttr];exact ⟨B7 s b ex,_,rfl,rfl,eB s b ex,trivial,by unfold mQ;rw [hd];exact ⟨rfl,rfl⟩⟩
def IG:Cmd->Prop
 |.lot name _ _ _=>name.length<=20
 |.batch name _ _ _=>name.length<=20
 |_=>True
theorem AD {w v} (h:cF w=some v):v.length<=20:=by
 unfold cF at h;split at h
 .rename_i hn;cases h;unfold nameOk at hn;rw [dA,decide_eq_true_eq,aw] at hn;omega
 .cases h
theorem Oe {v} {ws} {c} (h:fb v ws=some c):IG c:=by
 unfold fb at h;split at h
 .split at h
  .split at h
   .rename_i h1 _ _ _;cases h;exact AD h1
   .cases h
  .cases h
 split at h
 .split at h
  .split at h
   .rename_i h1 _ _ _;cases h;exact AD h1
   .cases h
  .cases h
 split at h
 .split at h
  .simp only [bz] at h;obtain ⟨_,_,rfl⟩:=h;trivial
  .cases h
 split at h
 .split at h
  .simp only [bz] at h;obtain ⟨_,_,rfl⟩:=h;trivial
  .cases h
 split at h
 .split at h
  .simp only [bz] at h;obtain ⟨_,_,rfl⟩:=h;trivial
  .cases h
 split at h
 .split at h
  .simp only [bz] at h;obtain ⟨_,_,rfl⟩:=h;trivial
  .cases h
 split at h
 .split at h
  .split at h
   .cases h;trivial
   .cases h
  .cases h
 split at h
 .split at h
  .cases h;trivial
  .cases h
 split at h
 .split at h
  .split at h
   .cases h;trivial
   .cases h
  .cases h
 split at h
 .split at h
  .split at h
   .cases h;trivial
   .cases h
  .cases h
 split at h
 .split at h
  .cases h;trivial
  .cases h
 .cases h
theorem QB {l} {c} (h:iW l=.ok c):IG c:=by
 unfold iW at h;split at h
 .cases h
 .split at h
  .cases h;trivial
  .split at h
   .cases h
   .split at h
    .rename_i h1;cases h;exact Oe h1
    .cases h
theorem Kq (l):(bs l).size=l.length:=aw l
theorem BkOk.mono {s} {b} {n m} (h:BkOk s b n) (hm:n<=m) (hf:m<=40):BkOk s b m :=
 {h with
  grams:=λx hx=>by have:=h.grams x hx;exact ⟨this.1,by omega⟩
  poured:=by have:=h.poured;exact ⟨this.1,by omega⟩
  lost:=by have:=h.lost;exact ⟨this.1,by omega⟩
  few:=hf }
theorem rl {α:Type} {l:List α} {i} {a x} (h:x∈l.set i a):x∈l\/x=a:=G7 h
theorem R7 {s} {b b'} {n} {c} {a} (hs:SOk s) (hb:BkOk s b n) (hf:n+1<=40) (hc:IG c) (h:aU s b c=.ok (b',a)):BkOk s b' (n+1):=by
 have hm:=hb.mono (Nat.le_succ n) hf
 cases c with
 |lot name kind grams rs =>
  simp only [aU] at h;split at h
  .cases h
  split at h
  .cases h
  split at h
  .cases h
  rename_i hg;split at h
  .cases h
  split at h
  .cases h
  rename_i hl;have hg':1<=grams/\grams<=100000:=Classical.byContradiction hg;have hl':b.lots.length<8:=Classical.byContradiction hl;cases h;refine { hm with lots:=?_,grams:=?_,names:=?_,waits:=?_ }
  .simp;omega
  .intro x hx;rcases bX.1 hx with hx | hx
   .exact hm.grams x hx
   .rw [dR.1 hx];dsimp only;omega
  .intro x hx;rcases bX.1 hx with hx | hx
   .exact hm.names x hx
   .rw [dR.1 hx];dsimp only;rw [Kq];exact hc
  .intro x hx;have:=hm.waits x hx
   exact ⟨this.1,⟨this.2.1.1,by simp;omega⟩,this.2.2⟩
 |batch name colour lot grams =>
  simp only [aU] at h;split at h
  .cases h
  split at h
  .cases h
  split at h
  .cases h
  rename_i hi;split at h
  .cases h
  rename_i hg;split at h
  .cases h
  rename_i x hx;split at h
  .cases h
  rename_i hx2;split at h
  .cases h
  rename_i hl;have hg':1<=grams/\grams<=100000:=Classical.byContradiction hg;have hl':b.batches.length<7:=Classical.byContradiction hl;have hx':grams<=x.grams:=Classical.byContradiction hx2;have hxg:=hm.grams x (aI hx);have hil:=(ar.1 hx).1;cases h;refine { hm with lots:=?_,batches:=?_,grams:=?_,names:=?_,waits:=?_ }
  .simp;exact hm.lots
  .simp;omega
  .intro y hy;rcases rl hy with hy | rfl
   .exact hm.grams y hy
   .dsimp only;omega
  .intro y hy;rcases rl hy with hy | rfl
   .exact hm.names y hy
   .exact hm.names x (aI hx)
  .intro y hy;rw [B4];rcases bX.1 hy with hy | hy
   .exact hm.waits y hy
   .rw [dR.1 hy];dsimp only
    exact ⟨hg',⟨by omega,by omega⟩,by rw [Kq];exact hc⟩
 |drop name =>
  simp only [aU] at h;split at h
  .cases h
  split at h
  .cases h
  rename_i y hy;split at h
  .cases h
  rename_i x hx;have hxg:=hb.grams x (aI hx);have hyw:=hm.waits y (aI hy);cases h;refine { hm with lots:=?_,batches:=?_,grams:=?_,names:=?_,waits:=?_ }
  .simp;exact hm.lots
  .have:=hm.batches;rw [wA];split<;>omega
  .intro z hz;rcases rl hz with hz | rfl
   .exact hm.grams z hz
   .dsimp only;omega
  .intro z hz;rcases rl hz with hz | rfl
   .exact hm.names z hz
   .exact hm.names x (aI hx)
  .intro z hz;rw [B4]
   exact hm.waits z (List.mem_of_mem_eraseIdx hz)
 |plan c =>
  simp only [aU] at h;split at h
  .cases h
  .cases h;exact hm
 |pour c =>
  simp only [aU] at h;split at h
  .cases h
  .rename_i o m hq;have hbf:=td hs hb hq;have hsum:=oQ hb b.batches λx hx=>hx;have hp:=hb.poured;have hl:=hb.lost;have hbl:=hb.batches;have e:Lc b.batches=om b.batches:=rfl;cases h;refine { hm with batches:=?_,waits:=?_,poured:=?_,lost:=?_ }
   .exact cQ _
   .intro x hx;cases hx
   .dsimp only;rw [e];omega
   .dsimp only;omega
 |test text =>
  simp only [aU] at h;split at h
  .cases h
  split at h
  .cases h
  rename_i hl;have hl':b.tests.length<8:=Classical.byContradiction hl;cases h
  exact { hm with tests:=by simp;omega }
 |promise kind =>
  simp only [aU] at h;split at h
  .cases h
  .cases h;exact hm
 |box kind hours =>
  simp only [aU] at h;split at h
  .cases h
  split at h
  .cases h
  split at h
  .cases h
  rename_i hl;have hl':b.boxes.length<20:=Classical.byContradiction hl;cases h
  exact { hm with boxes:=by simp;omega }
 |look=>simp only [aU] at h;cases h;exact hm
 |wick kind a b c d =>
  simp only [aU] at h;split at h
  .cases h
  split at h
  .cases h
  split at h
  .cases h
  split at h
  .cases h
  .cases h;exact hm
 |blend a b c =>
  simp only [aU] at h;split at h
  .cases h
  .cases h;exact hm
 |stock=>simp only [aU] at h;cases h;exact hm
def d5 (e:Int):Prop:=0<=e/\e<=12
theorem d5.ite {p} [Decidable p] {a b} (h1:d5 a) (h2:d5 b):d5 (if p then a else b):=by split<;>assumption
theorem Rs (s) (c):d5 (Wk.dZ s c):=by
 unfold Wk.dZ;repeat (first | apply d5.ite | exact ⟨by decide,by decide⟩)
theorem Rm {s} {c} {x} (h:Wk.shopErr s=0):d5 (Wk.dE s c x).2:=by
 unfold Wk.dE;split
 .split<;>(unfold d5;dsimp only;decide)
 .dsimp only;unfold Wk.gh;rw [if_pos h];split
  .exact Rs s c
  .unfold d5;decide
theorem Rn (nk) (t):d5 (bL nk t):=by
 unfold bL;repeat (first | apply d5.ite | exact ⟨by decide,by decide⟩)
theorem zJ (nk):∀ l,d5 (cu nk l)
 |[]=>by unfold d5 cu;decide
 |t::r=>by
  rw [cu];split
  .exact zJ nk r
  .exact Rn nk t
theorem Rq {s} {l} {k} (h:(hrCheck s).2.2=0):d5 (dH s l k).2:=by
 have hl:d5 (be s l k).2:=by
  unfold be;split
  .split
   .unfold d5;decide
   .split
    .unfold d5;dsimp only;decide
    .split<;>(unfold d5;dsimp only;decide)
  .dsimp only;unfold cB;rw [if_pos h];split
   .unfold d5;decide
   .exact zJ _ _
 unfold dH;split
 .unfold d5;dsimp only;decide
 .exact hl
theorem Rp {s} {a} (h:(hrCheck s).2.2=0):d5 (aM s a).2:=by
 unfold aM;split
 .split
  .unfold d5;dsimp only;decide
  .split
   .unfold d5;dsimp only;decide
   .split<;>(unfold d5;dsimp only;decide)
 .dsimp only;unfold bS;rw [if_pos h];exact zJ _ _
theorem OT (s) (b):d5 (Cl.dP s b):=by
 unfold Cl.dP;repeat (first | apply d5.ite | exact ⟨by decide,by decide⟩)
theorem AX (s):∀ l,d5 (Cl.er s l)
 |[]=>by unfold d5 Cl.er;decide
 |b::r=>by
  rw [Cl.er];split
  .exact AX s r
  .exact OT s b
theorem Rr {s} {k} {l} (h:(Cl.clCheck s).2.2=0):d5 (Cl.dg s k l):=by
 unfold Cl.dg;rw [if_pos h];split
 .unfold Cl.rm;split
  .exact AX s l
  .unfold d5;decide
 .unfold d5;decide
theorem Ro {t} {rs} {k} (h:(Wx.wxCheck t).2.2=0):d5 (Wx.bm t rs k).2.2:=by
 unfold Wx.bm;split
 .split
  .unfold Wx.lN;split
   .unfold d5;dsimp only;decide
   .split
    .unfold d5;dsimp only;decide
    .split<;>(unfold d5;dsimp only;decide)
  .unfold d5;dsimp only;decide
 .dsimp only;unfold Wx.dT;rw [if_pos h];split
  .split<;>(unfold d5;decide)
  .unfold d5;decide
theorem OS {l} {w} (h:wr l=0):d5 (bN l w).2.2:=by
 unfold bN;split
 .split<;>(unfold d5;dsimp only;decide)
 .dsimp only;unfold g7;rw [if_pos h];split
  .unfold Jv;repeat (first | apply d5.ite | exact ⟨by decide,by decide⟩)
  .unfold d5;decide
theorem rj {e} (h:d5 e) (h0:e≠0):1<=e/\e<=12:=by unfold d5 at h;omega
theorem D6 {s} {b} {c} {e} (hs:SOk s) (h:kP s b c=.error e):1<=e/\e<=12:=by
 unfold kP at h;dsimp only at h;split at h
 .cases h;decide
 .split at h
  .rename_i h0;cases h;exact rj (Rr hs.colour) h0
  .split at h
   .cases h;decide
   .cases h
theorem CG {s} {b} {k} {e} (hs:SOk s) (h:fh s b k=.error e):1<=e/\e<=12:=by
 unfold fh at h;dsimp only at h;split at h
 .cases h;decide
 .split at h
  .rename_i h0;cases h;exact rj (Rq hs.hour) h0
  .cases h
theorem PP {s} {b} {c} {e} (hs:SOk s) (h:aU s b c=.error e):1<=e/\e<=12:=by
 cases c with
 |lot name kind grams rs =>
  simp only [aU] at h;split at h
  .cases h;decide
  split at h
  .cases h;decide
  split at h
  .cases h;decide
  split at h
  .rename_i h0;cases h;exact rj (Ro hs.wax) h0
  split at h
  .cases h;decide
  .cases h
 |batch name colour lot grams =>
  simp only [aU] at h;split at h
  .cases h;decide
  split at h
  .cases h;decide
  split at h
  .cases h;decide
  split at h
  .cases h;decide
  split at h
  .cases h;decide
  split at h
  .cases h;decide
  split at h
  .cases h;decide
  .cases h
 |drop name =>
  simp only [aU] at h;split at h
  .cases h;decide
  split at h
  .cases h;decide
  split at h
  .cases h;decide
  .cases h
 |plan c =>
  simp only [aU] at h;split at h
  .rename_i h0;cases h;exact D6 hs h0
  .cases h
 |pour c =>
  simp only [aU] at h;split at h
  .rename_i h0;cases h;exact D6 hs h0
  .cases h
 |test text =>
  simp only [aU] at h;split at h
  .rename_i h0;cases h;exact rj (Rp hs.hour) h0
  split at h
  .cases h;decide
  .cases h
 |promise kind =>
  simp only [aU] at h;split at h
  .rename_i h0;cases h;exact CG hs h0
  .cases h
 |box kind hours =>
  simp only [aU] at h;split at h
  .rename_i h0;cases h;exact CG hs h0
  split at h
  .cases h;decide
  split at h
  .cases h;decide
  .cases h
 |look=>simp only [aU] at h;cases h
 |wick kind a b c d =>
  simp only [aU] at h;split at h
  .cases h;decide
  split at h
  .cases h;decide
  split at h
  .rename_i h0;cases h;exact rj (Rm hs.wick) h0
  split at h
  .cases h;decide
  .cases h
 |blend a b c =>
  simp only [aU] at h;split at h
  .rename_i h0;cases h;exact rj (OS hs.blend) h0
  .cases h
 |stock=>simp only [aU] at h;cases h
def b5 (s:ChShop):Int×Int×Int :=
 if (Wx.wxCheck s.wax).2.2=0 then
  if (bdCheck s.blend).2.2=0 then
   if (Wk.dJ s.wick).2.2=0 then
    if (hrCheck s.hour).2.2=0 then
     if (Cl.clCheck s.colour).2.2=0 then (0,0,0) else (5,0,(Cl.clCheck s.colour).2.2)
    else (4,0,(hrCheck s.hour).2.2)
   else (3,0,(Wk.dJ s.wick).2.2)
  else (2,0,(bdCheck s.blend).2.2)
 else (1,0,(Wx.wxCheck s.wax).2.2)
theorem Cs {s} (h:(b5 s).2.2=0):SOk s:=by
 unfold b5 at h;split at h
 .rename_i h0;split at h
  .rename_i h1;split at h
   .rename_i h2;split at h
    .rename_i h3;split at h
     .rename_i h4;exact ⟨h0,h1,h2,h3,h4⟩
     .contradiction
    .contradiction
   .contradiction
  .contradiction
 .contradiction
theorem DW (s):ah TP 56 [s.pv] (aE (b5 s)):=by
 refine aa (ai (by kernel_rfl) rfl YM) rfl ?_;simp only [ChShop.cells,go_sem,simprocAttr];refine ae (Wx.oa s.wax) rfl ?_;simp only [aE,go_sem,simprocAttr];refine ae (xe s.blend) rfl ?_;simp only [aE,go_sem,simprocAttr];refine ae (Wk.oa s.wick) rfl ?_;simp only [aE,go_sem,simprocAttr];refine ae (DT s.hour) rfl ?_;simp only [aE,go_sem,simprocAttr];refine ae (Cl.oa s.colour) rfl ?_;simp only [aE,go_sem,simprocAttr];refine bp ?_;by_cases h0:(Wx.wxCheck s.wax).2.2=0;rotate_left
 .have hb:((Wx.wxCheck s.wax).2.2 != 0)=true:=by simpa using h0
  have hs:b5 s=(1,0,(Wx.wxCheck s.wax).2.2):=by unfold b5;rw [if_neg h0]
  simp only [hb,hs,aE,go_sem,simprocAttr]
 simp only [h0,go_sem,simprocAttr];refine bp ?_;by_cases h1:(bdCheck s.blend).2.2=0;rotate_left
 .have hb:((bdCheck s.blend).2.2 != 0)=true:=by simpa using h1
  have hs:b5 s=(2,0,(bdCheck s.blend).2.2):=by unfold b5;rw [if_pos h0,if_neg h1]
  simp only [hb,hs,aE,go_sem,simprocAttr]
 simp only [h1,go_sem,simprocAttr];refine bp ?_;by_cases h2:(Wk.dJ s.wick).2.2=0;rotate_left
 .have hb:((Wk.dJ s.wick).2.2 != 0)=true:=by simpa using h2
  have hs:b5 s=(3,0,(Wk.dJ s.wick).2.2):=by unfold b5;rw [if_pos h0,if_pos h1,if_neg h2]
  simp only [hb,hs,aE,go_sem,simprocAttr]
 simp only [h2,go_sem,simprocAttr];refine bp ?_;by_cases h3:(hrCheck s.hour).2.2=0;rotate_left
 .have hb:((hrCheck s.hour).2.2 != 0)=true:=by simpa using h3
  have hs:b5 s=(4,0,(hrCheck s.hour).2.2):=by unfold b5;rw [if_pos h0,if_pos h1,if_pos h2,if_neg h3]
  simp only [hb,hs,aE,go_sem,simprocAttr]
 simp only [h3,go_sem,simprocAttr];refine bp ?_;by_cases h4:(Cl.clCheck s.colour).2.2=0;rotate_left
 .have hb:((Cl.clCheck s.colour).2.2 != 0)=true:=by simpa using h4
  have hs:b5 s=(5,0,(Cl.clCheck s.colour).2.2):=by unfold b5;rw [if_pos h0,if_pos h1,if_pos h2,if_pos h3,if_neg h4]
  simp only [hb,hs,aE,go_sem,simprocAttr]
 simp only [h4,go_sem,simprocAttr];refine bp ?_;have hs:b5 s=(0,0,0):=by unfold b5;rw [if_pos h0,if_pos h1,if_pos h2,if_pos h3,if_pos h4]
 simp only [hs,aE,go_sem,simprocAttr]
end Ch
theorem e8 {P} {H} {Q} {x} {A} (live) (i sz s) (u v) (hi:A.bs<=i) (hb:A.bs<=A.h.length) (hx:A.h[i]?=some (.row s [u])) (hn:xX A.h.length u v) (hl:∀ t,t∈live->below A.h.length (A.tmps t)) (ho:∀ o,o∈A.h->aV A.h.length o) (hd:A.df=[])
  (k:@W ⟨P,H,.loop x,Q⟩ { n:=A.n,bs:=A.bs,rc:=A.rc,tmps:=cY (bZ A.tmps live []),h:=A.h.set i (.row s [v])++[.row sz []],df:=A.df }):@W ⟨P,H,.loop x,Q⟩ A:=by
 have hil:i<A.h.length:=(ar.1 hx).1
 have hw:=sb (P:=P) (A:={ A with h:=A.h++[.row sz []] }) (T:=cY (bZ A.tmps live [])) A.h.length i sz s [u] [v] hb hi (by simp) (by omega)
  (by rw [aS hil];exact hx) rfl (λn x y h1 h2=>by
   match n,h1,h2 with
   |0,h1,h2=>cases h1;cases h2;exact hn
   |n+1,h1,h2=>simp at h1) (λt=>by
   rcases oZ (T:=A.tmps) live t with ⟨h1,h2⟩ | h1
   .exact .inl ⟨h1,yp (hl t h2)⟩
   .exact .inr h1) (λid o hid ho'=>by
   have hlt:id<A.h.length:=by
    have:=(ar.1 ho').1;simp at this;omega
   rw [aS hlt] at ho'
   exact AB (ho o (aI ho'))) hd
 have e:((A.h++[AObj.row sz []]).set A.h.length (.row sz [])).set i (.row s [v])=A.h.set i (.row s [v])++[.row sz []]:=by
  rw [wx _ _ (bR _),Cb];show (A.h++[AObj.row sz []]).set i _=_;rw [IH _ _ hil]
 refine eg (Ce sz) (eg hw ?_);dsimp only;rw [e];exact k
theorem xj {P} {Q} {σ} {V:σ->Prop} {I} {μ} {s0} {A} (live) (k i sz s) (u v) (hk:A.bs<=k) (hi:A.bs<=i) (hkl:k<A.h.length) (hik:i≠k) (hx:A.h[i]?=some (.row s [u])) (hn:xX k u v)
  (hl:∀ t,t∈live->pT (·≠k) (A.tmps t)) (ho:∀ o,o∈A.h->nT (·≠k) o) (hd:A.df=[])
  (kk:@WQ ⟨eu (gq P V I μ s0) Q⟩ .normal { n:=A.n,bs:=A.bs,rc:=A.rc,tmps:=cY (bZ A.tmps live []),h:=(A.h.set k (.row sz [])).set i (.row s [v]),df:=A.df }):@WQ ⟨eu (gq P V I μ s0) Q⟩ .normal A:=by
 refine P0 (sb (T:=cY (bZ A.tmps live [])) k i sz s [u] [v] hk hi hkl hik hx rfl (λn x y h1 h2=>by
   match n,h1,h2 with
   |0,h1,h2=>cases h1;cases h2;exact hn
   |n+1,h1,h2=>simp at h1) (λt=>by
   rcases oZ (T:=A.tmps) live t with ⟨h1,h2⟩ | h1
   .exact .inl ⟨h1,hl t h2⟩
   .exact .inr h1) (λid o hid ho'=>ho o (aI ho')) hd) kk
theorem qm {P} {A} (id):fN P A { A with h:=A.h.set id .dead } :=
 ⟨rfl,rfl,λM0 S0 b cs0 m a w hr=>⟨gU (λi=>i==id) m,by
  rw [<-Dh]
  exact hr.ahead (m':=gU (λi=>i==id) m) (h':=gp (λi=>i==id) A.h) (w':=w) (Gl ⟨m,A.h,w⟩ (λi=>i==id) _) (Dn hr.hok _)⟩⟩
theorem fG {k} {u v} {cs} (j) (hu:u.cells=some cs) (hv:v.cells=some (cs.set j (.slice k 0 0 0))) (hj:cs[j]?=some (.p .nilslice)):xX k u v:=by
 refine ⟨cs,_,hu,hv,by simp,λi c d h1 h2=>?_⟩;by_cases hi:j=i
 .subst hi;rw [gX (ar.1 hj).1] at h2;cases h2;rw [hj] at h1;cases h1;exact .inr ⟨rfl,rfl⟩
 .rw [cw hi,h1] at h2;cases h2;exact .inl rfl
namespace Ch
set_option maxRecDepth 4000
def dv:ChBooks:=⟨[],[],[],[],0,0⟩
def zw (s:ChShop):AObj:=.row 23 [.p (.agg ([.nilslice,.nilslice,.nilslice,.nilslice,.int .i64 0,.int .i64 0]++s.cells))]
theorem HT (s) (a):ay TP 34 [.p s.pv] [a] (λr h'=>r=.ret (.tuple [.ptr 2 1 0 0,.p (.int .i64 (b5 s).2.2)])/\h'=[a,.row 17 [.p s.pv],zw s]):=by
 refine ax (ai (by kernel_rfl) rfl QV) rfl ?_;simp only [go_sem,simprocAttr];refine ae (DW s) rfl ?_;simp only [aE,zw,go_sem,simprocAttr]
def dl (s:ChShop) (q:ChBooks×List (List UInt8)×List (List UInt8)) (l:List UInt8):ChBooks×List (List UInt8)×List (List UInt8) :=
 match iA s q.1 l with
 |.error e=>(q.1,q.2.1++[joinL [Qy,bO e]],q.2.2)
 |.ok (b,a,w)=>(b,q.2.1++[a],if w=true then q.2.2++[l] else q.2.2)
def aX (s:ChShop) (ls:List (List UInt8)):ChBooks×List (List UInt8)×List (List UInt8):=ls.foldl (dl s) (dv,[],[])
def bn (s:ChShop) (ls:List (List UInt8)):Int:=if (b5 s).2.2=0 then (if 40<ls.length then 3 else 0) else (b5 s).2.2
theorem Lh (s) (q) (l):(dl s q l).2.1.length=q.2.1.length+1/\(dl s q l).2.2.length<=q.2.2.length+1:=by
 unfold dl;split
 .simp
 .dsimp only;refine ⟨by simp,?_⟩;split<;>simp
theorem Du (s):∀ (d:List (List UInt8)) (q),(d.foldl (dl s) q).2.1.length=q.2.1.length+d.length/\(d.foldl (dl s) q).2.2.length<=q.2.2.length+d.length
 |[],q=>⟨rfl,bR _⟩
 |l::d,q=>by
  have h1:=Lh s q l;have h2:=Du s d (dl s q l);rw [ky,e9];omega
theorem FT {s} {q} {l} {n} (hs:SOk s) (hb:BkOk s q.1 n) (hn:n+1<=40):BkOk s (dl s q l).1 (n+1):=by
 unfold dl;split
 .exact hb.mono (Nat.le_succ n) hn
 .rename_i b a w hd;dsimp only;unfold iA at hd;split at hd
  .cases hd
  .rename_i c hc;split at hd
   .cases hd
   .rename_i b' a' ha;cases hd;exact R7 hs hb hn (QB hc) ha
theorem Gi {s} (hs:SOk s):∀ (d:List (List UInt8)) (q) (n),BkOk s q.1 n->n+d.length<=40->BkOk s (d.foldl (dl s) q).1 (n+d.length)
 |[],q,n,h,_=>h
 |l::d,q,n,h,hn=>by
  rw [e9] at hn |-;have h1:=FT (l:=l) hs h (by omega);have h2:=Gi hs d (dl s q l) (n+1) h1 (by omega);rw [ky,show n+(d.length+1)=n+1+d.length by omega];exact h2
theorem ND (s):BkOk s dv 0 :=
 ⟨by decide,by decide,by decide,by decide,λx hx=>(by cases hx),λx hx=>(by cases hx),λx hx=>(by cases hx),by decide,by decide,by decide⟩
theorem vb (s) (d):(aX s d).2.1.length=d.length/\(aX s d).2.2.length<=d.length:=by
 have:=Du s d (dv,[],[]);simpa [aX] using this
theorem I2 {s} (hs:SOk s) {d} (hd:d.length<=40):BkOk s (aX s d).1 d.length:=by
 have:=Gi hs d (dv,[],[]) 0 (ND s) (by omega);rw [j3] at this;exact this
theorem GK (s) (b) (l) (ex):∀ o,o∈uV s b l ex->nT (·≠4) o:=by
 intro o ho;simp only [uV,cz,eQ,or_false] at ho;rcases ho with rfl | rfl | rfl | rfl | rfl | rfl | rfl
 .trivial
 .trivial
 .intro x hx;simp only [dR] at hx;subst hx;intro c hc;simp only [ChShop.cells,bQ,cO,bX,cz,eQ,or_false] at hc;rcases hc with (rfl | rfl | rfl | rfl | rfl | rfl) | hc
  .show 3≠4;decide
  .trivial
  .show 5≠4;decide
  .show 6≠4;decide
  .trivial
  .trivial
  .rcases hc with rfl | rfl | rfl | rfl | rfl | rfl | rfl | rfl | rfl | rfl | rfl | rfl | rfl | rfl | rfl | rfl | rfl<;>trivial
 .intro x hx;obtain ⟨y,_,rfl⟩:=dD.1 hx;trivial
 .intro x hx;rcases bX.1 hx with hx | hx
  .obtain ⟨y,_,rfl⟩:=dD.1 hx;trivial
  .obtain ⟨y,_,rfl⟩:=dD.1 hx;trivial
 .intro x hx;obtain ⟨y,_,rfl⟩:=dD.1 hx;trivial
 .intro x hx;obtain ⟨y,_,rfl⟩:=dD.1 hx;trivial
theorem Cy {s} {b} {l} {ex} (u v) (hu:∀ x,x∈u->pT (·≠4) x) (hv:∀ x,x∈v->pT (·≠4) x):∀ o,o∈uV s b l ex++[.row 1 u,.row 1 v]->nT (·≠4) o:=by
 intro o ho;rcases bX.1 ho with ho | ho
 .exact GK s b l ex o ho
 .simp only [cz,eQ,or_false] at ho;rcases ho with rfl | rfl
  .exact hu
  .exact hv
theorem Bi {s} {b} {ex} {q} {r} {h'} (h:mQ s b ex q r h'):h'.length=7:=by
 unfold mQ at h;split at h
 .rw [h.2];rfl
 .rcases h.2 with ⟨_,h⟩ | ⟨_,_,_,h⟩<;>rw [h]<;>rfl
theorem Od {l} {e} (h:iW l=.error e):1<=e/\e<=12:=by
 unfold iW at h;split at h
 .cases h;decide
 .split at h
  .cases h
  .split at h
   .cases h;decide
   .split at h
    .cases h
    .cases h;decide
theorem Mc {s} {b} {l} {e} (hs:SOk s) (h:iA s b l=.error e):1<=e/\e<=12:=by
 unfold iA at h;split at h
 .rename_i h1;cases h;exact Od h1
 .split at h
  .rename_i h1;cases h;exact PP hs h1
  .cases h
def b8 (l:List (List UInt8)):PV:=.slice 1 (l.map λx=>.str (bs x)) false
def j5 (s:ChShop) (ls:List (List UInt8)):PV :=
 if bn s ls=0 then .tuple [.ptr 23 [.agg ((aX s ls).1.cells++s.cells)] 0 0,b8 (aX s ls).2.1,b8 (aX s ls).2.2,.int .i64 0]
 else .tuple [.nilptr,.nilslice,.nilslice,.int .i64 (bn s ls)]
def eV (s:ChShop) (l:List AV):AV:=.agg (l++[.p (.int .i64 0),.p (.int .i64 0)]++s.cells.map .p)
set_option maxHeartbeats 2000000 in
theorem H6 (s) (ls):ah TP 22 [s.pv,b8 ls] (j5 s ls):=by
 refine gb (ai (by kernel_rfl) rfl Y6) rfl ?_;simp only [go_sem,simprocAttr];refine bW (HT s _) (λv h hr=>?_) (λv h hr=>by cases hr.1);obtain ⟨hv,rfl⟩:=hr;cases hv;simp only [b8,go_sem,simprocAttr];by_cases hc:(b5 s).2.2=0;rotate_left
 .have hc':((b5 s).2.2==0)=false:=by simpa using hc
  have hcn:((b5 s).2.2 != 0)=true:=by simpa using hc
  have he:bn s ls=(b5 s).2.2:=by rw [bn,if_neg hc]
  simp only [hc',hcn,j5,he,if_neg hc,go_sem,simprocAttr]
 by_cases h40:40<ls.length
 .have hd:decide ((40:Int)<(ls.length:Int))=true:=decide_eq_true (by omega);have he:bn s ls=3:=by rw [bn,if_pos hc,if_pos h40]
  simp only [hc,hd,j5,he,go_sem,simprocAttr]
 have hd:decide ((40:Int)<(ls.length:Int))=false:=decide_eq_false (by omega);have he:bn s ls=0:=by rw [bn,if_pos hc,if_neg h40]
 have hs:=Cs hc;have hl:ls.length<1000000000:=by omega
 simp only [hc,hd,go_sem,simprocAttr];refine e8 [4,28,29,5,6,30] 2 4 23 _ (eV s [.slice 3 0 0 0,.p .nilslice,.p .nilslice,.p .nilslice]) (cQ _) (cQ _) rfl (fG 0 rfl rfl rfl) ?_ ?_ rfl ?_
 .simp only [go_sem,simprocAttr]
 .simp only [zw,go_sem,simprocAttr]
 simp only [go_sem,simprocAttr];refine e8 [4,28,29,5,6,30] 2 4 23 _ (eV s [.slice 3 0 0 0,.slice 4 0 0 0,.p .nilslice,.p .nilslice]) (cQ _) (cQ _) rfl (fG 1 rfl rfl rfl) ?_ ?_ rfl ?_
 .simp only [go_sem,simprocAttr]
 .simp only [eV,go_sem,simprocAttr]
 simp only [go_sem,simprocAttr];refine e8 [4,28,29,5,6,30] 2 3 23 _ (eV s [.slice 3 0 0 0,.slice 4 0 0 0,.slice 5 0 0 0,.p .nilslice]) (cQ _) (cQ _) rfl (fG 2 rfl rfl rfl) ?_ ?_ rfl ?_
 .simp only [go_sem,simprocAttr]
 .simp only [eV,go_sem,simprocAttr]
 simp only [go_sem,simprocAttr];refine e8 [4,28,29,5,6,30] 2 2 23 _ (eV s [.slice 3 0 0 0,.slice 4 0 0 0,.slice 5 0 0 0,.slice 6 0 0 0]) (cQ _) (cQ _) rfl (fG 3 rfl rfl rfl) ?_ ?_ rfl ?_
 .simp only [go_sem,simprocAttr]
 .simp only [eV,go_sem,simprocAttr]
 simp only [go_sem,simprocAttr];refine et 5 1 (by simp only [go_sem,simprocAttr]) ?_;simp only [go_sem,simprocAttr];refine et 6 1 (by simp only [go_sem,simprocAttr]) ?_;refine eg (qm 0) (eg (qm 1) ?_);simp only [eV,go_sem,simprocAttr];have hrun:∀ d,(aX s d).2.1.length=d.length/\(aX s d).2.2.length<=d.length:=λd=>vb s d;have hbk:∀ d:List (List UInt8),d.length<=40->BkOk s (aX s d).1 d.length:=λd hd=>I2 hs hd
 refine bT [4,28,29] ls hl (τ:=List PV) (λdone rest _=>True) (λdone ex=>[(5,.slice 7 (aX s done).2.1.length 0 (aX s done).2.1.length),(6,.slice 8 (aX s done).2.2.length 0 (aX s done).2.2.length),(30,.p (.int .i64 done.length))])
  (λdone ex=>B7 s (aX s done).1 ex++[.row 1 ((aX s done).2.1.map sh),.row 1 ((aX s done).2.2.map sh)]) [] trivial ?_ ?_ ?_
 .simp only [aX,dv,List.foldl_nil,eG,cO,bF,go_sem,simprocAttr]
 .intro ex _;have t1:∀ l:List (List UInt8),List.take l.length (l.map λx=>PV.str (bs x))=l.map λx=>PV.str (bs x):=λl=>fx (by simp);have hres:j5 s ls=.tuple [.ptr 23 [.agg ((aX s ls).1.cells++s.cells)] 0 0,b8 (aX s ls).2.1,b8 (aX s ls).2.2,.int .i64 0]:=by rw [j5,if_pos he]
  simp only [J0,t1,lC,hres,b8,go_sem,simprocAttr]
 .intro done l r ex e1 _ hx hlt hnx;have hdl:done.length+1<=40:=by
   have:=congrArg List.length e1;simp at this;omega
  obtain ⟨r1,r2⟩:=hrun done;have hst:aX s (done++[l])=dl s (aX s done) l:=by rw [aX,r8];rfl
  have hDn:=NH s (aX s done).1 ex done.length hs (hbk done (by omega)) l;have hfr:=gu (eB s (aX s done).1 ex) (args:=[.ptr 2 1 0 0,.p (.str (bs l))]) (by simp only [go_sem,simprocAttr]) (hDn.mono λr h' hr=>⟨Bi hr,hr⟩) [.row 1 ((aX s done).2.1.map sh),.row 1 ((aX s done).2.2.map sh)];have hrm1:(aX s done).2.1.length+1<=aB:=by simp only [aB];omega
  have hrm2:(aX s done).2.2.length+1<=aB:=by simp only [aB];omega
  simp only [hlt,hx,go_sem,simprocAttr];refine bW hfr (λv h hr=>?_) (λv h hr=>?_);rotate_left
  .obtain ⟨h',_,_,hr⟩:=hr;unfold mQ at hr;split at hr<;>cases hr.1
  obtain ⟨h',rfl,_,hr⟩:=hr;unfold mQ at hr
  cases hdn:iA s (aX s done).1 l with
  |error e =>
   rw [hdn] at hr;obtain ⟨hv,rfl⟩:=hr;cases hv;have he:=Mc hs hdn;have hs2:dl s (aX s done) l=((aX s done).1,(aX s done).2.1++[joinL [Qy,bO e]],(aX s done).2.2):=by rw [dl,hdn]
   have hne:(e != 0)=true:=by rw [bne_iff_ne];omega
   have hsd:=nH [.s Qy,.n e] true (by simp) (λw hw=>by
    simp only [cz,eQ,or_false] at hw;rcases hw with rfl | rfl
    .show (2:Nat)<=1000;decide
    .exact ⟨by omega,by omega⟩)
   simp only [hne,go_sem,simprocAttr];refine ae hsd rfl ?_;simp only [hrm1,go_sem,simprocAttr];refine aL e1 ex trivial ?_
   simp only [hnx,hst,hs2,aP,bu,cp,bQ,cO,Word.ws,qh,ww,bF,go_sem,simprocAttr]
  |ok q =>
   obtain ⟨b',a,w⟩:=q;rw [hdn] at hr;obtain ⟨hv,hx2⟩:=hr;cases hv;have hs2:dl s (aX s done) l=(b',(aX s done).2.1++[a],if w=true then (aX s done).2.2++[l] else (aX s done).2.2):=by rw [dl,hdn]
   rcases hx2 with ⟨ex',rfl⟩ | ⟨h0,l0,x0,rfl⟩
   .cases w
    .simp only [hrm1,go_sem,simprocAttr];refine aL e1 ex' trivial ?_;simp only [hnx,hst,hs2,aP,bu,cp,bQ,cO,go_sem,simprocAttr]
    .simp only [hrm1,hrm2,go_sem,simprocAttr];refine aL e1 ex' trivial ?_;simp only [hnx,hst,hs2,aP,bu,cp,bQ,cO,go_sem,simprocAttr]
   .cases w
    .simp only [hrm1,go_sem,simprocAttr];refine xj [4,28,29,5,6,30] 4 2 4 23 _ (.agg ([.slice 3 b'.lots.length 0 b'.lots.length,.slice 4 0 0 0,.slice 5 b'.tests.length 0 b'.tests.length,.slice 6 b'.boxes.length 0 b'.boxes.length,.p (.int .i64 b'.poured),.p (.int .i64 b'.lost)]++s.cells.map .p)) (cQ _) (cQ _) (by show 4<9;decide) (by decide) rfl (fG 1 rfl rfl rfl) ?_ (Cy _ _ ?_ ?_) rfl ?_
     .simp only [pT,qX,pS,ox,go_sem,simprocAttr]
     .intro x hx;rcases bX.1 hx with hx | hx
      .obtain ⟨y,_,rfl⟩:=dD.1 hx;trivial
      .rw [dR.1 hx];trivial
     .intro x hx;obtain ⟨y,_,rfl⟩:=dD.1 hx;trivial
     simp only [go_sem,simprocAttr];refine aL e1 [] trivial ?_;simp only [hnx,hst,hs2,h0,aP,bu,cp,bQ,cO,eG,bF,go_sem,simprocAttr]
    .simp only [hrm1,hrm2,go_sem,simprocAttr];refine xj [4,28,29,5,6,30] 4 2 4 23 _ (.agg ([.slice 3 b'.lots.length 0 b'.lots.length,.slice 4 0 0 0,.slice 5 b'.tests.length 0 b'.tests.length,.slice 6 b'.boxes.length 0 b'.boxes.length,.p (.int .i64 b'.poured),.p (.int .i64 b'.lost)]++s.cells.map .p)) (cQ _) (cQ _) (by show 4<9;decide) (by decide) rfl (fG 1 rfl rfl rfl) ?_ (Cy _ _ ?_ ?_) rfl ?_
     .simp only [pT,qX,pS,ox,go_sem,simprocAttr]
     .intro x hx;rcases bX.1 hx with hx | hx
      .obtain ⟨y,_,rfl⟩:=dD.1 hx;trivial
      .rw [dR.1 hx];trivial
     .intro x hx;rcases bX.1 hx with hx | hx
      .obtain ⟨y,_,rfl⟩:=dD.1 hx;trivial
      .rw [dR.1 hx];trivial
     simp only [go_sem,simprocAttr];refine aL e1 [] trivial ?_;simp only [hnx,hst,hs2,h0,aP,bu,cp,bQ,cO,eG,bF,go_sem,simprocAttr]
end Ch
end Abs
end Go.Proofs.YtfafnkpfamgbbaaGreatDoor
