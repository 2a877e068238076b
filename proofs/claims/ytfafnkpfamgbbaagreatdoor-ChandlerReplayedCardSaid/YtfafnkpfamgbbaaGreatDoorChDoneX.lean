/-
  CONTRACTS: chandler: done. No conditions but those in the theorems' heads.
  WHAT STAYS TRUE OF THE BOOKS, line by line; plain Lean. No conditions but those in the the
  THE ERRORS OF LINES; plain Lean. No conditions but those in the theorems' heads.
  CONTRACTS: chandler.Check and its reference. No conditions but those in the theorems' head
  CONTRACTS: chandler: open, work. No conditions but those in the theorems' heads.
-/
import Derived.Test.YtfafnkpfamgbbaaGreatDoorAbsCutX
import Derived.Test.YtfafnkpfamgbbaaGreatDoorChRd3
import Derived.Test.YtfafnkpfamgbbaaGreatDoorChBkX
import Derived.Test.YtfafnkpfamgbbaaGreatDoorChBk4X
set_option linter.unusedSimpArgs false
set_option linter.unusedVariables false
open Go.Proofs.Tryz renaming prog->TP
namespace Go.Proofs.YtfafnkpfamgbbaaGreatDoor
namespace Abs
namespace Ch
set_option maxRecDepth 4000
def ol (s:ChShop) (b:ChBooks) (ex:List PV) (q:Except Int (ChBooks×List UInt8×Bool)) (r:AEnd) (h':Heap):Prop :=
 match q with
 |.error e=>r=.ret (.p (.tuple [.str .empty,.bool false,.int .i64 e]))/\h'=B7 s b ex
 |.ok (b',a,w)=>r=.ret (.p (.tuple [.str (bs a),.bool w,.int .i64 0]))/\((∃ ex',h'=B7 s b' ex')\/(b'.batches=[]/\∃ l x,h'=wR s b' l x))
theorem FW {e} {a0 a1 a2 a3 a4 a5 a6} {t}:jM TP 57 [.ptr 7 1 0 0,.ptr 8 1 0 0,.ptr 9 1 0 0] (.pan (gp e)) (a0::a1::a2::a3::a4::a5::a6::.row 1 [.p (.str .empty)]::.row 1 [.p (.bool false)]::.row 1 [.p (.int .i64 0)]::t)
  (λr u h'=>r=.ret (.p (.tuple []))/\u=.recd (gp e)/\h'=a0::a1::a2::a3::a4::a5::a6::.row 1 [.p (.str .empty)]::.row 1 [.p (.bool false)]::.row 1 [.p (.int .i64 e)]::t):=by
 refine fL (ai (by kernel_rfl) rfl TR) rfl ?_;simp only [ZT,bj,nG,iB,aW,go_sem,simprocAttr];rfl
theorem Mv {i j k} {h}:jM TP 57 [.ptr i 1 0 0,.ptr j 1 0 0,.ptr k 1 0 0] .ret h (λr u h'=>r=.ret (.p (.tuple []))/\u=.ret/\h'=h):=by
 refine fL (ai (by kernel_rfl) rfl TR) rfl ?_;simp only [nG,iB,go_sem,simprocAttr]
def sx:Hints:=eg [(12,.low),(13,.low),(14,.cal),(15,.low),(16,.low),(1004014,.sto),(5000000,.slot 2 4),(5000001,.app 7),(6000004,.nop),(6000005,.nop),(6000006,.nop)]
theorem TN:aj sx Tryz.f35=true:=by kernel_rfl
theorem SI {P} {Q} {A} (i) (o0 o1 o2 o3 o4 o5 o6 o7):@W ⟨P,sx,.region i ⟨[o0,o1,o2,o3,o4,o5,o6,o7]⟩ true,Q⟩ A=@WD ⟨P,sx,⟨[o0,o1,o2,o3,o4,o5,o6,o7]⟩,[o0,o1,o3,o4,o2,o5,o6,o7],Q⟩ (n7 sx [o0,o1,o2,o3,o4,o5,o6,o7] A) (qF sx [o0,o1,o2,o3,o4,o5,o6,o7] A):=by
 rw [I4];rfl
theorem On (h) (x):gc h.length (h++[x])=h.map (λ_=>.dead)++[x]:=by
 unfold gc;apply nu;intro i;rw [wV];rcases Nz i h.length with hi | hi | hi
 .rw [be hi,be (by simpa using hi),cv]
  cases h[i]? with
  |none=>rfl
  |some o=>simp [Ba hi]
 .subst hi;rw [cn (bM _),cn (by simp)];simp
 .rw [ve (by simp;omega),ve (by simp;omega)];rfl
theorem Eg {t} (h:t.take 3=D3):t=D3++t.drop 3:=by rw [<-h,kZ]
theorem Ad {rs} {R} {T} {e} {a0 a1 a2 a3 a4 a5 a6} {t} (k:ck TP rs R T [] .ret (a0::a1::a2::a3::a4::a5::a6::.row 1 [.p (.str .empty)]::.row 1 [.p (.bool false)]::.row 1 [.p (.int .i64 e)]::t)) :
  ck TP rs R T [.fn 57 [.ptr 7 1 0 0,.ptr 8 1 0 0,.ptr 9 1 0 0]] (.pan (gp e)) (a0::a1::a2::a3::a4::a5::a6::.row 1 [.p (.str .empty)]::.row 1 [.p (.bool false)]::.row 1 [.p (.int .i64 0)]::t):=by
 rw [kj];refine FW.mono λr u h' hr=>?_;obtain ⟨rfl,rfl,rfl⟩:=hr;exact k
theorem CL {rs} {R} {T} {i j k} {h} (hk:ck TP rs R T [] .ret h):ck TP rs R T [.fn 57 [.ptr i 1 0 0,.ptr j 1 0 0,.ptr k 1 0 0]] .ret h:=by
 rw [kj];refine Mv.mono λr u h' hr=>?_;obtain ⟨rfl,rfl,rfl⟩:=hr;exact hk
theorem PE {P} {H} {ops} {rest} {Q} {o} {hs} {A} {f} {args} {R} (hc:aC P f args A.h R)
  (h1:∀ v h',R (.ret v) h'->cB hs h'/\@WD ⟨P,H,ops,rest,Q⟩ hs (A.put o.dst v h')) (h2:∀ v h',R (.panic v) h'->∀ T,J3 H T A.tmps->@WQ ⟨Q⟩ (.panic v) { A with tmps:=T,h:=h' }):@ZQ ⟨P,H,ops,rest,Q,o⟩ hs A (.call f args):=by
 refine hc.mono λr h' hr=>?_
 cases r with
 |ret v=>exact h1 v h' hr
 |panic v=>exact h2 v h' hr
theorem QW {h h':Heap} (x) (hl:h'.length=h.length):cB (h.map (λ_=>AObj.dead)++[x]) (h'++[x]):=by
 intro id o ho hd;rcases dr id h.length with hi | hi
 .rw [be (by simpa using hi),cv] at ho
  cases hh:h[id]? with
  |none=>rw [hh] at ho;cases ho
  |some y=>rw [hh] at ho;cases ho;cases hd
 .rw [cn (by simpa using hi)] at ho;rw [cn (by omega),hl];simpa using ho
set_option maxHeartbeats 2000000 in
theorem Qm (s) (b) (ex) (n) (hs:SOk s) (hb:BkOk s b n) (line):aC TP 35 [.ptr 2 1 0 0,.p (.str (bs line))] (B7 s b ex) (ol s b ex (eh s b line)):=by
 refine bO (ai (by kernel_rfl) rfl TN) rfl ?_;simp only [go_sem,simprocAttr];refine cq (Za s b ex n hs hb line) (λv h hr=>?_) (λv h hr=>?_);rotate_left
 .unfold uT at hr
  cases hq:fD line with
  |ok c=>rw [hq] at hr;obtain ⟨_,_,_,_,_,hr,_⟩:=hr;cases hr
  |error e =>
   rw [hq] at hr;obtain ⟨hr,t,h3,rfl⟩:=hr;cases hr;have hd:eh s b line=.error e:=by rw [eh,hq]
   rw [Eg h3];unfold H7;simp only [go_sem,simprocAttr];refine Ad ?_;simp only [go_sem,simprocAttr];exact ⟨B7 s b ex,_,rfl,rfl,fo s b ex,trivial,by unfold ol;rw [hd];exact ⟨rfl,rfl⟩⟩
 unfold uT at hr
 cases hq:fD line with
 |error e=>rw [hq] at hr;cases hr.1
 |ok c =>
  rw [hq] at hr;obtain ⟨F,first,caps,t,h3',hv,hh,hbo,hba,hc⟩:=hr;cases hv;have gg:=rO (lo:=h) rfl;have g0:=pW (lo:=h) rfl;have ss:=rN (lo:=h) rfl;have s0:∀ t x,(h++t).set h.length x=h++t.set 0 x:=λt x=>ss t 0 x;simp only [g0,s0,go_sem,simprocAttr];have gd:∀ (u:Heap),(h.map (λ_=>AObj.dead)++u)[h.length]?=u[0]?:=λu=>pW (lo:=h.map λ_=>.dead) (by simp) u;simp only [SI,go_sem,simprocAttr];simp only [sx,On,aW,gd,go_sem,simprocAttr];have hlen:∀ r h',jK s b ex t (aR s b c) r h'->h'.length=h.length:=λr h' hp=>by
   obtain ⟨h1,t1,e1,p1,l1,_⟩:=hp;rw [e1,hh,aI,GL p1,l1];unfold H7;rw [aI];rfl
  have hd7:∀ u:Heap,(h.map (λ_=>AObj.dead)++u)[7]?=some .dead:=λu=>by
   have hl:7<h.length:=by
    rw [hh];unfold H7;rw [Eg h3',aI];show 7<7+_;simp [D3]
   rw [be (by simpa using hl),cv,bE hl];rfl
  have hfr:=ib hbo hba (hc.mono λr h' hp=>⟨hlen r h' hp,hp⟩) [AObj.row 2 [AV.agg [AV.p (PV.bool c.written),AV.func (Fn.func F) first caps]]];refine PE hfr (λv h2 hr=>?_) (λv h2 hr T hT=>?_)
  .obtain ⟨h3,rfl,hl3,hp⟩:=hr;refine ⟨QW _ hl3,?_⟩;obtain ⟨h1,t1,rfl,p1,l1,k1⟩:=hp;rw [h3'] at k1;rw [Eg k1]
   cases ha:aR s b c with
   |error e=>rw [ha] at p1;cases p1.1
   |ok q =>
    obtain ⟨b',a⟩:=q;rw [ha] at p1;obtain ⟨hv,hx⟩:=p1;cases hv;have hd:eh s b line=.ok (b',a,c.written):=by unfold eh;rw [hq];dsimp only;rw [ha]
    rcases hx with ⟨ex',rfl⟩ | ⟨h0,l,x,rfl⟩
    .simp only [sx,hd7,go_sem,simprocAttr];refine CL ?_;simp only [go_sem,simprocAttr];exact ⟨B7 s b' ex',_,rfl,rfl,fo s b' ex',trivial,by unfold ol;rw [hd];exact ⟨rfl,.inl ⟨_,rfl⟩⟩⟩
    .simp only [sx,hd7,go_sem,simprocAttr];refine CL ?_;simp only [go_sem,simprocAttr];exact ⟨wR s b' l x,_,rfl,rfl,Du s b' l x,trivial,by unfold ol;rw [hd];exact ⟨rfl,.inr ⟨h0,_,_,rfl⟩⟩⟩
  .obtain ⟨h3,rfl,hl3,hp⟩:=hr;obtain ⟨h1,t1,rfl,p1,l1,k1⟩:=hp;rw [h3'] at k1;rw [Eg k1]
   cases ha:aR s b c with
   |ok q=>rw [ha] at p1;cases p1.1
   |error e =>
    rw [ha] at p1;obtain ⟨hv,rfl⟩:=p1;cases hv;have hd:eh s b line=.error e:=by unfold eh;rw [hq];dsimp only;rw [ha]
    have hT4:=hT 4 rfl;have hT5:=hT 5 rfl;have hT6:=hT 6 rfl;simp only [go_sem,simprocAttr] at hT4 hT5 hT6;simp only [go_sem,simprocAttr];refine Ad ?_;simp only [hT4,hT5,hT6,go_sem,simprocAttr];exact ⟨B7 s b ex,_,rfl,rfl,fo s b ex,trivial,by unfold ol;rw [hd];exact ⟨rfl,rfl⟩⟩
def K9:Cmd->Prop
 |.lot name _ _ _=>name.length<=20
 |.batch name _ _ _=>name.length<=20
 |_=>True
theorem CG {w v} (h:aV w=some v):v.length<=20:=by
 unfold aV at h;split at h
 .rename_i hn;cases h;unfold nameOk at hn;rw [cK,decide_eq_true_eq,aq] at hn;omega
 .cases h
theorem Q1 {v} {ws} {c} (h:dd v ws=some c):K9 c:=by
 unfold dd at h;split at h
 .split at h
  .split at h
   .rename_i h1 _ _ _;cases h;exact CG h1
   .cases h
  .cases h
 split at h
 .split at h
  .split at h
   .rename_i h1 _ _ _;cases h;exact CG h1
   .cases h
  .cases h
 split at h
 .split at h
  .simp only [bT] at h;obtain ⟨_,_,rfl⟩:=h;trivial
  .cases h
 split at h
 .split at h
  .simp only [bT] at h;obtain ⟨_,_,rfl⟩:=h;trivial
  .cases h
 split at h
 .split at h
  .simp only [bT] at h;obtain ⟨_,_,rfl⟩:=h;trivial
  .cases h
 split at h
 .split at h
  .simp only [bT] at h;obtain ⟨_,_,rfl⟩:=h;trivial
  .cases h
 split at h
 .split at h
  .split at h
   .cases h;trivial
   .cases h
  .cases h
 split at h
 .split at h
  .cases h;trivial
  .cases h
 split at h
 .split at h
  .split at h
   .cases h;trivial
   .cases h
  .cases h
 split at h
 .split at h
  .split at h
   .cases h;trivial
   .cases h
  .cases h
 split at h
 .split at h
  .cases h;trivial
  .cases h
 .cases h
theorem Tw {l} {c} (h:fD l=.ok c):K9 c:=by
 unfold fD at h;split at h
 .cases h
 .split at h
  .cases h;trivial
  .split at h
   .cases h
   .split at h
    .rename_i h1;cases h;exact Q1 h1
    .cases h
theorem MZ (l):(bs l).size=l.length:=aq l
theorem BkOk.mono {s} {b} {n m} (h:BkOk s b n) (hm:n<=m) (hf:m<=40):BkOk s b m :=
 {h with
  grams:=λx hx=>by have:=h.grams x hx;exact ⟨this.1,by omega⟩
  poured:=by have:=h.poured;exact ⟨this.1,by omega⟩
  lost:=by have:=h.lost;exact ⟨this.1,by omega⟩
  few:=hf }
theorem s5 {α:Type} {l:List α} {i} {a x} (h:x∈l.set i a):x∈l\/x=a:=Nw h
theorem U5 {s} {b b'} {n} {c} {a} (hs:SOk s) (hb:BkOk s b n) (hf:n+1<=40) (hc:K9 c) (h:aR s b c=.ok (b',a)):BkOk s b' (n+1):=by
 have hm:=hb.mono (Nat.le_succ n) hf
 cases c with
 |lot name kind grams rs =>
  simp only [aR] at h;split at h
  .cases h
  split at h
  .cases h
  split at h
  .cases h
  rename_i hg;split at h
  .cases h
  split at h
  .cases h
  rename_i hl;have hg':1<=grams/\grams<=100000:=Classical.byContradiction hg;have hl':b.lots.length<8:=Classical.byContradiction hl;cases h;refine { hm with lots:=?_,grams:=?_,names:=?_,waits:=?_ }
  .simp;omega
  .intro x hx;rcases ea.1 hx with hx | hx
   .exact hm.grams x hx
   .rw [fT.1 hx];dsimp only;omega
  .intro x hx;rcases ea.1 hx with hx | hx
   .exact hm.names x hx
   .rw [fT.1 hx];dsimp only;rw [MZ];exact hc
  .intro x hx;have:=hm.waits x hx
   exact ⟨this.1,⟨this.2.1.1,by simp;omega⟩,this.2.2⟩
 |batch name colour lot grams =>
  simp only [aR] at h;split at h
  .cases h
  split at h
  .cases h
  split at h
  .cases h
  rename_i hi;split at h
  .cases h
  rename_i hg;split at h
  .cases h
  rename_i x hx;split at h
  .cases h
  rename_i hx2;split at h
  .cases h
  rename_i hl;have hg':1<=grams/\grams<=100000:=Classical.byContradiction hg;have hl':b.batches.length<7:=Classical.byContradiction hl;have hx':grams<=x.grams:=Classical.byContradiction hx2;have hxg:=hm.grams x (aL hx);have hil:=(aE.1 hx).1;cases h;refine { hm with lots:=?_,batches:=?_,grams:=?_,names:=?_,waits:=?_ }
  .simp;exact hm.lots
  .simp;omega
  .intro y hy;rcases s5 hy with hy | rfl
   .exact hm.grams y hy
   .dsimp only;omega
  .intro y hy;rcases s5 hy with hy | rfl
   .exact hm.names y hy
   .exact hm.names x (aL hx)
  .intro y hy;rw [zp];rcases ea.1 hy with hy | hy
   .exact hm.waits y hy
   .rw [fT.1 hy];dsimp only
    exact ⟨hg',⟨by omega,by omega⟩,by rw [MZ];exact hc⟩
 |drop name =>
  simp only [aR] at h;split at h
  .cases h
  split at h
  .cases h
  rename_i y hy;split at h
  .cases h
  rename_i x hx;have hxg:=hb.grams x (aL hx);have hyw:=hm.waits y (aL hy);cases h;refine { hm with lots:=?_,batches:=?_,grams:=?_,names:=?_,waits:=?_ }
  .simp;exact hm.lots
  .have:=hm.batches;rw [tO];split<;>omega
  .intro z hz;rcases s5 hz with hz | rfl
   .exact hm.grams z hz
   .dsimp only;omega
  .intro z hz;rcases s5 hz with hz | rfl
   .exact hm.names z hz
   .exact hm.names x (aL hx)
  .intro z hz;rw [zp]
   exact hm.waits z (List.mem_of_mem_eraseIdx hz)
 |plan c =>
  simp only [aR] at h;split at h
  .cases h
  .cases h;exact hm
 |pour c =>
  simp only [aR] at h;split at h
  .cases h
  .rename_i o m hq;have hbf:=uO hs hb hq;have hsum:=qo hb b.batches λx hx=>hx;have hp:=hb.poured;have hl:=hb.lost;have hbl:=hb.batches;have e:NK b.batches=p5 b.batches:=rfl;cases h;refine { hm with batches:=?_,waits:=?_,poured:=?_,lost:=?_ }
   .exact dD _
   .intro x hx;cases hx
   .dsimp only;rw [e];omega
   .dsimp only;omega
 |test text =>
  simp only [aR] at h;split at h
  .cases h
  split at h
  .cases h
  rename_i hl;have hl':b.tests.length<8:=Classical.byContradiction hl;cases h
  exact { hm with tests:=by simp;omega }
 |promise kind =>
  simp only [aR] at h;split at h
  .cases h
  .cases h;exact hm
 |box kind hours =>
  simp only [aR] at h;split at h
  .cases h
  split at h
  .cases h
  split at h
  .cases h
  rename_i hl;have hl':b.boxes.length<20:=Classical.byContradiction hl;cases h
  exact { hm with boxes:=by simp;omega }
 |look=>simp only [aR] at h;cases h;exact hm
 |wick kind a b c d =>
  simp only [aR] at h;split at h
  .cases h
  split at h
  .cases h
  split at h
  .cases h
  split at h
  .cases h
  .cases h;exact hm
 |blend a b c =>
  simp only [aR] at h;split at h
  .cases h
  .cases h;exact hm
 |stock=>simp only [aR] at h;cases h;exact hm
def eU (e:Int):Prop:=0<=e/\e<=12
theorem eU.ite {p} [Decidable p] {a b} (h1:eU a) (h2:eU b):eU (if p then a else b):=by split<;>assumption
theorem Up (s) (c):eU (Wk.eS s c):=by
 unfold Wk.eS;repeat (first | apply eU.ite | exact ⟨by decide,by decide⟩)
theorem Uj {s} {c} {x} (h:Wk.shopErr s=0):eU (Wk.ej s c x).2:=by
 unfold Wk.ej;split
 .split<;>(unfold eU;dsimp only;decide)
 .dsimp only;unfold Wk.g8;rw [if_pos h];split
  .exact Up s c
  .unfold eU;decide
theorem Uk (nk) (t):eU (b9 nk t):=by
 unfold b9;repeat (first | apply eU.ite | exact ⟨by decide,by decide⟩)
theorem BI (nk):∀ l,eU (cV nk l)
 |[]=>by unfold eU cV;decide
 |t::r=>by
  rw [cV];split
  .exact BI nk r
  .exact Uk nk t
theorem Un {s} {l} {k} (h:(hrCheck s).2.2=0):eU (ep s l k).2:=by
 have hl:eU (bv s l k).2:=by
  unfold bv;split
  .split
   .unfold eU;decide
   .split
    .unfold eU;dsimp only;decide
    .split<;>(unfold eU;dsimp only;decide)
  .dsimp only;unfold dg;rw [if_pos h];split
   .unfold eU;decide
   .exact BI _ _
 unfold ep;split
 .unfold eU;dsimp only;decide
 .exact hl
theorem Um {s} {a} (h:(hrCheck s).2.2=0):eU (aP s a).2:=by
 unfold aP;split
 .split
  .unfold eU;dsimp only;decide
  .split
   .unfold eU;dsimp only;decide
   .split<;>(unfold eU;dsimp only;decide)
 .dsimp only;unfold cd;rw [if_pos h];exact BI _ _
theorem RF (s) (b):eU (Cl.eL s b):=by
 unfold Cl.eL;repeat (first | apply eU.ite | exact ⟨by decide,by decide⟩)
theorem C3 (s):∀ l,eU (Cl.fi s l)
 |[]=>by unfold eU Cl.fi;decide
 |b::r=>by
  rw [Cl.fi];split
  .exact C3 s r
  .exact RF s b
theorem Uo {s} {k} {l} (h:(Cl.clCheck s).2.2=0):eU (Cl.dR s k l):=by
 unfold Cl.dR;rw [if_pos h];split
 .unfold Cl.s6;split
  .exact C3 s l
  .unfold eU;decide
 .unfold eU;decide
theorem Ul {t} {rs} {k} (h:(Wx.wxCheck t).2.2=0):eU (Wx.bI t rs k).2.2:=by
 unfold Wx.bI;split
 .split
  .unfold Wx.m9;split
   .unfold eU;dsimp only;decide
   .split
    .unfold eU;dsimp only;decide
    .split<;>(unfold eU;dsimp only;decide)
  .unfold eU;dsimp only;decide
 .dsimp only;unfold Wx.eN;rw [if_pos h];split
  .split<;>(unfold eU;decide)
  .unfold eU;decide
theorem RE {l} {w} (h:yg l=0):eU (cb l w).2.2:=by
 unfold cb;split
 .split<;>(unfold eU;dsimp only;decide)
 .dsimp only;unfold iR;rw [if_pos h];split
  .unfold LZ;repeat (first | apply eU.ite | exact ⟨by decide,by decide⟩)
  .unfold eU;decide
theorem sX {e} (h:eU e) (h0:e≠0):1<=e/\e<=12:=by unfold eU at h;omega
theorem Gk {s} {b} {c} {e} (hs:SOk s) (h:lW s b c=.error e):1<=e/\e<=12:=by
 unfold lW at h;dsimp only at h;split at h
 .cases h;decide
 .split at h
  .rename_i h0;cases h;exact sX (Uo hs.colour) h0
  .split at h
   .cases h;decide
   .cases h
theorem EX {s} {b} {k} {e} (hs:SOk s) (h:gb s b k=.error e):1<=e/\e<=12:=by
 unfold gb at h;dsimp only at h;split at h
 .cases h;decide
 .split at h
  .rename_i h0;cases h;exact sX (Un hs.hour) h0
  .cases h
theorem SC {s} {b} {c} {e} (hs:SOk s) (h:aR s b c=.error e):1<=e/\e<=12:=by
 cases c with
 |lot name kind grams rs =>
  simp only [aR] at h;split at h
  .cases h;decide
  split at h
  .cases h;decide
  split at h
  .cases h;decide
  split at h
  .rename_i h0;cases h;exact sX (Ul hs.wax) h0
  split at h
  .cases h;decide
  .cases h
 |batch name colour lot grams =>
  simp only [aR] at h;split at h
  .cases h;decide
  split at h
  .cases h;decide
  split at h
  .cases h;decide
  split at h
  .cases h;decide
  split at h
  .cases h;decide
  split at h
  .cases h;decide
  split at h
  .cases h;decide
  .cases h
 |drop name =>
  simp only [aR] at h;split at h
  .cases h;decide
  split at h
  .cases h;decide
  split at h
  .cases h;decide
  .cases h
 |plan c =>
  simp only [aR] at h;split at h
  .rename_i h0;cases h;exact Gk hs h0
  .cases h
 |pour c =>
  simp only [aR] at h;split at h
  .rename_i h0;cases h;exact Gk hs h0
  .cases h
 |test text =>
  simp only [aR] at h;split at h
  .rename_i h0;cases h;exact sX (Um hs.hour) h0
  split at h
  .cases h;decide
  .cases h
 |promise kind =>
  simp only [aR] at h;split at h
  .rename_i h0;cases h;exact EX hs h0
  .cases h
 |box kind hours =>
  simp only [aR] at h;split at h
  .rename_i h0;cases h;exact EX hs h0
  split at h
  .cases h;decide
  split at h
  .cases h;decide
  .cases h
 |look=>simp only [aR] at h;cases h
 |wick kind a b c d =>
  simp only [aR] at h;split at h
  .cases h;decide
  split at h
  .cases h;decide
  split at h
  .rename_i h0;cases h;exact sX (Uj hs.wick) h0
  split at h
  .cases h;decide
  .cases h
 |blend a b c =>
  simp only [aR] at h;split at h
  .rename_i h0;cases h;exact sX (RE hs.blend) h0
  .cases h
 |stock=>simp only [aR] at h;cases h
def bm (s:ChShop):Int×Int×Int :=
 if (Wx.wxCheck s.wax).2.2=0 then
  if (bdCheck s.blend).2.2=0 then
   if (Wk.cj s.wick).2.2=0 then
    if (hrCheck s.hour).2.2=0 then
     if (Cl.clCheck s.colour).2.2=0 then (0,0,0) else (5,0,(Cl.clCheck s.colour).2.2)
    else (4,0,(hrCheck s.hour).2.2)
   else (3,0,(Wk.cj s.wick).2.2)
  else (2,0,(bdCheck s.blend).2.2)
 else (1,0,(Wx.wxCheck s.wax).2.2)
theorem zG {s} (h:(bm s).2.2=0):SOk s:=by
 unfold bm at h;split at h
 .rename_i h0;split at h
  .rename_i h1;split at h
   .rename_i h2;split at h
    .rename_i h3;split at h
     .rename_i h4;exact ⟨h0,h1,h2,h3,h4⟩
     .contradiction
    .contradiction
   .contradiction
  .contradiction
 .contradiction
theorem Ge (s):ah TP 56 [s.pv] (al (bm s)):=by
 refine aa (ai (by kernel_rfl) rfl zbS) rfl ?_;simp only [ChShop.cells,go_sem,simprocAttr];refine ae (Wx.pU s.wax) rfl ?_;simp only [al,go_sem,simprocAttr];refine ae (za s.blend) rfl ?_;simp only [al,go_sem,simprocAttr];refine ae (Wk.pU s.wick) rfl ?_;simp only [al,go_sem,simprocAttr];refine ae (Ga s.hour) rfl ?_;simp only [al,go_sem,simprocAttr];refine ae (Cl.pU s.colour) rfl ?_;simp only [al,go_sem,simprocAttr];refine bn ?_;by_cases h0:(Wx.wxCheck s.wax).2.2=0;rotate_left
 .have hb:((Wx.wxCheck s.wax).2.2 != 0)=true:=by simpa using h0
  have hs:bm s=(1,0,(Wx.wxCheck s.wax).2.2):=by unfold bm;rw [if_neg h0]
  simp only [hb,hs,al,go_sem,simprocAttr]
 simp only [h0,go_sem,simprocAttr];refine bn ?_;by_cases h1:(bdCheck s.blend).2.2=0;rotate_left
 .have hb:((bdCheck s.blend).2.2 != 0)=true:=by simpa using h1
  have hs:bm s=(2,0,(bdCheck s.blend).2.2):=by unfold bm;rw [if_pos h0,if_neg h1]
  simp only [hb,hs,al,go_sem,simprocAttr]
 simp only [h1,go_sem,simprocAttr];refine bn ?_;by_cases h2:(Wk.cj s.wick).2.2=0;rotate_left
 .have hb:((Wk.cj s.wick).2.2 != 0)=true:=by simpa using h2
  have hs:bm s=(3,0,(Wk.cj s.wick).2.2):=by unfold bm;rw [if_pos h0,if_pos h1,if_neg h2]
  simp only [hb,hs,al,go_sem,simprocAttr]
 simp only [h2,go_sem,simprocAttr];refine bn ?_;by_cases h3:(hrCheck s.hour).2.2=0;rotate_left
 .have hb:((hrCheck s.hour).2.2 != 0)=true:=by simpa using h3
  have hs:bm s=(4,0,(hrCheck s.hour).2.2):=by unfold bm;rw [if_pos h0,if_pos h1,if_pos h2,if_neg h3]
  simp only [hb,hs,al,go_sem,simprocAttr]
 simp only [h3,go_sem,simprocAttr];refine bn ?_;by_cases h4:(Cl.clCheck s.colour).2.2=0;rotate_left
 .have hb:((Cl.clCheck s.colour).2.2 != 0)=true:=by simpa using h4
  have hs:bm s=(5,0,(Cl.clCheck s.colour).2.2):=by unfold bm;rw [if_pos h0,if_pos h1,if_pos h2,if_pos h3,if_neg h4]
  simp only [hb,hs,al,go_sem,simprocAttr]
 simp only [h4,go_sem,simprocAttr];refine bn ?_;have hs:bm s=(0,0,0):=by unfold bm;rw [if_pos h0,if_pos h1,if_pos h2,if_pos h3,if_pos h4]
 simp only [hs,al,go_sem,simprocAttr]
theorem Hv (s):ah TP 26 [s.pv] (al (bm s)):=by
 refine aa (ai (by kernel_rfl) rfl zcg) rfl ?_;simp only [ChShop.cells,go_sem,simprocAttr];refine ae (Wx.pT s.wax) rfl ?_;simp only [al,go_sem,simprocAttr];refine ae (Hx s.blend) rfl ?_;simp only [al,go_sem,simprocAttr];refine ae (Wk.pT s.wick) rfl ?_;simp only [al,go_sem,simprocAttr];refine ae (Hu s.hour) rfl ?_;simp only [al,go_sem,simprocAttr];refine ae (Cl.pT s.colour) rfl ?_;simp only [al,go_sem,simprocAttr];refine bn ?_;by_cases h0:(Wx.wxCheck s.wax).2.2=0;rotate_left
 .have hb:((Wx.wxCheck s.wax).2.2 != 0)=true:=by simpa using h0
  have hs:bm s=(1,0,(Wx.wxCheck s.wax).2.2):=by unfold bm;rw [if_neg h0]
  simp only [hb,hs,al,go_sem,simprocAttr]
 simp only [h0,go_sem,simprocAttr];refine bn ?_;by_cases h1:(bdCheck s.blend).2.2=0;rotate_left
 .have hb:((bdCheck s.blend).2.2 != 0)=true:=by simpa using h1
  have hs:bm s=(2,0,(bdCheck s.blend).2.2):=by unfold bm;rw [if_pos h0,if_neg h1]
  simp only [hb,hs,al,go_sem,simprocAttr]
 simp only [h1,go_sem,simprocAttr];refine bn ?_;by_cases h2:(Wk.cj s.wick).2.2=0;rotate_left
 .have hb:((Wk.cj s.wick).2.2 != 0)=true:=by simpa using h2
  have hs:bm s=(3,0,(Wk.cj s.wick).2.2):=by unfold bm;rw [if_pos h0,if_pos h1,if_neg h2]
  simp only [hb,hs,al,go_sem,simprocAttr]
 simp only [h2,go_sem,simprocAttr];refine bn ?_;by_cases h3:(hrCheck s.hour).2.2=0;rotate_left
 .have hb:((hrCheck s.hour).2.2 != 0)=true:=by simpa using h3
  have hs:bm s=(4,0,(hrCheck s.hour).2.2):=by unfold bm;rw [if_pos h0,if_pos h1,if_pos h2,if_neg h3]
  simp only [hb,hs,al,go_sem,simprocAttr]
 simp only [h3,go_sem,simprocAttr];refine bn ?_;by_cases h4:(Cl.clCheck s.colour).2.2=0;rotate_left
 .have hb:((Cl.clCheck s.colour).2.2 != 0)=true:=by simpa using h4
  have hs:bm s=(5,0,(Cl.clCheck s.colour).2.2):=by unfold bm;rw [if_pos h0,if_pos h1,if_pos h2,if_pos h3,if_neg h4]
  simp only [hb,hs,al,go_sem,simprocAttr]
 simp only [h4,go_sem,simprocAttr];refine bn ?_;have hs:bm s=(0,0,0):=by unfold bm;rw [if_pos h0,if_pos h1,if_pos h2,if_pos h3,if_pos h4]
 simp only [hs,al,go_sem,simprocAttr]
end Ch
theorem eC {P} {H} {Q} {x} {A} (live) (i sz s) (u v) (hi:A.bs<=i) (hb:A.bs<=A.h.length) (hx:A.h[i]?=some (.row s [u])) (hn:zY A.h.length u v) (hl:∀ t,t∈live->below A.h.length (A.tmps t)) (ho:∀ o,o∈A.h->bi A.h.length o) (hd:A.df=[])
  (k:@W ⟨P,H,.loop x,Q⟩ { n:=A.n,bs:=A.bs,rc:=A.rc,tmps:=cY (ce A.tmps live []),h:=A.h.set i (.row s [v])++[.row sz []],df:=A.df }):@W ⟨P,H,.loop x,Q⟩ A:=by
 have hil:i<A.h.length:=(aE.1 hx).1
 have hw:=tS (P:=P) (A:={ A with h:=A.h++[.row sz []] }) (T:=cY (ce A.tmps live [])) A.h.length i sz s [u] [v] hb hi (by simp) (by omega)
  (by rw [be hil];exact hx) rfl (λn x y h1 h2=>by
   match n,h1,h2 with
   |0,h1,h2=>cases h1;cases h2;exact hn
   |n+1,h1,h2=>simp at h1) (λt=>by
   rcases qy (T:=A.tmps) live t with ⟨h1,h2⟩ | h1
   .exact .inl ⟨h1,Ar (hl t h2)⟩
   .exact .inr h1) (λid o hid ho'=>by
   have hlt:id<A.h.length:=by
    have:=(aE.1 ho').1;simp at this;omega
   rw [be hlt] at ho'
   exact CD (ho o (aL ho'))) hd
 have e:((A.h++[AObj.row sz []]).set A.h.length (.row sz [])).set i (.row s [v])=A.h.set i (.row s [v])++[.row sz []]:=by
  rw [tP _ _ (bM _),El];show (A.h++[AObj.row sz []]).set i _=_;rw [Eh _ _ hil]
 refine fb (Et sz) (fb hw ?_);dsimp only;rw [e];exact k
theorem zh {P} {Q} {σ} {V:σ->Prop} {I} {μ} {s0} {A} (live) (k i sz s) (u v) (hk:A.bs<=k) (hi:A.bs<=i) (hkl:k<A.h.length) (hik:i≠k) (hx:A.h[i]?=some (.row s [u])) (hn:zY k u v)
  (hl:∀ t,t∈live->rB (·≠k) (A.tmps t)) (ho:∀ o,o∈A.h->pG (·≠k) o) (hd:A.df=[])
  (kk:@WQ ⟨eK (hZ P V I μ s0) Q⟩ .normal { n:=A.n,bs:=A.bs,rc:=A.rc,tmps:=cY (ce A.tmps live []),h:=(A.h.set k (.row sz [])).set i (.row s [v]),df:=A.df }):@WQ ⟨eK (hZ P V I μ s0) Q⟩ .normal A:=by
 refine SM (tS (T:=cY (ce A.tmps live [])) k i sz s [u] [v] hk hi hkl hik hx rfl (λn x y h1 h2=>by
   match n,h1,h2 with
   |0,h1,h2=>cases h1;cases h2;exact hn
   |n+1,h1,h2=>simp at h1) (λt=>by
   rcases qy (T:=A.tmps) live t with ⟨h1,h2⟩ | h1
   .exact .inl ⟨h1,hl t h2⟩
   .exact .inr h1) (λid o hid ho'=>ho o (aL ho')) hd) kk
theorem r6 {P} {A} (id):fW P A { A with h:=A.h.set id .dead } :=
 ⟨rfl,rfl,λM0 S0 b cs0 m a w hr=>⟨gC (λi=>i==id) m,by
  rw [<-Fz]
  exact hr.ahead (m':=gC (λi=>i==id) m) (h':=eH (λi=>i==id) A.h) (w':=w) (BG ⟨m,A.h,w⟩ (λi=>i==id) _) (yV hr.hok _)⟩⟩
theorem fq {k} {u v} {cs} (j) (hu:u.cells=some cs) (hv:v.cells=some (cs.set j (.slice k 0 0 0))) (hj:cs[j]?=some (.p .nilslice)):zY k u v:=by
 refine ⟨cs,_,hu,hv,by simp,λi c d h1 h2=>?_⟩;by_cases hi:j=i
 .subst hi;rw [iP (aE.1 hj).1] at h2;cases h2;rw [hj] at h1;cases h1;exact .inr ⟨rfl,rfl⟩
 .rw [d5 hi,h1] at h2;cases h2;exact .inl rfl
namespace Ch
set_option maxRecDepth 4000
def aS:ChBooks:=⟨[],[],[],[],0,0⟩
def Bv (s:ChShop):AObj:=.row 23 [.p (.agg ([.nilslice,.nilslice,.nilslice,.nilslice,.int .i64 0,.int .i64 0]++s.cells))]
theorem Kg (s) (a):aC TP 34 [.p s.pv] [a] (λr h'=>r=.ret (.tuple [.ptr 2 1 0 0,.p (.int .i64 (bm s).2.2)])/\h'=[a,.row 17 [.p s.pv],Bv s]):=by
 refine aB (ai (by kernel_rfl) rfl TT) rfl ?_;simp only [go_sem,simprocAttr];refine ae (Ge s) rfl ?_;simp only [al,Bv,go_sem,simprocAttr]
def eE (s:ChShop) (q:ChBooks×List (List UInt8)×List (List UInt8)) (l:List UInt8):ChBooks×List (List UInt8)×List (List UInt8) :=
 match eh s q.1 l with
 |.error e=>(q.1,q.2.1++[joinL [H9,bH e]],q.2.2)
 |.ok (b,a,w)=>(b,q.2.1++[a],if w=true then q.2.2++[l] else q.2.2)
def bN (s:ChShop) (ls:List (List UInt8)):ChBooks×List (List UInt8)×List (List UInt8):=ls.foldl (eE s) (aS,[],[])
def bz (s:ChShop) (ls:List (List UInt8)):Int:=if (bm s).2.2=0 then (if 40<ls.length then 3 else 0) else (bm s).2.2
theorem NP (s) (q) (l):(eE s q l).2.1.length=q.2.1.length+1/\(eE s q l).2.2.length<=q.2.2.length+1:=by
 unfold eE;split
 .simp
 .dsimp only;refine ⟨by simp,?_⟩;split<;>simp
theorem FK (s):∀ (d:List (List UInt8)) (q),(d.foldl (eE s) q).2.1.length=q.2.1.length+d.length/\(d.foldl (eE s) q).2.2.length<=q.2.2.length+d.length
 |[],q=>⟨rfl,bM _⟩
 |l::d,q=>by
  have h1:=NP s q l;have h2:=FK s d (eE s q l);rw [my,ct];omega
theorem Ic {s} {q} {l} {n} (hs:SOk s) (hb:BkOk s q.1 n) (hn:n+1<=40):BkOk s (eE s q l).1 (n+1):=by
 unfold eE;split
 .exact hb.mono (Nat.le_succ n) hn
 .rename_i b a w hd;dsimp only;unfold eh at hd;split at hd
  .cases hd
  .rename_i c hc;split at hd
   .cases hd
   .rename_i b' a' ha;cases hd;exact U5 hs hb hn (Tw hc) ha
theorem IF {s} (hs:SOk s):∀ (d:List (List UInt8)) (q) (n),BkOk s q.1 n->n+d.length<=40->BkOk s (d.foldl (eE s) q).1 (n+d.length)
 |[],q,n,h,_=>h
 |l::d,q,n,h,hn=>by
  rw [ct] at hn |-;have h1:=Ic (l:=l) hs h (by omega);have h2:=IF hs d (eE s q l) (n+1) h1 (by omega);rw [my,show n+(d.length+1)=n+1+d.length by omega];exact h2
theorem Qh (s):BkOk s aS 0 :=
 ⟨by decide,by decide,by decide,by decide,λx hx=>(by cases hx),λx hx=>(by cases hx),λx hx=>(by cases hx),by decide,by decide,by decide⟩
theorem Id (s) (d):(bN s d).2.1.length=d.length/\(bN s d).2.2.length<=d.length:=by
 have:=FK s d (aS,[],[]);simpa [bN] using this
theorem Lw {s} (hs:SOk s) {d} (hd:d.length<=40):BkOk s (bN s d).1 d.length:=by
 have:=IF hs d (aS,[],[]) 0 (Qh s) (by omega);rw [jv] at this;exact this
theorem I' (s) (b) (l) (ex):∀ o,o∈wR s b l ex->pG (·≠4) o:=by
 intro o ho;simp only [wR,bw,eD,or_false] at ho;rcases ho with rfl | rfl | rfl | rfl | rfl | rfl | rfl
 .trivial
 .trivial
 .intro x hx;simp only [fT] at hx;subst hx;intro c hc;simp only [ChShop.cells,bB,cm,ea,bw,eD,or_false] at hc;rcases hc with (rfl | rfl | rfl | rfl | rfl | rfl) | hc
  .show 3≠4;decide
  .trivial
  .show 5≠4;decide
  .show 6≠4;decide
  .trivial
  .trivial
  .rcases hc with rfl | rfl | rfl | rfl | rfl | rfl | rfl | rfl | rfl | rfl | rfl | rfl | rfl | rfl | rfl | rfl | rfl<;>trivial
 .intro x hx;obtain ⟨y,_,rfl⟩:=ec.1 hx;trivial
 .intro x hx;rcases ea.1 hx with hx | hx
  .obtain ⟨y,_,rfl⟩:=ec.1 hx;trivial
  .obtain ⟨y,_,rfl⟩:=ec.1 hx;trivial
 .intro x hx;obtain ⟨y,_,rfl⟩:=ec.1 hx;trivial
 .intro x hx;obtain ⟨y,_,rfl⟩:=ec.1 hx;trivial
theorem EO {s} {b} {l} {ex} (u v) (hu:∀ x,x∈u->rB (·≠4) x) (hv:∀ x,x∈v->rB (·≠4) x):∀ o,o∈wR s b l ex++[.row 1 u,.row 1 v]->pG (·≠4) o:=by
 intro o ho;rcases ea.1 ho with ho | ho
 .exact I' s b l ex o ho
 .simp only [bw,eD,or_false] at ho;rcases ho with rfl | rfl
  .exact hu
  .exact hv
theorem Ds {s} {b} {ex} {q} {r} {h'} (h:ol s b ex q r h'):h'.length=7:=by
 unfold ol at h;split at h
 .rw [h.2];rfl
 .rcases h.2 with ⟨_,h⟩ | ⟨_,_,_,h⟩<;>rw [h]<;>rfl
theorem Q0 {l} {e} (h:fD l=.error e):1<=e/\e<=12:=by
 unfold fD at h;split at h
 .cases h;decide
 .split at h
  .cases h
  .split at h
   .cases h;decide
   .split at h
    .cases h
    .cases h;decide
theorem ON {s} {b} {l} {e} (hs:SOk s) (h:eh s b l=.error e):1<=e/\e<=12:=by
 unfold eh at h;split at h
 .rename_i h1;cases h;exact Q0 h1
 .split at h
  .rename_i h1;cases h;exact SC hs h1
  .cases h
def bt (l:List (List UInt8)):PV:=.slice 1 (l.map λx=>.str (bs x)) false
def k8 (s:ChShop) (ls:List (List UInt8)):PV :=
 if bz s ls=0 then .tuple [.ptr 23 [.agg ((bN s ls).1.cells++s.cells)] 0 0,bt (bN s ls).2.1,bt (bN s ls).2.2,.int .i64 0]
 else .tuple [.nilptr,.nilslice,.nilslice,.int .i64 (bz s ls)]
def fM (s:ChShop) (l:List AV):AV:=.agg (l++[.p (.int .i64 0),.p (.int .i64 0)]++s.cells.map .p)
set_option maxHeartbeats 2000000 in
theorem Ks (s) (ls):ah TP 22 [s.pv,bt ls] (k8 s ls):=by
 refine dC (ai (by kernel_rfl) rfl zcj) rfl ?_;simp only [go_sem,simprocAttr];refine cq (Kg s _) (λv h hr=>?_) (λv h hr=>by cases hr.1);obtain ⟨hv,rfl⟩:=hr;cases hv;simp only [bt,go_sem,simprocAttr];by_cases hc:(bm s).2.2=0;rotate_left
 .have hc':((bm s).2.2==0)=false:=by simpa using hc
  have hcn:((bm s).2.2 != 0)=true:=by simpa using hc
  have he:bz s ls=(bm s).2.2:=by rw [bz,if_neg hc]
  simp only [hc',hcn,k8,he,if_neg hc,go_sem,simprocAttr]
 by_cases h40:40<ls.length
 .have hd:decide ((40:Int)<(ls.length:Int))=true:=decide_eq_true (by omega);have he:bz s ls=3:=by rw [bz,if_pos hc,if_pos h40]
  simp only [hc,hd,k8,he,go_sem,simprocAttr]
 have hd:decide ((40:Int)<(ls.length:Int))=false:=decide_eq_false (by omega);have he:bz s ls=0:=by rw [bz,if_pos hc,if_neg h40]
 have hs:=zG hc;have hl:ls.length<1000000000:=by omega
 simp only [hc,hd,go_sem,simprocAttr];refine eC [4,28,29,5,6,30] 2 4 23 _ (fM s [.slice 3 0 0 0,.p .nilslice,.p .nilslice,.p .nilslice]) (dD _) (dD _) rfl (fq 0 rfl rfl rfl) ?_ ?_ rfl ?_
 .simp only [go_sem,simprocAttr]
 .simp only [Bv,go_sem,simprocAttr]
 simp only [go_sem,simprocAttr];refine eC [4,28,29,5,6,30] 2 4 23 _ (fM s [.slice 3 0 0 0,.slice 4 0 0 0,.p .nilslice,.p .nilslice]) (dD _) (dD _) rfl (fq 1 rfl rfl rfl) ?_ ?_ rfl ?_
 .simp only [go_sem,simprocAttr]
 .simp only [fM,go_sem,simprocAttr]
 simp only [go_sem,simprocAttr];refine eC [4,28,29,5,6,30] 2 3 23 _ (fM s [.slice 3 0 0 0,.slice 4 0 0 0,.slice 5 0 0 0,.p .nilslice]) (dD _) (dD _) rfl (fq 2 rfl rfl rfl) ?_ ?_ rfl ?_
 .simp only [go_sem,simprocAttr]
 .simp only [fM,go_sem,simprocAttr]
 simp only [go_sem,simprocAttr];refine eC [4,28,29,5,6,30] 2 2 23 _ (fM s [.slice 3 0 0 0,.slice 4 0 0 0,.slice 5 0 0 0,.slice 6 0 0 0]) (dD _) (dD _) rfl (fq 3 rfl rfl rfl) ?_ ?_ rfl ?_
 .simp only [go_sem,simprocAttr]
 .simp only [fM,go_sem,simprocAttr]
 simp only [go_sem,simprocAttr];refine cg 5 1 (by simp only [go_sem,simprocAttr]) ?_;simp only [go_sem,simprocAttr];refine cg 6 1 (by simp only [go_sem,simprocAttr]) ?_;refine fb (r6 0) (fb (r6 1) ?_);simp only [fM,go_sem,simprocAttr];have hrun:∀ d,(bN s d).2.1.length=d.length/\(bN s d).2.2.length<=d.length:=λd=>Id s d;have hbk:∀ d:List (List UInt8),d.length<=40->BkOk s (bN s d).1 d.length:=λd hd=>Lw hs hd
 refine br [4,28,29] ls hl (τ:=List PV) (λdone rest _=>True) (λdone ex=>[(5,.slice 7 (bN s done).2.1.length 0 (bN s done).2.1.length),(6,.slice 8 (bN s done).2.2.length 0 (bN s done).2.2.length),(30,.p (.int .i64 done.length))])
  (λdone ex=>B7 s (bN s done).1 ex++[.row 1 ((bN s done).2.1.map mR),.row 1 ((bN s done).2.2.map mR)]) [] trivial ?_ ?_ ?_
 .simp only [bN,aS,List.foldl_nil,ei,cm,aW,go_sem,simprocAttr]
 .intro ex _;have t1:∀ l:List (List UInt8),List.take l.length (l.map λx=>PV.str (bs x))=l.map λx=>PV.str (bs x):=λl=>ga (by simp);have hres:k8 s ls=.tuple [.ptr 23 [.agg ((bN s ls).1.cells++s.cells)] 0 0,bt (bN s ls).2.1,bt (bN s ls).2.2,.int .i64 0]:=by rw [k8,if_pos he]
  simp only [mh,t1,mQ,hres,bt,go_sem,simprocAttr]
 .intro done l r ex e1 _ hx hlt hnx;have hdl:done.length+1<=40:=by
   have:=congrArg List.length e1;simp at this;omega
  obtain ⟨r1,r2⟩:=hrun done;have hst:bN s (done++[l])=eE s (bN s done) l:=by rw [bN,wS];rfl
  have hDn:=Qm s (bN s done).1 ex done.length hs (hbk done (by omega)) l;have hfr:=ib (fo s (bN s done).1 ex) (args:=[.ptr 2 1 0 0,.p (.str (bs l))]) (by simp only [go_sem,simprocAttr]) (hDn.mono λr h' hr=>⟨Ds hr,hr⟩) [.row 1 ((bN s done).2.1.map mR),.row 1 ((bN s done).2.2.map mR)];have hrm1:(bN s done).2.1.length+1<=aw:=by simp only [aw];omega
  have hrm2:(bN s done).2.2.length+1<=aw:=by simp only [aw];omega
  simp only [hlt,hx,go_sem,simprocAttr];refine cq hfr (λv h hr=>?_) (λv h hr=>?_);rotate_left
  .obtain ⟨h',_,_,hr⟩:=hr;unfold ol at hr;split at hr<;>cases hr.1
  obtain ⟨h',rfl,_,hr⟩:=hr;unfold ol at hr
  cases hdn:eh s (bN s done).1 l with
  |error e =>
   rw [hdn] at hr;obtain ⟨hv,rfl⟩:=hr;cases hv;have he:=ON hs hdn;have hs2:eE s (bN s done) l=((bN s done).1,(bN s done).2.1++[joinL [H9,bH e]],(bN s done).2.2):=by rw [eE,hdn]
   have hne:(e != 0)=true:=by rw [bne_iff_ne];omega
   have hsd:=ph [.s H9,.n e] true (by simp) (λw hw=>by
    simp only [bw,eD,or_false] at hw;rcases hw with rfl | rfl
    .show (2:Nat)<=1000;decide
    .exact ⟨by omega,by omega⟩)
   simp only [hne,go_sem,simprocAttr];refine ae hsd rfl ?_;simp only [hrm1,go_sem,simprocAttr];refine aF e1 ex trivial ?_
   simp only [hnx,hst,hs2,aI,bh,bA,bB,cm,Word.ws,kR,yn,aW,go_sem,simprocAttr]
  |ok q =>
   obtain ⟨b',a,w⟩:=q;rw [hdn] at hr;obtain ⟨hv,hx2⟩:=hr;cases hv;have hs2:eE s (bN s done) l=(b',(bN s done).2.1++[a],if w=true then (bN s done).2.2++[l] else (bN s done).2.2):=by rw [eE,hdn]
   rcases hx2 with ⟨ex',rfl⟩ | ⟨h0,l0,x0,rfl⟩
   .cases w
    .simp only [hrm1,go_sem,simprocAttr];refine aF e1 ex' trivial ?_;simp only [hnx,hst,hs2,aI,bh,bA,bB,cm,go_sem,simprocAttr]
    .simp only [hrm1,hrm2,go_sem,simprocAttr];refine aF e1 ex' trivial ?_;simp only [hnx,hst,hs2,aI,bh,bA,bB,cm,go_sem,simprocAttr]
   .cases w
    .simp only [hrm1,go_sem,simprocAttr];refine zh [4,28,29,5,6,30] 4 2 4 23 _ (.agg ([.slice 3 b'.lots.length 0 b'.lots.length,.slice 4 0 0 0,.slice 5 b'.tests.length 0 b'.tests.length,.slice 6 b'.boxes.length 0 b'.boxes.length,.p (.int .i64 b'.poured),.p (.int .i64 b'.lost)]++s.cells.map .p)) (dD _) (dD _) (by show 4<9;decide) (by decide) rfl (fq 1 rfl rfl rfl) ?_ (EO _ _ ?_ ?_) rfl ?_
     .simp only [rB,sL,rA,qa,go_sem,simprocAttr]
     .intro x hx;rcases ea.1 hx with hx | hx
      .obtain ⟨y,_,rfl⟩:=ec.1 hx;trivial
      .rw [fT.1 hx];trivial
     .intro x hx;obtain ⟨y,_,rfl⟩:=ec.1 hx;trivial
     simp only [go_sem,simprocAttr];refine aF e1 [] trivial ?_;simp only [hnx,hst,hs2,h0,aI,bh,bA,bB,cm,ei,aW,go_sem,simprocAttr]
    .simp only [hrm1,hrm2,go_sem,simprocAttr];refine zh [4,28,29,5,6,30] 4 2 4 23 _ (.agg ([.slice 3 b'.lots.length 0 b'.lots.length,.slice 4 0 0 0,.slice 5 b'.tests.length 0 b'.tests.length,.slice 6 b'.boxes.length 0 b'.boxes.length,.p (.int .i64 b'.poured),.p (.int .i64 b'.lost)]++s.cells.map .p)) (dD _) (dD _) (by show 4<9;decide) (by decide) rfl (fq 1 rfl rfl rfl) ?_ (EO _ _ ?_ ?_) rfl ?_
     .simp only [rB,sL,rA,qa,go_sem,simprocAttr]
     .intro x hx;rcases ea.1 hx with hx | hx
      .obtain ⟨y,_,rfl⟩:=ec.1 hx;trivial
      .rw [fT.1 hx];trivial
     .intro x hx;rcases ea.1 hx with hx | hx
      .obtain ⟨y,_,rfl⟩:=ec.1 hx;trivial
      .rw [fT.1 hx];trivial
     simp only [go_sem,simprocAttr];refine aF e1 [] trivial ?_;simp only [hnx,hst,hs2,h0,aI,bh,bA,bB,cm,ei,aW,go_sem,simprocAttr]
end Ch
end Abs
end Go.Proofs.YtfafnkpfamgbbaaGreatDoor
