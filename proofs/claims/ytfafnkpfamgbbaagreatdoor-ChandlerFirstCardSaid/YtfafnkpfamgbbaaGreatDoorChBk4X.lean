/-
  CONTRACTS: chandler: test. No conditions but those in the theorems' heads.
  CONTRACTS: chandler: lot. No conditions but those in the theorems' heads.
  CONTRACTS: chandler: batch. No conditions but those in the theorems' heads.
  CONTRACTS: chandler: drop. No conditions but those in the theorems' heads.
-/
import Derived.Test.YtfafnkpfamgbbaaGreatDoorAbsCutX
import Derived.Test.YtfafnkpfamgbbaaGreatDoorHrLaw0X
set_option linter.unusedSimpArgs false
set_option linter.unusedVariables false
open Go.Proofs.Tryz renaming prog->TP
namespace Go.Proofs.YtfafnkpfamgbbaaGreatDoor
namespace Abs
namespace Ch
set_option maxRecDepth 4000
theorem Hn {s} {a} (h:(aM s a).2=0):bL s.kinds.length (aM s a).1=0/\bS s []=0:=by
 unfold aM at h |-;split at h
 .rename_i h0;rw [if_pos h0];split at h
  .cases h
  .rename_i h1;rw [if_neg h1];split at h
   .cases h
   .rename_i t ht;split at h
    .rename_i hg;rw [if_pos hg];refine ⟨?_,h0⟩;unfold mF at hg;simp only [dA,beq_iff_eq] at hg;exact hg.1
    .cases h
 .rename_i h0;exact absurd h h0
theorem CP {s} (h:bS s []=0):(hrCheck s).2.2=0:=by
 unfold bS at h;split at h
 .assumption
 .exact h
theorem EQ {nk} {t} (h:bL nk t=0):cM t=t.pv:=by
 have:=(fz h).1.two;unfold cM
 cases hm:t.marks with
 |nil=>rw [hm] at this;simp at this
 |cons m r=>simp only [HrTest.pv,hm]
theorem QW {s} {t} {nk} (h:bL nk t=0):(jF s t).1.length<=1000/\∀ i,i∈(jF s t).1->0<=i/\i<1000000000:=by
 have hl:=(fz h).1.len;have hg:∀ (l:List HrMark) (i:Nat),(mj t i l).length<=l.length/\∀ j,j∈mj t i l->0<=j/\j<i+l.length:=by
  intro l
  induction l with
  |nil=>intro i;exact ⟨bR _,λj hj=>by cases hj⟩
  |cons m r ih =>
   intro i;have:=ih (i+1);rw [mj];refine ⟨?_,λj hj=>?_⟩
   .rw [aP,e9];have:(if gI (wo t i)=true then [(i:Int)] else []).length<=1:=by split<;>simp
    omega
   .rcases bX.1 hj with hj | hj
    .split at hj
     .simp at hj;subst hj;simp;omega
     .simp at hj
    .have:=this.2 j hj;simp at this |-;omega
 unfold jF;split
 .unfold vA;split
  .simp
  .have:=hg t.marks 0;refine ⟨j1 this.1 (by omega),λi hi=>?_⟩;have:=this.2 i hi;simp at this;omega
 .simp
theorem GL (s) (b:ChBooks) (ex) (t):B7 s { b with tests:=b.tests++[t] } ex =
  [.dead,.dead,.row 23 [.agg ([.slice 3 b.lots.length 0 b.lots.length,.slice 4 (b.batches.length+ex.length) 0 b.batches.length,.slice 5 (b.tests.length+1) 0 (b.tests.length+1),.slice 6 b.boxes.length 0 b.boxes.length,.p (.int .i64 b.poured),.p (.int .i64 b.lost)]++s.cells.map .p)],
  .row 4 (b.lots.map kj),.row 4 (b.batches.map cj++ex.map .p),.row 3 (b.tests.map nC++[.p t.pv]),.row 2 (b.boxes.map rd)]:=by
 simp only [B7,aP,bu,cp,bQ,cO,nC]
def y6:Hints:=dY [(53,.low),(1007052,.sto),(32,.low),(40,.app 37),(5000001,.app 5)]
theorem QO:aj y6 Tryz.f97=true:=by kernel_rfl
set_option maxHeartbeats 1000000 in
theorem Wa (s) (b) (ex) (n) (hs:SOk s) (hb:BkOk s b n) (text):ay TP 97 [.ptr 2 1 0 0,.p (.str (bs text))] (B7 s b ex) (jz s b ex (aU s b (.test text))):=by
 have hl:=hb.tests;refine bv (ai (by kernel_rfl) rfl QO) rfl ?_;simp only [ChShop.cells,go_sem,simprocAttr];refine ae (Gx s.hour text) rfl ?_;by_cases he:(aM s.hour text).2=0;rotate_left
 .have he':((aM s.hour text).2==0)=false:=by simpa using he
  simp only [cM,he',go_sem,simprocAttr];refine aq (λh=>by cases h) (λ_=>?_);simp only [go_sem,simprocAttr];exact cL (e:=(aM s.hour text).2) (by simp only [aU,if_pos he]) [_] rfl
 obtain ⟨g1,g2⟩:=Hn he;have hpv:=EQ g1;simp only [hpv,he,HrTest.pv,go_sem,simprocAttr];refine aq (λ_=>?_) (λh=>by cases h);simp only [go_sem,simprocAttr];refine aq (λh2=>?_) (λh2=>?_);rotate_left
 .have h2':¬ b.tests.length<8:=by simp at h2;omega
  simp only [go_sem,simprocAttr];exact cL (e:=3) (by simp only [aU,if_neg (not_not_intro he),if_pos h2']) [_] rfl
 have h2':b.tests.length<8:=by simp at h2;omega
 have h2n:¬ ¬ b.tests.length<8:=λh=>h h2';have hrm:b.tests.length+1<=aB:=by simp only [aB];omega
 simp only [hrm,y6,bf,go_sem,simprocAttr];refine And.intro (.inr ⟨5,_,rfl,rfl⟩) ?_;refine aC (WE s.hour (aM s.hour text).1) rfl ?_
 have hact:aU s b (.test text)=.ok ({ b with tests:=b.tests++[(aM s.hour text).1] },
   if (dh s.hour (aM s.hour text).1).2=0 then joinL [bO (dh s.hour (aM s.hour text).1).1.lo,bO (dh s.hour (aM s.hour text).1).1.hi]
   else joinL (Hb::(jF s.hour (aM s.hour text).1).1.map bO)):=by simp only [aU,if_neg (not_not_intro he),if_neg h2n]
 by_cases hr:(dh s.hour (aM s.hour text).1).2=0
 .simp only [y6,hr,Span.pv,go_sem,simprocAttr];have hrg:0<=(dh s.hour (aM s.hour text).1).1.lo/\(dh s.hour (aM s.hour text).1).1.lo<1000000000/\0<=(dh s.hour (aM s.hour text).1).1.hi/\(dh s.hour (aM s.hour text).1).1.hi<1000000000:=by
   have:=uo (fz g1).1;unfold dh;split
   .split
    .dsimp only;omega
    .dsimp only;omega
   .dsimp only;omega
  have hsd:=nH [.n (dh s.hour (aM s.hour text).1).1.lo,.n (dh s.hour (aM s.hour text).1).1.hi] true (by simp) (λw hw=>by
   simp only [cz,eQ,or_false] at hw;rcases hw with rfl | rfl
   .exact ⟨hrg.1,hrg.2.1⟩
   .exact ⟨hrg.2.2.1,hrg.2.2.2⟩)
  refine And.intro rfl ?_;refine ae hsd rfl ?_;simp only [go_sem,simprocAttr];rw [if_pos hr] at hact;exact gc (ex':=ex) (a:=joinL ([Word.n (dh s.hour (aM s.hour text).1).1.lo,.n (dh s.hour (aM s.hour text).1).1.hi].flatMap Word.ws)) hact [_,_] (congrArg (·++[_,_]) (GL s b ex (aM s.hour text).1).symm)
 .have hr':((dh s.hour (aM s.hour text).1).2==0)=false:=by simpa using hr
  simp only [y6,bf,hr',Span.pv,go_sem,simprocAttr];refine And.intro rfl ?_;refine aC (RN s.hour (aM s.hour text).1) rfl ?_;simp only [y6,wO,go_sem,simprocAttr];obtain ⟨o1,o2⟩:=QW (s:=s.hour) g1;have hsd:=nH [.s Hb,.ns (jF s.hour (aM s.hour text).1).1] true (by simp) (λw hw=>by
   simp only [cz,eQ,or_false] at hw;rcases hw with rfl | rfl
   .show (3:Nat)<=1000;decide
   .exact ⟨o1,o2⟩)
  refine ae hsd rfl ?_;simp only [go_sem,simprocAttr];rw [if_neg hr] at hact;exact gc (ex':=ex) (a:=joinL ([Word.s Hb,.ns (jF s.hour (aM s.hour text).1).1].flatMap Word.ws)) (by simpa [Word.ws] using hact) [_,_] (congrArg (·++[_,_]) (GL s b ex (aM s.hour text).1).symm)
theorem Qz (t) (rs) (k):Wx.lv (Wx.Nj t rs k):=by
 have key:∀ (l:List (Nat×Nat)) (p:Span),Wx.lv p->Wx.lv (Wx.joinL (λq=>(Wx.t8 (Wx.io t rs q)).map (Wx.ib k q)) l p):=by
  intro l
  induction l with
  |nil=>intro p h;exact h
  |cons q l ih =>
   intro p h;rw [Wx.joinL];refine ih _ ?_;unfold Wx.t8;by_cases hc:(Wx.io t rs q).lo<=(Wx.io t rs q).hi
   .rw [if_pos hc];have hi:=Wx.C3 hc;refine Wx.Gc h ?_;unfold Wx.ib;split
    .omega
    .split
     .dsimp only;omega
     .dsimp only;omega
   .rw [if_neg hc];exact h
 exact key _ _ (by unfold Wx.lv;decide)
theorem Hh {t} {rs} {k} (h:(Wx.bm t rs k).2.2=0):(0<=(Wx.bm t rs k).1.lo/\(Wx.bm t rs k).1.lo<1000000000)/\0<=(Wx.bm t rs k).1.hi/\(Wx.bm t rs k).1.hi<1000000000:=by
 have hB:=Qz t rs k.toNat;unfold Wx.lv at hB;unfold Wx.bm at h |-;split
 .split
  .unfold Wx.lN;split
   .dsimp only;omega
   .split
    .dsimp only;omega
    .split<;>dsimp only<;>omega
  .dsimp only;omega
 .dsimp only;omega
theorem SOk.waxkinds {s} (h:SOk s):s.wax.kinds.length<1000000000:=by
 have:=(Wx.Co h.wax).kinds;omega
theorem Mr (s) (x:ChLot):ah TP 173 [x.pv,.ptr 1 [.str s] 0 0] (.bool (x.name==s)):=by
 refine aa (ai (by kernel_rfl) rfl Vd) rfl ?_;simp only [go_sem,simprocAttr]
theorem If (s) (x:ChBatch):ah TP 178 [x.pv,.ptr 1 [.str s] 0 0] (.bool (x.name==s)):=by
 refine aa (ai (by kernel_rfl) rfl U') rfl ?_;simp only [go_sem,simprocAttr]
theorem EF (s) (b:ChBooks) (ex) (t):B7 s { b with lots:=b.lots++[t] } ex =
  [.dead,.dead,.row 23 [.agg ([.slice 3 (b.lots.length+1) 0 (b.lots.length+1),.slice 4 (b.batches.length+ex.length) 0 b.batches.length,.slice 5 b.tests.length 0 b.tests.length,.slice 6 b.boxes.length 0 b.boxes.length,.p (.int .i64 b.poured),.p (.int .i64 b.lost)]++s.cells.map .p)],
  .row 4 (b.lots.map kj++[.p t.pv]),.row 4 (b.batches.map cj++ex.map .p),.row 3 (b.tests.map nC),.row 2 (b.boxes.map rd)]:=by
 simp only [B7,aP,bu,cp,bQ,cO,kj]
def EB:Hints:=dY [(64,.low),(76,.app 69),(5000001,.app 6)]
theorem S5:aj EB Tryz.f105=true:=by kernel_rfl
set_option maxHeartbeats 1000000 in
theorem Ze (s) (b) (ex) (n) (hs:SOk s) (hb:BkOk s b n) (name kind) (grams) (rs) (hrs:rs.length<1000000000):ay TP 105 [.ptr 2 1 0 0,.p (.str (bs name)),.p (.str (bs kind)),.p (.int .i64 grams),.p (.slice 1 (rs.map aJ) false)] (B7 s b ex) (jz s b ex (aU s b (.lot name kind grams rs))):=by
 have hl:=hb.lots;refine bv (ai (by kernel_rfl) rfl S5) rfl ?_;simp only [ChShop.cells,go_sem,simprocAttr];refine bh (yS (fv:=.func (.func 173) [] [.ptr 1 [.str (bs name)] 0 0]) b.lots (λy=>y.name==bs name) false 4 rfl (by omega) λy _=>⟨_,_,_,rfl,Mr (bs name) y⟩) ?_ (.bool _) ?_
 .simp only [go_sem,simprocAttr]
 simp only [go_sem,simprocAttr];refine aq (λh1=>?_) (λh1=>?_);rotate_left
 .have h1':(b.lots.any λy=>y.name==bs name)=true:=by simpa using h1
  simp only [go_sem,simprocAttr];exact cL (e:=5) (by simp only [aU,if_pos h1']) [_] rfl
 have h1':¬ (b.lots.any λy=>y.name==bs name)=true:=by
  intro h;rw [h] at h1;cases h1
 simp only [go_sem,simprocAttr];by_cases h2:au (λx:WxKind=>x.name==bs kind) s.wax.kinds 0<0
 .refine qb (QM s.wax.kinds (bs kind) false hs.waxkinds h2) rfl (lI _) ?_;simp only [go_sem,simprocAttr];exact cL (e:=4) (by simp only [aU,if_neg h1',if_pos h2]) [_] rfl
 refine ae (RT s.wax.kinds (bs kind) false hs.waxkinds (by omega)) rfl ?_;by_cases h3:1<=grams/\grams<=100000;rotate_left
 .have ha:aU s b (.lot name kind grams rs)=.error 7:=by simp only [aU,if_neg h1',if_neg h2,if_pos h3]
  by_cases hg:1<=grams
  .have hg2:decide (grams<=100000)=false:=by simpa using λh=>h3 ⟨hg,h⟩
   have hg1:decide (1<=grams)=true:=by simpa using hg
   simp only [hg1,hg2,go_sem,simprocAttr];refine aq (λh=>by cases h) (λ_=>?_);simp only [go_sem,simprocAttr];exact cL (e:=7) ha [_] rfl
  .have hg1:decide (1<=grams)=false:=by simpa using hg
   simp only [hg1,go_sem,simprocAttr];refine aq (λh=>by cases h) (λ_=>?_);simp only [go_sem,simprocAttr];exact cL (e:=7) ha [_] rfl
 have h3n:¬ ¬ (1<=grams/\grams<=100000):=λh=>h h3;simp only [h3.1,h3.2,go_sem,simprocAttr];refine aq (λ_=>?_) (λh=>by cases h);simp only [go_sem,simprocAttr];refine ae (Wx.Wv s.wax rs (au (λx:WxKind=>x.name==bs kind) s.wax.kinds 0) hrs) rfl ?_;by_cases h4:(Wx.bm s.wax rs (au (λx:WxKind=>x.name==bs kind) s.wax.kinds 0)).2.2=0;rotate_left
 .have h4':((Wx.bm s.wax rs (au (λx:WxKind=>x.name==bs kind) s.wax.kinds 0)).2.2==0)=false:=by simpa using h4
  simp only [h4',Span.pv,go_sem,simprocAttr];refine aq (λh=>by cases h) (λ_=>?_);simp only [go_sem,simprocAttr];exact cL (e:=(Wx.bm s.wax rs (au (λx:WxKind=>x.name==bs kind) s.wax.kinds 0)).2.2) (by simp only [aU,if_neg h1',if_neg h2,if_neg h3n,if_pos h4]) [_,_] rfl
 have h4n:¬ (Wx.bm s.wax rs (au (λx:WxKind=>x.name==bs kind) s.wax.kinds 0)).2.2≠0:=λh=>h h4;obtain ⟨r1,r2⟩:=Hh h4;simp only [h4,Span.pv,go_sem,simprocAttr];refine aq (λ_=>?_) (λh=>by cases h);simp only [go_sem,simprocAttr];refine aq (λh5=>?_) (λh5=>?_);rotate_left
 .have h5':¬ b.lots.length<8:=by simp at h5;omega
  simp only [go_sem,simprocAttr];exact cL (e:=3) (by simp only [aU,if_neg h1',if_neg h2,if_neg h3n,if_neg h4n,if_pos h5']) [_,_] rfl
 have h5':b.lots.length<8:=by simp at h5;omega
 have h5n:¬ ¬ b.lots.length<8:=λh=>h h5';have hrm:b.lots.length+1<=aB:=by simp only [aB];omega
 have hact:aU s b (.lot name kind grams rs)=.ok ({ b with lots:=b.lots++[⟨bs name,au (λx:WxKind=>x.name==bs kind) s.wax.kinds 0,grams,rs⟩] },joinL [lL (Wx.bm s.wax rs (au (λx:WxKind=>x.name==bs kind) s.wax.kinds 0)).2.1,bO (Wx.bm s.wax rs (au (λx:WxKind=>x.name==bs kind) s.wax.kinds 0)).1.lo,bO (Wx.bm s.wax rs (au (λx:WxKind=>x.name==bs kind) s.wax.kinds 0)).1.hi]):=by
  simp only [aU,if_neg h1',if_neg h2,if_neg h3n,if_neg h4n,if_neg h5n]
 simp only [hrm,EB,bf,go_sem,simprocAttr];refine And.intro (.inr ⟨3,_,rfl,rfl⟩) ?_;have hsd:∀ w:List UInt8,w.length<=1000->ah TP 40 [.slice 1 ([Word.s w,.n (Wx.bm s.wax rs (au (λx:WxKind=>x.name==bs kind) s.wax.kinds 0)).1.lo,.n (Wx.bm s.wax rs (au (λx:WxKind=>x.name==bs kind) s.wax.kinds 0)).1.hi].map Word.pv) true] _:=λw hw=>nH [.s w,.n (Wx.bm s.wax rs (au (λx:WxKind=>x.name==bs kind) s.wax.kinds 0)).1.lo,.n (Wx.bm s.wax rs (au (λx:WxKind=>x.name==bs kind) s.wax.kinds 0)).1.hi] true (by simp) (λx hx=>by
  simp only [cz,eQ,or_false] at hx;rcases hx with rfl | rfl | rfl
  .exact hw
  .exact r1
  .exact r2)
 by_cases v1:(Wx.bm s.wax rs (au (λx:WxKind=>x.name==bs kind) s.wax.kinds 0)).2.1=1
 .have hv:lL (Wx.bm s.wax rs (au (λx:WxKind=>x.name==bs kind) s.wax.kinds 0)).2.1=BS:=by rw [lL,if_pos v1]
  simp only [v1,EB,go_sem,simprocAttr];refine ae (hsd BS (by decide)) rfl ?_;simp only [go_sem,simprocAttr];exact gc (ex':=ex) (a:=joinL ([Word.s BS,.n (Wx.bm s.wax rs (au (λx:WxKind=>x.name==bs kind) s.wax.kinds 0)).1.lo,.n (Wx.bm s.wax rs (au (λx:WxKind=>x.name==bs kind) s.wax.kinds 0)).1.hi].flatMap Word.ws)) (by rw [hact,hv];rfl) [_,_] (congrArg (·++[_,_]) (EF s b ex ⟨bs name,au (λx:WxKind=>x.name==bs kind) s.wax.kinds 0,grams,rs⟩).symm)
 have v1':((Wx.bm s.wax rs (au (λx:WxKind=>x.name==bs kind) s.wax.kinds 0)).2.1==1)=false:=by simpa using v1
 by_cases v2:(Wx.bm s.wax rs (au (λx:WxKind=>x.name==bs kind) s.wax.kinds 0)).2.1=2
 .have hv:lL (Wx.bm s.wax rs (au (λx:WxKind=>x.name==bs kind) s.wax.kinds 0)).2.1=sf:=by rw [lL,if_neg v1,if_pos v2]
  simp only [v2,EB,go_sem,simprocAttr];refine ae (hsd sf (by decide)) rfl ?_;simp only [go_sem,simprocAttr];exact gc (ex':=ex) (a:=joinL ([Word.s sf,.n (Wx.bm s.wax rs (au (λx:WxKind=>x.name==bs kind) s.wax.kinds 0)).1.lo,.n (Wx.bm s.wax rs (au (λx:WxKind=>x.name==bs kind) s.wax.kinds 0)).1.hi].flatMap Word.ws)) (by rw [hact,hv];rfl) [_,_] (congrArg (·++[_,_]) (EF s b ex ⟨bs name,au (λx:WxKind=>x.name==bs kind) s.wax.kinds 0,grams,rs⟩).symm)
 have v2':((Wx.bm s.wax rs (au (λx:WxKind=>x.name==bs kind) s.wax.kinds 0)).2.1==2)=false:=by simpa using v2
 have hv:lL (Wx.bm s.wax rs (au (λx:WxKind=>x.name==bs kind) s.wax.kinds 0)).2.1=u5:=by rw [lL,if_neg v1,if_neg v2]
 simp only [v1',v2',EB,go_sem,simprocAttr];refine ae (hsd u5 (by decide)) rfl ?_;simp only [go_sem,simprocAttr];exact gc (ex':=ex) (a:=joinL ([Word.s u5,.n (Wx.bm s.wax rs (au (λx:WxKind=>x.name==bs kind) s.wax.kinds 0)).1.lo,.n (Wx.bm s.wax rs (au (λx:WxKind=>x.name==bs kind) s.wax.kinds 0)).1.hi].flatMap Word.ws)) (by rw [hact,hv];rfl) [_,_] (congrArg (·++[_,_]) (EF s b ex ⟨bs name,au (λx:WxKind=>x.name==bs kind) s.wax.kinds 0,grams,rs⟩).symm)
theorem qz {α} (p):∀ (l) (k),au p l k<0\/∃ (j:Nat) (x:α),au p l k=((k+j:Nat):Int)/\l[j]?=some x/\p x=true
 |[],k=>.inl (by simp [au])
 |y::l,k=>by
  rw [au];split
  .rename_i h;exact .inr ⟨0,y,by simp,rfl,h⟩
  .rcases qz p l (k+1) with h | ⟨j,x,h1,h2,h3⟩
   .exact .inl h
   .exact .inr ⟨j+1,x,by rw [h1];congr 1;omega,by simpa using h2,h3⟩
theorem KR (s) (b:ChBooks) (ex) (ls) (t):B7 s { b with lots:=ls,batches:=b.batches++[t] } ex =
  [.dead,.dead,.row 23 [.agg ([.slice 3 ls.length 0 ls.length,.slice 4 (b.batches.length+1+ex.length) 0 (b.batches.length+1),.slice 5 b.tests.length 0 b.tests.length,.slice 6 b.boxes.length 0 b.boxes.length,.p (.int .i64 b.poured),.p (.int .i64 b.lost)]++s.cells.map .p)],
  .row 4 (ls.map kj),.row 4 (b.batches.map cj++[.p t.pv]++ex.map .p),.row 3 (b.tests.map nC),.row 2 (b.boxes.map rd)]:=by
 simp only [B7,aP,bu,cp,bQ,cO,cj]
theorem lC (l:List ChBatch) (ex):(l.map ChBatch.pv++ex).take l.length=l.map ChBatch.pv:=fD (by simp)
theorem Qk (s) (b:ChBooks) (ls) (t):B7 s { b with lots:=ls,batches:=b.batches++[t] } [] =
  [.dead,.dead,.row 23 [.agg ([.slice 3 ls.length 0 ls.length,.slice 4 (b.batches.length+1) 0 (b.batches.length+1),.slice 5 b.tests.length 0 b.tests.length,.slice 6 b.boxes.length 0 b.boxes.length,.p (.int .i64 b.poured),.p (.int .i64 b.lost)]++s.cells.map .p)],
  .row 4 (ls.map kj),.row 4 (b.batches.map cj++[.p t.pv]),.row 3 (b.tests.map nC),.row 2 (b.boxes.map rd)]:=by
 rw [KR,cO,bF];rfl
def M5:Hints:=dY [(77,.low),(89,.app 82),(5000001,.app 6)]
theorem S6:aj M5 Tryz.f107=true:=by kernel_rfl
set_option maxHeartbeats 1000000 in
theorem Re (s) (b) (ex) (n) (hs:SOk s) (hb:BkOk s b n) (name colour lot) (grams):ay TP 107 [.ptr 2 1 0 0,.p (.str (bs name)),.p (.str (bs colour)),.p (.str (bs lot)),.p (.int .i64 grams)] (B7 s b ex) (jz s b ex (aU s b (.batch name colour lot grams))):=by
 have hl:=hb.batches;have hll:=hb.lots;refine bv (ai (by kernel_rfl) rfl S6) rfl ?_;simp only [ChShop.cells,go_sem,simprocAttr];refine bh (yR (fv:=.func (.func 178) [] [.ptr 1 [.str (bs name)] 0 0]) b.batches (λy=>y.name==bs name) false 4 rfl (by omega) λy _=>⟨_,_,_,rfl,If (bs name) y⟩) ?_ (.bool _) ?_
 .simp only [go_sem,simprocAttr];rw [lC]
 simp only [go_sem,simprocAttr];refine aq (λh1=>?_) (λh1=>?_);rotate_left
 .have h1':(b.batches.any λy=>y.name==bs name)=true:=by simpa using h1
  simp only [go_sem,simprocAttr];exact cL (e:=5) (by simp only [aU,if_pos h1']) [_] rfl
 have h1':¬ (b.batches.any λy=>y.name==bs name)=true:=by
  intro h;rw [h] at h1;cases h1
 simp only [go_sem,simprocAttr];by_cases h2:au (λx:ClColour=>x.name==bs colour) s.colour.colours 0<0
 .refine qb (QL s.colour.colours (bs colour) false hs.colours h2) rfl (lI _) ?_;simp only [go_sem,simprocAttr];exact cL (e:=4) (by simp only [aU,if_neg h1',if_pos h2]) [_] rfl
 refine ae (RS s.colour.colours (bs colour) false hs.colours (by omega)) rfl ?_;simp only [go_sem,simprocAttr];rcases qz (λx:ChLot=>x.name==bs lot) b.lots 0 with h3 | ⟨j,x,hj,hx,_⟩
 .refine qb (QJ b.lots (bs lot) false (by omega) h3) ?_ (lI _) ?_
  .simp only [go_sem,simprocAttr]
  simp only [go_sem,simprocAttr];exact cL (e:=4) (by simp only [aU,if_neg h1',if_neg h2,if_pos h3]) [_] rfl
 rw [j3] at hj;have hjl:j<b.lots.length:=(ar.1 hx).1;have hjB:(j:Int)<(b.lots.length:Int):=by omega
 have h3:¬ au (λx:ChLot=>x.name==bs lot) b.lots 0<0:=by rw [hj];omega
 have h3j:¬ (j:Int)<0:=by omega
 have hfd:=RR b.lots (bs lot) false (by omega) (by omega);rw [hj] at hfd;refine bh hfd ?_ (.int _ _) ?_
 .simp only [go_sem,simprocAttr]
 by_cases h4:1<=grams/\grams<=100000;rotate_left
 .have ha:aU s b (.batch name colour lot grams)=.error 7:=by simp only [aU,if_neg h1',if_neg h2,if_neg h3,if_pos h4]
  by_cases hg:1<=grams
  .have hg2:decide (grams<=100000)=false:=by simpa using λh=>h4 ⟨hg,h⟩
   have hg1:decide (1<=grams)=true:=by simpa using hg
   simp only [hg1,hg2,go_sem,simprocAttr];refine aq (λh=>by cases h) (λ_=>?_);simp only [go_sem,simprocAttr];exact cL (e:=7) ha [_] rfl
  .have hg1:decide (1<=grams)=false:=by simpa using hg
   simp only [hg1,go_sem,simprocAttr];refine aq (λh=>by cases h) (λ_=>?_);simp only [go_sem,simprocAttr];exact cL (e:=7) ha [_] rfl
 have h4n:¬ ¬ (1<=grams/\grams<=100000):=λh=>h h4;have hA:kj x=.p x.pv:=rfl;simp only [h4.1,h4.2,go_sem,simprocAttr];refine aq (λ_=>?_) (λh=>by cases h);simp only [hjB,hx,hA,go_sem,simprocAttr];refine aq (λh5=>?_) (λh5=>?_);rotate_left
 .have h5':¬ grams<=x.grams:=by simpa using h5
  simp only [go_sem,simprocAttr];exact cL (e:=9) (by simp only [aU,if_neg h1',if_neg h2,if_neg h4n,hj,if_neg h3j,hH,hx,if_pos h5']) [_] rfl
 have h5':grams<=x.grams:=by simpa using h5
 have h5n:¬ ¬ grams<=x.grams:=λh=>h h5';simp only [go_sem,simprocAttr];refine aq (λh6=>?_) (λh6=>?_);rotate_left
 .have h6':¬ b.batches.length<7:=by simp at h6;omega
  simp only [go_sem,simprocAttr];exact cL (e:=3) (by simp only [aU,if_neg h1',if_neg h2,if_neg h4n,hj,if_neg h3j,hH,hx,if_neg h5n,if_pos h6']) [_] rfl
 have h6':b.batches.length<7:=by simp at h6;omega
 have h6n:¬ ¬ b.batches.length<7:=λh=>h h6';have hg:=hb.grams x (aI hx);have hw:IntKind.i64.wrap (x.grams-grams)=x.grams-grams:=an (by omega) (by have:=hb.few;omega);have hact:aU s b (.batch name colour lot grams)=.ok ({ b with lots:=b.lots.set j { x with grams:=x.grams-grams },batches:=b.batches++[⟨bs name,au (λx:ClColour=>x.name==bs colour) s.colour.colours 0,(j:Int),grams⟩] },Ai):=by
  simp only [aU,if_neg h1',if_neg h2,if_neg h4n,hj,if_neg h3j,hH,hx,if_neg h5n,if_neg h6n]
 have hrm:b.batches.length+1<=aB:=by simp only [aB];omega
 have hset:(b.lots.map kj).set j (.p (.agg [.str x.name,.int .i64 x.kind,.int .i64 (x.grams-grams),.slice 1 (x.readings.map aJ) false]))=(b.lots.set j { x with grams:=x.grams-grams }).map kj:=by rw [GO];rfl
 have hsl:(b.lots.set j { x with grams:=x.grams-grams }).length=b.lots.length:=B4;simp only [hjB,hx,hA,hw,hset,go_sem,simprocAttr]
 cases ex with
 |nil =>
  simp only [M5,bf,cO,bF,eG,kz,hrm,go_sem,simprocAttr];refine And.intro (.inr ⟨4,_,rfl,rfl⟩) ?_;refine gc (ex':=[]) hact [.row 1 [.p (.str (bs name))]] ?_
  rw [Qk,hsl];rfl
 |cons e ex =>
  have hc1:(b.batches.map cj++AV.p e::ex.map AV.p).length=b.batches.length+(ex.length+1):=by simp
  have hc2:(b.batches.length=b.batches.length+(ex.length+1))=False:=eq_false (by omega);have hc3:(b.batches.map cj++AV.p e::ex.map AV.p).take b.batches.length=b.batches.map cj:=fD (by simp);have hc4:(b.batches.map cj++AV.p e::ex.map AV.p).drop (b.batches.length+1)=ex.map AV.p:=by
   rw [List.drop_append];simp
  have hc5:b.batches.length+1<=b.batches.length+(ex.length+1):=by omega
  simp only [M5,bf,e9,hc1,hc2,hc3,hc4,hc5,go_sem,simprocAttr];refine And.intro (.inr ⟨4,_,rfl,rfl⟩) ?_;refine gc (ex':=ex) hact [.row 1 [.p (.str (bs name))]] ?_;rw [KR,hsl,show b.batches.length+1+ex.length=b.batches.length+(ex.length+1) by omega];rfl
def nK:PV:=.agg [.str .empty,.int .i64 0,.int .i64 0,.int .i64 0]
theorem OI (l:List ChBatch) (ex:List PV) (i id) (h) (hid:h[id]?=some (.row 4 (l.map cj++ex.map .p))) (hi:i<l.length) (hlen:l.length<=7) :
  ay TP 185 [.slice id (l.length+ex.length) 0 l.length,.p (.int .i64 i),.p (.int .i64 (i+1:Nat))] h
   (λr h'=>r=.ret (.slice id (l.length+ex.length) 0 (l.length-1))/\h'=h.set id (.row 4 ((l.eraseIdx i).map cj++.p nK::ex.map .p))):=by
 refine ax (ai (by kernel_rfl) rfl U6) rfl ?_;have h1:(i:Int)<=((i+1:Nat):Int):=by omega
 have h2:((i+1:Nat):Int)<=(l.length:Int):=by omega
 have h2e:((i+1:Nat):Int)<=((l.length+ex.length:Nat):Int):=by omega
 have h3:((i:Int)==((i+1:Nat):Int))=false:=by simp;omega
 have h0:(0:Int)<=(i:Int):=by omega
 have h4:(0:Int)+(l.length:Int)<=((l.length+ex.length:Nat):Int):=by omega
 have h4b:(l.length:Int)<=((l.length+ex.length:Nat):Int):=by omega
 have h5:(i:Int)<=(l.length:Int):=by omega
 have h5e:(i:Int)<=((l.length+ex.length:Nat):Int):=by omega
 have h6:i+1+(l.length-(i+1))<=l.length+ex.length:=by omega
 have h7:¬ (i=l.length+ex.length):=by omega
 have hys:List.take (l.length-(i+1)) (List.drop (i+1) (l.map cj++ex.map .p))=(l.drop (i+1)).map cj:=by
  rw [M9 (by rw [fY];omega),<-List.map_drop,fD (by simp)]
 have h8:i+(l.length-(i+1))=l.length-1:=by omega
 have h9:l.length-1<=l.length+ex.length:=by omega
 obtain ⟨z,hz⟩:∃ z,List.drop (l.length-1) (l.map cj++ex.map .p)=z::ex.map AV.p:=by
  have:(List.drop (l.length-1) (l.map cj)).length=1:=by simp;omega
  match hd:List.drop (l.length-1) (l.map cj),this with
  |[z],_ =>
   refine ⟨z,?_⟩;rw [M9 (by rw [fY];omega),hd];rfl
 have htk0:List.take i (l.map cj++ex.map AV.p)=(l.take i).map cj:=by rw [List.take_append_of_le_length (by rw [fY];omega),M8]
 have her:(l.take i).map cj++((l.drop (i+1)).map cj++z::ex.map AV.p)=(l.eraseIdx i).map cj++z::ex.map AV.p:=by
  rw [<-di,<-cp,Na]
 have hel:(l.eraseIdx i).length=l.length-1:=by rw [wA,if_pos hi]
 have hgs:∀ x,(h.set id x)[id]?=some x:=λx=>by rw [gX (ar.1 hid).1]
 have h10:((l.length-1:Nat):Int)<=(l.length:Int):=by omega
 have h10e:((l.length-1:Nat):Int)<=((l.length+ex.length:Nat):Int):=by omega
 have h11:(0:Int)<=((l.length-1:Nat):Int):=by omega
 have h12:l.length-1+1=l.length:=by omega
 have h13:l.length-(l.length-1)=1:=by omega
 have h14:l.length-1+(l.length-(l.length-1))<=l.length+ex.length:=by omega
 have h15:¬ ((l.length:Int)<=((l.length-1:Nat):Int)):=by omega
 have h16:l.length<=l.length+ex.length:=by omega
 have hle2:((l.eraseIdx i).map cj++z::ex.map AV.p).length=l.length+ex.length:=by simp [hel];omega
 have hle3:(l.length-1+(ex.length+1))=l.length+ex.length:=by omega
 have htk:List.take (l.length-1) (List.map cj (l.eraseIdx i)++z::ex.map AV.p)=List.map cj (l.eraseIdx i):=fD (by rw [fY,hel]);have rv:List.drop l.length (List.map cj (l.eraseIdx i)++z::ex.map AV.p)=ex.map AV.p:=by
  rw [List.drop_append,GT (by rw [fY,hel];omega),fY,hel,h13];rfl
 simp only [h15,htk,rv,hid,h0,h1,h2,h3,h4,h5,h6,h7,hys,h8,h9,hz,htk0,her,hgs,h10,h11,h12,h13,h16,hle2,GB,Nat.sub_zero,j3,List.length_drop,di,oJ,BO,KW,nK,go_sem,simprocAttr];rfl
theorem Qj (s) (b:ChBooks) (ex) (ls) (j) (hj:j<b.batches.length):B7 s { b with lots:=ls,batches:=b.batches.eraseIdx j } (nK::ex) =
  [.dead,.dead,.row 23 [.agg ([.slice 3 ls.length 0 ls.length,.slice 4 (b.batches.length+ex.length) 0 (b.batches.length-1),.slice 5 b.tests.length 0 b.tests.length,.slice 6 b.boxes.length 0 b.boxes.length,.p (.int .i64 b.poured),.p (.int .i64 b.lost)]++s.cells.map .p)],
  .row 4 (ls.map kj),.row 4 ((b.batches.eraseIdx j).map cj++.p nK::ex.map .p),.row 3 (b.tests.map nC),.row 2 (b.boxes.map rd)]:=by
 have h1:(b.batches.eraseIdx j).length=b.batches.length-1:=by rw [wA,if_pos hj]
 have h2:b.batches.length-1+(ex.length+1)=b.batches.length+ex.length:=by omega
 simp only [B7,h1,e9,h2,bQ]
set_option maxHeartbeats 1000000 in
theorem Wg (s) (b) (ex) (n) (hs:SOk s) (hb:BkOk s b n) (name):ay TP 109 [.ptr 2 1 0 0,.p (.str (bs name))] (B7 s b ex) (jz s b ex (aU s b (.drop name))):=by
 have hl:=hb.batches;have hll:=hb.lots;refine bv (ai (by kernel_rfl) rfl VZ) rfl ?_;simp only [ChShop.cells,go_sem,simprocAttr];rcases qz (λx:ChBatch=>x.name==bs name) b.batches 0 with h3 | ⟨j,y,hj,hy,_⟩
 .refine qb (QI b.batches (bs name) false (by omega) h3) ?_ (lI _) ?_
  .simp only [go_sem,simprocAttr];rw [lC]
  simp only [go_sem,simprocAttr];exact cL (e:=4) (by simp only [aU,if_pos h3]) [] (bF _).symm
 rw [j3] at hj;have hjl:j<b.batches.length:=(ar.1 hy).1;have hjB:(j:Int)<(b.batches.length:Int):=by omega
 have hnj:¬ (j:Int)<0:=by omega
 have hfd:=RQ b.batches (bs name) false (by omega) (by omega);rw [hj] at hfd;refine bh hfd ?_ (.int _ _) ?_
 .simp only [go_sem,simprocAttr];rw [lC]
 have hy':=uM hy ex;obtain ⟨⟨g1,g2⟩,⟨g3,g4⟩,_⟩:=hb.waits y (aI hy);obtain ⟨k,hk⟩:=qL g3;have hkl:k<b.lots.length:=by omega
 obtain ⟨x,hx⟩:∃ x,b.lots[k]?=some x:=⟨_,b6 hkl⟩
 have hkB:(k:Int)<(b.lots.length:Int):=by omega
 have hA:kj x=.p x.pv:=rfl;have hg:=hb.grams x (aI hx);have hw:IntKind.i64.wrap (x.grams+y.grams)=x.grams+y.grams:=an (by omega) (by have:=hb.few;omega);have hw2:IntKind.i64.wrap ((j:Int)+1)=((j+1:Nat):Int):=by rw [an (by omega) (by omega)];rfl
 have hset:(b.lots.map kj).set k (.p (.agg [.str x.name,.int .i64 x.kind,.int .i64 (x.grams+y.grams),.slice 1 (x.readings.map aJ) false]))=(b.lots.set k { x with grams:=x.grams+y.grams }).map kj:=by rw [GO];rfl
 have hsl:(b.lots.set k { x with grams:=x.grams+y.grams }).length=b.lots.length:=B4;have hact:aU s b (.drop name)=.ok ({ b with lots:=b.lots.set k { x with grams:=x.grams+y.grams },batches:=b.batches.eraseIdx j },Ai):=by
  simp only [aU,hj,if_neg hnj,hH,hy,hk,hx]
 simp only [hjB,hy',hk,hkB,hx,hA,hw,hset,hw2,go_sem,simprocAttr];refine b9 (OI b.batches ex j 4 _ rfl hjl hl) ?_;simp only [go_sem,simprocAttr];refine gc (ex':=nK::ex) hact [] ?_;rw [Qj _ _ _ _ _ hjl,hsl];rfl
end Ch
end Abs
end Go.Proofs.YtfafnkpfamgbbaaGreatDoor
