/-
  CONTRACTS: chandler: test. No conditions but those in the theorems' heads.
  CONTRACTS: chandler: lot. No conditions but those in the theorems' heads.
  CONTRACTS: chandler: batch. No conditions but those in the theorems' heads.
  CONTRACTS: chandler: drop. No conditions but those in the theorems' heads.
-/
import Derived.Test.YtfafnkpfamgbbaaGreatDoorAbsCutX
import Derived.Test.YtfafnkpfamgbbaaGreatDoorChBkX
set_option linter.unusedSimpArgs false
set_option linter.unusedVariables false
open Go.Proofs.Tryz renaming prog->TP
namespace Go.Proofs.YtfafnkpfamgbbaaGreatDoor
namespace Abs
namespace Ch
set_option maxRecDepth 4000
theorem JL {s} {a} (h:(aP s a).2=0):b9 s.kinds.length (aP s a).1=0/\cd s []=0:=by
 unfold aP at h |-;split at h
 .rename_i h0;rw [if_pos h0];split at h
  .cases h
  .rename_i h1;rw [if_neg h1];split at h
   .cases h
   .rename_i t ht;split at h
    .rename_i hg;rw [if_pos hg];refine ⟨?_,h0⟩;unfold mI at hg;simp only [cK,beq_iff_eq] at hg;exact hg.1
    .cases h
 .rename_i h0;exact absurd h h0
theorem E7 {s} (h:cd s []=0):(hrCheck s).2.2=0:=by
 unfold cd at h;split at h
 .assumption
 .exact h
theorem G2 {nk} {t} (h:b9 nk t=0):dy t=t.pv:=by
 have:=(gz h).1.two;unfold dy
 cases hm:t.marks with
 |nil=>rw [hm] at this;simp at this
 |cons m r=>simp only [HrTest.pv,hm]
theorem TU {s} {t} {nk} (h:b9 nk t=0):(kB s t).1.length<=1000/\∀ i,i∈(kB s t).1->0<=i/\i<1000000000:=by
 have hl:=(gz h).1.len;have hg:∀ (l:List HrMark) (i:Nat),(nL t i l).length<=l.length/\∀ j,j∈nL t i l->0<=j/\j<i+l.length:=by
  intro l
  induction l with
  |nil=>intro i;exact ⟨bM _,λj hj=>by cases hj⟩
  |cons m r ih =>
   intro i;have:=ih (i+1);rw [nL];refine ⟨?_,λj hj=>?_⟩
   .rw [aI,ct];have:(if iv (wo t i)=true then [(i:Int)] else []).length<=1:=by split<;>simp
    omega
   .rcases ea.1 hj with hj | hj
    .split at hj
     .simp at hj;subst hj;simp;omega
     .simp at hj
    .have:=this.2 j hj;simp at this |-;omega
 unfold kB;split
 .unfold xr;split
  .simp
  .have:=hg t.marks 0;refine ⟨pn this.1 (by omega),λi hi=>?_⟩;have:=this.2 i hi;simp at this;omega
 .simp
theorem Ja (s) (b:ChBooks) (ex) (t):B7 s { b with tests:=b.tests++[t] } ex =
  [.dead,.dead,.row 23 [.agg ([.slice 3 b.lots.length 0 b.lots.length,.slice 4 (b.batches.length+ex.length) 0 b.batches.length,.slice 5 (b.tests.length+1) 0 (b.tests.length+1),.slice 6 b.boxes.length 0 b.boxes.length,.p (.int .i64 b.poured),.p (.int .i64 b.lost)]++s.cells.map .p)],
  .row 4 (b.lots.map ll),.row 4 (b.batches.map cG++ex.map .p),.row 3 (b.tests.map oX++[.p t.pv]),.row 2 (b.boxes.map sR)]:=by
 simp only [B7,aI,bh,bA,bB,cm,oX]
def A7:Hints:=eg [(53,.low),(1007052,.sto),(32,.low),(40,.app 37),(5000001,.app 5)]
theorem TL:aj A7 Tryz.f97=true:=by kernel_rfl
set_option maxHeartbeats 1000000 in
theorem Y9 (s) (b) (ex) (n) (hs:SOk s) (hb:BkOk s b n) (text):aC TP 97 [.ptr 2 1 0 0,.p (.str (bs text))] (B7 s b ex) (kr s b ex (aR s b (.test text))):=by
 have hl:=hb.tests;refine bO (ai (by kernel_rfl) rfl TL) rfl ?_;simp only [ChShop.cells,go_sem,simprocAttr];refine ae (IU s.hour text) rfl ?_;by_cases he:(aP s.hour text).2=0;rotate_left
 .have he':((aP s.hour text).2==0)=false:=by simpa using he
  simp only [dy,he',go_sem,simprocAttr];refine az (λh=>by cases h) (λ_=>?_);simp only [go_sem,simprocAttr];exact dv (e:=(aP s.hour text).2) (by simp only [aR,if_pos he]) [_] rfl
 obtain ⟨g1,g2⟩:=JL he;have hpv:=G2 g1;simp only [hpv,he,HrTest.pv,go_sem,simprocAttr];refine az (λ_=>?_) (λh=>by cases h);simp only [go_sem,simprocAttr];refine az (λh2=>?_) (λh2=>?_);rotate_left
 .have h2':¬ b.tests.length<8:=by simp at h2;omega
  simp only [go_sem,simprocAttr];exact dv (e:=3) (by simp only [aR,if_neg (not_not_intro he),if_pos h2']) [_] rfl
 have h2':b.tests.length<8:=by simp at h2;omega
 have h2n:¬ ¬ b.tests.length<8:=λh=>h h2';have hrm:b.tests.length+1<=aw:=by simp only [aw];omega
 simp only [hrm,A7,bj,go_sem,simprocAttr];refine And.intro (.inr ⟨5,_,rfl,rfl⟩) ?_;refine aD (ZA s.hour (aP s.hour text).1) rfl ?_
 have hact:aR s b (.test text)=.ok ({ b with tests:=b.tests++[(aP s.hour text).1] },
   if (dS s.hour (aP s.hour text).1).2=0 then joinL [bH (dS s.hour (aP s.hour text).1).1.lo,bH (dS s.hour (aP s.hour text).1).1.hi]
   else joinL (Jw::(kB s.hour (aP s.hour text).1).1.map bH)):=by simp only [aR,if_neg (not_not_intro he),if_neg h2n]
 by_cases hr:(dS s.hour (aP s.hour text).1).2=0
 .simp only [A7,hr,Span.pv,go_sem,simprocAttr];have hrg:0<=(dS s.hour (aP s.hour text).1).1.lo/\(dS s.hour (aP s.hour text).1).1.lo<1000000000/\0<=(dS s.hour (aP s.hour text).1).1.hi/\(dS s.hour (aP s.hour text).1).1.hi<1000000000:=by
   have:=wi (gz g1).1;unfold dS;split
   .split
    .dsimp only;omega
    .dsimp only;omega
   .dsimp only;omega
  have hsd:=ph [.n (dS s.hour (aP s.hour text).1).1.lo,.n (dS s.hour (aP s.hour text).1).1.hi] true (by simp) (λw hw=>by
   simp only [bw,eD,or_false] at hw;rcases hw with rfl | rfl
   .exact ⟨hrg.1,hrg.2.1⟩
   .exact ⟨hrg.2.2.1,hrg.2.2.2⟩)
  refine And.intro rfl ?_;refine ae hsd rfl ?_;simp only [go_sem,simprocAttr];rw [if_pos hr] at hact;exact g7 (ex':=ex) (a:=joinL ([Word.n (dS s.hour (aP s.hour text).1).1.lo,.n (dS s.hour (aP s.hour text).1).1.hi].flatMap Word.ws)) hact [_,_] (congrArg (·++[_,_]) (Ja s b ex (aP s.hour text).1).symm)
 .have hr':((dS s.hour (aP s.hour text).1).2==0)=false:=by simpa using hr
  simp only [A7,bj,hr',Span.pv,go_sem,simprocAttr];refine And.intro rfl ?_;refine aD (UL s.hour (aP s.hour text).1) rfl ?_;simp only [A7,yI,go_sem,simprocAttr];obtain ⟨o1,o2⟩:=TU (s:=s.hour) g1;have hsd:=ph [.s Jw,.ns (kB s.hour (aP s.hour text).1).1] true (by simp) (λw hw=>by
   simp only [bw,eD,or_false] at hw;rcases hw with rfl | rfl
   .show (3:Nat)<=1000;decide
   .exact ⟨o1,o2⟩)
  refine ae hsd rfl ?_;simp only [go_sem,simprocAttr];rw [if_neg hr] at hact;exact g7 (ex':=ex) (a:=joinL ([Word.s Jw,.ns (kB s.hour (aP s.hour text).1).1].flatMap Word.ws)) (by simpa [Word.ws] using hact) [_,_] (congrArg (·++[_,_]) (Ja s b ex (aP s.hour text).1).symm)
theorem Tu (t) (rs) (k):Wx.mM (Wx.PU t rs k):=by
 have key:∀ (l:List (Nat×Nat)) (p:Span),Wx.mM p->Wx.mM (Wx.joinL (λq=>(Wx.vQ (Wx.jf t rs q)).map (Wx.iZ k q)) l p):=by
  intro l
  induction l with
  |nil=>intro p h;exact h
  |cons q l ih =>
   intro p h;rw [Wx.joinL];refine ih _ ?_;unfold Wx.vQ;by_cases hc:(Wx.jf t rs q).lo<=(Wx.jf t rs q).hi
   .rw [if_pos hc];have hi:=Wx.Fj hc;refine Wx.Iz h ?_;unfold Wx.iZ;split
    .omega
    .split
     .dsimp only;omega
     .dsimp only;omega
   .rw [if_neg hc];exact h
 exact key _ _ (by unfold Wx.mM;decide)
theorem JC {t} {rs} {k} (h:(Wx.bI t rs k).2.2=0):(0<=(Wx.bI t rs k).1.lo/\(Wx.bI t rs k).1.lo<1000000000)/\0<=(Wx.bI t rs k).1.hi/\(Wx.bI t rs k).1.hi<1000000000:=by
 have hB:=Tu t rs k.toNat;unfold Wx.mM at hB;unfold Wx.bI at h |-;split
 .split
  .unfold Wx.m9;split
   .dsimp only;omega
   .split
    .dsimp only;omega
    .split<;>dsimp only<;>omega
  .dsimp only;omega
 .dsimp only;omega
theorem SOk.waxkinds {s} (h:SOk s):s.wax.kinds.length<1000000000:=by
 have:=(Wx.EE h.wax).kinds;omega
theorem O5 (s) (x:ChLot):ah TP 173 [x.pv,.ptr 1 [.str s] 0 0] (.bool (x.name==s)):=by
 refine aa (ai (by kernel_rfl) rfl Yb) rfl ?_;simp only [go_sem,simprocAttr]
theorem KG (s) (x:ChBatch):ah TP 178 [x.pv,.ptr 1 [.str s] 0 0] (.bool (x.name==s)):=by
 refine aa (ai (by kernel_rfl) rfl X7) rfl ?_;simp only [go_sem,simprocAttr]
theorem GS (s) (b:ChBooks) (ex) (t):B7 s { b with lots:=b.lots++[t] } ex =
  [.dead,.dead,.row 23 [.agg ([.slice 3 (b.lots.length+1) 0 (b.lots.length+1),.slice 4 (b.batches.length+ex.length) 0 b.batches.length,.slice 5 b.tests.length 0 b.tests.length,.slice 6 b.boxes.length 0 b.boxes.length,.p (.int .i64 b.poured),.p (.int .i64 b.lost)]++s.cells.map .p)],
  .row 4 (b.lots.map ll++[.p t.pv]),.row 4 (b.batches.map cG++ex.map .p),.row 3 (b.tests.map oX),.row 2 (b.boxes.map sR)]:=by
 simp only [B7,aI,bh,bA,bB,cm,ll]
def GO:Hints:=eg [(64,.low),(76,.app 69),(5000001,.app 6)]
theorem VW:aj GO Tryz.f105=true:=by kernel_rfl
set_option maxHeartbeats 1000000 in
theorem zcw (s) (b) (ex) (n) (hs:SOk s) (hb:BkOk s b n) (name kind) (grams) (rs) (hrs:rs.length<1000000000):aC TP 105 [.ptr 2 1 0 0,.p (.str (bs name)),.p (.str (bs kind)),.p (.int .i64 grams),.p (.slice 1 (rs.map aK) false)] (B7 s b ex) (kr s b ex (aR s b (.lot name kind grams rs))):=by
 have hl:=hb.lots;refine bO (ai (by kernel_rfl) rfl VW) rfl ?_;simp only [ChShop.cells,go_sem,simprocAttr];refine bf (AQ (fv:=.func (.func 173) [] [.ptr 1 [.str (bs name)] 0 0]) b.lots (λy=>y.name==bs name) false 4 rfl (by omega) λy _=>⟨_,_,_,rfl,O5 (bs name) y⟩) ?_ (.bool _) ?_
 .simp only [go_sem,simprocAttr]
 simp only [go_sem,simprocAttr];refine az (λh1=>?_) (λh1=>?_);rotate_left
 .have h1':(b.lots.any λy=>y.name==bs name)=true:=by simpa using h1
  simp only [go_sem,simprocAttr];exact dv (e:=5) (by simp only [aR,if_pos h1']) [_] rfl
 have h1':¬ (b.lots.any λy=>y.name==bs name)=true:=by
  intro h;rw [h] at h1;cases h1
 simp only [go_sem,simprocAttr];by_cases h2:aA (λx:WxKind=>x.name==bs kind) s.wax.kinds 0<0
 .refine rS (TI s.wax.kinds (bs kind) false hs.waxkinds h2) rfl (mX _) ?_;simp only [go_sem,simprocAttr];exact dv (e:=4) (by simp only [aR,if_neg h1',if_pos h2]) [_] rfl
 refine ae (UR s.wax.kinds (bs kind) false hs.waxkinds (by omega)) rfl ?_;by_cases h3:1<=grams/\grams<=100000;rotate_left
 .have ha:aR s b (.lot name kind grams rs)=.error 7:=by simp only [aR,if_neg h1',if_neg h2,if_pos h3]
  by_cases hg:1<=grams
  .have hg2:decide (grams<=100000)=false:=by simpa using λh=>h3 ⟨hg,h⟩
   have hg1:decide (1<=grams)=true:=by simpa using hg
   simp only [hg1,hg2,go_sem,simprocAttr];refine az (λh=>by cases h) (λ_=>?_);simp only [go_sem,simprocAttr];exact dv (e:=7) ha [_] rfl
  .have hg1:decide (1<=grams)=false:=by simpa using hg
   simp only [hg1,go_sem,simprocAttr];refine az (λh=>by cases h) (λ_=>?_);simp only [go_sem,simprocAttr];exact dv (e:=7) ha [_] rfl
 have h3n:¬ ¬ (1<=grams/\grams<=100000):=λh=>h h3;simp only [h3.1,h3.2,go_sem,simprocAttr];refine az (λ_=>?_) (λh=>by cases h);simp only [go_sem,simprocAttr];refine ae (Wx.Zt s.wax rs (aA (λx:WxKind=>x.name==bs kind) s.wax.kinds 0) hrs) rfl ?_;by_cases h4:(Wx.bI s.wax rs (aA (λx:WxKind=>x.name==bs kind) s.wax.kinds 0)).2.2=0;rotate_left
 .have h4':((Wx.bI s.wax rs (aA (λx:WxKind=>x.name==bs kind) s.wax.kinds 0)).2.2==0)=false:=by simpa using h4
  simp only [h4',Span.pv,go_sem,simprocAttr];refine az (λh=>by cases h) (λ_=>?_);simp only [go_sem,simprocAttr];exact dv (e:=(Wx.bI s.wax rs (aA (λx:WxKind=>x.name==bs kind) s.wax.kinds 0)).2.2) (by simp only [aR,if_neg h1',if_neg h2,if_neg h3n,if_pos h4]) [_,_] rfl
 have h4n:¬ (Wx.bI s.wax rs (aA (λx:WxKind=>x.name==bs kind) s.wax.kinds 0)).2.2≠0:=λh=>h h4;obtain ⟨r1,r2⟩:=JC h4;simp only [h4,Span.pv,go_sem,simprocAttr];refine az (λ_=>?_) (λh=>by cases h);simp only [go_sem,simprocAttr];refine az (λh5=>?_) (λh5=>?_);rotate_left
 .have h5':¬ b.lots.length<8:=by simp at h5;omega
  simp only [go_sem,simprocAttr];exact dv (e:=3) (by simp only [aR,if_neg h1',if_neg h2,if_neg h3n,if_neg h4n,if_pos h5']) [_,_] rfl
 have h5':b.lots.length<8:=by simp at h5;omega
 have h5n:¬ ¬ b.lots.length<8:=λh=>h h5';have hrm:b.lots.length+1<=aw:=by simp only [aw];omega
 have hact:aR s b (.lot name kind grams rs)=.ok ({ b with lots:=b.lots++[⟨bs name,aA (λx:WxKind=>x.name==bs kind) s.wax.kinds 0,grams,rs⟩] },joinL [kG (Wx.bI s.wax rs (aA (λx:WxKind=>x.name==bs kind) s.wax.kinds 0)).2.1,bH (Wx.bI s.wax rs (aA (λx:WxKind=>x.name==bs kind) s.wax.kinds 0)).1.lo,bH (Wx.bI s.wax rs (aA (λx:WxKind=>x.name==bs kind) s.wax.kinds 0)).1.hi]):=by
  simp only [aR,if_neg h1',if_neg h2,if_neg h3n,if_neg h4n,if_neg h5n]
 simp only [hrm,GO,bj,go_sem,simprocAttr];refine And.intro (.inr ⟨3,_,rfl,rfl⟩) ?_;have hsd:∀ w:List UInt8,w.length<=1000->ah TP 40 [.slice 1 ([Word.s w,.n (Wx.bI s.wax rs (aA (λx:WxKind=>x.name==bs kind) s.wax.kinds 0)).1.lo,.n (Wx.bI s.wax rs (aA (λx:WxKind=>x.name==bs kind) s.wax.kinds 0)).1.hi].map Word.pv) true] _:=λw hw=>ph [.s w,.n (Wx.bI s.wax rs (aA (λx:WxKind=>x.name==bs kind) s.wax.kinds 0)).1.lo,.n (Wx.bI s.wax rs (aA (λx:WxKind=>x.name==bs kind) s.wax.kinds 0)).1.hi] true (by simp) (λx hx=>by
  simp only [bw,eD,or_false] at hx;rcases hx with rfl | rfl | rfl
  .exact hw
  .exact r1
  .exact r2)
 by_cases v1:(Wx.bI s.wax rs (aA (λx:WxKind=>x.name==bs kind) s.wax.kinds 0)).2.1=1
 .have hv:kG (Wx.bI s.wax rs (aA (λx:WxKind=>x.name==bs kind) s.wax.kinds 0)).2.1=D7:=by rw [kG,if_pos v1]
  simp only [v1,GO,go_sem,simprocAttr];refine ae (hsd D7 (by decide)) rfl ?_;simp only [go_sem,simprocAttr];exact g7 (ex':=ex) (a:=joinL ([Word.s D7,.n (Wx.bI s.wax rs (aA (λx:WxKind=>x.name==bs kind) s.wax.kinds 0)).1.lo,.n (Wx.bI s.wax rs (aA (λx:WxKind=>x.name==bs kind) s.wax.kinds 0)).1.hi].flatMap Word.ws)) (by rw [hact,hv];rfl) [_,_] (congrArg (·++[_,_]) (GS s b ex ⟨bs name,aA (λx:WxKind=>x.name==bs kind) s.wax.kinds 0,grams,rs⟩).symm)
 have v1':((Wx.bI s.wax rs (aA (λx:WxKind=>x.name==bs kind) s.wax.kinds 0)).2.1==1)=false:=by simpa using v1
 by_cases v2:(Wx.bI s.wax rs (aA (λx:WxKind=>x.name==bs kind) s.wax.kinds 0)).2.1=2
 .have hv:kG (Wx.bI s.wax rs (aA (λx:WxKind=>x.name==bs kind) s.wax.kinds 0)).2.1=tV:=by rw [kG,if_neg v1,if_pos v2]
  simp only [v2,GO,go_sem,simprocAttr];refine ae (hsd tV (by decide)) rfl ?_;simp only [go_sem,simprocAttr];exact g7 (ex':=ex) (a:=joinL ([Word.s tV,.n (Wx.bI s.wax rs (aA (λx:WxKind=>x.name==bs kind) s.wax.kinds 0)).1.lo,.n (Wx.bI s.wax rs (aA (λx:WxKind=>x.name==bs kind) s.wax.kinds 0)).1.hi].flatMap Word.ws)) (by rw [hact,hv];rfl) [_,_] (congrArg (·++[_,_]) (GS s b ex ⟨bs name,aA (λx:WxKind=>x.name==bs kind) s.wax.kinds 0,grams,rs⟩).symm)
 have v2':((Wx.bI s.wax rs (aA (λx:WxKind=>x.name==bs kind) s.wax.kinds 0)).2.1==2)=false:=by simpa using v2
 have hv:kG (Wx.bI s.wax rs (aA (λx:WxKind=>x.name==bs kind) s.wax.kinds 0)).2.1=w9:=by rw [kG,if_neg v1,if_neg v2]
 simp only [v1',v2',GO,go_sem,simprocAttr];refine ae (hsd w9 (by decide)) rfl ?_;simp only [go_sem,simprocAttr];exact g7 (ex':=ex) (a:=joinL ([Word.s w9,.n (Wx.bI s.wax rs (aA (λx:WxKind=>x.name==bs kind) s.wax.kinds 0)).1.lo,.n (Wx.bI s.wax rs (aA (λx:WxKind=>x.name==bs kind) s.wax.kinds 0)).1.hi].flatMap Word.ws)) (by rw [hact,hv];rfl) [_,_] (congrArg (·++[_,_]) (GS s b ex ⟨bs name,aA (λx:WxKind=>x.name==bs kind) s.wax.kinds 0,grams,rs⟩).symm)
theorem sh {α} (p):∀ (l) (k),aA p l k<0\/∃ (j:Nat) (x:α),aA p l k=((k+j:Nat):Int)/\l[j]?=some x/\p x=true
 |[],k=>.inl (by simp [aA])
 |y::l,k=>by
  rw [aA];split
  .rename_i h;exact .inr ⟨0,y,by simp,rfl,h⟩
  .rcases sh p l (k+1) with h | ⟨j,x,h1,h2,h3⟩
   .exact .inl h
   .exact .inr ⟨j+1,x,by rw [h1];congr 1;omega,by simpa using h2,h3⟩
theorem Ns (s) (b:ChBooks) (ex) (ls) (t):B7 s { b with lots:=ls,batches:=b.batches++[t] } ex =
  [.dead,.dead,.row 23 [.agg ([.slice 3 ls.length 0 ls.length,.slice 4 (b.batches.length+1+ex.length) 0 (b.batches.length+1),.slice 5 b.tests.length 0 b.tests.length,.slice 6 b.boxes.length 0 b.boxes.length,.p (.int .i64 b.poured),.p (.int .i64 b.lost)]++s.cells.map .p)],
  .row 4 (ls.map ll),.row 4 (b.batches.map cG++[.p t.pv]++ex.map .p),.row 3 (b.tests.map oX),.row 2 (b.boxes.map sR)]:=by
 simp only [B7,aI,bh,bA,bB,cm,cG]
theorem mQ (l:List ChBatch) (ex):(l.map ChBatch.pv++ex).take l.length=l.map ChBatch.pv:=d9 (by simp)
theorem Tb (s) (b:ChBooks) (ls) (t):B7 s { b with lots:=ls,batches:=b.batches++[t] } [] =
  [.dead,.dead,.row 23 [.agg ([.slice 3 ls.length 0 ls.length,.slice 4 (b.batches.length+1) 0 (b.batches.length+1),.slice 5 b.tests.length 0 b.tests.length,.slice 6 b.boxes.length 0 b.boxes.length,.p (.int .i64 b.poured),.p (.int .i64 b.lost)]++s.cells.map .p)],
  .row 4 (ls.map ll),.row 4 (b.batches.map cG++[.p t.pv]),.row 3 (b.tests.map oX),.row 2 (b.boxes.map sR)]:=by
 rw [Ns,cm,aW];rfl
def PI:Hints:=eg [(77,.low),(89,.app 82),(5000001,.app 6)]
theorem VX:aj PI Tryz.f107=true:=by kernel_rfl
set_option maxHeartbeats 1000000 in
theorem Ub (s) (b) (ex) (n) (hs:SOk s) (hb:BkOk s b n) (name colour lot) (grams):aC TP 107 [.ptr 2 1 0 0,.p (.str (bs name)),.p (.str (bs colour)),.p (.str (bs lot)),.p (.int .i64 grams)] (B7 s b ex) (kr s b ex (aR s b (.batch name colour lot grams))):=by
 have hl:=hb.batches;have hll:=hb.lots;refine bO (ai (by kernel_rfl) rfl VX) rfl ?_;simp only [ChShop.cells,go_sem,simprocAttr];refine bf (AP (fv:=.func (.func 178) [] [.ptr 1 [.str (bs name)] 0 0]) b.batches (λy=>y.name==bs name) false 4 rfl (by omega) λy _=>⟨_,_,_,rfl,KG (bs name) y⟩) ?_ (.bool _) ?_
 .simp only [go_sem,simprocAttr];rw [mQ]
 simp only [go_sem,simprocAttr];refine az (λh1=>?_) (λh1=>?_);rotate_left
 .have h1':(b.batches.any λy=>y.name==bs name)=true:=by simpa using h1
  simp only [go_sem,simprocAttr];exact dv (e:=5) (by simp only [aR,if_pos h1']) [_] rfl
 have h1':¬ (b.batches.any λy=>y.name==bs name)=true:=by
  intro h;rw [h] at h1;cases h1
 simp only [go_sem,simprocAttr];by_cases h2:aA (λx:ClColour=>x.name==bs colour) s.colour.colours 0<0
 .refine rS (TH s.colour.colours (bs colour) false hs.colours h2) rfl (mX _) ?_;simp only [go_sem,simprocAttr];exact dv (e:=4) (by simp only [aR,if_neg h1',if_pos h2]) [_] rfl
 refine ae (UQ s.colour.colours (bs colour) false hs.colours (by omega)) rfl ?_;simp only [go_sem,simprocAttr];rcases sh (λx:ChLot=>x.name==bs lot) b.lots 0 with h3 | ⟨j,x,hj,hx,_⟩
 .refine rS (TF b.lots (bs lot) false (by omega) h3) ?_ (mX _) ?_
  .simp only [go_sem,simprocAttr]
  simp only [go_sem,simprocAttr];exact dv (e:=4) (by simp only [aR,if_neg h1',if_neg h2,if_pos h3]) [_] rfl
 rw [jv] at hj;have hjl:j<b.lots.length:=(aE.1 hx).1;have hjB:(j:Int)<(b.lots.length:Int):=by omega
 have h3:¬ aA (λx:ChLot=>x.name==bs lot) b.lots 0<0:=by rw [hj];omega
 have h3j:¬ (j:Int)<0:=by omega
 have hfd:=UP b.lots (bs lot) false (by omega) (by omega);rw [hj] at hfd;refine bf hfd ?_ (.int _ _) ?_
 .simp only [go_sem,simprocAttr]
 by_cases h4:1<=grams/\grams<=100000;rotate_left
 .have ha:aR s b (.batch name colour lot grams)=.error 7:=by simp only [aR,if_neg h1',if_neg h2,if_neg h3,if_pos h4]
  by_cases hg:1<=grams
  .have hg2:decide (grams<=100000)=false:=by simpa using λh=>h4 ⟨hg,h⟩
   have hg1:decide (1<=grams)=true:=by simpa using hg
   simp only [hg1,hg2,go_sem,simprocAttr];refine az (λh=>by cases h) (λ_=>?_);simp only [go_sem,simprocAttr];exact dv (e:=7) ha [_] rfl
  .have hg1:decide (1<=grams)=false:=by simpa using hg
   simp only [hg1,go_sem,simprocAttr];refine az (λh=>by cases h) (λ_=>?_);simp only [go_sem,simprocAttr];exact dv (e:=7) ha [_] rfl
 have h4n:¬ ¬ (1<=grams/\grams<=100000):=λh=>h h4;have hA:ll x=.p x.pv:=rfl;simp only [h4.1,h4.2,go_sem,simprocAttr];refine az (λ_=>?_) (λh=>by cases h);simp only [hjB,hx,hA,go_sem,simprocAttr];refine az (λh5=>?_) (λh5=>?_);rotate_left
 .have h5':¬ grams<=x.grams:=by simpa using h5
  simp only [go_sem,simprocAttr];exact dv (e:=9) (by simp only [aR,if_neg h1',if_neg h2,if_neg h4n,hj,if_neg h3j,iH,hx,if_pos h5']) [_] rfl
 have h5':grams<=x.grams:=by simpa using h5
 have h5n:¬ ¬ grams<=x.grams:=λh=>h h5';simp only [go_sem,simprocAttr];refine az (λh6=>?_) (λh6=>?_);rotate_left
 .have h6':¬ b.batches.length<7:=by simp at h6;omega
  simp only [go_sem,simprocAttr];exact dv (e:=3) (by simp only [aR,if_neg h1',if_neg h2,if_neg h4n,hj,if_neg h3j,iH,hx,if_neg h5n,if_pos h6']) [_] rfl
 have h6':b.batches.length<7:=by simp at h6;omega
 have h6n:¬ ¬ b.batches.length<7:=λh=>h h6';have hg:=hb.grams x (aL hx);have hw:IntKind.i64.wrap (x.grams-grams)=x.grams-grams:=ax (by omega) (by have:=hb.few;omega);have hact:aR s b (.batch name colour lot grams)=.ok ({ b with lots:=b.lots.set j { x with grams:=x.grams-grams },batches:=b.batches++[⟨bs name,aA (λx:ClColour=>x.name==bs colour) s.colour.colours 0,(j:Int),grams⟩] },Cf):=by
  simp only [aR,if_neg h1',if_neg h2,if_neg h4n,hj,if_neg h3j,iH,hx,if_neg h5n,if_neg h6n]
 have hrm:b.batches.length+1<=aw:=by simp only [aw];omega
 have hset:(b.lots.map ll).set j (.p (.agg [.str x.name,.int .i64 x.kind,.int .i64 (x.grams-grams),.slice 1 (x.readings.map aK) false]))=(b.lots.set j { x with grams:=x.grams-grams }).map ll:=by rw [DX];rfl
 have hsl:(b.lots.set j { x with grams:=x.grams-grams }).length=b.lots.length:=zp;simp only [hjB,hx,hA,hw,hset,go_sem,simprocAttr]
 cases ex with
 |nil =>
  simp only [PI,bj,cm,aW,ei,lY,hrm,go_sem,simprocAttr];refine And.intro (.inr ⟨4,_,rfl,rfl⟩) ?_;refine g7 (ex':=[]) hact [.row 1 [.p (.str (bs name))]] ?_
  rw [Tb,hsl];rfl
 |cons e ex =>
  have hc1:(b.batches.map cG++AV.p e::ex.map AV.p).length=b.batches.length+(ex.length+1):=by simp
  have hc2:(b.batches.length=b.batches.length+(ex.length+1))=False:=eq_false (by omega);have hc3:(b.batches.map cG++AV.p e::ex.map AV.p).take b.batches.length=b.batches.map cG:=d9 (by simp);have hc4:(b.batches.map cG++AV.p e::ex.map AV.p).drop (b.batches.length+1)=ex.map AV.p:=by
   rw [List.drop_append];simp
  have hc5:b.batches.length+1<=b.batches.length+(ex.length+1):=by omega
  simp only [PI,bj,ct,hc1,hc2,hc3,hc4,hc5,go_sem,simprocAttr];refine And.intro (.inr ⟨4,_,rfl,rfl⟩) ?_;refine g7 (ex':=ex) hact [.row 1 [.p (.str (bs name))]] ?_;rw [Ns,hsl,show b.batches.length+1+ex.length=b.batches.length+(ex.length+1) by omega];rfl
def pp:PV:=.agg [.str .empty,.int .i64 0,.int .i64 0,.int .i64 0]
theorem Rv (l:List ChBatch) (ex:List PV) (i id) (h) (hid:h[id]?=some (.row 4 (l.map cG++ex.map .p))) (hi:i<l.length) (hlen:l.length<=7) :
  aC TP 185 [.slice id (l.length+ex.length) 0 l.length,.p (.int .i64 i),.p (.int .i64 (i+1:Nat))] h
   (λr h'=>r=.ret (.slice id (l.length+ex.length) 0 (l.length-1))/\h'=h.set id (.row 4 ((l.eraseIdx i).map cG++.p pp::ex.map .p))):=by
 refine aB (ai (by kernel_rfl) rfl X3) rfl ?_;have h1:(i:Int)<=((i+1:Nat):Int):=by omega
 have h2:((i+1:Nat):Int)<=(l.length:Int):=by omega
 have h2e:((i+1:Nat):Int)<=((l.length+ex.length:Nat):Int):=by omega
 have h3:((i:Int)==((i+1:Nat):Int))=false:=by simp;omega
 have h0:(0:Int)<=(i:Int):=by omega
 have h4:(0:Int)+(l.length:Int)<=((l.length+ex.length:Nat):Int):=by omega
 have h4b:(l.length:Int)<=((l.length+ex.length:Nat):Int):=by omega
 have h5:(i:Int)<=(l.length:Int):=by omega
 have h5e:(i:Int)<=((l.length+ex.length:Nat):Int):=by omega
 have h6:i+1+(l.length-(i+1))<=l.length+ex.length:=by omega
 have h7:¬ (i=l.length+ex.length):=by omega
 have hys:List.take (l.length-(i+1)) (List.drop (i+1) (l.map cG++ex.map .p))=(l.drop (i+1)).map cG:=by
  rw [Tf (by rw [dL];omega),<-List.map_drop,d9 (by simp)]
 have h8:i+(l.length-(i+1))=l.length-1:=by omega
 have h9:l.length-1<=l.length+ex.length:=by omega
 obtain ⟨z,hz⟩:∃ z,List.drop (l.length-1) (l.map cG++ex.map .p)=z::ex.map AV.p:=by
  have:(List.drop (l.length-1) (l.map cG)).length=1:=by simp;omega
  match hd:List.drop (l.length-1) (l.map cG),this with
  |[z],_ =>
   refine ⟨z,?_⟩;rw [Tf (by rw [dL];omega),hd];rfl
 have htk0:List.take i (l.map cG++ex.map AV.p)=(l.take i).map cG:=by rw [List.take_append_of_le_length (by rw [dL];omega),Ej]
 have her:(l.take i).map cG++((l.drop (i+1)).map cG++z::ex.map AV.p)=(l.eraseIdx i).map cG++z::ex.map AV.p:=by
  rw [<-cE,<-bA,Tc]
 have hel:(l.eraseIdx i).length=l.length-1:=by rw [tO,if_pos hi]
 have hgs:∀ x,(h.set id x)[id]?=some x:=λx=>by rw [iP (aE.1 hid).1]
 have h10:((l.length-1:Nat):Int)<=(l.length:Int):=by omega
 have h10e:((l.length-1:Nat):Int)<=((l.length+ex.length:Nat):Int):=by omega
 have h11:(0:Int)<=((l.length-1:Nat):Int):=by omega
 have h12:l.length-1+1=l.length:=by omega
 have h13:l.length-(l.length-1)=1:=by omega
 have h14:l.length-1+(l.length-(l.length-1))<=l.length+ex.length:=by omega
 have h15:¬ ((l.length:Int)<=((l.length-1:Nat):Int)):=by omega
 have h16:l.length<=l.length+ex.length:=by omega
 have hle2:((l.eraseIdx i).map cG++z::ex.map AV.p).length=l.length+ex.length:=by simp [hel];omega
 have hle3:(l.length-1+(ex.length+1))=l.length+ex.length:=by omega
 have htk:List.take (l.length-1) (List.map cG (l.eraseIdx i)++z::ex.map AV.p)=List.map cG (l.eraseIdx i):=d9 (by rw [dL,hel]);have sk:List.drop l.length (List.map cG (l.eraseIdx i)++z::ex.map AV.p)=ex.map AV.p:=by
  rw [List.drop_append,DV (by rw [dL,hel];omega),dL,hel,h13];rfl
 simp only [h15,htk,sk,hid,h0,h1,h2,h3,h4,h5,h6,h7,hys,h8,h9,hz,htk0,her,hgs,h10,h11,h12,h13,h16,hle2,I0,Nat.sub_zero,jv,List.length_drop,cE,tL,Jg,Jo,pp,go_sem,simprocAttr];rfl
theorem Ta (s) (b:ChBooks) (ex) (ls) (j) (hj:j<b.batches.length):B7 s { b with lots:=ls,batches:=b.batches.eraseIdx j } (pp::ex) =
  [.dead,.dead,.row 23 [.agg ([.slice 3 ls.length 0 ls.length,.slice 4 (b.batches.length+ex.length) 0 (b.batches.length-1),.slice 5 b.tests.length 0 b.tests.length,.slice 6 b.boxes.length 0 b.boxes.length,.p (.int .i64 b.poured),.p (.int .i64 b.lost)]++s.cells.map .p)],
  .row 4 (ls.map ll),.row 4 ((b.batches.eraseIdx j).map cG++.p pp::ex.map .p),.row 3 (b.tests.map oX),.row 2 (b.boxes.map sR)]:=by
 have h1:(b.batches.eraseIdx j).length=b.batches.length-1:=by rw [tO,if_pos hj]
 have h2:b.batches.length-1+(ex.length+1)=b.batches.length+ex.length:=by omega
 simp only [B7,h1,ct,h2,bB]
set_option maxHeartbeats 1000000 in
theorem Zf (s) (b) (ex) (n) (hs:SOk s) (hb:BkOk s b n) (name):aC TP 109 [.ptr 2 1 0 0,.p (.str (bs name))] (B7 s b ex) (kr s b ex (aR s b (.drop name))):=by
 have hl:=hb.batches;have hll:=hb.lots;refine bO (ai (by kernel_rfl) rfl YY) rfl ?_;simp only [ChShop.cells,go_sem,simprocAttr];rcases sh (λx:ChBatch=>x.name==bs name) b.batches 0 with h3 | ⟨j,y,hj,hy,_⟩
 .refine rS (TE b.batches (bs name) false (by omega) h3) ?_ (mX _) ?_
  .simp only [go_sem,simprocAttr];rw [mQ]
  simp only [go_sem,simprocAttr];exact dv (e:=4) (by simp only [aR,if_pos h3]) [] (aW _).symm
 rw [jv] at hj;have hjl:j<b.batches.length:=(aE.1 hy).1;have hjB:(j:Int)<(b.batches.length:Int):=by omega
 have hnj:¬ (j:Int)<0:=by omega
 have hfd:=UO b.batches (bs name) false (by omega) (by omega);rw [hj] at hfd;refine bf hfd ?_ (.int _ _) ?_
 .simp only [go_sem,simprocAttr];rw [mQ]
 have hy':=wI hy ex;obtain ⟨⟨g1,g2⟩,⟨g3,g4⟩,_⟩:=hb.waits y (aL hy);obtain ⟨k,hk⟩:=p4 g3;have hkl:k<b.lots.length:=by omega
 obtain ⟨x,hx⟩:∃ x,b.lots[k]?=some x:=⟨_,bE hkl⟩
 have hkB:(k:Int)<(b.lots.length:Int):=by omega
 have hA:ll x=.p x.pv:=rfl;have hg:=hb.grams x (aL hx);have hw:IntKind.i64.wrap (x.grams+y.grams)=x.grams+y.grams:=ax (by omega) (by have:=hb.few;omega);have hw2:IntKind.i64.wrap ((j:Int)+1)=((j+1:Nat):Int):=by rw [ax (by omega) (by omega)];rfl
 have hset:(b.lots.map ll).set k (.p (.agg [.str x.name,.int .i64 x.kind,.int .i64 (x.grams+y.grams),.slice 1 (x.readings.map aK) false]))=(b.lots.set k { x with grams:=x.grams+y.grams }).map ll:=by rw [DX];rfl
 have hsl:(b.lots.set k { x with grams:=x.grams+y.grams }).length=b.lots.length:=zp;have hact:aR s b (.drop name)=.ok ({ b with lots:=b.lots.set k { x with grams:=x.grams+y.grams },batches:=b.batches.eraseIdx j },Cf):=by
  simp only [aR,hj,if_neg hnj,iH,hy,hk,hx]
 simp only [hjB,hy',hk,hkB,hx,hA,hw,hset,hw2,go_sem,simprocAttr];refine cy (Rv b.batches ex j 4 _ rfl hjl hl) ?_;simp only [go_sem,simprocAttr];refine g7 (ex':=pp::ex) hact [] ?_;rw [Ta _ _ _ _ _ hjl,hsl];rfl
end Ch
end Abs
end Go.Proofs.YtfafnkpfamgbbaaGreatDoor
