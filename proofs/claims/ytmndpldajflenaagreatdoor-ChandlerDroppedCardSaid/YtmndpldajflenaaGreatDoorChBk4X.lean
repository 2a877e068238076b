/- CONTRACTS of the program's functions, and laws on what they return. No conditions but those in the theorems' heads. -/
import Derived.Test.YtmndpldajflenaaGreatDoorChBkX
set_option linter.all false
set_option maxHeartbeats 1000000
open Go.Proofs.Tryz renaming prog->TP
namespace Go.Proofs.YtmndpldajflenaaGreatDoor
namespace Abs
namespace Ch
set_option maxRecDepth 4000
theorem Ip{s}{a}(h:(aN s a).2=0):bQ s.kinds.length (aN s a).1=0/\bX s []=0:=by
 unfold aN at h |-;split at h
 .rename_i i;rw[if_pos i];split at h
  .cases h
  .rename_i j;rw[if_neg j];split at h
   .cases h
   .rename_i t l;split at h
    .rename_i e;rw[if_pos e];refine⟨?_,i⟩;unfold m8 at e;simp only[dQ,beq_iff_eq]at e;exact e.1
    .cases h
 .rename_i i;exact absurd h i
theorem DL{s}(h:bX s []=0):(hrCheck s).2.2=0:=by
 unfold bX at h;split at h
 .assumption
 .exact h
theorem FN{e}{t}(h:bQ e t=0):dl t=t.pv:=by
 have:=(gn h).1.two;unfold dl
 cases a:t.marks with
 |nil=>rw[a]at this;simp at this
 |cons m r=>simp only[HrTest.pv,a]
theorem R4{s}{t}{e}(h:bQ e t=0):(j7 s t).1.length<=1000/\∀i,i∈(j7 s t).1->0<=i/\i<1000000000:=by
 have u:=(gn h).1.len;have q:∀(l:List HrMark) (i:Nat),(mQ t i l).length<=l.length/\∀j,j∈mQ t i l->0<=j/\j<i+l.length:=by
  intro l
  induction l with
  |nil=>intro i;exact⟨ba _,λj a=>by cases a⟩
  |cons m r o=>
   intro i;have:=o (i+1);rw[mQ];refine⟨?_,λj a=>?_⟩
   .rw[aL,dB];have:(if ie (wo t i)=true then [(i:Int)] else []).length<=1:=by split<;>simp
    omega
   .rcases ck.1 a with a|a
    .split at a
     .simp at a;subst a;simp;omega
     .simp at a
    .have:=this.2 j a;simp at this |-;omega
 unfold j7;split
 .unfold vN;split
  .simp
  .have:=q t.marks 0;refine⟨iI this.1 (by omega),λi hi=>?_⟩;have:=this.2 i hi;simp at this;omega
 .simp
theorem HR(s)(b:ChBooks)(ex)(t):B7 s { b with tests:=b.tests++[t] } ex =
  [.dead,.dead,.row 23 [.agg ([.slice 3 b.lots.length 0 b.lots.length,.slice 4 (b.batches.length+ex.length) 0 b.batches.length,.slice 5 (b.tests.length+1) 0 (b.tests.length+1),.slice 6 b.boxes.length 0 b.boxes.length,.p (.int .i64 b.poured),.p (.int .i64 b.lost)]++s.cells.map .p)],
  .row 4 (b.lots.map kS),.row 4 (b.batches.map cA++ex.map .p),.row 3 (b.tests.map oh++[.p t.pv]),.row 2 (b.boxes.map rQ)]:=by
 simp only[B7,aL,aV,bD,bK,cf,oh]
def zI:Hints:=ez [(53,.low),(1007052,.sto),(32,.low),(40,.app 37),(5000001,.app 5)]
theorem R0:cy zI Tryz.f201=true:=by kernel_rfl
theorem Ui(s)(b)(ex)(n)(J:SOk s)(I:BkOk s b n)(text):ar TP 201 [.ptr 2 1 0 0,.p (.str (bs text))] (B7 s b ex) (j0 s b ex (aR s b (.test text))):=by
 have K:=I.tests;refine bz (eI (by kernel_rfl) rfl R0) rfl ?_;simp only[ChShop.cells,go_sem,simprocAttr];refine ae (Hy s.hour text) rfl ?_;by_cases q:(aN s.hour text).2=0;rotate_left
 .have D:((aN s.hour text).2==0)=false:=by simpa using q
  simp only[dl,D,go_sem,simprocAttr];refine an (λh=>by cases h) (λ_=>?_);simp only[go_sem,simprocAttr];exact di (e:=(aN s.hour text).2) (by simp only[aR,if_pos q]) [_] rfl
 obtain⟨y,L⟩:=Ip q;have C:=FN y;simp only[C,q,HrTest.pv,go_sem,simprocAttr];refine an (λ_=>?_) (λh=>by cases h);simp only[go_sem,simprocAttr];refine an (λv=>?_) (λv=>?_);rotate_left
 .have o:¬b.tests.length<8:=by simp at v;omega
  simp only[go_sem,simprocAttr];exact di (e:=3) (by simp only[aR,if_neg (not_not_intro q),if_pos o]) [_] rfl
 have o:b.tests.length<8:=by simp at v;omega
 have E:¬¬b.tests.length<8:=λh=>h o;have z:b.tests.length+1<=ao:=by simp only[ao];omega
 simp only[z,zI,aO,go_sem,simprocAttr];refine And.intro (.inr ⟨5,_,rfl,rfl⟩) ?_;refine ax (UH s.hour (aN s.hour text).1) rfl ?_
 have i:aR s b (.test text)=.ok ({ b with tests:=b.tests++[(aN s.hour text).1] },
   if(dH s.hour (aN s.hour text).1).2=0 then joinL [bH (dH s.hour (aN s.hour text).1).1.lo,bH (dH s.hour (aN s.hour text).1).1.hi]
   else joinL (Id::(j7 s.hour (aN s.hour text).1).1.map bH)):=by simp only[aR,if_neg (not_not_intro q),if_neg E]
 by_cases u:(dH s.hour (aN s.hour text).1).2=0
 .simp only[zI,u,Span.pv,go_sem,simprocAttr];have j:0<=(dH s.hour (aN s.hour text).1).1.lo/\(dH s.hour (aN s.hour text).1).1.lo<1000000000/\0<=(dH s.hour (aN s.hour text).1).1.hi/\(dH s.hour (aN s.hour text).1).1.hi<1000000000:=by
   have:=uP (gn y).1;unfold dH;split
   .split
    .dsimp only;omega
    .dsimp only;omega
   .dsimp only;omega
  have l:=oy [.n (dH s.hour (aN s.hour text).1).1.lo,.n (dH s.hour (aN s.hour text).1).1.hi] true (by simp) (λw hw=>by
   simp only[ce,fD,or_false]at hw;rcases hw with rfl|rfl
   .exact⟨j.1,j.2.1⟩
   .exact⟨j.2.2.1,j.2.2.2⟩)
  refine And.intro rfl ?_;refine ae l rfl ?_;simp only[go_sem,simprocAttr];rw[if_pos u]at i;exact gR (ex':=ex) (a:=joinL ([Word.n (dH s.hour (aN s.hour text).1).1.lo,.n (dH s.hour (aN s.hour text).1).1.hi].flatMap Word.ws)) i [_,_] (congrArg (·++[_,_]) (HR s b ex (aN s.hour text).1).symm)
 .have A:((dH s.hour (aN s.hour text).1).2==0)=false:=by simpa using u
  simp only[zI,aO,A,Span.pv,go_sem,simprocAttr];refine And.intro rfl ?_;refine ax (SS s.hour (aN s.hour text).1) rfl ?_;simp only[zI,xe,go_sem,simprocAttr];obtain⟨G,F⟩:=R4 (s:=s.hour) y;have l:=oy [.s Id,.ns (j7 s.hour (aN s.hour text).1).1] true (by simp) (λw hw=>by
   simp only[ce,fD,or_false]at hw;rcases hw with rfl|rfl
   .show (3:Nat)<=1000;decide
   .exact⟨G,F⟩)
  refine ae l rfl ?_;simp only[go_sem,simprocAttr];rw[if_neg u]at i;exact gR (ex':=ex) (a:=joinL ([Word.s Id,.ns (j7 s.hour (aN s.hour text).1).1].flatMap Word.ws)) (by simpa[Word.ws]using i) [_,_] (congrArg (·++[_,_]) (HR s b ex (aN s.hour text).1).symm)
theorem RL(t)(rs)(k):Wx.l4 (Wx.OF t rs k):=by
 have e:∀(l:List (Nat×Nat)) (p:Span),Wx.l4 p->Wx.l4 (Wx.joinL (λq=>(Wx.uz (Wx.iT t rs q)).map (Wx.iN k q)) l p):=by
  intro l
  induction l with
  |nil=>intro p h;exact h
  |cons q l i=>
   intro p h;rw[Wx.joinL];refine i _ ?_;unfold Wx.uz;by_cases a:(Wx.iT t rs q).lo<=(Wx.iT t rs q).hi
   .rw[if_pos a];have hi:=Wx.DW a;refine Wx.Hf h ?_;unfold Wx.iN;split
    .omega
    .split
     .dsimp only;omega
     .dsimp only;omega
   .rw[if_neg a];exact h
 exact e _ _ (by unfold Wx.l4;decide)
theorem Ij{t}{rs}{k}(h:(Wx.bq t rs k).2.2=0):(0<=(Wx.bq t rs k).1.lo/\(Wx.bq t rs k).1.lo<1000000000)/\0<=(Wx.bq t rs k).1.hi/\(Wx.bq t rs k).1.hi<1000000000:=by
 have a:=RL t rs k.toNat;unfold Wx.l4 at a;unfold Wx.bq at h |-;split
 .split
  .unfold Wx.mn;split
   .dsimp only;omega
   .split
    .dsimp only;omega
    .split<;>dsimp only<;>omega
  .dsimp only;omega
 .dsimp only;omega
theorem SOk.waxkinds{s}(h:SOk s):s.wax.kinds.length<1000000000:=by
 have:=(Wx.Dj h.wax).kinds;omega
theorem NQ(s)(x:ChLot):af TP 276 [x.pv,.ptr 1 [.str s] 0 0] (.bool (x.name==s)):=by
 refine aa (ag Tryz.func276 rfl) rfl ?_;simp only[go_sem,simprocAttr]
theorem Jn(s)(x:ChBatch):af TP 281 [x.pv,.ptr 1 [.str s] 0 0] (.bool (x.name==s)):=by
 refine aa (ag Tryz.func281 rfl) rfl ?_;simp only[go_sem,simprocAttr]
theorem FC(s)(b:ChBooks)(ex)(t):B7 s { b with lots:=b.lots++[t] } ex =
  [.dead,.dead,.row 23 [.agg ([.slice 3 (b.lots.length+1) 0 (b.lots.length+1),.slice 4 (b.batches.length+ex.length) 0 b.batches.length,.slice 5 b.tests.length 0 b.tests.length,.slice 6 b.boxes.length 0 b.boxes.length,.p (.int .i64 b.poured),.p (.int .i64 b.lost)]++s.cells.map .p)],
  .row 4 (b.lots.map kS++[.p t.pv]),.row 4 (b.batches.map cA++ex.map .p),.row 3 (b.tests.map oh),.row 2 (b.boxes.map rQ)]:=by
 simp only[B7,aL,aV,bD,bK,cf,kS]
def Fy:Hints:=ez [(64,.low),(76,.app 69),(5000001,.app 6)]
theorem TQ:cy Fy Tryz.f206=true:=by kernel_rfl
theorem We(s)(b)(ex)(n)(R:SOk s)(V:BkOk s b n)(name kind)(grams)(rs)(K:rs.length<1000000000):ar TP 206 [.ptr 2 1 0 0,.p (.str (bs name)),.p (.str (bs kind)),.p (.int .i64 grams),.p (.slice 1 (rs.map aI) false)] (B7 s b ex) (j0 s b ex (aR s b (.lot name kind grams rs))):=by
 have X:=V.lots;refine bz (eI (by kernel_rfl) rfl TQ) rfl ?_;simp only[ChShop.cells,go_sem,simprocAttr];refine aU (zu (fv:=.func (.func 276) [] [.ptr 1 [.str (bs name)] 0 0]) b.lots (λy=>y.name==bs name) false 4 rfl (by omega) λy _=>⟨_,_,_,rfl,NQ (bs name) y⟩) ?_ (.bool _) ?_
 .simp only[go_sem,simprocAttr]
 simp only[go_sem,simprocAttr];refine an (λE=>?_) (λE=>?_);rotate_left
 .have i:(b.lots.any λy=>y.name==bs name)=true:=by simpa using E
  simp only[go_sem,simprocAttr];exact di (e:=5) (by simp only[aR,if_pos i]) [_] rfl
 have i:¬(b.lots.any λy=>y.name==bs name)=true:=by
  intro h;rw[h]at E;cases E
 simp only[go_sem,simprocAttr];by_cases v:aq (λx:WxKind=>x.name==bs kind) s.wax.kinds 0<0
 .refine qR (RY s.wax.kinds (bs kind) false R.waxkinds v) rfl (me _) ?_;simp only[go_sem,simprocAttr];exact di (e:=4) (by simp only[aR,if_neg i,if_pos v]) [_] rfl
 refine ae (SZ s.wax.kinds (bs kind) false R.waxkinds (by omega)) rfl ?_;by_cases C:1<=grams/\grams<=100000;rotate_left
 .have S:aR s b (.lot name kind grams rs)=.error 7:=by simp only[aR,if_neg i,if_neg v,if_pos C]
  by_cases F:1<=grams
  .have M:decide (grams<=100000)=false:=by simpa using λh=>C ⟨F,h⟩
   have o:decide (1<=grams)=true:=by simpa using F
   simp only[o,M,go_sem,simprocAttr];refine an (λh=>by cases h) (λ_=>?_);simp only[go_sem,simprocAttr];exact di (e:=7) S [_] rfl
  .have o:decide (1<=grams)=false:=by simpa using F
   simp only[o,go_sem,simprocAttr];refine an (λh=>by cases h) (λ_=>?_);simp only[go_sem,simprocAttr];exact di (e:=7) S [_] rfl
 have u:¬¬(1<=grams/\grams<=100000):=λh=>h C;simp only[C.1,C.2,go_sem,simprocAttr];refine an (λ_=>?_) (λh=>by cases h);simp only[go_sem,simprocAttr];refine ae (Wx.UC s.wax rs (aq (λx:WxKind=>x.name==bs kind) s.wax.kinds 0) K) rfl ?_;by_cases A:(Wx.bq s.wax rs (aq (λx:WxKind=>x.name==bs kind) s.wax.kinds 0)).2.2=0;rotate_left
 .have O:((Wx.bq s.wax rs (aq (λx:WxKind=>x.name==bs kind) s.wax.kinds 0)).2.2==0)=false:=by simpa using A
  simp only[O,Span.pv,go_sem,simprocAttr];refine an (λh=>by cases h) (λ_=>?_);simp only[go_sem,simprocAttr];exact di (e:=(Wx.bq s.wax rs (aq (λx:WxKind=>x.name==bs kind) s.wax.kinds 0)).2.2) (by simp only[aR,if_neg i,if_neg v,if_neg u,if_pos A]) [_,_] rfl
 have D:¬(Wx.bq s.wax rs (aq (λx:WxKind=>x.name==bs kind) s.wax.kinds 0)).2.2≠0:=λh=>h A;obtain⟨U,T⟩:=Ij A;simp only[A,Span.pv,go_sem,simprocAttr];refine an (λ_=>?_) (λh=>by cases h);simp only[go_sem,simprocAttr];refine an (λG=>?_) (λG=>?_);rotate_left
 .have q:¬b.lots.length<8:=by simp at G;omega
  simp only[go_sem,simprocAttr];exact di (e:=3) (by simp only[aR,if_neg i,if_neg v,if_neg u,if_neg D,if_pos q]) [_,_] rfl
 have q:b.lots.length<8:=by simp at G;omega
 have N:¬¬b.lots.length<8:=λh=>h q;have L:b.lots.length+1<=ao:=by simp only[ao];omega
 have j:aR s b (.lot name kind grams rs)=.ok ({ b with lots:=b.lots++[⟨bs name,aq (λx:WxKind=>x.name==bs kind) s.wax.kinds 0,grams,rs⟩] },joinL [mj (Wx.bq s.wax rs (aq (λx:WxKind=>x.name==bs kind) s.wax.kinds 0)).2.1,bH (Wx.bq s.wax rs (aq (λx:WxKind=>x.name==bs kind) s.wax.kinds 0)).1.lo,bH (Wx.bq s.wax rs (aq (λx:WxKind=>x.name==bs kind) s.wax.kinds 0)).1.hi]):=by
  simp only[aR,if_neg i,if_neg v,if_neg u,if_neg D,if_neg N]
 simp only[L,Fy,aO,go_sem,simprocAttr];refine And.intro (.inr ⟨3,_,rfl,rfl⟩) ?_;have l:∀w:List UInt8,w.length<=1000->af TP 126 [.slice 1 ([Word.s w,.n (Wx.bq s.wax rs (aq (λx:WxKind=>x.name==bs kind) s.wax.kinds 0)).1.lo,.n (Wx.bq s.wax rs (aq (λx:WxKind=>x.name==bs kind) s.wax.kinds 0)).1.hi].map Word.pv) true] _:=λw hw=>oy [.s w,.n (Wx.bq s.wax rs (aq (λx:WxKind=>x.name==bs kind) s.wax.kinds 0)).1.lo,.n (Wx.bq s.wax rs (aq (λx:WxKind=>x.name==bs kind) s.wax.kinds 0)).1.hi] true (by simp) (λx hx=>by
  simp only[ce,fD,or_false]at hx;rcases hx with rfl|rfl|rfl
  .exact hw
  .exact U
  .exact T)
 by_cases v1:(Wx.bq s.wax rs (aq (λx:WxKind=>x.name==bs kind) s.wax.kinds 0)).2.1=1
 .have z:mj (Wx.bq s.wax rs (aq (λx:WxKind=>x.name==bs kind) s.wax.kinds 0)).2.1=CN:=by rw[mj,if_pos v1]
  simp only[v1,Fy,go_sem,simprocAttr];refine ae (l CN (by decide)) rfl ?_;simp only[go_sem,simprocAttr];exact gR (ex':=ex) (a:=joinL ([Word.s CN,.n (Wx.bq s.wax rs (aq (λx:WxKind=>x.name==bs kind) s.wax.kinds 0)).1.lo,.n (Wx.bq s.wax rs (aq (λx:WxKind=>x.name==bs kind) s.wax.kinds 0)).1.hi].flatMap Word.ws)) (by rw[j,z];rfl) [_,_] (congrArg (·++[_,_]) (FC s b ex ⟨bs name,aq (λx:WxKind=>x.name==bs kind) s.wax.kinds 0,grams,rs⟩).symm)
 have J:((Wx.bq s.wax rs (aq (λx:WxKind=>x.name==bs kind) s.wax.kinds 0)).2.1==1)=false:=by simpa using v1
 by_cases v2:(Wx.bq s.wax rs (aq (λx:WxKind=>x.name==bs kind) s.wax.kinds 0)).2.1=2
 .have z:mj (Wx.bq s.wax rs (aq (λx:WxKind=>x.name==bs kind) s.wax.kinds 0)).2.1=sQ:=by rw[mj,if_neg v1,if_pos v2]
  simp only[v2,Fy,go_sem,simprocAttr];refine ae (l sQ (by decide)) rfl ?_;simp only[go_sem,simprocAttr];exact gR (ex':=ex) (a:=joinL ([Word.s sQ,.n (Wx.bq s.wax rs (aq (λx:WxKind=>x.name==bs kind) s.wax.kinds 0)).1.lo,.n (Wx.bq s.wax rs (aq (λx:WxKind=>x.name==bs kind) s.wax.kinds 0)).1.hi].flatMap Word.ws)) (by rw[j,z];rfl) [_,_] (congrArg (·++[_,_]) (FC s b ex ⟨bs name,aq (λx:WxKind=>x.name==bs kind) s.wax.kinds 0,grams,rs⟩).symm)
 have I:((Wx.bq s.wax rs (aq (λx:WxKind=>x.name==bs kind) s.wax.kinds 0)).2.1==2)=false:=by simpa using v2
 have z:mj (Wx.bq s.wax rs (aq (λx:WxKind=>x.name==bs kind) s.wax.kinds 0)).2.1=vu:=by rw[mj,if_neg v1,if_neg v2]
 simp only[J,I,Fy,go_sem,simprocAttr];refine ae (l vu (by decide)) rfl ?_;simp only[go_sem,simprocAttr];exact gR (ex':=ex) (a:=joinL ([Word.s vu,.n (Wx.bq s.wax rs (aq (λx:WxKind=>x.name==bs kind) s.wax.kinds 0)).1.lo,.n (Wx.bq s.wax rs (aq (λx:WxKind=>x.name==bs kind) s.wax.kinds 0)).1.hi].flatMap Word.ws)) (by rw[j,z];rfl) [_,_] (congrArg (·++[_,_]) (FC s b ex ⟨bs name,aq (λx:WxKind=>x.name==bs kind) s.wax.kinds 0,grams,rs⟩).symm)
theorem rq{α}(p):∀(l) (k),aq p l k<0\/∃(j:Nat) (x:α),aq p l k=((k+j:Nat):Int)/\l[j]?=some x/\p x=true
 |[],k=>.inl (by simp[aq])
 |y::l,k=>by
  rw[aq];split
  .rename_i h;exact .inr ⟨0,y,by simp,rfl,h⟩
  .rcases rq p l (k+1) with h|⟨j,x,i,e,a⟩
   .exact .inl h
   .exact .inr ⟨j+1,x,by rw[i];congr 1;omega,by simpa using e,a⟩
theorem Mi(s)(b:ChBooks)(ex)(a)(t):B7 s { b with lots:=a,batches:=b.batches++[t] } ex =
  [.dead,.dead,.row 23 [.agg ([.slice 3 a.length 0 a.length,.slice 4 (b.batches.length+1+ex.length) 0 (b.batches.length+1),.slice 5 b.tests.length 0 b.tests.length,.slice 6 b.boxes.length 0 b.boxes.length,.p (.int .i64 b.poured),.p (.int .i64 b.lost)]++s.cells.map .p)],
  .row 4 (a.map kS),.row 4 (b.batches.map cA++[.p t.pv]++ex.map .p),.row 3 (b.tests.map oh),.row 2 (b.boxes.map rQ)]:=by
 simp only[B7,aL,aV,bD,bK,cf,cA]
theorem l7(l:List ChBatch)(ex):(l.map ChBatch.pv++ex).take l.length=l.map ChBatch.pv:=fa (by simp)
theorem Rs(s)(b:ChBooks)(a)(t):B7 s { b with lots:=a,batches:=b.batches++[t] } [] =
  [.dead,.dead,.row 23 [.agg ([.slice 3 a.length 0 a.length,.slice 4 (b.batches.length+1) 0 (b.batches.length+1),.slice 5 b.tests.length 0 b.tests.length,.slice 6 b.boxes.length 0 b.boxes.length,.p (.int .i64 b.poured),.p (.int .i64 b.lost)]++s.cells.map .p)],
  .row 4 (a.map kS),.row 4 (b.batches.map cA++[.p t.pv]),.row 3 (b.tests.map oh),.row 2 (b.boxes.map rQ)]:=by
 rw[Mi,cf,bt];rfl
def Ox:Hints:=ez [(77,.low),(89,.app 82),(5000001,.app 6)]
theorem TR:cy Ox Tryz.f208=true:=by kernel_rfl
theorem Sk(s)(b)(ex)(n)(hs:SOk s)(K:BkOk s b n)(name colour lot)(grams):ar TP 208 [.ptr 2 1 0 0,.p (.str (bs name)),.p (.str (bs colour)),.p (.str (bs lot)),.p (.int .i64 grams)] (B7 s b ex) (j0 s b ex (aR s b (.batch name colour lot grams))):=by
 have hl:=K.batches;have a0:=K.lots;refine bz (eI (by kernel_rfl) rfl TR) rfl ?_;simp only[ChShop.cells,go_sem,simprocAttr];refine aU (zt (fv:=.func (.func 281) [] [.ptr 1 [.str (bs name)] 0 0]) b.batches (λy=>y.name==bs name) false 4 rfl (by omega) λy _=>⟨_,_,_,rfl,Jn (bs name) y⟩) ?_ (.bool _) ?_
 .simp only[go_sem,simprocAttr];rw[l7]
 simp only[go_sem,simprocAttr];refine an (λM=>?_) (λM=>?_);rotate_left
 .have a:(b.batches.any λy=>y.name==bs name)=true:=by simpa using M
  simp only[go_sem,simprocAttr];exact di (e:=5) (by simp only[aR,if_pos a]) [_] rfl
 have a:¬(b.batches.any λy=>y.name==bs name)=true:=by
  intro h;rw[h]at M;cases M
 simp only[go_sem,simprocAttr];by_cases l:aq (λx:ClColour=>x.name==bs colour) s.colour.colours 0<0
 .refine qR (RX s.colour.colours (bs colour) false hs.colours l) rfl (me _) ?_;simp only[go_sem,simprocAttr];exact di (e:=4) (by simp only[aR,if_neg a,if_pos l]) [_] rfl
 refine ae (SY s.colour.colours (bs colour) false hs.colours (by omega)) rfl ?_;simp only[go_sem,simprocAttr];rcases rq (λx:ChLot=>x.name==bs lot) b.lots 0 with L|⟨j,x,A,hx,_⟩
 .refine qR (RV b.lots (bs lot) false (by omega) L) ?_ (me _) ?_
  .simp only[go_sem,simprocAttr]
  simp only[go_sem,simprocAttr];exact di (e:=4) (by simp only[aR,if_neg a,if_neg l,if_pos L]) [_] rfl
 rw[gV]at A;have a1:j<b.lots.length:=(aB.1 hx).1;have E:(j:Int)<(b.lots.length:Int):=by omega
 have L:¬aq (λx:ChLot=>x.name==bs lot) b.lots 0<0:=by rw[A];omega
 have z:¬(j:Int)<0:=by omega
 have F:=SX b.lots (bs lot) false (by omega) (by omega);rw[A]at F;refine aU F ?_ (.int _ _) ?_
 .simp only[go_sem,simprocAttr]
 by_cases C:1<=grams/\grams<=100000;rotate_left
 .have ha:aR s b (.batch name colour lot grams)=.error 7:=by simp only[aR,if_neg a,if_neg l,if_neg L,if_pos C]
  by_cases J:1<=grams
  .have S:decide (grams<=100000)=false:=by simpa using λh=>C ⟨J,h⟩
   have o:decide (1<=grams)=true:=by simpa using J
   simp only[o,S,go_sem,simprocAttr];refine an (λh=>by cases h) (λ_=>?_);simp only[go_sem,simprocAttr];exact di (e:=7) ha [_] rfl
  .have o:decide (1<=grams)=false:=by simpa using J
   simp only[o,go_sem,simprocAttr];refine an (λh=>by cases h) (λ_=>?_);simp only[go_sem,simprocAttr];exact di (e:=7) ha [_] rfl
 have v:¬¬(1<=grams/\grams<=100000):=λh=>h C;have hA:kS x=.p x.pv:=rfl;simp only[C.1,C.2,go_sem,simprocAttr];refine an (λ_=>?_) (λh=>by cases h);simp only[E,hx,hA,go_sem,simprocAttr];refine an (λO=>?_) (λO=>?_);rotate_left
 .have u:¬grams<=x.grams:=by simpa using O
  simp only[go_sem,simprocAttr];exact di (e:=9) (by simp only[aR,if_neg a,if_neg l,if_neg v,A,if_neg z,kn,hx,if_pos u]) [_] rfl
 have u:grams<=x.grams:=by simpa using O
 have G:¬¬grams<=x.grams:=λh=>h u;simp only[go_sem,simprocAttr];refine an (λN=>?_) (λN=>?_);rotate_left
 .have q:¬b.batches.length<7:=by simp at N;omega
  simp only[go_sem,simprocAttr];exact di (e:=3) (by simp only[aR,if_neg a,if_neg l,if_neg v,A,if_neg z,kn,hx,if_neg G,if_pos q]) [_] rfl
 have q:b.batches.length<7:=by simp at N;omega
 have Z:¬¬b.batches.length<7:=λh=>h q;have J:=K.grams x (aG hx);have hw:IntKind.i64.wrap (x.grams-grams)=x.grams-grams:=am (by omega) (by have:=K.few;omega);have i:aR s b (.batch name colour lot grams)=.ok ({ b with lots:=b.lots.set j { x with grams:=x.grams-grams },batches:=b.batches++[⟨bs name,aq (λx:ClColour=>x.name==bs colour) s.colour.colours 0,(j:Int),grams⟩] },oH):=by
  simp only[aR,if_neg a,if_neg l,if_neg v,A,if_neg z,kn,hx,if_neg G,if_neg Z]
 have R:b.batches.length+1<=ao:=by simp only[ao];omega
 have I:(b.lots.map kS).set j (.p (.agg [.str x.name,.int .i64 x.kind,.int .i64 (x.grams-grams),.slice 1 (x.readings.map aI) false]))=(b.lots.set j { x with grams:=x.grams-grams }).map kS:=by rw[CJ];rfl
 have D:(b.lots.set j { x with grams:=x.grams-grams }).length=b.lots.length:=sI;simp only[E,hx,hA,hw,I,go_sem,simprocAttr]
 cases ex with
 |nil=>
  simp only[Ox,aO,cf,bt,dL,jK,R,go_sem,simprocAttr];refine And.intro (.inr ⟨4,_,rfl,rfl⟩) ?_;refine gR (ex':=[]) i [.row 1 [.p (.str (bs name))]] ?_
  rw[Rs,D];rfl
 |cons e ex=>
  have Y:(b.batches.map cA++AV.p e::ex.map AV.p).length=b.batches.length+(ex.length+1):=by simp
  have X:(b.batches.length=b.batches.length+(ex.length+1))=False:=eq_false (by omega);have V:(b.batches.map cA++AV.p e::ex.map AV.p).take b.batches.length=b.batches.map cA:=fa (by simp);have U:(b.batches.map cA++AV.p e::ex.map AV.p).drop (b.batches.length+1)=ex.map AV.p:=by
   rw[List.drop_append];simp
  have T:b.batches.length+1<=b.batches.length+(ex.length+1):=by omega
  simp only[Ox,aO,dB,Y,X,V,U,T,go_sem,simprocAttr];refine And.intro (.inr ⟨4,_,rfl,rfl⟩) ?_;refine gR (ex':=ex) i [.row 1 [.p (.str (bs name))]] ?_;rw[Mi,D,show b.batches.length+1+ex.length=b.batches.length+(ex.length+1) by omega];rfl
def oF:PV:=.agg [.str .empty,.int .i64 0,.int .i64 0,.int .i64 0]
theorem PM(l:List ChBatch)(ex:List PV)(i id)(h)(hid:h[id]?=some (.row 4 (l.map cA++ex.map .p)))(hi:i<l.length)(hlen:l.length<=7) :
  ar TP 288 [.slice id (l.length+ex.length) 0 l.length,.p (.int .i64 i),.p (.int .i64 (i+1:Nat))] h
   (λr h'=>r=.ret (.slice id (l.length+ex.length) 0 (l.length-1))/\h'=h.set id (.row 4 ((l.eraseIdx i).map cA++.p oF::ex.map .p))):=by
 refine au (ag Tryz.func288 rfl) rfl ?_;have h1:(i:Int)<=((i+1:Nat):Int):=by omega
 have h2:((i+1:Nat):Int)<=(l.length:Int):=by omega
 have h2e:((i+1:Nat):Int)<=((l.length+ex.length:Nat):Int):=by omega
 have h3:((i:Int)==((i+1:Nat):Int))=false:=by simp;omega
 have h0:(0:Int)<=(i:Int):=by omega
 have h4:(0:Int)+(l.length:Int)<=((l.length+ex.length:Nat):Int):=by omega
 have h4b:(l.length:Int)<=((l.length+ex.length:Nat):Int):=by omega
 have h5:(i:Int)<=(l.length:Int):=by omega
 have h5e:(i:Int)<=((l.length+ex.length:Nat):Int):=by omega
 have h6:i+1+(l.length-(i+1))<=l.length+ex.length:=by omega
 have h7:¬(i=l.length+ex.length):=by omega
 have hys:List.take (l.length-(i+1)) (List.drop (i+1) (l.map cA++ex.map .p))=(l.drop (i+1)).map cA:=by
  rw[Rv (by rw[dp];omega),<-List.map_drop,fa (by simp)]
 have h8:i+(l.length-(i+1))=l.length-1:=by omega
 have h9:l.length-1<=l.length+ex.length:=by omega
 obtain⟨z,hz⟩:∃z,List.drop (l.length-1) (l.map cA++ex.map .p)=z::ex.map AV.p:=by
  have:(List.drop (l.length-1) (l.map cA)).length=1:=by simp;omega
  match hd:List.drop (l.length-1) (l.map cA),this with
  |[z],_=>
   refine⟨z,?_⟩;rw[Rv (by rw[dp];omega),hd];rfl
 have htk0:List.take i (l.map cA++ex.map AV.p)=(l.take i).map cA:=by rw[List.take_append_of_le_length (by rw[dp];omega),List.map_take]
 have her:(l.take i).map cA++((l.drop (i+1)).map cA++z::ex.map AV.p)=(l.eraseIdx i).map cA++z::ex.map AV.p:=by
  rw[<-dJ,<-bD,Ru]
 have hel:(l.eraseIdx i).length=l.length-1:=by rw[sJ,if_pos hi]
 have hgs:∀x,(h.set id x)[id]?=some x:=λx=>by rw[fZ (aB.1 hid).1]
 have h10:((l.length-1:Nat):Int)<=(l.length:Int):=by omega
 have h10e:((l.length-1:Nat):Int)<=((l.length+ex.length:Nat):Int):=by omega
 have h11:(0:Int)<=((l.length-1:Nat):Int):=by omega
 have h12:l.length-1+1=l.length:=by omega
 have h13:l.length-(l.length-1)=1:=by omega
 have h14:l.length-1+(l.length-(l.length-1))<=l.length+ex.length:=by omega
 have h15:¬((l.length:Int)<=((l.length-1:Nat):Int)):=by omega
 have h16:l.length<=l.length+ex.length:=by omega
 have hle2:((l.eraseIdx i).map cA++z::ex.map AV.p).length=l.length+ex.length:=by simp[hel];omega
 have hle3:(l.length-1+(ex.length+1))=l.length+ex.length:=by omega
 have htk:List.take (l.length-1) (List.map cA (l.eraseIdx i)++z::ex.map AV.p)=List.map cA (l.eraseIdx i):=fa (by rw[dp,hel]);have sa:List.drop l.length (List.map cA (l.eraseIdx i)++z::ex.map AV.p)=ex.map AV.p:=by
  rw[List.drop_append,HU (by rw[dp,hel];omega),dp,hel,h13];rfl
 simp only[h15,htk,sa,hid,h0,h1,h2,h3,h4,h5,h6,h7,hys,h8,h9,hz,htk0,her,hgs,h10,h11,h12,h13,h16,hle2,HD,Nat.sub_zero,gV,List.length_drop,dJ,oc,vt,H6,oF,go_sem,simprocAttr];rfl
theorem Rr(s)(b:ChBooks)(ex)(a)(j)(e:j<b.batches.length):B7 s { b with lots:=a,batches:=b.batches.eraseIdx j } (oF::ex) =
  [.dead,.dead,.row 23 [.agg ([.slice 3 a.length 0 a.length,.slice 4 (b.batches.length+ex.length) 0 (b.batches.length-1),.slice 5 b.tests.length 0 b.tests.length,.slice 6 b.boxes.length 0 b.boxes.length,.p (.int .i64 b.poured),.p (.int .i64 b.lost)]++s.cells.map .p)],
  .row 4 (a.map kS),.row 4 ((b.batches.eraseIdx j).map cA++.p oF::ex.map .p),.row 3 (b.tests.map oh),.row 2 (b.boxes.map rQ)]:=by
 have l:(b.batches.eraseIdx j).length=b.batches.length-1:=by rw[sJ,if_pos e]
 have i:b.batches.length-1+(ex.length+1)=b.batches.length+ex.length:=by omega
 simp only[B7,l,dB,i,bK]
theorem Uo(s)(b)(ex)(n)(O:SOk s)(a:BkOk s b n)(name):ar TP 210 [.ptr 2 1 0 0,.p (.str (bs name))] (B7 s b ex) (j0 s b ex (aR s b (.drop name))):=by
 have K:=a.batches;have N:=a.lots;refine bz (ag Tryz.func210 rfl) rfl ?_;simp only[ChShop.cells,go_sem,simprocAttr];rcases rq (λx:ChBatch=>x.name==bs name) b.batches 0 with J|⟨j,y,v,u,_⟩
 .refine qR (RU b.batches (bs name) false (by omega) J) ?_ (me _) ?_
  .simp only[go_sem,simprocAttr];rw[l7]
  simp only[go_sem,simprocAttr];exact di (e:=4) (by simp only[aR,if_pos J]) [] (bt _).symm
 rw[gV]at v;have i:j<b.batches.length:=(aB.1 u).1;have G:(j:Int)<(b.batches.length:Int):=by omega
 have D:¬(j:Int)<0:=by omega
 have l:=SV b.batches (bs name) false (by omega) (by omega);rw[v]at l;refine aU l ?_ (.int _ _) ?_
 .simp only[go_sem,simprocAttr];rw[l7]
 have z:=vd u ex;obtain⟨⟨U,T⟩,⟨M,S⟩,_⟩:=a.waits y (aG u);obtain⟨k,I⟩:=sB M;have E:k<b.lots.length:=by omega
 obtain⟨x,hx⟩:∃x,b.lots[k]?=some x:=⟨_,bO E⟩
 have F:(k:Int)<(b.lots.length:Int):=by omega
 have L:kS x=.p x.pv:=rfl;have R:=a.grams x (aG hx);have hw:IntKind.i64.wrap (x.grams+y.grams)=x.grams+y.grams:=am (by omega) (by have:=a.few;omega);have A:IntKind.i64.wrap ((j:Int)+1)=((j+1:Nat):Int):=by rw[am (by omega) (by omega)];rfl
 have o:(b.lots.map kS).set k (.p (.agg [.str x.name,.int .i64 x.kind,.int .i64 (x.grams+y.grams),.slice 1 (x.readings.map aI) false]))=(b.lots.set k { x with grams:=x.grams+y.grams }).map kS:=by rw[CJ];rfl
 have C:(b.lots.set k { x with grams:=x.grams+y.grams }).length=b.lots.length:=sI;have q:aR s b (.drop name)=.ok ({ b with lots:=b.lots.set k { x with grams:=x.grams+y.grams },batches:=b.batches.eraseIdx j },oH):=by
  simp only[aR,v,if_neg D,kn,u,I,hx]
 simp only[G,z,I,F,hx,L,hw,o,A,go_sem,simprocAttr];refine cq (PM b.batches ex j 4 _ rfl i K) ?_;simp only[go_sem,simprocAttr];refine gR (ex':=oF::ex) q [] ?_;rw[Rr _ _ _ _ _ i,C];rfl
end Ch
end Abs
end Go.Proofs.YtmndpldajflenaaGreatDoor
