/-
  CONTRACTS: what a blend melts and shrinks at, what it costs; Value, Made, Weigh, Raise; in
  CONTRACTS: Value, Made, Weigh, Raise, the error of a wish, why a recipe does not fit one, 
  CONTRACTS: why a recipe does not fit a wish, Fits, Made, Weigh; in the program and in the 
  CONTRACTS: Made, in the program and in the reference.
  CONTRACTS: all recipes, those that fit a wish; in the reference; and the program's iterato
-/
import Derived.Test.YtfafnkpfamgbbaaGreatDoorAbsCutX
import Derived.Test.YtfafnkpfamgbbaaGreatDoorBdChkX
set_option linter.unusedSimpArgs false
set_option linter.unusedVariables false
open Go.Proofs.Tryz renaming prog->TP
namespace Go.Proofs.YtfafnkpfamgbbaaGreatDoor
namespace Abs
set_option maxRecDepth 4000
theorem Pc {of} (i) (p) (v) (h:iN TP of [cn p] (.int .i64 v)):ah TP 301 [.int .i64 i,cn p,.ptr 1 [of] 0 0] (.int .i64 v):=by
 refine aa (ai (by kernel_rfl) rfl TG) rfl ?_;obtain ⟨g,first,cap,rfl,hc⟩:=h;simp only [go_sem,simprocAttr];refine ae hc (by simp [cn]) ?_;simp only [go_sem,simprocAttr]
theorem rG {of} (ps) (f) (b) (hl:ps.length<=5) (hof:∀ p,p∈ps->iN TP of [cn p] (.int .i64 (f p))/\-1000000000<=f p/\f p<=1000000000) (hne:∃ g first cap,of=.func (.func g) first cap) :
  ah TP 267 [.slice 8 (ps.map cn) b,of] (.int .i64 (cE f ps)):=by
 refine aa (ai (by kernel_rfl) rfl T9) rfl ?_;obtain ⟨g,first,cap,rfl⟩:=hne;simp only [go_sem,simprocAttr];refine bh (PD (fv:=.func (.func 301) [] [.ptr 1 [.func (.func g) first cap] 0 0]) ps (λ_ p=>f p) b 8 rfl (by omega) λi p hi=>⟨⟨_,_,_,rfl,Pc i p _ (hof p (aI hi)).1⟩,(hof p (aI hi)).2⟩) ?_ (.int _ _) ?_
 .simp only [go_sem,simprocAttr]
 .simp only [go_sem,simprocAttr];rw [FR];rfl
theorem zN (ps) (b) (h:PsOk ps):ah TP 267 [.slice 8 (ps.map cn) b,.func (.func 329) [] []] (.int .i64 (cE kJ ps)) :=
 rG ps kJ b h.len (λp hp=>⟨⟨_,_,_,rfl,BB p (h.wax p hp)⟩,by have:=dy (h.wax p hp);omega⟩) ⟨_,_,_,rfl⟩
theorem zO (ps) (b) (h:PsOk ps):ah TP 267 [.slice 8 (ps.map cn) b,.func (.func 330) [] []] (.int .i64 (cE kK ps)) :=
 rG ps kK b h.len (λp hp=>⟨⟨_,_,_,rfl,BC p (h.wax p hp)⟩,by have:=dy (h.wax p hp);omega⟩) ⟨_,_,_,rfl⟩
theorem DL (ps) (b) (h:PsOk ps):ah TP 267 [.slice 8 (ps.map cn) b,.func (.func 331) [] []] (.int .i64 (cE kq ps)) :=
 rG ps kq b h.len (λp hp=>⟨⟨_,_,_,rfl,Fl p (h.wax p hp)⟩,by have:=dy (h.wax p hp);omega⟩) ⟨_,_,_,rfl⟩
theorem Fh (ps) (b) (h:PsOk ps):ah TP 267 [.slice 8 (ps.map cn) b,.func (.func 332) [] []] (.int .i64 (cE mH ps)) :=
 rG ps mH b h.len (λp hp=>⟨⟨_,_,_,rfl,H9 p (h.wax p hp)⟩,by have:=dy (h.wax p hp);omega⟩) ⟨_,_,_,rfl⟩
theorem uD (ps) (b) (h:PsOk ps):ah TP 267 [.slice 8 (ps.map cn) b,.func (.func 269) [] []] (.int .i64 (cE iZ ps)) :=
 rG ps iZ b h.len (λp hp=>⟨⟨_,_,_,rfl,Fk p (h.wax p hp)⟩,by have:=dy (h.wax p hp);omega⟩) ⟨_,_,_,rfl⟩
theorem DK (ps) (b) (h:PsOk ps):ah TP 267 [.slice 8 (ps.map cn) b,.func (.func 333) [] []] (.int .i64 (cE fI ps)) :=
 rG ps fI b h.len (λp hp=>⟨⟨_,_,_,rfl,Fj p (h.wax p hp)⟩,by have:=dy (h.wax p hp);omega⟩) ⟨_,_,_,rfl⟩
theorem FQ {ps} (h:PsOk ps):(0<=cE kJ ps/\cE kJ ps<=200000)/\(0<=cE kK ps/\cE kK ps<=200000)/\(0<=cE kq ps/\cE kq ps<=100000)/\(0<=cE mH ps/\cE mH ps<=100000)/\(0<=cE iZ ps/\cE iZ ps<=10000000)/\-30000<=cE fI ps/\cE fI ps<=30000:=by
 have hl:=h.len;have key:∀ (f:BdWax×Int->Int) (b:Int),0<=b->(∀ p,p∈ps->0<=f p/\f p<=b)->0<=cE f ps/\cE f ps<=5*b:=λf b hb hf=>by
  have h1:=zl hf;have h2:=(Am (f:=f) hl hb λp hp=>by have:=hf p hp;omega).2;omega
 refine ⟨key _ 40000 (by omega) λp hp=>(dy (h.wax p hp)).1,key _ 40000 (by omega) λp hp=>(dy (h.wax p hp)).2.1,key _ 20000 (by omega) λp hp=>(dy (h.wax p hp)).2.2.1,key _ 20000 (by omega) λp hp=>(dy (h.wax p hp)).2.2.2.1,key _ 2000000 (by omega) λp hp=>(dy (h.wax p hp)).2.2.2.2.1,?_⟩;exact Am (b:=6000) hl (by omega) λp hp=>(dy (h.wax p hp)).2.2.2.2.2
def qx (ps:Ps):Span:=⟨cE kJ ps+cE fI ps,cE kK ps+cE fI ps⟩
def iV (ps:Ps):Span:=⟨cE kq ps,cE mH ps⟩
set_option maxHeartbeats 1000000 in
theorem vI (ps) (b) (h:PsOk ps):ah TP 323 [.slice 8 (ps.map cn) b] (.tuple [(qx ps).pv,(iV ps).pv]):=by
 refine aa (ai (by kernel_rfl) rfl To) rfl ?_;have hb:=FQ h;have w1:IntKind.i64.wrap (cE kJ ps+cE fI ps)=cE kJ ps+cE fI ps:=an (by omega) (by omega);have w2:IntKind.i64.wrap (cE kK ps+cE fI ps)=cE kK ps+cE fI ps:=an (by omega) (by omega);simp only [Sn,go_sem,simprocAttr];refine bp ?_;simp only [go_sem,simprocAttr];refine ae (zN ps b h) rfl ?_;simp only [go_sem,simprocAttr];refine bp ?_;simp only [go_sem,simprocAttr];refine ae (zO ps b h) rfl ?_;simp only [go_sem,simprocAttr];refine bp ?_;simp only [go_sem,simprocAttr];refine ae (DL ps b h) rfl ?_;simp only [go_sem,simprocAttr];refine bp ?_;simp only [go_sem,simprocAttr];refine ae (Fh ps b h) rfl ?_;simp only [go_sem,simprocAttr];refine bp ?_;simp only [go_sem,simprocAttr];refine ae (DK ps b h) rfl ?_;simp only [go_sem,simprocAttr];refine bp ?_;simp only [bf,w1,w2,qx,iV,go_sem,simprocAttr]
theorem zh {α β γ:Type} (f:α->γ) {l:List α} {r:List β} (h:r.length=l.length):((l.zip r).map λp=>f p.1)=l.map f:=by
 rw [show (λp:α×β=>f p.1)=f∘Prod.fst from rfl,<-tD,List.map_fst_zip (by omega)]
theorem zg {α β γ:Type} (f:β->γ) {l:List α} {r} (h:r.length=l.length):((l.zip r).map λp=>f p.2)=r.map f:=by
 rw [show (λp:α×β=>f p.2)=f∘Prod.snd from rfl,<-tD,List.map_snd_zip (by omega)]
theorem sx {l} {r} (hl:BdWaxesOk l) (hr:∀ n,n∈r->0<=n/\n<=20):PsOk (l.zip r):=by
 refine ⟨by have:=hl.len;simp;omega,λp hp=>?_⟩;obtain ⟨x,n⟩:=p;obtain ⟨h1,h2⟩:=List.of_mem_zip hp;exact ⟨hl.wax x h1,hr n h2⟩
theorem Gy {l} {r} (b1 b2) (hl:BdWaxesOk l) (hlen:r.length=l.length):ah TP 268 [.slice 7 (l.map BdWax.pv) b1,.slice 1 (r.map aJ) b2] (pz (l.zip r)):=by
 have h:=RY (l.zip r) b1 b2 (by have:=hl.len;simp;omega);rwa [zh BdWax.pv hlen,zg aJ hlen] at h
theorem F5 {l} (h:BdWaxesOk l):IntKind.i64.wrap ((l.length:Int)-1)=(l.length:Int)-1:=an (by omega) (by have:=h.len;omega)
def Jv (a b:Bool):Int:=if a=true then 7 else if b=true then 2 else 0
def pm (w:BdWish):Bool:=!(dq w.melt 0 2000&&dq w.shrink 0 1000)
def kA (w:BdWish):Bool:=aZ w.melt||aZ w.shrink
def g7 (l:List BdWax) (w:BdWish):Int :=
 if wr l=0 then
  if w.parts.length=l.length then Jv (pm w||w.parts.any λs=>!dq s 0 20) (kA w||w.parts.any aZ)
  else 3
 else wr l
structure WishOk (m:Nat) (w:BdWish):Prop where
 len:w.parts.length=m
 melt:0<=w.melt.lo/\w.melt.lo<=w.melt.hi/\w.melt.hi<=2000
 shrink:0<=w.shrink.lo/\w.shrink.lo<=w.shrink.hi/\w.shrink.hi<=1000
 parts:∀ s,s∈w.parts->0<=s.lo/\s.lo<=s.hi/\s.hi<=20
theorem Ah {l} {w} (h:g7 l w=0):BdWaxesOk l/\WishOk l.length w:=by
 unfold g7 at h;split at h
 .rename_i he;split at h
  .rename_i hl;refine ⟨uK he,?_⟩;unfold Jv at h;split at h
   .cases h
   .rename_i ho;split at h
    .cases h
    .rename_i ht;simp [pm,kA,dq,az,aZ] at ho ht;refine ⟨hl,by omega,by omega,λs hs=>?_⟩;have:=ho.2 s hs;have:=ht.2 s hs;omega
  .cases h
 .rename_i he;exact absurd h he
theorem RI (l) (w):ah TP 265 [ft l,w.pv] (.int .i64 (g7 l w)):=by
 refine aa (ai (by kernel_rfl) rfl Ub) rfl ?_;simp only [go_sem,simprocAttr]
 (first | refine ae (xe l) rfl ?_ | refine aC (xe l) rfl ?_)
 simp only [aE,go_sem,simprocAttr];refine aW (λhe=>?_) (λhe=>?_)
 .have he':¬ wr l=0:=by simpa [wr] using he
  simp only [g7,if_neg he',go_sem,simprocAttr];rfl
 have he':wr l=0:=by simpa [wr] using he
 have hok:=(uK he').len;simp only [go_sem,simprocAttr];refine aW (λhb=>?_) (λhb=>?_)
 .have:¬ (w.parts.length=l.length):=by simp [bne] at hb;omega
  simp only [g7,if_pos he',if_neg this,go_sem,simprocAttr]
 have hlen:w.parts.length=l.length:=by simp [bne] at hb;omega
 have hspec:g7 l w=Jv (pm w||w.parts.any λs=>!dq s 0 20) (kA w||w.parts.any aZ):=by rw [g7,if_pos he',if_pos hlen]
 rw [hspec];have ho:pm w=!(az w.melt.lo 0 2000&&az w.melt.hi 0 2000&&(az w.shrink.lo 0 1000&&az w.shrink.hi 0 1000)):=rfl;have ht:kA w=(decide (w.melt.hi<w.melt.lo)||decide (w.shrink.hi<w.shrink.lo)):=rfl;simp only [go_sem,simprocAttr];cases ht1:decide (w.melt.hi<w.melt.lo)
 all_goals
  rw [ht1] at ht;simp only [qj,jT] at ht;simp only [go_sem,simprocAttr]
  (first | refine ae (iE 0 2000 [_,_] true (by simp)) rfl ?_ | refine aC (iE 0 2000 [_,_] true (by simp)) rfl ?_)
  simp only [bg,bj,ca,<-j4,go_sem,simprocAttr];cases ho1:(az w.melt.lo 0 2000&&az w.melt.hi 0 2000)
 all_goals
  rw [ho1] at ho;simp only [zb,Bool.false_and,y9] at ho;simp only [go_sem,simprocAttr]
  try
   (first | refine ae (iE 0 1000 [_,_] true (by simp)) rfl ?_ | refine aC (iE 0 1000 [_,_] true (by simp)) rfl ?_)
   simp only [bg,bj,ca,<-j4,<-ho,go_sem,simprocAttr]
  refine bT [62,63] w.parts (by omega) (τ:=Bool×Bool) (λdone rest q=>(pm w||w.parts.any λs=>!dq s 0 20)=(q.1||rest.any λs=>!dq s 0 20)/\(kA w||w.parts.any aZ)=(q.2||rest.any aZ))
   (λdone q=>[(64,.p (.int .i64 done.length)),(8,.p (.bool q.2)),(9,.p (.bool q.1))]) (λ_ _=>[.row 5 [.p w.pv]]) (pm w,kA w) ⟨rfl,rfl⟩ ?_ ?_ ?_
  .simp only [ho,ht,go_sem,simprocAttr]<;>simp
  .rintro ⟨a,b⟩ ⟨g1,g2⟩
   dsimp only at g1 g2;rw [g1,g2];cases a<;>cases b<;>simp only [bj,Jv,go_sem,simprocAttr]
  .rintro done x r ⟨a,b⟩ e1 ⟨g1,g2⟩ hx hlt hnx
   dsimp only at g1 g2;rw [bg] at g1 g2;cases a<;>cases b<;>simp only [hlt,hx,go_sem,simprocAttr]
   all_goals
    try
     (first | refine ae (iE 0 20 [_,_] true (by simp)) rfl ?_ | refine aC (iE 0 20 [_,_] true (by simp)) rfl ?_)
     simp only [bg,bj,ca,<-j4,go_sem,simprocAttr]
    first
     |(refine aL e1 (!dq x 0 20,aZ x) ⟨by simpa using g1,by simpa using g2⟩ ?_
       simp only [hnx,dq,aZ,go_sem,simprocAttr];done)
     |(refine aL e1 (!dq x 0 20,true) ⟨by simpa using g1,by simpa using g2⟩ ?_
       simp only [hnx,dq,go_sem,simprocAttr];done)
     |(refine aL e1 (true,aZ x) ⟨by simpa using g1,by simpa using g2⟩ ?_
       simp only [hnx,aZ,go_sem,simprocAttr];done)
     |(refine aL e1 (true,true) ⟨by simpa using g1,by simpa using g2⟩ ?_
       simp only [hnx,go_sem,simprocAttr])
def mX (w:BdWish) (r:List Int):Bool:=(r.zip w.parts).any λq=>!az q.1 q.2.lo q.2.hi
def jg (l:List BdWax) (w:BdWish) (r:List Int):Int :=
 if mX w r=true then 1
 else if (qx (l.zip r)).lo<20*w.melt.lo then 2
 else if 20*w.melt.hi<(qx (l.zip r)).hi then 3
 else if (iV (l.zip r)).lo<20*w.shrink.lo\/20*w.shrink.hi<(iV (l.zip r)).hi then 4
 else 0
theorem Wr {l} {w} {r} (b) (hl:BdWaxesOk l) (hw:WishOk l.length w) (hlen:r.length=l.length) (hr:∀ n,n∈r->0<=n/\n<=20) :
  ah TP 299 [ft l,w.pv,.slice 1 (r.map aJ) b] (.int .i64 (jg l w r)):=by
 refine aa (ai (by kernel_rfl) rfl TI) rfl ?_;have hl5:=hl.len;have hwl:=hw.len;have m1:IntKind.i64.wrap (20*w.melt.lo)=20*w.melt.lo:=an (by have:=hw.melt;omega) (by have:=hw.melt;omega);have m2:IntKind.i64.wrap (20*w.melt.hi)=20*w.melt.hi:=an (by have:=hw.melt;omega) (by have:=hw.melt;omega);have m3:IntKind.i64.wrap (20*w.shrink.lo)=20*w.shrink.lo:=an (by have:=hw.shrink;omega) (by have:=hw.shrink;omega);have m4:IntKind.i64.wrap (20*w.shrink.hi)=20*w.shrink.hi:=an (by have:=hw.shrink;omega) (by have:=hw.shrink;omega);have hz1:((r.zip w.parts).map λq=>q.1)=r:=by have:=zh (λx=>x) (l:=r) (r:=w.parts) (by omega);simpa using this
 have hz2:((r.zip w.parts).map λq=>q.2)=w.parts:=by have:=zg (λx=>x) (l:=r) (r:=w.parts) (by omega);simpa using this
 have hzl:(r.zip w.parts).length=r.length:=by simp;omega
 simp only [go_sem,simprocAttr];refine bT [0,2,4,11,12] (r.zip w.parts) (by omega) (τ:=Unit) (λdone rest _=>mX w r=rest.any λq=>!az q.1 q.2.lo q.2.hi) (λdone _=>[(13,.p (.int .i64 done.length))]) (λ_ _=>[.row 5 [.p w.pv]]) () rfl ?_ ?_ ?_
 .simp only [go_sem,simprocAttr]<;>simp
 .intro _ e2;have e2':mX w r=false:=by rw [e2];rfl
  have g1:¬ ((r.zip w.parts).length:Int)<(r.length:Int):=by omega
  have g2:¬ ((r.zip w.parts).length:Int)<(l.length:Int):=by omega
  simp only [g1,go_sem,simprocAttr]
  first
   |(first | refine ae (Gy false b hl hlen) rfl ?_ | refine aC (Gy false b hl hlen) rfl ?_)
    simp only [go_sem,simprocAttr]
    (first | refine ae (vI (l.zip r) false (sx hl hr)) rfl ?_ | refine aC (vI (l.zip r) false (sx hl hr)) rfl ?_)
   |(first | refine ae (vI false b hl hlen hr) rfl ?_ | refine aC (vI false b hl hlen hr) rfl ?_)
  simp only [m1,go_sem,simprocAttr];refine aW (λh1=>?_) (λh1=>?_)
  .have h1':(qx (l.zip r)).lo<20*w.melt.lo:=by simpa using h1
   simp only [jg,e2',if_pos h1',go_sem,simprocAttr]
  have h1':¬ (qx (l.zip r)).lo<20*w.melt.lo:=by simpa using h1
  simp only [m2,go_sem,simprocAttr];refine aW (λh2=>?_) (λh2=>?_)
  .have h2':20*w.melt.hi<(qx (l.zip r)).hi:=by simpa using h2
   simp only [jg,e2',if_neg h1',if_pos h2',go_sem,simprocAttr]
  have h2':¬ 20*w.melt.hi<(qx (l.zip r)).hi:=by simpa using h2
  simp only [m3,go_sem,simprocAttr];cases h3:decide ((iV (l.zip r)).lo<20*w.shrink.lo)
  .simp only [m4,go_sem,simprocAttr];refine aW (λh4=>?_) (λh4=>?_)
   .have h4':(iV (l.zip r)).lo<20*w.shrink.lo\/20*w.shrink.hi<(iV (l.zip r)).hi:=.inr (by simpa using h4);simp only [jg,e2',if_neg h1',if_neg h2',if_pos h4',go_sem,simprocAttr]
   .have h4':¬ ((iV (l.zip r)).lo<20*w.shrink.lo\/20*w.shrink.hi<(iV (l.zip r)).hi):=by simp at h3 h4;omega
    simp only [jg,e2',if_neg h1',if_neg h2',if_neg h4',go_sem,simprocAttr]
  .have h4':(iV (l.zip r)).lo<20*w.shrink.lo\/20*w.shrink.hi<(iV (l.zip r)).hi:=.inl (by simpa using h3);simp only [jg,e2',if_neg h1',if_neg h2',if_pos h4',go_sem,simprocAttr]
 .intro done x rest _ e1 e2 hx hlt hnx;have g1:(done.length:Int)<(r.length:Int):=by omega
  have g2:(done.length:Int)<(l.length:Int):=by omega
  have g3:(done.length:Int)<(w.parts.length:Int):=by omega
  have x1:r[done.length]?=some x.1:=by rw [<-hz1,cg,hx];rfl
  have x2:w.parts[done.length]?=some x.2:=by rw [<-hz2,cg,hx];rfl
  simp only [g1,g3,x1,x2,go_sem,simprocAttr]
  first
   |(first | refine ae (iE _ _ [_] true (by simp)) rfl ?_ | refine aC (iE _ _ [_] true (by simp)) rfl ?_)
   |(first | refine ae (RM _ _ _) rfl ?_ | refine aC (RM _ _ _) rfl ?_)
  simp only [bg,bj,ca,go_sem,simprocAttr];cases hg:az x.1 x.2.lo x.2.hi
  .simp only [go_sem,simprocAttr];have e2':mX w r=true:=by rw [e2,bg,hg];rfl
   simp only [jg,e2',go_sem,simprocAttr]
  .simp only [go_sem,simprocAttr];refine aL e1 () (by rw [e2,bg,hg];rfl) ?_;simp only [hnx,go_sem,simprocAttr]
def ia (a b:Int):List Int:=(List.range (b+1-a).toNat).map λ(i:Nat)=>a+(i:Int)
theorem N6 (a b):(ia a b).length=(b+1-a).toNat:=by simp [ia]
theorem N7 {a b y} {i:Nat} (h:(ia a b)[i]?=some y):y=a+(i)/\y<=b:=by
 unfold ia at h;rw [cg,bz] at h;obtain ⟨k,h1,rfl⟩:=h;obtain ⟨h2,h3⟩:=ar.1 h1;simp at h2 h3;subst h3;exact ⟨rfl,by omega⟩
theorem vk {a b y}:y∈ia a b↔a<=y/\y<=b:=by
 unfold ia;rw [dD];constructor
 .rintro ⟨i,hi,rfl⟩
  rw [B'] at hi;omega
 .rintro ⟨h1,h2⟩
  exact ⟨(y-a).toNat,by rw [B'];omega,by omega⟩
def ot:Nat->Int->List (List Int)
 |0,left=>[[left]]
 |k+1,left=>(ia 0 left).flatMap λn=>(ot k (left-n)).map (n::·)
theorem FV:∀ (k) (left) (r),0<=left->r∈ot k left->r.length=k+1/\(∀ n,n∈r->0<=n/\n<=left)/\r.sum=left
 |0,left,r,h0,h=>by
  simp [ot] at h;subst h;refine ⟨rfl,λn hn=>?_,by simp⟩;simp at hn
  omega
 |k+1,left,r,h0,h=>by
  rw [ot,xu] at h;obtain ⟨n,hn,h⟩:=h;rw [dD] at h;obtain ⟨t,ht,rfl⟩:=h;have hn':=vk.1 hn;obtain ⟨h1,h2,h3⟩:=FV k (left-n) t (by omega) ht;refine ⟨by simp [h1],λm hm=>?_,by simp [h3];omega⟩;rcases cz.1 hm with rfl | hm
  .omega
  .have:=h2 m hm;omega
theorem v6 (n) (h) (m):∀ l,aO (bV n h) (l.map .p++m)=(aO (bV n h) m).map (l++·)
 |[]=>by cases hf:aO (bV n h) m<;>simp [hf]
 |x::r=>by
  rw [bQ,gQ,aO,v6 n h m r,dO];cases aO (bV n h) m<;>rfl
theorem IV {α β:Type} (f:α->β) (l:List α) (x):(l.map f++[x]).take (l.length+1)=l.map f++[x]:=fx (by simp)
attribute [go_sem] v6 IV
def QE (ls:List (List Int)):PV:=.slice 1 (ls.map λr=>.slice 1 (r.map aJ) false) false
attribute [go_sem] QE
def fits (l:List BdWax) (w:BdWish):List (List Int):=(ot (l.length-1) 20).filter λr=>jg l w r==0
theorem Ls {l} (hl:BdWaxesOk l) {r} (h:r∈ot (l.length-1) 20):RecOk l.length r:=by
 obtain ⟨h1,h2,h3⟩:=FV _ _ _ (by omega) h;have:=hl.len;exact ⟨by omega,h2,h3⟩
theorem w8 {l} {w} (hl:BdWaxesOk l) {r} (h:r∈fits l w):RecOk l.length r/\jg l w r=0:=by
 obtain ⟨h1,h2⟩:=List.mem_filter.1 h;exact ⟨Ls hl h1,by simpa using h2⟩
end Abs
end Go.Proofs.YtfafnkpfamgbbaaGreatDoor
