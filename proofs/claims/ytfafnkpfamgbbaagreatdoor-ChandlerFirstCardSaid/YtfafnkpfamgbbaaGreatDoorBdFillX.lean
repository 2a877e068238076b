/-
  CONTRACTS: the program's iterator over the recipes that fit a wish.
  CONTRACTS: Cheapest, Stays; in the program and in the reference.
-/
import Derived.Test.YtfafnkpfamgbbaaGreatDoorAbsCutX
import Derived.Test.YtfafnkpfamgbbaaGreatDoorBdEndsX
set_option linter.unusedSimpArgs false
set_option linter.unusedVariables false
namespace Go.Proofs.YtfafnkpfamgbbaaGreatDoor
namespace Abs
set_option maxRecDepth 4000
def mG (l:List BdWax) (w:BdWish):Nat->List Int->Int->List (List Int)
 |0,pre,left=>if jg l w (pre++[left])=0 then [pre++[left]] else []
 |k+1,pre,left=>match w.parts[pre.length]? with
  |some s=>(ia s.lo (if s.hi<left then s.hi else left)).flatMap λn=>mG l w k (pre++[n]) (left-n)
  |none=>[]
theorem xz {a b c} (h1:a<=b+1) (h2:b<=c):ia a c=ia a b++ia (b+1) c:=by
 unfold ia;obtain ⟨m,hm⟩:∃ m:Nat,(b+1-a).toNat=m:=⟨_,rfl⟩
 obtain ⟨k,hk⟩:∃ k:Nat,(c+1-(b+1)).toNat=k:=⟨_,rfl⟩
 have e:(c+1-a).toNat=m+k:=by omega
 rw [e,hm,hk,List.range_add,cp,tD]
 congr 1
 apply G3;intro i _;simp only [Function.comp];omega
theorem IN {a b} (h:b<a):ia a b=[]:=by
 unfold ia;have:(b+1-a).toNat=0:=by omega
 rw [this];rfl
theorem sT {α β:Type} {f:α->List β}:∀ {l:List α},(∀ x,x∈l->f x=[])->l.flatMap f=[]
 |[],_=>rfl
 |x::l,h=>by rw [qh,h x (by simp),sT λy hy=>h y (by simp [hy])];rfl
theorem L4 {β:Type} {f:Int->List β} {lo hi left} (h0:0<=lo) (hf:∀ n,n<lo\/hi<n->f n=[]):(ia 0 left).flatMap f=(ia lo (if hi<left then hi else left)).flatMap f:=by
 obtain ⟨m,hm⟩:∃ m,(if hi<left then hi else left)=m:=⟨_,rfl⟩
 have hmh:m<=hi:=by rw [<-hm];split<;>omega
 have hml:m<=left:=by rw [<-hm];split<;>omega
 have hmx:∀ n,n<=left->m<n->hi<n:=λn h1 h2=>by rw [<-hm] at h2;split at h2<;>omega
 rw [hm];rcases Int.lt_or_le m lo with h | h
 .rw [IN h];exact sT λn hn=>by
   have:=vk.1 hn;by_cases h1:n<lo
   .exact hf n (.inl h1)
   .exact hf n (.inr (hmx n this.2 (by omega)))
 .have e1:ia 0 left=ia 0 (lo-1)++ia lo left:=by have:=xz (a:=0) (b:=lo-1) (c:=left) (by omega) (by omega);rwa [Int.sub_add_cancel] at this
  have e2:ia lo left=ia lo m++ia (m+1) left:=xz (by omega) hml
  rw [e1,e2,tB,tB,sT (l:=ia 0 (lo-1)) λn hn=>hf n (.inl (by have:=vk.1 hn;omega)),
   sT (l:=ia (m+1) left) λn hn=>hf n (.inr (by have:=vk.1 hn;exact hmx n this.2 (by omega)))]
  simp
theorem Oo {l} {w} {pre t} {n} {s} (hs:w.parts[pre.length]?=some s) (hn:n<s.lo\/s.hi<n):jg l w (pre++n::t)=1:=by
 have:mX w (pre++n::t)=true:=by
  unfold mX;rw [GR];refine ⟨(n,s),aI (i:=pre.length) (List.getElem?_zip_eq_some.2 ⟨by simp,hs⟩),?_⟩;simp [az];omega
 rw [jg,if_pos this]
theorem Gk {l} {w} (hw:WishOk l.length w):∀ (k) (pre) (left),pre.length+k+1=l.length->mG l w k pre left=((ot k left).map (pre++·)).filter λr=>jg l w r==0
 |0,pre,left,h=>by
  rw [mG,ot]
  simp [List.filter_cons]
 |k+1,pre,left,h=>by
  have hlt:pre.length<w.parts.length:=by have:=hw.len;omega
  obtain ⟨s,hs⟩:∃ s,w.parts[pre.length]?=some s:=⟨_,b6 hlt⟩
  have hsr:=hw.parts s (aI hs);rw [mG,hs,ot];dsimp only;have e:∀ n,mG l w k (pre++[n]) (left-n)=(((ot k (left-n)).map (n::·)).map (pre++·)).filter λr=>jg l w r==0:=λn=>by
   rw [Gk hw k (pre++[n]) (left-n) (by simp;omega)];simp [lK]
  simp only [e];have:((((ia 0 left).flatMap λn=>(ot k (left-n)).map (n::·)).map (pre++·)).filter λr=>jg l w r==0)=(ia 0 left).flatMap λn=>(((ot k (left-n)).map (n::·)).map (pre++·)).filter λr=>jg l w r==0:=by
   rw [List.map_flatMap,List.filter_flatMap]
  rw [this];symm;refine L4 hsr.1 λn hn=>?_;rw [List.filter_eq_nil_iff];intro r hr;simp only [tD,dD,Function.comp] at hr;obtain ⟨t,_,rfl⟩:=hr;rw [Oo hs hn];decide
theorem L6 {l} {w} (hl:BdWaxesOk l) (hw:WishOk l.length w):mG l w (l.length-1) [] 20=fits l w:=by
 rw [Gk hw _ _ _ (by have:=hl.len;simp;omega)];simp [fits]
def uL (l:List BdWax):PV:=.ptr 1 [ft l] 0 0
def uJ (w:BdWish):PV:=.ptr 5 [w.pv] 0 0
attribute [go_sem] uL uJ
def lr (l:List BdWax) (w:BdWish) (n0 id:Nat) (lo:Heap) (cur:List Int) (ext:Heap):Heap :=
 lo++(.row 1 [.ref .yl id]::.row 1 (cur.map λx=>.p (aJ x))::.row 1 [.slice (n0+1) l.length 0 l.length] ::
  .row 1 [.func (.func 298) [] [.p (uL l),.ptr (n0+2) 1 0 0,.p (uJ w),.ptr n0 1 0 0,.ptr (n0+3) 1 0 0]]::ext)
theorem p8 {lo:Heap} {n0} (h:lo.length=n0) (t) (j):(lo++t)[n0+j]?=t[j]?:=by rw [cD (by omega)];congr 1;omega
theorem od {lo:Heap} {n0} (h:lo.length=n0) (t):(lo++t)[n0]?=t[0]?:=p8 h t 0
theorem p7 {lo:Heap} {n0} (h:lo.length=n0) (t) (j) (x):(lo++t).set (n0+j) x=lo++t.set j x:=by
 rw [wx _ _ (by omega)];congr 2;omega
theorem Cn {cur pre:List Int} {v c} (h:cur.take pre.length=pre) (hc:cur[pre.length]?=some c):(cur.set pre.length v).take (pre.length+1)=pre++[v]:=by
 have hlt:=(ar.1 hc).1;rw [wz,List.take_set_of_le (by omega),h];simp [hlt]
set_option maxHeartbeats 2000000 in
theorem NN {l} {w} (hl:BdWaxesOk l) (hw:WishOk l.length w) {id n0} {Inv:Nat->Heap->Prop} {Fin:Heap->Prop} {all:List (List Int)}
  (hy:∀ (k) (xs) (lo mid) (j),(all.map λr=>r.map aJ)[k]?=some xs->Inv k lo->lo.length=n0->mid[j]?=some (.row 1 (xs.map .p)) ->
   rg Tryz.prog id [.slice (j+n0) xs.length 0 xs.length] (lo++mid) (λr h'=>∃ lo' ext,h'=lo'++mid++ext/\lo'.length=n0 /\
    ((r=.ret (.p (.bool true))/\Inv (k+1) lo')\/(r=.ret (.p (.bool false))/\Fin lo')))) :
  ∀ (k) (pre) (left) (lo) (cur) (ext) (idx) (tl),pre.length+k+1=l.length->0<=left->left<=20->(∀ n,n∈pre->0<=n/\n<=20) ->
   cur.length=l.length->cur.take pre.length=pre->idx<=all.length->all.drop idx=mG l w k pre left++tl->lo.length=n0->Inv idx lo ->
   ay Tryz.prog 298 [.p (.int .i64 pre.length),.p (.int .i64 left),.p (uL l),.ptr (n0+2) 1 0 0,.p (uJ w),.ptr n0 1 0 0,.ptr (n0+3) 1 0 0] (lr l w n0 id lo cur ext)
    (λr h'=>∃ lo' cur' ext',h'=lr l w n0 id lo' cur' ext'/\lo'.length=n0/\((r=.ret (.p (.bool true))/\cur'.length=l.length/\cur'.take pre.length=pre/\∃ idx',idx'<=all.length/\all.drop idx'=tl/\Inv idx' lo') \/
     (r=.ret (.p (.bool false))/\Fin lo')))
 |0,pre,left,lo,cur,ext,idx,tl,h1,h2,h3,h4,h5,h6,h7,h8,h9,h10=>by
  refine ax (ai (by kernel_rfl) rfl Np) rfl ?_;have hl5:=hl.len;have gg:=p8 h9;have g0:=od h9;have ss:=p7 h9;have hw1:IntKind.i64.wrap ((l.length:Int)-1)=(l.length:Int)-1:=F5 hl;have hc:(((pre.length:Nat):Int)==(l.length:Int)-1)=true:=by simp;omega
  obtain ⟨c,hcur⟩:∃ c,cur[pre.length]?=some c:=⟨_,b6 (by omega)⟩
  have hlt:((pre.length:Nat):Int)<(l.length:Int):=by omega
  have hset:(cur.map λx=>AV.p (aJ x)).set pre.length (.p (aJ left))=(cur.set pre.length left).map λx=>AV.p (aJ x):=by rw [GO]
  have hcs:cur.set pre.length left=pre++[left]:=by
   have:=Cn (v:=left) h6 hcur;rwa [fx (by simp;omega)] at this
  rw [hcs] at hset;simp only [aJ] at hset;have hlen:(pre++[left]).length=l.length:=by simp;omega
  have hrng:∀ n,n∈pre++[left]->0<=n/\n<=20:=λn hn=>by
   rcases bX.1 hn with hn | hn
   .exact h4 n hn
   .simp at hn;omega
  simp only [lr,gg,ss,hw1,hc,hcur,hlt,h5,hset,go_sem,simprocAttr];have htk:((pre++[left]).map aJ).take l.length=(pre++[left]).map aJ:=fx (by simp;omega);refine bh (Wr false hl hw hlen hrng) ?_ (.int _ _) ?_
  .simp only [gg,hlen,go_sem,simprocAttr];exact congrArg (λx=>PV.slice 1 x false) htk
  simp only [go_sem,simprocAttr];rw [mG] at h8;cases hb:(jg l w (pre++[left]) != 0)
  rotate_left
  .have hb':¬ jg l w (pre++[left])=0:=by simpa using hb
   rw [if_neg hb',lX] at h8;simp only [go_sem,simprocAttr];first | exact ⟨lo,pre++[left],ext,rfl,h9,.inl ⟨hlen,by simp,idx,h7,h8,h10⟩⟩ | exact ⟨lo,pre++[left],ext,rfl,h9,hlen,by simp,idx,h7,h8,h10⟩
  have hb':jg l w (pre++[left])=0:=by simpa using hb
  rw [if_pos hb',KT] at h8;have hidx:all[idx]?=some (pre++[left]):=by rw [<-List.head?_drop,h8];rfl
  have hlti:idx<all.length:=(ar.1 hidx).1;have hdrop:all.drop (idx+1)=tl:=by rw [<-rX,h8];rfl
  have hyl:=hy idx ((pre++[left]).map aJ) lo (.row 1 [.ref .yl id]::.row 1 ((pre++[left]).map λx=>.p (aJ x))::.row 1 [.slice (n0+1) l.length 0 l.length] ::
   .row 1 [.func (.func 298) [] [.p (uL l),.ptr (n0+2) 1 0 0,.p (uJ w),.ptr n0 1 0 0,.ptr (n0+3) 1 0 0]]::ext) 1 (by rw [cg,hidx];rfl) h10 h9 (by simp)
  rw [fY,hlen,Nat.add_comm 1 n0] at hyl;simp only [aJ,uL,uJ,ft,BdWish.pv] at hyl;simp only [gg,g0,go_sem,simprocAttr];refine oe hyl (λv h' hr=>?_) (λv h' hr=>?_);rotate_left
  .obtain ⟨_,_,_,_,hr⟩:=hr;rcases hr with ⟨hr,_⟩ | ⟨hr,_⟩<;>cases hr
  obtain ⟨lo',ext',rfl,k1,hr⟩:=hr;rcases hr with ⟨hr,k2⟩ | ⟨hr,k2⟩
  .cases hr;simp only [go_sem,simprocAttr];first | exact ⟨lo',pre++[left],ext++ext',by simp [lr],k1,.inl ⟨hlen,by simp,idx+1,by omega,hdrop,k2⟩⟩ | exact ⟨lo',pre++[left],ext++ext',by simp [],k1,hlen,by simp,idx+1,by omega,hdrop,k2⟩
  .cases hr;simp only [go_sem,simprocAttr]
   first | exact ⟨lo',pre++[left],ext++ext',by simp [lr],k1,.inr k2⟩ | exact ⟨lo',pre++[left],ext++ext',by simp [],k1,k2⟩
 |k+1,pre,left,lo,cur,ext,idx,tl,h1,h2,h3,h4,h5,h6,h7,h8,h9,h10=>by
  refine ax (ai (by kernel_rfl) rfl Np) rfl ?_;have hl5:=hl.len;have gg:=p8 h9;have g0:=od h9;have ss:=p7 h9;have hw1:IntKind.i64.wrap ((l.length:Int)-1)=(l.length:Int)-1:=F5 hl;have hc:(((pre.length:Nat):Int)==(l.length:Int)-1)=false:=by simp;omega
  have hltp:pre.length<w.parts.length:=by have:=hw.len;omega
  have hltp':((pre.length:Nat):Int)<(w.parts.length:Int):=by omega
  obtain ⟨s,hs⟩:∃ s,w.parts[pre.length]?=some s:=⟨_,b6 hltp⟩
  have hsr:=hw.parts s (aI hs);have hw2:IntKind.i64.wrap (((pre.length:Nat):Int)+1)=((pre.length+1:Nat):Int):=bI (by omega) (by simp [aB];omega) (by omega);rw [mG,hs] at h8;dsimp only at h8;obtain ⟨m,hm⟩:∃ m,(if s.hi<left then s.hi else left)=m:=⟨_,rfl⟩
  have hml:m<=left:=by rw [<-hm];split<;>omega
  have hmin:(if s.hi<left then PV.int .i64 s.hi else PV.int .i64 left)=.int .i64 m:=by rw [<-hm];split<;>rfl
  rw [hm] at h8;simp only [lr,hw1,hc,hs,hltp',go_sem,simprocAttr]
  refine eF [0,1,3,4,6] (σ:=List Int×List Int×Heap×List Int×Heap×Nat)
   (λq=>ia s.lo m=q.1++q.2.1/\q.2.2.1.length=n0/\q.2.2.2.1.length=l.length/\q.2.2.2.1.take pre.length=pre/\q.2.2.2.2.2<=all.length/\all.drop q.2.2.2.2.2=(q.2.1.flatMap λn=>mG l w k (pre++[n]) (left-n))++tl/\Inv q.2.2.2.2.2 q.2.2.1)
   (λq=>q.2.1.length) (λq=>[(10,.p (.int .i64 (s.lo+(q.1.length:Int))))]) (λq=>lr l w n0 id q.2.2.1 q.2.2.2.1 q.2.2.2.2.1) ([],ia s.lo m,lo,cur,ext,idx) ⟨rfl,h9,h5,h6,h7,h8,h10⟩ (by simp only [lr,go_sem,simprocAttr]) ?_ ?_
  .simp only [go_sem,simprocAttr]<;>simp
  clear h5 h6 h7 h8 h9 h10 gg g0 ss idx
  rintro ⟨done,rest,lo',cur',ext',idx⟩ ⟨e1,h9,h5,h6,h7,h8,h10⟩
  dsimp only at e1 h9 h5 h6 h7 h8 h10;have gg:=p8 h9;have g0:=od h9;have ss:=p7 h9
  cases rest with
  |nil =>
   have hlen:=N6 s.lo m;rw [e1,bF] at hlen;have hgt:¬ s.lo+(done.length:Int)<=m:=by omega
   simp only [lr,hs,hltp',hm,hgt,go_sem,simprocAttr]
   first | exact ⟨lo',cur',ext',rfl,h9,.inl ⟨h5,h6,idx,h7,by simpa using h8,h10⟩⟩ | exact ⟨lo',cur',ext',rfl,h9,h5,h6,idx,h7,by simpa using h8,h10⟩
  |cons y r =>
   have hy0:(ia s.lo m)[done.length]?=some y:=by rw [e1];simp
   obtain ⟨hy1,hy2⟩:=N7 hy0;have hle:s.lo+(done.length:Int)<=m:=by omega
   obtain ⟨c,hcur⟩:∃ c,cur'[pre.length]?=some c:=⟨_,b6 (by omega)⟩
   have hlt:((pre.length:Nat):Int)<(l.length:Int):=by omega
   have hset:(cur'.map λx=>AV.p (aJ x)).set pre.length (.p (aJ y))=(cur'.set pre.length y).map λx=>AV.p (aJ x):=by rw [GO]
   have hcs:(cur'.set pre.length y).take (pre.length+1)=pre++[y]:=Cn h6 hcur;simp only [aJ] at hset;have hwy:IntKind.i64.wrap (left-y)=left-y:=an (by omega) (by omega);have hnx:IntKind.i64.wrap (y+1)=y+1:=an (by omega) (by omega);rw [qh,di] at h8
   have ih:=NN hl hw hy k (pre++[y]) (left-y) lo' (cur'.set pre.length y) ext' idx ((r.flatMap λn=>mG l w k (pre++[n]) (left-n))++tl) (by simp;omega) (by omega) (by omega)
    (λn hn=>by
     rcases bX.1 hn with hn | hn
     .exact h4 n hn
     .simp at hn;omega) (by simpa using h5) (by rw [aP];exact hcs) h7 h8 h9 h10
   rw [hy1] at ih hset hwy hnx hcs;simp only [lr,gg,ss,hs,hltp',hm,hle,h5,hcur,hlt,hset,hw2,hwy,go_sem,simprocAttr];simp only [lr,uL,uJ,ft,BdWish.pv,aJ,aP,bu] at ih;refine bW ih (λv h' hr=>?_) (λv h' hr=>?_);rotate_left
   .obtain ⟨_,_,_,_,_,hr⟩:=hr;rcases hr with ⟨hr,_⟩ | ⟨hr,_⟩<;>cases hr
   obtain ⟨lo2,cur2,ext2,rfl,k1,hr⟩:=hr;rcases hr with ⟨hr,k2,k3,idx2,k4,k5,k6⟩ | ⟨hr,k2⟩
   .cases hr;simp only [go_sem,simprocAttr];refine bq (done++[y],r,lo2,cur2,ext2,idx2) ⟨by simp [e1],k1,k2,?_,k4,k5,k6⟩ (by simp) rfl ?_
    .have:=congrArg (List.take pre.length) k3;rw [List.take_take,fD rfl] at this;rwa [GN (by simp)] at this
    .simp only [hnx,aP,bu,go_sem,simprocAttr];omega
   .cases hr;simp only [go_sem,simprocAttr];first | exact ⟨lo2,cur2,ext2,rfl,k1,.inr k2⟩ | exact ⟨lo2,cur2,ext2,rfl,k1,k2⟩
def yE (l:List BdWax) (w:BdWish):PV:=.func (.func 297) [] [uL l,uJ w]
theorem LW {l} {w} (hl:BdWaxesOk l) (hw:WishOk l.length w):NV Tryz.prog (yE l w) 1 ((fits l w).map λr=>r.map aJ):=by
 refine ⟨_,_,_,rfl,λid Inv Fin h0 hid hy hi=>?_⟩;have hl5:=hl.len;have gg:=p8 (lo:=h0) rfl;have g0:=od (lo:=h0) rfl;have ss:=p7 (lo:=h0) rfl;have hrm:((l.length:Nat):Int)<=(aB:Int):=by simp [aB];omega
 refine ax (ai (by kernel_rfl) rfl TJ) rfl ?_;simp only [hrm,tm,di,aP,bu,gg,ss,go_sem,simprocAttr];have hfill:=NN hl hw hy (l.length-1) [] 20 h0 (List.replicate l.length 0) [] 0 [] (by simp;omega) (by omega) (by omega) (by simp) (by simp) (by simp) (by omega) (by rw [L6 hl hw];simp) rfl hi;simp only [lr,uL,uJ,ft,BdWish.pv,aJ,List.map_replicate,eG,Int.cast_ofNat_Int] at hfill;refine bW hfill (λv h' hr=>?_) (λv h' hr=>?_);rotate_left
 .obtain ⟨_,_,_,_,_,hr⟩:=hr;rcases hr with ⟨hr,_⟩ | ⟨hr,_⟩<;>cases hr
 obtain ⟨lo2,cur2,ext2,rfl,k1,hr⟩:=hr;have fin:∀ (k:Nat),k<=(fits l w).length->(fits l w).drop k=[]->k=(fits l w).length:=λk h1 h2=>by
  have:=congrArg List.length h2;simp at this;omega
 rcases hr with ⟨hr,k2,k3,idx2,k4,k5,k6⟩ | ⟨hr,k2⟩
 .cases hr;simp only [go_sem,simprocAttr];refine ⟨lo2,_,rfl,k1,.inl ?_⟩;have:=fin idx2 k4 k5;simpa [<-this] using k6
 .cases hr;simp only [go_sem,simprocAttr];exact ⟨lo2,_,rfl,k1,.inr k2⟩
theorem DU (l) (w):ah Tryz.prog 266 [ft l,w.pv] (yE l w):=by
 refine cI (ai (by kernel_rfl) rfl Ua) rfl ?_;simp only [yE,go_sem,simprocAttr]
theorem Dp (ps) (b1) (id) (h) (hid:h[id]?=some (.row 1 (ps.map λp=>.p (aJ p.2)))) (hl:ps.length<=5) :
  ay Tryz.prog 268 [.p (.slice 7 (ps.map λp=>p.1.pv) b1),.slice id ps.length 0 ps.length] h (λr h'=>r=.ret (.p (pz ps))/\h'=h):=by
 refine nX (ai (by kernel_rfl) rfl Nq) rfl ?_;have hlt0:id<h.length:=(ar.1 hid).1;have hidt:∀ t,(h++t)[id]?=some (.row 1 (ps.map λp=>.p (aJ p.2))):=λt=>by rw [aS hlt0];exact hid
 simp only [aJ] at hidt;have gg:=p8 (lo:=h) rfl;have g0:=od (lo:=h) rfl;have ss:=p7 (lo:=h) rfl;have s0:∀ t x,(h++t).set h.length x=h++t.set 0 x:=λt x=>ss t 0 x;have hrm:((ps.length:Nat):Int)<=(aB:Int):=by simp [aB];omega
 have hr0:List.replicate ps.length qt=gW ps []:=by simp [gW]
 simp only [qt] at hr0;simp only [hrm,tm,hr0,go_sem,simprocAttr];refine MQ [1,5,11,12] ps (by omega) (τ:=Heap) (λ_ _ _=>True) (λdone _=>[(13,.p (.int .i64 done.length))]) (λdone ext=>h++(.row 8 (gW ps done)::ext)) [] trivial (by simp only [go_sem,simprocAttr]) ?_ ?_ ?_
 .simp only [go_sem,simprocAttr]
 .intro ext _;have hz:(gW ps ps)=ps.map λp=>.p (cn p):=by simp [gW]
  simp only [cn] at hz;simp only [hz,go_sem,simprocAttr];rfl
 .intro done x r ext e1 _ hx hlt hnx;have h1:=A7 e1;have h2:=A8 e1;have h3:=A6 e1;simp only [qt] at h2;simp only [cn] at h3;have ge:=od (lo:=ext) rfl;have se:∀ t x,(ext++t).set ext.length x=ext++t.set 0 x:=λt x=>p7 (lo:=ext) rfl t 0 x;simp only [hlt,hx,h1,h2,h3,hidt,gg,g0,ss,s0,ge,se,di,aP,go_sem,simprocAttr];refine MS e1 _ trivial rfl ?_;simp only [hnx,go_sem,simprocAttr]
def d8 (l:List BdWax) (r:List Int):Int:=cE iZ (l.zip r)
def cC (pr:List Int->Int):Option (List Int)->List (List Int)->Option (List Int)
 |b,[]=>b
 |none,r::t=>cC pr (some r) t
 |some b,r::t=>if pr r<pr b then cC pr (some r) t else cC pr (some b) t
theorem mK (pr):∀ (t) (b) (r),cC pr b (t++[r])=cC pr (cC pr b t) [r]
 |[],b,r=>by cases b<;>rfl
 |x::t,none,r=>by rw [gQ,cC,mK pr t,cC]
 |x::t,some b,r=>by
  rw [gQ,cC,cC];split
  .rw [mK pr t]
  .rw [mK pr t]
theorem ld (pr):∀ (t) (b) (r),cC pr b t=some r->b=some r\/r∈t
 |[],b,r,h=>by cases b<;>simp_all [cC]
 |x::t,none,r,h=>by
  rw [cC] at h;rcases ld pr t _ r h with h | h
  .cases h;exact .inr (by simp)
  .exact .inr (by simp [h])
 |x::t,some b,r,h=>by
  rw [cC] at h;split at h
  .rcases ld pr t _ r h with h | h
   .cases h;exact .inr (by simp)
   .exact .inr (by simp [h])
  .rcases ld pr t _ r h with h | h
   .exact .inl h
   .exact .inr (by simp [h])
theorem tI {α:Type} {l:List α} {k} {x} (h:l[k]?=some x):l.take (k+1)=l.take k++[x]:=by
 rw [wz,h];rfl
def bN (l:List BdWax) (w:BdWish):List Int×Int×Int :=
 if g7 l w=0 then
  match cC (d8 l) none (fits l w) with
  |none=>([],0,9)
  |some b=>(b,d8 l b,0)
 else ([],0,g7 l w)
def rK (v:List Int×Int×Int):PV:=.tuple [.slice 1 (v.1.map aJ) false,.int .i64 v.2.1,.int .i64 v.2.2]
def oV:Option (List Int)->PV
 |none=>.nilslice
 |some b=>.slice 1 (b.map aJ) false
def lG (l:List BdWax):Option (List Int)->Int
 |none=>0
 |some b=>d8 l b
set_option maxHeartbeats 1000000 in
theorem Ko (l) (w):ah Tryz.prog 195 [ft l,w.pv] (rK (bN l w)):=by
 refine gb (ai (by kernel_rfl) rfl U0) rfl ?_;simp only [St,go_sem,simprocAttr]
 (first | refine ae (RI l w) rfl ?_ | refine aC (RI l w) rfl ?_)
 simp only [go_sem,simprocAttr];refine aW (λhe=>?_) (λhe=>?_)
 .have he':¬ g7 l w=0:=by simpa using he
  simp only [rK,bN,if_neg he',go_sem,simprocAttr];first | rfl | exact .inl rfl | exact ⟨_,_,rfl,rfl,.inr ⟨rfl,1,rfl⟩,.inl rfl,.inl rfl,trivial⟩ | exact ⟨_,_,rfl,rfl,.inr ⟨rfl,1,rfl⟩,.inl rfl,trivial⟩ | exact ⟨_,_,rfl,rfl,.inl rfl,.inl rfl,trivial⟩ | exact .inl (.inl rfl) | exact .inl (.inr ⟨rfl,1,rfl⟩) | exact .inr ⟨_,_,rfl,rfl,.inl rfl,.inl rfl,trivial⟩ | exact .inr ⟨_,_,rfl,rfl,.inr ⟨rfl,1,rfl⟩,.inl rfl,trivial⟩ | exact ⟨1,rfl⟩ | (simp;done) | (refine .inr ⟨_,_,rfl,rfl,?_⟩;repeat' (first | exact trivial | exact .inl rfl | exact .inr ⟨rfl,1,rfl⟩ | refine ⟨?_,?_⟩))
 have he':g7 l w=0:=by simpa using he
 obtain ⟨hl,hw⟩:=Ah he';have hl5:=hl.len;simp only [go_sem,simprocAttr]
 (first | refine ae (DU l w) rfl ?_ | refine aC (DU l w) rfl ?_)
 simp only [yE,go_sem,simprocAttr];have hspec:bN l w=match cC (d8 l) none (fits l w) with | none=>([],0,9) | some b=>(b,d8 l b,0):=by rw [bN,if_pos he']
 rw [hspec];have hmem:∀ k b,cC (d8 l) none ((fits l w).take k)=some b->RecOk l.length b:=λk b h=>by
  rcases ld _ _ _ _ h with h | h
  .cases h
  .exact (w8 hl (nA h)).1
 refine PU (l:=(fits l w).map λr=>r.map aJ) (λo k h=>h=[.row 1 [.p (ft l)],.row 5 [.p w.pv],.row 1 [.p (oV (cC (d8 l) none ((fits l w).take k)))],.row 1 [.p (.int .i64 (lG l (cC (d8 l) none ((fits l w).take k))))],.dblock,o]) (λ_ _=>False)
  rfl (by simp only [yE,go_sem,simprocAttr]) (LW hl hw) jv (by kernel_rfl) rfl (by kernel_rfl) (by kernel_rfl) ?_ ?_ ?_ ?_ (λ_ _ _ h=>h.elim)
 .rintro o k h rfl;simp
 .intro o;simp only [cC,oV,lG,go_sem,simprocAttr]
 .rintro oR oB oD k xs lo mid j hk rfl _ hj
  rw [cg,bz] at hk;obtain ⟨r,hk,rfl⟩:=hk;have hro:=(w8 hl (aI hk)).1;have hps:=sx hl hro.rng;have hne:¬ (r.map aJ=[]):=by
   intro h;have:=congrArg List.length h;have h2:=hro.len;simp at this;subst this;simp at h2;omega
  have hne2:r≠[]:=λh=>hne (by rw [h];rfl);rw [tI hk,mK];have hmk:=hmem k;generalize cC (d8 l) none ((fits l w).take k)=bo at hmk;have htk:(r.map aJ).take r.length=r.map aJ:=fx (by simp);have hz1:((l.zip r).map λp=>p.1.pv)=l.map BdWax.pv:=zh BdWax.pv hro.len;have hz2:((l.zip r).map λp=>AV.p (aJ p.2))=r.map λn=>AV.p (aJ n):=zg (λn=>AV.p (aJ n)) hro.len;have hzl:(l.zip r).length=r.length:=by simp [hro.len]
  have hbl:∀ a0 a1 a2 a3 a4 a5,ay Tryz.prog 268 [.p (ft l),.slice (j+6) r.length 0 r.length] (a0::a1::a2::a3::a4::a5::mid) (λr' h'=>r'=.ret (.p (pz (l.zip r)))/\h'=a0::a1::a2::a3::a4::a5::mid):=λa0 a1 a2 a3 a4 a5=>by
   have:=Dp (l.zip r) false (j+6) (a0::a1::a2::a3::a4::a5::mid) (by rw [hz2];simpa [lK] using hj) hps.len;rwa [hz1,hzl] at this
  simp only [ft,pz] at hbl;simp only [go_sem,simprocAttr];refine b9 (hbl _ _ _ _ _ _) ?_;simp only [go_sem,simprocAttr]
  (first | refine ae (uD (l.zip r) false hps) rfl ?_ | refine aC (uD (l.zip r) false hps) rfl ?_)
  simp only [go_sem,simprocAttr];have hprice:cE iZ (l.zip r)=d8 l r:=rfl;rw [hprice]
  cases bo with
  |none =>
   simp only [oV,go_sem,simprocAttr];refine uR (Jp r false hne2 (by have:=hro.len;omega)) ?_ ?_
   .simp only [hj,htk,go_sem,simprocAttr]
   simp only [go_sem,simprocAttr];first | refine ⟨_,[],?_,rfl,.inl rfl⟩ | refine ⟨_,[],?_,rfl,rfl⟩
   simp only [cC,oV,lG,bF,go_sem,simprocAttr]
  |some b =>
   have hbo:=hmk b rfl;have hbn:¬ (b.map aJ=[]):=by
    intro h;have:=congrArg List.length h;have h2:=hbo.len;simp at this;subst this;simp at h2;omega
   simp only [oV,lG,hbn,go_sem,simprocAttr];cases hlt:decide (d8 l r<d8 l b)
   .have hlt':¬ d8 l r<d8 l b:=by simpa using hlt
    simp only [go_sem,simprocAttr];first | refine ⟨_,[],?_,rfl,.inl rfl⟩ | refine ⟨_,[],?_,rfl,rfl⟩
    simp only [if_neg hlt',cC,oV,lG,bF,go_sem,simprocAttr]
   .have hlt':d8 l r<d8 l b:=by simpa using hlt
    simp only [go_sem,simprocAttr];refine uR (Jp r false hne2 (by have:=hro.len;omega)) ?_ ?_
    .simp only [hj,htk,go_sem,simprocAttr]
    simp only [go_sem,simprocAttr];first | refine ⟨_,[],?_,rfl,.inl rfl⟩ | refine ⟨_,[],?_,rfl,rfl⟩
    simp only [if_pos hlt',cC,oV,lG,bF,go_sem,simprocAttr]
 .rintro o lo mid rfl _
  have hlen:(fits l w).take (((fits l w).map λr=>r.map aJ).length)=fits l w:=by simp
  rw [hlen];have hmk:=hmem (fits l w).length;rw [oN] at hmk;generalize cC (d8 l) none (fits l w)=bo at hmk;simp only [go_sem,simprocAttr]
  cases bo with
  |none =>
   simp only [oV,rK,bJ,go_sem,simprocAttr]
   first | rfl | exact .inl rfl | exact ⟨_,_,rfl,rfl,.inr ⟨rfl,1,rfl⟩,.inl rfl,.inl rfl,trivial⟩ | exact ⟨_,_,rfl,rfl,.inr ⟨rfl,1,rfl⟩,.inl rfl,trivial⟩ | exact ⟨_,_,rfl,rfl,.inl rfl,.inl rfl,trivial⟩ | exact .inl (.inl rfl) | exact .inl (.inr ⟨rfl,1,rfl⟩) | exact .inr ⟨_,_,rfl,rfl,.inl rfl,.inl rfl,trivial⟩ | exact .inr ⟨_,_,rfl,rfl,.inr ⟨rfl,1,rfl⟩,.inl rfl,trivial⟩ | exact ⟨1,rfl⟩ | (simp;done) | (refine .inr ⟨_,_,rfl,rfl,?_⟩;repeat' (first | exact trivial | exact .inl rfl | exact .inr ⟨rfl,1,rfl⟩ | refine ⟨?_,?_⟩))
  |some b =>
   have hbo:=hmk b rfl;have hbn:¬ (b.map aJ=[]):=by
    intro h;have:=congrArg List.length h;have h2:=hbo.len;simp at this;subst this;simp at h2;omega
   simp only [oV,lG,rK,hbn,bJ,bf,go_sem,simprocAttr]
end Abs
end Go.Proofs.YtfafnkpfamgbbaaGreatDoor
