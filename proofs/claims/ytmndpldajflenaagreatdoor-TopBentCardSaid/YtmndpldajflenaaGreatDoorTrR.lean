/- CONTRACTS: in which batches the wax of one must be. No conditions but those in the theorem -/
import Derived.Test.YtmndpldajflenaaGreatDoorTrPX
set_option linter.all false
set_option maxHeartbeats 16000000
namespace Go.Proofs.YtmndpldajflenaaGreatDoor
namespace Abs
namespace Tr
set_option maxRecDepth 4000
theorem Ik:cT Tryz.prog 172=some (List.replicate 8 .bool):=by kernel_rfl
attribute [go_sem high] Ik
theorem J'(n:Nat)(a b:Nat->Bool):cb (List.replicate n .bool) (cB n a) (cB n b)=some ((List.range n).all λi=>a i==b i):=by
 have h:∀l:List Nat,cb (List.replicate l.length .bool) (l.map λi=>PV.bool (a i)) (l.map λi=>PV.bool (b i))=some (l.all λi=>a i==b i):=by
  intro l
  induction l with
  |nil=>rfl
  |cons x l ih=>
   rw[du,wv,iu,iu,List.all_cons];show (match some (a x==b x),cb (List.replicate l.length .bool) (l.map λi=>PV.bool (a i)) (l.map λi=>PV.bool (b i)) with|some s,some t=>some (s&&t)|_,_=>none)=_;rw[ih]
 have:=h (List.range n);rw[List.length_range]at this;exact this
def sM (tk:Nat->List Nat) (lost clean:Nat->Bool) (a k:Nat):Nat->Bool:=dP (lK tk lost clean a) (List.range k) (λ_=>false)
theorem Io(tk:Nat->List Nat)(lost clean:Nat->Bool)(a k:Nat):sM tk lost clean a (k+1)=ct (sM tk lost clean a k) k (lK tk lost clean a (sM tk lost clean a k) k):=by
 unfold sM;rw[List.range_succ];unfold dP;rw[oY];rfl
def kp (d:Nat->Bool) (i:Nat):Nat->Nat->Bool:=λk t=>if t<i/\k<t/\d t=false then d k else false
theorem F5{d:Nat->Bool}{k t:Nat}:kp d 0 k t=false:=by
 unfold kp;rw[if_neg (λh=>absurd h.1 (Nat.not_lt_zero t))]
def Ap (b:List TrBatch) (d:Nat->Bool) (i:Nat):Pb:=⟨kept b,bF b,kp d i⟩
def tQ (b:List TrBatch) (d e:Nat->Bool) (i j:Nat):Pb:=⟨kept b,bF b,λk t=>if t=i/\k<j then e k else kp d i k t⟩
theorem xM{d:Nat->Bool}{i:Nat}{v:Bool}{k t:Nat}:kp (ct d i v) (i+1) k t=if t=i/\k<i then(if v=true then false else d k) else kp d i k t:=by
 unfold kp;rw[dm,dm];by_cases ht:t=i
 .subst ht;by_cases hk:k<t
  .have e1:¬k=t:=by omega
   rw[if_pos rfl,if_neg e1,if_pos (⟨rfl,hk⟩:t=t/\k<t)];cases v
   .rw[if_pos ⟨by omega,hk,rfl⟩];rfl
   .rw[if_neg (λh=>by cases h.2.2)];rfl
  .rw[if_neg (λh=>hk h.2.1),if_neg (λh=>hk h.2),if_neg (λh=>hk h.2.1)]
 .rw[if_neg ht,if_neg (λh:t=i/\k<i=>ht h.1)];by_cases h2:t<i/\k<t/\d t=false
  .have e1:¬k=i:=by omega
   rw[if_pos (⟨by omega,h2.2.1,h2.2.2⟩:t<i+1/\k<t/\d t=false),if_pos h2,if_neg e1]
  .rw[if_neg h2,if_neg (λh=>h2 ⟨by omega,h.2.1,h.2.2⟩)]
theorem sb{b:List TrBatch}{d:Nat->Bool}{i:Nat}:aQ (Ap b (ct d i true) (i+1))=aQ (Ap b d i):=fE (λ_ _=>rfl) (λ_ _=>rfl) λk t _ _=>by
 show kp _ _ k t=kp d i k t;rw[xM];by_cases h:t=i/\k<i
 .rw[if_pos h,if_pos rfl];unfold kp;rw[if_neg (λg=>by omega)]
 .rw[if_neg h]
theorem HN{b:List TrBatch}{d e:Nat->Bool}{i:Nat}:aQ (tQ b d e i 0)=aQ (Ap b d i):=fE (λ_ _=>rfl) (λ_ _=>rfl) λk t _ _=>if_neg (λh=>absurd h.2 (Nat.not_lt_zero k))
theorem JW{b:List TrBatch}{d:Nat->Bool}{i:Nat}:aQ (tQ b d (ct d i false) i i)=aQ (Ap b (ct d i false) (i+1)):=fE (λ_ _=>rfl) (λ_ _=>rfl) λk t _ _=>by
 show (if t=i/\k<i then ct d i false k else kp d i k t)=kp _ _ k t;rw[xM];by_cases h:t=i/\k<i
 .rw[if_pos h,if_pos h,if_neg (by decide),dm,if_neg (by omega)]
 .rw[if_neg h,if_neg h]
theorem HO{b:List TrBatch}{d e:Nat->Bool}{i j:Nat}:aQ ⟨(tQ b d e i j).has,(tQ b d e i j).needs,qr (tQ b d e i j).nv j i (e j)⟩=aQ (tQ b d e i (j+1)):=fE (λ_ _=>rfl) (λ_ _=>rfl) λk t _ _=>by
 show (if k=j then(if t=i then e j else(if t=i/\k<j then e k else kp d i k t)) else(if t=i/\k<j then e k else kp d i k t))=if t=i/\k<j+1 then e k else kp d i k t
 by_cases h1:k=j
 .subst h1;by_cases h2:t=i
  .rw[if_pos rfl,if_pos h2,if_pos ⟨h2,by omega⟩]
  .rw[if_pos rfl,if_neg h2,if_neg (λh=>h2 h.1),if_neg (λh=>h2 h.1)]
 .rw[if_neg h1];by_cases h2:t=i/\k<j
  .rw[if_pos h2,if_pos ⟨h2.1,by omega⟩]
  .rw[if_neg h2,if_neg (λh=>h2 ⟨h.1,by omega⟩)]
def fQ (b:List TrBatch) (f:Bool) (a:Nat) (all:Nat->Bool) (o:AObj) (mid:Heap):Heap:=
 [.row 82 [.p (.agg (fA (supp b) (.slice 5 (b.map TrBatch.pv) f) (.slice 1 ((losts b).map bQ) false)))],.row 1 [.p (.int .i64 (a:Int))],.row 8 [.p (.agg (cB 8 all))],.dblock,o]++mid
def vk (b:List TrBatch) (a k:Nat):Nat->Bool:=(List.range k).foldl (iB b.length (tk b) (ba b) (losts b) (supp b) a) (λi=>decide (i<b.length))
theorem vo{b:List TrBatch}{f:Bool}{a:Nat}{A B:Nat->Bool}{o:AObj}{mid:Heap}(h:cB 8 A=cB 8 B):fQ b f a A o mid=fQ b f a B o mid:=by unfold fQ;rw[h]
theorem HW(b:List TrBatch)(f:Bool)(a:Nat)(A B:Nat->Bool)(o p:AObj)(mid ext:Heap)(h:cB 8 A=cB 8 B):(fQ b f a A o mid++ext)[4]?=some o/\∃lo' ext',(fQ b f a A o mid++ext).set 4 p=lo'++mid++ext'/\lo'.length=5/\lo'=fQ b f a B p []:=by
 rw[vo h];exact⟨rfl,_,ext,rfl,rfl,rfl⟩
theorem vQ(b:List TrBatch)(f:Bool)(a:Nat)(hk:BookOk b)(ha:a<8)(hT:cZ b):PCall Tryz.prog 63 [bI b f,.int .i64 (a:Int)] (.agg (cB 8 (pq b.length (tk b) (ba b) (losts b) (supp b) a))):=by
 have hb:=hk.bats;have hl8:=hb.len;refine ae (am Tryz.func63 rfl) rfl ?_;simp only[bI,cD,mD,go_sem,simprocAttr]
 refine bt [2,3,4,18] b (by omega) (τ:=Unit) (λ_ _ _=>True) (λdone _=>[(19,.p (.int .i64 done.length))])
  (λdone _=>[.row 82 [.p (.agg (fA (supp b) (.slice 5 (b.map TrBatch.pv) f) (.slice 1 ((losts b).map bQ) false)))],.row 1 [.p (.int .i64 (a:Int))],.row 8 [.p (.agg (cB 8 λi=>decide (i<done.length)))]]) () trivial ?_ ?_ ?_
 .have h0:cB 8 (λi=>decide (i<0))=cB 8 (λ_=>false):=g8 λi _=>by simp
  simp only[h0,go_sem,simprocAttr]
 rotate_left
 .intro done x r _ e1 _ hx hlt hnx;have d8:done.length<8:=by omega
  have d8i:(done.length:Int)<8:=by omega
  have d7:done.length<=7:=by omega
  have hp:=kK (λi=>decide (i<done.length)) true d8;have hs:cB 8 (λi=>if i=done.length then true else decide (i<done.length))=cB 8 λi=>decide (i<done.length+1):=g8 λi _=>by
   by_cases h:i=done.length
   .subst h;simp
   .rw[if_neg h,decide_eq_decide];omega
  rw[hs]at hp;simp only[hlt,d8i,Nat.mul_one,d7,hp,go_sem,simprocAttr];refine aq e1 () trivial ?_;simp only[hnx,ay,aC,go_sem,simprocAttr]
 intro _ _;simp only[go_sem,simprocAttr];refine aa (Mh b f) ?_ ?_
 .rw[bI,cD];rfl
 simp only[pR,go_sem,simprocAttr]
 refine xq (l:=ld b) (λo n g=>g=fQ b f a (vk b a n) o []) (λ_ _=>False)
  rfl (by simp only[pR,go_sem,simprocAttr]) (LY b f hk) mT (by kernel_rfl) (by kernel_rfl) (by kernel_rfl) ?_ ?_ ?_ ?_ (λ_ _ _ h=>h.elim)
 .rintro o n h rfl;simp[fQ]
 .intro o;simp only[go_sem,simprocAttr];rfl
 .rintro oR oB oD n xs lo mid hxs rfl _
  have hxs':=(aA.1 hxs)
  have hnl:n<2^(losts b).length:=by have:=hxs'.1;simpa[ld]using this
  obtain rfl:xs=[.agg (cB 8 (cF (losts b) n))]:=by
   rw[ld,bU,List.getElem?_range hnl]at hxs;exact(fW hxs).symm
  obtain⟨clean,hcl⟩:∃c,c=cF (losts b) n:=⟨_,rfl⟩
  obtain⟨all,hall⟩:∃c,c=vk b a n:=⟨_,rfl⟩
  have hnext:vk b a (n+1)=iB b.length (tk b) (ba b) (losts b) (supp b) a all n:=by rw[hall,vk,List.range_succ,oY];rfl
  rw[<-hcl,<-hall,show fQ b f a all oR []++mid=fQ b f a all oR mid by simp[fQ]];obtain⟨pre,hpre⟩:∃q,q=fQ b f a all oR mid:=⟨_,rfl⟩
  rw[<-hpre];have P4:∀t,(pre++t)[4]?=some oR:=λt=>by rw[hpre];rfl
  obtain⟨pB,hpB⟩:∃q,q=fQ b f a all oB mid:=⟨_,rfl⟩
  have S4:∀t,(pre++t).set 4 oB=pB++t:=λt=>by rw[hpre,hpB];rfl
  have hlen:pB.length=pre.length:=by rw[hpre,hpB];rfl
  have P0:∀t,(pB++t)[0]?=some (.row 82 [.p (.agg (fA (supp b) (.slice 5 (b.map TrBatch.pv) f) (.slice 1 ((losts b).map bQ) false)))]):=λt=>by rw[hpB];rfl
  have P1:∀t,(pB++t)[1]?=some (.row 1 [.p (.int .i64 (a:Int))]):=λt=>by rw[hpB];rfl
  have P2:∀t,(pB++t)[2]?=some (.row 8 [.p (.agg (cB 8 all))]):=λt=>by rw[hpB];rfl
  have pg0:=iM (lo:=pre) rfl;have ps0:=mr (lo:=pre) rfl;have G0:=iM hlen;have GG:=pW hlen;have S0:=mr hlen;have SS:=pV hlen;simp only[pg0,ps0,P0,P1,P2,P4,S4,G0,GG,S0,SS,hlen,bJ,ay,aC,mD,tC,eH,go_sem,simprocAttr];have hn0:aQ (supp b)=aQ (Ap b (sM (tk b) (ba b) clean a 0) 0):=fE (λ_ _=>rfl) (λ_ _=>rfl) λk t _ _=>by
   exact(F5 (d:=sM (tk b) (ba b) clean a 0) (k:=k) (t:=t)).symm
  refine uG [3,4,6,7,8,31,32] b (by omega) (τ:=Heap) (λ_ _ _=>True) (λdone _=>[(33,.p (.int .i64 done.length))])
   (λdone u=>pB++(.row 8 [.p (.agg (cB 8 clean))]::.row 80 [.p (.agg (aQ (Ap b (sM (tk b) (ba b) clean a done.length) done.length)))]::.row 8 [.p (.agg (cB 8 (sM (tk b) (ba b) clean a done.length)))]::u)) [] trivial ?_ ?_ ?_ ?_
  .rw[hn0];rfl
  .simp only[go_sem,simprocAttr]
  .rintro u _
   obtain⟨d,hd⟩:∃d,d=sM (tk b) (ba b) clean a b.length:=⟨_,rfl⟩
   have hcp:aQ (Ap b d b.length)=aQ (nZ b.length (supp b) d):=rfl;have hdd:jL b.length (tk b) (ba b) (cF (losts b) n) a=d:=by rw[hd,<-hcl];rfl
   have hdd2:iB b.length (tk b) (ba b) (losts b) (supp b) a all n=if uZ d all||!fN (nZ b.length (supp b) d) then all else λi=>all i&&d i:=by unfold iB;rw[hdd]
   rw[hdd2]at hnext;rw[<-hd,hcp];have hKs:cb [CK.bool,CK.bool,CK.bool,CK.bool,CK.bool,CK.bool,CK.bool,CK.bool] (cB 8 d) (cB 8 all)=some (uZ d all):=J' 8 d all;simp only[P0,P1,P2,G0,GG,S0,SS,hlen,bJ,ay,du,gz,aC,hKs,go_sem,simprocAttr];cases hsa:uZ d all;rotate_left
   .rw[hsa,gY,if_pos rfl]at hnext;simp only[go_sem,simprocAttr];rw[hpB,hnext];exact HW b f a all all oB oR mid _ rfl
   simp only[P0,P1,P2,G0,GG,S0,SS,hlen,bJ,ay,du,gz,aC,go_sem,simprocAttr];refine aa (Bg (nZ b.length (supp b) d) λi hi=>DP hk i hi) rfl ?_;cases hwk:fN (nZ b.length (supp b) d)
   .rw[hsa,hwk,gA,lw,if_pos rfl]at hnext;simp only[hwk,go_sem,simprocAttr];rw[hpB,hnext];exact HW b f a all all oB oR mid _ rfl
   rw[hsa,hwk,gA,Bool.not_true,if_neg (by decide)]at hnext;simp only[P0,P1,P2,G0,GG,S0,SS,hlen,bJ,ay,du,gz,aC,hwk,go_sem,simprocAttr];have M2:∀A t,(fQ b f a A oB mid++t)[2]?=some (.row 8 [.p (.agg (cB 8 A))]):=λA t=>rfl;have MS:∀A B t,(fQ b f a A oB mid++t).set 2 (.row 8 [.p (.agg (cB 8 B))])=fQ b f a B oB mid++t:=λA B t=>rfl;rw[hpB]
   refine lU [4,87] (σ:=Nat) (λj=>j<=8) (λj=>8-j) (λj=>[(88,.p (.int .i64 j))])
    (λj=>fQ b f a (λi=>if i<j then all i&&d i else all i) oB mid++(.row 8 [.p (.agg (cB 8 clean))]::.row 80 [.p (.agg (aQ (nZ b.length (supp b) d)))]::.row 8 [.p (.agg (cB 8 d))]::u)) 0 (bE _) ?_ ?_ ?_
   .rw[vo (show cB 8 (λi=>if i<0 then all i&&d i else all i)=cB 8 all from g8 λi _=>if_neg (Nat.not_lt_zero i))]
   .simp only[go_sem,simprocAttr]
   intro j hj;dsimp only;rcases aw j 8 with j8|j8
   .have k1:decide ((j:Int)<8)=true:=decide_eq_true (by omega);have j8i:(j:Int)<8:=by omega
    have j7:j<=7:=by omega
    have wj:IntKind.i64.wrap ((j:Int)+1)=((j+1:Nat):Int):=az (by omega) (by simp[ai];omega) (by omega);have gd:=cN d j8;have ga:(cB 8 (λi=>if i<j then all i&&d i else all i))[j]?=some (.bool (all j)):=by rw[cN _ j8,if_neg (Nat.lt_irrefl j)]
    have pj:∀w,w=(all j&&d j)->bV (List.take j ((cB 8 (λi=>if i<j then all i&&d i else all i)).map AV.p)++[.p (.bool w)]++List.drop (j+1) ((cB 8 (λi=>if i<j then all i&&d i else all i)).map AV.p))=some (cB 8 (λi=>if i<j+1 then all i&&d i else all i)):=λw hw=>by
     rw[kK _ w j8]
     congr 1
     refine g8 λi _=>?_;by_cases h:i=j
     .subst h;rw[if_pos rfl,if_pos (by omega),hw]
     .rw[if_neg h];by_cases h2:i<j
      .rw[if_pos h2,if_pos (by omega)]
      .rw[if_neg h2,if_neg (by omega)]
    simp only[k1,j8i,j7,gd,ga,M2,MS,Nat.mul_one,go_sem,simprocAttr];cases haj:all j
    .have pj1:=pj false (by rw[haj];rfl);simp only[k1,j8i,j7,M2,MS,Nat.mul_one,pj1,go_sem,simprocAttr];refine g9 (j+1) j8 (by omega) rfl ?_;simp only[wj,go_sem,simprocAttr]
    .have pj1:=pj (d j) (by rw[haj];rfl);simp only[k1,j8i,j7,M2,MS,Nat.mul_one,pj1,go_sem,simprocAttr];refine g9 (j+1) j8 (by omega) rfl ?_;simp only[wj,go_sem,simprocAttr]
   .have k1:decide ((j:Int)<8)=false:=decide_eq_false (by omega);have:j=8:=by omega
    subst this;simp only[k1,go_sem,simprocAttr];rw[hnext];exact HW b f a _ _ oB oR mid _ (g8 λi hi=>if_pos hi)
  .rintro done x r u e1 _ hx hlt hnx
   have hdl:done.length<b.length:=by omega
   have hbo:=hb.bat _ _ hx;have hTx:=hT x (aV hx);have d8:done.length<8:=by omega
   have d8i:(done.length:Int)<8:=by omega
   have d7:done.length<=7:=by omega
   have d8l:(done.length:Int)<=8:=by omega
   obtain⟨d,hd⟩:∃d,d=sM (tk b) (ba b) clean a done.length:=⟨_,rfl⟩
   have hds:=Io (tk b) (ba b) clean a done.length;rw[<-hd]at hds |-;have hat:=BE hx d;have hlo:ba b done.length=x.lost:=by unfold ba;rw[cS hx]
   have hG:lK (tk b) (ba b) clean a d done.length=(((done.length:Int)==(a:Int))||(x.lost&&!clean done.length)||bv (λ_ (t:TrTake)=>d t.src.toNat) x.takes 0):=by
    rw[lK,hat,hlo]
    congr 2
    rw[gC,beq_iff_eq,beq_iff_eq];omega
   have c1:=sS (fv:=.func (.func 118) [] [.ptr 8 [.agg (cB 8 d)] 0 0]) x.takes (λ_ t=>d t.src.toNat) false hTx λk t ht=>⟨_,_,_,rfl,Ku k t d (by have:=hbo.src t (aV ht);omega) (by have:=hbo.src t (aV ht);omega)⟩
   have U0:=iM (lo:=u) rfl;have US0:=mr (lo:=u) rfl;simp only[hlt,hx,P0,P1,P2,G0,GG,S0,SS,hlen,bJ,ay,du,gz,aC,U0,US0,go_sem,simprocAttr];have hput:∀w:Bool,w=lK (tk b) (ba b) clean a d done.length->bV (List.take done.length ((cB 8 d).map AV.p)++(.p (.bool w)::List.drop (done.length+1) ((cB 8 d).map AV.p)))=some (cB 8 (ct d done.length w)):=λw hw=>by
    rw[List.append_cons,kK d w d8];rfl
   have hget:∀w:Bool,(cB 8 (ct d done.length w))[done.length]?=some (.bool w):=λw=>by rw[cN _ d8,dm,if_pos rfl]
   have hgc:=cN clean d8;have hdone:∀w:Bool,lK (tk b) (ba b) clean a d done.length=w->ct d done.length w=sM (tk b) (ba b) clean a (done++[x]).length:=λw hw=>by
    rw[ay,aC,hds,hw]
   cases h1:((done.length:Int)==(a:Int))
   rotate_left
   .rw[h1,gY,gY]at hG;have hp:=hput true hG.symm;have hgt:=hget true;simp only[P0,P1,P2,G0,GG,S0,SS,hlen,bJ,ay,du,gz,aC,U0,US0,d8i,Nat.mul_one,d7,hp,hgt,go_sem,simprocAttr];refine lV e1 (u++[.row 5 [.p x.pv]]) trivial ?_ ?_
    .rw[<-hdone true hG,ay,aC,sb];first|rfl|simp[TrBatch.pv,h23.1]
    .simp only[hnx,go_sem,simprocAttr]
   rw[h1,gA]at hG;have hF:x.lost=true->clean done.length=false->lK (tk b) (ba b) clean a d done.length=true:=λh2 h3=>by rw[hG,h2,h3];rfl
   have hS:¬(x.lost=true/\clean done.length=false)->lK (tk b) (ba b) clean a d done.length=bv (λ_ (t:TrTake)=>d t.src.toNat) x.takes 0:=λh=>by
    rw[hG];cases h2:x.lost
    .rfl
    .cases h3:clean done.length
     .exact absurd ⟨h2,h3⟩ h
     .rfl
   by_cases h23:x.lost=true/\clean done.length=false
   .have hG2:=hF h23.1 h23.2;simp only[P0,P1,P2,G0,GG,S0,SS,hlen,bJ,ay,du,gz,aC,U0,US0,h23.1,h23.2,d8i,Nat.mul_one,hgc,go_sem,simprocAttr];have hp:=hput true hG2.symm;have hgt:=hget true;simp only[P0,P1,P2,G0,GG,S0,SS,hlen,bJ,ay,du,gz,aC,U0,US0,d8i,Nat.mul_one,d7,hp,hgt,go_sem,simprocAttr];refine lV e1 (u++[.row 5 [.p x.pv]]) trivial ?_ ?_
    .rw[<-hdone true hG2,ay,aC,sb];first|rfl|simp[TrBatch.pv,h23.1]
    .simp only[hnx,go_sem,simprocAttr]
   have hG2:=hS h23;cases h2:x.lost;case' true=>
    have h3:clean done.length=true:=by
     cases h3:clean done.length
     .exact absurd ⟨h2,h3⟩ h23
     .rfl
    simp only[P0,P1,P2,G0,GG,S0,SS,hlen,bJ,ay,du,gz,aC,U0,US0,h2,h3,d8i,Nat.mul_one,hgc,go_sem,simprocAttr]
   case' false=>
    simp only[P0,P1,P2,G0,GG,S0,SS,hlen,bJ,ay,du,gz,aC,U0,US0,h2,go_sem,simprocAttr]
   all_goals
    refine dX c1 ?_ (.bool _) ?_
    .simp only[P0,P1,P2,G0,GG,S0,SS,hlen,bJ,ay,du,gz,aC,U0,US0,h2,go_sem,simprocAttr]
    simp only[P0,P1,P2,G0,GG,S0,SS,hlen,bJ,ay,du,gz,aC,U0,US0,h2,go_sem,simprocAttr];cases h4:bv (λ_ (t:TrTake)=>d t.src.toNat) x.takes 0;rotate_left
    .rw[h4]at hG2;have hp:=hput true hG2.symm;have hgt:=hget true;simp only[P0,P1,P2,G0,GG,S0,SS,hlen,bJ,ay,du,gz,aC,U0,US0,d8i,Nat.mul_one,d7,hp,hgt,go_sem,simprocAttr];refine lV e1 (u++[.row 5 [.p x.pv]]) trivial ?_ ?_
     .rw[<-hdone true hG2,ay,aC,sb];simp[TrBatch.pv,h2]
     .simp only[hnx,go_sem,simprocAttr]
    rw[h4]at hG2;have hp:=hput false hG2.symm;have hgt:=hget false;simp only[P0,P1,P2,G0,GG,S0,SS,hlen,bJ,ay,du,gz,aC,U0,US0,d8i,Nat.mul_one,d7,hp,hgt,d8l,Nat.sub_zero,go_sem,simprocAttr]
    refine lU [3,4,6,7,8,9,31,32,33,64,65] (σ:=Nat) (λj=>j<=done.length) (λj=>done.length-j) (λj=>[(66,.p (.int .i64 j))])
     (λj=>pB++(.row 8 [.p (.agg (cB 8 clean))]::.row 80 [.p (.agg (aQ (tQ b d (ct d done.length false) done.length j)))]::.row 8 [.p (.agg (cB 8 (ct d done.length false)))]::(u++[.row 5 [.p x.pv]]))) 0 (bE _) ?_ ?_ ?_
    .rw[HN];simp[TrBatch.pv,h2]
    .simp only[go_sem,simprocAttr]
    intro j hj;dsimp only;rcases aw j done.length with hjl|hjl
    .have k1:decide ((j:Int)<(done.length:Int))=true:=decide_eq_true (by omega);have k2:(j:Int)<(done.length:Int):=by omega
     have j8:j<8:=by omega
     have j8i:(j:Int)<8:=by omega
     have gj:=cN (ct d done.length false) j8;have o1:16+j*8+done.length<=79:=by omega
     have wj:IntKind.i64.wrap ((j:Int)+1)=((j+1:Nat):Int):=az (by omega) (by simp[ai];omega) (by omega);have pn:bV (List.take (16+j*8+done.length) ((aQ (tQ b d (ct d done.length false) done.length j)).map AV.p)++(.p (.bool (ct d done.length false j))::List.drop (16+j*8+done.length+1) ((aQ (tQ b d (ct d done.length false) done.length j)).map AV.p)))=some (aQ (tQ b d (ct d done.length false) done.length (j+1))):=by
      rw[List.append_cons,DQ _ j8 d8,HO]
     simp only[P0,P1,P2,G0,GG,S0,SS,hlen,bJ,ay,du,gz,aC,U0,US0,k1,k2,j8i,d8i,gj,Nat.mul_one,o1,pn,eN,go_sem,simprocAttr];refine g9 (j+1) hjl (by omega) rfl ?_;simp only[wj,go_sem,simprocAttr]
    .have k1:decide ((j:Int)<(done.length:Int))=false:=decide_eq_false (by omega);have:j=done.length:=by omega
     subst this;simp only[k1,go_sem,simprocAttr];refine lV e1 (u++[.row 5 [.p x.pv]]) trivial ?_ ?_
     .rw[<-hdone false hG2,ay,aC,<-JW];rfl
     .simp only[hnx,go_sem,simprocAttr]
 .rintro o lo mid rfl _
  have hll:(ld b).length=2^(losts b).length:=by simp[ld]
  have hmk:vk b a (2^(losts b).length)=pq b.length (tk b) (ba b) (losts b) (supp b) a:=rfl;have M5:∀A t,((fQ b f a A o []++t).set 4 .dead)=fQ b f a A .dead t:=λA t=>rfl;have M2:∀A t,(fQ b f a A .dead t)[2]?=some (.row 8 [.p (.agg (cB 8 A))]):=λA t=>rfl;have MS:∀A B t,(fQ b f a A .dead t).set 2 (.row 8 [.p (.agg (cB 8 B))])=fQ b f a B .dead t:=λA B t=>rfl;rw[hll,hmk];simp only[M5,M2,MS,go_sem,simprocAttr];rw[lf];simp only[fQ,go_sem,simprocAttr]
end Tr
end Abs
end Go.Proofs.YtmndpldajflenaaGreatDoor
