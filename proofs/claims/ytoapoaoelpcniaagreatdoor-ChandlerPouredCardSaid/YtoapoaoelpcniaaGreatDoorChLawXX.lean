/- CONTRACTS of the program's functions, and laws on what they return. No conditions but those in the theorems' heads. -/
import Derived.Test.YtoapoaoelpcniaaGreatDoorChLawPX
set_option linter.all false
namespace Go.Proofs.YtoapoaoelpcniaaGreatDoor
namespace Abs
namespace Ch
set_option maxRecDepth 4000
theorem Hr(s)(n)(hs:-1000000000000<=s.lo/\s.lo<=s.hi/\s.hi<=1000000000000)(hn:0<=n):af Tryz.prog 23 [s.pv,.int .i64 n] (.int .i64 (sP s n)):=by
 refine aa (ah Tryz.func23 rfl (by kernel_rfl)) rfl ?_;have h1:=Int.emod_nonneg n (show s.hi-s.lo+1≠0 by omega);have h2:=Int.emod_lt_of_pos n (show 0<s.hi-s.lo+1 by omega);have w1:IntKind.i64.wrap (s.hi-s.lo)=s.hi-s.lo:=aj (by omega) (by omega);have w2:IntKind.i64.wrap (s.hi-s.lo+1)=s.hi-s.lo+1:=aj (by omega) (by omega);have hm:n.tmod (s.hi-s.lo+1)=n%(s.hi-s.lo+1):=Int.tmod_eq_emod_of_nonneg hn;have hne:¬s.hi-s.lo+1=0:=by omega
 have w3:IntKind.i64.wrap (s.lo+n%(s.hi-s.lo+1))=s.lo+n%(s.hi-s.lo+1):=aj (by omega) (by omega);simp only[Span.pv,w1,w2,hm,hne,w3,sP,go_sem,simprocAttr]
def LA:Cmd->Bool
 |.box _ _=>true
 |_=>false
def NM:Cmd->Bool
 |.look=>true
 |_=>false
theorem zC(c):(bs (cZ c).verb==⟨#[98,111,120]⟩)=LA c:=by
 rw[show (⟨#[98,111,120]⟩:ByteArray)=bs sA from rfl,cc];cases c<;>rfl
theorem qg(c):(bs (cZ c).verb==⟨#[108,111,111,107]⟩)=NM c:=by
 rw[show (⟨#[108,111,111,107]⟩:ByteArray)=bs oJ from rfl,cc];cases c<;>rfl
def n6 (l:List Int):List UInt8:=mf++l.flatMap λn=>32::be n
theorem KT(d)(n):n6 (d++[n])=n6 d++32::be n:=by simp[n6]
theorem ME:∀d,(∀n,n∈d->0<=n/\n<1000000000)->(n6 d).length<=6+1001*d.length:=by
 intro d h;have:(d.flatMap λn=>32::be n).length<=1001*d.length:=by
  induction d with
  |nil=>simp
  |cons n d ih=>
   have h1:=h n (by simp);have:=sH h1.1 h1.2;have:=ih λm hm=>h m (by simp[hm]);simp only[mF,aB,cu];omega
 rw[n6,aB];have:mf.length=6:=rfl;omega
set_option maxHeartbeats 4000000 in
theorem Cy(s:ChShop)(ls)(p q)(hp:0<=p/\p<=4294967295)(hq:0<=q/\q<=4294967295) :
  af Tryz.prog 6 [s.pv,bp ls,.agg [.int .u32 p,.int .u32 q]] (.bool true):=by
 refine aa (eg (by kernel_rfl) rfl ok6) rfl ?_;simp only[go_sem,simprocAttr];refine ae (vQ s ls) rfl ?_;by_cases he:aY s ls=0;rotate_left
 .have hn:(aY s ls != 0)=true:=by simpa using he
  have h0:jn s ls=[]:=by rw[jn,if_neg he]
  simp only[hn,h0,bp,ck,cw,go_sem,simprocAttr];refine ae l7 rfl ?_;simp only[go_sem,simprocAttr]
 obtain⟨h1,h2⟩:=yG he;have hs:=sa h1;have hv:((bi s).2.2==0)=true:=by simpa using h1
 have ha:jn s ls=fO s aJ ls:=by rw[jn,if_pos he,kS]
 have hal:=pO s ls aJ;simp only[he,ha,go_sem,simprocAttr];refine ae (wg s) rfl ?_;have hlq:((ls.length:Int) != (ls.length:Int))=false:=by simp
 have hAt:∀i l,ls[i]?=some l->(fO s aJ ls)[i]?=some (fx s (eL s aJ (ls.take i)) l):=λi l h=>yN s ls aJ i l h;generalize hA:fO s aJ ls=A at hal hAt;simp only[hv,bp,hal,hlq,go_sem,simprocAttr];refine aQ [1,3,5,7] ls (by omega) (τ:=Unit) (λ_ _ _=>True) (λdone _=>[(9,.p (.int .i64 done.length))]) (λ_ _=>[.row 17 [.p s.pv],.row 2 [.p (.agg [.int .u32 p,.int .u32 q])]]) () trivial ?_ ?_ ?_
 .simp only[cw,go_sem,simprocAttr]
 .intro _ _;have hlt:¬((ls.length:Int)<(ls.length:Int)):=by omega
  simp only[hlt,decide_false,go_sem,simprocAttr];refine ae l7 rfl ?_;simp only[go_sem,simprocAttr]
 intro done x rest _ e1 _ hx hlt hnx;have hy:=hAt _ _ hx;have hle:done.length<=ls.length:=by omega
 have ek:=GZ done.length he;have hbk:=xw s (ls.take done.length);rw[ek,iY,if_pos ek,kS]at hbk;dsimp only at hbk;have hok:=wZ hs (d:=ls.take done.length) (by rw[s5];omega);rw[kS]at hok;dsimp only at hok;have hbx:=MY hs.hour (ls.take done.length) aJ (Xu hs.hour);generalize hb:eL s aJ (ls.take done.length)=B at hy hbk hok hbx;generalize ha':fx s B x=a at hy;simp only[hlt,decide_true,hx,go_sem,simprocAttr];refine ae (Fj x) rfl ?_
 cases hsy:du x with
 |error e=>
  obtain⟨r1,r2⟩:=vd hsy;have r3:(e != 0)=true:=by simpa using r2
  simp only[r1,r3,Said.pv,go_sem,simprocAttr];refine ak (Inv:=λ_ _ _=>True) e1 () trivial ?_
  simp only[hnx,go_sem,simprocAttr]
 |ok c=>
 have r1:=yk hsy;have l1:(done.length:Int)<=(ls.length:Int):=by omega
 have hbk2:=hbk;simp only[bp,At]at hbk2
 cases hcl:NM c with
 |true=>
  obtain rfl:c=.look:=by cases c<;>first|rfl|cases hcl
  have hcb:LA .look=false:=rfl;have hla:=P6 (s:=s) (b:=B) hsy;rw[ha']at hla;simp only[r1,Said.pv,zC,qg,hcl,hcb,hy,hlt,hal,go_sem,simprocAttr];refine ae (tF a) rfl ?_;have hra:fz a=false:=by
   rw[hla];split
   .rfl
   .exact xe (.inr (by simp[Kg,mf]))
  rw[hra];simp only[H6,aL,l1,go_sem,simprocAttr];refine ax hbk2 rfl ?_;have hcB:=T1 s.hour B.tests B.boxes;obtain⟨k1,k2,_⟩:=D9 s.hour B.tests B.boxes hok.boxes;rw[OA hbx]at hcB;simp only[HrShop.pv,mG]at hcB;simp only[H6,aL,qg,hcl,go_sem,simprocAttr];refine ae hcB rfl ?_;generalize (bq s.hour B.tests B.boxes).1=L at k1 k2 hla |-;simp only[go_sem,simprocAttr];refine aQ [1,3,5,7,9,14,15] L (by omega) (τ:=Unit) (λ_ _ _=>True) (λd _=>[(16,.p (.str (bs (n6 d)))),(17,.p (.int .i64 d.length))]) (λ_ _=>[.row 17 [.p s.pv],.row 2 [.p (.agg [.int .u32 p,.int .u32 q])]]) () trivial ?_ ?_ ?_
  .simp only[cw,go_sem,simprocAttr];rfl
  rotate_left
  .intro d n r _ e2 _ hn hlt2 hnx2;have hnb:=k1 n (by rw[e2];simp);have hmx:(if(0:Int)<n then n else 0)=n:=by split<;>omega
   have c32:(⟨#[32]⟩:ByteArray)=bs [32]:=rfl;have hw1:=ME d λm hm=>k1 m (by rw[e2];simp[hm]);have hdl:=congrArg List.length e2;rw[aB]at hdl;have hd9:=sH hnb.1 hnb.2;have q1:(bs (n6 d)).size+1<=bG:=by simp[ao,bG];omega
   have q2:(bs (n6 d++[32])).size+(bs (be n)).size<=bG:=by simp[ao,bG];omega
   have q1b:(bs (n6 d)).size+(bs [32]).size<=bG:=q1;simp only[hlt2,decide_true,hn,hmx,q1,q1b,c32,dQ,go_sem,simprocAttr];refine ae (Ah hnb.1 hnb.2) rfl ?_;simp only[c32,dQ,q2,go_sem,simprocAttr];refine ak (Inv:=λ_ _ _=>True) e2 () trivial ?_;simp only[hnx2,KT,cF,KQ,go_sem,simprocAttr]
  intro _ _;have hlt2:¬((L.length:Int)<(L.length:Int)):=by omega
  have cOk:(⟨#[111,107]⟩:ByteArray)=bs uf:=rfl;by_cases hL:L=[]
  .subst hL;rw[if_pos rfl]at hla;have z1:(bs a==bs uf)=true:=by rw[hla];exact(gv _ _).2 rfl
   have z2:(bs a != bs uf)=false:=by rw[bne,z1];rfl
   simp only[hlt2,decide_false,cw,hy,hlt,hal,cOk,z1,z2,go_sem,simprocAttr];refine ak (Inv:=λ_ _ _=>True) e1 () trivial ?_;simp only[hnx,go_sem,simprocAttr]
  .rw[if_neg hL]at hla;have hll:0<L.length:=s7.2 hL;have q0:((L.length:Int)==0)=false:=by rw[beq_eq_false_iff_ne];omega
   have q1:decide ((0:Int)<(L.length:Int))=true:=decide_eq_true (by omega);have z1:(bs a==bs (n6 L))=true:=by rw[hla];exact(gv _ _).2 rfl
   have z2:(bs a != bs (n6 L))=false:=by rw[bne,z1];rfl
   simp only[hlt2,decide_false,q0,q1,hy,hlt,hal,z1,z2,go_sem,simprocAttr];refine ak (Inv:=λ_ _ _=>True) e1 () trivial ?_
   simp only[hnx,go_sem,simprocAttr]
 |false=>
 cases hcb:LA c with
 |false=>
  simp only[r1,Said.pv,zC,qg,hcl,hcb,go_sem,simprocAttr];refine ak (Inv:=λ_ _ _=>True) e1 () trivial ?_
  simp only[hnx,go_sem,simprocAttr]
 |true=>
  obtain⟨kind,hours,rfl⟩:∃k h,c=.box k h:=by cases c<;>first|exact⟨_,_,rfl⟩|cases hcb
  simp only[r1,Said.pv,zC,qg,hcl,hcb,hy,hlt,hal,go_sem,simprocAttr];refine ae (tF a) rfl ?_
  cases hra:fz a with
  |true=>
   simp only[go_sem,simprocAttr];refine ak (Inv:=λ_ _ _=>True) e1 () trivial ?_
   simp only[hnx,go_sem,simprocAttr]
  |false=>
  simp only[H6,aL,l1,go_sem,simprocAttr];refine ax hbk2 rfl ?_;simp only[H6,aL,qg,hcl,go_sem,simprocAttr];refine aQ [1,3,5,7,9,10,12] s.hour.kinds hs.kinds (τ:=Unit) (λ_ _ _=>True) (λd _=>[(18,.p (.int .i64 d.length))]) (λ_ _=>[.row 17 [.p s.pv],.row 2 [.p (.agg [.int .u32 p,.int .u32 q])],.row 4 [.p (Said.pv (cZ (.box kind hours)))],.row 6 [.p B.pv]]) () trivial ?_ ?_ ?_
  .simp only[cw,Said.pv,go_sem,simprocAttr]
  .intro _ _;have hlt2:¬((s.hour.kinds.length:Int)<(s.hour.kinds.length:Int)):=by omega
   simp only[hlt2,decide_false,go_sem,simprocAttr];refine ak (Inv:=λ_ _ _=>True) e1 () trivial ?_;simp only[hnx,go_sem,simprocAttr]
  intro d y r _ e2 _ hy2 hlt2 hnx2;have l3:(0:Int)<1:=by decide
  simp only[H6,aL,hlt2,decide_true,hy2,Said.pv,cZ,bp,l3,cu,cw,bL,ck,go_sem,simprocAttr]
  cases hny:(y.name==bs kind) with
  |false=>
   simp only[go_sem,simprocAttr];refine ak (Inv:=λ_ _ _=>True) e2 () trivial ?_;simp only[hnx2,go_sem,simprocAttr]
   rfl
  |true=>
   have hyk:=(gv _ _).1 hny;rw[<-ha']at hra;obtain⟨g1,g2,g3,g4⟩:=OB hsy hra hy2 hyk;obtain⟨f1,_,_⟩:=xm g1;obtain⟨hxk,_,_,_,_,_⟩:=iD g1;have hcR:=V1 s.hour B.tests (d.length:Int);rw[f1]at hcR;simp only[HrShop.pv]at hcR;have pf:=kU hxk;rw[g2]at pf;have hyo:=hxk.k;rw[g2]at hyo;simp only[go_sem,simprocAttr];refine ae hcR rfl ?_;have b6:=hxk.lo;have b7:=hxk.le;have b9:=hxk.hi
   generalize (hrLook s.hour B.tests (d.length:Int)).1.rates=R at *
   generalize (hrLook s.hour B.tests (d.length:Int)).1.promise=n at *
   have b1:=hyo.lo;have b2:=hyo.le;have b3:=hyo.hi;have b4:=hyo.rest;have b5:=hyo.less
   have d1:decide (R.lo<0)=false:=by simp;omega
   have d2:decide (R.hi<R.lo)=false:=by simp;omega
   have w1:IntKind.i64.wrap p=p:=aj (by omega) (by omega);have w2:IntKind.i64.wrap q=q:=aj (by omega) (by omega);simp only[H6,aL,Span.pv,d1,d2,hlt2,hy2,w1,w2,go_sem,simprocAttr];refine ax (Hr R q ⟨by omega,by omega,by omega⟩ hq.1) rfl ?_;have hB:=Ek (s:=R) b7 q;generalize sP R q=rate at hB |-;have q1:rate*hours<=R.hi*hours:=pU hB.2 g3;have q2:0<=rate*hours:=ri (by omega) g3;have q3:R.hi*hours<=R.hi*n:=tM g4 (by omega);have q4:=pf.2.2.1;rw[sZ]at q4;have w3:IntKind.i64.wrap (rate*hours)=rate*hours:=aj (by omega) (by omega);have l4:(0:Int)<1:=by decide
   simp only[H6,aL,w1,w2,w3,l4,go_sem,simprocAttr];refine ax (Hr y.weight p ⟨by omega,by omega,by omega⟩ hp.1) rfl ?_;have hA:=Ek (s:=y.weight) b2 p;generalize sP y.weight p=wt at hA |-;have w4:IntKind.i64.wrap (wt-y.rest)=wt-y.rest:=aj (by omega) (by omega);have d3:decide (wt-y.rest<rate*hours)=false:=by simp;omega
   simp only[H6,aL,w4,d3,go_sem,simprocAttr];refine ak (Inv:=λ_ _ _=>True) e2 () trivial ?_;simp only[hnx2,go_sem,simprocAttr];rfl
theorem QN(b)(hl:b.batches.length<=1000):af Tryz.prog 17 [b.pv] (.slice 2 ((cy b).map ClBatch.pv) false):=by
 refine dj (ah Tryz.func17 rfl (by kernel_rfl)) rfl ?_;simp only[go_sem,simprocAttr];refine cl 3 2 (by simp only[go_sem,simprocAttr]) ?_;simp only[go_sem,simprocAttr];refine aQ [1] b.batches (by omega) (τ:=Unit) (λ_ _ _=>True) (λd _=>[(3,.slice 1 d.length 0 d.length),(4,.p (.int .i64 d.length))]) (λd _=>[.row 6 [.p b.pv],.row 2 ((gx d).map D4)]) () trivial ?_ ?_ ?_
 .simp only[gx,ck,cw,go_sem,simprocAttr]
 .intro _ _;have hlt:¬((b.batches.length:Int)<(b.batches.length:Int)):=by omega
  have hw:gx b.batches=cy b:=rfl;have hwl:(cy b).length=b.batches.length:=by simp only[cy,eF]
  have ht:List.take b.batches.length ((cy b).map ClBatch.pv)=(cy b).map ClBatch.pv:=eD (by rw[eF,hwl];exact bB _);simp only[hlt,decide_false,hw,ht,hwl,go_sem,simprocAttr]
 .intro d x r _ e1 _ hx hlt hnx;have hdl:=congrArg List.length e1;rw[aB]at hdl;have hrm:d.length+1<=aw:=by simp only[aw];omega
  have hwd:(gx d).length=d.length:=by simp[gx]
  simp only[hlt,hx,hrm,hwd,eF,go_sem,simprocAttr];refine ak (Inv:=λ_ _ _=>True) e1 () trivial ?_;simp only[hnx,gx,aB,cj,bL,ck,D4,ClBatch.pv,go_sem,simprocAttr]
theorem Oi(o:List Nat)(n)(ho:o.Perm (List.range n))(hn:n<=1000):af Tryz.prog 19 [.int .i64 n,.slice 1 (o.map Cl.lA) false] (.int .i64 0):=by
 have hol:o.length=n:=by rw[ho.length_eq,List.length_range]
 have hnd:o.Nodup:=ho.nodup_iff.2 List.nodup_range;have hlt:∀i,i∈o->i<n:=λi hi=>rj.1 (ho.mem_iff.1 hi);subst hol;refine aa (ah Tryz.func19 rfl (by kernel_rfl)) rfl ?_;have q0:((o.length:Int) != (o.length:Int))=false:=by simp
 simp only[q0,go_sem,simprocAttr];refine aQ [0,1] o (by omega) (τ:=Unit) (λ_ _ _=>True) (λd _=>[(5,.p (.int .i64 d.length))]) (λ_ _=>[]) () trivial ?_ ?_ ?_
 .simp only[cw,go_sem,simprocAttr]
 rotate_left
 .intro d x r _ e1 _ hx hl hnx;have hxl:=hlt x (by rw[e1];simp);have hg:ar (x:Int) 0 ((o.length:Int)-1)=true:=by simp[ar];omega
  have w1:IntKind.i64.wrap ((o.length:Int)-1)=(o.length:Int)-1:=aj (by omega) (by omega);simp only[hl,decide_true,hx,w1,Cl.lA,go_sem,simprocAttr];refine ae (Cl.Ke _ _ _) rfl ?_;rw[hg];simp only[go_sem,simprocAttr];refine ak (Inv:=λ_ _ _=>True) e1 () trivial ?_;simp only[hnx,go_sem,simprocAttr]
 intro _ _;have hl0:¬((o.length:Int)<(o.length:Int)):=by omega
 simp only[hl0,decide_false,go_sem,simprocAttr];refine aQ [0,1] o (by omega) (τ:=Unit) (λ_ _ _=>True) (λd _=>[(6,.p (.int .i64 d.length))]) (λ_ _=>[]) () trivial ?_ ?_ ?_
 .simp only[cw,go_sem,simprocAttr]
 .intro _ _;simp only[hl0,decide_false,go_sem,simprocAttr]
 intro d x r _ e1 _ hx hl hnx;have hdl:=congrArg List.length e1;rw[aB]at hdl;simp only[hl,decide_true,go_sem,simprocAttr];refine aQ [0,1,6] d (by omega) (τ:=Unit) (λ_ _ _=>True) (λe _=>[(7,.p (.int .i64 e.length))]) (λ_ _=>[]) () trivial ?_ ?_ ?_
 .simp only[cw,go_sem,simprocAttr]
 .intro _ _;have hl1:¬((d.length:Int)<(d.length:Int)):=by omega
  simp only[hl1,decide_false,go_sem,simprocAttr];refine ak (Inv:=λ_ _ _=>True) e1 () trivial ?_;simp only[hnx,go_sem,simprocAttr]
 intro e y r2 _ e2 _ hy hl2 hnx2;have hy2:o[e.length]?=some y:=by rw[e1,aX (by omega)];exact hy
 have hl3:(e.length:Int)<(o.length:Int):=by omega
 have hne:((y:Int)==(x:Int))=false:=by
  have hxy:y≠x:=by
   rw[e1,e2]at hnd;intro h;subst h;simp[List.nodup_append]at hnd
  simp;omega
 simp only[hl2,decide_true,hy2,hl3,hx,hl,hne,Cl.lA,go_sem,simprocAttr];refine ak (Inv:=λ_ _ _=>True) e2 () trivial ?_;simp only[hnx2,go_sem,simprocAttr]
theorem Lg{s}{b}{l c}(hs:du l=.ok (.pour c))(hr:fz (fx s b l)=false):∃o n,jK s b c=.ok (o,n)/\fx s b l=be n/\(oX s b l).lost=b.lost+n:=by
 unfold fx at hr |-;unfold oX
 cases ha:aO s b (.pour c) with
 |error e=>
  rw[rV hs ha]at hr;rw[vm]at hr
  cases hr
 |ok x=>
  obtain⟨b',a⟩:=x;rw[pJ hs ha];simp only[aO]at ha;split at ha
  .cases ha
  .rename_i o n hb;cases ha;exact⟨o,n,hb,rfl,rfl⟩
def Ct:Cmd->Prop
 |.pour _=>False
 |_=>True
theorem HL{s}{b b'}{c}{a}(hc:Ct c)(h:aO s b c=.ok (b',a)):b'.lost=b.lost:=by
 cases c<;>first|exact hc.elim|skip
 all_goals simp only[aO]at h
 all_goals repeat' split at h
 all_goals cases h<;>rfl
theorem xl{s}{b}{l}(h:(∀c,du l=.ok c->Ct c)\/fz (fx s b l)=true):(oX s b l).lost=b.lost:=by
 unfold oX
 cases hs:du l with
 |error e=>rw[CI hs]
 |ok c=>
  cases ha:aO s b c with
  |error e=>rw[rV hs ha]
  |ok x=>
   obtain⟨b',a⟩:=x;have hd:=pJ hs ha;rw[hd];rcases h with h|h
   .exact HL (h c hs) ha
   .by_cases hp:Ct c
    .exact HL hp ha
    .have hw:c.written=true:=by cases c<;>first|rfl|exact absurd trivial hp
     unfold fx at h;rw[hd]at h;dsimp only at h;rw[xe (En hw ha)]at h;cases h
def O4:Cmd->Prop
 |.pour c=>nameOk (bs c)=true
 |_=>True
theorem PX{w v}(h:aW w=some v):nameOk (bs v)=true:=by
 unfold aW at h;split at h
 .cases h;assumption
 .cases h
theorem K5{v}{ws}{c}(e:cW v ws=some c):O4 c:=by
 unfold cW at e;repeat' split at e
 all_goals first
  |(cases e;done)
  |(cases e;trivial)
  |(simp only[cg]at e;obtain⟨_,h,rfl⟩:=e;first|exact PX h|trivial)
theorem PE{l c}(h:du l=.ok (.pour c)):nameOk (bs c)=true:=by
 have key:∀c,du l=.ok c->O4 c:=by
  intro c h;unfold du at h;split at h
  .cases h
  split at h
  .cases h;trivial
  split at h
  .cases h
  .split at h
   .rename_i hc;cases h;exact K5 hc
   .cases h
 exact key _ h
def kj (n:List UInt8):List UInt8:=gO++32::n
theorem K4{n}(hn:nameOk (bs n)=true):du (kj n)=.ok (.plan n):=by
 have hl:=vC hn;rw[ao]at hl;have h32:(32:UInt8)∉n:=(Abs.JG hn).2;have hsp:aP 32 (kj n)=[gO,n]:=by
  unfold kj;rw[ku _ (by decide),ti h32]
 have hlen:¬400<(kj n).length:=by simp[kj,gO];omega
 unfold du;rw[if_neg hlen,if_neg (by simp[kj,gO,gN]),hsp];simp only[cW,if_neg (show ¬gO=qU by decide),if_neg (show ¬gO=lV by decide),if_neg (show ¬gO=oK by decide),if_true,aW,if_pos hn,jX]
def gR (b:ChBooks) (o:List Nat):List UInt8:=o.flatMap λi=>ij b.batches i++[32]
theorem DN(z):∀l,joinL (l++[z])=(l.flatMap λx=>x++[32])++z
 |[]=>rfl
 |[x]=>by simp[joinL]
 |x::y::l=>by
  rw[eu,eu,joinL,<-eu,DN z (y::l)];simp
theorem Rj{s}{b}{c}{o}{n}(hn:nameOk (bs c)=true)(h:jK s b c=.ok (o,n)):fx s b (kj c)=gR b o++be n:=by
 have ha:aO s b (.plan c)=.ok (b,joinL (o.map (ij b.batches)++[be n])):=by simp only[aO,h]
 unfold fx;rw[pJ (K4 hn) ha];dsimp only;rw[DN,List.flatMap_map];rfl
theorem IQ{s}(h:(Cl.clCheck s).2.2=0){i j:Nat}{a b}(hi:s.colours[i]?=some a)(hj:s.colours[j]?=some b)(hn:a.name=b.name):i=j:=by
 have names:firstErr (Cl.eh s.colours.length) (·.name) s.colours []=none:=by
  unfold Cl.clCheck at h;split at h
  .split at h
   .rename_i i e he;exact absurd h (Cl.gT he)
   .assumption
  .rename_i h0;exact absurd h h0
 have key:∀(i j:Nat) (a b:ClColour),s.colours[i]?=some a->s.colours[j]?=some b->a.name=b.name->i<j->False:=by
  intro i j a b hi hj hn hij;have hjl:=(aF.1 hj).1;have e:s.colours=s.colours.take j++b::s.colours.drop (j+1):=by
   have h1:=nX hjl;rw[(aF.1 hj).2]at h1;rw[<-h1,lr]
  have:=Abs.eP names _ b _ e;unfold Cl.eh at this;split at this
  .rename_i h0;refine(vB h0).2 a.name ?_ hn;rw[ky,cH];refine⟨a,aG (i:=i) ?_,rfl⟩;rw[pg,if_pos hij];exact hi
  .contradiction
 rcases rk i j with h1|h1|h1
 .exact(key i j a b hi hj hn h1).elim
 .exact h1
 .exact(key j i b a hj hi hn.symm h1).elim
theorem OH{s}{b}{c}{o}{n}(h:jK s b c=.ok (o,n)):∃(k:Nat) (x:ClColour),s.colour.colours[k]?=some x/\x.name=bs c/\Cl.lf s.colour (cy b)=0 /\
  Cl.qc s.colour k (cy b)=.tuple [.slice 1 (o.map Cl.lA) false,.int .i64 n,.int .i64 0]:=by
 unfold jK at h;dsimp only at h;split at h
 .cases h
 rename_i h0;rcases lW (λx:ClColour=>x.name==bs c) s.colour.colours 0 with h2|⟨k,x,e1,e2,e3⟩
 .exact absurd h2 h0
 rw[iq]at e1;rw[e1]at h;split at h
 .cases h
 rename_i h1;have h1':Cl.dH s.colour (k:Int) (cy b)=0:=Classical.byContradiction h1;split at h
 .cases h
 rename_i q h2;cases h;refine⟨k,x,e2,(gv _ _).1 e3,?_,by rw[Cl.qc,if_pos h1',h2]⟩;unfold Cl.dH at h1';split at h1'
 .split at h1'
  .exact h1'
  .cases h1'
 .contradiction
def NL:Cmd->Bool
 |.pour _=>true
 |_=>false
theorem Df(c):(bs (cZ c).verb==⟨#[112,111,117,114]⟩)=NL c:=by
 rw[show (⟨#[112,111,117,114]⟩:ByteArray)=bs oI from rfl,cc];cases c<;>rfl
theorem Q9(s)(d)(x):eL s aJ (d++[x])=oX s (eL s aJ d) x:=by rw[Ht];rfl
theorem vA{s}{b}{n}(h:BkOk s b n):∀o,(gR b o).length<=21*o.length
 |[]=>bB _
 |i::o=>by
  have h1:(ij b.batches i).length<=20:=by
   unfold ij;split
   .rename_i x hx;exact(h.waits x (aG hx)).2.2
   .exact dY _
  have h2:=vA h o;unfold gR at h2 |-;simp only[mF,aB,cu,cw];omega
set_option maxHeartbeats 4000000 in
theorem Bf(s:ChShop)(ls):af Tryz.prog 5 [s.pv,bp ls] (.bool true):=by
 refine Gf (eg (by kernel_rfl) rfl ok5) rfl ?_;refine dB bI ?_;simp only[go_sem,simprocAttr];refine dB bI ?_;simp only[go_sem,simprocAttr];refine ae (vQ s ls) rfl ?_;simp only[go_sem,simprocAttr];refine dB bI ?_;simp only[go_sem,simprocAttr];refine ae (xw s ls) rfl ?_;by_cases he:aY s ls=0;rotate_left
 .have hn:(aY s ls != 0)=true:=by simpa using he
  have h0:iY s ls=aJ:=by rw[iY,if_neg he]
  have e0:(aY s ls==aY s ls)=true:=by simp
  simp only[h0,go_sem,simprocAttr];refine dB bI ?_;simp only[hn,e0,go_sem,simprocAttr];refine ae l7 rfl ?_;simp only[go_sem,simprocAttr]
 obtain⟨h1,h2⟩:=yG he;have hs:=sa h1;have hv:((bi s).2.2==0)=true:=by simpa using h1
 have ha:jn s ls=fO s aJ ls:=by rw[jn,if_pos he,kS]
 have hbT:iY s ls=eL s aJ ls:=by rw[iY,if_pos he,kS]
 have hal:=pO s ls aJ;simp only[he,ha,hbT,go_sem,simprocAttr];refine dB bI ?_;simp only[go_sem,simprocAttr];refine ae (wg s) rfl ?_;have hlq:((ls.length:Int) != (ls.length:Int))=false:=by simp
 have hAt:∀i l,ls[i]?=some l->(fO s aJ ls)[i]?=some (fx s (eL s aJ (ls.take i)) l):=λi l h=>yN s ls aJ i l h;generalize hA:fO s aJ ls=A at hal hAt;generalize hF:eL s aJ ls=F;simp only[hv,go_sem,simprocAttr];refine dB bI ?_;simp only[bp,hal,hlq,go_sem,simprocAttr];refine dB bI ?_;simp only[go_sem,simprocAttr];refine Kr ?_;refine dB bI ?_;simp only[go_sem,simprocAttr];refine HZ ?_;refine O3 [1,2,5,7] ls (by omega) (τ:=Unit) (λ_ _ _=>True) (λdone _=>[(9,.p (.int .i64 (eL s aJ done).lost)),(10,.p (.int .i64 done.length))]) (λ_ _=>[.row 17 [.p s.pv],.row 6 [.p F.pv]]) () trivial ?_ ?_ ?_
 .simp only[cw,go_sem,simprocAttr];rfl
 .intro _ _;have hlt:¬((ls.length:Int)<(ls.length:Int)):=by omega
  have hq:(F.lost==F.lost)=true:=by simp
  refine dB bI ?_;simp only[hlt,decide_false,go_sem,simprocAttr];refine nZ bI ?_;simp only[hF,hq,go_sem,simprocAttr];refine ae l7 rfl ?_;simp only[go_sem,simprocAttr]
 intro done x rest _ e1 _ hx hlt hnx;have hdl:=congrArg List.length e1;rw[aB,cu]at hdl;have htk:ls.take done.length=done:=by rw[e1];exact gk rfl
 have hy:=hAt _ _ hx;have ek:=GZ done.length he;rw[htk]at hy ek;have hbk:=xw s done;rw[ek,iY,if_pos ek,kS]at hbk;dsimp only at hbk;have hok:=wZ hs (d:=done) (by omega);rw[kS]at hok;dsimp only at hok;have hwp:=Am s done;have hsn:=Q9 s done x;generalize hb:eL s aJ done=B at hy hbk hok hsn;generalize ha':fx s B x=a at hy;refine dB bI ?_;simp only[hlt,decide_true,go_sem,simprocAttr];refine Kr ?_;refine HZ ?_;refine dB bI ?_;simp only[hlt,hx,go_sem,simprocAttr];refine ae (Fj x) rfl ?_
 cases hsy:du x with
 |error e=>
  obtain⟨r1,r2⟩:=vd hsy;have r3:(e != 0)=true:=by simpa using r2
  have hl0:(eL s aJ (done++[x])).lost=B.lost:=by rw[hsn];exact xl (.inl λc h=>by rw[hsy]at h;cases h)
  simp only[r1,Said.pv,go_sem,simprocAttr];refine dB bI ?_;simp only[r3,go_sem,simprocAttr];refine nZ bI ?_;simp only[go_sem,simprocAttr];refine ak (Inv:=λ_ _ _=>True) e1 () trivial ?_
  simp only[hnx,hl0,go_sem,simprocAttr]
 |ok c=>
 have r1:=yk hsy
 cases hcp:NL c with
 |false=>
  have hl0:(eL s aJ (done++[x])).lost=B.lost:=by
   rw[hsn];refine xl (.inl λc' h=>?_);rw[hsy]at h;cases h;cases c<;>first|trivial|cases hcp
  simp only[r1,Said.pv,go_sem,simprocAttr];refine dB bI ?_;simp only[Df,hcp,go_sem,simprocAttr];refine nZ bI ?_;simp only[go_sem,simprocAttr];refine ak (Inv:=λ_ _ _=>True) e1 () trivial ?_
  simp only[hnx,hl0,go_sem,simprocAttr]
 |true=>
 obtain⟨nm,rfl⟩:∃n,c=.pour n:=by cases c<;>first|exact⟨_,rfl⟩|cases hcp
 simp only[r1,Said.pv,go_sem,simprocAttr];refine dB bI ?_;simp only[Df,hcp,hy,hlt,hal,go_sem,simprocAttr];refine ae (tF a) rfl ?_
 cases hra:fz a with
 |true=>
  have hl0:(eL s aJ (done++[x])).lost=B.lost:=by rw[hsn];exact xl (.inr (by rw[ha'];exact hra))
  simp only[go_sem,simprocAttr];refine nZ bI ?_;simp only[go_sem,simprocAttr];refine ak (Inv:=λ_ _ _=>True) e1 () trivial ?_
  simp only[hnx,hl0,go_sem,simprocAttr]
 |false=>
 obtain⟨o,n,hbest,hans,hlost⟩:=Lg hsy (by rw[ha'];exact hra);rw[ha']at hans;obtain⟨hperm,hn0,hn1⟩:=rL hs hok hbest;obtain⟨kk,kx,hk,hkn,hle0,hbP⟩:=OH hbest;have hnm:=PE hsy;have l1:(done.length:Int)<=(ls.length:Int):=by omega
 have hbk2:=hbk;simp only[bp]at hbk2;have hT:List.take done.length (List.map (λx=>PV.str (bs x)) ls)=List.map (λx=>PV.str (bs x)) done:=by rw[<-At,htk]
 have hcol:=(Cl.uh hs.colour).len;simp only[go_sem,simprocAttr];refine dB bI ?_;simp only[H5,aL,l1,hT,go_sem,simprocAttr];refine ax hbk2 rfl ?_;simp only[go_sem,simprocAttr];refine dB bI ?_;simp only[go_sem,simprocAttr];refine dB bI ?_;simp only[go_sem,simprocAttr];have hkin:∀(i:Nat) (y:ClColour),s.colour.colours[i]?=some y->y.name=bs nm->i=kk:=λi y h1 h2=>IQ hs.colour h1 hk (h2.trans hkn.symm);refine aQ [1,2,5,7,9,10,11,13,14] s.colour.colours (by omega) (τ:=Int) (λdone _ v=>∀(i:Nat) (y:ClColour),done[i]?=some y->y.name=bs nm->v=(i:Int)) (λd v=>[(15,.p (.int .i64 v)),(16,.p (.int .i64 d.length))]) (λ_ _=>[.row 17 [.p s.pv],.row 6 [.p F.pv],.row 4 [.p (Said.pv (cZ (.pour nm)))],.row 6 [.p B.pv]]) (-1) (by simp) ?_ ?_ ?_
 .simp only[cw,Said.pv,cZ,go_sem,simprocAttr]
 rotate_left
 .intro d y rest2 v e2 hinv hy2 hlt2 hnx2;have l3:(0:Int)<1:=by decide
  simp only[aL,hlt2,decide_true,hy2,Said.pv,cZ,bp,l3,cu,cw,bL,ck,go_sem,simprocAttr]
  cases hny:(y.name==bs nm) with
  |true=>
   have hyk:=(gv _ _).1 hny;simp only[go_sem,simprocAttr];refine ak e2 (d.length:Int) (λi z h1 h2=>?_) ?_
   .rcases rk i d.length with h|h|h
    .rw[aX h]at h1;have g1:=hkin i z (by rw[e2,aX h];exact h1) h2;have g2:=hkin d.length y hy2 hyk;omega
    .rw[h]
    .rw[bW (by omega),na (by simp;omega)]at h1;cases h1
   simp only[hnx2,go_sem,simprocAttr]
   rfl
  |false=>
   simp only[go_sem,simprocAttr];refine ak e2 v (λi z h1 h2=>?_) ?_
   .rcases rk i d.length with h|h|h
    .rw[aX h]at h1;exact hinv i z h1 h2
    .subst h;rw[bW (bB _),wF]at h1;cases h1;rw[h2,(gv _ _).2 rfl]at hny;cases hny
    .rw[bW (by omega),na (by simp;omega)]at h1;cases h1
   simp only[hnx2,go_sem,simprocAttr];rfl
 intro v hinv;have hvk:v=(kk:Int):=hinv kk kx hk hkn;subst hvk;have hlt2:¬((s.colour.colours.length:Int)<(s.colour.colours.length:Int)):=by omega
 have b4:decide ((kk:Int)<0)=false:=decide_eq_false (by omega);have hbl7:=hok.batches;have hW:=QN B (by omega);simp only[ChBooks.pv,ChBooks.cells]at hW;have hwl:(cy B).length=B.batches.length:=by simp only[cy,eF]
 have hRB:=Cl.IY s.colour (cy B) (by omega) (by omega);rw[hle0]at hRB;have hBe:=(Cl.Lm s.colour kk (cy B) (by omega)).pure;rw[hbP]at hBe;simp only[ClShop.pv]at hRB hBe;simp only[hlt2,decide_false,go_sem,simprocAttr];refine dB bI ?_;simp only[aL,Said.pv,cZ,b4,go_sem,simprocAttr];refine ax hW rfl ?_;simp only[go_sem,simprocAttr];refine ax hRB rfl ?_;simp only[go_sem,simprocAttr];refine dB bI ?_;simp only[aL,go_sem,simprocAttr];refine ax hW rfl ?_;simp only[go_sem,simprocAttr];refine ax hBe rfl ?_;have hol:o.length=B.batches.length:=by rw[hperm.length_eq,List.length_range]
 have d0:decide (n<0)=false:=decide_eq_false (by omega);have q1:((B.batches.length:Int) != (B.batches.length:Int))=false:=by simp
 have hRO:=Oi o o.length (by rw[hol];exact hperm) (by omega);rw[hol]at hRO;simp only[go_sem,simprocAttr];refine dB bI ?_;simp only[aL,d0,hol,q1,go_sem,simprocAttr];refine ax hRO rfl ?_;simp only[hy,hlt,hal,go_sem,simprocAttr];refine ax (Ah hn0 (by omega)) rfl ?_;have z1:(bs a==bs (be n))=true:=by rw[hans];exact(gv _ _).2 rfl
 have z2:(bs a != bs (be n))=false:=by rw[bne,z1];rfl
 have hlo:=hok.lost;have hfw:=hok.few;have w1:IntKind.i64.wrap (B.lost+n)=B.lost+n:=aj (by omega) (by omega);have w2:IntKind.i64.wrap ((ls.length:Int)-1)=(ls.length:Int)-1:=aj (by omega) (by omega);have hl1:(eL s aJ (done++[x])).lost=B.lost+n:=by rw[hsn];exact hlost
 by_cases hrest:rest=[]
 rotate_left
 .have hrl:0<rest.length:=s7.2 hrest;have q2:((done.length:Int)==(ls.length:Int)-1)=false:=by rw[beq_eq_false_iff_ne];omega
  simp only[z1,go_sem,simprocAttr];refine dB bI ?_;simp only[w1,go_sem,simprocAttr];refine dB bI ?_;simp only[w2,q2,go_sem,simprocAttr];refine Ks false rfl ?_;refine nZ bI ?_;simp only[go_sem,simprocAttr];refine nZ bI ?_;simp only[go_sem,simprocAttr];refine ak (Inv:=λ_ _ _=>True) e1 () trivial ?_;simp only[hnx,hl1,go_sem,simprocAttr]
 subst hrest;have q2:((done.length:Int)==(ls.length:Int)-1)=true:=by rw[beq_iff_eq];simp at hdl;omega
 have l3:(0:Int)<1:=by decide
 simp only[z1,go_sem,simprocAttr];refine dB bI ?_;simp only[w1,go_sem,simprocAttr];refine dB bI ?_;simp only[w2,q2,go_sem,simprocAttr];refine Ks true rfl ?_;rw[if_pos rfl];refine dB bI ?_;have r0:(0:Nat)<=aw:=dY _;have r1:done.length<=aw:=by simp only[aw];omega
 have r2:1<=aw:=by decide
 have hns:=vC hnm;have c0:(⟨#[112,108,97,110,32]⟩:ByteArray)=bs (gO++[32]):=rfl;have c1:gO++[32]++nm=kj nm:=by simp[kj]
 have p1:5+(bs nm).size<=bG:=by simp only[bG];omega
 have p2:(bs (gO++[32])).size+(bs nm).size<=bG:=by simp[bG,ao,gO];rw[ao]at hns;omega
 have w0:aY s (done++[kj nm])=0:=by rw[aY,if_pos h1,if_neg (by simp;simp at hdl;omega)]
 have hwk:=vQ s (done++[kj nm]);rw[w0,jn,if_pos w0,kS]at hwk;dsimp only at hwk;rw[Am,hb]at hwk;have han:=Rj (s:=s) (b:=B) hnm hbest;rw[show fO s B [kj nm]=[gR B o++be n] by rw[fO,han];rfl]at hwk;have hdn:=pO s done aJ;have r3:done.length+1<=aw:=by simp only[aw];omega
 obtain⟨oth,hoth⟩:∃z,z=done++[kj nm]:=⟨_,rfl⟩
 rw[<-hoth]at hwk;have hol2:oth.length=done.length+1:=by rw[hoth];simp
 generalize hD:fO s aJ done++[gR B o++be n]=C at hwk;have hCl:C.length=done.length+1:=by rw[<-hD];simp[hdn]
 have hCy:C[done.length]?=some (gR B o++be n):=by rw[<-hD,bW (by omega),hdn,wF];rfl
 have hap:∀(p:List (List UInt8)) (z:List UInt8),List.map AV.p (List.map (λx=>PV.str (bs x)) p)++[AV.p (.str (bs z))]=List.map AV.p (List.map (λx=>PV.str (bs x)) (p++[z])):=λp z=>by simp
 have hfz:∀n h (l:List (List UInt8)),aV (cm n h) (List.map AV.p (List.map (λx=>PV.str (bs x)) l))=some (l.map λx=>PV.str (bs x)):=λn h l=>by
  rw[uR];exact oP n h l
 have htk2:∀(p:List (List UInt8)) (y z:List UInt8),List.take (p.length+1+1) (PV.str (bs y)::List.map (λx=>PV.str (bs x)) (p++[z]))=PV.str (bs y)::List.map (λx=>PV.str (bs x)) (p++[z]):=λp y z=>eD (by simp);rcases done with _|⟨y,done⟩
 all_goals simp only[cu,cw,bL,ck,iq]at l1 hT r1 r3 hol2 hCl hCy
 all_goals simp only[aL,l1,hT,l3,bp,r0,r1,c0,dQ,c1,p2,r2,r3,bL,cu,ck,cw,eF,iq,go_sem,simprocAttr]
 all_goals iterate 2 (try refine⟨.inl ⟨_,rfl⟩,?_⟩)
 all_goals try simp only[H5,aL,l1,hT,l3,bp,r0,r1,c0,dQ,c1,p1,p2,r2,r3,bL,cu,ck,cw,eF,iq,go_sem,simprocAttr]
 all_goals iterate 2 (try refine⟨.inl ⟨_,rfl⟩,?_⟩)
 all_goals try simp only[go_sem,simprocAttr]
 all_goals refine WL (λi=>i==4) [1,2,5,7,9,10,13,17,18] [(20,bp oth)] _ rfl rfl ?_ ?_
 all_goals first|(intro p hp;simp only[gh]at hp;subst hp;simp only[hap,htk2,hfz,eU,List.mapIdx_cons,List.mapIdx_nil,cu,cw,eF,aB,go_sem,simprocAttr];rw[hoth];first|exact ND|(simp only[bp,cj,bL,ck,ky,bC,eu];exact SU))|skip
 all_goals refine dB bI ?_
 all_goals simp only[eU,List.mapIdx_cons,List.mapIdx_nil,go_sem,simprocAttr]
 all_goals refine ae hwk rfl ?_
 all_goals simp only[go_sem,simprocAttr]
 all_goals refine dB bI ?_
 all_goals simp only[go_sem,simprocAttr]
 all_goals refine dB bI ?_
 all_goals simp only[bp,go_sem,simprocAttr]
 all_goals have hlt3:¬((B.batches.length:Int)<(B.batches.length:Int)):=by omega
 all_goals have hnl:=vA hok o
 all_goals have hd9:=sH hn0 (by omega:n<1000000000)
 all_goals have q4:(bs (gR B o)).size+(bs (be n)).size<=bG:=by simp[ao,bG];omega
 all_goals have z3:(bs (gR B o++be n)==bs (gR B o++be n))=true:=(gv _ _).2 rfl
 all_goals have z4:(bs (gR B o++be n) != bs (gR B o++be n))=false:=by rw[bne,z3];rfl
 all_goals refine aQ [1,2,5,7,9,10,13,17,18,20,21,22] o (by omega) (τ:=Unit) (λ_ _ _=>True) (λd _=>[(23,.p (.str (bs (gR B d)))),(24,.p (.int .i64 d.length))]) (λ_ _=>[.row 17 [.p s.pv],.row 6 [.p F.pv],.row 4 [.p (Said.pv (cZ (.pour nm)))],.row 6 [.p B.pv]]) () trivial ?_ ?_ ?_
 all_goals first
  |(intro d i r _ e2 _ hi hlt2 hnx2
    have hib:i<B.batches.length:=rj.1 (hperm.mem_iff.1 (by rw[e2];simp));obtain⟨w,hw⟩:∃w,B.batches[i]?=some w:=⟨_,dc hib⟩
    have hwn:w.name=bs (ij B.batches i):=by rw[ij,hw];exact(Fl _).symm
    have hib2:(i:Int)<(B.batches.length:Int):=by omega
    have c32:(⟨#[32]⟩:ByteArray)=bs [32]:=rfl;have hdl2:=congrArg List.length e2;rw[aB,cu]at hdl2;have hnl:=vA hok d;have hns2:=(hok.waits w (aG hw)).2.2;rw[hwn,ao]at hns2;have q1:(bs (gR B d)).size+(bs (ij B.batches i)).size<=bG:=by simp[ao,bG];omega
    have q2:(bs (gR B d++ij B.batches i)).size+(bs [32]).size<=bG:=by simp[ao,bG];omega
    have hsn2:gR B (d++[i])=gR B d++ij B.batches i++[32]:=by simp[gR]
    simp only[aL,hlt2,decide_true,hi,hw,hib2,hwn,Cl.lA,c32,dQ,q1,q2,Said.pv,cZ,go_sem,simprocAttr];refine ak (Inv:=λ_ _ _=>True) e2 () trivial ?_;simp only[hnx2,hsn2,go_sem,simprocAttr]
    rfl)
  |(simp only[cw,Said.pv,cZ,go_sem,simprocAttr];exact⟨rfl,rfl⟩)
  |skip
 all_goals intro _ _
 all_goals simp only[hlt3,hol,decide_false,go_sem,simprocAttr]
 all_goals refine dB bI ?_
 all_goals have lC:((0:Nat):Int)<((0+1:Nat):Int):=by decide
 all_goals have lD:∀m:Nat,((m+1:Nat):Int)<((m+1+1:Nat):Int):=λm=>by omega
 all_goals simp only[aL,hol2,hCl,hCy,lD,Said.pv,cZ,beq_self_eq_true,bne_self_eq_false,go_sem,simprocAttr]
 all_goals refine ax (Ah hn0 (by omega)) rfl ?_
 all_goals simp only[q4,dQ,z3,go_sem,simprocAttr]
 all_goals refine nZ bI ?_
 all_goals simp only[go_sem,simprocAttr]
 all_goals refine nZ bI ?_
 all_goals simp only[go_sem,simprocAttr]
 all_goals refine ak (Inv:=λ_ _ _=>True) e1 () trivial ?_
 all_goals simp only[cu,cw,iq,go_sem,simprocAttr]
 .exact hl1.symm
 .exact⟨hl1.symm,hnx⟩
end Ch
end Abs
end Go.Proofs.YtoapoaoelpcniaaGreatDoor
