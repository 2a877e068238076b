/- CONTRACTS of the program's functions, and laws on what they return. No conditions but those in the theorems' heads. -/
import Derived.Test.YtnjiadikeacfaaaGreatDoorHrUseX
import Derived.Lib.AtoiTie
set_option linter.all false
open Go.Proofs.Tryz renaming prog->TP
namespace Go.Proofs.YtnjiadikeacfaaaGreatDoor
namespace Abs
set_option maxRecDepth 4000
theorem Ix{P:Program}{H:Hints}{ops:Array Oper}{rest:List Oper}{Q:Cont}{o:Oper}{A:AAct}{f:FuncId}{args:List AV}{v:AV}{h':Heap}(hc:aB P f args A.h (λr h=>r=.ret v/\h=h'))
  (h1:@WD ⟨P,H,ops,rest,Q⟩ (A.put o.dst v h').h (A.put o.dst v h')):@M5 ⟨P,H,ops,rest,Q,o⟩ A (.call f args):=
 hc.mono λr h hr=>by
  obtain⟨rfl,rfl⟩:=hr;exact h1
def bC (n:Int):List UInt8:=Lib.decDigits n.toNat
theorem us:∀(k n:Nat),n<10^(k+1)->(Lib.decDigits n).length<=k+1
 |0,n,h=>by rw[Lib.decDigits,dif_pos (by simpa using h)];simp
 |k+1,n,h=>by
  rw[Lib.decDigits];split
  .simp
  .have:=us k (n / 10) (by rw[Nat.pow_succ]at h;omega);simp;omega
theorem kp{n:Int}(_:0<=n)(h1:n<=10000000):(bC n).length<=8:=us 7 _ (by omega)
theorem mr{n:Int}(h0:0<=n):zU n=bs (bC n):=by
 have:Lib.itoa n=bC n:=by rw[Lib.itoa,if_neg (by omega)];rfl
 rw[zU,this];rfl
def nJ:List UInt8:=[116,101,115,116,32]
def sp:List UInt8:=[32]
def nl:List UInt8:=[10]
def ka (nm:List UInt8) (e:Int):List UInt8:=nJ++nm++sp++bC e++nl
def hH (m:HrMark):List UInt8:=bC m.minute++sp++bC m.weight++nl
def dQ (s:HrShop) (t:HrTest):List UInt8:=ka (((s.kinds[t.kind.toNat]?).map λk=>k.name.data.toList).getD []) t.error++(t.marks.map hH).flatten
theorem zG{b:ByteArray}(h:nameOk b=true):b.size<=20:=by
 unfold nameOk at h;simp at h;omega
theorem ki(a b:ByteArray):gC a++gC b=gC (a++b):=by
 have:(a++b).data.toList=a.data.toList++b.data.toList:=by simp
 unfold gC;rw[this,ca]
theorem xA{h:Heap}{i:Nat}{s:ByteArray}(hi:h[i]?=some (.bld 109 5 (.p .nilslice)))(hs:s.size<=1000000)(h0:s.size≠0) :
  aB TP 45 [.ref .bl i,.p (.str s)] h (λr h'=>r=.ret (.p (.tuple [.int .i64 s.size,.niliface])) /\
   h'=(h++[AObj.row 1 (gC s)]).set i (.bld 109 5 (.slice h.length s.size 0 s.size))):=by
 have hil:=(ax.1 hi).1;refine Cu (x':=.slice h.length s.size 0 s.size) hi (by simp[ar];omega) (.inl rfl) ?_ (by rw[aZ hil];exact hi) (.inr ⟨_,_,rfl⟩);have hne:¬(List.map (λb:UInt8=>AV.p (PV.int .u8 (b.toNat:Int))) s.data.toList=[]):=λh=>h0 (by have:=congrArg List.length h;simpa using this);have hrm:s.size<=ar:=by simp[ar];omega
 have hl:s.data.size=s.size:=rfl;simp only[hne,hrm,BO,hl,gC,go_sem,simprocAttr];rw[if_neg (by simp)]
theorem nu{h:Heap}{i j n:Nat}{xs:List AV}{s:ByteArray}(hi:h[i]?=some (.bld 109 5 (.slice j n 0 n)))(hj:h[j]?=some (.row 1 xs))(hn:xs.length=n)(hij:i≠j)(hs:n+s.size<=1000000) :
  aB TP 45 [.ref .bl i,.p (.str s)] h (λr h'=>r=.ret (.p (.tuple [.int .i64 s.size,.niliface])) /\
   h'=(h.set j (.row 1 (xs++gC s))).set i (.bld 109 5 (.slice j (n+s.size) 0 (n+s.size)))):=by
 refine Cu (x':=.slice j (n+s.size) 0 (n+s.size)) hi (by simp[ar];omega) (.inr ⟨j,n,xs,rfl,hj,hn,by simp[ar];omega⟩) ?_ (by rw[dS hij.symm];exact hi) (.inr ⟨_,_,rfl⟩);have hrm:n+s.size<=ar:=by simp[ar];omega
 have hl:s.data.size=s.size:=rfl;simp only[hj,hn,hrm,BO,hl,gC,go_sem,simprocAttr];rw[if_neg (by simp)]
set_option maxHeartbeats 2000000 in
theorem PZ(s:HrShop)(t:HrTest)(hc:(hrCheck s).2.2=0)(ht:aO s.kinds.length t=0):af TP 42 [s.pv,t.pv] (.str (bs (dQ s t))):=by
 obtain⟨hok,k0,k1⟩:=eX ht;obtain⟨n,hn⟩:=pq k0;have hnl:n<s.kinds.length:=by omega
 obtain⟨k,hk⟩:∃k,s.kinds[n]?=some k:=⟨_,bA hnl⟩
 have hko:=mH hc (aT hk);have hks:=zG hko.name;obtain⟨nm,hnm⟩:∃nm,k.name=bs nm:=⟨_,(wb _).symm⟩
 have hsp:dQ s t=ka nm t.error++(t.marks.map hH).flatten:=by rw[dQ,hn,jO,hk,mM,kL,hnm,f']
 rw[hnm,aw]at hks;have hlt:(n:Int)<(s.kinds.length:Int):=by omega
 have he:=hok.err;have hel:=kp he.1 (by omega);have hit:=mr he.1;have l1:nJ.length=5:=rfl;have l2:sp.length=1:=rfl;have l3:nl.length=1:=rfl;have r1:(bs nJ).size+(bs nm).size<=cT:=by simp[aw,cT,l1];omega
 have r2:(bs (nJ++nm)).size+(bs sp).size<=cT:=by simp[aw,cT,l1,l2];omega
 have r3:(bs (nJ++nm++sp)).size+(bs (bC t.error)).size<=cT:=by simp[aw,cT,l1,l2];omega
 have r4:(bs (nJ++nm++sp++bC t.error)).size+(bs nl).size<=cT:=by simp[aw,cT,l1,l2,l3];omega
 have c1:(⟨#[116,101,115,116,32]⟩:ByteArray)=bs nJ:=rfl;have c2:(⟨#[32]⟩:ByteArray)=bs sp:=rfl;have c3:(⟨#[10]⟩:ByteArray)=bs nl:=rfl;have hA:nJ++nm++sp++bC t.error++nl=ka nm t.error:=rfl;have hAl:(ka nm t.error).length<=40:=by simp[ka,l1,l2,l3];omega
 have hA0:(ka nm t.error).length≠0:=by simp[ka,l1]
 generalize ka nm t.error=A at hsp hA hAl hA0;refine aa (eA (by kernel_rfl) rfl XY) rfl ?_;simp only[Wl,aV,hn,hlt,hk,hnm,c1,c2,c3,r1,r2,db,go_sem,simprocAttr];refine ay (xb t.error (by omega) (by omega)) rfl ?_;simp only[hit,r3,r4,db,hA,go_sem,simprocAttr];refine Ix (xA (s:=bs A) rfl (by rw[aw];omega) (by rw[aw];exact hA0)) ?_;simp only[aw,go_sem,simprocAttr]
 refine eO [5,24,25] (σ:=List HrMark×List HrMark×List UInt8×Heap)
  (λq=>t.marks=q.1++q.2.1/\dQ s t=q.2.2.1++(q.2.1.map hH).flatten/\q.2.2.1.length<=40+18*q.1.length/\q.2.2.1.length≠0) (λq=>q.2.1.length)
  (λq=>[(26,.p (.int .i64 q.1.length))])
  (λq=>[.row 3 [.p s.pv],.row 3 [.p t.pv],.bld 109 5 (.slice 3 q.2.2.1.length 0 q.2.2.1.length),.row 1 (gC (bs q.2.2.1))]++q.2.2.2) ([],t.marks,A,[]) ⟨rfl,hsp,hAl,hA0⟩ (by simp only[hn,bw,go_sem,simprocAttr]) ?_ ?_
 .simp only[go_sem,simprocAttr]
 rintro⟨done,rest,acc,g⟩ ⟨e1,e2,e3,e4⟩
 dsimp only at e1 e2 e3 e4
 cases rest with
 |nil=>
  have hlt2:¬((done.length:Int)<(t.marks.length:Int)):=by rw[e1];simp
  rw[bj,List.flatten_nil,bw]at e2;have hml:=hok.len;have hdl:=congrArg List.length e1;simp only[aK,cH]at hdl;simp only[hlt2,decide_false,go_sem,simprocAttr];have hsz:=aw acc;refine ct (uj (j:=3) (s:=bs acc) (by rw[hsz];rfl) rfl (by rw[hsz];exact e4) (by rw[hsz];omega)) ?_;simp only[go_sem,simprocAttr]
  rw[e2]
 |cons m rest=>
  obtain⟨hx,hltt⟩:=dZ e1;have hml:=hok.len;have hdl:=congrArg List.length e1;simp only[aK,cc]at hdl;have hnx:IntKind.i64.wrap ((done.length:Int)+1)=(((done++[m]).length:Nat):Int):=be (by omega) (by simp[ar];omega) (by simp);have hm:=hok.all m (by rw[e1];simp);have hd1:=kp hm.1 (by omega);have hd2:=kp hm.2.2.1 (by omega);have i1:=mr hm.1;have i2:=mr hm.2.2.1;have q1:(bs (bC m.minute)).size+(bs sp).size<=cT:=by simp[aw,cT,l2];omega
  have q2:(bs (bC m.minute++sp)).size+(bs (bC m.weight)).size<=cT:=by simp[aw,cT,l2];omega
  have q3:(bs (bC m.minute++sp++bC m.weight)).size+(bs nl).size<=cT:=by simp[aw,cT,l2,l3];omega
  have hB:bC m.minute++sp++bC m.weight++nl=hH m:=rfl;have hBl:(hH m).length<=18:=by simp[hH,l2,l3];omega
  rw[bD,DU]at e2;have g0:=kg (lo:=g) rfl;have s0:=lQ (lo:=g) rfl;simp only[hltt,decide_true,hx,g0,s0,aV,bw,go_sem,simprocAttr];refine ay (xb m.minute (by omega) (by omega)) rfl ?_;simp only[i1,q1,db,g0,bw,go_sem,simprocAttr];refine ay (xb m.weight (by omega) (by omega)) rfl ?_;simp only[i2,q2,q3,db,hB,bw,go_sem,simprocAttr];refine Ix (nu (s:=bs (hH m)) (j:=3) rfl rfl (by rw[j1,aw]) (by decide) (by rw[aw];omega)) ?_;simp only[aw,ki,db,go_sem,simprocAttr];refine br (done++[m],rest,acc++hH m,g++[.row 2 [.p m.pv]]) ⟨by rw[e1];simp,by rw[e2];simp,by show (acc++hH m).length<=40+18*(done++[m]).length;simp only[aK,bt];omega,by show (acc++hH m).length≠0;simp only[aK];omega⟩ (gh _) (by simp only[aK,go_sem,simprocAttr]) ?_;simp only[hnx,go_sem,simprocAttr]
def qm (s:HrShop) (t:HrTest):ByteArray×Int:=if bn s [t]=0 then(bs (dQ s t),0) else(⟨#[]⟩,bn s [t])
theorem Mo(s)(t):af TP 8 [s.pv,t.pv] (.tuple [.str (qm s t).1,.int .i64 (qm s t).2]):=by
 refine aa (ah Tryz.func8 rfl (by kernel_rfl)) rfl ?_;simp only[go_sem,simprocAttr];refine aY (kq s [t] true (by simp)) (by simp only[go_sem,simprocAttr]) (.int _ _) ?_;simp only[go_sem,simprocAttr];cases h0:(bn s [t] != 0)
 rotate_left
 .have h0':¬bn s [t]=0:=by simpa using h0
  simp only[qm,if_neg h0',go_sem,simprocAttr]
 have h0':bn s [t]=0:=by simpa using h0
 have hok:=wM h0';simp only[go_sem,simprocAttr];refine ae (PZ s t hok.1 hok.2) rfl ?_;simp only[qm,if_pos h0',go_sem,simprocAttr]
theorem JJ(l)(c)(h):aB TP 108 [.p (.str (bs l)),.p (.str (bs [c])),.p (.int .i64 0)] h
  (λr h'=>r=.ret (.func (.func 162) [] [.ptr (h.length+1) 1 0 0,.ptr h.length 1 0 0,.ptr (h.length+2) 1 0 0]) /\
   h'=h++[.row 1 [.p (.str (bs l))],.row 1 [.p (.str (bs [c]))],.row 1 [.p (.int .i64 0)]]):=by
 refine aA (ah Tryz.func108 rfl (by kernel_rfl)) rfl ?_;simp only[dq,aK,bt,go_sem,simprocAttr]
theorem L2(l)(c)(h):aB TP 83 [.p (.str (bs l)),.p (.str (bs [c]))] h
  (λr h'=>r=.ret (.func (.func 162) [] [.ptr (h.length+1) 1 0 0,.ptr h.length 1 0 0,.ptr (h.length+2) 1 0 0]) /\
   h'=h++[.row 1 [.p (.str (bs l))],.row 1 [.p (.str (bs [c]))],.row 1 [.p (.int .i64 0)]]):=by
 refine aA (ah Tryz.func83 rfl (by kernel_rfl)) rfl ?_;simp only[go_sem,simprocAttr];refine ct (JJ l c h) ?_;simp only[go_sem,simprocAttr]
def Iy (c:UInt8) (ns nsep nz:Nat) (x:List UInt8) (h:Heap):Prop:=
 h[ns]?=some (.row 1 [.p (.str (bs x))])/\h[nsep]?=some (.row 1 [.p (.str (bs [c]))])/\h[nz]?=some (.row 1 [.p (.int .i64 0)])
set_option maxHeartbeats 1000000 in
theorem TB(l)(c)(hl:l.length<1000000000)(id ns nsep nz)(h0)(Inv Inv':List (List UInt8)->List UInt8->Heap->Prop)(Pan:PV->Heap->Prop)
  (hrow:∀done x h,Inv done x h->Iy c ns nsep nz x h) (hrow':∀done x h,Inv' done x h->Iy c ns nsep nz x h)
  (hy:∀done x h,aQ c l=done++aQ c x->Inv done x h->sC TP id [.p (.str (bs (aH c x).1))] h (λr h'=>(r=.ret (.p (.bool true))/\Inv' (done++[(aH c x).1]) x h')\/∃v,r=.panic v/\Pan v h'))
  (hstep:∀done x y h,Inv' done x h->(aH c x).2=some y->Inv done y (h.set ns (.row 1 [.p (.str (bs y))]))) (hi:Inv [] l h0) :
  aB TP 162 [.ref .yl id,.ptr nsep 1 0 0,.ptr ns 1 0 0,.ptr nz 1 0 0] h0
   (λr h'=>(r=.ret (.p (.tuple []))/\∃x,(aH c x).2=none/\Inv' (aQ c l) x h')\/∃v,r=.panic v/\Pan v h'):=by
 refine aA (ah Tryz.func162 rfl (by kernel_rfl)) rfl ?_;obtain⟨r1,r2,r3⟩:=hrow _ _ _ hi;have hz:(((bs [c]).size:Int)==0)=false:=rfl;simp only[r2,hz,go_sem,simprocAttr]
 refine eO [0,1,2,3] (σ:=List (List UInt8)×List UInt8×Heap)
  (λq=>aQ c l=q.1++aQ c q.2.1/\Inv q.1 q.2.1 q.2.2/\q.2.1.length<1000000000) (λq=>q.2.1.length)
  (λ_=>[]) (λq=>q.2.2) ([],l,h0) ⟨rfl,hi,hl⟩ rfl ?_ ?_
 .simp only[go_sem,simprocAttr]
 clear r1 r2 r3
 rintro⟨done,x,h⟩ ⟨e1,e2,e3⟩
 dsimp only at e1 e2 e3;obtain⟨r1,r2,r3⟩:=hrow _ _ _ e2;have hyy:=hy done x h e1 e2;simp only[r1,r2,go_sem,simprocAttr];refine ae (FC (bs x) c) rfl ?_;rw[f'];rcases lr c x with⟨h1,h2,h3⟩|⟨r,h1,h2,h3⟩
 .simp only[h3,r1,go_sem,simprocAttr];have hall:aQ c l=done++[x]:=by rw[e1,lI h1]
  rw[h2]at hyy;refine pm hyy (λv h' hr=>?_) (λv h' hr=>?_)
  .rcases hr with⟨hr,hI⟩|⟨v',hr,_⟩
   .cases hr;simp only[go_sem,simprocAttr];refine .inl ?_;rw[hall];exact⟨x,h1,hI⟩
   .cases hr
  .rcases hr with⟨hr,_⟩|⟨v',hr,hP⟩
   .cases hr
   .cases hr;simp only[go_sem,simprocAttr];exact⟨_,rfl,hP⟩
 .have hlen3:=congrArg List.length h3;simp only[aK,cc]at hlen3;have q1:decide (((aH c x).1.length:Int)<0)=false:=by simp
  have q2:IntKind.i64.wrap (((aH c x).1.length:Int)+0)=(((aH c x).1.length:Nat):Int):=by rw[uR];exact am (by omega) (by omega)
  have q3:(((aH c x).1.length:Int)<=((bs x).size:Int)):=by rw[aw];omega
  have q4:(bs x).extract 0 (aH c x).1.length=bs (aH c x).1:=by
   rw[fb,oq]
   congr 1
   have:=congrArg (List.take (aH c x).1.length) h3;rw[jL]at this
   .exact this
   .rfl
  have q5:IntKind.i64.wrap (((aH c x).1.length:Int)+(((bs [c]).size:Nat):Int))=(((aH c x).1.length+1:Nat):Int):=by
   rw[aw];exact be (by omega) (by simp[ar];omega) (by simp)
  have q6:((((aH c x).1.length+1:Nat):Int)<=((bs x).size:Int)):=by rw[aw];omega
  have q7:(bs x).extract ((aH c x).1.length+1) (bs x).size=bs r:=by
   rw[fb,aw,te]
   congr 1
   have:=congrArg (List.drop ((aH c x).1.length+1)) h3;rw[this];simp
  simp only[h2,q1,r1,r3,q2,q3,q4,go_sem,simprocAttr];refine pm hyy (λv h' hr=>?_) (λv h' hr=>?_);rotate_left
  .rcases hr with⟨hr,_⟩|⟨v',hr,hP⟩
   .cases hr
   .cases hr;simp only[go_sem,simprocAttr];exact⟨_,rfl,hP⟩
  rcases hr with⟨hr,hI⟩|⟨v',hr,_⟩
  rotate_left
  .cases hr
  cases hr;obtain⟨s1,s2,s3⟩:=hrow' _ _ _ hI;simp only[s1,s2,q5,q6,q7,go_sem,simprocAttr];refine br (done++[(aH c x).1],r,h'.set ns (.row 1 [.p (.str (bs r))])) ⟨by rw[e1,lH h1];simp,hstep _ _ _ _ hI h1,by show r.length<1000000000;omega⟩ (by show r.length<x.length;omega) rfl ?_;simp only[go_sem,simprocAttr]
theorem Bm(a b):∀acc,Lib.decFrom acc (a++b)=(Lib.decFrom acc a).bind λx=>Lib.decFrom x b:=by
 induction a with
 |nil=>intro acc;rfl
 |cons x r ih=>
  intro acc;rw[eW,Lib.decFrom,Lib.decFrom]
  cases Lib.digitVal x with
  |none=>rfl
  |some d=>exact ih _
theorem CC{d}(h:d<10):Lib.digitVal (UInt8.ofNat (48+d))=some d:=by
 have e:(UInt8.ofNat (48+d)).toNat=48+d:=by simp;omega
 rw[Lib.digitVal,e,if_pos (by omega)]
 congr 1;omega
theorem xI(n):Lib.decFrom 0 (Lib.decDigits n)=some n:=by
 induction n using Nat.strongRecOn with
 |ind n ih=>
  rw[Lib.decDigits];split
  .rename_i h;simp only[Lib.decFrom,CC h,IK,d5]
  .rename_i h;rw[Bm,ih (n / 10) (by omega)];simp only[ti,Lib.decFrom,CC (tf n (by omega:0<10))]
   congr 1;omega
theorem qa(n):∀b,b∈Lib.decDigits n->48<=b.toNat/\b.toNat<=57:=by
 induction n using Nat.strongRecOn with
 |ind n ih=>
  intro b hb;rw[Lib.decDigits]at hb;split at hb
  .rename_i h;rw[dA]at hb;subst hb;have e:(UInt8.ofNat (48+n)).toNat=48+n:=by simp;omega
   omega
  .rename_i h;rw[b7,dA]at hb;rcases hb with hb|rfl
   .exact ih (n / 10) (by omega) b hb
   .have e:(UInt8.ofNat (48+n%10)).toNat=48+n%10:=by simp;omega
    omega
theorem q9(n):Lib.decDigits n≠[]:=by rw[Lib.decDigits];split<;>simp
def jk (l:List UInt8):Option Int:=match Lib.atoiAll l with|.ok v=>some v|_=>none
theorem yt{n}(h0:0<=n)(h1:n<=10000000):jk (bC n)=some n:=by
 obtain⟨m,rfl⟩:=pq h0;have hl:=kp h0 h1;have hat:Lib.atoi (bC (m:Int))=some (m:Int):=by
  unfold bC;rw[jO];have hd:=qa m;have hf:=xI m
  cases hc:Lib.decDigits m with
  |nil=>exact absurd hc (q9 m)
  |cons b r=>
   rw[hc]at hd hf;have hb:=hd b (by simp);have b1:(b==45)=false:=by
    rw[beq_eq_false_iff_ne];rintro rfl;simp at hb
   have b2:(b==43)=false:=by
    rw[beq_eq_false_iff_ne];rintro rfl;simp at hb
   simp only[Lib.atoi,b1,b2,d4,if_false,Lib.decNat,List.isEmpty_cons,hf,mM]
 rw[jk,Lib.atoiAll_short _ (by omega),hat];rfl
def gP:PV:=.iface 44 (.int .i64 6)
theorem TF(b)(h):aB TP 79 [.p (.bool b)] h (λr h'=>h'=h/\r=if b=true then .ret (.p (.tuple [])) else .panic gP):=by
 refine aA (ah Tryz.func79 rfl (by kernel_rfl)) rfl ?_;simp only[go_sem,simprocAttr];cases b
 .simp only[gP,go_sem,simprocAttr]
 .simp only[go_sem,simprocAttr]
theorem oh{H}{Q}{ops}{rest}{dst}{A}{b}(h1:b=true->@WO ⟨TP,H,ops,rest,Q⟩ (A.put dst (.p (.tuple [])) A.h))
  (h2:b=false->@WQ ⟨Q⟩ (.panic gP) A):@WF ⟨TP,H,ops,rest,Q,dst⟩ A 79 [.p (.bool b)]:=by
 refine cp (TF b A.h) (λv h hr=>?_) (λv h hr=>?_)
 .obtain⟨rfl,hr⟩:=hr;cases b
  .cases hr
  .cases hr;exact h1 rfl
 .obtain⟨rfl,hr⟩:=hr;cases b
  .cases hr;exact h2 rfl
  .cases hr
theorem Ui:af TP 79 [.bool true] (.tuple []):=by
 refine aa (ah Tryz.func79 rfl (by kernel_rfl)) rfl ?_;simp only[go_sem,simprocAttr]
theorem sV{l}{n}(hl:l.length<=1000000)(h:jk l=some n):af TP 82 [.str (bs l)] (.int .i64 n):=by
 refine aa (ah Tryz.func82 rfl (by kernel_rfl)) rfl ?_;have hp:kl (bs l)=.tuple [.int .i64 n,.niliface]:=by
  unfold jk at h;rw[kl,f'];cases ha:Lib.atoiAll l<;>rw[ha]at h<;>first|cases h;done|skip
  cases h;rfl
 simp only[go_sem,simprocAttr];refine ae (DH (bs l) (by rw[aw];omega)) rfl ?_;simp only[hp,go_sem,simprocAttr];refine ae Ui rfl ?_;simp only[go_sem,simprocAttr]
theorem nv{l}(hl:l.length<=1000000)(h:jk l=none)(hp):aB TP 82 [.p (.str (bs l))] hp (λr h'=>r=.panic gP/\h'=hp):=by
 refine aA (ah Tryz.func82 rfl (by kernel_rfl)) rfl ?_;have hx:∃v,kl (bs l)=.tuple [.int .i64 v,.iface 289 .any]:=by
  unfold jk at h;rw[kl,f'];cases ha:Lib.atoiAll l<;>rw[ha]at h<;>first|cases h;done|exact⟨_,rfl⟩
 obtain⟨v,hx⟩:=hx;simp only[go_sem,simprocAttr];refine ae (DH (bs l) (by rw[aw];omega)) rfl ?_;simp only[hx,go_sem,simprocAttr];refine oh (λh=>by cases h) (λ_=>?_);simp only[go_sem,simprocAttr]
theorem ol{P}{H}{ops}{rest}{Q}{o}{hs}{A}{f}{args}{pargs}{v}(hc:af P f pargs v)(ha:args=pargs.map .p)
  (h:@WD ⟨P,H,ops,rest,Q⟩ hs (A.put o.dst (.p v) A.h)):@MZ ⟨P,H,ops,rest,Q,o⟩ hs A (.call f args):=by
 subst ha;exact .inl ⟨.p v,λ_ _=>p8 hc,h⟩
theorem r8{P}{H}{ops}{rest}{Q}{o}{hs}{A}{f}{args}{v}(hc:aB P f args A.h (λr h'=>r=.panic v/\h'=A.h))
  (h:∀T,@WQ ⟨Q⟩ (.panic v) { A with tmps:=T }):@MZ ⟨P,H,ops,rest,Q,o⟩ hs A (.call f args):=.inr ⟨v,hc,h⟩
def dv (p:List UInt8):Option HrMark:=
 match (aH 32 p).2 with
 |none=>none
 |some b=>match jk (aH 32 p).1 with
  |none=>none
  |some m=>match jk b with
   |none=>none
   |some w=>some ⟨m,w⟩
def ea:List HrMark->List (List UInt8)->Option (List HrMark)
 |acc,[]=>some acc
 |acc,p::r=>match dv p with
  |none=>none
  |some m=>ea (acc++[m]) r
def oK (all:List UInt8):List (List UInt8):=aQ 32 (aH 10 all).1
def tL (all:List UInt8):List UInt8:=ov 10 ((aH 10 all).2.getD [])
def ql (l:List HrKind) (nm:ByteArray):Int:=az (λk=>k.name==nm) l 0
def nd (s:HrShop) (all:List UInt8):Option HrTest:=
 match oK all with
 |[_,w1,w2]=>match jk w2 with
  |none=>none
  |some e=>(ea [] (aQ 10 (tL all))).map λms=>⟨ql s.kinds (bs w1),e,ms⟩
 |_=>none
def dc:HrTest:=⟨0,0,[]⟩
def ma (s:HrShop) (all:List UInt8) (t:HrTest):Bool:=(aO s.kinds.length t==0)&&(dQ s t==all)
def aM (s:HrShop) (all:List UInt8):HrTest×Int:=
 if bn s []=0 then
  if 300<all.length then(dc,3)
  else match nd s all with
   |none=>(dc,6)
   |some t=>if ma s all t=true then(t,0) else(dc,6)
 else(dc,bn s [])
theorem pz:∀(a) (acc) (b),ea acc (a++b)=(ea acc a).bind λms=>ea ms b
 |[],_,_=>rfl
 |p::r,acc,b=>by
  rw[eW,ea,ea]
  cases dv p with
  |none=>rfl
  |some m=>exact pz r _ b
theorem pU:∀(a) (acc ms),ea acc a=some ms->ms.length=acc.length+a.length
 |[],_,_,h=>by cases h;rfl
 |p::r,acc,ms,h=>by
  rw[ea]at h
  cases hm:dv p with
  |none=>rw[hm]at h;cases h
  |some m=>
   rw[hm]at h;have:=pU r _ _ h;simp at this |-;omega
theorem BW(c):∀(l p),p∈aQ c l->p.length<=l.length:=by
 intro l;generalize hn:l.length=n
 induction n using Nat.strongRecOn generalizing l with
 |ind n ih=>
  intro p hp
  cases hc:(aH c l).2 with
  |none=>
   rw[lI hc,dA]at hp
   subst hp;omega
  |some r=>
   rw[lH hc,ce]at hp;have hr:=ut c l r hc;rcases hp with rfl|hp
   .rcases lr c l with⟨h,_⟩|⟨_,_,_,h⟩
    .rw[h]at hc;cases hc
    .have:=congrArg List.length h;simp at this;omega
   .have:=ih r.length (by omega) r rfl p hp;omega
theorem KJ(c)(l):(ov c l).length<=l.length:=by
 unfold ov;split
 .simp
 .exact bi _
theorem rd(c)(l):((aH c l).2.getD []).length<=l.length:=by
 cases hc:(aH c l).2 with
 |none=>simp
 |some r=>have:=ut c l r hc;simp;omega
theorem pH(c)(l):(aH c l).1.length<=l.length:=by
 rcases lr c l with⟨_,h,_⟩|⟨r,_,_,h⟩
 .rw[h];exact bi _
 .have:=congrArg List.length h;simp at this;omega
def l7:PV:=.agg [.int .i64 0,.int .i64 0,.nilslice]
theorem T4{i j}{a b c}{e0}{h}(hi:h[i]?=some (.row 3 [.p (.agg [a,b,c])]))(hj:h[j]?=some (.row 1 [.p (.int .i64 e0)]))(hij:i≠j) :
  ju TP 76 [.ptr i 1 0 0,.ptr j 1 0 0] (.pan gP) h
  (λr u h'=>r=.ret (.p (.tuple []))/\u=.recd gP/\h'=(h.set i (.row 3 [.p l7])).set j (.row 1 [.p (.int .i64 6)])):=by
 refine fF (eA (by kernel_rfl) rfl N1) rfl ?_;have hil:=(ax.1 hi).1;have gd:∀x,(h.set i x)[i]?=some x:=λx=>iJ hil;have gj:∀x,(h.set i x)[j]?=some (.row 1 [.p (.int .i64 e0)]):=λx=>by rw[dS hij];exact hj
 simp only[mZ,iv,hi,gP,gd,gj,UR,aV,l7,bw,go_sem,simprocAttr]
theorem sk{rs}{R}{T}{i j}{a b c}{e0}{h}(hi:h[i]?=some (.row 3 [.p (.agg [a,b,c])]))(hj:h[j]?=some (.row 1 [.p (.int .i64 e0)]))(hij:i≠j)
  (k:cg TP rs R T [] .ret ((h.set i (.row 3 [.p l7])).set j (.row 1 [.p (.int .i64 6)]))) :
  cg TP rs R T [.fn 76 [.ptr i 1 0 0,.ptr j 1 0 0]] (.pan gP) h:=by
 rw[jY];refine(T4 hi hj hij).mono λr u h' hr=>?_;obtain⟨rfl,rfl,rfl⟩:=hr;exact k
theorem T5{i j}{a b}{q n}{e0}{h}(hi:h[i]?=some (.row 3 [.agg [.p a,.p b,.slice q n 0 n]]))(hj:h[j]?=some (.row 1 [.p (.int .i64 e0)]))(hij:i≠j) :
  ju TP 76 [.ptr i 1 0 0,.ptr j 1 0 0] (.pan gP) h
  (λr u h'=>r=.ret (.p (.tuple []))/\u=.recd gP/\h'=(h.set i (.row 3 [.p l7])).set j (.row 1 [.p (.int .i64 6)])):=by
 refine fF (eA (by kernel_rfl) rfl N1) rfl ?_;have hil:=(ax.1 hi).1;have gd:∀x,(h.set i x)[i]?=some x:=λx=>iJ hil;have gj:∀x,(h.set i x)[j]?=some (.row 1 [.p (.int .i64 e0)]):=λx=>by rw[dS hij];exact hj
 simp only[mZ,iv,hi,gP,gd,gj,UR,aV,l7,bw,go_sem,simprocAttr]
theorem sm{rs}{R}{T}{i j}{a b}{q n}{e0}{h}(hi:h[i]?=some (.row 3 [.agg [.p a,.p b,.slice q n 0 n]]))(hj:h[j]?=some (.row 1 [.p (.int .i64 e0)]))(hij:i≠j)
  (k:cg TP rs R T [] .ret ((h.set i (.row 3 [.p l7])).set j (.row 1 [.p (.int .i64 6)]))) :
  cg TP rs R T [.fn 76 [.ptr i 1 0 0,.ptr j 1 0 0]] (.pan gP) h:=by
 rw[jY];refine(T5 hi hj hij).mono λr u h' hr=>?_;obtain⟨rfl,rfl,rfl⟩:=hr;exact k
theorem Rf{i j}{h}:ju TP 76 [.ptr i 1 0 0,.ptr j 1 0 0] .ret h (λr u h'=>r=.ret (.p (.tuple []))/\u=.ret/\h'=h):=by
 refine fF (eA (by kernel_rfl) rfl N1) rfl ?_;simp only[mZ,iv,go_sem,simprocAttr]
theorem EW{rs}{R}{T}{i j}{h}(k:cg TP rs R T [] .ret h):cg TP rs R T [.fn 76 [.ptr i 1 0 0,.ptr j 1 0 0]] .ret h:=by
 rw[jY];refine Rf.mono λr u h' hr=>?_;obtain⟨rfl,rfl,rfl⟩:=hr;exact k
theorem VY(k:HrKind)(w0 w1 w2):af TP 81 [k.pv,.ptr 1 [bM [w0,w1,w2]] 0 0] (.bool (k.name==bs w1)):=by
 refine aa (ah Tryz.func81 rfl (by kernel_rfl)) rfl ?_;simp only[bM,bD,go_sem,simprocAttr]
def dn (t:HrTest):PV:=.agg [.int .i64 t.kind,.int .i64 t.error,match t.marks with|[]=>.nilslice|m::ms=>.slice 2 ((m::ms).map HrMark.pv) false]
def ya (k e:Int) (ms:List HrMark):AObj:=match ms with|[]=>.row 3 [.p (.agg [.int .i64 k,.int .i64 e,.nilslice])]|m::r=>.row 3 [.agg [.p (.int .i64 k),.p (.int .i64 e),.slice 9 (m::r).length 0 (m::r).length]]
def t7 (ms:List HrMark):Heap:=match ms with|[]=>[]|m::r=>[.row 2 ((m::r).map d7)]
def j8 (s:HrShop) (ws:List (List UInt8)) (k e:Int) (d o:AObj) (x:List UInt8) (ms:List HrMark):Heap:=
 [.row 3 [.p s.pv],ya k e ms,.row 1 [.p (.int .i64 0)],.row 1 [.p (bM ws)],.row 1 [.p (.str (bs x))],.row 1 [.p (.str (bs [10]))],.row 1 [.p (.int .i64 0)],d,o]++t7 ms
set_option maxHeartbeats 4000000 in
theorem Im(s)(all):af TP 28 [s.pv,.str (bs all)] (.tuple [dn (aM s all).1,.int .i64 (aM s all).2]):=by
 refine dd (eA (by kernel_rfl) rfl X1) rfl ?_;simp only[go_sem,simprocAttr];refine ae (af.argless (args':=[s.pv,.nilslice]) (kq s [] false (by simp)) ⟨.inl rfl,.inr ⟨rfl,3,rfl⟩,trivial⟩) rfl ?_;simp only[go_sem,simprocAttr];have hop:bn s []=(hrCheck s).2.2:=by
  unfold bn;split
  .rename_i h;rw[h];rfl
  .rfl
 cases h0:(bn s [] != 0)
 rotate_left
 .have h0':¬bn s []=0:=by simpa using h0
  have hsp:aM s all=(dc,bn s []):=by rw[aM,if_neg h0']
  rw[hsp];simp only[CY,aV,dn,dc,go_sem,simprocAttr]
 have h0':bn s []=0:=by simpa using h0
 have hck:(hrCheck s).2.2=0:=by rw[<-hop,h0']
 have hkk:=gU hck;have hsz:((bs all).size:Int)=(all.length:Int):=by rw[aw]
 simp only[hsz,go_sem,simprocAttr];cases h3:decide ((300:Int)<(all.length:Int));rotate_left
 .have h3':300<all.length:=by simp at h3;omega
  have hsp:aM s all=(dc,3):=by rw[aM,if_pos h0',if_pos h3']
  rw[hsp];simp only[dn,dc,h0',go_sem,simprocAttr]
 have h3':¬300<all.length:=by simp at h3;omega
 have hsp:aM s all=(match nd s all with|none=>(dc,6)|some t=>if ma s all t=true then(t,0) else(dc,6)):=by rw[aM,if_pos h0',if_neg h3']
 rw[hsp];have c10:(⟨#[10]⟩:ByteArray)=bs [10]:=rfl;have c32:(⟨#[32]⟩:ByteArray)=bs [32]:=rfl;simp only[c10,h0',go_sem,simprocAttr];refine ae (sU all 10 (by omega)) rfl ?_;simp only[c32,go_sem,simprocAttr];have hcl:=pH 10 all;refine ae (CE (aH 10 all).1 32 (by omega)) rfl ?_;have hws:aQ 32 (aH 10 all).1=oK all:=rfl;rw[hws];simp only[bM,go_sem,simprocAttr];refine oh (λhb=>?_) (λhb=>?_);rotate_left
 .have hpn:nd s all=none:=by
   unfold nd;split
   .rename_i w0 w1 w2 hw;rw[hw]at hb;cases hb
   .rfl
  rw[hpn];simp only[go_sem,simprocAttr];refine sk rfl rfl (by decide) ?_;simp only[l7,dn,dc,go_sem,simprocAttr]
 obtain⟨w0,w1,w2,hw⟩:∃w0 w1 w2,oK all=[w0,w1,w2]:=by
  have hl0:((oK all).length:Int)=3:=by simpa using hb
  have hl:(oK all).length=3:=by omega
  match h:oK all,hl with
  |[a,b,c],_=>exact⟨a,b,c,rfl⟩
 have hpar:nd s all=(match jk w2 with|none=>none|some e=>(ea [] (aQ 10 (tL all))).map λms=>⟨ql s.kinds (bs w1),e,ms⟩):=by
  rw[nd,hw]
 rw[hpar,hw];simp only[bD,bj,go_sem,simprocAttr];refine aY (oH (fv:=.func (.func 81) [] [.ptr 1 [bM [w0,w1,w2]] 0 0]) s.kinds (λk=>k.name==bs w1) false 4 rfl (by omega) λk _=>⟨_,_,_,rfl,VY k w0 w1 w2⟩) ?_ (.int _ _) ?_
 .simp only[bM,bD,bj,go_sem,simprocAttr]
 have hix:az (λk=>k.name==bs w1) s.kinds 0=ql s.kinds (bs w1):=rfl;rw[hix];have hwl:w2.length<=all.length:=iN (BW 32 (aH 10 all).1 w2 (by rw[hws,hw];simp)) hcl;simp only[go_sem,simprocAttr]
 cases hnu:jk w2 with
 |none=>
  refine cp (nv (by omega) hnu _) (λv h hr=>by cases hr.1) (λv h hr=>?_);obtain⟨hr,rfl⟩:=hr;cases hr;simp only[go_sem,simprocAttr];refine sk rfl rfl (by decide) ?_
  simp only[l7,dn,dc,go_sem,simprocAttr]
 |some e=>
  refine ae (sV (by omega) hnu) rfl ?_;simp only[c10,go_sem,simprocAttr];refine ae (G2 ((aH 10 all).2.getD []) 10 (by have:=rd 10 all;omega)) rfl ?_;have hrs:ov 10 ((aH 10 all).2.getD [])=tL all:=rfl;rw[hrs];have hrl:(tL all).length<=300:=by
   have h1:=rd 10 all;have h2:=KJ 10 ((aH 10 all).2.getD []);rw[hrs]at h2;omega
  generalize ql s.kinds (bs w1)=kd;generalize tL all=rest at hrl;simp only[c10,go_sem,simprocAttr];refine ct (L2 rest 10 _) ?_;simp only[go_sem,simprocAttr];have hT1:∀x ms o,(j8 s [w0,w1,w2] kd e .dblock o x ms)[8]?=some o:=λx ms o=>by cases ms<;>rfl
  refine F6 (f:=162) (args:=[.ref .yl 8,.ptr 5 1 0 0,.ptr 4 1 0 0,.ptr 6 1 0 0])
   (R:=λr h=>(r=.ret (.p (.tuple []))/\∃x ms o,ea [] (aQ 10 rest)=some ms/\h=j8 s [w0,w1,w2] kd e .dblock o x ms)\/∃v,r=.panic v/\v=gP/\ea [] (aQ 10 rest)=none/\∃x ms o,h=j8 s [w0,w1,w2] kd e .dblock o x ms)
   rfl (by simp only[go_sem,simprocAttr]) dC (by kernel_rfl) (by kernel_rfl) (by kernel_rfl) (λoR oB oD hround=>?_) (λv h hr=>?_)
  rotate_left
  .rcases hr with⟨hr,_⟩|⟨v',hr,rfl,hnone,x,ms,o,rfl⟩
   .cases hr
   cases hr;rw[hnone]
   cases ms with
   |nil=>
    simp only[j8,ya,t7,bZ,go_sem,simprocAttr];refine sk rfl rfl (by decide) ?_
    simp only[l7,dn,dc,go_sem,simprocAttr]
   |cons m ms=>
    simp only[j8,ya,t7,bZ,go_sem,simprocAttr];refine sm rfl rfl (by decide) ?_;simp only[l7,dn,dc,go_sem,simprocAttr]
  refine(TB rest 10 (by omega) 8 4 5 6 _ (λdone x h=>∃ms,ea [] done=some ms/\h=j8 s [w0,w1,w2] kd e .dblock oR x ms) (λdone x h=>∃ms,ea [] done=some ms/\h=j8 s [w0,w1,w2] kd e .dblock oR x ms)
   (λv h=>v=gP/\ea [] (aQ 10 rest)=none/\∃x ms o,h=j8 s [w0,w1,w2] kd e .dblock o x ms) ?_ ?_ ?_ ?_ ?_).mono ?_
  .rintro done x h ⟨ms,_,rfl⟩
   cases ms<;>exact⟨rfl,rfl,rfl⟩
  .rintro done x h ⟨ms,_,rfl⟩
   cases ms<;>exact⟨rfl,rfl,rfl⟩
  .rintro done x h hsp ⟨ms,hms,rfl⟩
   have hpl:(aH 10 x).1.length<=300:=by
    have:=BW 10 rest (aH 10 x).1 (by rw[hsp,b7,lk];exact .inr (by simp));omega
   obtain⟨more,hmore⟩:∃more,aQ 10 x=(aH 10 x).1::more:=⟨_,lk 10 x⟩
   rw[hmore]at hsp;generalize (aH 10 x).1=p at hpl hmore hsp;have hrows:ea [] (aQ 10 rest)=(match dv p with|none=>none|some m=>ea (ms++[m]) more):=by
    rw[hsp,pz,hms,ti,ea]
   have hnext:∀m,dv p=some m->ea [] (done++[p])=some (ms++[m]):=λm hm=>by
    rw[pz,hms,ti,ea,hm];rfl
   have hc1:=pH 32 p;have hc2:=rd 32 p;refine hround _ _ _ rfl (hT1 _ _ _) ?_;clear hround;have hml:ms.length<=301:=by
    have h1:=pU _ _ _ hms;have h2:=rI 10 rest;have h3:=congrArg List.length hsp;simp at h1 h3;omega
   cases ms with
   |nil=>
    have hrm:(1:Nat)<=ar:=by simp[ar]
    simp only[j8,ya,t7,c32,go_sem,simprocAttr];refine ae (sU p 32 (by omega)) rfl ?_;simp only[go_sem,simprocAttr];refine oh (λhb=>?_) (λhb=>?_);rotate_left
    .have hmr:dv p=none:=by
      unfold dv
      cases hq:(aH 32 p).2 with
      |none=>rfl
      |some b=>rw[hq]at hb;cases hb
     rw[hmr]at hrows;simp only[go_sem,simprocAttr];exact⟨rfl,_,rfl,rfl,hrows,x,[],oB,rfl⟩
    obtain⟨b,hb'⟩:=jv.1 hb;rw[hb',kL]at hc2 |-;simp only[CY,aV,go_sem,simprocAttr]
    cases hn1:jk (aH 32 p).1 with
    |none=>
     have hmr:dv p=none:=by simp only[dv,hb',hn1]
     rw[hmr]at hrows;refine r8 (nv (by omega) hn1 _) λT=>?_;simp only[go_sem,simprocAttr]
     exact⟨rfl,_,rfl,rfl,hrows,x,[],oB,rfl⟩
    |some a=>
     refine ol (sV (by omega) hn1) rfl ?_;simp only[CY,go_sem,simprocAttr]
     cases hn2:jk b with
     |none=>
      have hmr:dv p=none:=by simp only[dv,hb',hn1,hn2]
      rw[hmr]at hrows;refine r8 (nv (by omega) hn2 _) λT=>?_;simp only[go_sem,simprocAttr]
      exact⟨rfl,_,rfl,rfl,hrows,x,[],oB,rfl⟩
     |some w=>
      have hmr:dv p=some ⟨a,w⟩:=by simp only[dv,hb',hn1,hn2]
      have hnx:=hnext _ hmr;refine ol (sV (by omega) hn2) rfl ?_;simp only[CY,hrm,bt,go_sem,simprocAttr]
      exact⟨rfl,.inl ⟨_,hnx,rfl⟩⟩
   |cons m0 ms=>
    simp only[cc]at hml;have hrm:ms.length+1+1<=ar:=by simp[ar];omega
    simp only[j8,ya,t7,c32,go_sem,simprocAttr];refine ae (sU p 32 (by omega)) rfl ?_;simp only[go_sem,simprocAttr];refine oh (λhb=>?_) (λhb=>?_);rotate_left
    .have hmr:dv p=none:=by
      unfold dv
      cases hq:(aH 32 p).2 with
      |none=>rfl
      |some b=>rw[hq]at hb;cases hb
     rw[hmr]at hrows;simp only[go_sem,simprocAttr];exact⟨rfl,_,rfl,rfl,hrows,x,m0::ms,oB,rfl⟩
    obtain⟨b,hb'⟩:=jv.1 hb;rw[hb',kL]at hc2 |-;simp only[CY,aV,go_sem,simprocAttr]
    cases hn1:jk (aH 32 p).1 with
    |none=>
     have hmr:dv p=none:=by simp only[dv,hb',hn1]
     rw[hmr]at hrows;refine r8 (nv (by omega) hn1 _) λT=>?_;simp only[go_sem,simprocAttr]
     exact⟨rfl,_,rfl,rfl,hrows,x,m0::ms,oB,rfl⟩
    |some a=>
     refine ol (sV (by omega) hn1) rfl ?_;simp only[CY,go_sem,simprocAttr]
     cases hn2:jk b with
     |none=>
      have hmr:dv p=none:=by simp only[dv,hb',hn1,hn2]
      rw[hmr]at hrows;refine r8 (nv (by omega) hn2 _) λT=>?_;simp only[go_sem,simprocAttr]
      exact⟨rfl,_,rfl,rfl,hrows,x,m0::ms,oB,rfl⟩
     |some w=>
      have hmr:dv p=some ⟨a,w⟩:=by simp only[dv,hb',hn1,hn2]
      have hnx:=hnext _ hmr;refine ol (sV (by omega) hn2) rfl ?_;simp only[CY,hrm,bt,go_sem,simprocAttr];refine⟨rfl,.inl ⟨_,hnx,?_⟩⟩;simp[j8,ya,t7,HrMark.pv,d7,HrShop.pv]
  .rintro done x y h ⟨ms,hms,rfl⟩ hc
   refine⟨ms,hms,?_⟩;cases ms<;>rfl
  .exact⟨[],rfl,rfl⟩
  .rintro r h (⟨rfl,x,hx,ms,hms,rfl⟩|⟨v,rfl,rfl,hnone,hh⟩)
   rotate_left
   .exact⟨.inr ⟨_,rfl,rfl,hnone,hh⟩,λv hv=>by cases hv⟩
   refine⟨.inl ⟨rfl,x,ms,oR,hms,rfl⟩,λv hv=>.inl ⟨hT1 _ _ _,?_⟩⟩;rw[hms];clear hround;have hml:ms.length<=301:=by
    have h1:=pU _ _ _ hms;have h2:=rI 10 rest;simp at h1;omega
   have hne:ms≠[]:=by
    rintro rfl
    have h1:=pU _ _ _ hms;have h2:=lj 10 rest;simp at h1;omega
   cases ms with
   |nil=>exact absurd rfl hne
   |cons m0 ms=>
   have hfz:∀n h,aS (ci n h) (ms.map d7)=some (ms.map HrMark.pv):=λn h=>de (ef n h) HrMark.pv ms;have htk:List.take (ms.length+1) (.agg [.int .i64 m0.minute,.int .i64 m0.weight]::List.map HrMark.pv ms)=.agg [.int .i64 m0.minute,.int .i64 m0.weight]::List.map HrMark.pv ms:=gv (by simp);simp only[j8,ya,t7,go_sem,simprocAttr];refine aY (CF s ⟨kd,e,m0::ms⟩ (by omega)) ?_ (.int _ _) ?_
   .simp only[hfz,htk,go_sem,simprocAttr]
   simp only[go_sem,simprocAttr];cases hte:(aO s.kinds.length ⟨kd,e,m0::ms⟩==0)
   .have hg:ma s all ⟨kd,e,m0::ms⟩=false:=by rw[ma,hte];rfl
    simp only[go_sem,simprocAttr];refine oh (λhb=>by cases hb) (λ_=>?_);simp only[bZ,go_sem,simprocAttr];refine sm rfl rfl (by decide) ?_;simp only[l7,dn,dc,hg,go_sem,simprocAttr]
   have hte':aO s.kinds.length ⟨kd,e,m0::ms⟩=0:=by simpa using hte
   simp only[go_sem,simprocAttr];refine aY (PZ s ⟨kd,e,m0::ms⟩ hck hte') ?_ (.str _) ?_
   .simp only[hfz,htk,go_sem,simprocAttr]
   simp only[dH,go_sem,simprocAttr];have hg:ma s all ⟨kd,e,m0::ms⟩=(dQ s ⟨kd,e,m0::ms⟩==all):=by rw[ma,hte];rfl
   refine oh (λhb=>?_) (λhb=>?_)
   .rw[hb]at hg;simp only[bZ,go_sem,simprocAttr];refine EW ?_;simp only[hfz,htk,dn,hg,go_sem,simprocAttr]
   .rw[hb]at hg;simp only[bZ,go_sem,simprocAttr];refine sm rfl rfl (by decide) ?_;simp only[l7,dn,dc,hg,go_sem,simprocAttr]
def EG (l:List UInt8):Int:=if al (l.length:Int) 1 8=true then(match Lib.decFrom 0 l with|some n=>(n:Int)|none=>-1) else -1
def Ah (a b:HrTest):Bool:=(a.kind==b.kind)&&(a.error==b.error)&&decide (a.marks=b.marks)
theorem Ia(a b):Ah a b=true↔a=b:=by
 cases a;cases b;simp[Ah,and_assoc]
theorem QO(x y:HrMark):((x.minute==y.minute)&&(x.weight==y.weight))=decide (x=y):=by
 cases x;cases y;rw[tj];simp
theorem MC(a b)(ha:a.marks.length<1000000000):af TP 32 [a.pv,b.pv] (.bool (Ah a b)):=by
 refine aa (ah Tryz.func32 rfl (by kernel_rfl)) rfl ?_;simp only[go_sem,simprocAttr];cases h1:(a.kind != b.kind)
 rotate_left
 .have h1':(a.kind==b.kind)=false:=by simpa[bne]using h1
  simp only[Ah,h1',go_sem,simprocAttr]
 have h1':(a.kind==b.kind)=true:=by simpa[bne]using h1
 simp only[go_sem,simprocAttr];cases h2:(a.error != b.error)
 rotate_left
 .have h2':(a.error==b.error)=false:=by simpa[bne]using h2
  simp only[Ah,h1',h2',go_sem,simprocAttr]
 have h2':(a.error==b.error)=true:=by simpa[bne]using h2
 simp only[go_sem,simprocAttr];cases h3:((a.marks.length:Int) != (b.marks.length:Int))
 rotate_left
 .have h3':¬a.marks=b.marks:=by
   intro h;rw[h]at h3;simp at h3
  simp only[Ah,h1',h2',h3',decide_false,go_sem,simprocAttr]
 have h3':a.marks.length=b.marks.length:=by
  have:((a.marks.length:Int))=(b.marks.length:Int):=by simpa using h3
  omega
 have hsp:Ah a b=decide (a.marks=b.marks):=by rw[Ah,h1',h2'];rfl
 rw[hsp];simp only[go_sem,simprocAttr]
 refine fp [2,3] (σ:=List HrMark×List HrMark×List HrMark) (λq=>a.marks=q.1++q.2.1/\b.marks=q.1++q.2.2) (λq=>q.2.1.length)
  (λq=>[(5,.p (.int .i64 q.1.length))]) (λ_=>[.row 3 [.p a.pv],.row 3 [.p b.pv]]) ([],a.marks,b.marks) ⟨rfl,rfl⟩ ?_ ?_
 .simp only[go_sem,simprocAttr]
 rintro⟨done,ra,rb⟩ ⟨e1,e2⟩
 dsimp only at e1 e2;have hl1:=congrArg List.length e1;have hl2:=congrArg List.length e2;simp only[aK]at hl1 hl2
 cases ra with
 |nil=>
  have hrb:rb=[]:=by
   have:rb.length=0:=by simp at hl1;omega
   exact tv.1 this
  have hlt:¬((done.length:Int)<(a.marks.length:Int)):=by rw[e1];simp
  have he:a.marks=b.marks:=by rw[e1,e2,hrb]
  have hltb:¬((done.length:Int)<(b.marks.length:Int)):=by rw[e2,hrb];simp
  rw[show decide (a.marks=b.marks)=true by simpa using he]
  simp only[hlt,decide_false,go_sem,simprocAttr]
 |cons x ra=>
  cases rb with
  |nil=>simp at hl1 hl2;omega
  |cons y rb=>
   obtain⟨hx,hlt⟩:=dZ e1;obtain⟨hy,hlt2⟩:=dZ e2;have hnx:IntKind.i64.wrap ((done.length:Int)+1)=(((done++[x]).length:Nat):Int):=be (by omega) (by simp[ar];omega) (by simp);simp only[hlt,decide_true,hx,hy,hlt2,QO,go_sem,simprocAttr];cases h4:decide (x=y)
   .have h4':¬x=y:=by simpa using h4
    have he:¬a.marks=b.marks:=by
     rw[e1,e2];intro h;have:=List.append_cancel_left h;exact h4' (DS this).1
    rw[show decide (a.marks=b.marks)=false by simpa using he];simp only[go_sem,simprocAttr]
   .have h4':x=y:=by simpa using h4
    subst h4';simp only[go_sem,simprocAttr];refine bY (done++[x],ra,rb) ⟨by rw[e1];simp,by rw[e2];simp⟩ (gh _) ?_;simp only[hnx,go_sem,simprocAttr]
theorem af.arglessD{P}{f}{args args'}{v}(hc:af P f args v)(h:AF args' args):af P f args' v:=by
 intro M0 w cargs hM hg ha;obtain⟨h1,h2⟩:=h.get;refine hc M0 w cargs hM hg ⟨by rw[ha.1,h1],λi c hi=>?_⟩;obtain⟨q,hq⟩:∃q,args'[i]?=some q:=⟨_,bA (by rw[h1];exact(ax.1 hi).1)⟩
 exact(h2 i q c hq hi).rep (ha.2 i q hq)
theorem QJ(k e):PL (.agg [.int .i64 k,.int .i64 e,.nilslice]) (HrTest.pv ⟨k,e,[]⟩):=.aggL rfl ⟨.refl _,.refl _,.nil 2,trivial⟩
def mG (nm:ByteArray):List HrKind->Nat->Int->Int
 |[],_,acc=>acc
 |k::r,i,acc=>mG nm r (i+1) (if k.name==nm then(i:Int) else acc)
def zj (s:HrShop) (first:Bool) (t:HrTest) (p:List UInt8):HrTest:=
 match first,aQ 32 p with
 |true,[_,w1,w2]=>⟨mG (bs w1) s.kinds 0 t.kind,EG w2,t.marks⟩
 |false,[w0,w1]=>⟨t.kind,t.error,t.marks++[⟨EG w0,EG w1⟩]⟩
 |_,_=>t
def wH (s:HrShop):Bool->HrTest->List (List UInt8)->HrTest
 |_,t,[]=>t
 |_,t,[_]=>t
 |f,t,p::q::r=>wH s false (zj s f t p) (q::r)
def vq (s:HrShop) (all:List UInt8):HrTest:=wH s true ⟨-1,0,[]⟩ (aQ 10 all)
def wV (s:HrShop) (all:List UInt8):HrTest×Int:=
 if(hrCheck s).2.2=0 then
  if 300<all.length then(dc,3) else if ma s all (vq s all)=true then(vq s all,0) else(dc,6)
 else(dc,(hrCheck s).2.2)
end Abs
end Go.Proofs.YtnjiadikeacfaaaGreatDoor
