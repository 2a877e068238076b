/- CONTRACTS of the program's functions, and laws on what they return. No conditions but those in the theorems' heads. -/
import Derived.Test.YtmndpldajflenaaGreatDoorHrRatX
import Derived.Lib.AppendIntMem
import Derived.Lib.AtoiErrMem
set_option linter.all false
open Go.Proofs.Tryz renaming prog->TP
open Go.Proofs.Tryz
namespace Go.Proofs.YtmndpldajflenaaGreatDoor
namespace Abs
open Go.RowKit Go.Sort
theorem lM{w w'}(h:Below w.heap.size w w'):Fr [] w w':=
 ⟨h.os,h.tape,h.output,h.size,λb a _=>h.block b a,λb a=>by simp only[World.shape?,h.block b a]⟩
theorem Kt{M}{w}{a}{q}(h:oC M w a [q]):∃v,a=#[v]/\RepP M w v q:=by
 have e:=h.1;refine⟨a.getD 0 undef,?_,h.2 0 q rfl⟩;apply qg
 .simpa using e
 .intro i l j;have:i=0:=by simp at j;omega
  subst this;simp[l]
theorem yp{M}{w}{a}{p q}(h:oC M w a [p,q]):∃u v,a=#[u,v]/\RepP M w u p/\RepP M w v q:=by
 have e:=h.1;refine⟨a.getD 0 undef,a.getD 1 undef,?_,h.2 0 p rfl,h.2 1 q rfl⟩;apply qg
 .simpa using e
 .intro i l j;have:i=0\/i=1:=by simp at j;omega
  rcases this with rfl|rfl<;>simp[l]
def yM (n:Int):ByteArray:=⟨(Lib.itoa n).toArray⟩
theorem vW(n)(y:-9223372036854775808<=n)(u:n<=9223372036854775807):af TP 101 [.int .i64 n] (.str (yM n)):=by
 intro M0 w a z l q;obtain⟨v,rfl,i⟩:=Kt q;cases i;refine⟨(λw'=>iZ func101 Ub _ w'),?_⟩;have j:(TP.globalNamed "internal/strconv.uint64pow10").isSome=true:=by kernel_rfl
 obtain⟨b,o⟩:=fp.1 j;refine(Any.strconv_Itoa laysM171 n y u w (l.1 b o)).mono ?_
 rintro e w' ⟨rfl,k,os,rfl⟩
 exact⟨_,rfl,.str _,lM (Lib.below_grow _ _ (ba _) _ _)⟩
def kb (s:ByteArray):PV:=
 match Lib.atoiAll s.data.toList with
 |.ok v=>.tuple [.int .i64 v,.niliface]
 |.range=>.tuple [.int .i64 (Lib.atoiSat s.data.toList),.iface 351 .any]
 |_=>.tuple [.int .i64 0,.iface 351 .any]
theorem vB{M}{w}{a b}{p q}(j:RepP M w a p)(e:RepP M w b q):RepP M w (.tuple #[a,b]) (.tuple [p,q]):=
 .tuple rfl λi c hi=>by
  match i,hi with
  |0,hi=>cases hi;exact j
  |1,hi=>cases hi;exact e
theorem CU(s)(y:s.size<=281474976710656):af TP 150 [.str s] (kb s):=by
 intro M0 w u D z C;obtain⟨v,rfl,A⟩:=Kt C;cases A;refine⟨(λw'=>iZ func150 T8 _ w'),?_⟩;unfold kb
 cases l:Lib.atoiAll s.data.toList with
 |ok v=>
  refine(Any.strconv_Atoi_ok laysC172 s (by omega) v l w).mono ?_
  rintro e w' ⟨rfl,h⟩
  refine⟨_,rfl,vB (.int _ _) .niliface,?_⟩;rcases h with rfl|⟨t,rfl⟩
  .exact Fr.refl _ _
  .exact lM (Lib.bytesWorld_below _ _ _)
 |range=>
  have o:(TP.globalNamed "strconv.ErrRange").isSome=true:=by kernel_rfl
  obtain⟨b,q⟩:=fp.1 o;obtain⟨j,p,a⟩:=z.2.2 b q;refine(Any.strconv_Atoi_range_var laysC172 s y l j p w a).mono ?_
  rintro e w' ⟨N,rfl,_,_,i⟩
  exact⟨_,rfl,vB (.int _ _) (.iface .any),lM i⟩
 |_=>
  have o:(TP.globalNamed "strconv.ErrSyntax").isSome=true:=by kernel_rfl
  obtain⟨b,q⟩:=fp.1 o;obtain⟨j,p,a⟩:=z.2.1 b q;refine(Any.strconv_Atoi_syntax_var laysC172 s y l j p w a).mono ?_
  rintro e w' ⟨N,rfl,_,_,i⟩
  exact⟨_,rfl,vB (.int _ _) (.iface .any),lM i⟩
theorem Ji(s)(c):af TP 187 [.str s,.str ⟨#[c]⟩] (.int .i64 (Lib.indexByte s.data.toList c)):=by
 intro M0 w a q o l;obtain⟨u,v,rfl,j,i⟩:=yp l;cases j;cases i;refine⟨(λw'=>iZ func187 T7 _ w'),?_⟩;refine(Any.stringslite_Index_one lays219 s c w).mono ?_
 rintro e w' ⟨rfl,rfl⟩
 exact⟨_,rfl,.int _ _,Fr.refl _ _⟩
theorem EO(s)(c):af TP 190 [.str s,.str ⟨#[c]⟩] (.int .i64 (Lib.indexByte s.data.toList c)):=by
 intro M0 w a q o l;obtain⟨u,v,rfl,j,i⟩:=yp l;cases j;cases i;refine⟨(λw'=>iZ func190 T5 _ w'),?_⟩;refine(Any.strings_Index_one lays143 s c w).mono ?_
 rintro e w' ⟨rfl,rfl⟩
 exact⟨_,rfl,.int _ _,Fr.refl _ _⟩
theorem LL(s)(c):af TP 189 [.str s,.str ⟨#[c]⟩] (.int .i64 (Lib.countByte s.data.toList c)):=by
 intro M0 w a q o l;obtain⟨u,v,rfl,j,i⟩:=yp l;cases j;cases i;refine⟨(λw'=>iZ func189 T6 _ w'),?_⟩;refine(Any.strings_Count_one lays138 s c w).mono ?_
 rintro e w' ⟨rfl,rfl⟩
 exact⟨_,rfl,.int _ _,Fr.refl _ _⟩
set_option maxRecDepth 4000
def bs (l:List UInt8):ByteArray:=⟨l.toArray⟩
theorem gh(l):(bs l).data.toList=l:=rfl
theorem aj(l):(bs l).size=l.length:=by simp[bs,ByteArray.size]
theorem sl(s):bs s.data.toList=s:=by cases s;rfl
theorem eD(l)(i j):(bs l).extract i j=bs ((l.take j).drop i):=by
 apply ByteArray.ext;rw[ByteArray.data_extract];simp[bs,List.drop_take]
theorem dF(a b):bs a++bs b=bs (a++b):=by
 apply ByteArray.ext;simp[bs]
theorem EV{a b}:bs a=bs b↔a=b:=
 ⟨λh=>by have:=congrArg (λs:ByteArray=>s.data.toList) h;simpa[gh]using this,λh=>h▸rfl⟩
theorem nv(x y:ByteArray):(x==y)=true↔x=y:=by
 cases x with
 |mk a=>
  cases y with
  |mk b=>
   show (a==b)=true↔_;rw[beq_iff_eq];exact⟨λh=>h▸rfl,λh=>by cases h;rfl⟩
theorem dy(a b):(bs a==bs b)=(a==b):=by
 rw[sD,nv,beq_iff_eq,EV]
def aH (c:UInt8):List UInt8->List UInt8×Option (List UInt8)
 |[]=>([],none)
 |x::r=>if x=c then([],some r) else(x::(aH c r).1,(aH c r).2)
theorem ll(c):∀l,((aH c l).2=none/\(aH c l).1=l/\Lib.indexByte l c=-1) \/
  ∃r,(aH c l).2=some r/\Lib.indexByte l c=((aH c l).1.length:Int)/\l=(aH c l).1++c::r
 |[]=>.inl ⟨rfl,rfl,rfl⟩
 |x::l=>by
  unfold aH Lib.indexByte;by_cases hx:x=c
  .subst hx;simp
  .have j:(x==c)=false:=by simpa using hx
   rw[if_neg hx,j];simp only[eG,if_false];rcases ll c l with⟨i,e,a⟩|⟨r,i,e,a⟩
   .exact .inl ⟨i,by simp[e],by simp[a]⟩
   .refine .inr ⟨r,i,?_,?_⟩
    .rw[e];have:¬((((aH c l).1.length:Int)==-1)=true):=by simp
     rw[if_neg this];simp
    .simp[<-a]
theorem tF(c):∀(l r),(aH c l).2=some r->r.length<l.length:=by
 intro l r h;rcases ll c l with⟨a,_⟩|⟨i,a,_,e⟩
 .rw[a]at h;cases h
 .rw[a]at h;cases h;have:=congrArg List.length e;simp at this;omega
theorem NR(l)(c)(z:l.length<1000000000):af TP 148 [.str (bs l),.str (bs [c])] (.tuple [.str (bs (aH c l).1),.str (bs ((aH c l).2.getD [])),.bool (aH c l).2.isSome]):=by
 refine aa (ag func148 rfl) rfl ?_;simp only[go_sem,simprocAttr];refine ae (Ji (bs l) c) rfl ?_;rw[gh];rcases ll c l with⟨j,i,a⟩|⟨r,j,i,a⟩
 .simp only[j,i,a,go_sem,simprocAttr];exact⟨rfl,rfl⟩
 .have e:=congrArg List.length a;simp only[aL,dB]at e;have A:decide ((0:Int)<=((aH c l).1.length:Int))=true:=by simp
  have y:(((aH c l).1.length:Int)<=((bs l).size:Int)):=by rw[aj];omega
  have v:IntKind.i64.wrap (((aH c l).1.length:Int)+(((bs [c]).size:Nat):Int))=(((aH c l).1.length+1:Nat):Int):=by
   rw[aj];exact bk (by omega) (by simp[ao];omega) (by simp)
  have u:((((aH c l).1.length+1:Nat):Int)<=((bs l).size:Int)):=by rw[aj];omega
  have q:(bs l).extract 0 (aH c l).1.length=bs (aH c l).1:=by
   rw[eD,qd]
   congr 1
   have:=congrArg (List.take (aH c l).1.length) a;rw[fa]at this
   .exact this
   .rfl
  have o:(bs l).extract ((aH c l).1.length+1) (bs l).size=bs r:=by
   rw[eD,aj,pw]
   congr 1
   have:=congrArg (List.drop ((aH c l).1.length+1)) a;rw[this];simp
  simp only[j,i,y,v,u,q,o,go_sem,simprocAttr];try exact⟨rfl,rfl⟩
theorem sj(l)(c)(a:l.length<1000000000):af TP 106 [.str (bs l),.str (bs [c])] (.tuple [.str (bs (aH c l).1),.str (bs ((aH c l).2.getD [])),.bool (aH c l).2.isSome]):=by
 refine aa (ag func106 rfl) rfl ?_;simp only[go_sem,simprocAttr];refine ae (NR l c a) rfl ?_;simp only[go_sem,simprocAttr]
def oe (c:UInt8) (l:List UInt8):List UInt8:=if l.getLast?=some c then l.dropLast else l
theorem Jk(l)(c)(i:l.length<1000000000):af TP 400 [.str (bs l),.str (bs [c])] (.bool (decide (l.getLast?=some c))):=by
 refine aa (ag func400 rfl) rfl ?_;rcases C0 l with rfl|⟨a,x,rfl⟩
 .have e:decide ((((bs [c]).size:Nat):Int)<=(((bs []).size:Nat):Int))=false:=by rw[aj,aj];simp
  simp only[e,go_sem,simprocAttr];simp
 .rw[C1]at i |-;have e:decide ((((bs [c]).size:Nat):Int)<=(((bs (a++[x])).size:Nat):Int))=true:=by rw[aj,aj];simp<;>omega
  have u:IntKind.i64.wrap ((((bs (a++[x])).size:Nat):Int)-(((bs [c]).size:Nat):Int))=((a.length:Nat):Int):=by
   rw[aj,aj,cl (by simp) (by simp[ao]at i |-;omega)];simp
  have q:((a.length:Nat):Int)<=(((bs (a++[x])).size:Nat):Int):=by rw[aj];simp<;>omega
  have o:(bs (a++[x])).extract a.length (bs (a++[x])).size=bs [x]:=by
   rw[eD,aj,pw];simp
  have j:(bs [x]==bs [c])=decide ((a++[x]).getLast?=some c):=by
   rw[dy,List.getLast?_concat,sD];simp
  simp only[e,u,q,o,j,go_sem,simprocAttr]
theorem LF(l)(c)(a:l.length<1000000000):af TP 378 [.str (bs l),.str (bs [c])] (.str (bs (oe c l))):=by
 refine aa (ag func378 rfl) rfl ?_;simp only[go_sem,simprocAttr];refine ae (Jk l c a) rfl ?_;by_cases h:l.getLast?=some c
 .have j:IntKind.i64.wrap ((((bs l).size:Nat):Int)-(((bs [c]).size:Nat):Int))=((l.length-1:Nat):Int):=by
   have:l≠[]:=by rintro rfl;simp at h
   have:0<l.length:=xS.2 this;rw[aj,aj,cl (by simp;omega) (by simp[ao];omega)];simp;omega
  have i:((l.length-1:Nat):Int)<=(((bs l).size:Nat):Int):=by rw[aj];omega
  have e:(bs l).extract 0 (l.length-1)=bs l.dropLast:=by rw[eD,qd,List.dropLast_eq_take]
  simp only[h,j,i,e,oe,go_sem,simprocAttr]
 .simp only[h,oe,go_sem,simprocAttr]
theorem Gf(l)(c)(a:l.length<1000000000):af TP 339 [.str (bs l),.str (bs [c])] (.str (bs (oe c l))):=by
 refine aa (ag func339 rfl) rfl ?_;simp only[go_sem,simprocAttr];refine ae (LF l c a) rfl ?_;simp only[go_sem,simprocAttr]
def aM (c:UInt8):List UInt8->List (List UInt8)
 |[]=>[[]]
 |x::r=>if x=c then []::aM c r else match aM c r with|[]=>[[x]]|a::t=>(x::a)::t
theorem lg(c):∀l,aM c l=(aH c l).1::(match (aH c l).2 with|none=>[]|some r=>aM c r)
 |[]=>rfl
 |x::r=>by
  by_cases hx:x=c
  .simp only[aM,aH,if_pos hx]
  .simp only[aM,aH,if_neg hx];rw[lg c r]
theorem lI{c}{l}(h:(aH c l).2=none):aM c l=[l]:=by
 rcases ll c l with⟨a,e,i⟩|⟨r,a,_⟩
 .rw[lg,a,e]
 .rw[a]at h;cases h
theorem lH{c}{l r}(h:(aH c l).2=some r):aM c l=(aH c l).1::aM c r:=by
 rw[lg,h]
theorem mI(c):∀l,(aM c l).length=l.count c+1
 |[]=>rfl
 |x::r=>by
  have e:=mI c r;unfold aM;by_cases hx:x=c
  .subst hx;simp[e]
  .rw[if_neg hx,List.count_cons_of_ne hx]
   cases i:aM c r with
   |nil=>rw[i]at e;simp at e
   |cons a t=>rw[i]at e;simpa using e
theorem mH(c)(l):0<(aM c l).length:=by rw[mI];omega
theorem rg(c)(l):(aM c l).length<=l.length+1:=by rw[mI];have:=List.count_le_length (a:=c) (l:=l);omega
def bF (l:List (List UInt8)):PV:=.slice 1 (l.map λx=>.str (bs x)) false
def fE (N:Nat) (done:List (List UInt8)):List AV:=(done.map λx=>AV.p (.str (bs x)))++List.replicate (N-done.length) (AV.p (.str ⟨#[]⟩))
theorem Dl{N}{a}(h:a.length<=N):(fE N a).length=N:=by simp[fE];omega
theorem FG{N}{a}(h:a.length<N):(fE N a)[a.length]?=some (AV.p (.str ⟨#[]⟩)):=by
 unfold fE;rw[cG (by simp),Mj];simp;omega
theorem uo{N}{a}(x)(h:a.length<N):(fE N a).set a.length (AV.p (.str (bs x)))=fE N (a++[x]):=by
 unfold fE;rw[sH _ _ (by simp)];obtain⟨k,i⟩:∃k,N-a.length=k+1:=⟨N-a.length-1,by omega⟩
 have e:N-(a++[x]).length=k:=by simp;omega
 rw[i,e];simp[vt]
theorem Dm{N}{a}(h:a.length=N):fE N a=a.map λx=>AV.p (.str (bs x)):=by
 unfold fE;rw[h];simp
theorem z6(n N)(done):∀x,x∈fE N done->below n x:=by
 intro x hx;simp only[fE,ck,cX,List.mem_replicate]at hx;rcases hx with⟨_,_,rfl⟩|⟨_,rfl⟩<;>exact trivial
theorem LI(l)(c)(hl:l.length<1000000000):af TP 149 [.str (bs l),.str (bs [c]),.int .i64 0,.int .i64 (-1)] (bF (aM c l)):=by
 refine dd (ag func149 rfl) rfl ?_;have E:(bs [c]==(⟨#[]⟩:ByteArray))=false:=by
  rw[show (⟨#[]⟩:ByteArray)=bs [] from rfl,dy];rfl
 obtain⟨N,y⟩:∃N,N=(aM c l).length:=⟨_,rfl⟩
 have a1:0<N:=y▸mH c l;have a0:N<=l.length+1:=y▸rg c l;have G:IntKind.i64.wrap ((Lib.countByte (bs l).data.toList c:Int)+1)=(N:Int):=by
  refine bk (by omega) (by simp[ao];omega) ?_;rw[gh];unfold Lib.countByte;rw[y,mI];rfl
 simp only[E,go_sem,simprocAttr];refine ae (LL (bs l) c) rfl ?_;have hw:IntKind.i64.wrap ((((bs l).size:Nat):Int)+1)=((l.length+1:Nat):Int):=by
  rw[aj];exact bk (by omega) (by simp[ao];omega) (by simp)
 have F:¬(((l.length+1:Nat):Int)<(N:Int)):=by omega
 have j:((N:Int)<=((ao:Nat):Int)):=by simp[ao];omega
 have T:IntKind.i64.wrap ((N:Int)-1)=((N-1:Nat):Int):=by rw[cl (by omega) (by simp[ao];omega)];omega
 simp only[G,hw,F,j,T,go_sem,simprocAttr]
 refine gL [1,2,3,9] (σ:=List (List UInt8)×List UInt8) (λq=>aM c l=q.1++aM c q.2/\q.2.length<=l.length) (λq=>q.2.length)
  (λq=>[(0,.p (.str (bs q.2))),(10,.p (.int .i64 q.1.length))]) (λq=>[.row 1 (fE N q.1)]) ([],l) ⟨rfl,ba _⟩ ?_ ?_
 .simp only[fE,go_sem,simprocAttr];all_goals first|(simp;done)|(simp;intro _;trivial)
 rintro⟨done,r⟩ ⟨K,e2⟩
 dsimp only at K e2;have i:=congrArg List.length K;rw[<-y,aL]at i;have a:done.length<N:=by have:=mH c r;omega
 have z:=Dl (Nat.le_of_lt a);have C:=FG a;have A:(done.length:Int)<(N:Int):=by omega
 rcases ll c r with⟨L,U,J⟩|⟨u,L,U,J⟩
 .have v:=lI L;rw[v,aV]at i;have S:decide ((done.length:Int)<((N-1:Nat):Int))=false:=by simp;omega
  have e:=uo r a;have I:fE N (done++[r])=(aM c l).map λx=>AV.p (.str (bs x)):=by rw[Dm (by simp;omega),K,v]
  have M:IntKind.i64.wrap ((done.length:Int)+1)=(N:Int):=bk (by omega) (by simp[ao];omega) (by omega);have D:(aM c l).length=N:=y.symm;simp only[S,z,C,A,e,I,M,D,go_sem,simprocAttr];rw[bF,Nat.sub_zero,fC (by simp[D])]
 .have v:=lH L;have R:decide ((done.length:Int)<((N-1:Nat):Int))=true:=by
   have:=mH c u;have:=congrArg List.length v;simp at this |-;omega
  have e:=uo (aH c r).1 a;have o:=congrArg List.length J;simp only[aL,dB]at o;simp only[R,go_sem,simprocAttr];refine ae (EO (bs r) c) rfl ?_;have V:Lib.indexByte (bs r).data.toList c=((aH c r).1.length:Int):=U;have f0:decide (((aH c r).1.length:Int)<0)=false:=by simp
  have f1:IntKind.i64.wrap (((aH c r).1.length:Int)+0)=((aH c r).1.length:Int):=bk (by omega) (by simp[ao];omega) (by simp);have f2:(((aH c r).1.length:Int)<=((bs r).size:Int)):=by rw[aj];omega
  have f3:(bs r).extract 0 (aH c r).1.length=bs (aH c r).1:=by
   rw[eD,qd]
   congr 1
   have:=congrArg (List.take (aH c r).1.length) J;rw[fa]at this
   .exact this
   .rfl
  have Z:IntKind.i64.wrap (((aH c r).1.length:Int)+(((bs [c]).size:Nat):Int))=(((aH c r).1.length+1:Nat):Int):=by
   rw[aj];exact bk (by omega) (by simp[ao];omega) (by simp)
  have Y:((((aH c r).1.length+1:Nat):Int)<=((bs r).size:Int)):=by rw[aj];omega
  have X:(bs r).extract ((aH c r).1.length+1) (bs r).size=bs u:=by
   rw[eD,aj,pw]
   congr 1
   have:=congrArg (List.drop ((aH c r).1.length+1)) J;rw[this];simp
  have O:IntKind.i64.wrap ((done.length:Int)+1)=(((done++[(aH c r).1]).length:Nat):Int):=bk (by omega) (by simp[ao];omega) (by simp);simp only[V,f0,f1,f2,f3,Z,Y,X,z,C,A,e,go_sem,simprocAttr];refine cc (done++[(aH c r).1],u) ⟨by rw[K,v];simp,by show u.length<=l.length;omega⟩ (by show u.length<r.length;omega) ?_;simp only[O,go_sem,simprocAttr];exact z6 _ _ _
theorem BS(l)(c)(a:l.length<1000000000):af TP 107 [.str (bs l),.str (bs [c])] (bF (aM c l)):=by
 refine aa (ag func107 rfl) rfl ?_;simp only[go_sem,simprocAttr];refine ae (LI l c a) rfl ?_;simp only[go_sem,simprocAttr]
theorem Ba(c)(l):aM c l≠[]:=λh=>by have:=mH c l;rw[h]at this;simp at this
theorem tY(n):(Lib.decDigits n).length<=n+1:=by
 induction n using Nat.strongRecOn with
 |ind n a=>
  rw[Lib.decDigits];split
  .simp
  .have:=a (n / 10) (by omega);simp;omega
theorem QI(n:Nat):n<1000000000->af TP 21 [.int .i64 n] (.str (bs (Lib.decDigits n))):=by
 induction n using Nat.strongRecOn with
 |ind n o=>
  intro z;refine aa (ag func21 rfl) rfl ?_;have l:((n:Nat):Int).tmod 10=((n%10:Nat):Int):=by rw[Int.tmod_eq_emod_of_nonneg (by omega)];omega
  have j:IntKind.i64.wrap (48+((n%10:Nat):Int))=((48+n%10:Nat):Int):=by rw[cl (by omega) (by simp[ao];omega)];simp
  have i:IntKind.u8.wrap ((48+n%10:Nat):Int)=((48+n%10:Nat):Int):=by
   simp[IntKind.wrap,IntKind.signed,IntKind.bits];omega
  have e:(⟨#[UInt8.ofNat (48+n%10)]⟩:ByteArray)=bs [UInt8.ofNat (48+n%10)]:=rfl;have v:IntKind.i64.wrap (((n:Nat):Int).tdiv 10)=((n / 10:Nat):Int):=by rw[Int.tdiv_eq_ediv_of_nonneg (by omega),cl (by omega) (by simp[ao];omega)];omega
  by_cases y:10<=n
  .have a:decide ((10:Int)<=((n:Nat):Int))=true:=by simp;omega
   have u:(bs (Lib.decDigits (n / 10))).size+(bs [UInt8.ofNat (48+n%10)]).size<=bj:=by
    have:=tY (n / 10);rw[aj,aj,aV];unfold bj;omega
   simp only[l,j,i,a,v,e,go_sem,simprocAttr];refine ae (o (n / 10) (by omega) (by omega)) rfl ?_;simp only[u,dF,go_sem,simprocAttr]
   conv=>rhs;rw[Lib.decDigits,dif_neg (by omega)]
  .have a:decide ((10:Int)<=((n:Nat):Int))=false:=by simp;omega
   have q:n%10=n:=by omega
   simp only[l,j,i,a,e,go_sem,simprocAttr]
   conv=>rhs;rw[Lib.decDigits,dif_pos (by omega)]
   rw[q]
end Abs
end Go.Proofs.YtmndpldajflenaaGreatDoor
