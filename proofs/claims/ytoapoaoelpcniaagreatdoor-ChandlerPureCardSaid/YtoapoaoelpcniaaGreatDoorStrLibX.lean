/- CONTRACTS of the program's functions, and laws on what they return. No conditions but those in the theorems' heads. -/
import Derived.Test.YtoapoaoelpcniaaGreatDoorHrRatX
import Derived.Lib.AppendIntMem
import Derived.Lib.AtoiErrMem
set_option linter.all false
open Go.Proofs.Tryz renaming prog->TP
namespace Go.Proofs.YtoapoaoelpcniaaGreatDoor
namespace Abs
open Go.RowKit Go.Sort
theorem mV{w w'}(h:Below w.heap.size w w'):Fr [] w w':=
 ⟨h.os,h.tape,h.output,h.size,λb hb _=>h.block b hb,λb hb=>by simp only[World.shape?,h.block b hb]⟩
theorem Nk{M}{w}{cargs}{q}(h:rO M w cargs [q]):∃v,cargs=#[v]/\RepP M w v q:=by
 have hn:=h.1;refine⟨cargs.getD 0 undef,?_,h.2 0 q rfl⟩;apply nw
 .simpa using hn
 .intro i h1 h2;have:i=0:=by simp at h2;omega
  subst this;simp[h1]
theorem AW{M}{w}{cargs}{p q}(h:rO M w cargs [p,q]):∃u v,cargs=#[u,v]/\RepP M w u p/\RepP M w v q:=by
 have hn:=h.1;refine⟨cargs.getD 0 undef,cargs.getD 1 undef,?_,h.2 0 p rfl,h.2 1 q rfl⟩;apply nw
 .simpa using hn
 .intro i h1 h2;have:i=0\/i=1:=by simp at h2;omega
  rcases this with rfl|rfl<;>simp[h1]
def Bk (n:Int):ByteArray:=⟨(Lib.itoa n).toArray⟩
theorem yL(n)(h0:-9223372036854775808<=n)(h1:n<=9223372036854775807):af TP 68 [.int .i64 n] (.str (Bk n)):=by
 intro M0 w cargs hM hg ha;obtain⟨v,rfl,hv⟩:=Nk ha;cases hv;refine⟨(λw'=>jD Tryz.func68 ZU _ w'),?_⟩;have hn:(TP.globalNamed "internal/strconv.uint64pow10").isSome=true:=by kernel_rfl
 obtain⟨b,hb⟩:=j6.1 hn;refine(Any.strconv_Itoa Tryz.laysM171 n h0 h1 w (hg.1 b hb)).mono ?_
 rintro e w' ⟨rfl,k,os,rfl⟩
 exact⟨_,rfl,.str _,mV (Lib.below_grow _ _ (bB _) _ _)⟩
def lc (s:ByteArray):PV:=
 match Lib.atoiAll s.data.toList with
 |.ok v=>.tuple [.int .i64 v,.niliface]
 |.range=>.tuple [.int .i64 (Lib.atoiSat s.data.toList),.iface 348 .any]
 |_=>.tuple [.int .i64 0,.iface 348 .any]
theorem yp{M}{w}{a b}{p q}(h1:RepP M w a p)(h2:RepP M w b q):RepP M w (.tuple #[a,b]) (.tuple [p,q]):=
 .tuple rfl λi c hi=>by
  match i,hi with
  |0,hi=>cases hi;exact h1
  |1,hi=>cases hi;exact h2
theorem Fk(s)(hs:s.size<=281474976710656):af TP 140 [.str s] (lc s):=by
 intro M0 w cargs hM hg ha;obtain⟨v,rfl,hv⟩:=Nk ha;cases hv;refine⟨(λw'=>jD Tryz.func140 Xt _ w'),?_⟩;unfold lc
 cases hr:Lib.atoiAll s.data.toList with
 |ok v=>
  refine(Any.strconv_Atoi_ok Tryz.laysC172 s (by omega) v hr w).mono ?_
  rintro e w' ⟨rfl,h⟩
  refine⟨_,rfl,yp (.int _ _) .niliface,?_⟩;rcases h with rfl|⟨t,rfl⟩
  .exact Fr.refl _ _
  .exact mV (Lib.bytesWorld_below _ _ _)
 |range=>
  have hn:(TP.globalNamed "strconv.ErrRange").isSome=true:=by kernel_rfl
  obtain⟨b,hb⟩:=j6.1 hn;obtain⟨tp,p,hvar⟩:=hg.2.2 b hb;refine(Any.strconv_Atoi_range_var Tryz.laysC172 s hs hr tp p w hvar).mono ?_
  rintro e w' ⟨N,rfl,_,_,hbl⟩
  exact⟨_,rfl,yp (.int _ _) (.iface .any),mV hbl⟩
 |_=>
  have hn:(TP.globalNamed "strconv.ErrSyntax").isSome=true:=by kernel_rfl
  obtain⟨b,hb⟩:=j6.1 hn;obtain⟨tp,p,hvar⟩:=hg.2.1 b hb;refine(Any.strconv_Atoi_syntax_var Tryz.laysC172 s hs hr tp p w hvar).mono ?_
  rintro e w' ⟨N,rfl,_,_,hbl⟩
  exact⟨_,rfl,yp (.int _ _) (.iface .any),mV hbl⟩
theorem L2(s)(c):af TP 163 [.str s,.str ⟨#[c]⟩] (.int .i64 (Lib.indexByte s.data.toList c)):=by
 intro M0 w cargs hM hg ha;obtain⟨u,v,rfl,hu,hv⟩:=AW ha;cases hu;cases hv;refine⟨(λw'=>jD Tryz.func163 Xs _ w'),?_⟩;refine(Any.stringslite_Index_one Tryz.lays219 s c w).mono ?_
 rintro e w' ⟨rfl,rfl⟩
 exact⟨_,rfl,.int _ _,Fr.refl _ _⟩
theorem Hk(s)(c):af TP 166 [.str s,.str ⟨#[c]⟩] (.int .i64 (Lib.indexByte s.data.toList c)):=by
 intro M0 w cargs hM hg ha;obtain⟨u,v,rfl,hu,hv⟩:=AW ha;cases hu;cases hv;refine⟨(λw'=>jD Tryz.func166 Xq _ w'),?_⟩;refine(Any.strings_Index_one Tryz.lays143 s c w).mono ?_
 rintro e w' ⟨rfl,rfl⟩
 exact⟨_,rfl,.int _ _,Fr.refl _ _⟩
theorem Ow(s)(c):af TP 165 [.str s,.str ⟨#[c]⟩] (.int .i64 (Lib.countByte s.data.toList c)):=by
 intro M0 w cargs hM hg ha;obtain⟨u,v,rfl,hu,hv⟩:=AW ha;cases hu;cases hv;refine⟨(λw'=>jD Tryz.func165 Xr _ w'),?_⟩;refine(Any.strings_Count_one Tryz.lays138 s c w).mono ?_
 rintro e w' ⟨rfl,rfl⟩
 exact⟨_,rfl,.int _ _,Fr.refl _ _⟩
set_option maxRecDepth 4000
def bs (l:List UInt8):ByteArray:=⟨l.toArray⟩
theorem gF(l):(bs l).data.toList=l:=rfl
theorem ao(l):(bs l).size=l.length:=by simp[bs,ByteArray.size]
theorem xT(s):bs s.data.toList=s:=by cases s;rfl
theorem cY(l)(i j):(bs l).extract i j=bs ((l.take j).drop i):=by
 apply ByteArray.ext;rw[ByteArray.data_extract];simp[bs,List.drop_take]
theorem dQ(a b):bs a++bs b=bs (a++b):=by
 apply ByteArray.ext;simp[bs]
theorem Wn{a b}:bs a=bs b↔a=b:=
 ⟨λh=>by have:=congrArg (λs:ByteArray=>s.data.toList) h;simpa[gF]using this,λh=>h▸rfl⟩
theorem gv(x y:ByteArray):(x==y)=true↔x=y:=by
 cases x with
 |mk a=>
  cases y with
  |mk b=>
   show (a==b)=true↔_;rw[beq_iff_eq];exact⟨λh=>h▸rfl,λh=>by cases h;rfl⟩
theorem cc(a b):(bs a==bs b)=(a==b):=by
 rw[nh,gv,beq_iff_eq,Wn]
def aK (c:UInt8):List UInt8->List UInt8×Option (List UInt8)
 |[]=>([],none)
 |x::r=>if x=c then([],some r) else(x::(aK c r).1,(aK c r).2)
theorem kl(c):∀l,((aK c l).2=none/\(aK c l).1=l/\Lib.indexByte l c=-1) \/
  ∃r,(aK c l).2=some r/\Lib.indexByte l c=((aK c l).1.length:Int)/\l=(aK c l).1++c::r
 |[]=>.inl ⟨rfl,rfl,rfl⟩
 |x::l=>by
  unfold aK Lib.indexByte;by_cases hx:x=c
  .subst hx;simp
  .have hb:(x==c)=false:=by simpa using hx
   rw[if_neg hx,hb];simp only[jc,if_false];rcases kl c l with⟨h1,h2,h3⟩|⟨r,h1,h2,h3⟩
   .exact .inl ⟨h1,by simp[h2],by simp[h3]⟩
   .refine .inr ⟨r,h1,?_,?_⟩
    .rw[h2];have:¬((((aK c l).1.length:Int)==-1)=true):=by simp
     rw[if_neg this];simp
    .simp[<-h3]
theorem wc(c):∀(l r),(aK c l).2=some r->r.length<l.length:=by
 intro l r h;rcases kl c l with⟨h1,_⟩|⟨r',h1,_,h3⟩
 .rw[h1]at h;cases h
 .rw[h1]at h;cases h;have:=congrArg List.length h3;simp at this;omega
theorem QX(l)(c)(hl:l.length<1000000000):af TP 112 [.str (bs l),.str (bs [c])] (.tuple [.str (bs (aK c l).1),.str (bs ((aK c l).2.getD [])),.bool (aK c l).2.isSome]):=by
 refine aa (ah Tryz.func112 rfl (by kernel_rfl)) rfl ?_;simp only[go_sem,simprocAttr];refine ae (L2 (bs l) c) rfl ?_;rw[gF];rcases kl c l with⟨h1,h2,h3⟩|⟨r,h1,h2,h3⟩
 .simp only[h1,h2,h3,go_sem,simprocAttr];exact⟨rfl,rfl⟩
 .have hlen:=congrArg List.length h3;simp only[aB,cu]at hlen;have e0:decide ((0:Int)<=((aK c l).1.length:Int))=true:=by simp
  have e1:(((aK c l).1.length:Int)<=((bs l).size:Int)):=by rw[ao];omega
  have e2:IntKind.i64.wrap (((aK c l).1.length:Int)+(((bs [c]).size:Nat):Int))=(((aK c l).1.length+1:Nat):Int):=by
   rw[ao];exact bj (by omega) (by simp[aw];omega) (by simp)
  have e3:((((aK c l).1.length+1:Nat):Int)<=((bs l).size:Int)):=by rw[ao];omega
  have e4:(bs l).extract 0 (aK c l).1.length=bs (aK c l).1:=by
   rw[cY,mE]
   congr 1
   have:=congrArg (List.take (aK c l).1.length) h3;rw[gk]at this
   .exact this
   .rfl
  have e5:(bs l).extract ((aK c l).1.length+1) (bs l).size=bs r:=by
   rw[cY,ao,qN]
   congr 1
   have:=congrArg (List.drop ((aK c l).1.length+1)) h3;rw[this];simp
  simp only[h1,h2,e1,e2,e3,e4,e5,go_sem,simprocAttr];try exact⟨rfl,rfl⟩
theorem uC(l)(c)(hl:l.length<1000000000):af TP 67 [.str (bs l),.str (bs [c])] (.tuple [.str (bs (aK c l).1),.str (bs ((aK c l).2.getD [])),.bool (aK c l).2.isSome]):=by
 refine aa (ah Tryz.func67 rfl (by kernel_rfl)) rfl ?_;simp only[go_sem,simprocAttr];refine ae (QX l c hl) rfl ?_;simp only[go_sem,simprocAttr]
def pV (c:UInt8) (l:List UInt8):List UInt8:=if l.getLast?=some c then l.dropLast else l
theorem L4(l)(c)(hl:l.length<1000000000):af TP 321 [.str (bs l),.str (bs [c])] (.bool (decide (l.getLast?=some c))):=by
 refine aa (ah Tryz.func321 rfl (by kernel_rfl)) rfl ?_;rcases yg l with rfl|⟨a,x,rfl⟩
 .have e1:decide ((((bs [c]).size:Nat):Int)<=(((bs []).size:Nat):Int))=false:=by rw[ao,ao];simp
  simp only[e1,go_sem,simprocAttr];simp
 .rw[yj]at hl |-;have e1:decide ((((bs [c]).size:Nat):Int)<=(((bs (a++[x])).size:Nat):Int))=true:=by rw[ao,ao];simp<;>omega
  have e2:IntKind.i64.wrap ((((bs (a++[x])).size:Nat):Int)-(((bs [c]).size:Nat):Int))=((a.length:Nat):Int):=by
   rw[ao,ao,cA (by simp) (by simp[aw]at hl |-;omega)];simp
  have e3:((a.length:Nat):Int)<=(((bs (a++[x])).size:Nat):Int):=by rw[ao];simp<;>omega
  have e4:(bs (a++[x])).extract a.length (bs (a++[x])).size=bs [x]:=by
   rw[cY,ao,qN];simp
  have e5:(bs [x]==bs [c])=decide ((a++[x]).getLast?=some c):=by
   rw[cc,List.getLast?_concat,nh];simp
  simp only[e1,e2,e3,e4,e5,go_sem,simprocAttr]
theorem On(l)(c)(hl:l.length<1000000000):af TP 303 [.str (bs l),.str (bs [c])] (.str (bs (pV c l))):=by
 refine aa (ah Tryz.func303 rfl (by kernel_rfl)) rfl ?_;simp only[go_sem,simprocAttr];refine ae (L4 l c hl) rfl ?_;by_cases h:l.getLast?=some c
 .have e1:IntKind.i64.wrap ((((bs l).size:Nat):Int)-(((bs [c]).size:Nat):Int))=((l.length-1:Nat):Int):=by
   have:l≠[]:=by rintro rfl;simp at h
   have:0<l.length:=s7.2 this;rw[ao,ao,cA (by simp;omega) (by simp[aw];omega)];simp;omega
  have e2:((l.length-1:Nat):Int)<=(((bs l).size:Nat):Int):=by rw[ao];omega
  have e3:(bs l).extract 0 (l.length-1)=bs l.dropLast:=by rw[cY,mE,List.dropLast_eq_take]
  simp only[h,e1,e2,e3,pV,go_sem,simprocAttr]
 .simp only[h,pV,go_sem,simprocAttr]
theorem IT(l)(c)(hl:l.length<1000000000):af TP 260 [.str (bs l),.str (bs [c])] (.str (bs (pV c l))):=by
 refine aa (ah Tryz.func260 rfl (by kernel_rfl)) rfl ?_;simp only[go_sem,simprocAttr];refine ae (On l c hl) rfl ?_;simp only[go_sem,simprocAttr]
def aP (c:UInt8):List UInt8->List (List UInt8)
 |[]=>[[]]
 |x::r=>if x=c then []::aP c r else match aP c r with|[]=>[[x]]|a::t=>(x::a)::t
theorem mh(c):∀l,aP c l=(aK c l).1::(match (aK c l).2 with|none=>[]|some r=>aP c r)
 |[]=>rfl
 |x::r=>by
  by_cases hx:x=c
  .simp only[aP,aK,if_pos hx]
  .simp only[aP,aK,if_neg hx];rw[mh c r]
theorem mK{c}{l}(h:(aK c l).2=none):aP c l=[l]:=by
 rcases kl c l with⟨h1,h2,h3⟩|⟨r,h1,_⟩
 .rw[mh,h1,h2]
 .rw[h1]at h;cases h
theorem mJ{c}{l r}(h:(aK c l).2=some r):aP c l=(aK c l).1::aP c r:=by
 rw[mh,h]
theorem oc(c):∀l,(aP c l).length=l.count c+1
 |[]=>rfl
 |x::r=>by
  have ih:=oc c r;unfold aP;by_cases hx:x=c
  .subst hx;simp[ih]
  .rw[if_neg hx,List.count_cons_of_ne hx]
   cases hs:aP c r with
   |nil=>rw[hs]at ih;simp at ih
   |cons a t=>rw[hs]at ih;simpa using ih
theorem oa(c)(l):0<(aP c l).length:=by rw[oc];omega
theorem qk(c)(l):(aP c l).length<=l.length+1:=by rw[oc];have:=List.count_le_length (a:=c) (l:=l);omega
def bE (l:List (List UInt8)):PV:=.slice 1 (l.map λx=>.str (bs x)) false
def fT (N:Nat) (done:List (List UInt8)):List AV:=(done.map λx=>AV.p (.str (bs x)))++List.replicate (N-done.length) (AV.p (.str ⟨#[]⟩))
theorem FT{N}{done}(h:done.length<=N):(fT N done).length=N:=by simp[fT];omega
theorem Ig{N}{done}(h:done.length<N):(fT N done)[done.length]?=some (AV.p (.str ⟨#[]⟩)):=by
 unfold fT;rw[bW (by simp),KP];simp;omega
theorem wR{N}{done}(x)(h:done.length<N):(fT N done).set done.length (AV.p (.str (bs x)))=fT N (done++[x]):=by
 unfold fT;rw[uU _ _ (by simp)];obtain⟨k,hk⟩:∃k,N-done.length=k+1:=⟨N-done.length-1,by omega⟩
 have hk2:N-(done++[x]).length=k:=by simp;omega
 rw[hk,hk2];simp[KB]
theorem FU{N}{done}(h:done.length=N):fT N done=done.map λx=>AV.p (.str (bs x)):=by
 unfold fT;rw[h];simp
theorem Cj(n N)(done):∀x,x∈fT N done->below n x:=by
 intro x hx;simp only[fT,dr,cH,List.mem_replicate]at hx;rcases hx with⟨_,_,rfl⟩|⟨_,rfl⟩<;>exact trivial
theorem Ot(l)(c)(hl:l.length<1000000000):af TP 200 [.str (bs l),.str (bs [c]),.int .i64 0,.int .i64 (-1)] (bE (aP c l)):=by
 refine dg (ah Tryz.func200 rfl (by kernel_rfl)) rfl ?_;have hsep:(bs [c]==(⟨#[]⟩:ByteArray))=false:=by
  rw[show (⟨#[]⟩:ByteArray)=bs [] from rfl,cc];rfl
 obtain⟨N,hN⟩:∃N,N=(aP c l).length:=⟨_,rfl⟩
 have hN1:0<N:=hN▸oa c l;have hNl:N<=l.length+1:=hN▸qk c l;have hcnt:IntKind.i64.wrap ((Lib.countByte (bs l).data.toList c:Int)+1)=(N:Int):=by
  refine bj (by omega) (by simp[aw];omega) ?_;rw[gF];unfold Lib.countByte;rw[hN,oc];rfl
 simp only[hsep,go_sem,simprocAttr];refine ae (Ow (bs l) c) rfl ?_;have hw:IntKind.i64.wrap ((((bs l).size:Nat):Int)+1)=((l.length+1:Nat):Int):=by
  rw[ao];exact bj (by omega) (by simp[aw];omega) (by simp)
 have hmin:¬(((l.length+1:Nat):Int)<(N:Int)):=by omega
 have hroom:((N:Int)<=((aw:Nat):Int)):=by simp[aw];omega
 have hN2:IntKind.i64.wrap ((N:Int)-1)=((N-1:Nat):Int):=by rw[cA (by omega) (by simp[aw];omega)];omega
 simp only[hcnt,hw,hmin,hroom,hN2,go_sem,simprocAttr]
 refine gH [1,2,3,9] (σ:=List (List UInt8)×List UInt8) (λq=>aP c l=q.1++aP c q.2/\q.2.length<=l.length) (λq=>q.2.length)
  (λq=>[(0,.p (.str (bs q.2))),(10,.p (.int .i64 q.1.length))]) (λq=>[.row 1 (fT N q.1)]) ([],l) ⟨rfl,bB _⟩ ?_ ?_
 .simp only[fT,go_sem,simprocAttr];all_goals first|(simp;done)|(simp;intro _;trivial)
 rintro⟨done,r⟩ ⟨e1,e2⟩
 dsimp only at e1 e2;have hlen:=congrArg List.length e1;rw[<-hN,aB]at hlen;have hlt0:done.length<N:=by have:=oa c r;omega
 have hrl:=FT (Nat.le_of_lt hlt0);have hat:=Ig hlt0;have hi0:(done.length:Int)<(N:Int):=by omega
 rcases kl c r with⟨h1,h2,h3⟩|⟨r',h1,h2,h3⟩
 .have hs:=mK h1;rw[hs,bn]at hlen;have hge:decide ((done.length:Int)<((N-1:Nat):Int))=false:=by simp;omega
  have hset:=wR r hlt0;have hall:fT N (done++[r])=(aP c l).map λx=>AV.p (.str (bs x)):=by rw[FU (by simp;omega),e1,hs]
  have hw2:IntKind.i64.wrap ((done.length:Int)+1)=(N:Int):=bj (by omega) (by simp[aw];omega) (by omega);have hN3:(aP c l).length=N:=hN.symm;simp only[hge,hrl,hat,hi0,hset,hall,hw2,hN3,go_sem,simprocAttr];rw[bE,Nat.sub_zero,eD (by simp[hN3])]
 .have hs:=mJ h1;have hlt:decide ((done.length:Int)<((N-1:Nat):Int))=true:=by
   have:=oa c r';have:=congrArg List.length hs;simp at this |-;omega
  have hset:=wR (aK c r).1 hlt0;have hrlen:=congrArg List.length h3;simp only[aB,cu]at hrlen;simp only[hlt,go_sem,simprocAttr];refine ae (Hk (bs r) c) rfl ?_;have hd:Lib.indexByte (bs r).data.toList c=((aK c r).1.length:Int):=h2;have f0:decide (((aK c r).1.length:Int)<0)=false:=by simp
  have f1:IntKind.i64.wrap (((aK c r).1.length:Int)+0)=((aK c r).1.length:Int):=bj (by omega) (by simp[aw];omega) (by simp);have f2:(((aK c r).1.length:Int)<=((bs r).size:Int)):=by rw[ao];omega
  have f3:(bs r).extract 0 (aK c r).1.length=bs (aK c r).1:=by
   rw[cY,mE]
   congr 1
   have:=congrArg (List.take (aK c r).1.length) h3;rw[gk]at this
   .exact this
   .rfl
  have f4:IntKind.i64.wrap (((aK c r).1.length:Int)+(((bs [c]).size:Nat):Int))=(((aK c r).1.length+1:Nat):Int):=by
   rw[ao];exact bj (by omega) (by simp[aw];omega) (by simp)
  have f5:((((aK c r).1.length+1:Nat):Int)<=((bs r).size:Int)):=by rw[ao];omega
  have f6:(bs r).extract ((aK c r).1.length+1) (bs r).size=bs r':=by
   rw[cY,ao,qN]
   congr 1
   have:=congrArg (List.drop ((aK c r).1.length+1)) h3;rw[this];simp
  have hnx:IntKind.i64.wrap ((done.length:Int)+1)=(((done++[(aK c r).1]).length:Nat):Int):=bj (by omega) (by simp[aw];omega) (by simp);simp only[hd,f0,f1,f2,f3,f4,f5,f6,hrl,hat,hi0,hset,go_sem,simprocAttr];refine bU (done++[(aK c r).1],r') ⟨by rw[e1,hs];simp,by show r'.length<=l.length;omega⟩ (by show r'.length<r.length;omega) ?_;simp only[hnx,go_sem,simprocAttr];exact Cj _ _ _
theorem D6(l)(c)(hl:l.length<1000000000):af TP 136 [.str (bs l),.str (bs [c])] (bE (aP c l)):=by
 refine aa (ah Tryz.func136 rfl (by kernel_rfl)) rfl ?_;simp only[go_sem,simprocAttr];refine ae (Ot l c hl) rfl ?_;simp only[go_sem,simprocAttr]
def o8 (p:List UInt8):List (List UInt8)->List (List UInt8)
 |[]=>[p]
 |a::t=>(p++a)::t
theorem BT(L)(h:L≠[]):o8 [] L=L:=by cases L<;>simp_all [o8]
theorem qj(c)(l):aP c l≠[]:=λh=>by have:=oa c l;rw[h]at this;simp at this
theorem Mh(c)(p r):o8 p (aP c (c::r))=p::aP c r:=by simp[aP,o8]
theorem Je{c x}(hx:x≠c)(p r):o8 p (aP c (x::r))=o8 (p++[x]) (aP c r):=by
 rw[aP,if_neg hx]
 cases hs:aP c r with
 |nil=>exact absurd hs (qj c r)
 |cons a t=>simp[o8]
theorem xS(l)(i:Nat):(bs l)[i]?=l[i]?:=by rw[pN];rfl
theorem Oh(l)(c)(hl:l.length<1000000000):af TP 37 [.str (bs l),.int .u8 c.toNat] (bE (aP c l)):=by
 refine dg (ah Tryz.func37 rfl (by kernel_rfl)) rfl ?_;simp only[go_sem,simprocAttr];refine cl 5 1 (by simp only[go_sem,simprocAttr]) ?_;simp only[go_sem,simprocAttr]
 refine gH [0,1] (σ:=List (List UInt8)×List UInt8×List UInt8×List UInt8×Nat) (λq=>l=q.2.1++q.2.2.1++q.2.2.2.1/\aP c l=q.1++o8 q.2.2.1 (aP c q.2.2.2.1)/\q.1.length<=q.2.1.length/\q.2.2.2.2=q.2.1.length+q.2.2.1.length) (λq=>q.2.2.2.1.length)
  (λq=>[(5,.slice 0 q.1.length 0 q.1.length),(6,.p (.int .i64 q.2.1.length)),(7,.p (.int .i64 q.2.2.2.2))]) (λq=>[.row 1 (q.1.map λx=>.p (.str (bs x)))]) ([],[],[],l,0)
  ⟨rfl,by rw[BT _ (qj c l)];rfl,bB _,rfl⟩ ?_ ?_
 .simp only[go_sem,simprocAttr]<;>simp
 rintro⟨iP,pre,cur,r,k⟩ ⟨e1,e2,e3,e4⟩
 dsimp only at e1 e2 e3 e4;have hlen:=congrArg List.length e1;simp only[aB]at hlen;have hrm:iP.length+1<=aw:=by simp[aw];omega
 have hpc:(pre++cur).length=k:=by rw[aB,e4]
 cases r with
 |nil=>
  have hlt:decide (((k:Nat):Int)<(((bs l).size:Nat):Int))=false:=by rw[ao];simp;simp at hlen;omega
  have h1:((pre.length:Nat):Int)<=(((bs l).size:Nat):Int):=by rw[ao];omega
  have h2:(bs l).extract pre.length (bs l).size=bs cur:=by
   rw[cY,ao,qN,e1];simp
  have hrow:(iP.map λx=>AV.p (.str (bs x)))++[AV.p (.str (bs cur))]=(iP++[cur]).map λx=>AV.p (.str (bs x)):=by simp
  have hl2:(iP++[cur]).length=iP.length+1:=by simp
  have hs:aP c l=iP++[cur]:=by rw[e2];simp[o8,aP]
  simp only[hlt,h1,h2,hrm,hrow,hl2,go_sem,simprocAttr]
  rw[hs,bE,eD (by simp)]
 |cons x r=>
  simp only[cu]at hlen;have hlt:decide (((k:Nat):Int)<(((bs l).size:Nat):Int))=true:=by rw[ao];simp;omega
  have hx:(bs l)[k]?=some x:=by
   rw[xS,e1,<-hpc];simp
  have hnx:IntKind.i64.wrap (((k:Nat):Int)+1)=((k+1:Nat):Int):=bj (by omega) (by simp[aw];omega) (by simp);by_cases hc:x=c
  .subst hc;have hb:(((x.toNat:Nat):Int)==((x.toNat:Nat):Int))=true:=by simp
   have h1:((pre.length:Nat):Int)<=((k:Nat):Int):=by omega
   have h2:((k:Nat):Int)<=(((bs l).size:Nat):Int):=by rw[ao];omega
   have h3:(bs l).extract pre.length k=bs cur:=by
    rw[cY,e1,<-hpc]
    congr 1
    rw[gk rfl];simp
   simp only[hlt,hx,hb,h1,h2,h3,hrm,go_sem,simprocAttr];have hp:((pre++cur++[x]).length:Nat)=k+1:=by simp at hpc |-;omega
   refine bU (iP++[cur],pre++cur++[x],[],r,k+1) ⟨by rw[e1];simp,by rw[e2,Mh,BT _ (qj x r)];simp,by show (iP++[cur]).length<=(pre++cur++[x]).length;rw[hp];simp;omega,by show k+1=(pre++cur++[x]).length+0;rw[hp]⟩ (j4 _) ?_;simp only[hnx,hp,go_sem,simprocAttr];simp
  .have hb:(((x.toNat:Nat):Int)==((c.toNat:Nat):Int))=false:=by
    have:x.toNat≠c.toNat:=λh=>hc (UInt8.toNat_inj.1 h);simp;omega
   simp only[hlt,hx,hb,go_sem,simprocAttr];refine bU (iP,pre,cur++[x],r,k+1) ⟨by rw[e1];simp,by rw[e2,Je hc],e3,by show k+1=pre.length+(cur++[x]).length;simp;omega⟩ (j4 _) ?_;simp only[hnx,go_sem,simprocAttr]
theorem EM(n):(Lib.decDigits n).length<=n+1:=by
 induction n using Nat.strongRecOn with
 |ind n ih=>
  rw[Lib.decDigits];split
  .simp
  .have:=ih (n / 10) (by omega);simp;omega
theorem TY(n:Nat):n<1000000000->af TP 20 [.int .i64 n] (.str (bs (Lib.decDigits n))):=by
 induction n using Nat.strongRecOn with
 |ind n ih=>
  intro hn;refine aa (ah Tryz.func20 rfl (by kernel_rfl)) rfl ?_;have h1:((n:Nat):Int).tmod 10=((n%10:Nat):Int):=by rw[Int.tmod_eq_emod_of_nonneg (by omega)];omega
  have h2:IntKind.i64.wrap (48+((n%10:Nat):Int))=((48+n%10:Nat):Int):=by rw[cA (by omega) (by simp[aw];omega)];simp
  have h3:IntKind.u8.wrap ((48+n%10:Nat):Int)=((48+n%10:Nat):Int):=by
   simp[IntKind.wrap,IntKind.signed,IntKind.bits];omega
  have h5:(⟨#[UInt8.ofNat (48+n%10)]⟩:ByteArray)=bs [UInt8.ofNat (48+n%10)]:=rfl;have h6:IntKind.i64.wrap (((n:Nat):Int).tdiv 10)=((n / 10:Nat):Int):=by rw[Int.tdiv_eq_ediv_of_nonneg (by omega),cA (by omega) (by simp[aw];omega)];omega
  by_cases hge:10<=n
  .have h4:decide ((10:Int)<=((n:Nat):Int))=true:=by simp;omega
   have h7:(bs (Lib.decDigits (n / 10))).size+(bs [UInt8.ofNat (48+n%10)]).size<=bG:=by
    have:=EM (n / 10);rw[ao,ao,bn];unfold bG;omega
   simp only[h1,h2,h3,h4,h6,h5,go_sem,simprocAttr];refine ae (ih (n / 10) (by omega) (by omega)) rfl ?_;simp only[h7,dQ,go_sem,simprocAttr]
   conv=>rhs;rw[Lib.decDigits,dif_neg (by omega)]
  .have h4:decide ((10:Int)<=((n:Nat):Int))=false:=by simp;omega
   have h8:n%10=n:=by omega
   simp only[h1,h2,h3,h4,h5,go_sem,simprocAttr]
   conv=>rhs;rw[Lib.decDigits,dif_pos (by omega)]
   rw[h8]
end Abs
end Go.Proofs.YtoapoaoelpcniaaGreatDoor
