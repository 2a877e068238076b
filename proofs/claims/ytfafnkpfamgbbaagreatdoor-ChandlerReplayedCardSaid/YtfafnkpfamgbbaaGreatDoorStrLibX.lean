/-
  CONTRACTS: numbers as texts and back, a byte sought in a text, counted: by the library's o
  CONTRACTS: texts as lists of bytes; strings.Cut, TrimSuffix at one byte. No conditions but
  CONTRACTS: strings.Split at one byte; the reference's Split and Digits. No conditions but 
-/
import Derived.Test.YtfafnkpfamgbbaaGreatDoorHrRatX
import Derived.Test.YtfafnkpfamgbbaaGreatDoorSeatTy
import Derived.Test.YtfafnkpfamgbbaaGreatDoorAbsKill
import Derived.Lib.AppendIntMem
import Derived.Lib.AtoiErrMem
import Derived.Test.YtfafnkpfamgbbaaGreatDoorAbsCutX
import Derived.Test.YtfafnkpfamgbbaaGreatDoorLibGoX
set_option linter.unusedSimpArgs false
set_option linter.unusedVariables false
open Go.Proofs.Tryz renaming prog->TP
namespace Go.Proofs.YtfafnkpfamgbbaaGreatDoor
namespace Abs
open Go.RowKit Go.Sort
theorem mj {w w'} (h:Below w.heap.size w w'):Fr [] w w' :=
 ⟨h.os,h.tape,h.output,h.size,λb hb _=>h.block b hb,λb hb=>by simp only [World.shape?,h.block b hb]⟩
theorem LN {M} {w} {cargs} {q} (h:qL M w cargs [q]):∃ v,cargs=#[v]/\RepP M w v q:=by
 have hn:=h.1;refine ⟨cargs.getD 0 undef,?_,h.2 0 q rfl⟩;apply j6
 .simpa using hn
 .intro i h1 h2;have:i=0:=by simp at h2;omega
  subst this;simp [h1]
theorem zR {M} {w} {cargs} {p q} (h:qL M w cargs [p,q]):∃ u v,cargs=#[u,v]/\RepP M w u p/\RepP M w v q:=by
 have hn:=h.1;refine ⟨cargs.getD 0 undef,cargs.getD 1 undef,?_,h.2 0 p rfl,h.2 1 q rfl⟩;apply j6
 .simpa using hn
 .intro i h1 h2;have:i=0\/i=1:=by simp at h2;omega
  rcases this with rfl | rfl<;>simp [h1]
def An (n:Int):ByteArray:=⟨(Lib.itoa n).toArray⟩
theorem xy (n) (h0:-9223372036854775808<=n) (h1:n<=9223372036854775807):ah TP 32 [.int .i64 n] (.str (An n)):=by
 intro M0 w cargs hM hg ha;obtain ⟨v,rfl,hv⟩:=LN ha;cases hv;refine ⟨(λw'=>jn Tryz.func32 zcb _ w'),?_⟩;have hn:(TP.globalNamed "internal/strconv.uint64pow10").isSome=true:=by kernel_rfl
 obtain ⟨b,hb⟩:=jO.1 hn;refine (Any.strconv_Itoa Tryz.laysM171 n h0 h1 w (hg.1 b hb)).mono ?_
 rintro e w' ⟨rfl,k,os,rfl⟩
 exact ⟨_,rfl,.str _,mj (Lib.below_grow _ _ (bM _) _ _)⟩
def kE (s:ByteArray):PV :=
 match Lib.atoiAll s.data.toList with
 |.ok v=>.tuple [.int .i64 v,.niliface]
 |.range=>.tuple [.int .i64 (Lib.atoiSat s.data.toList),.iface 309 .any]
 |_=>.tuple [.int .i64 0,.iface 309 .any]
theorem xf {M} {w} {a b} {p q} (h1:RepP M w a p) (h2:RepP M w b q):RepP M w (.tuple #[a,b]) (.tuple [p,q]) :=
 .tuple rfl λi c hi=>by
  match i,hi with
  |0,hi=>cases hi;exact h1
  |1,hi=>cases hi;exact h2
theorem Ed (s) (hs:s.size<=281474976710656):ah TP 103 [.str s] (kE s):=by
 intro M0 w cargs hM hg ha;obtain ⟨v,rfl,hv⟩:=LN ha;cases hv;refine ⟨(λw'=>jn Tryz.func103 Y2 _ w'),?_⟩;unfold kE
 cases hr:Lib.atoiAll s.data.toList with
 |ok v =>
  refine (Any.strconv_Atoi_ok Tryz.laysC172 s (by omega) v hr w).mono ?_
  rintro e w' ⟨rfl,h⟩
  refine ⟨_,rfl,xf (.int _ _) .niliface,?_⟩;rcases h with rfl | ⟨t,rfl⟩
  .exact Fr.refl _ _
  .exact mj (Lib.bytesWorld_below _ _ _)
 |range =>
  have hn:(TP.globalNamed "strconv.ErrRange").isSome=true:=by kernel_rfl
  obtain ⟨b,hb⟩:=jO.1 hn;obtain ⟨tp,p,hvar⟩:=hg.2.2 b hb;refine (Any.strconv_Atoi_range_var Tryz.laysC172 s hs hr tp p w hvar).mono ?_
  rintro e w' ⟨N,rfl,_,_,hbl⟩
  exact ⟨_,rfl,xf (.int _ _) (.iface .any),mj hbl⟩
 |_ =>
  have hn:(TP.globalNamed "strconv.ErrSyntax").isSome=true:=by kernel_rfl
  obtain ⟨b,hb⟩:=jO.1 hn;obtain ⟨tp,p,hvar⟩:=hg.2.1 b hb;refine (Any.strconv_Atoi_syntax_var Tryz.laysC172 s hs hr tp p w hvar).mono ?_
  rintro e w' ⟨N,rfl,_,_,hbl⟩
  exact ⟨_,rfl,xf (.int _ _) (.iface .any),mj hbl⟩
theorem KA (s) (c):ah TP 83 [.str s,.str ⟨#[c]⟩] (.int .i64 (Lib.indexByte s.data.toList c)):=by
 intro M0 w cargs hM hg ha;obtain ⟨u,v,rfl,hu,hv⟩:=zR ha;cases hu;cases hv;refine ⟨(λw'=>jn Tryz.func83 zbu _ w'),?_⟩;refine (Any.stringslite_Index_one Tryz.lays219 s c w).mono ?_
 rintro e w' ⟨rfl,rfl⟩
 exact ⟨_,rfl,.int _ _,Fr.refl _ _⟩
theorem F8 (s) (c):ah TP 87 [.str s,.str ⟨#[c]⟩] (.int .i64 (Lib.indexByte s.data.toList c)):=by
 intro M0 w cargs hM hg ha;obtain ⟨u,v,rfl,hu,hv⟩:=zR ha;cases hu;cases hv;refine ⟨(λw'=>jn Tryz.func87 zbs _ w'),?_⟩;refine (Any.strings_Index_one Tryz.lays143 s c w).mono ?_
 rintro e w' ⟨rfl,rfl⟩
 exact ⟨_,rfl,.int _ _,Fr.refl _ _⟩
theorem MW (s) (c):ah TP 85 [.str s,.str ⟨#[c]⟩] (.int .i64 (Lib.countByte s.data.toList c)):=by
 intro M0 w cargs hM hg ha;obtain ⟨u,v,rfl,hu,hv⟩:=zR ha;cases hu;cases hv;refine ⟨(λw'=>jn Tryz.func85 zbt _ w'),?_⟩;refine (Any.strings_Count_one Tryz.lays138 s c w).mono ?_
 rintro e w' ⟨rfl,rfl⟩
 exact ⟨_,rfl,.int _ _,Fr.refl _ _⟩
set_option maxRecDepth 4000
def bs (l:List UInt8):ByteArray:=⟨l.toArray⟩
theorem gq (l):(bs l).data.toList=l:=rfl
theorem aq (l):(bs l).size=l.length:=by simp [bs,ByteArray.size]
theorem tr (s):bs s.data.toList=s:=by cases s;rfl
theorem cZ (l) (i j):(bs l).extract i j=bs ((l.take j).drop i):=by
 apply ByteArray.ext;rw [ByteArray.data_extract];simp [bs,List.drop_take]
theorem gI (a b):bs a++bs b=bs (a++b):=by
 apply ByteArray.ext;simp [bs]
theorem U0 {a b}:bs a=bs b↔a=b :=
 ⟨λh=>by have:=congrArg (λs:ByteArray=>s.data.toList) h;simpa [gq] using this,λh=>h▸rfl⟩
theorem pk (x y:ByteArray):(x==y)=true↔x=y:=by
 cases x with
 |mk a =>
  cases y with
  |mk b =>
   show (a==b)=true↔_;rw [beq_iff_eq];exact ⟨λh=>h▸rfl,λh=>by cases h;rfl⟩
theorem cf (a b):(bs a==bs b)=(a==b):=by
 rw [qX,pk,beq_iff_eq,U0]
def aH (c:UInt8):List UInt8->List UInt8×Option (List UInt8)
 |[]=>([],none)
 |x::r=>if x=c then ([],some r) else (x::(aH c r).1,(aH c r).2)
theorem jV (c):∀ l,((aH c l).2=none/\(aH c l).1=l/\Lib.indexByte l c=-1) \/
  ∃ r,(aH c l).2=some r/\Lib.indexByte l c=((aH c l).1.length:Int)/\l=(aH c l).1++c::r
 |[]=>.inl ⟨rfl,rfl,rfl⟩
 |x::l=>by
  unfold aH Lib.indexByte;by_cases hx:x=c
  .subst hx;simp
  .have hb:(x==c)=false:=by simpa using hx
   rw [if_neg hx,hb];simp only [fA,if_false];rcases jV c l with ⟨h1,h2,h3⟩ | ⟨r,h1,h2,h3⟩
   .exact .inl ⟨h1,by simp [h2],by simp [h3]⟩
   .refine .inr ⟨r,h1,?_,?_⟩
    .rw [h2];have:¬ ((((aH c l).1.length:Int)==-1)=true):=by simp
     rw [if_neg this];simp
    .simp [<-h3]
theorem uI (c):∀ (l r),(aH c l).2=some r->r.length<l.length:=by
 intro l r h;rcases jV c l with ⟨h1,_⟩ | ⟨r',h1,_,h3⟩
 .rw [h1] at h;cases h
 .rw [h1] at h;cases h;have:=congrArg List.length h3;simp at this;omega
theorem O6 (l) (c) (hl:l.length<1000000000):ah TP 53 [.str (bs l),.str (bs [c])] (.tuple [.str (bs (aH c l).1),.str (bs ((aH c l).2.getD [])),.bool (aH c l).2.isSome]):=by
 refine aa (ai (by kernel_rfl) rfl zbU) rfl ?_;simp only [go_sem,simprocAttr];refine ae (KA (bs l) c) rfl ?_;rw [gq];rcases jV c l with ⟨h1,h2,h3⟩ | ⟨r,h1,h2,h3⟩
 .simp only [h1,h2,h3,go_sem,simprocAttr];exact ⟨rfl,rfl⟩
 .have hlen:=congrArg List.length h3;simp only [aI,ct] at hlen;have e0:decide ((0:Int)<=((aH c l).1.length:Int))=true:=by simp
  have e1:(((aH c l).1.length:Int)<=((bs l).size:Int)):=by rw [aq];omega
  have e2:IntKind.i64.wrap (((aH c l).1.length:Int)+(((bs [c]).size:Nat):Int))=(((aH c l).1.length+1:Nat):Int):=by
   rw [aq];exact ba (by omega) (by simp [aw];omega) (by simp)
  have e3:((((aH c l).1.length+1:Nat):Int)<=((bs l).size:Int)):=by rw [aq];omega
  have e4:(bs l).extract 0 (aH c l).1.length=bs (aH c l).1:=by
   rw [cZ,nq]
   congr 1
   have:=congrArg (List.take (aH c l).1.length) h3;rw [d9] at this
   .exact this
   .rfl
  have e5:(bs l).extract ((aH c l).1.length+1) (bs l).size=bs r:=by
   rw [cZ,aq,qW]
   congr 1
   have:=congrArg (List.drop ((aH c l).1.length+1)) h3;rw [this];simp
  simp only [h1,h2,e1,e2,e3,e4,e5,go_sem,simprocAttr];try exact ⟨rfl,rfl⟩
theorem tm (l) (c) (hl:l.length<1000000000):ah TP 31 [.str (bs l),.str (bs [c])] (.tuple [.str (bs (aH c l).1),.str (bs ((aH c l).2.getD [])),.bool (aH c l).2.isSome]):=by
 refine aa (ai (by kernel_rfl) rfl zcc) rfl ?_;simp only [go_sem,simprocAttr];refine ae (O6 l c hl) rfl ?_;simp only [go_sem,simprocAttr]
def oW (c:UInt8) (l:List UInt8):List UInt8:=if l.getLast?=some c then l.dropLast else l
theorem KC (l) (c) (hl:l.length<1000000000):ah TP 303 [.str (bs l),.str (bs [c])] (.bool (decide (l.getLast?=some c))):=by
 refine aa (ai (by kernel_rfl) rfl Wv) rfl ?_;rcases wU l with rfl | ⟨a,x,rfl⟩
 .have e1:decide ((((bs [c]).size:Nat):Int)<=(((bs []).size:Nat):Int))=false:=by rw [aq,aq];simp
  simp only [e1,go_sem,simprocAttr];simp
 .rw [wZ] at hl |-;have e1:decide ((((bs [c]).size:Nat):Int)<=(((bs (a++[x])).size:Nat):Int))=true:=by rw [aq,aq];simp<;>omega
  have e2:IntKind.i64.wrap ((((bs (a++[x])).size:Nat):Int)-(((bs [c]).size:Nat):Int))=((a.length:Nat):Int):=by
   rw [aq,aq,cM (by simp) (by simp [aw] at hl |-;omega)];simp
  have e3:((a.length:Nat):Int)<=(((bs (a++[x])).size:Nat):Int):=by rw [aq];simp<;>omega
  have e4:(bs (a++[x])).extract a.length (bs (a++[x])).size=bs [x]:=by
   rw [cZ,aq,qW];simp
  have e5:(bs [x]==bs [c])=decide ((a++[x]).getLast?=some c):=by
   rw [cf,List.getLast?_concat,qX];simp
  simp only [e1,e2,e3,e4,e5,go_sem,simprocAttr]
theorem MQ (l) (c) (hl:l.length<1000000000):ah TP 278 [.str (bs l),.str (bs [c])] (.str (bs (oW c l))):=by
 refine aa (ai (by kernel_rfl) rfl WY) rfl ?_;simp only [go_sem,simprocAttr];refine ae (KC l c hl) rfl ?_;by_cases h:l.getLast?=some c
 .have e1:IntKind.i64.wrap ((((bs l).size:Nat):Int)-(((bs [c]).size:Nat):Int))=((l.length-1:Nat):Int):=by
   have:l≠[]:=by rintro rfl;simp at h
   have:0<l.length:=tN.2 this;rw [aq,aq,cM (by simp;omega) (by simp [aw];omega)];simp;omega
  have e2:((l.length-1:Nat):Int)<=(((bs l).size:Nat):Int):=by rw [aq];omega
  have e3:(bs l).extract 0 (l.length-1)=bs l.dropLast:=by rw [cZ,nq,List.dropLast_eq_take]
  simp only [h,e1,e2,e3,oW,go_sem,simprocAttr]
 .simp only [h,oW,go_sem,simprocAttr]
theorem Ht (l) (c) (hl:l.length<1000000000):ah TP 234 [.str (bs l),.str (bs [c])] (.str (bs (oW c l))):=by
 refine aa (ai (by kernel_rfl) rfl Xv) rfl ?_;simp only [go_sem,simprocAttr];refine ae (MQ l c hl) rfl ?_;simp only [go_sem,simprocAttr]
def aJ (c:UInt8):List UInt8->List (List UInt8)
 |[]=>[[]]
 |x::r=>if x=c then []::aJ c r else match aJ c r with | []=>[[x]] | a::t=>(x::a)::t
theorem lI (c):∀ l,aJ c l=(aH c l).1::(match (aH c l).2 with | none=>[] | some r=>aJ c r)
 |[]=>rfl
 |x::r=>by
  by_cases hx:x=c
  .simp only [aJ,aH,if_pos hx]
  .simp only [aJ,aH,if_neg hx];rw [lI c r]
theorem l6 {c} {l} (h:(aH c l).2=none):aJ c l=[l]:=by
 rcases jV c l with ⟨h1,h2,h3⟩ | ⟨r,h1,_⟩
 .rw [lI,h1,h2]
 .rw [h1] at h;cases h
theorem l5 {c} {l r} (h:(aH c l).2=some r):aJ c l=(aH c l).1::aJ c r:=by
 rw [lI,h]
theorem nB (c):∀ l,(aJ c l).length=l.count c+1
 |[]=>rfl
 |x::r=>by
  have ih:=nB c r;unfold aJ;by_cases hx:x=c
  .subst hx;simp [ih]
  .rw [if_neg hx,List.count_cons_of_ne hx]
   cases hs:aJ c r with
   |nil=>rw [hs] at ih;simp at ih
   |cons a t=>rw [hs] at ih;simpa using ih
theorem lH (c) (l):0<(aJ c l).length:=by rw [nB];omega
theorem pz (c) (l):(aJ c l).length<=l.length+1:=by rw [nB];have:=List.count_le_length (a:=c) (l:=l);omega
def bG (l:List (List UInt8)):PV:=.slice 1 (l.map λx=>.str (bs x)) false
def fG (N:Nat) (done:List (List UInt8)):List AV:=(done.map λx=>AV.p (.str (bs x)))++List.replicate (N-done.length) (AV.p (.str ⟨#[]⟩))
theorem EG {N} {done} (h:done.length<=N):(fG N done).length=N:=by simp [fG];omega
theorem GW {N} {done} (h:done.length<N):(fG N done)[done.length]?=some (AV.p (.str ⟨#[]⟩)):=by
 unfold fG;rw [cn (by simp),Jl];simp;omega
theorem vB {N} {done} (x) (h:done.length<N):(fG N done).set done.length (AV.p (.str (bs x)))=fG N (done++[x]):=by
 unfold fG;rw [tP _ _ (by simp)];obtain ⟨k,hk⟩:∃ k,N-done.length=k+1:=⟨N-done.length-1,by omega⟩
 have hk2:N-(done++[x]).length=k:=by simp;omega
 rw [hk,hk2];simp [Jg]
theorem EH {N} {done} (h:done.length=N):fG N done=done.map λx=>AV.p (.str (bs x)):=by
 unfold fG;rw [h];simp
theorem Bm (n N) (done):∀ x,x∈fG N done->below n x:=by
 intro x hx;simp only [fG,ea,ec,List.mem_replicate] at hx;rcases hx with ⟨_,_,rfl⟩ | ⟨_,rfl⟩<;>exact trivial
theorem MT (l) (c) (hl:l.length<1000000000):ah TP 169 [.str (bs l),.str (bs [c]),.int .i64 0,.int .i64 (-1)] (bG (aJ c l)):=by
 refine cW (ai (by kernel_rfl) rfl Yd) rfl ?_;have hsep:(bs [c]==(⟨#[]⟩:ByteArray))=false:=by
  rw [show (⟨#[]⟩:ByteArray)=bs [] from rfl,cf];rfl
 obtain ⟨N,hN⟩:∃ N,N=(aJ c l).length:=⟨_,rfl⟩
 have hN1:0<N:=hN▸lH c l;have hNl:N<=l.length+1:=hN▸pz c l;have hcnt:IntKind.i64.wrap ((Lib.countByte (bs l).data.toList c:Int)+1)=(N:Int):=by
  refine ba (by omega) (by simp [aw];omega) ?_;rw [gq];unfold Lib.countByte;rw [hN,nB];rfl
 simp only [hsep,go_sem,simprocAttr];refine ae (MW (bs l) c) rfl ?_;have hw:IntKind.i64.wrap ((((bs l).size:Nat):Int)+1)=((l.length+1:Nat):Int):=by
  rw [aq];exact ba (by omega) (by simp [aw];omega) (by simp)
 have hmin:¬ (((l.length+1:Nat):Int)<(N:Int)):=by omega
 have hroom:((N:Int)<=((aw:Nat):Int)):=by simp [aw];omega
 have hN2:IntKind.i64.wrap ((N:Int)-1)=((N-1:Nat):Int):=by rw [cM (by omega) (by simp [aw];omega)];omega
 simp only [hcnt,hw,hmin,hroom,hN2,go_sem,simprocAttr]
 refine gu [1,2,3,9] (σ:=List (List UInt8)×List UInt8) (λq=>aJ c l=q.1++aJ c q.2/\q.2.length<=l.length) (λq=>q.2.length)
  (λq=>[(0,.p (.str (bs q.2))),(10,.p (.int .i64 q.1.length))]) (λq=>[.row 1 (fG N q.1)]) ([],l) ⟨rfl,bM _⟩ ?_ ?_
 .simp only [fG,go_sem,simprocAttr];all_goals first | (simp;done) | (simp;intro _;trivial)
 rintro ⟨done,r⟩ ⟨e1,e2⟩
 dsimp only at e1 e2;have hlen:=congrArg List.length e1;rw [<-hN,aI] at hlen;have hlt0:done.length<N:=by have:=lH c r;omega
 have hrl:=EG (Nat.le_of_lt hlt0);have hat:=GW hlt0;have hi0:(done.length:Int)<(N:Int):=by omega
 rcases jV c r with ⟨h1,h2,h3⟩ | ⟨r',h1,h2,h3⟩
 .have hs:=l6 h1;rw [hs,bh] at hlen;have hge:decide ((done.length:Int)<((N-1:Nat):Int))=false:=by simp;omega
  have hset:=vB r hlt0;have hall:fG N (done++[r])=(aJ c l).map λx=>AV.p (.str (bs x)):=by rw [EH (by simp;omega),e1,hs]
  have hw2:IntKind.i64.wrap ((done.length:Int)+1)=(N:Int):=ba (by omega) (by simp [aw];omega) (by omega);have hN3:(aJ c l).length=N:=hN.symm;simp only [hge,hrl,hat,hi0,hset,hall,hw2,hN3,go_sem,simprocAttr];rw [bG,Nat.sub_zero,ga (by simp [hN3])]
 .have hs:=l5 h1;have hlt:decide ((done.length:Int)<((N-1:Nat):Int))=true:=by
   have:=lH c r';have:=congrArg List.length hs;simp at this |-;omega
  have hset:=vB (aH c r).1 hlt0;have hrlen:=congrArg List.length h3;simp only [aI,ct] at hrlen;simp only [hlt,go_sem,simprocAttr];refine ae (F8 (bs r) c) rfl ?_;have hd:Lib.indexByte (bs r).data.toList c=((aH c r).1.length:Int):=h2;have f0:decide (((aH c r).1.length:Int)<0)=false:=by simp
  have f1:IntKind.i64.wrap (((aH c r).1.length:Int)+0)=((aH c r).1.length:Int):=ba (by omega) (by simp [aw];omega) (by simp);have f2:(((aH c r).1.length:Int)<=((bs r).size:Int)):=by rw [aq];omega
  have f3:(bs r).extract 0 (aH c r).1.length=bs (aH c r).1:=by
   rw [cZ,nq]
   congr 1
   have:=congrArg (List.take (aH c r).1.length) h3;rw [d9] at this
   .exact this
   .rfl
  have f4:IntKind.i64.wrap (((aH c r).1.length:Int)+(((bs [c]).size:Nat):Int))=(((aH c r).1.length+1:Nat):Int):=by
   rw [aq];exact ba (by omega) (by simp [aw];omega) (by simp)
  have f5:((((aH c r).1.length+1:Nat):Int)<=((bs r).size:Int)):=by rw [aq];omega
  have f6:(bs r).extract ((aH c r).1.length+1) (bs r).size=bs r':=by
   rw [cZ,aq,qW]
   congr 1
   have:=congrArg (List.drop ((aH c r).1.length+1)) h3;rw [this];simp
  have hnx:IntKind.i64.wrap ((done.length:Int)+1)=(((done++[(aH c r).1]).length:Nat):Int):=ba (by omega) (by simp [aw];omega) (by simp);simp only [hd,f0,f1,f2,f3,f4,f5,f6,hrl,hat,hi0,hset,go_sem,simprocAttr];refine bW (done++[(aH c r).1],r') ⟨by rw [e1,hs];simp,by show r'.length<=l.length;omega⟩ (by show r'.length<r.length;omega) ?_;simp only [hnx,go_sem,simprocAttr];exact Bm _ _ _
theorem C9 (l) (c) (hl:l.length<1000000000):ah TP 98 [.str (bs l),.str (bs [c])] (bG (aJ c l)):=by
 refine aa (ai (by kernel_rfl) rfl zbj) rfl ?_;simp only [go_sem,simprocAttr];refine ae (MT l c hl) rfl ?_;simp only [go_sem,simprocAttr]
def od (p:List UInt8):List (List UInt8)->List (List UInt8)
 |[]=>[p]
 |a::t=>(p++a)::t
theorem AW (L) (h:L≠[]):od [] L=L:=by cases L<;>simp_all [od]
theorem pw (c) (l):aJ c l≠[]:=λh=>by have:=lH c l;rw [h] at this;simp at this
theorem KT (c) (p r):od p (aJ c (c::r))=p::aJ c r:=by simp [aJ,od]
theorem HP {c x} (hx:x≠c) (p r):od p (aJ c (x::r))=od (p++[x]) (aJ c r):=by
 rw [aJ,if_neg hx]
 cases hs:aJ c r with
 |nil=>exact absurd hs (pw c r)
 |cons a t=>simp [od]
theorem wC (l) (i:Nat):(bs l)[i]?=l[i]?:=by rw [oM];rfl
theorem MM (l) (c) (hl:l.length<1000000000):ah TP 60 [.str (bs l),.int .u8 c.toNat] (bG (aJ c l)):=by
 refine cW (ai (by kernel_rfl) rfl zbQ) rfl ?_;simp only [go_sem,simprocAttr];refine cg 5 1 (by simp only [go_sem,simprocAttr]) ?_;simp only [go_sem,simprocAttr]
 refine gu [0,1] (σ:=List (List UInt8)×List UInt8×List UInt8×List UInt8×Nat) (λq=>l=q.2.1++q.2.2.1++q.2.2.2.1/\aJ c l=q.1++od q.2.2.1 (aJ c q.2.2.2.1)/\q.1.length<=q.2.1.length/\q.2.2.2.2=q.2.1.length+q.2.2.1.length) (λq=>q.2.2.2.1.length)
  (λq=>[(5,.slice 0 q.1.length 0 q.1.length),(6,.p (.int .i64 q.2.1.length)),(7,.p (.int .i64 q.2.2.2.2))]) (λq=>[.row 1 (q.1.map λx=>.p (.str (bs x)))]) ([],[],[],l,0)
  ⟨rfl,by rw [AW _ (pw c l)];rfl,bM _,rfl⟩ ?_ ?_
 .simp only [go_sem,simprocAttr]<;>simp
 rintro ⟨iy,pre,cur,r,k⟩ ⟨e1,e2,e3,e4⟩
 dsimp only at e1 e2 e3 e4;have hlen:=congrArg List.length e1;simp only [aI] at hlen;have hrm:iy.length+1<=aw:=by simp [aw];omega
 have hpc:(pre++cur).length=k:=by rw [aI,e4]
 cases r with
 |nil =>
  have hlt:decide (((k:Nat):Int)<(((bs l).size:Nat):Int))=false:=by rw [aq];simp;simp at hlen;omega
  have h1:((pre.length:Nat):Int)<=(((bs l).size:Nat):Int):=by rw [aq];omega
  have h2:(bs l).extract pre.length (bs l).size=bs cur:=by
   rw [cZ,aq,qW,e1];simp
  have hrow:(iy.map λx=>AV.p (.str (bs x)))++[AV.p (.str (bs cur))]=(iy++[cur]).map λx=>AV.p (.str (bs x)):=by simp
  have hl2:(iy++[cur]).length=iy.length+1:=by simp
  have hs:aJ c l=iy++[cur]:=by rw [e2];simp [od,aJ]
  simp only [hlt,h1,h2,hrm,hrow,hl2,go_sem,simprocAttr]
  rw [hs,bG,ga (by simp)]
 |cons x r =>
  simp only [ct] at hlen;have hlt:decide (((k:Nat):Int)<(((bs l).size:Nat):Int))=true:=by rw [aq];simp;omega
  have hx:(bs l)[k]?=some x:=by
   rw [wC,e1,<-hpc];simp
  have hnx:IntKind.i64.wrap (((k:Nat):Int)+1)=((k+1:Nat):Int):=ba (by omega) (by simp [aw];omega) (by simp);by_cases hc:x=c
  .subst hc;have hb:(((x.toNat:Nat):Int)==((x.toNat:Nat):Int))=true:=by simp
   have h1:((pre.length:Nat):Int)<=((k:Nat):Int):=by omega
   have h2:((k:Nat):Int)<=(((bs l).size:Nat):Int):=by rw [aq];omega
   have h3:(bs l).extract pre.length k=bs cur:=by
    rw [cZ,e1,<-hpc]
    congr 1
    rw [d9 rfl];simp
   simp only [hlt,hx,hb,h1,h2,h3,hrm,go_sem,simprocAttr];have hp:((pre++cur++[x]).length:Nat)=k+1:=by simp at hpc |-;omega
   refine bW (iy++[cur],pre++cur++[x],[],r,k+1) ⟨by rw [e1];simp,by rw [e2,KT,AW _ (pw x r)];simp,by show (iy++[cur]).length<=(pre++cur++[x]).length;rw [hp];simp;omega,by show k+1=(pre++cur++[x]).length+0;rw [hp]⟩ (j3 _) ?_;simp only [hnx,hp,go_sem,simprocAttr];simp
  .have hb:(((x.toNat:Nat):Int)==((c.toNat:Nat):Int))=false:=by
    have:x.toNat≠c.toNat:=λh=>hc (UInt8.toNat_inj.1 h);simp;omega
   simp only [hlt,hx,hb,go_sem,simprocAttr];refine bW (iy,pre,cur++[x],r,k+1) ⟨by rw [e1];simp,by rw [e2,HP hc],e3,by show k+1=pre.length+(cur++[x]).length;simp;omega⟩ (j3 _) ?_;simp only [hnx,go_sem,simprocAttr]
end Abs
end Go.Proofs.YtfafnkpfamgbbaaGreatDoor
