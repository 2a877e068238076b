/-
  CONTRACTS: ranges and names, in the references and in the program.
  CONTRACTS: colour.Check, in the program and in the reference: both come to 'clCheck'. No c
  CONTRACTS: colour: a shop that is looked at, with batches; what a batch needs after a colo
-/
import Derived.Test.YtfafnkpfamgbbaaGreatDoorAbsCutX
import Derived.Test.YtfafnkpfamgbbaaGreatDoorLibGo
set_option linter.unusedSimpArgs false
set_option linter.unusedVariables false
open Go.Proofs.Tryz renaming prog->TP
namespace Go.Proofs.YtfafnkpfamgbbaaGreatDoor
namespace Abs
set_option maxRecDepth 4000
def az (n lo hi:Int):Bool:=decide (lo<=n)&&decide (n<=hi)
theorem RM (n lo hi):ah TP 67 [.int .i64 n,.int .i64 lo,.int .i64 hi] (.bool (az n lo hi)):=by
 refine aa (ai (by kernel_rfl) rfl YK) rfl ?_;simp only [go_sem,simprocAttr];refine aW (λhb=>?_) (λhb=>?_)<;>simp only [hb,go_sem,simprocAttr]<;>simp [az,hb]
def sR (lo hi low high:Int):Int:=if az lo low high=true/\az hi low high=true then (if hi<lo then 2 else 0) else 7
def z7 (c last:Int):Bool:=(c != 45&&(decide (c<97)||decide (122<c)))||(c==45&&last==45)
def kh:List UInt8->Int->Bool
 |[],last=>last != 45
 |c::r,last=>if z7 c.toNat last=true then false else kh r c.toNat
def nameOk (s:ByteArray):Bool:=kh s.data.toList 45&&decide ((s.size:Int)<=20)
theorem DY (s:ByteArray) (i:Nat):s[i]?=s.data.toList[i]?:=by
 by_cases h:i<s.size
 .have h':i<s.data.toList.length:=by simpa using h
  rw [getElem?_pos s i h,b6 h'];simp [ByteArray.getElem_eq_getElem_data]
 .rw [getElem?_neg s i h,ze];simpa using KY h
attribute [go_sem] DY
theorem iM (s):ah TP 101 [.str s] (.bool (nameOk s)):=by
 refine aa (ai (by kernel_rfl) rfl V4) rfl ?_;simp only [go_sem,simprocAttr]
 refine i7 [0,7] (σ:=List UInt8×List UInt8×Int) (λq=>s.data.toList=q.1++q.2.1/\kh s.data.toList 45=kh q.2.1 q.2.2) (λq=>q.2.1.length)
  (λq=>[(3,.p (.int .i32 q.2.2))]) (λq=>[.strIter s q.1.length]) ([],s.data.toList,45) ⟨rfl,rfl⟩ ?_ ?_
 .simp only [go_sem,simprocAttr]
 .rintro ⟨done,rest,last⟩ ⟨e1,e2⟩
  dsimp only at e1 e2
  cases rest with
  |nil =>
   have hlt:¬ (done.length<s.size):=by
    have:=congrArg List.length e1;simp at this |-;omega
   simp only [hlt,go_sem,simprocAttr];refine aW (λhb=>?_) (λhb=>?_)<;>simp only [hb,go_sem,simprocAttr]
   .simp [nameOk,e2,kh,hb]
   .simp [nameOk,e2,kh,hb]
  |cons c r =>
   obtain ⟨hx,_⟩:=gC e1;have hlt:done.length<s.size:=by
    have:=congrArg List.length e1;simp at this |-;omega
   have hc:(s[done.length]'hlt)=c:=by
    have:=DY s done.length;rw [hx,getElem?_pos s done.length hlt] at this;exact li this
   rcases cJ c.toNat 128 with hlow | hhigh
   .have hd:Utf8.decode s done.length=(c.toNat,1):=by
     rw [decode_ascii s done.length hlt (by rw [hc];exact hlow),hc]
    simp only [hlt,hd,go_sem,simprocAttr]
    repeat' first
     |(refine aW (λhb=>?_) (λhb=>?_)<;>simp only [hb,go_sem,simprocAttr])
    all_goals first
     |(refine dp (done++[c],r,(c.toNat:Int)) ⟨by simp [e1],?_⟩ (by simp) ?_
       .rw [e2];simp_all [kh,z7]
       .simp only [go_sem,simprocAttr];simp)
     |(simp only [nameOk,e2];simp_all [kh,z7];done)
   .have hd:=decode_high s done.length hlt (by rw [hc];exact hhigh);have h1:(((Utf8.decode s done.length).1:Int) != 45)=true:=by simp;omega
    have h2:decide (((Utf8.decode s done.length).1:Int)<97)=false:=by simp;omega
    have h3:decide ((122:Int)<((Utf8.decode s done.length).1:Int))=true:=by simp;omega
    simp only [hlt,h1,h2,h3,go_sem,simprocAttr];have hbad:z7 c.toNat last=true:=by
     have g1:((c.toNat:Int) != 45)=true:=by simp;omega
     have g3:decide ((122:Int)<(c.toNat:Int))=true:=by simp;omega
     simp [z7,g1,g3]
    simp [nameOk,e2,kh,hbad]
def firstErr {α:Type} (f:List ByteArray->α->Int) (nm:α->ByteArray):List α->List ByteArray->Option (Int×Int)
 |[],_=>none
 |x::r,before=>if f before x=0 then firstErr f nm r (before++[nm x]) else some ((before.length:Int),f before x)
def aE (t:Int×Int×Int):PV:=.tuple [.int .i64 t.1,.int .i64 t.2.1,.int .i64 t.2.2]
def aA (before:List ByteArray) (s:ByteArray):Int:=if nameOk s=true then (if before.any (λt=>t==s)=true then 5 else 0) else 6
namespace Cl
theorem yN (lo hi n):ah TP 224 [.int .i64 n,.ptr 1 [.int .i64 lo] 0 0,.ptr 1 [.int .i64 hi] 0 0] (.bool (!az n lo hi)):=by
 refine aa (ai (by kernel_rfl) rfl UF) rfl ?_;simp only [go_sem,simprocAttr];refine aW (λhb=>?_) (λhb=>?_)<;>simp only [hb,go_sem,simprocAttr]<;>simp_all [az];rw [<-decide_not];congr 1;simp
theorem eb (lo hi) (l:List Int) (b) (hl:l.length<1000000000):ah TP 162 [.int .i64 lo,.int .i64 hi,.slice 1 (l.map aJ) b] (.bool (l.any λn=>!az n lo hi)):=by
 refine aa (ai (by kernel_rfl) rfl Vm) rfl ?_;simp only [go_sem,simprocAttr];refine bh (i6 (fv:=.func (.func 224) [] [.ptr 1 [.int .i64 lo] 0 0,.ptr 1 [.int .i64 hi] 0 0]) l (λn=>!az n lo hi) b 1 rfl hl λn _=>⟨_,_,_,rfl,yN lo hi n⟩) ?_ (.bool _) ?_
 .simp only [go_sem,simprocAttr]
 .simp only [go_sem,simprocAttr]
def lW (many:Nat) (c:ClColour):Int :=
 if c.shows.length=many then (if (c.shows.any λn=>!az n 0 1000)=true then 7 else sR c.stay.lo c.stay.hi 0 1000) else 3
def ff (many:Nat) (before:List ByteArray) (c:ClColour):Int:=if aA before c.name=0 then lW many c else aA before c.name
def jK (s:ClShop):Int:=if az s.colours.length 1 6=true then (if az s.rinse 0 10000=true then sR s.keep.lo s.keep.hi 0 1000 else 7) else 3
def clCheck (s:ClShop):Int×Int×Int :=
 if jK s=0 then (match firstErr (ff s.colours.length) (·.name) s.colours [] with | some (i,e)=>(2,i,e) | none=>(0,0,0)) else (1,0,jK s)
theorem RD {s} {done r} {x} (h0:jK s=0) (e2:firstErr (ff s.colours.length) (·.name) s.colours []=firstErr (ff s.colours.length) (·.name) (x::r) (done.map (·.name))) :
  (ff s.colours.length (done.map (·.name)) x=0->firstErr (ff s.colours.length) (·.name) s.colours []=firstErr (ff s.colours.length) (·.name) r ((done++[x]).map (·.name))) /\
  ∀ e,ff s.colours.length (done.map (·.name)) x=e->e≠0->clCheck s=(2,(done.length:Int),e):=by
 have hE:firstErr (ff s.colours.length) (·.name) s.colours []=if ff s.colours.length (done.map (·.name)) x=0 then firstErr (ff s.colours.length) (·.name) r ((done++[x]).map (·.name)) else some ((done.length:Int),ff s.colours.length (done.map (·.name)) x):=by
  rw [e2,firstErr];simp
 exact ⟨λh=>by rw [hE,if_pos h],λe he hne=>by rw [clCheck,if_pos h0,hE,he,if_neg hne]⟩
theorem Wz (s) (b c d) (x:ClColour):ah TP 164 [x.pv,.ptr 4 [.agg [.str s,b,c,d]] 0 0] (.bool (x.name==s)):=by
 refine aa (ai (by kernel_rfl) rfl Vk) rfl ?_;simp only [go_sem,simprocAttr]
set_option maxHeartbeats 2000000 in
theorem oa (s):ah TP 93 [s.pv] (aE (clCheck s)):=by
 refine aa (ai (by kernel_rfl) rfl Yx) rfl ?_;simp only [go_sem,simprocAttr];refine ae (eb 1 6 [_] true (by simp)) rfl ?_;simp only [bg,bj,ca,go_sem,simprocAttr];cases h1:az s.colours.length 1 6
 .have hh:jK s=3:=by rw [jK,h1];rfl
  simp only [aE,clCheck,hh,go_sem,simprocAttr]
 simp only [go_sem,simprocAttr];refine ae (eb 0 10000 [_] true (by simp)) rfl ?_;simp only [bg,bj,ca,go_sem,simprocAttr];cases h2:az s.rinse 0 10000
 .have hh:jK s=7:=by rw [jK,h1,h2];rfl
  simp only [aE,clCheck,hh,go_sem,simprocAttr]
 simp only [go_sem,simprocAttr];refine ae (eb 0 1000 [_,_] true (by simp)) rfl ?_;simp only [bg,bj,ca,<-j4,go_sem,simprocAttr];have hh:jK s=sR s.keep.lo s.keep.hi 0 1000:=by rw [jK,h1,h2];rfl
 unfold sR at hh;cases h3:(az s.keep.lo 0 1000&&az s.keep.hi 0 1000)
 .rw [if_neg (by rw [<-dA,h3];decide)] at hh;simp only [aE,clCheck,hh,go_sem,simprocAttr]
 rw [if_pos (by rw [<-dA,h3])] at hh;simp only [go_sem,simprocAttr];cases h4:decide (s.keep.hi<s.keep.lo);rotate_left
 .rw [if_pos (by simpa using h4)] at hh;simp only [aE,clCheck,hh,go_sem,simprocAttr]
 rw [if_neg (by simpa using h4)] at hh;have hlk:s.colours.length<=6:=by simp [az] at h1;omega
 simp only [go_sem,simprocAttr]
 refine bT [1,37,38] s.colours (by omega) (τ:=Unit) (λdone rest _=>firstErr (ff s.colours.length) (·.name) s.colours []=firstErr (ff s.colours.length) (·.name) rest (done.map (·.name)))
  (λdone _=>[(39,.p (.int .i64 done.length)),(4,.p (.int .i64 0))]) (λ_ _=>[.row 4 [.p s.pv]]) () rfl ?_ ?_ ?_
 .simp only [go_sem,simprocAttr]<;>simp
 .intro _ e2;have:clCheck s=(0,0,0):=by rw [clCheck,if_pos hh,e2];rfl
  simp only [aE,this,go_sem,simprocAttr]
 .intro done x r _ e1 e2 hx hlt hnx;obtain ⟨go,fin⟩:=RD hh e2;have hle:((done.length:Nat):Int)<=(s.colours.length:Int):=by omega
  have htk:(s.colours.map ClColour.pv).take done.length=done.map ClColour.pv:=by
   rw [e1,cp,fD (by simp)]
  have hdl:done.length<1000000:=by have:=congrArg List.length e1;simp at this;omega
  have hfl:(done.length==s.colours.length)=false:=by simp;omega
  simp only [hlt,hx,go_sem,simprocAttr];refine ae (iM x.name) rfl ?_;simp only [go_sem,simprocAttr];cases hn:nameOk x.name
  .have he:aA (done.map (·.name)) x.name=6:=by simp [aA,hn]
   simp only [aE,fin 6 (by rw [ff,he];rfl) (by decide),go_sem,simprocAttr]
  simp only [hle,htk,hfl,go_sem,simprocAttr];refine bh (zT (fv:=.func (.func 164) [] [.ptr 4 [x.pv] 0 0]) done (λy=>y.name==x.name) false 4 rfl (by omega) λy _=>⟨_,_,_,rfl,Wz x.name _ _ _ y⟩) ?_ (.bool _) ?_
  .simp only [go_sem,simprocAttr]
  simp only [go_sem,simprocAttr];cases h5:(done.any λy=>y.name==x.name)
  rotate_left
  .have he:aA (done.map (·.name)) x.name=5:=by simp only [aA,hn,ly,lK,h5,if_true]
   simp only [aE,fin 5 (by rw [ff,he];rfl) (by decide),go_sem,simprocAttr]
  have he:aA (done.map (·.name)) x.name=0:=by simp only [aA,hn,ly,lK,h5,if_true,fa,if_false]
  have hb:ff s.colours.length (done.map (·.name)) x=lW s.colours.length x:=by rw [ff,if_pos he]
  simp only [go_sem,simprocAttr];cases h6:((x.shows.length:Int) != (s.colours.length:Int))
  rotate_left
  .have h6':¬ x.shows.length=s.colours.length:=by simp at h6;omega
   simp only [aE,fin 3 (by rw [hb,lW,if_neg h6']) (by decide),go_sem,simprocAttr]
  have h6':x.shows.length=s.colours.length:=by simp at h6;omega
  simp only [go_sem,simprocAttr];refine ae (eb 0 1000 x.shows false (by omega)) rfl ?_;simp only [go_sem,simprocAttr];cases h7:(x.shows.any λn=>!az n 0 1000)
  rotate_left
  .simp only [aE,fin 7 (by rw [hb,lW,if_pos h6',h7];rfl) (by decide),go_sem,simprocAttr]
  simp only [go_sem,simprocAttr];refine ae (eb 0 1000 [_,_] true (by simp)) rfl ?_;simp only [bg,bj,ca,<-j4,go_sem,simprocAttr];rw [lW,if_pos h6',h7,if_neg (by decide)] at hb;unfold sR at hb;cases h8:(az x.stay.lo 0 1000&&az x.stay.hi 0 1000)
  .rw [if_neg (by rw [<-dA,h8];decide)] at hb;simp only [aE,fin 7 hb (by decide),go_sem,simprocAttr]
  rw [if_pos (by rw [<-dA,h8])] at hb;simp only [go_sem,simprocAttr];cases h9:decide (x.stay.hi<x.stay.lo);rotate_left
  .rw [if_pos (by simpa using h9)] at hb;simp only [aE,fin 2 hb (by decide),go_sem,simprocAttr]
  rw [if_neg (by simpa using h9)] at hb;simp only [go_sem,simprocAttr];refine aL e1 () (go hb) ?_;simp only [hnx,go_sem,simprocAttr]
theorem vB (b) (e) (h):ay TP 311 [.p (.bool b),.p (.int .i64 e)] h (λr h'=>h'=h/\r=if b=true then .ret (.p (.tuple [])) else .panic (.iface 43 (.int .i64 e))):=by
 refine ax (ai (by kernel_rfl) rfl Nn) rfl ?_;simp only [go_sem,simprocAttr];cases b
 .simp only [go_sem,simprocAttr]
 .simp only [go_sem,simprocAttr]
theorem aq {H} {Q} {ops} {rest} {dst} {A} {b} {e} (h1:b=true->@WO ⟨TP,H,ops,rest,Q⟩ (A.put dst (.p (.tuple [])) A.h))
  (h2:b=false->@WQ ⟨Q⟩ (.panic (.iface 43 (.int .i64 e))) A):@WF ⟨TP,H,ops,rest,Q,dst⟩ A 311 [.p (.bool b),.p (.int .i64 e)]:=by
 refine bW (vB b e A.h) (λv h hr=>?_) (λv h hr=>?_)
 .obtain ⟨rfl,hr⟩:=hr;cases b
  .cases hr
  .cases hr;exact h1 rfl
 .obtain ⟨rfl,hr⟩:=hr;cases b
  .cases hr;exact h2 rfl
  .cases hr
theorem MX {H} {Q} {ops} {rest} {o} {hs} {A} {e} (h:∀ T,@WQ ⟨Q⟩ (.panic (.iface 43 (.int .i64 e))) { A with tmps:=T }) :
  @KI ⟨TP,H,ops,rest,Q,o⟩ hs A (.call 311 [.p (.bool false),.p (.int .i64 e)]):=by
 refine .inr ⟨_,(vB false e A.h).mono λr h' hr=>?_,h⟩;exact ⟨hr.2,hr.1⟩
def dP (s:ClShop) (b:ClBatch):Int:=if az b.colour 0 ((s.colours.length:Int)-1)=true then (if az b.grams 1 100000=true then 0 else 7) else 4
def er (s:ClShop):List ClBatch->Int
 |[]=>0
 |b::l=>if dP s b=0 then er s l else dP s b
def rm (s:ClShop) (l:List ClBatch):Int:=if l.length<=7 then er s l else 3
def dg (s:ClShop) (aR:Int) (l:List ClBatch):Int :=
 if (clCheck s).2.2=0 then (if az aR 0 ((s.colours.length:Int)-1)=true then rm s l else 4) else (clCheck s).2.2
def Aq (s:ClShop) (l:List ClBatch) (m:PV):List PV:=[.slice 4 (s.colours.map ClColour.pv) false,.int .i64 s.keep.lo,.int .i64 s.keep.hi,.int .i64 s.rinse,.slice 2 (l.map ClBatch.pv) false,m]
def Hk (s:ClShop) (l:List ClBatch):PV:=.ptr 6 [.agg (Aq s l .any)] 0 0
attribute [go_sem] Aq Hk
structure ShopOk (s:ClShop):Prop where
 len:1<=s.colours.length/\s.colours.length<=6
 keep:0<=s.keep.lo/\s.keep.lo<=s.keep.hi/\s.keep.hi<=1000
 rinse:0<=s.rinse/\s.rinse<=10000
 shows:∀ c,c∈s.colours->c.shows.length=s.colours.length/\∀ n,n∈c.shows->0<=n/\n<=1000
 stay:∀ c,c∈s.colours->0<=c.stay.lo/\c.stay.lo<=c.stay.hi/\c.stay.hi<=1000
theorem eO {α} {f:List ByteArray->α->Int} {nm}:∀ {l} {before},firstErr f nm l before=none->∀ x,x∈l->∃ bs,f bs x=0
 |[],_,_,x,hx=>by cases hx
 |y::l,before,h,x,hx=>by
  rw [firstErr] at h;split at h
  .rename_i h0;rcases cz.1 hx with rfl | hx
   .exact ⟨_,h0⟩
   .exact eO h x hx
  .cases h
theorem gv {α} {f:List ByteArray->α->Int} {nm}:∀ {l} {before} {i e},firstErr f nm l before=some (i,e)->e≠0
 |[],_,_,_,h=>by cases h
 |y::r,before,i,e,h=>by
  rw [firstErr] at h;split at h
  .exact gv h
  .rename_i h0;cases h;exact h0
theorem yv {a b lo hi} (h:sR a b lo hi=0):lo<=a/\a<=b/\b<=hi:=by
 unfold sR at h;split at h
 .rename_i h1;simp [az] at h1;split at h
  .cases h
  .omega
 .cases h
theorem va {s} (h:(clCheck s).2.2=0):ShopOk s:=by
 unfold clCheck at h;split at h
 .rename_i h1;unfold jK at h1;split at h1
  .rename_i g1;split at h1
   .rename_i g2;have g3:=yv h1;simp [az] at g1 g2;have hc:∀ c,c∈s.colours->lW s.colours.length c=0:=by
     intro c hc;split at h
     .rename_i i e he;exact absurd h (gv he)
     .rename_i he;obtain ⟨bs,h0⟩:=eO he c hc;unfold ff at h0;split at h0
      .exact h0
      .contradiction
    refine ⟨by omega,g3,g2,λc hcm=>?_,λc hcm=>?_⟩
    .have:=hc c hcm;unfold lW at this;split at this
     .rename_i e1;split at this
      .cases this
      .rename_i e2;refine ⟨e1,λn hn=>?_⟩;simp only [GR,not_exists,not_and] at e2;have:=e2 n hn;simpa [az] using this
     .cases this
    .have:=hc c hcm;unfold lW at this;split at this
     .split at this
      .cases this
      .exact yv this
     .cases this
   .cases h1
  .cases h1
 .contradiction
structure BatchOk (s:ClShop) (b:ClBatch):Prop where
 colour:0<=b.colour/\b.colour<s.colours.length
 grams:1<=b.grams/\b.grams<=100000
theorem MI {s} {b} (h:dP s b=0):BatchOk s b:=by
 unfold dP at h;split at h
 .rename_i h1;split at h
  .rename_i h2;simp [az] at h1 h2;exact ⟨by omega,h2⟩
  .cases h
 .cases h
theorem yX {s}:∀ {l},er s l=0->∀ b,b∈l->BatchOk s b
 |[],_,b,hb=>by cases hb
 |x::l,h,b,hb=>by
  rw [er] at h;split at h
  .rename_i h0;rcases cz.1 hb with rfl | hb
   .exact MI h0
   .exact yX h b hb
  .contradiction
def nj (s:ClShop) (before:Int) (b:ClBatch) (r:Nat):Bool :=
 match s.colours[before.toNat]? with
 |some x=>(match x.shows[b.colour.toNat]? with | some n=>before != b.colour&&decide (b.grams*n*1000^r<1000*x.stay.hi*s.keep.hi^r) | none=>false)
 |none=>false
def ml (can:Nat->Bool):Nat->Nat->Int
 |0,_=>-1
 |c+1,r=>if can r=true then ml can c (r+1) else r
def gT (s:ClShop) (before:Int) (b:ClBatch):Int:=ml (nj s before b) 4 0
theorem Nl {k:Int} (h0:0<=k) (h1:k<=1000):∀ r,0<=k^r/\k^r<=1000^r
 |0=>by simp
 |r+1=>by
  have ih:=Nl h0 h1 r;rw [Int.pow_succ,Int.pow_succ];exact ⟨wv ih.1 h0,uY ih.2 h1 h0 (uX ih.1 ih.2)⟩
theorem vG (n keep) (r:Nat) (hn:0<=n/\n<=1000000000) (hk:0<=keep/\keep<=1000) (hr:r<=3):ah TP 334 [.int .i64 n,.int .i64 keep,.int .i64 r] (.int .i64 (n*keep^r)):=by
 refine aa (ai (by kernel_rfl) rfl Td) rfl ?_;simp only [go_sem,simprocAttr];have hB:∀ k:Nat,k<=3->0<=n*keep^k/\n*keep^k<=1000000000000000000:=λk hk3=>by
  have h1:=Nl hk.1 hk.2 k;have h2:(1000:Int)^k<=1000000000:=by
   match k,hk3 with
   |0,_=>decide
   |1,_=>decide
   |2,_=>decide
   |3,_=>decide
  exact ⟨wv hn.1 h1.1,by have:=uY hn.2 (uX h1.2 h2) h1.1 (by omega:(0:Int)<=1000000000);omega⟩
 refine eF [1,7] (σ:=Nat) (λk=>k<=r) (λk=>r-k) (λk=>[(0,.p (.int .i64 (n*keep^k))),(8,.p (.int .i64 k))]) (λk=>[]) 0 (cQ _) rfl ?_ ?_
 .simp only [go_sem,simprocAttr];simp
 intro k hkr;rcases BK hkr with rfl | hlt
 .have hd:decide ((k:Int)<(k:Int))=false:=by simp
  simp only [go_sem,simprocAttr]
 have hd:decide ((k:Int)<(r:Int))=true:=by simp;omega
 have hw:IntKind.i64.wrap ((k:Int)+1)=((k+1:Nat):Int):=bI (by omega) (by simp [aB];omega) (by omega);have hB1:=hB (k+1) (by omega);have hm:IntKind.i64.wrap (n*keep^k*keep)=n*keep^(k+1):=by
  rw [Int.pow_succ,<-tC] at hB1 |-;exact an (by omega) (by omega)
 simp only [hd,go_sem,simprocAttr];refine bq (k+1) (by omega) (by omega) rfl ?_;simp only [hw,hm,go_sem,simprocAttr]
theorem RF (s) (l) (before:Int) (b) (r:Nat) (hs:ShopOk s) (hb:BatchOk s b) (h0:0<=before/\before<s.colours.length) (hr:r<=3) :
  ah TP 325 [Hk s l,.int .i64 before,b.pv,.int .i64 r] (.bool (nj s before b r)):=by
 refine aa (ai (by kernel_rfl) rfl Tm) rfl ?_;obtain ⟨i,rfl⟩:∃ i:Nat,before=(i:Int):=⟨before.toNat,by omega⟩
 obtain ⟨j,hj⟩:∃ j:Nat,b.colour=(j:Int):=⟨b.colour.toNat,by have:=hb.colour;omega⟩
 have hbc:=hb.colour;obtain ⟨x,hx⟩:∃ x,s.colours[i]?=some x:=⟨_,b6 (by omega)⟩
 have hxm:=aI hx;have hsl:=(hs.shows x hxm).1;obtain ⟨n,hn⟩:∃ n,x.shows[j]?=some n:=⟨_,b6 (by omega)⟩
 have hnb:=(hs.shows x hxm).2 n (aI hn);have hst:=hs.stay x hxm;have hg:=hb.grams;have il:(i:Int)<(s.colours.length:Int):=h0.2;have jl:(j:Int)<(x.shows.length:Int):=by omega
 have mB:0<=b.grams*n/\b.grams*n<=100000000:=⟨wv (by omega) hnb.1,by have:=uY hg.2 hnb.2 hnb.1 (by omega:(0:Int)<=100000);omega⟩
 have w1:IntKind.i64.wrap (b.grams*n)=b.grams*n:=an (by omega) (by omega);have w2:IntKind.i64.wrap (1000*x.stay.hi)=1000*x.stay.hi:=an (by omega) (by omega);have hsp:nj s (i:Int) b r=((i:Int) != (j:Int)&&decide (b.grams*n*1000^r<1000*x.stay.hi*s.keep.hi^r)):=by
  simp only [nj,hH,hx,hj,hn]
 rw [hsp];simp only [hx,il,hj,hn,jl,w1,go_sem,simprocAttr];cases hc:((i:Int) != (j:Int))
 .simp only [go_sem,simprocAttr]
 simp only [w2,go_sem,simprocAttr]
 (first | refine ae (vG (1000*x.stay.hi) s.keep.hi r (by omega) (by have:=hs.keep;omega) hr) rfl ?_ | refine aC (vG (1000*x.stay.hi) s.keep.hi r (by omega) (by have:=hs.keep;omega) hr) rfl ?_)
 simp only [go_sem,simprocAttr]
 (first | refine ae (vG (b.grams*n) 1000 r (by omega) (by omega) hr) rfl ?_ | refine aC (vG (b.grams*n) 1000 r (by omega) (by omega) hr) rfl ?_)
 simp only [go_sem,simprocAttr]
theorem Pn (s) (l) (before:Int) (b) (hs:ShopOk s) (hb:BatchOk s b) (h0:0<=before/\before<s.colours.length) :
  ah TP 314 [Hk s l,.int .i64 before,b.pv] (.int .i64 (gT s before b)):=by
 refine aa (ai (by kernel_rfl) rfl Tx) rfl ?_;simp only [go_sem,simprocAttr];refine i7 [0,1,5] (σ:=Nat) (λk=>k<=4/\gT s before b=ml (nj s before b) (4-k) k) (λk=>4-k) (λk=>[(8,.p (.int .i64 k))]) (λk=>[.row 2 [.p b.pv]]) 0 ⟨by decide,rfl⟩ ?_ ?_
 .simp only [go_sem,simprocAttr]<;>simp
 intro k ⟨hk,e2⟩;rcases BK hk with rfl | hlt
 .rw [show 4-4=0 from rfl,ml] at e2;simp only [e2,go_sem,simprocAttr]
 have hd:decide ((k:Int)<4)=true:=by simp;omega
 have hw:IntKind.i64.wrap ((k:Int)+1)=((k+1:Nat):Int):=bI (by omega) (by simp [aB];omega) (by omega);rw [show 4-k=(4-(k+1))+1 by omega,ml] at e2;simp only [hd,go_sem,simprocAttr];refine bh (RF s l before b k hs hb h0 (by omega)) ?_ (.bool _) ?_
 .simp only [go_sem,simprocAttr]
 simp only [go_sem,simprocAttr];cases hc:nj s before b k
 .rw [hc,if_neg (by decide)] at e2;simp only [e2,go_sem,simprocAttr]
 .rw [hc,if_pos rfl] at e2;simp only [go_sem,simprocAttr];refine dp (k+1) ⟨by omega,e2⟩ (by omega) ?_;simp only [hw,go_sem,simprocAttr]
end Cl
end Abs
end Go.Proofs.YtfafnkpfamgbbaaGreatDoor
