/-
  CONTRACTS: the helpers of the laws of layer 13: lists and books that are equal, the exampl
  THE LAWS ChandlerKnown, ChandlerFirst. No conditions but those in the theorems' heads.
  WHAT THE ARGUMENTS OF THE LAWS OF LAYER 9 LOOK LIKE. No conditions beyond the theorems' ow
  WHAT THE ARGUMENTS OF THE LAWS OF LAYER 13 LOOK LIKE. No conditions beyond the theorems' o
-/
import Derived.Test.YtfafnkpfamgbbaaGreatDoorAbsCutX
import Derived.Test.YtfafnkpfamgbbaaGreatDoorChReadCX
import Derived.Test.YtfafnkpfamgbbaaGreatDoorHrLaw0X
import Derived.Test.YtfafnkpfamgbbaaGreatDoorAbsEvX
set_option linter.unusedSimpArgs false
set_option linter.unusedVariables false
open Go.Proofs.Tryz renaming prog->TP
namespace Go.Proofs.YtfafnkpfamgbbaaGreatDoor
namespace Abs
namespace Ch
set_option maxRecDepth 100000
def oO (s:ChShop) (ls:List (List UInt8)):List (List UInt8):=if bn s ls=0 then (aX s ls).2.1 else []
def DZ (s:ChShop) (ls:List (List UInt8)):ChBooks:=if bn s ls=0 then (aX s ls).1 else dv
def r9 (s:ChShop) (ls:List (List UInt8)):List (List UInt8):=if bn s ls=0 then (aX s ls).2.2 else []
theorem FO:PL hJ dv.pv:=PL.aggL rfl ⟨.nil _,.nil _,.nil _,.nil _,.refl _,.refl _,trivial⟩
theorem BW (s) (ls):ah TP 8 [s.pv,b8 ls] (.tuple [b8 (oO s ls),.int .i64 (bn s ls)]):=by
 refine (Mk s ls).lessD ?_;unfold oO;by_cases h:bn s ls=0
 .rw [if_pos h,if_pos h,h];exact .refl _
 .rw [if_neg h,if_neg h];exact PL.tupleL ⟨.nil _,.refl _,trivial⟩
theorem Q3 (s) (ls):ah TP 11 [s.pv,b8 ls] (.tuple [(DZ s ls).pv,.int .i64 (bn s ls)]):=by
 refine (RX s ls).lessD ?_;unfold DZ;by_cases h:bn s ls=0
 .rw [if_pos h,if_pos h,h];exact .refl _
 .rw [if_neg h,if_neg h];exact PL.tupleL ⟨FO,.refl _,trivial⟩
theorem Q2 (s) (ls):ah TP 7 [s.pv,b8 ls] (.tuple [.str (bs (iC (r9 s ls))),.int .i64 (bn s ls)]):=by
 have:=RW s ls;unfold pZ at this;unfold r9;by_cases h:bn s ls=0
 .rw [if_pos h,<-h] at this;rw [if_pos h];exact this
 .rw [if_neg h] at this;rw [if_neg h];exact this
theorem I8 {t} (h:(cy t).2≠0):(cy t).1=[]:=by
 unfold cy at h |-;split
 .rfl
 .split
  .rfl
  .rename_i l hl h2;rw [hl] at h;simp only [if_neg h2] at h;exact absurd rfl h
theorem V9 (t) (hl:t.length<=2000000):ah TP 12 [.str (bs t)] (.tuple [b8 (cy t).1,.int .i64 (cy t).2]):=by
 refine (H8 t hl).lessD ?_;unfold cM;by_cases h:(cy t).2=0
 .rw [if_pos h];exact .refl _
 .rw [if_neg h,I8 h];exact PL.tupleL ⟨.nil _,.refl _,trivial⟩
theorem Hm {s} {t} (h:(dB s t).2.2≠0):(dB s t).1=dv:=by
 unfold dB at h |-;split
 .rfl
 .split
  .rfl
  .rename_i h1 h2;rw [if_neg h1,if_neg h2] at h;exact absurd rfl h
theorem Ga (s) (t) (hl:t.length<=2000000):ah TP 13 [s.pv,.str (bs t)] (.tuple [(dB s t).1.pv,.int .i64 (dB s t).2.1,.int .i64 (dB s t).2.2]):=by
 refine (Po s t hl).lessD ?_;unfold j9;by_cases h:(dB s t).2.2=0
 .rw [if_pos h];exact .refl _
 .rw [if_neg h,Hm h];exact PL.tupleL ⟨FO,.refl _,.refl _,trivial⟩
theorem DM (a c) (ha:a.length<1000000000):ah TP 15 [b8 a,b8 c] (.bool (a==c)):=by
 refine aa (ai (by kernel_rfl) rfl Y7) rfl ?_;simp only [b8,go_sem,simprocAttr];refine aW (λhb=>?_) (λhb=>?_)<;>simp only [hb,go_sem,simprocAttr]
 .have:¬ (a=c):=λh=>by subst h;simp at hb
  simp [this]
 have hlen:a.length=c.length:=by simp [bne] at hb;omega
 refine dQ [0,1] a ha (τ:=Unit) (λdone rest _=>c.take done.length=done) (λdone _=>[(5,.p (.int .i64 done.length))]) () (by simp) ?_ ?_ ?_
 .simp only [go_sem,simprocAttr]<;>simp
 .intro _ e2;rw [fx (by omega)] at e2;subst e2;simp only [go_sem,simprocAttr];simp
 .intro done x rest _ e1 e2 hx hlt hnx;have hlt2:(done.length:Int)<(c.length:Int):=by omega
  obtain ⟨y,hy⟩:∃ y,c[done.length]?=some y:=⟨_,b6 (by omega)⟩
  simp only [hlt,hlt2,hx,hy,dd,go_sem,simprocAttr];cases hb:(x==y)
  .simp only [go_sem,simprocAttr];have:¬ (a=c):=λh=>by
    subst h;rw [hx] at hy;cases hy;simp at hb
   simp [this]
  .have hxy:x=y:=by simpa using hb
   simp only [go_sem,simprocAttr];refine aL e1 () (by rw [aP,bu,wz,e2,hy,hxy];rfl) ?_;simp only [hnx,go_sem,simprocAttr]
structure BkLen (b:ChBooks):Prop where
 lots:b.lots.length<1000000000
 batches:b.batches.length<1000000000
 tests:b.tests.length<1000000000
 boxes:b.boxes.length<1000000000
 readings:∀ x,x∈b.lots->x.readings.length<1000000000
 marks:∀ t,t∈b.tests->t.marks.length<1000000000
theorem WI (b) (h:BkLen b):ah TP 14 [b.pv,b.pv] (.bool true):=by
 refine aa (ai (by kernel_rfl) rfl Y8) rfl ?_;have b1:∀ n:Int,(n != n)=false:=λn=>by simp
 have b2:∀ x:ByteArray,(x==x)=true:=λx=>(qG x x).2 rfl;simp only [b1,go_sem,simprocAttr];refine bT [2,3] b.lots h.lots (τ:=Unit) (λ_ _ _=>True) (λdone _=>[(5,.p (.int .i64 done.length))]) (λ_ _=>[.row 6 [.p b.pv],.row 6 [.p b.pv]]) () trivial ?_ ?_ ?_
 .simp only [eG,go_sem,simprocAttr]
 rotate_left
 .intro done x rest _ e1 _ hx hlt hnx;have hxm:x∈b.lots:=by rw [e1];simp
  simp only [hlt,decide_true,hx,GJ,bf,b1,b2,go_sem,simprocAttr];refine ae (Pp x.readings x.readings false false (h.readings x hxm)) rfl ?_;rw [show (x.readings==x.readings)=true by simp];simp only [go_sem,simprocAttr];refine aL e1 () trivial ?_;simp only [hnx,go_sem,simprocAttr]
 intro _ _;have hlt0:¬ ((b.lots.length:Int)<(b.lots.length:Int)):=by omega
 simp only [hlt0,decide_false,go_sem,simprocAttr];refine bT [2,3] b.batches h.batches (τ:=Unit) (λ_ _ _=>True) (λdone _=>[(8,.p (.int .i64 done.length))]) (λ_ _=>[.row 6 [.p b.pv],.row 6 [.p b.pv]]) () trivial ?_ ?_ ?_
 .simp only [eG,go_sem,simprocAttr]
 rotate_left
 .intro done x rest _ e1 _ hx hlt hnx;have hxm:x∈b.batches:=by rw [e1];simp
  simp only [hlt,decide_true,hx,GJ,bf,b2,go_sem,simprocAttr];rw [show (x.colour==x.colour&&(x.lot==x.lot&&x.grams==x.grams))=true by simp];simp only [go_sem,simprocAttr];refine aL e1 () trivial ?_;simp only [hnx,go_sem,simprocAttr]
 intro _ _;have hlt1:¬ ((b.batches.length:Int)<(b.batches.length:Int)):=by omega
 simp only [hlt1,decide_false,go_sem,simprocAttr];refine bT [2,3] b.tests h.tests (τ:=Unit) (λ_ _ _=>True) (λdone _=>[(9,.p (.int .i64 done.length))]) (λ_ _=>[.row 6 [.p b.pv],.row 6 [.p b.pv]]) () trivial ?_ ?_ ?_
 .simp only [eG,go_sem,simprocAttr]
 rotate_left
 .intro done x rest _ e1 _ hx hlt hnx;have hxm:x∈b.tests:=by rw [e1];simp
  simp only [hlt,decide_true,hx,GJ,bf,go_sem,simprocAttr];refine aC (RU x x (h.marks x hxm)) rfl ?_;rw [show yF x x=true by rw [OQ]];simp only [GJ,go_sem,simprocAttr];refine aL e1 () trivial ?_;simp only [hnx,go_sem,simprocAttr]
 intro _ _;have hlt2:¬ ((b.tests.length:Int)<(b.tests.length:Int)):=by omega
 simp only [hlt2,decide_false,go_sem,simprocAttr];refine bT [2,3] b.boxes h.boxes (τ:=Unit) (λ_ _ _=>True) (λdone _=>[(10,.p (.int .i64 done.length))]) (λ_ _=>[.row 6 [.p b.pv],.row 6 [.p b.pv]]) () trivial ?_ ?_ ?_
 .simp only [eG,go_sem,simprocAttr]
 rotate_left
 .intro done x rest _ e1 _ hx hlt hnx;have hxm:x∈b.boxes:=by rw [e1];simp
  simp only [hlt,decide_true,hx,GJ,bf,go_sem,simprocAttr];rw [show (x.kind==x.kind&&x.hours==x.hours)=true by simp];simp only [go_sem,simprocAttr];refine aL e1 () trivial ?_;simp only [hnx,go_sem,simprocAttr]
 intro _ _;have hlt3:¬ ((b.boxes.length:Int)<(b.boxes.length:Int)):=by omega
 simp only [hlt3,decide_false,go_sem,simprocAttr]
def La:WxTable:=⟨[⟨⟨#[109,101,108,116]⟩,5⟩,⟨⟨#[97,99,105,100]⟩,2⟩],[⟨⟨#[98,101,101,115]⟩,[⟨620,640⟩,⟨17,22⟩]⟩,⟨⟨#[112,97,114,97,102,102,105,110]⟩,[⟨540,580⟩,⟨0,0⟩]⟩,⟨⟨#[116,97,108,108,111,119]⟩,[⟨420,460⟩,⟨2,10⟩]⟩],950⟩
def BR:Shop:=⟨[⟨⟨#[116,104,105,110]⟩,10,⟨16,18⟩⟩,⟨⟨#[109,105,100]⟩,14,⟨20,24⟩⟩,⟨⟨#[102,97,116]⟩,20,⟨30,36⟩⟩],[⟨⟨#[98,101,101,115]⟩,⟨100,100⟩,⟨150,160⟩,⟨1000,1100⟩,1⟩],⟨20,45⟩,⟨500,1000⟩⟩
def Ks:List BdWax:=[⟨⟨#[98,101,101,115]⟩,1200,⟨620,640⟩,⟨90,100⟩,[]⟩,⟨⟨#[112,97,114,97,102,102,105,110]⟩,200,⟨540,580⟩,⟨110,150⟩,[]⟩,⟨⟨#[104,97,114,100]⟩,400,⟨690,700⟩,⟨60,70⟩,[⟨0,0⟩,⟨2,20⟩,⟨4,30⟩]⟩]
def Gn:ClShop:=⟨[⟨⟨#[119,104,105,116,101]⟩,⟨10,20⟩,[1000,1000,1000]⟩,⟨⟨#[114,101,100]⟩,⟨10,20⟩,[2,1000,50]⟩,⟨⟨#[98,108,97,99,107]⟩,⟨20,40⟩,[1,5,1000]⟩],⟨100,200⟩,50⟩
def dM:ChShop:=⟨La,Ks,BR,BT,Gn⟩
def dG:List (List UInt8):=[[108,111,116,32,111,108,100,32,98,101,101,115,32,53,48,48,48,32,54,52,51,32,49,54],[108,111,116,32,110,101,119,32,98,101,101,115,32,57,48,48,48,32,54,48,48,32,57],[108,111,116,32,111,100,100,32,98,101,101,115,32,57,48,48,48,32,55,48,48,32,120],[98,97,116,99,104,32,97,32,98,108,97,99,107,32,111,108,100,32,50,48,48,48],[98,97,116,99,104,32,98,32,119,104,105,116,101,32,111,108,100,32,50,48,48,48],[98,97,116,99,104,32,99,32,114,101,100,32,111,108,100,32,50,48,48,48],[98,97,116,99,104,32,99,32,114,101,100,32,110,101,119,32,50,48,48,48],[112,108,97,110,32,98,108,97,99,107],[112,111,117,114,32,98,108,97,99,107],[115,116,111,99,107],[116,101,115,116,10,116,101,115,116,32,97,108,116,97,114,32,53,48,10,48,32,49,48,48,53,48,48,10,54,48,32,57,54,53,48,48,10,49,50,48,32,57,50,52,48,48,10],[112,114,111,109,105,115,101,32,97,108,116,97,114],[98,111,120,32,97,108,116,97,114,32,50,49],[98,111,120,32,97,108,116,97,114,32,50,50],[116,101,115,116,10,116,101,115,116,32,97,108,116,97,114,32,48,10,48,32,49,48,48,48,48,48,10,54,48,32,57,53,48,48,48,10],[108,111,111,107],[119,105,99,107,32,98,101,101,115,32,51,48,48,32,49,48,32,48,32,50,48],[98,108,101,110,100,32,53,54,48,32,54,50,48,32,49,52,48]]
def uN:List (List UInt8):=[[112,117,114,101,32,57,54,55,32,49,48,48,48],[105,109,112,117,114,101,32,51,49,57,32,54,52,55],[110,111,32,57],[111,107],[111,107],[110,111,32,57],[111,107],[97,32,98,32,99,32,49,48,48],[49,48,48],[111,108,100,32,49,48,48,48,32,110,101,119,32,55,48,48,48],[52,48,48,48,32,52,49,48,48],[50,49],[111,107],[110,111,32,57],[53,48,48,48,32,53,48,48,48],[98,114,111,107,101,110,32,48],[109,105,100],[49,32,49,55,32,50,32,53,52,48,48]]
def jG:List UInt8:=[49,32,108,111,116,32,111,108,100,32,98,101,101,115,32,53,48,48,48,32,54,52,51,32,49,54,10,50,32,108,111,116,32,110,101,119,32,98,101,101,115,32,57,48,48,48,32,54,48,48,32,57,10,51,32,98,97,116,99,104,32,97,32,98,108,97,99,107,32,111,108,100,32,50,48,48,48,10,52,32,98,97,116,99,104,32,98,32,119,104,105,116,101,32,111,108,100,32,50,48,48,48,10,53,32,98,97,116,99,104,32,99,32,114,101,100,32,110,101,119,32,50,48,48,48,10,54,32,112,111,117,114,32,98,108,97,99,107,10,55,32,116,101,115,116,47,116,101,115,116,32,97,108,116,97,114,32,53,48,47,48,32,49,48,48,53,48,48,47,54,48,32,57,54,53,48,48,47,49,50,48,32,57,50,52,48,48,47,10,56,32,98,111,120,32,97,108,116,97,114,32,50,49,10,57,32,116,101,115,116,47,116,101,115,116,32,97,108,116,97,114,32,48,47,48,32,49,48,48,48,48,48,47,54,48,32,57,53,48,48,48,47,10]
theorem Pk (a b):ah TP 78 [.int .i64 a,.int .i64 b] (.agg [.int .i64 a,.int .i64 b]):=by
 refine aa (ai (by kernel_rfl) rfl YJ) rfl ?_;simp only [go_sem,simprocAttr]
theorem Pj (a b):ah TP 79 [.int .i64 a,.int .i64 b] (.agg [.int .i64 a,.int .i64 b]):=by
 refine aa (ai (by kernel_rfl) rfl YI) rfl ?_;simp only [go_sem,simprocAttr]
theorem Pi (a b):ah TP 80 [.int .i64 a,.int .i64 b] (.agg [.int .i64 a,.int .i64 b]):=by
 refine aa (ai (by kernel_rfl) rfl YH) rfl ?_;simp only [go_sem,simprocAttr]
theorem Pg (a b):ah TP 82 [.int .i64 a,.int .i64 b] (.agg [.int .i64 a,.int .i64 b]):=by
 refine aa (ai (by kernel_rfl) rfl YF) rfl ?_;simp only [go_sem,simprocAttr]
theorem Pf:ah TP 48 [] La.pv:=by
 refine ah.lessD (q:=.agg [.slice 2 (La.props.map WxProp.pv) true,.slice 2 [.agg [.str ⟨#[98,101,101,115]⟩,.slice 2 [.agg [.int .i64 620,.int .i64 640],.agg [.int .i64 17,.int .i64 22]] true],.agg [.str ⟨#[112,97,114,97,102,102,105,110]⟩,.slice 2 [.agg [.int .i64 540,.int .i64 580],.agg [.int .i64 0,.int .i64 0]] true],.agg [.str ⟨#[116,97,108,108,111,119]⟩,.slice 2 [.agg [.int .i64 420,.int .i64 460],.agg [.int .i64 2,.int .i64 10]] true]] true,.int .i64 950]) ?_ ?_
 .refine aa (ai (by kernel_rfl) rfl YT) rfl ?_;simp only [go_sem,simprocAttr];repeat' (refine ae (Pk _ _) rfl ?_;simp only [go_sem,simprocAttr])
  rfl
 .exact PL.aggL rfl ⟨PL.sliceL rfl (dm _),PL.sliceL rfl ⟨PL.aggL rfl ⟨.refl _,PL.sliceL rfl (dm _),trivial⟩,PL.aggL rfl ⟨.refl _,PL.sliceL rfl (dm _),trivial⟩,PL.aggL rfl ⟨.refl _,PL.sliceL rfl (dm _),trivial⟩,trivial⟩,.refl _,trivial⟩
theorem Pd:ah TP 49 [] (ft Ks):=by
 refine ah.lessD (q:=.slice 7 [.agg [.str ⟨#[98,101,101,115]⟩,.int .i64 1200,.int .i64 620,.int .i64 640,.int .i64 90,.int .i64 100,.nilslice],.agg [.str ⟨#[112,97,114,97,102,102,105,110]⟩,.int .i64 200,.int .i64 540,.int .i64 580,.int .i64 110,.int .i64 150,.nilslice],
   .agg [.str ⟨#[104,97,114,100]⟩,.int .i64 400,.int .i64 690,.int .i64 700,.int .i64 60,.int .i64 70,.slice 2 [.agg [.int .i64 0,.int .i64 0],.agg [.int .i64 2,.int .i64 20],.agg [.int .i64 4,.int .i64 30]] true]] true) ?_ ?_
 .refine aa (ai (by kernel_rfl) rfl YS) rfl ?_;simp only [go_sem,simprocAttr];repeat' (refine ae (Pj _ _) rfl ?_;simp only [go_sem,simprocAttr])
 .refine PL.sliceL rfl ⟨PL.aggL rfl ⟨.refl _,.refl _,.refl _,.refl _,.refl _,.refl _,.nil _,trivial⟩,PL.aggL rfl ⟨.refl _,.refl _,.refl _,.refl _,.refl _,.refl _,.nil _,trivial⟩,
   PL.aggL rfl ⟨.refl _,.refl _,.refl _,.refl _,.refl _,.refl _,PL.sliceL rfl (dm _),trivial⟩,trivial⟩
theorem RE:ah TP 50 [] BR.pv:=by
 refine ah.lessD (q:=.agg [.slice 4 (BR.wicks.map Wick.pv) true,.slice 8 (BR.waxes.map Wax.pv) true,.int .i64 20,.int .i64 45,.int .i64 500,.int .i64 1000]) ?_ ?_
 .refine aa (ai (by kernel_rfl) rfl YR) rfl ?_;simp only [go_sem,simprocAttr];repeat' (refine ae (Pi _ _) rfl ?_;simp only [go_sem,simprocAttr])
  exact ⟨rfl,rfl⟩
 .exact PL.aggL rfl ⟨PL.sliceL rfl (dm _),PL.sliceL rfl (dm _),.refl _,.refl _,.refl _,.refl _,trivial⟩
theorem Mw:ah TP 52 [] Gn.pv:=by
 refine ah.lessD (q:=.agg [.slice 4 [.agg [.str ⟨#[119,104,105,116,101]⟩,.int .i64 10,.int .i64 20,.slice 1 [.int .i64 1000,.int .i64 1000,.int .i64 1000] true],.agg [.str ⟨#[114,101,100]⟩,.int .i64 10,.int .i64 20,.slice 1 [.int .i64 2,.int .i64 1000,.int .i64 50] true],.agg [.str ⟨#[98,108,97,99,107]⟩,.int .i64 20,.int .i64 40,.slice 1 [.int .i64 1,.int .i64 5,.int .i64 1000] true]] true,.int .i64 100,.int .i64 200,.int .i64 50]) ?_ ?_
 .refine aa (ai (by kernel_rfl) rfl YP) rfl ?_;simp only [go_sem,simprocAttr];repeat' (refine ae (Pg _ _) rfl ?_;simp only [go_sem,simprocAttr])
 .exact PL.aggL rfl ⟨PL.sliceL rfl ⟨PL.aggL rfl ⟨.refl _,.refl _,.refl _,PL.sliceL rfl (dm _),trivial⟩,PL.aggL rfl ⟨.refl _,.refl _,.refl _,PL.sliceL rfl (dm _),trivial⟩,PL.aggL rfl ⟨.refl _,.refl _,.refl _,PL.sliceL rfl (dm _),trivial⟩,trivial⟩,.refl _,.refl _,.refl _,trivial⟩
theorem uE:ah TP 27 [] dM.pv:=by
 refine aa (ai (by kernel_rfl) rfl Y3) rfl ?_;simp only [go_sem,simprocAttr];refine ae Pf rfl ?_;simp only [go_sem,simprocAttr];refine ae Pd rfl ?_;simp only [go_sem,simprocAttr];refine ae RE rfl ?_;simp only [go_sem,simprocAttr];refine ae Ww rfl ?_;simp only [go_sem,simprocAttr];refine ae Mw rfl ?_;simp only [go_sem,simprocAttr];and_intros<;>rfl
theorem zS:ah TP 28 [] (b8 dG):=by
 refine ah.lessD (q:=.slice 1 (dG.map λx=>.str (bs x)) true) ?_ (PL.sliceL rfl (dm _));refine aa (ai (by kernel_rfl) rfl Y2) rfl ?_;simp only [go_sem,simprocAttr];rfl
theorem WJ:ah TP 29 [] (b8 uN):=by
 refine ah.lessD (q:=.slice 1 (uN.map λx=>.str (bs x)) true) ?_ (PL.sliceL rfl (dm _));refine aa (ai (by kernel_rfl) rfl Y1) rfl ?_;simp only [go_sem,simprocAttr];rfl
theorem LD:aj H0 Tryz.f30=true:=by kernel_rfl
theorem PB:ah TP 30 [] (.str (bs jG)):=by
 refine aa (ai (by kernel_rfl) rfl LD) rfl ?_;simp only [go_sem,simprocAttr];rfl
theorem sW:bn dM dG=0:=by kernel_rfl
theorem Rg:(aX dM dG).2.1=uN:=by kernel_rfl
theorem OP:(aX dM dG).1=(dB dM jG).1:=by kernel_rfl
theorem Rj:(aX dM dG).1.lots.length=2:=by kernel_rfl
theorem Rk:((aX dM dG).1.lots[0]?).map (·.grams)=some 1000:=by kernel_rfl
theorem Wl:((aX dM dG).1.poured,(aX dM dG).1.lost,(aX dM dG).1.tests.length,(aX dM dG).1.boxes.length)=(6000,100,2,1):=by kernel_rfl
theorem OO:iC (aX dM dG).2.2=jG:=by kernel_rfl
theorem Rh:((cy jG).1.length,(cy jG).2)=(9,0):=by kernel_rfl
theorem L8:(dB dM jG).2=(-1,0):=by kernel_rfl
def MJ:List UInt8:=[49,32,115,116,111,99,107,10]
theorem Wm:(dB dM MJ).2=(0,0):=by kernel_rfl
def Jo:ChShop:=⟨⟨[],[],0⟩,[],⟨[],[],⟨0,0⟩,⟨0,0⟩⟩,⟨[],[],0⟩,⟨[],⟨0,0⟩,0⟩⟩
theorem Ri:bn Jo []=3:=by kernel_rfl
theorem HY {s} {ls} (h:bn s ls=0):(b5 s).2.2=0/\ls.length<=40:=by
 unfold bn at h;split at h
 .rename_i h1;split at h
  .cases h
  .exact ⟨h1,by omega⟩
 .rename_i h1;exact absurd h h1
theorem MD {s} {b} {n} (h:BkOk s b n) (hi:BkIn b):BkLen b :=
 ⟨by have:=h.lots;omega,by have:=h.batches;omega,by have:=h.tests;omega,by have:=h.boxes;omega,hi.reads,hi.marks⟩
theorem I3 {s} {ls} (h:bn s ls=0):BkLen (aX s ls).1:=by
 obtain ⟨h1,h2⟩:=HY h;exact MD (I2 (Cs h1) h2) (QC s ls)
set_option maxHeartbeats 4000000 in
theorem DX:ah TP 10 [] (.bool true):=by
 have e1:oO dM dG=uN:=by rw [oO,if_pos sW,Rg]
 have e2:r9 dM dG=(aX dM dG).2.2:=by rw [r9,if_pos sW]
 refine aa (ai (by kernel_rfl) rfl Zc) rfl ?_;simp only [go_sem,simprocAttr];refine ae uE rfl ?_;simp only [go_sem,simprocAttr];refine ae zS rfl ?_;simp only [go_sem,simprocAttr];refine ae (BW dM dG) rfl ?_;rw [sW,e1];simp only [go_sem,simprocAttr];refine ae uE rfl ?_;simp only [go_sem,simprocAttr];refine ae zS rfl ?_;simp only [go_sem,simprocAttr];refine ae (Q3 dM dG) rfl ?_;rw [sW,DZ,if_pos sW];simp only [go_sem,simprocAttr];refine ae uE rfl ?_;simp only [go_sem,simprocAttr];refine ae zS rfl ?_;simp only [go_sem,simprocAttr];refine ae (Q2 dM dG) rfl ?_;rw [sW,e2,OO];simp only [go_sem,simprocAttr];refine ae (V9 jG (by decide)) rfl ?_;simp only [go_sem,simprocAttr];refine ae uE rfl ?_;simp only [go_sem,simprocAttr];refine ae (Ga dM jG (by decide)) rfl ?_;rw [L8];simp only [go_sem,simprocAttr];refine ae uE rfl ?_;have hbad:(⟨#[49,32,115,116,111,99,107,10]⟩:ByteArray)=bs MJ:=rfl;simp only [hbad,go_sem,simprocAttr];refine ae (Ga dM MJ (by decide)) rfl ?_;rw [Wm];simp only [go_sem,simprocAttr];refine ae ((BW Jo []).arglessD (args':=[.agg [.nilslice,.nilslice,.int .i64 0,.nilslice,.nilslice,.nilslice,.int .i64 0,.int .i64 0,.int .i64 0,.int .i64 0,.nilslice,.nilslice,.int .i64 0,.nilslice,.int .i64 0,.int .i64 0,.int .i64 0],.nilslice]) ⟨PL.aggL rfl ⟨.nil _,.nil _,.refl _,.nil _,.nil _,.nil _,.refl _,.refl _,.refl _,.refl _,.nil _,.nil _,.refl _,.nil _,.refl _,.refl _,.refl _,trivial⟩,.nil _,trivial⟩) rfl ?_;rw [Ri];obtain ⟨n1,n2,n3,n4⟩:(aX dM dG).1.poured=6000/\(aX dM dG).1.lost=100/\(aX dM dG).1.tests.length=2/\(aX dM dG).1.boxes.length=1:=by
  have:=Wl;simpa only [xp] using this
 obtain ⟨r1,r2⟩:(cy jG).1.length=9/\(cy jG).2=0:=by
  have:=Rh;simpa only [xp] using this
 obtain ⟨x,hx,hg⟩:=bz.1 Rk;have hl2:=Rj;have hln:=I3 sW;rw [<-OP];simp only [r2,xv,go_sem,simprocAttr];generalize (aX dM dG).1=bk at n1 n2 n3 n4 hx hl2 hln;have z1:(uN==uN)=true:=by simp
 have z2:(bs jG==bs jG)=true:=(qG _ _).2 rfl;refine ae WJ rfl ?_;simp only [xv,go_sem,simprocAttr];refine ae (DM uN uN (by decide)) rfl ?_;rw [z1];simp only [xv,hl2,hx,hg,n1,n2,n3,n4,go_sem,simprocAttr];refine ae PB rfl ?_;simp only [xv,z2,r1,b8,go_sem,simprocAttr];have heq:=WI bk hln;simp only [ChBooks.pv,ChBooks.cells,n1,n2] at heq;refine ae heq rfl ?_;simp only [xv,go_sem,simprocAttr]
theorem Li (s) (q) (l):∃ a w,(dl s q l).2.1=q.2.1++[a]/\(dl s q l).2.2=q.2.2++w:=by
 unfold dl;split
 .exact ⟨_,[],rfl,by simp⟩
 .dsimp only;split
  .exact ⟨_,_,rfl,rfl⟩
  .exact ⟨_,[],rfl,by simp⟩
theorem Dv (s):∀ (d:List (List UInt8)) (q),∃ a w,(d.foldl (dl s) q).2.1=q.2.1++a/\(d.foldl (dl s) q).2.2=q.2.2++w
 |[],q=>⟨[],[],by simp,by simp⟩
 |l::d,q=>by
  obtain ⟨a,w,h1,h2⟩:=Li s q l;obtain ⟨a',w',h3,h4⟩:=Dv s d (dl s q l);exact ⟨a::a',w++w',by rw [ky,h3,h1];simp,by rw [ky,h4,h2];simp⟩
theorem Lq (s) (ls) (n) (h:n<=ls.length):(aX s (ls.take n)).2.1=(aX s ls).2.1.take n:=by
 have h1:aX s ls=(ls.drop n).foldl (dl s) (aX s (ls.take n)):=by
  rw [aX,aX,<-r8,ol]
 obtain ⟨a,w,h2,_⟩:=Dv s (ls.drop n) (aX s (ls.take n));rw [h1,h2,fD];have:=(vb s (ls.take n)).1;rw [this,wy];omega
theorem L' {s} {ls} (n) (h:bn s ls=0):bn s (ls.take n)=0:=by
 obtain ⟨h1,h2⟩:=HY h;rw [bn,if_pos h1,if_neg (by rw [wy];omega)]
set_option maxHeartbeats 1000000 in
theorem zA (s:ChShop) (ls) (k) (hk:0<=k/\k<=255):ah TP 5 [s.pv,b8 ls,.int .u8 k] (.bool true):=by
 refine aa (ai (by kernel_rfl) rfl ZA) rfl ?_;simp only [go_sem,simprocAttr];refine ae (BW s ls) rfl ?_;by_cases he:bn s ls=0;rotate_left
 .have hn:(bn s ls != 0)=true:=by simpa using he
  have h0:oO s ls=[]:=by rw [oO,if_neg he]
  simp only [hn,h0,b8,cO,eG,go_sem,simprocAttr];refine ae DX rfl ?_;simp only [go_sem,simprocAttr]
 obtain ⟨h1,h2⟩:=HY he;have hlen:=(vb s ls).1;have ha:oO s ls=(aX s ls).2.1:=by rw [oO,if_pos he]
 obtain ⟨m,rfl⟩:=qL hk.1;obtain ⟨n,hn⟩:∃ n,n=m%(ls.length+1):=⟨_,rfl⟩
 have hnl:n<=ls.length:=by rw [hn];have:=rZ m (show 0<ls.length+1 by omega);omega
 have hk2:=BW s (ls.take n);have e2:=L' n he;rw [e2,oO,if_pos e2,Lq s ls n hnl] at hk2;have hs:=DM ((aX s ls).2.1.take n) ((aX s ls).2.1.take n) (by rw [wy];omega);rw [show ((aX s ls).2.1.take n==(aX s ls).2.1.take n)=true by simp] at hs;simp only [b8,M8] at hk2 hs;have w1:IntKind.i64.wrap ((ls.length:Int)+1)=((ls.length+1:Nat):Int):=bI (by omega) (by simp [aB];omega) (by simp);have w2:IntKind.i64.wrap ((m:Nat):Int)=((m:Nat):Int):=an (by omega) (by omega);have w3:¬ (((ls.length+1:Nat):Int)=0):=by omega
 have w4:((m:Nat):Int).tmod ((ls.length+1:Nat):Int)=((n:Nat):Int):=by rw [hn];rfl
 have w5:((n:Nat):Int)<=(ls.length:Int):=by omega
 have w6:((n:Nat):Int)<=((aX s ls).2.1.length:Int):=by omega
 simp only [he,ha,b8,w1,w2,w3,w4,w5,go_sem,simprocAttr];refine aC hk2 rfl ?_;have w7:((ls.length:Int)==(ls.length:Int))=true:=by simp
 simp only [hlen,w5,w7,go_sem,simprocAttr];refine ae hs rfl ?_;simp only [go_sem,simprocAttr];refine ae DX rfl ?_;simp only [go_sem,simprocAttr]
end Ch
set_option maxRecDepth 100000
theorem dr (cs):iY true cs=.agg cs:=by
 cases cs with
 |nil=>rfl
 |cons a l=>cases l<;>rfl
theorem iv {n} {cs} (h:cx TP (n+1) 3 cs):∃ m,cs=[.int .i64 m]:=by
 obtain ⟨m,h,_⟩:=I' (k:=.i64) (by kernel_rfl) h;exact ⟨m,h⟩
theorem fV {n} {cs} (h:cx TP (n+2) 30 cs):∃ s:Span,cs=[.int .i64 s.lo,.int .i64 s.hi]:=by
 obtain ⟨a,_,rfl,ha,b,_,rfl,hb,rfl⟩:=dx (ts:=[3,3]) (by kernel_rfl) h;obtain ⟨x,rfl⟩:=iv ha;obtain ⟨y,rfl⟩:=iv hb;exact ⟨⟨x,y⟩,rfl⟩
theorem JO {n} {cs} (h:cx TP (n+3) 168 cs):∃ k:HrKind,.agg cs=k.pv:=by
 obtain ⟨a,_,rfl,ha,b,_,rfl,hb,c,_,rfl,hc,rfl⟩:=dx (ts:=[9,30,3]) (by kernel_rfl) h;obtain ⟨x,rfl,_⟩:=md (by kernel_rfl) ha;obtain ⟨y,rfl⟩:=fV hb;obtain ⟨z,rfl⟩:=iv hc;exact ⟨⟨x,y,z⟩,rfl⟩
theorem JN {n} {cs} (h:cx TP (n+3) 171 cs):∃ k:HrRule,.agg cs=k.pv:=by
 obtain ⟨a,_,rfl,ha,b,_,rfl,hb,c,_,rfl,hc,rfl⟩:=dx (ts:=[9,30,30]) (by kernel_rfl) h;obtain ⟨x,rfl,_⟩:=md (by kernel_rfl) ha;obtain ⟨y,rfl⟩:=fV hb;obtain ⟨z,rfl⟩:=fV hc;exact ⟨⟨x,y,z⟩,rfl⟩
theorem yn {n} {cs} (h:cx TP (n+4) 33 cs):∃ l:List HrKind,cs=[.slice 4 (l.map HrKind.pv) false]:=by
 obtain ⟨xs,rfl,_,hx⟩:=g8 (e:=168) (z:=4) (g:=true) (by kernel_rfl) h;obtain ⟨l,rfl⟩:=gB HrKind.pv (xs:=xs) λx hm=>by
  obtain ⟨es,rfl,h⟩:=hx x hm;rw [dr];exact JO h
 exact ⟨l,rfl⟩
theorem ym {n} {cs} (h:cx TP (n+4) 34 cs):∃ l:List HrRule,cs=[.slice 5 (l.map HrRule.pv) false]:=by
 obtain ⟨xs,rfl,_,hx⟩:=g8 (e:=171) (z:=5) (g:=true) (by kernel_rfl) h;obtain ⟨l,rfl⟩:=gB HrRule.pv (xs:=xs) λx hm=>by
  obtain ⟨es,rfl,h⟩:=hx x hm;rw [dr];exact JN h
 exact ⟨l,rfl⟩
theorem va {v} (h:u7 TP 8 36 v):∃ s:HrShop,v=s.pv:=by
 obtain ⟨cs,rfl,h⟩:=h;rw [show (bK TP 36==some true)=true by kernel_rfl,dr];obtain ⟨a,_,rfl,ha,b,_,rfl,hb,c,_,rfl,hc,rfl⟩:=dx (ts:=[33,34,3]) (by kernel_rfl) h;obtain ⟨x,rfl⟩:=yn ha;obtain ⟨y,rfl⟩:=ym hb;obtain ⟨z,rfl⟩:=iv hc;exact ⟨⟨x,y,z⟩,rfl⟩
theorem PF {v} (h:u7 TP 8 5 v):∃ k,v=.int .u8 k/\0<=k/\k<=255:=by
 obtain ⟨cs,rfl,h⟩:=h;rw [show (bK TP 5==some true)=false by kernel_rfl];obtain ⟨k,rfl,h1,h2⟩:=I' (k:=.u8) (by kernel_rfl) h;exact ⟨k,rfl,h1,h2⟩
namespace Ch
theorem OE {n} {cs} (h:cx TP (n+2) 65 cs):∃ l:List Int,cs=[.slice 1 (l.map aJ) false]:=by
 obtain ⟨xs,rfl,_,hx⟩:=g8 (e:=3) (z:=1) (g:=false) (by kernel_rfl) h;obtain ⟨l,rfl⟩:=gB aJ (xs:=xs) λx hm=>by
  obtain ⟨es,rfl,h⟩:=hx x hm;obtain ⟨m,rfl⟩:=iv h;exact ⟨m,rfl⟩
 exact ⟨l,rfl⟩
theorem LS {n} {cs} (h:cx TP (n+3) 152 cs):∃ l:List Span,cs=[.slice 2 (l.map Span.pv) false]:=by
 obtain ⟨xs,rfl,_,hx⟩:=g8 (e:=30) (z:=2) (g:=true) (by kernel_rfl) h;obtain ⟨l,rfl⟩:=gB Span.pv (xs:=xs) λx hm=>by
  obtain ⟨es,rfl,h⟩:=hx x hm;rw [dr];obtain ⟨s,rfl⟩:=fV h;exact ⟨s,rfl⟩
 exact ⟨l,rfl⟩
theorem JJ {n} {cs} (h:cx TP (n+4) 151 cs):∃ w:WxProp,.agg cs=w.pv:=by
 obtain ⟨a,_,rfl,ha,b,_,rfl,hb,rfl⟩:=dx (ts:=[9,3]) (by kernel_rfl) h;obtain ⟨x,rfl,_⟩:=md (by kernel_rfl) ha;obtain ⟨y,rfl⟩:=iv hb;exact ⟨⟨x,y⟩,rfl⟩
theorem JK {n} {cs} (h:cx TP (n+4) 154 cs):∃ w:WxKind,.agg cs=w.pv:=by
 obtain ⟨a,_,rfl,ha,b,_,rfl,hb,rfl⟩:=dx (ts:=[9,152]) (by kernel_rfl) h;obtain ⟨x,rfl,_⟩:=md (by kernel_rfl) ha;obtain ⟨y,rfl⟩:=LS hb;exact ⟨⟨x,y⟩,rfl⟩
theorem HO {n} {cs} (h:cx TP (n+2) 176 cs):∃ s:BdPoint,.agg cs=s.pv:=by
 obtain ⟨a,_,rfl,ha,b,_,rfl,hb,rfl⟩:=dx (ts:=[3,3]) (by kernel_rfl) h;obtain ⟨x,rfl⟩:=iv ha;obtain ⟨y,rfl⟩:=iv hb;exact ⟨⟨x,y⟩,rfl⟩
theorem E7 {n} {cs} (h:cx TP (n+3) 156 cs):∃ l:List BdPoint,cs=[.slice 2 (l.map BdPoint.pv) false]:=by
 obtain ⟨xs,rfl,_,hx⟩:=g8 (e:=176) (z:=2) (g:=true) (by kernel_rfl) h;obtain ⟨l,rfl⟩:=gB BdPoint.pv (xs:=xs) λx hm=>by
  obtain ⟨es,rfl,h⟩:=hx x hm;rw [dr];exact HO h
 exact ⟨l,rfl⟩
theorem LT {n} {cs} (h:cx TP (n+4) 158 cs):∃ w:BdWax,.agg cs=w.pv:=by
 obtain ⟨a,_,rfl,ha,b,_,rfl,hb,c,_,rfl,hc,d,_,rfl,hd,e,_,rfl,he,rfl⟩:=dx (ts:=[9,3,30,30,156]) (by kernel_rfl) h;obtain ⟨x,rfl,_⟩:=md (by kernel_rfl) ha;obtain ⟨y,rfl⟩:=iv hb;obtain ⟨z,rfl⟩:=fV hc;obtain ⟨u,rfl⟩:=fV hd;obtain ⟨v,rfl⟩:=E7 he;exact ⟨⟨x,y,z,u,v⟩,rfl⟩
theorem JL {n} {cs} (h:cx TP (n+4) 163 cs):∃ w:Wick,.agg cs=w.pv:=by
 obtain ⟨a,_,rfl,ha,b,_,rfl,hb,c,_,rfl,hc,rfl⟩:=dx (ts:=[9,3,30]) (by kernel_rfl) h;obtain ⟨x,rfl,_⟩:=md (by kernel_rfl) ha;obtain ⟨y,rfl⟩:=iv hb;obtain ⟨z,rfl⟩:=fV hc;exact ⟨⟨x,y,z⟩,rfl⟩
theorem LR {n} {cs} (h:cx TP (n+4) 166 cs):∃ w:Wax,.agg cs=w.pv:=by
 obtain ⟨a,_,rfl,ha,b,_,rfl,hb,c,_,rfl,hc,d,_,rfl,hd,e,_,rfl,he,rfl⟩:=dx (ts:=[9,30,30,30,3]) (by kernel_rfl) h;obtain ⟨x,rfl,_⟩:=md (by kernel_rfl) ha;obtain ⟨y,rfl⟩:=fV hb;obtain ⟨z,rfl⟩:=fV hc;obtain ⟨u,rfl⟩:=fV hd;obtain ⟨v,rfl⟩:=iv he;exact ⟨⟨x,y,z,u,v⟩,rfl⟩
theorem E6 {n} {cs} (h:cx TP (n+4) 75 cs):∃ w:ClColour,.agg cs=w.pv:=by
 obtain ⟨a,_,rfl,ha,b,_,rfl,hb,c,_,rfl,hc,rfl⟩:=dx (ts:=[9,30,65]) (by kernel_rfl) h;obtain ⟨x,rfl,_⟩:=md (by kernel_rfl) ha;obtain ⟨y,rfl⟩:=fV hb;obtain ⟨z,rfl⟩:=OE hc;exact ⟨⟨x,y,z⟩,rfl⟩
theorem HL {n} {cs} (h:cx TP (n+5) 22 cs):∃ l:List WxProp,cs=[.slice 2 (l.map WxProp.pv) false]:=by
 obtain ⟨xs,rfl,_,hx⟩:=g8 (e:=151) (z:=2) (g:=true) (by kernel_rfl) h;obtain ⟨l,rfl⟩:=gB WxProp.pv (xs:=xs) λx hm=>by
  obtain ⟨es,rfl,h⟩:=hx x hm;rw [dr];exact JJ h
 exact ⟨l,rfl⟩
theorem HM {n} {cs} (h:cx TP (n+5) 23 cs):∃ l:List WxKind,cs=[.slice 2 (l.map WxKind.pv) false]:=by
 obtain ⟨xs,rfl,_,hx⟩:=g8 (e:=154) (z:=2) (g:=true) (by kernel_rfl) h;obtain ⟨l,rfl⟩:=gB WxKind.pv (xs:=xs) λx hm=>by
  obtain ⟨es,rfl,h⟩:=hx x hm;rw [dr];exact JK h
 exact ⟨l,rfl⟩
theorem JP {n} {cs} (h:cx TP (n+5) 26 cs):∃ l:List BdWax,cs=[.slice 7 (l.map BdWax.pv) false]:=by
 obtain ⟨xs,rfl,_,hx⟩:=g8 (e:=158) (z:=7) (g:=true) (by kernel_rfl) h;obtain ⟨l,rfl⟩:=gB BdWax.pv (xs:=xs) λx hm=>by
  obtain ⟨es,rfl,h⟩:=hx x hm;rw [dr];exact LT h
 exact ⟨l,rfl⟩
theorem HN {n} {cs} (h:cx TP (n+5) 27 cs):∃ l:List Wick,cs=[.slice 4 (l.map Wick.pv) false]:=by
 obtain ⟨xs,rfl,_,hx⟩:=g8 (e:=163) (z:=4) (g:=true) (by kernel_rfl) h;obtain ⟨l,rfl⟩:=gB Wick.pv (xs:=xs) λx hm=>by
  obtain ⟨es,rfl,h⟩:=hx x hm;rw [dr];exact JL h
 exact ⟨l,rfl⟩
theorem JM {n} {cs} (h:cx TP (n+5) 28 cs):∃ l:List Wax,cs=[.slice 8 (l.map Wax.pv) false]:=by
 obtain ⟨xs,rfl,_,hx⟩:=g8 (e:=166) (z:=8) (g:=true) (by kernel_rfl) h;obtain ⟨l,rfl⟩:=gB Wax.pv (xs:=xs) λx hm=>by
  obtain ⟨es,rfl,h⟩:=hx x hm;rw [dr];exact LR h
 exact ⟨l,rfl⟩
theorem Dk {n} {cs} (h:cx TP (n+5) 37 cs):∃ l:List ClColour,cs=[.slice 4 (l.map ClColour.pv) false]:=by
 obtain ⟨xs,rfl,_,hx⟩:=g8 (e:=75) (z:=4) (g:=true) (by kernel_rfl) h;obtain ⟨l,rfl⟩:=gB ClColour.pv (xs:=xs) λx hm=>by
  obtain ⟨es,rfl,h⟩:=hx x hm;rw [dr];exact E6 h
 exact ⟨l,rfl⟩
theorem Kc {v} (h:u7 TP 8 41 v):∃ s:ChShop,v=s.pv:=by
 obtain ⟨cs,rfl,h⟩:=h;rw [show (bK TP 41==some true)=true by kernel_rfl,dr];obtain ⟨a,_,rfl,ha,b,_,rfl,hb,c,_,rfl,hc,d,_,rfl,hd,e,_,rfl,he,rfl⟩:=dx (ts:=[25,26,32,36,39]) (by kernel_rfl) h;obtain ⟨a1,_,rfl,ha1,a2,_,rfl,ha2,a3,_,rfl,ha3,rfl⟩:=dx (ts:=[22,23,3]) (by kernel_rfl) ha;obtain ⟨x1,rfl⟩:=HL ha1;obtain ⟨x2,rfl⟩:=HM ha2;obtain ⟨x3,rfl⟩:=iv ha3;obtain ⟨y,rfl⟩:=JP hb;obtain ⟨c1,_,rfl,hc1,c2,_,rfl,hc2,c3,_,rfl,hc3,c4,_,rfl,hc4,rfl⟩:=dx (ts:=[27,28,30,30]) (by kernel_rfl) hc;obtain ⟨z1,rfl⟩:=HN hc1;obtain ⟨z2,rfl⟩:=JM hc2;obtain ⟨z3,rfl⟩:=fV hc3;obtain ⟨z4,rfl⟩:=fV hc4;obtain ⟨d1,_,rfl,hd1,d2,_,rfl,hd2,d3,_,rfl,hd3,rfl⟩:=dx (ts:=[33,34,3]) (by kernel_rfl) hd;obtain ⟨u1,rfl⟩:=yn hd1;obtain ⟨u2,rfl⟩:=ym hd2;obtain ⟨u3,rfl⟩:=iv hd3;obtain ⟨e1,_,rfl,he1,e2,_,rfl,he2,e3,_,rfl,he3,rfl⟩:=dx (ts:=[37,30,3]) (by kernel_rfl) he;obtain ⟨w1,rfl⟩:=Dk he1;obtain ⟨w2,rfl⟩:=fV he2;obtain ⟨w3,rfl⟩:=iv he3;exact ⟨⟨⟨x1,x2,x3⟩,y,⟨z1,z2,z3,z4⟩,⟨u1,u2,u3⟩,⟨w1,w2,w3⟩⟩,rfl⟩
theorem LM {v} (h:u7 TP 8 42 v):∃ l,v=b8 l/\l.length<9223372036854775808:=by
 obtain ⟨cs,rfl,h⟩:=h;rw [show (bK TP 42==some true)=false by kernel_rfl];obtain ⟨xs,rfl,hlen,hx⟩:=g8 (e:=9) (z:=1) (g:=false) (by kernel_rfl) h;obtain ⟨l,rfl⟩:=gB (λx:List UInt8=>PV.str (bs x)) (xs:=xs) λx hm=>by
  obtain ⟨es,rfl,h⟩:=hx x hm;obtain ⟨s,rfl,_⟩:=md (by kernel_rfl) h;exact ⟨s.data.toList,by rw [uH];rfl⟩
 refine ⟨l,rfl,?_⟩;simp [maxLen] at hlen;omega
end Ch
end Abs
end Go.Proofs.YtfafnkpfamgbbaaGreatDoor
