/- CONTRACTS of the program's functions, and laws on what they return. No conditions but those in the theorems' heads. -/
import Derived.Test.YtoapoaoelpcniaaGreatDoorChReadCX
set_option linter.all false
open Go.Proofs.Tryz renaming prog->TP
namespace Go.Proofs.YtoapoaoelpcniaaGreatDoor
namespace Abs
namespace Ch
set_option maxRecDepth 100000
def jn (s:ChShop) (ls:List (List UInt8)):List (List UInt8):=if aY s ls=0 then(bM s ls).2.1 else []
def iY (s:ChShop) (ls:List (List UInt8)):ChBooks:=if aY s ls=0 then(bM s ls).1 else aJ
def uY (s:ChShop) (ls:List (List UInt8)):List (List UInt8):=if aY s ls=0 then(bM s ls).2.2 else []
theorem Cd:PL iu aJ.pv:=PL.aggL rfl ⟨.nil _,.nil _,.nil _,.nil _,.refl _,.refl _,trivial⟩
theorem vQ(s)(ls):af TP 8 [s.pv,bp ls] (.tuple [bp (jn s ls),.int .i64 (aY s ls)]):=by
 refine(QM s ls).lessD ?_;unfold jn;by_cases h:aY s ls=0
 .rw[if_pos h,if_pos h,h];exact .refl _
 .rw[if_neg h,if_neg h];exact PL.tupleL ⟨.nil _,.refl _,trivial⟩
theorem xw(s)(ls):af TP 7 [s.pv,bp ls] (.tuple [(iY s ls).pv,.int .i64 (aY s ls)]):=by
 refine(Wh s ls).lessD ?_;unfold iY;by_cases h:aY s ls=0
 .rw[if_pos h,if_pos h,h];exact .refl _
 .rw[if_neg h,if_neg h];exact PL.tupleL ⟨Cd,.refl _,trivial⟩
theorem Vn(s)(ls):af TP 30 [s.pv,bp ls] (.tuple [.str (bs (jF (uY s ls))),.int .i64 (aY s ls)]):=by
 have:=Wg s ls;unfold sJ at this;unfold uY;by_cases h:aY s ls=0
 .rw[if_pos h,<-h]at this;rw[if_pos h];exact this
 .rw[if_neg h]at this;rw[if_neg h];exact this
theorem M4{t}(h:(dm t).2≠0):(dm t).1=[]:=by
 unfold dm at h |-;split
 .rfl
 .split
  .rfl
  .rename_i l hl h2;rw[hl]at h;simp only[if_neg h2]at h;exact absurd rfl h
theorem Xz(t)(hl:t.length<=2000000):af TP 31 [.str (bs t)] (.tuple [bp (dm t).1,.int .i64 (dm t).2]):=by
 refine(LY t hl).lessD ?_;unfold dL;by_cases h:(dm t).2=0
 .rw[if_pos h];exact .refl _
 .rw[if_neg h,M4 h];exact PL.tupleL ⟨.nil _,.refl _,trivial⟩
theorem K9{s}{t}(h:(eB s t).2.2≠0):(eB s t).1=aJ:=by
 unfold eB at h |-;split
 .rfl
 .split
  .rfl
  .rename_i h1 h2;rw[if_neg h1,if_neg h2]at h;exact absurd rfl h
theorem JT(s)(t)(hl:t.length<=2000000):af TP 32 [s.pv,.str (bs t)] (.tuple [(eB s t).1.pv,.int .i64 (eB s t).2.1,.int .i64 (eB s t).2.2]):=by
 refine(TI s t hl).lessD ?_;unfold lL;by_cases h:(eB s t).2.2=0
 .rw[if_pos h];exact .refl _
 .rw[if_neg h,K9 h];exact PL.tupleL ⟨Cd,.refl _,.refl _,trivial⟩
theorem QR(a c)(ha:a.length<1000000000):af TP 33 [bp a,bp c] (.bool (a==c)):=by
 refine aa (ah Tryz.func33 rfl (by kernel_rfl)) rfl ?_;simp only[bp,go_sem,simprocAttr];refine aT (λhb=>?_) (λhb=>?_)<;>simp only[hb,go_sem,simprocAttr]
 .have:¬(a=c):=λh=>by subst h;simp at hb
  simp[this]
 have hlen:a.length=c.length:=by simp[bne]at hb;omega
 refine eM [0,1] a ha (τ:=Unit) (λdone rest _=>c.take done.length=done) (λdone _=>[(5,.p (.int .i64 done.length))]) () (by simp) ?_ ?_ ?_
 .simp only[go_sem,simprocAttr]<;>simp
 .intro _ e2;rw[eD (by omega)]at e2;subst e2;simp only[go_sem,simprocAttr];simp
 .intro done x rest _ e1 e2 hx hlt hnx;have hlt2:(done.length:Int)<(c.length:Int):=by omega
  obtain⟨y,hy⟩:∃y,c[done.length]?=some y:=⟨_,dc (by omega)⟩
  simp only[hlt,hlt2,hx,hy,cc,go_sem,simprocAttr];cases hb:(x==y)
  .simp only[go_sem,simprocAttr];have:¬(a=c):=λh=>by
    subst h;rw[hx]at hy;cases hy;simp at hb
   simp[this]
  .have hxy:x=y:=by simpa using hb
   simp only[go_sem,simprocAttr];refine ak e1 () (by rw[aB,bn,s6,e2,hy,hxy];rfl) ?_;simp only[hnx,go_sem,simprocAttr]
structure BkLen (b:ChBooks):Prop where
 lots:b.lots.length<1000000000
 batches:b.batches.length<1000000000
 tests:b.tests.length<1000000000
 boxes:b.boxes.length<1000000000
 readings:∀x,x∈b.lots->x.readings.length<1000000000
 marks:∀t,t∈b.tests->t.marks.length<1000000000
theorem R2(b)(h:BkLen b):af TP 10 [b.pv,b.pv] (.bool true):=by
 refine aa (eg (by kernel_rfl) rfl ZZ) rfl ?_;have b1:∀n:Int,(n != n)=false:=λn=>by simp
 have b2:∀x:ByteArray,(x==x)=true:=λx=>(gv x x).2 rfl;simp only[b1,go_sem,simprocAttr];refine aQ [2,3] b.lots h.lots (τ:=Unit) (λ_ _ _=>True) (λdone _=>[(5,.p (.int .i64 done.length))]) (λ_ _=>[.row 6 [.p b.pv],.row 6 [.p b.pv]]) () trivial ?_ ?_ ?_
 .simp only[cw,go_sem,simprocAttr]
 rotate_left
 .intro done x rest _ e1 _ hx hlt hnx;have hxm:x∈b.lots:=by rw[e1];simp
  simp only[hlt,decide_true,hx,Kx,aL,b1,b2,go_sem,simprocAttr];refine ae (TL x.readings x.readings false false (h.readings x hxm)) rfl ?_;rw[show (x.readings==x.readings)=true by simp];simp only[go_sem,simprocAttr];refine ak e1 () trivial ?_;simp only[hnx,go_sem,simprocAttr]
 intro _ _;have hlt0:¬((b.lots.length:Int)<(b.lots.length:Int)):=by omega
 simp only[hlt0,decide_false,go_sem,simprocAttr];refine aQ [2,3] b.batches h.batches (τ:=Unit) (λ_ _ _=>True) (λdone _=>[(8,.p (.int .i64 done.length))]) (λ_ _=>[.row 6 [.p b.pv],.row 6 [.p b.pv]]) () trivial ?_ ?_ ?_
 .simp only[cw,go_sem,simprocAttr]
 rotate_left
 .intro done x rest _ e1 _ hx hlt hnx;have hxm:x∈b.batches:=by rw[e1];simp
  simp only[hlt,decide_true,hx,Kx,aL,b2,go_sem,simprocAttr];rw[show (x.colour==x.colour&&(x.lot==x.lot&&x.grams==x.grams))=true by simp];simp only[go_sem,simprocAttr];refine ak e1 () trivial ?_;simp only[hnx,go_sem,simprocAttr]
 intro _ _;have hlt1:¬((b.batches.length:Int)<(b.batches.length:Int)):=by omega
 simp only[hlt1,decide_false,go_sem,simprocAttr];refine aQ [2,3] b.tests h.tests (τ:=Unit) (λ_ _ _=>True) (λdone _=>[(9,.p (.int .i64 done.length))]) (λ_ _=>[.row 6 [.p b.pv],.row 6 [.p b.pv]]) () trivial ?_ ?_ ?_
 .simp only[cw,go_sem,simprocAttr]
 rotate_left
 .intro done x rest _ e1 _ hx hlt hnx;have hxm:x∈b.tests:=by rw[e1];simp
  simp only[hlt,decide_true,hx,Kx,aL,go_sem,simprocAttr];refine ax (We x x (h.marks x hxm)) rfl ?_;rw[show BB x x=true by rw[Tc]];simp only[Kx,go_sem,simprocAttr];refine ak e1 () trivial ?_;simp only[hnx,go_sem,simprocAttr]
 intro _ _;have hlt2:¬((b.tests.length:Int)<(b.tests.length:Int)):=by omega
 simp only[hlt2,decide_false,go_sem,simprocAttr];refine aQ [2,3] b.boxes h.boxes (τ:=Unit) (λ_ _ _=>True) (λdone _=>[(10,.p (.int .i64 done.length))]) (λ_ _=>[.row 6 [.p b.pv],.row 6 [.p b.pv]]) () trivial ?_ ?_ ?_
 .simp only[cw,go_sem,simprocAttr]
 rotate_left
 .intro done x rest _ e1 _ hx hlt hnx;have hxm:x∈b.boxes:=by rw[e1];simp
  simp only[hlt,decide_true,hx,Kx,aL,go_sem,simprocAttr];rw[show (x.kind==x.kind&&x.hours==x.hours)=true by simp];simp only[go_sem,simprocAttr];refine ak e1 () trivial ?_;simp only[hnx,go_sem,simprocAttr]
 intro _ _;have hlt3:¬((b.boxes.length:Int)<(b.boxes.length:Int)):=by omega
 simp only[hlt3,decide_false,go_sem,simprocAttr]
def Pq:WxTable:=⟨[⟨⟨#[109,101,108,116]⟩,5⟩,⟨⟨#[97,99,105,100]⟩,2⟩],[⟨⟨#[98,101,101,115]⟩,[⟨620,640⟩,⟨17,22⟩]⟩,⟨⟨#[112,97,114,97,102,102,105,110]⟩,[⟨540,580⟩,⟨0,0⟩]⟩,⟨⟨#[116,97,108,108,111,119]⟩,[⟨420,460⟩,⟨2,10⟩]⟩],950⟩
def E9:Shop:=⟨[⟨⟨#[116,104,105,110]⟩,10,⟨16,18⟩⟩,⟨⟨#[109,105,100]⟩,14,⟨20,24⟩⟩,⟨⟨#[102,97,116]⟩,20,⟨30,36⟩⟩],[⟨⟨#[98,101,101,115]⟩,⟨100,100⟩,⟨150,160⟩,⟨1000,1100⟩,1⟩],⟨20,45⟩,⟨500,1000⟩⟩
def OE:List BdWax:=[⟨⟨#[98,101,101,115]⟩,1200,⟨620,640⟩,⟨90,100⟩,[]⟩,⟨⟨#[112,97,114,97,102,102,105,110]⟩,200,⟨540,580⟩,⟨110,150⟩,[]⟩,⟨⟨#[104,97,114,100]⟩,400,⟨690,700⟩,⟨60,70⟩,[⟨0,0⟩,⟨2,20⟩,⟨4,30⟩]⟩]
def J5:ClShop:=⟨[⟨⟨#[119,104,105,116,101]⟩,⟨10,20⟩,[1000,1000,1000]⟩,⟨⟨#[114,101,100]⟩,⟨10,20⟩,[2,1000,50]⟩,⟨⟨#[98,108,97,99,107]⟩,⟨20,40⟩,[1,5,1000]⟩],⟨100,200⟩,50⟩
def eS:ChShop:=⟨Pq,OE,E9,Fb,J5⟩
def eI:List (List UInt8):=[[108,111,116,32,111,108,100,32,98,101,101,115,32,53,48,48,48,32,54,52,51,32,49,54],[108,111,116,32,110,101,119,32,98,101,101,115,32,57,48,48,48,32,54,48,48,32,57],[108,111,116,32,111,100,100,32,98,101,101,115,32,57,48,48,48,32,55,48,48,32,120],[98,97,116,99,104,32,97,32,98,108,97,99,107,32,111,108,100,32,50,48,48,48],[98,97,116,99,104,32,98,32,119,104,105,116,101,32,111,108,100,32,50,48,48,48],[98,97,116,99,104,32,99,32,114,101,100,32,111,108,100,32,50,48,48,48],[98,97,116,99,104,32,99,32,114,101,100,32,110,101,119,32,50,48,48,48],[112,108,97,110,32,98,108,97,99,107],[112,111,117,114,32,98,108,97,99,107],[115,116,111,99,107],[116,101,115,116,10,116,101,115,116,32,97,108,116,97,114,32,53,48,10,48,32,49,48,48,53,48,48,10,54,48,32,57,54,53,48,48,10,49,50,48,32,57,50,52,48,48,10],[112,114,111,109,105,115,101,32,97,108,116,97,114],[98,111,120,32,97,108,116,97,114,32,50,49],[98,111,120,32,97,108,116,97,114,32,50,50],[116,101,115,116,10,116,101,115,116,32,97,108,116,97,114,32,48,10,48,32,49,48,48,48,48,48,10,54,48,32,57,53,48,48,48,10],[108,111,111,107],[119,105,99,107,32,98,101,101,115,32,51,48,48,32,49,48,32,48,32,50,48],[98,108,101,110,100,32,53,54,48,32,54,50,48,32,49,52,48]]
def x8:List (List UInt8):=[[112,117,114,101,32,57,54,55,32,49,48,48,48],[105,109,112,117,114,101,32,51,49,57,32,54,52,55],[110,111,32,57],[111,107],[111,107],[110,111,32,57],[111,107],[97,32,98,32,99,32,49,48,48],[49,48,48],[111,108,100,32,49,48,48,48,32,110,101,119,32,55,48,48,48],[52,48,48,48,32,52,49,48,48],[50,49],[111,107],[110,111,32,57],[53,48,48,48,32,53,48,48,48],[98,114,111,107,101,110,32,48],[109,105,100],[49,32,49,55,32,50,32,53,52,48,48]]
def la:List UInt8:=[49,32,108,111,116,32,111,108,100,32,98,101,101,115,32,53,48,48,48,32,54,52,51,32,49,54,10,50,32,108,111,116,32,110,101,119,32,98,101,101,115,32,57,48,48,48,32,54,48,48,32,57,10,51,32,98,97,116,99,104,32,97,32,98,108,97,99,107,32,111,108,100,32,50,48,48,48,10,52,32,98,97,116,99,104,32,98,32,119,104,105,116,101,32,111,108,100,32,50,48,48,48,10,53,32,98,97,116,99,104,32,99,32,114,101,100,32,110,101,119,32,50,48,48,48,10,54,32,112,111,117,114,32,98,108,97,99,107,10,55,32,116,101,115,116,47,116,101,115,116,32,97,108,116,97,114,32,53,48,47,48,32,49,48,48,53,48,48,47,54,48,32,57,54,53,48,48,47,49,50,48,32,57,50,52,48,48,47,10,56,32,98,111,120,32,97,108,116,97,114,32,50,49,10,57,32,116,101,115,116,47,116,101,115,116,32,97,108,116,97,114,32,48,47,48,32,49,48,48,48,48,48,47,54,48,32,57,53,48,48,48,47,10]
theorem TE(a b):af TP 105 [.int .i64 a,.int .i64 b] (.agg [.int .i64 a,.int .i64 b]):=by
 refine aa (ah Tryz.func105 rfl (by kernel_rfl)) rfl ?_;simp only[go_sem,simprocAttr]
theorem TD(a b):af TP 106 [.int .i64 a,.int .i64 b] (.agg [.int .i64 a,.int .i64 b]):=by
 refine aa (ah Tryz.func106 rfl (by kernel_rfl)) rfl ?_;simp only[go_sem,simprocAttr]
theorem TC(a b):af TP 107 [.int .i64 a,.int .i64 b] (.agg [.int .i64 a,.int .i64 b]):=by
 refine aa (ah Tryz.func107 rfl (by kernel_rfl)) rfl ?_;simp only[go_sem,simprocAttr]
theorem TA(a b):af TP 109 [.int .i64 a,.int .i64 b] (.agg [.int .i64 a,.int .i64 b]):=by
 refine aa (ah Tryz.func109 rfl (by kernel_rfl)) rfl ?_;simp only[go_sem,simprocAttr]
theorem Tz:af TP 59 [] Pq.pv:=by
 refine af.lessD (q:=.agg [.slice 2 (Pq.props.map WxProp.pv) true,.slice 2 [.agg [.str ⟨#[98,101,101,115]⟩,.slice 2 [.agg [.int .i64 620,.int .i64 640],.agg [.int .i64 17,.int .i64 22]] true],.agg [.str ⟨#[112,97,114,97,102,102,105,110]⟩,.slice 2 [.agg [.int .i64 540,.int .i64 580],.agg [.int .i64 0,.int .i64 0]] true],.agg [.str ⟨#[116,97,108,108,111,119]⟩,.slice 2 [.agg [.int .i64 420,.int .i64 460],.agg [.int .i64 2,.int .i64 10]] true]] true,.int .i64 950]) ?_ ?_
 .refine aa (ah Tryz.func59 rfl (by kernel_rfl)) rfl ?_;simp only[go_sem,simprocAttr];repeat' (refine ae (TE _ _) rfl ?_;simp only[go_sem,simprocAttr])
  rfl
 .exact PL.aggL rfl ⟨PL.sliceL rfl (dv _),PL.sliceL rfl ⟨PL.aggL rfl ⟨.refl _,PL.sliceL rfl (dv _),trivial⟩,PL.aggL rfl ⟨.refl _,PL.sliceL rfl (dv _),trivial⟩,PL.aggL rfl ⟨.refl _,PL.sliceL rfl (dv _),trivial⟩,trivial⟩,.refl _,trivial⟩
theorem Tx:af TP 60 [] (f' OE):=by
 refine af.lessD (q:=.slice 7 [.agg [.str ⟨#[98,101,101,115]⟩,.int .i64 1200,.int .i64 620,.int .i64 640,.int .i64 90,.int .i64 100,.nilslice],.agg [.str ⟨#[112,97,114,97,102,102,105,110]⟩,.int .i64 200,.int .i64 540,.int .i64 580,.int .i64 110,.int .i64 150,.nilslice],
   .agg [.str ⟨#[104,97,114,100]⟩,.int .i64 400,.int .i64 690,.int .i64 700,.int .i64 60,.int .i64 70,.slice 2 [.agg [.int .i64 0,.int .i64 0],.agg [.int .i64 2,.int .i64 20],.agg [.int .i64 4,.int .i64 30]] true]] true) ?_ ?_
 .refine aa (ah Tryz.func60 rfl (by kernel_rfl)) rfl ?_;simp only[go_sem,simprocAttr];repeat' (refine ae (TD _ _) rfl ?_;simp only[go_sem,simprocAttr])
 .refine PL.sliceL rfl ⟨PL.aggL rfl ⟨.refl _,.refl _,.refl _,.refl _,.refl _,.refl _,.nil _,trivial⟩,PL.aggL rfl ⟨.refl _,.refl _,.refl _,.refl _,.refl _,.refl _,.nil _,trivial⟩,
   PL.aggL rfl ⟨.refl _,.refl _,.refl _,.refl _,.refl _,.refl _,PL.sliceL rfl (dv _),trivial⟩,trivial⟩
theorem VY:af TP 61 [] E9.pv:=by
 refine af.lessD (q:=.agg [.slice 4 (E9.wicks.map Wick.pv) true,.slice 8 (E9.waxes.map Wax.pv) true,.int .i64 20,.int .i64 45,.int .i64 500,.int .i64 1000]) ?_ ?_
 .refine aa (ah Tryz.func61 rfl (by kernel_rfl)) rfl ?_;simp only[go_sem,simprocAttr];repeat' (refine ae (TC _ _) rfl ?_;simp only[go_sem,simprocAttr])
  exact⟨rfl,rfl⟩
 .exact PL.aggL rfl ⟨PL.sliceL rfl (dv _),PL.sliceL rfl (dv _),.refl _,.refl _,.refl _,.refl _,trivial⟩
theorem Q2:af TP 63 [] J5.pv:=by
 refine af.lessD (q:=.agg [.slice 4 [.agg [.str ⟨#[119,104,105,116,101]⟩,.int .i64 10,.int .i64 20,.slice 1 [.int .i64 1000,.int .i64 1000,.int .i64 1000] true],.agg [.str ⟨#[114,101,100]⟩,.int .i64 10,.int .i64 20,.slice 1 [.int .i64 2,.int .i64 1000,.int .i64 50] true],.agg [.str ⟨#[98,108,97,99,107]⟩,.int .i64 20,.int .i64 40,.slice 1 [.int .i64 1,.int .i64 5,.int .i64 1000] true]] true,.int .i64 100,.int .i64 200,.int .i64 50]) ?_ ?_
 .refine aa (ah Tryz.func63 rfl (by kernel_rfl)) rfl ?_;simp only[go_sem,simprocAttr];repeat' (refine ae (TA _ _) rfl ?_;simp only[go_sem,simprocAttr])
 .exact PL.aggL rfl ⟨PL.sliceL rfl ⟨PL.aggL rfl ⟨.refl _,.refl _,.refl _,PL.sliceL rfl (dv _),trivial⟩,PL.aggL rfl ⟨.refl _,.refl _,.refl _,PL.sliceL rfl (dv _),trivial⟩,PL.aggL rfl ⟨.refl _,.refl _,.refl _,PL.sliceL rfl (dv _),trivial⟩,trivial⟩,.refl _,.refl _,.refl _,trivial⟩
theorem xN:af TP 28 [] eS.pv:=by
 refine aa (ah Tryz.func28 rfl (by kernel_rfl)) rfl ?_;simp only[go_sem,simprocAttr];refine ae Tz rfl ?_;simp only[go_sem,simprocAttr];refine ae Tx rfl ?_;simp only[go_sem,simprocAttr];refine ae VY rfl ?_;simp only[go_sem,simprocAttr];refine ae XW rfl ?_;simp only[go_sem,simprocAttr];refine ae Q2 rfl ?_;simp only[go_sem,simprocAttr];and_intros<;>rfl
theorem CR:af TP 29 [] (bp eI):=by
 refine af.lessD (q:=.slice 1 (eI.map λx=>.str (bs x)) true) ?_ (PL.sliceL rfl (dv _));refine aa (ah Tryz.func29 rfl (by kernel_rfl)) rfl ?_;simp only[go_sem,simprocAttr];rfl
theorem X4:af TP 34 [] (bp x8):=by
 refine af.lessD (q:=.slice 1 (x8.map λx=>.str (bs x)) true) ?_ (PL.sliceL rfl (dv _));refine aa (ah Tryz.func34 rfl (by kernel_rfl)) rfl ?_;simp only[go_sem,simprocAttr];rfl
theorem PU:cC H0 Tryz.f35=true:=by kernel_rfl
theorem TZ:af TP 35 [] (.str (bs la)):=by
 refine aa (eg (by kernel_rfl) rfl PU) rfl ?_;simp only[go_sem,simprocAttr];rfl
theorem vY:aY eS eI=0:=by kernel_rfl
theorem Vy:(bM eS eI).2.1=x8:=by kernel_rfl
theorem Tb:(bM eS eI).1=(eB eS la).1:=by kernel_rfl
theorem VB:(bM eS eI).1.lots.length=2:=by kernel_rfl
theorem VC:((bM eS eI).1.lots[0]?).map (·.grams)=some 1000:=by kernel_rfl
theorem XL:((bM eS eI).1.poured,(bM eS eI).1.lost,(bM eS eI).1.tests.length,(bM eS eI).1.boxes.length)=(6000,100,2,1):=by kernel_rfl
theorem Ta:jF (bM eS eI).2.2=la:=by kernel_rfl
theorem Vz:((dm la).1.length,(dm la).2)=(9,0):=by kernel_rfl
theorem Qu:(eB eS la).2=(-1,0):=by kernel_rfl
def Rh:List UInt8:=[49,32,115,116,111,99,107,10]
theorem XM:(eB eS Rh).2=(0,0):=by kernel_rfl
def Np:ChShop:=⟨⟨[],[],0⟩,[],⟨[],[],⟨0,0⟩,⟨0,0⟩⟩,⟨[],[],0⟩,⟨[],⟨0,0⟩,0⟩⟩
theorem VA:aY Np []=3:=by kernel_rfl
theorem yG{s}{ls}(h:aY s ls=0):(bi s).2.2=0/\ls.length<=40:=by
 unfold aY at h;split at h
 .rename_i h1;split at h
  .cases h
  .exact⟨h1,by omega⟩
 .rename_i h1;exact absurd h h1
theorem Ra{s}{b}{n}(h:BkOk s b n)(hi:BkIn b):BkLen b:=
 ⟨by have:=h.lots;omega,by have:=h.batches;omega,by have:=h.tests;omega,by have:=h.boxes;omega,hi.reads,hi.marks⟩
theorem No:BkLen aJ:=⟨by decide,by decide,by decide,by decide,λx hx=>(by cases hx),λx hx=>(by cases hx)⟩
theorem Dt{s}{ls}(h:aY s ls=0):BkLen (bM s ls).1:=by
 obtain⟨h1,h2⟩:=yG h;exact Ra (wZ (sa h1) h2) (U0 s ls)
theorem OD(s)(ls):BkLen (iY s ls):=by
 unfold iY;split
 .rename_i h;exact Dt h
 .exact No
set_option maxHeartbeats 4000000 in
theorem l7:af TP 11 [] (.bool true):=by
 have e1:jn eS eI=x8:=by rw[jn,if_pos vY,Vy]
 have e2:uY eS eI=(bM eS eI).2.2:=by rw[uY,if_pos vY]
 refine aa (ah Tryz.func11 rfl (by kernel_rfl)) rfl ?_;simp only[go_sem,simprocAttr];refine ae xN rfl ?_;simp only[go_sem,simprocAttr];refine ae CR rfl ?_;simp only[go_sem,simprocAttr];refine ae (vQ eS eI) rfl ?_;rw[vY,e1];simp only[go_sem,simprocAttr];refine ae xN rfl ?_;simp only[go_sem,simprocAttr];refine ae CR rfl ?_;simp only[go_sem,simprocAttr];refine ae (xw eS eI) rfl ?_;rw[vY,iY,if_pos vY];simp only[go_sem,simprocAttr];refine ae xN rfl ?_;simp only[go_sem,simprocAttr];refine ae CR rfl ?_;simp only[go_sem,simprocAttr];refine ae (Vn eS eI) rfl ?_;rw[vY,e2,Ta];simp only[go_sem,simprocAttr];refine ae (Xz la (by decide)) rfl ?_;simp only[go_sem,simprocAttr];refine ae xN rfl ?_;simp only[go_sem,simprocAttr];refine ae (JT eS la (by decide)) rfl ?_;rw[Qu];simp only[go_sem,simprocAttr];refine ae xN rfl ?_;have hbad:(⟨#[49,32,115,116,111,99,107,10]⟩:ByteArray)=bs Rh:=rfl;simp only[hbad,go_sem,simprocAttr];refine ae (JT eS Rh (by decide)) rfl ?_;rw[XM];simp only[go_sem,simprocAttr];refine ae ((vQ Np []).arglessD (args':=[.agg [.nilslice,.nilslice,.int .i64 0,.nilslice,.nilslice,.nilslice,.int .i64 0,.int .i64 0,.int .i64 0,.int .i64 0,.nilslice,.nilslice,.int .i64 0,.nilslice,.int .i64 0,.int .i64 0,.int .i64 0],.nilslice]) ⟨PL.aggL rfl ⟨.nil _,.nil _,.refl _,.nil _,.nil _,.nil _,.refl _,.refl _,.refl _,.refl _,.nil _,.nil _,.refl _,.nil _,.refl _,.refl _,.refl _,trivial⟩,.nil _,trivial⟩) rfl ?_;rw[VA];obtain⟨n1,n2,n3,n4⟩:(bM eS eI).1.poured=6000/\(bM eS eI).1.lost=100/\(bM eS eI).1.tests.length=2/\(bM eS eI).1.boxes.length=1:=by
  have:=XL;simpa only[Au]using this
 obtain⟨r1,r2⟩:(dm la).1.length=9/\(dm la).2=0:=by
  have:=Vz;simpa only[Au]using this
 obtain⟨x,hx,hg⟩:=cg.1 VC;have hl2:=VB;have hln:=Dt vY;rw[<-Tb];simp only[r2,Fv,go_sem,simprocAttr];generalize (bM eS eI).1=bk at n1 n2 n3 n4 hx hl2 hln;have z1:(x8==x8)=true:=by simp
 have z2:(bs la==bs la)=true:=(gv _ _).2 rfl;refine ae X4 rfl ?_;simp only[Fv,go_sem,simprocAttr];refine ae (QR x8 x8 (by decide)) rfl ?_;rw[z1];simp only[Fv,hl2,hx,hg,n1,n2,n3,n4,go_sem,simprocAttr];refine ae TZ rfl ?_;simp only[Fv,z2,r1,bp,go_sem,simprocAttr];have heq:=R2 bk hln;simp only[ChBooks.pv,ChBooks.cells,n1,n2]at heq;refine ae heq rfl ?_;simp only[Fv,go_sem,simprocAttr]
theorem GZ{s}{ls}(n)(h:aY s ls=0):aY s (ls.take n)=0:=by
 obtain⟨h1,h2⟩:=yG h;rw[aY,if_pos h1,if_neg (by rw[s5];omega)]
set_option maxRecDepth 4000
def dO (l:List UInt8):Int:=match bF l with|some v=>v|none=>-1
def zQ (l:List UInt8):Int:=
 if l.length=0\/8<l.length\/(1<l.length/\l[0]?=some 48) then -1 else match Lib.decFrom 0 l with|none=>-1|some n=>if 10000000<n then -1 else(n:Int)
theorem z8{a b:List UInt8}(h:a≠[]):(a++b)[0]?=a[0]?:=by
 cases a with
 |nil=>exact absurd rfl h
 |cons x a=>rfl
theorem G6:∀(k n),n<=k->10<=n->(Lib.decDigits n)[0]?≠some 48
 |0,n,h1,h2=>by omega
 |k+1,n,h1,h2=>by
  rw[Lib.decDigits,dif_neg (by omega),z8 (l6 _)];by_cases h:n / 10<10
  .rw[Lib.decDigits,dif_pos h];intro he;have he':UInt8.ofNat (48+n / 10)=48:=by simpa using he
   have:=congrArg UInt8.toNat he';simp at this;omega
  .exact G6 k (n / 10) (by omega) (by omega)
theorem QA{b}{d}(h:Lib.digitVal b=some d):d<10/\b=UInt8.ofNat (48+d):=by
 unfold Lib.digitVal at h;split at h
 .rename_i h1;cases h;refine⟨by omega,?_⟩;apply UInt8.toNat_inj.1;simp;omega
 .cases h
theorem RV:∀(k) (l) (n),l.length=k->Lib.decFrom 0 l=some n->l≠[]->(1<l.length->l[0]?≠some 48)->Lib.decDigits n=l
 |0,l,n,hk,_,h0,_=>absurd (tK hk) h0
 |k+1,l,n,hk,hd,h0,hz=>by
  rcases yg l with rfl|⟨a,b,rfl⟩
  .exact absurd rfl h0
  rw[yj]at *
  rw[uz]at hd
  cases ha:Lib.decFrom 0 a with
  |none=>rw[ha]at hd;cases hd
  |some m=>
   rw[ha,gp,Lib.decFrom]at hd
   cases hv:Lib.digitVal b with
   |none=>rw[hv]at hd;cases hd
   |some d=>
    rw[hv]at hd;have hn:m*10+d=n:=by simpa[Lib.decFrom]using hd
    obtain⟨h10,rfl⟩:=QA hv;by_cases hae:a=[]
    .subst hae;have hm:m=0:=by simpa[Lib.decFrom]using ha.symm
     subst hm;rw[Lib.decDigits,dif_pos (by omega),show n=d by omega];rfl
    .have hal:a.length=k:=by simpa using hk
     have hap:0<a.length:=s7.2 hae;have hz2:a[0]?≠some 48:=by
      have:=hz (by simp;omega);rwa [z8 hae]at this
     have ih:=RV k a m hal ha hae (λ_=>hz2);have hm1:1<=m:=by
      rcases tN m with h|h
      .subst h;rw[Lib.decDigits,dif_pos (by omega)]at ih;rw[<-ih]at hz2;exact absurd rfl hz2
      .exact h
     rw[Lib.decDigits,dif_neg (by omega),show n / 10=m by omega,show n%10=d by omega,ih]
theorem SK(l):zQ l=dO l:=by
 unfold zQ dO
 cases hc:bF l with
 |some v=>
  unfold bF at hc;split at hc
  .rename_i v' hv;split at hc
   .rename_i h;cases hc;obtain⟨h0,h1,h2⟩:=h;obtain⟨m,rfl⟩:=nx h0;have hl:=nU h0 h1;rw[h2]at hl;have hm:Lib.decDigits m=l:=by rw[<-h2];rfl
    have hne:=l6 m;rw[hm]at hne;have hp:0<l.length:=s7.2 hne;have hld:¬(1<l.length/\l[0]?=some 48):=by
     rintro⟨h3,h4⟩
     by_cases h10:m<10
     .rw[<-hm,Lib.decDigits,dif_pos h10]at h3;simp at h3
     .rw[<-hm]at h4;exact G6 m m (bB _) (by omega) h4
    rw[if_neg (by rintro(h|h|h)<;>first|omega|exact hld h),<-hm,t7];simp only;rw[if_neg (by omega)]
   .cases hc
  .cases hc
 |none=>
  split
  .rfl
  .rename_i h
   cases hd:Lib.decFrom 0 l with
   |none=>rfl
   |some n=>
    simp only;split
    .rfl
    .rename_i h2;exfalso;have hne:l≠[]:=λe=>h (.inl (by rw[e];rfl));have hcn:=RV _ l n rfl hd hne (λh3 h4=>h (.inr (.inr ⟨h3,h4⟩)));have hdc:be (n:Int)=l:=hcn;have hnl:=vv (n:=(n:Int)) (by omega) (by omega);rw[hdc]at hnl;unfold bF at hc;rw[hnl]at hc;simp only at hc;rw[if_pos ⟨by omega,by omega,hdc⟩]at hc;cases hc
theorem L1(l):af TP 70 [.str (bs l)] (.int .i64 (dO l)):=by
 rw[<-SK];refine aa (ah Tryz.func70 rfl (by kernel_rfl)) rfl ?_;have hsz:((bs l).size:Int)=(l.length:Int):=by rw[ao]
 simp only[hsz,go_sem,simprocAttr];by_cases h1:l.length=0
 .have b1:((l.length:Int)==0)=true:=by simp[h1]
  have hr:zQ l=-1:=if_pos (.inl h1);simp only[b1,hr,go_sem,simprocAttr]
 have b1:((l.length:Int)==0)=false:=by simp;exact λe=>h1 (by simp[e])
 by_cases h2:8<l.length
 .have b2:decide ((8:Int)<(l.length:Int))=true:=decide_eq_true (by omega);have hr:zQ l=-1:=if_pos (.inr (.inl h2));simp only[hsz,b1,b2,hr,go_sem,simprocAttr]
 have b2:decide ((8:Int)<(l.length:Int))=false:=decide_eq_false (by omega);obtain⟨b,hb⟩:∃b,l[0]?=some b:=⟨_,dc (by omega)⟩
 have hb':(bs l)[0]?=some b:=by rw[xS];exact hb
 have hlt0:(0:Int)<(l.length:Int):=by omega
 have hlt0':(0:Nat)<(bs l).size:=by rw[ao];omega
 by_cases h3:1<l.length/\b=48
 .obtain⟨h3,rfl⟩:=h3;have b3:decide ((1:Int)<(l.length:Int))=true:=decide_eq_true (by omega);have hr:zQ l=-1:=if_pos (.inr (.inr ⟨h3,hb⟩));simp only[hsz,b1,b2,b3,hb',hr,go_sem,simprocAttr]
 have hr:zQ l=match Lib.decFrom 0 l with|none=>-1|some n=>if 10000000<n then -1 else(n:Int):=by
  rw[zQ,if_neg]
  rintro(h|h|h)
  .exact h1 h
  .exact h2 h
  .rw[hb]at h;exact h3 ⟨h.1,lq h.2⟩
 rw[hr];have hl8:l.length<=8:=by omega
 by_cases h4:1<l.length;case' pos=>
  have b4:decide ((1:Int)<(l.length:Int))=true:=decide_eq_true (by omega);have b5:(((b.toNat:Nat):Int)==48)=false:=by
   rw[beq_eq_false_iff_ne];intro e;exact h3 ⟨h4,UInt8.toNat_inj.1 (by show b.toNat=48;omega)⟩
  simp only[hsz,b1,b2,b4,hb',b5,go_sem,simprocAttr]
 case' neg=>
  have b4:decide ((1:Int)<(l.length:Int))=false:=decide_eq_false (by omega);simp only[hsz,b1,b2,b4,go_sem,simprocAttr]
 all_goals
  refine uM [0] (σ:=List UInt8×List UInt8×Nat) (λq=>l=q.1++q.2.1/\Lib.decFrom 0 l=Lib.decFrom q.2.2 q.2.1/\q.2.2<10^q.1.length) (λq=>q.2.1.length)
   (λq=>[(3,.p (.int .i64 q.2.2)),(4,.p (.int .i64 q.1.length))]) ([],l,0) ⟨rfl,rfl,by simp⟩ ?_ ?_
  .simp only[go_sem,simprocAttr]
  rintro⟨done,rest,acc⟩ ⟨e1,e2,e3⟩
  dsimp only at e1 e2 e3;have hdl:=congrArg List.length e1;rw[aB]at hdl;have hp:10^done.length<=10^8:=B' (by omega) (by omega);have hp':(10:Nat)^8=100000000:=rfl
  cases rest with
  |nil=>
   have hlt:¬((done.length:Int)<(l.length:Int)):=by rw[e1];simp
   have hf:Lib.decFrom 0 l=some acc:=by rw[e2];rfl
   rw[hf];by_cases h5:10000000<acc
   .have b6:decide ((10000000:Int)<(acc:Int))=true:=decide_eq_true (by omega);simp only[hsz,hlt,decide_false,b6,if_pos h5,go_sem,simprocAttr]
   .have b6:decide ((10000000:Int)<(acc:Int))=false:=decide_eq_false (by omega)
    simp only[hsz,hlt,decide_false,b6,if_neg h5,go_sem,simprocAttr]
  |cons b2 r=>
   obtain⟨hx,hlt⟩:=d8 e1;have hlen:=congrArg List.length e1;simp only[aB,cu]at hlen;have hxb:(bs l)[done.length]?=some b2:=by rw[xS];exact hx
   have hnx:IntKind.i64.wrap ((done.length:Int)+1)=(((done++[b2]).length:Nat):Int):=bj (by omega) (by simp[aw];omega) (by simp);have hb2:b2.toNat<256:=b2.toNat_lt;have hlt':decide ((done.length:Int)<(l.length:Int))=true:=by simpa using hlt
   rw[Lib.decFrom]at e2;by_cases h6:48<=b2.toNat/\b2.toNat<=57
   .have hd:Lib.digitVal b2=some (b2.toNat-48):=by rw[Lib.digitVal,if_pos h6]
    rw[hd]at e2;have d1:decide (((b2.toNat:Nat):Int)<48)=false:=decide_eq_false (by omega);have d2:decide ((57:Int)<((b2.toNat:Nat):Int))=false:=decide_eq_false (by omega);have w1:IntKind.i64.wrap (10*(acc:Int))=10*(acc:Int):=aj (by omega) (by omega);have w2:IntKind.u8.wrap (((b2.toNat:Nat):Int)-48)=((b2.toNat-48:Nat):Int):=by
     simp[IntKind.wrap,IntKind.signed,IntKind.bits];omega
    have w3:IntKind.i64.wrap (((b2.toNat-48:Nat):Int))=((b2.toNat-48:Nat):Int):=aj (by omega) (by omega);have w4:IntKind.i64.wrap (10*(acc:Int)+((b2.toNat-48:Nat):Int))=((acc*10+(b2.toNat-48):Nat):Int):=by
     rw[aj (by omega) (by omega)];simp;omega
    simp only[hsz,hlt,hxb,d1,d2,w1,w2,w3,w4,go_sem,simprocAttr];refine bU (done++[b2],r,acc*10+(b2.toNat-48)) ⟨by rw[e1];simp,e2,?_⟩ (j4 _) ?_
    .show acc*10+(b2.toNat-48)<10^(done++[b2]).length;rw[aB,bn,Nat.pow_succ];omega
    simp only[hnx,go_sem,simprocAttr]
   .have hd:Lib.digitVal b2=none:=by rw[Lib.digitVal,if_neg h6]
    rw[hd]at e2;rw[e2];by_cases h7:b2.toNat<48
    .have d1:decide (((b2.toNat:Nat):Int)<48)=true:=decide_eq_true (by omega);simp only[hsz,hlt,hxb,d1,go_sem,simprocAttr]
    .have d1:decide (((b2.toNat:Nat):Int)<48)=false:=decide_eq_false (by omega);have d2:decide ((57:Int)<((b2.toNat:Nat):Int))=true:=decide_eq_true (by omega);simp only[hsz,hlt,hxb,d1,d2,go_sem,simprocAttr]
theorem R0(l)(hl:l.length<1000000000):af TP 36 [.str (bs l)] (.int .i64 (Lib.indexByte l 10)):=by
 refine aa (ah Tryz.func36 rfl (by kernel_rfl)) rfl ?_;have hsz:((bs l).size:Int)=(l.length:Int):=by rw[ao]
 simp only[go_sem,simprocAttr]
 refine uM [0] (σ:=List UInt8×List UInt8) (λq=>l=q.1++q.2/\Lib.indexByte l 10=if Lib.indexByte q.2 10=-1 then -1 else(q.1.length:Int)+Lib.indexByte q.2 10) (λq=>q.2.length)
  (λq=>[(3,.p (.int .i64 q.1.length))]) ([],l) ⟨rfl,?_⟩ ?_ ?_
 .simp only[cw];split
  .assumption
  .simp
 .simp only[go_sem,simprocAttr]
 rintro⟨done,rest⟩ ⟨e1,e2⟩
 dsimp only at e1 e2
 cases rest with
 |nil=>
  have hlt:¬((done.length:Int)<(l.length:Int)):=by rw[e1];simp
  rw[e2];simp only[hsz,hlt,decide_false,go_sem,simprocAttr]
  rfl
 |cons b r=>
  obtain⟨hx,hlt⟩:=d8 e1;have hlen:=congrArg List.length e1;simp only[aB,cu]at hlen;have hxb:(bs l)[done.length]?=some b:=by rw[xS];exact hx
  have hnx:IntKind.i64.wrap ((done.length:Int)+1)=(((done++[b]).length:Nat):Int):=bj (by omega) (by simp[aw];omega) (by simp);have hlt':decide ((done.length:Int)<(l.length:Int))=true:=by simpa using hlt
  have hge:=Lib.indexByte_ge r 10;rw[Lib.indexByte]at e2;by_cases hb:b=10
  .subst hb;have d1:((((10:UInt8).toNat:Nat):Int)==10)=true:=rfl;rw[e2];simp only[hsz,hlt,hxb,go_sem,simprocAttr];simp
  .have d1:(((b.toNat:Nat):Int)==10)=false:=by
    rw[beq_eq_false_iff_ne];intro e;exact hb (UInt8.toNat_inj.1 (by show b.toNat=10;omega))
   have d2:(b==10)=false:=by simpa using hb
   simp only[hsz,hlt,hxb,d1,go_sem,simprocAttr];refine bU (done++[b],r) ⟨by rw[e1];simp,?_⟩ (j4 _) ?_
   .rw[e2,d2];simp only[jc,if_false,aB,bn]
    cases hq:Lib.indexByte r 10==-1 with
    |true=>
     have:Lib.indexByte r 10=-1:=by simpa using hq
     simp[this]
    |false=>
     have:¬Lib.indexByte r 10=-1:=by simpa using hq
     simp only[jc,if_false,this];rw[if_neg (by omega)];omega
   simp only[hnx,go_sem,simprocAttr]
end Ch
end Abs
end Go.Proofs.YtoapoaoelpcniaaGreatDoor
