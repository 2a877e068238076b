/- CONTRACTS: the helpers of the laws of layer 13: lists and books that are equal, the exampl -/
import Derived.Test.YtnjiadikeacfaaaGreatDoorChReadCX
set_option linter.all false
open Go.Proofs.Tryz renaming prog->TP
namespace Go.Proofs.YtnjiadikeacfaaaGreatDoor
namespace Abs
namespace Ch
set_option maxRecDepth 100000
def Dy (s:ChShop) (ls:List (List UInt8)):List (List UInt8):=if bU s ls=0 then(bJ s ls).2.1 else []
def Au (s:ChShop) (ls:List (List UInt8)):ChBooks:=if bU s ls=0 then(bJ s ls).1 else b5
def qy (s:ChShop) (ls:List (List UInt8)):List (List UInt8):=if bU s ls=0 then(bJ s ls).2.2 else []
theorem Hy:PL iO b5.pv:=PL.aggL rfl ⟨.nil _,.nil _,.nil _,.nil _,.refl _,.refl _,trivial⟩
theorem PS(s)(ls):af TP 33 [s.pv,bB ls] (.tuple [bB (Dy s ls),.int .i64 (bU s ls)]):=by
 refine(OM s ls).lessD ?_;unfold Dy;by_cases h:bU s ls=0
 .rw[if_pos h,if_pos h,h];exact .refl _
 .rw[if_neg h,if_neg h];exact PL.tupleL ⟨.nil _,.refl _,trivial⟩
theorem LL(s)(ls):af TP 10 [s.pv,bB ls] (.tuple [(Au s ls).pv,.int .i64 (bU s ls)]):=by
 refine(Ut s ls).lessD ?_;unfold Au;by_cases h:bU s ls=0
 .rw[if_pos h,if_pos h,h];exact .refl _
 .rw[if_neg h,if_neg h];exact PL.tupleL ⟨Hy,.refl _,trivial⟩
theorem LK(s)(ls):af TP 9 [s.pv,bB ls] (.tuple [.str (bs (fH (qy s ls))),.int .i64 (bU s ls)]):=by
 have:=Us s ls;unfold rf at this;unfold qy;by_cases h:bU s ls=0
 .rw[if_pos h,<-h]at this;rw[if_pos h];exact this
 .rw[if_neg h]at this;rw[if_neg h];exact this
theorem K8{t}(h:(cO t).2≠0):(cO t).1=[]:=by
 unfold cO at h |-;split
 .rfl
 .split
  .rfl
  .rename_i l hl h2;rw[hl]at h;simp only[if_neg h2]at h;exact absurd rfl h
theorem Vz(t)(hl:t.length<=2000000):af TP 36 [.str (bs t)] (.tuple [bB (cO t).1,.int .i64 (cO t).2]):=by
 refine(DG t hl).lessD ?_;unfold dn;by_cases h:(cO t).2=0
 .rw[if_pos h];exact .refl _
 .rw[if_neg h,K8 h];exact PL.tupleL ⟨.nil _,.refl _,trivial⟩
theorem Jc{s}{t}(h:(dI s t).2.2≠0):(dI s t).1=b5:=by
 unfold dI at h |-;split
 .rfl
 .split
  .rfl
  .rename_i h1 h2;rw[if_neg h1,if_neg h2]at h;exact absurd rfl h
theorem Ba(s)(t)(hl:t.length<=2000000):af TP 11 [s.pv,.str (bs t)] (.tuple [(dI s t).1.pv,.int .i64 (dI s t).2.1,.int .i64 (dI s t).2.2]):=by
 refine(RG s t hl).lessD ?_;unfold kP;by_cases h:(dI s t).2.2=0
 .rw[if_pos h];exact .refl _
 .rw[if_neg h,Jc h];exact PL.tupleL ⟨Hy,.refl _,.refl _,trivial⟩
theorem OQ(a c)(ha:a.length<1000000000):af TP 37 [bB a,bB c] (.bool (a==c)):=by
 refine aa (ah Tryz.func37 rfl (by kernel_rfl)) rfl ?_;simp only[bB,go_sem,simprocAttr];refine aR (λhb=>?_) (λhb=>?_)<;>simp only[hb,go_sem,simprocAttr]
 .have:¬(a=c):=λh=>by subst h;simp at hb
  simp[this]
 have hlen:a.length=c.length:=by simp[bne]at hb;omega
 refine ei [0,1] a ha (τ:=Unit) (λdone rest _=>c.take done.length=done) (λdone _=>[(5,.p (.int .i64 done.length))]) () (by simp) ?_ ?_ ?_
 .simp only[go_sem,simprocAttr]<;>simp
 .intro _ e2;rw[gv (by omega)]at e2;subst e2;simp only[go_sem,simprocAttr];simp
 .intro done x rest _ e1 e2 hx hlt hnx;have hlt2:(done.length:Int)<(c.length:Int):=by omega
  obtain⟨y,hy⟩:∃y,c[done.length]?=some y:=⟨_,bA (by omega)⟩
  simp only[hlt,hlt2,hx,hy,dH,go_sem,simprocAttr];cases hb:(x==y)
  .simp only[go_sem,simprocAttr];have:¬(a=c):=λh=>by
    subst h;rw[hx]at hy;cases hy;simp at hb
   simp[this]
  .have hxy:x=y:=by simpa using hb
   simp only[go_sem,simprocAttr];refine aE e1 () (by rw[aK,bt,xW,e2,hy,hxy];rfl) ?_;simp only[hnx,go_sem,simprocAttr]
structure BkLen (b:ChBooks):Prop where
 lots:b.lots.length<1000000000
 batches:b.batches.length<1000000000
 tests:b.tests.length<1000000000
 boxes:b.boxes.length<1000000000
 readings:∀x,x∈b.lots->x.readings.length<1000000000
 marks:∀t,t∈b.tests->t.marks.length<1000000000
theorem V4(b)(h:BkLen b):af TP 40 [b.pv,b.pv] (.bool true):=by
 refine aa (eA (by kernel_rfl) rfl XZ) rfl ?_;have b1:∀n:Int,(n != n)=false:=λn=>by simp
 have b2:∀x:ByteArray,(x==x)=true:=λx=>(qd x x).2 rfl;simp only[b1,go_sem,simprocAttr];refine bm [2,3] b.lots h.lots (τ:=Unit) (λ_ _ _=>True) (λdone _=>[(5,.p (.int .i64 done.length))]) (λ_ _=>[.row 6 [.p b.pv],.row 6 [.p b.pv]]) () trivial ?_ ?_ ?_
 .simp only[cH,go_sem,simprocAttr]
 rotate_left
 .intro done x rest _ e1 _ hx hlt hnx;have hxm:x∈b.lots:=by rw[e1];simp
  simp only[hlt,decide_true,hx,IC,aV,b1,b2,go_sem,simprocAttr];refine ae (Io x.readings x.readings false false (h.readings x hxm)) rfl ?_;rw[show (x.readings==x.readings)=true by simp];simp only[go_sem,simprocAttr];refine aE e1 () trivial ?_;simp only[hnx,go_sem,simprocAttr]
 intro _ _;have hlt0:¬((b.lots.length:Int)<(b.lots.length:Int)):=by omega
 simp only[hlt0,decide_false,go_sem,simprocAttr];refine bm [2,3] b.batches h.batches (τ:=Unit) (λ_ _ _=>True) (λdone _=>[(8,.p (.int .i64 done.length))]) (λ_ _=>[.row 6 [.p b.pv],.row 6 [.p b.pv]]) () trivial ?_ ?_ ?_
 .simp only[cH,go_sem,simprocAttr]
 rotate_left
 .intro done x rest _ e1 _ hx hlt hnx;have hxm:x∈b.batches:=by rw[e1];simp
  simp only[hlt,decide_true,hx,IC,aV,b2,go_sem,simprocAttr];rw[show (x.colour==x.colour&&(x.lot==x.lot&&x.grams==x.grams))=true by simp];simp only[go_sem,simprocAttr];refine aE e1 () trivial ?_;simp only[hnx,go_sem,simprocAttr]
 intro _ _;have hlt1:¬((b.batches.length:Int)<(b.batches.length:Int)):=by omega
 simp only[hlt1,decide_false,go_sem,simprocAttr];refine bm [2,3] b.tests h.tests (τ:=Unit) (λ_ _ _=>True) (λdone _=>[(9,.p (.int .i64 done.length))]) (λ_ _=>[.row 6 [.p b.pv],.row 6 [.p b.pv]]) () trivial ?_ ?_ ?_
 .simp only[cH,go_sem,simprocAttr]
 rotate_left
 .intro done x rest _ e1 _ hx hlt hnx;have hxm:x∈b.tests:=by rw[e1];simp
  simp only[hlt,decide_true,hx,IC,aV,go_sem,simprocAttr];refine ay (MC x x (h.marks x hxm)) rfl ?_;rw[show Ah x x=true by rw[Ia]];simp only[IC,go_sem,simprocAttr];refine aE e1 () trivial ?_;simp only[hnx,go_sem,simprocAttr]
 intro _ _;have hlt2:¬((b.tests.length:Int)<(b.tests.length:Int)):=by omega
 simp only[hlt2,decide_false,go_sem,simprocAttr];refine bm [2,3] b.boxes h.boxes (τ:=Unit) (λ_ _ _=>True) (λdone _=>[(10,.p (.int .i64 done.length))]) (λ_ _=>[.row 6 [.p b.pv],.row 6 [.p b.pv]]) () trivial ?_ ?_ ?_
 .simp only[cH,go_sem,simprocAttr]
 rotate_left
 .intro done x rest _ e1 _ hx hlt hnx;have hxm:x∈b.boxes:=by rw[e1];simp
  simp only[hlt,decide_true,hx,IC,aV,go_sem,simprocAttr];rw[show (x.kind==x.kind&&x.hours==x.hours)=true by simp];simp only[go_sem,simprocAttr];refine aE e1 () trivial ?_;simp only[hnx,go_sem,simprocAttr]
 intro _ _;have hlt3:¬((b.boxes.length:Int)<(b.boxes.length:Int)):=by omega
 simp only[hlt3,decide_false,go_sem,simprocAttr]
def Nu:WxTable:=⟨[⟨⟨#[109,101,108,116]⟩,5⟩,⟨⟨#[97,99,105,100]⟩,2⟩],[⟨⟨#[98,101,101,115]⟩,[⟨620,640⟩,⟨17,22⟩]⟩,⟨⟨#[112,97,114,97,102,102,105,110]⟩,[⟨540,580⟩,⟨0,0⟩]⟩,⟨⟨#[116,97,108,108,111,119]⟩,[⟨420,460⟩,⟨2,10⟩]⟩],950⟩
def Dz:Shop:=⟨[⟨⟨#[116,104,105,110]⟩,10,⟨16,18⟩⟩,⟨⟨#[109,105,100]⟩,14,⟨20,24⟩⟩,⟨⟨#[102,97,116]⟩,20,⟨30,36⟩⟩],[⟨⟨#[98,101,101,115]⟩,⟨100,100⟩,⟨150,160⟩,⟨1000,1100⟩,1⟩],⟨20,45⟩,⟨500,1000⟩⟩
def MI:List BdWax:=[⟨⟨#[98,101,101,115]⟩,1200,⟨620,640⟩,⟨90,100⟩,[]⟩,⟨⟨#[112,97,114,97,102,102,105,110]⟩,200,⟨540,580⟩,⟨110,150⟩,[]⟩,⟨⟨#[104,97,114,100]⟩,400,⟨690,700⟩,⟨60,70⟩,[⟨0,0⟩,⟨2,20⟩,⟨4,30⟩]⟩]
def Ic:ClShop:=⟨[⟨⟨#[119,104,105,116,101]⟩,⟨10,20⟩,[1000,1000,1000]⟩,⟨⟨#[114,101,100]⟩,⟨10,20⟩,[2,1000,50]⟩,⟨⟨#[98,108,97,99,107]⟩,⟨20,40⟩,[1,5,1000]⟩],⟨100,200⟩,50⟩
def ep:ChShop:=⟨Nu,MI,Dz,cA,Ic⟩
def ec:List (List UInt8):=[[108,111,116,32,111,108,100,32,98,101,101,115,32,53,48,48,48,32,54,52,51,32,49,54],[108,111,116,32,110,101,119,32,98,101,101,115,32,57,48,48,48,32,54,48,48,32,57],[108,111,116,32,111,100,100,32,98,101,101,115,32,57,48,48,48,32,55,48,48,32,120],[98,97,116,99,104,32,97,32,98,108,97,99,107,32,111,108,100,32,50,48,48,48],[98,97,116,99,104,32,98,32,119,104,105,116,101,32,111,108,100,32,50,48,48,48],[98,97,116,99,104,32,99,32,114,101,100,32,111,108,100,32,50,48,48,48],[98,97,116,99,104,32,99,32,114,101,100,32,110,101,119,32,50,48,48,48],[112,108,97,110,32,98,108,97,99,107],[112,111,117,114,32,98,108,97,99,107],[115,116,111,99,107],[116,101,115,116,10,116,101,115,116,32,97,108,116,97,114,32,53,48,10,48,32,49,48,48,53,48,48,10,54,48,32,57,54,53,48,48,10,49,50,48,32,57,50,52,48,48,10],[112,114,111,109,105,115,101,32,97,108,116,97,114],[98,111,120,32,97,108,116,97,114,32,50,49],[98,111,120,32,97,108,116,97,114,32,50,50],[116,101,115,116,10,116,101,115,116,32,97,108,116,97,114,32,48,10,48,32,49,48,48,48,48,48,10,54,48,32,57,53,48,48,48,10],[108,111,111,107],[119,105,99,107,32,98,101,101,115,32,51,48,48,32,49,48,32,48,32,50,48],[98,108,101,110,100,32,53,54,48,32,54,50,48,32,49,52,48]]
def wj:List (List UInt8):=[[112,117,114,101,32,57,54,55,32,49,48,48,48],[105,109,112,117,114,101,32,51,49,57,32,54,52,55],[110,111,32,57],[111,107],[111,107],[110,111,32,57],[111,107],[97,32,98,32,99,32,49,48,48],[49,48,48],[111,108,100,32,49,48,48,48,32,110,101,119,32,55,48,48,48],[52,48,48,48,32,52,49,48,48],[50,49],[111,107],[110,111,32,57],[53,48,48,48,32,53,48,48,48],[98,114,111,107,101,110,32,48],[109,105,100],[49,32,49,55,32,50,32,53,52,48,48]]
def kh:List UInt8:=[49,32,108,111,116,32,111,108,100,32,98,101,101,115,32,53,48,48,48,32,54,52,51,32,49,54,10,50,32,108,111,116,32,110,101,119,32,98,101,101,115,32,57,48,48,48,32,54,48,48,32,57,10,51,32,98,97,116,99,104,32,97,32,98,108,97,99,107,32,111,108,100,32,50,48,48,48,10,52,32,98,97,116,99,104,32,98,32,119,104,105,116,101,32,111,108,100,32,50,48,48,48,10,53,32,98,97,116,99,104,32,99,32,114,101,100,32,110,101,119,32,50,48,48,48,10,54,32,112,111,117,114,32,98,108,97,99,107,10,55,32,116,101,115,116,47,116,101,115,116,32,97,108,116,97,114,32,53,48,47,48,32,49,48,48,53,48,48,47,54,48,32,57,54,53,48,48,47,49,50,48,32,57,50,52,48,48,47,10,56,32,98,111,120,32,97,108,116,97,114,32,50,49,10,57,32,116,101,115,116,47,116,101,115,116,32,97,108,116,97,114,32,48,47,48,32,49,48,48,48,48,48,47,54,48,32,57,53,48,48,48,47,10]
theorem RC(a b):af TP 110 [.int .i64 a,.int .i64 b] (.agg [.int .i64 a,.int .i64 b]):=by
 refine aa (ah Tryz.func110 rfl (by kernel_rfl)) rfl ?_;simp only[go_sem,simprocAttr]
theorem RB(a b):af TP 111 [.int .i64 a,.int .i64 b] (.agg [.int .i64 a,.int .i64 b]):=by
 refine aa (ah Tryz.func111 rfl (by kernel_rfl)) rfl ?_;simp only[go_sem,simprocAttr]
theorem RA(a b):af TP 112 [.int .i64 a,.int .i64 b] (.agg [.int .i64 a,.int .i64 b]):=by
 refine aa (ah Tryz.func112 rfl (by kernel_rfl)) rfl ?_;simp only[go_sem,simprocAttr]
theorem Rz(a b):af TP 113 [.int .i64 a,.int .i64 b] (.agg [.int .i64 a,.int .i64 b]):=by
 refine aa (ah Tryz.func113 rfl (by kernel_rfl)) rfl ?_;simp only[go_sem,simprocAttr]
theorem Ry:af TP 86 [] Nu.pv:=by
 refine af.lessD (q:=.agg [.slice 2 (Nu.props.map WxProp.pv) true,.slice 2 [.agg [.str ⟨#[98,101,101,115]⟩,.slice 2 [.agg [.int .i64 620,.int .i64 640],.agg [.int .i64 17,.int .i64 22]] true],.agg [.str ⟨#[112,97,114,97,102,102,105,110]⟩,.slice 2 [.agg [.int .i64 540,.int .i64 580],.agg [.int .i64 0,.int .i64 0]] true],.agg [.str ⟨#[116,97,108,108,111,119]⟩,.slice 2 [.agg [.int .i64 420,.int .i64 460],.agg [.int .i64 2,.int .i64 10]] true]] true,.int .i64 950]) ?_ ?_
 .refine aa (ah Tryz.func86 rfl (by kernel_rfl)) rfl ?_;simp only[go_sem,simprocAttr];repeat' (refine ae (RC _ _) rfl ?_;simp only[go_sem,simprocAttr])
  rfl
 .exact PL.aggL rfl ⟨PL.sliceL rfl (dM _),PL.sliceL rfl ⟨PL.aggL rfl ⟨.refl _,PL.sliceL rfl (dM _),trivial⟩,PL.aggL rfl ⟨.refl _,PL.sliceL rfl (dM _),trivial⟩,PL.aggL rfl ⟨.refl _,PL.sliceL rfl (dM _),trivial⟩,trivial⟩,.refl _,trivial⟩
theorem Rw:af TP 87 [] (fM MI):=by
 refine af.lessD (q:=.slice 7 [.agg [.str ⟨#[98,101,101,115]⟩,.int .i64 1200,.int .i64 620,.int .i64 640,.int .i64 90,.int .i64 100,.nilslice],.agg [.str ⟨#[112,97,114,97,102,102,105,110]⟩,.int .i64 200,.int .i64 540,.int .i64 580,.int .i64 110,.int .i64 150,.nilslice],
   .agg [.str ⟨#[104,97,114,100]⟩,.int .i64 400,.int .i64 690,.int .i64 700,.int .i64 60,.int .i64 70,.slice 2 [.agg [.int .i64 0,.int .i64 0],.agg [.int .i64 2,.int .i64 20],.agg [.int .i64 4,.int .i64 30]] true]] true) ?_ ?_
 .refine aa (ah Tryz.func87 rfl (by kernel_rfl)) rfl ?_;simp only[go_sem,simprocAttr];repeat' (refine ae (RB _ _) rfl ?_;simp only[go_sem,simprocAttr])
 .refine PL.sliceL rfl ⟨PL.aggL rfl ⟨.refl _,.refl _,.refl _,.refl _,.refl _,.refl _,.nil _,trivial⟩,PL.aggL rfl ⟨.refl _,.refl _,.refl _,.refl _,.refl _,.refl _,.nil _,trivial⟩,
   PL.aggL rfl ⟨.refl _,.refl _,.refl _,.refl _,.refl _,.refl _,PL.sliceL rfl (dM _),trivial⟩,trivial⟩
theorem T9:af TP 88 [] Dz.pv:=by
 refine af.lessD (q:=.agg [.slice 4 (Dz.wicks.map Wick.pv) true,.slice 8 (Dz.waxes.map Wax.pv) true,.int .i64 20,.int .i64 45,.int .i64 500,.int .i64 1000]) ?_ ?_
 .refine aa (ah Tryz.func88 rfl (by kernel_rfl)) rfl ?_;simp only[go_sem,simprocAttr];repeat' (refine ae (RA _ _) rfl ?_;simp only[go_sem,simprocAttr])
  exact⟨rfl,rfl⟩
 .exact PL.aggL rfl ⟨PL.sliceL rfl (dM _),PL.sliceL rfl (dM _),.refl _,.refl _,.refl _,.refl _,trivial⟩
theorem O1:af TP 89 [] Ic.pv:=by
 refine af.lessD (q:=.agg [.slice 4 [.agg [.str ⟨#[119,104,105,116,101]⟩,.int .i64 10,.int .i64 20,.slice 1 [.int .i64 1000,.int .i64 1000,.int .i64 1000] true],.agg [.str ⟨#[114,101,100]⟩,.int .i64 10,.int .i64 20,.slice 1 [.int .i64 2,.int .i64 1000,.int .i64 50] true],.agg [.str ⟨#[98,108,97,99,107]⟩,.int .i64 20,.int .i64 40,.slice 1 [.int .i64 1,.int .i64 5,.int .i64 1000] true]] true,.int .i64 100,.int .i64 200,.int .i64 50]) ?_ ?_
 .refine aa (ah Tryz.func89 rfl (by kernel_rfl)) rfl ?_;simp only[go_sem,simprocAttr];repeat' (refine ae (Rz _ _) rfl ?_;simp only[go_sem,simprocAttr])
 .exact PL.aggL rfl ⟨PL.sliceL rfl ⟨PL.aggL rfl ⟨.refl _,.refl _,.refl _,PL.sliceL rfl (dM _),trivial⟩,PL.aggL rfl ⟨.refl _,.refl _,.refl _,PL.sliceL rfl (dM _),trivial⟩,PL.aggL rfl ⟨.refl _,.refl _,.refl _,PL.sliceL rfl (dM _),trivial⟩,trivial⟩,.refl _,.refl _,.refl _,trivial⟩
theorem vX:af TP 34 [] ep.pv:=by
 refine aa (ah Tryz.func34 rfl (by kernel_rfl)) rfl ?_;simp only[go_sem,simprocAttr];refine ae Ry rfl ?_;simp only[go_sem,simprocAttr];refine ae Rw rfl ?_;simp only[go_sem,simprocAttr];refine ae T9 rfl ?_;simp only[go_sem,simprocAttr];refine ae P0 rfl ?_;simp only[go_sem,simprocAttr];refine ae O1 rfl ?_;simp only[go_sem,simprocAttr];and_intros<;>rfl
theorem Bt:af TP 35 [] (bB ec):=by
 refine af.lessD (q:=.slice 1 (ec.map λx=>.str (bs x)) true) ?_ (PL.sliceL rfl (dM _));refine aa (ah Tryz.func35 rfl (by kernel_rfl)) rfl ?_;simp only[go_sem,simprocAttr];rfl
theorem V5:af TP 38 [] (bB wj):=by
 refine af.lessD (q:=.slice 1 (wj.map λx=>.str (bs x)) true) ?_ (PL.sliceL rfl (dM _));refine aa (ah Tryz.func38 rfl (by kernel_rfl)) rfl ?_;simp only[go_sem,simprocAttr];rfl
theorem N0:cv H0 Tryz.f39=true:=by kernel_rfl
theorem RS:af TP 39 [] (.str (bs kh)):=by
 refine aa (eA (by kernel_rfl) rfl N0) rfl ?_;simp only[go_sem,simprocAttr];rfl
theorem uo:bU ep ec=0:=by kernel_rfl
theorem TJ:(bJ ep ec).2.1=wj:=by kernel_rfl
theorem Q8:(bJ ep ec).1=(dI ep kh).1:=by kernel_rfl
theorem TN:(bJ ep ec).1.lots.length=2:=by kernel_rfl
theorem TO:((bJ ep ec).1.lots[0]?).map (·.grams)=some 1000:=by kernel_rfl
theorem VN:((bJ ep ec).1.poured,(bJ ep ec).1.lost,(bJ ep ec).1.tests.length,(bJ ep ec).1.boxes.length)=(6000,100,2,1):=by kernel_rfl
theorem Q7:fH (bJ ep ec).2.2=kh:=by kernel_rfl
theorem TL:((cO kh).1.length,(cO kh).2)=(9,0):=by kernel_rfl
theorem OA:(dI ep kh).2=(-1,0):=by kernel_rfl
def Pe:List UInt8:=[49,32,115,116,111,99,107,10]
theorem VO:(dI ep Pe).2=(0,0):=by kernel_rfl
def Lp:ChShop:=⟨⟨[],[],0⟩,[],⟨[],[],⟨0,0⟩,⟨0,0⟩⟩,⟨[],[],0⟩,⟨[],⟨0,0⟩,0⟩⟩
theorem TM:bU Lp []=3:=by kernel_rfl
theorem VM{s}{ls}(h:bU s ls=0):(bh s).2.2=0/\ls.length<=40:=by
 unfold bU at h;split at h
 .rename_i h1;split at h
  .cases h
  .exact⟨h1,by omega⟩
 .rename_i h1;exact absurd h h1
theorem O9{s}{b}{n}(h:BkOk s b n)(hi:BkIn b):BkLen b:=
 ⟨by have:=h.lots;omega,by have:=h.batches;omega,by have:=h.tests;omega,by have:=h.boxes;omega,hi.reads,hi.marks⟩
theorem K2{s}{ls}(h:bU s ls=0):BkLen (bJ s ls).1:=by
 obtain⟨h1,h2⟩:=VM h;exact O9 (K0 (zm h1) h2) (S3 s ls)
set_option maxHeartbeats 4000000 in
theorem yN:af TP 7 [] (.bool true):=by
 have e1:Dy ep ec=wj:=by rw[Dy,if_pos uo,TJ]
 have e2:qy ep ec=(bJ ep ec).2.2:=by rw[qy,if_pos uo]
 refine aa (ah Tryz.func7 rfl (by kernel_rfl)) rfl ?_;simp only[go_sem,simprocAttr];refine ae vX rfl ?_;simp only[go_sem,simprocAttr];refine ae Bt rfl ?_;simp only[go_sem,simprocAttr];refine ae (PS ep ec) rfl ?_;rw[uo,e1];simp only[go_sem,simprocAttr];refine ae vX rfl ?_;simp only[go_sem,simprocAttr];refine ae Bt rfl ?_;simp only[go_sem,simprocAttr];refine ae (LL ep ec) rfl ?_;rw[uo,Au,if_pos uo];simp only[go_sem,simprocAttr];refine ae vX rfl ?_;simp only[go_sem,simprocAttr];refine ae Bt rfl ?_;simp only[go_sem,simprocAttr];refine ae (LK ep ec) rfl ?_;rw[uo,e2,Q7];simp only[go_sem,simprocAttr];refine ae (Vz kh (by decide)) rfl ?_;simp only[go_sem,simprocAttr];refine ae vX rfl ?_;simp only[go_sem,simprocAttr];refine ae (Ba ep kh (by decide)) rfl ?_;rw[OA];simp only[go_sem,simprocAttr];refine ae vX rfl ?_;have hbad:(⟨#[49,32,115,116,111,99,107,10]⟩:ByteArray)=bs Pe:=rfl;simp only[hbad,go_sem,simprocAttr];refine ae (Ba ep Pe (by decide)) rfl ?_;rw[VO];simp only[go_sem,simprocAttr];refine ae ((PS Lp []).arglessD (args':=[.agg [.nilslice,.nilslice,.int .i64 0,.nilslice,.nilslice,.nilslice,.int .i64 0,.int .i64 0,.int .i64 0,.int .i64 0,.nilslice,.nilslice,.int .i64 0,.nilslice,.int .i64 0,.int .i64 0,.int .i64 0],.nilslice]) ⟨PL.aggL rfl ⟨.nil _,.nil _,.refl _,.nil _,.nil _,.nil _,.refl _,.refl _,.refl _,.refl _,.nil _,.nil _,.refl _,.nil _,.refl _,.refl _,.refl _,trivial⟩,.nil _,trivial⟩) rfl ?_;rw[TM];obtain⟨n1,n2,n3,n4⟩:(bJ ep ec).1.poured=6000/\(bJ ep ec).1.lost=100/\(bJ ep ec).1.tests.length=2/\(bJ ep ec).1.boxes.length=1:=by
  have:=VN;simpa only[y5]using this
 obtain⟨r1,r2⟩:(cO kh).1.length=9/\(cO kh).2=0:=by
  have:=TL;simpa only[y5]using this
 obtain⟨x,hx,hg⟩:=cd.1 TO;have hl2:=TN;have hln:=K2 uo;rw[<-Q8];simp only[r2,lZ,go_sem,simprocAttr];generalize (bJ ep ec).1=bk at n1 n2 n3 n4 hx hl2 hln;have z1:(wj==wj)=true:=by simp
 have z2:(bs kh==bs kh)=true:=(qd _ _).2 rfl;refine ae V5 rfl ?_;simp only[lZ,go_sem,simprocAttr];refine ae (OQ wj wj (by decide)) rfl ?_;rw[z1];simp only[lZ,hl2,hx,hg,n1,n2,n3,n4,go_sem,simprocAttr];refine ae RS rfl ?_;simp only[lZ,z2,r1,bB,go_sem,simprocAttr];have heq:=V4 bk hln;simp only[ChBooks.pv,ChBooks.cells,n1,n2]at heq;refine ae heq rfl ?_;simp only[lZ,go_sem,simprocAttr]
end Ch
end Abs
end Go.Proofs.YtnjiadikeacfaaaGreatDoor
