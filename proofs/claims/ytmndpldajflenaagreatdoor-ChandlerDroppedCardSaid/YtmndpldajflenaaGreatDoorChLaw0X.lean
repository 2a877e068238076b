/- CONTRACTS of the program's functions, and laws on what they return. No conditions but those in the theorems' heads. -/
import Derived.Test.YtmndpldajflenaaGreatDoorChReadCX
set_option linter.all false
set_option maxHeartbeats 4000000
open Go.Proofs.Tryz renaming prog->TP
open Go.Proofs.Tryz
namespace Go.Proofs.YtmndpldajflenaaGreatDoor
namespace Abs
namespace Ch
set_option maxRecDepth 100000
def pA (s:ChShop) (ls:List (List UInt8)):List (List UInt8):=if bi s ls=0 then(bx s ls).2.1 else []
def k9 (s:ChShop) (ls:List (List UInt8)):ChBooks:=if bi s ls=0 then(bx s ls).1 else bS
def sL (s:ChShop) (ls:List (List UInt8)):List (List UInt8):=if bi s ls=0 then(bx s ls).2.2 else []
theorem zV:PL gX bS.pv:=PL.aggL rfl ⟨.nil _,.nil _,.nil _,.nil _,.refl _,.refl _,trivial⟩
theorem IK(s)(a):af TP 22 [s.pv,bv a] (.tuple [bv (pA s a),.int .i64 (bi s a)]):=by
 refine(NI s a).lessD ?_;unfold pA;by_cases h:bi s a=0
 .rw[if_pos h,if_pos h,h];exact .refl _
 .rw[if_neg h,if_neg h];exact PL.tupleL ⟨.nil _,.refl _,trivial⟩
theorem Ed(s)(a):af TP 16 [s.pv,bv a] (.tuple [(k9 s a).pv,.int .i64 (bi s a)]):=by
 refine(S5 s a).lessD ?_;unfold k9;by_cases h:bi s a=0
 .rw[if_pos h,if_pos h,h];exact .refl _
 .rw[if_neg h,if_neg h];exact PL.tupleL ⟨zV,.refl _,trivial⟩
theorem Sa(s)(a):af TP 77 [s.pv,bv a] (.tuple [.str (bs (i7 (sL s a))),.int .i64 (bi s a)]):=by
 have:=S4 s a;unfold qJ at this;unfold sL;by_cases h:bi s a=0
 .rw[if_pos h,<-h]at this;rw[if_pos h];exact this
 .rw[if_neg h]at this;rw[if_neg h];exact this
theorem Kj{t}(h:(cR t).2≠0):(cR t).1=[]:=by
 unfold cR at h |-;split
 .rfl
 .split
  .rfl
  .rename_i l a e;rw[a]at h;simp only[if_neg e]at h;exact absurd rfl h
theorem Ug(t)(a:t.length<=2000000):af TP 78 [.str (bs t)] (.tuple [bv (cR t).1,.int .i64 (cR t).2]):=by
 refine(Je t a).lessD ?_;unfold dl;by_cases h:(cR t).2=0
 .rw[if_pos h];exact .refl _
 .rw[if_neg h,Kj h];exact PL.tupleL ⟨.nil _,.refl _,trivial⟩
theorem Io{s}{t}(h:(dY s t).2.2≠0):(dY s t).1=bS:=by
 unfold dY at h |-;split
 .rfl
 .split
  .rfl
  .rename_i e a;rw[if_neg e,if_neg a]at h;exact absurd rfl h
theorem Hd(s)(t)(a:t.length<=2000000):af TP 79 [s.pv,.str (bs t)] (.tuple [(dY s t).1.pv,.int .i64 (dY s t).2.1,.int .i64 (dY s t).2.2]):=by
 refine(Qw s t a).lessD ?_;unfold kI;by_cases h:(dY s t).2.2=0
 .rw[if_pos h];exact .refl _
 .rw[if_neg h,Io h];exact PL.tupleL ⟨zV,.refl _,.refl _,trivial⟩
theorem NM(a c)(A:a.length<1000000000):af TP 80 [bv a,bv c] (.bool (a==c)):=by
 refine aa (ag func80 rfl) rfl ?_;simp only[bv,go_sem,simprocAttr];refine aK (λi=>?_) (λi=>?_)<;>simp only[i,go_sem,simprocAttr]
 .have:¬(a=c):=λh=>by subst h;simp at i
  simp[this]
 have z:a.length=c.length:=by simp[bne]at i;omega
 refine ej [0,1] a A (τ:=Unit) (λe rest _=>c.take e.length=e) (λe _=>[(5,.p (.int .i64 e.length))]) () (by simp) ?_ ?_ ?_
 .simp only[go_sem,simprocAttr]<;>simp
 .intro _ o;rw[fC (by omega)]at o;subst o;simp only[go_sem,simprocAttr];simp
 .intro e x rest _ C o hx v u;have j:(e.length:Int)<(c.length:Int):=by omega
  obtain⟨y,l⟩:∃y,c[e.length]?=some y:=⟨_,bO (by omega)⟩
  simp only[v,j,hx,l,dy,go_sem,simprocAttr];cases i:(x==y)
  .simp only[go_sem,simprocAttr];have:¬(a=c):=λh=>by
    subst h;rw[hx]at l;cases l;simp at i
   simp[this]
  .have q:x=y:=by simpa using i
   simp only[go_sem,simprocAttr];refine aD C () (by rw[aL,aV,sG,o,l,q];rfl) ?_;simp only[u,go_sem,simprocAttr]
structure BkLen (b:ChBooks):Prop where
 lots:b.lots.length<1000000000
 batches:b.batches.length<1000000000
 tests:b.tests.length<1000000000
 boxes:b.boxes.length<1000000000
 readings:∀x,x∈b.lots->x.readings.length<1000000000
 marks:∀t,t∈b.tests->t.marks.length<1000000000
theorem CT(b)(h:BkLen b):af TP 19 [b.pv,b.pv] (.bool true):=by
 refine aa (eI (by kernel_rfl) rfl Wc) rfl ?_;have z:∀n:Int,(n != n)=false:=λn=>by simp
 have y:∀x:ByteArray,(x==x)=true:=λx=>(nv x x).2 rfl;simp only[z,go_sem,simprocAttr];refine bg [2,3] b.lots h.lots (τ:=Unit) (λ_ _ _=>True) (λa _=>[(5,.p (.int .i64 a.length))]) (λ_ _=>[.row 6 [.p b.pv],.row 6 [.p b.pv]]) () trivial ?_ ?_ ?_
 .simp only[dL,go_sem,simprocAttr]
 rotate_left
 .intro a x rest _ j _ hx i e;have l:x∈b.lots:=by rw[j];simp
  simp only[i,decide_true,hx,HP,aO,z,y,go_sem,simprocAttr];refine ae (Qx x.readings x.readings false false (h.readings x l)) rfl ?_;rw[show (x.readings==x.readings)=true by simp];simp only[go_sem,simprocAttr];refine aD j () trivial ?_;simp only[e,go_sem,simprocAttr]
 intro _ _;have v:¬((b.lots.length:Int)<(b.lots.length:Int)):=by omega
 simp only[v,decide_false,go_sem,simprocAttr];refine bg [2,3] b.batches h.batches (τ:=Unit) (λ_ _ _=>True) (λa _=>[(8,.p (.int .i64 a.length))]) (λ_ _=>[.row 6 [.p b.pv],.row 6 [.p b.pv]]) () trivial ?_ ?_ ?_
 .simp only[dL,go_sem,simprocAttr]
 rotate_left
 .intro a x rest _ j _ hx i e;have l:x∈b.batches:=by rw[j];simp
  simp only[i,decide_true,hx,HP,aO,y,go_sem,simprocAttr];rw[show (x.colour==x.colour&&(x.lot==x.lot&&x.grams==x.grams))=true by simp];simp only[go_sem,simprocAttr];refine aD j () trivial ?_;simp only[e,go_sem,simprocAttr]
 intro _ _;have u:¬((b.batches.length:Int)<(b.batches.length:Int)):=by omega
 simp only[u,decide_false,go_sem,simprocAttr];refine bg [2,3] b.tests h.tests (τ:=Unit) (λ_ _ _=>True) (λa _=>[(9,.p (.int .i64 a.length))]) (λ_ _=>[.row 6 [.p b.pv],.row 6 [.p b.pv]]) () trivial ?_ ?_ ?_
 .simp only[dL,go_sem,simprocAttr]
 rotate_left
 .intro a x rest _ j _ hx i e;have l:x∈b.tests:=by rw[j];simp
  simp only[i,decide_true,hx,HP,aO,go_sem,simprocAttr];refine ax (S1 x x (h.marks x l)) rfl ?_;rw[show zc x x=true by rw[PU]];simp only[HP,go_sem,simprocAttr];refine aD j () trivial ?_;simp only[e,go_sem,simprocAttr]
 intro _ _;have q:¬((b.tests.length:Int)<(b.tests.length:Int)):=by omega
 simp only[q,decide_false,go_sem,simprocAttr];refine bg [2,3] b.boxes h.boxes (τ:=Unit) (λ_ _ _=>True) (λa _=>[(10,.p (.int .i64 a.length))]) (λ_ _=>[.row 6 [.p b.pv],.row 6 [.p b.pv]]) () trivial ?_ ?_ ?_
 .simp only[dL,go_sem,simprocAttr]
 rotate_left
 .intro a x rest _ j _ hx i e;have l:x∈b.boxes:=by rw[j];simp
  simp only[i,decide_true,hx,HP,aO,go_sem,simprocAttr];rw[show (x.kind==x.kind&&x.hours==x.hours)=true by simp];simp only[go_sem,simprocAttr];refine aD j () trivial ?_;simp only[e,go_sem,simprocAttr]
 intro _ _;have o:¬((b.boxes.length:Int)<(b.boxes.length:Int)):=by omega
 simp only[o,decide_false,go_sem,simprocAttr]
def Mu:WxTable:=⟨[⟨⟨#[109,101,108,116]⟩,5⟩,⟨⟨#[97,99,105,100]⟩,2⟩],[⟨⟨#[98,101,101,115]⟩,[⟨620,640⟩,⟨17,22⟩]⟩,⟨⟨#[112,97,114,97,102,102,105,110]⟩,[⟨540,580⟩,⟨0,0⟩]⟩,⟨⟨#[116,97,108,108,111,119]⟩,[⟨420,460⟩,⟨2,10⟩]⟩],950⟩
def CM:Shop:=⟨[⟨⟨#[116,104,105,110]⟩,10,⟨16,18⟩⟩,⟨⟨#[109,105,100]⟩,14,⟨20,24⟩⟩,⟨⟨#[102,97,116]⟩,20,⟨30,36⟩⟩],[⟨⟨#[98,101,101,115]⟩,⟨100,100⟩,⟨150,160⟩,⟨1000,1100⟩,1⟩],⟨20,45⟩,⟨500,1000⟩⟩
def LR:List BdWax:=[⟨⟨#[98,101,101,115]⟩,1200,⟨620,640⟩,⟨90,100⟩,[]⟩,⟨⟨#[112,97,114,97,102,102,105,110]⟩,200,⟨540,580⟩,⟨110,150⟩,[]⟩,⟨⟨#[104,97,114,100]⟩,400,⟨690,700⟩,⟨60,70⟩,[⟨0,0⟩,⟨2,20⟩,⟨4,30⟩]⟩]
def Hp:ClShop:=⟨[⟨⟨#[119,104,105,116,101]⟩,⟨10,20⟩,[1000,1000,1000]⟩,⟨⟨#[114,101,100]⟩,⟨10,20⟩,[2,1000,50]⟩,⟨⟨#[98,108,97,99,107]⟩,⟨20,40⟩,[1,5,1000]⟩],⟨100,200⟩,50⟩
def et:ChShop:=⟨Mu,LR,CM,CO,Hp⟩
def ef:List (List UInt8):=[[108,111,116,32,111,108,100,32,98,101,101,115,32,53,48,48,48,32,54,52,51,32,49,54],[108,111,116,32,110,101,119,32,98,101,101,115,32,57,48,48,48,32,54,48,48,32,57],[108,111,116,32,111,100,100,32,98,101,101,115,32,57,48,48,48,32,55,48,48,32,120],[98,97,116,99,104,32,97,32,98,108,97,99,107,32,111,108,100,32,50,48,48,48],[98,97,116,99,104,32,98,32,119,104,105,116,101,32,111,108,100,32,50,48,48,48],[98,97,116,99,104,32,99,32,114,101,100,32,111,108,100,32,50,48,48,48],[98,97,116,99,104,32,99,32,114,101,100,32,110,101,119,32,50,48,48,48],[112,108,97,110,32,98,108,97,99,107],[112,111,117,114,32,98,108,97,99,107],[115,116,111,99,107],[116,101,115,116,10,116,101,115,116,32,97,108,116,97,114,32,53,48,10,48,32,49,48,48,53,48,48,10,54,48,32,57,54,53,48,48,10,49,50,48,32,57,50,52,48,48,10],[112,114,111,109,105,115,101,32,97,108,116,97,114],[98,111,120,32,97,108,116,97,114,32,50,49],[98,111,120,32,97,108,116,97,114,32,50,50],[116,101,115,116,10,116,101,115,116,32,97,108,116,97,114,32,48,10,48,32,49,48,48,48,48,48,10,54,48,32,57,53,48,48,48,10],[108,111,111,107],[119,105,99,107,32,98,101,101,115,32,51,48,48,32,49,48,32,48,32,50,48],[98,108,101,110,100,32,53,54,48,32,54,50,48,32,49,52,48]]
def ve:List (List UInt8):=[[112,117,114,101,32,57,54,55,32,49,48,48,48],[105,109,112,117,114,101,32,51,49,57,32,54,52,55],[110,111,32,57],[111,107],[111,107],[110,111,32,57],[111,107],[97,32,98,32,99,32,49,48,48],[49,48,48],[111,108,100,32,49,48,48,48,32,110,101,119,32,55,48,48,48],[52,48,48,48,32,52,49,48,48],[50,49],[111,107],[110,111,32,57],[53,48,48,48,32,53,48,48,48],[98,114,111,107,101,110,32,48],[109,105,100],[49,32,49,55,32,50,32,53,52,48,48]]
def j9:List UInt8:=[49,32,108,111,116,32,111,108,100,32,98,101,101,115,32,53,48,48,48,32,54,52,51,32,49,54,10,50,32,108,111,116,32,110,101,119,32,98,101,101,115,32,57,48,48,48,32,54,48,48,32,57,10,51,32,98,97,116,99,104,32,97,32,98,108,97,99,107,32,111,108,100,32,50,48,48,48,10,52,32,98,97,116,99,104,32,98,32,119,104,105,116,101,32,111,108,100,32,50,48,48,48,10,53,32,98,97,116,99,104,32,99,32,114,101,100,32,110,101,119,32,50,48,48,48,10,54,32,112,111,117,114,32,98,108,97,99,107,10,55,32,116,101,115,116,47,116,101,115,116,32,97,108,116,97,114,32,53,48,47,48,32,49,48,48,53,48,48,47,54,48,32,57,54,53,48,48,47,49,50,48,32,57,50,52,48,48,47,10,56,32,98,111,120,32,97,108,116,97,114,32,50,49,10,57,32,116,101,115,116,47,116,101,115,116,32,97,108,116,97,114,32,48,47,48,32,49,48,48,48,48,48,47,54,48,32,57,53,48,48,48,47,10]
theorem Qr(a b):af TP 172 [.int .i64 a,.int .i64 b] (.agg [.int .i64 a,.int .i64 b]):=by
 refine aa (ag func172 rfl) rfl ?_;simp only[go_sem,simprocAttr]
theorem Qq(a b):af TP 173 [.int .i64 a,.int .i64 b] (.agg [.int .i64 a,.int .i64 b]):=by
 refine aa (ag func173 rfl) rfl ?_;simp only[go_sem,simprocAttr]
theorem Qp(a b):af TP 174 [.int .i64 a,.int .i64 b] (.agg [.int .i64 a,.int .i64 b]):=by
 refine aa (ag func174 rfl) rfl ?_;simp only[go_sem,simprocAttr]
theorem Qn(a b):af TP 176 [.int .i64 a,.int .i64 b] (.agg [.int .i64 a,.int .i64 b]):=by
 refine aa (ag func176 rfl) rfl ?_;simp only[go_sem,simprocAttr]
theorem Qm:af TP 132 [] Mu.pv:=by
 refine af.lessD (q:=.agg [.slice 2 (Mu.props.map WxProp.pv) true,.slice 2 [.agg [.str ⟨#[98,101,101,115]⟩,.slice 2 [.agg [.int .i64 620,.int .i64 640],.agg [.int .i64 17,.int .i64 22]] true],.agg [.str ⟨#[112,97,114,97,102,102,105,110]⟩,.slice 2 [.agg [.int .i64 540,.int .i64 580],.agg [.int .i64 0,.int .i64 0]] true],.agg [.str ⟨#[116,97,108,108,111,119]⟩,.slice 2 [.agg [.int .i64 420,.int .i64 460],.agg [.int .i64 2,.int .i64 10]] true]] true,.int .i64 950]) ?_ ?_
 .refine aa (ag func132 rfl) rfl ?_;simp only[go_sem,simprocAttr];repeat' (refine ae (Qr _ _) rfl ?_;simp only[go_sem,simprocAttr])
  rfl
 .exact PL.aggL rfl ⟨PL.sliceL rfl (dM _),PL.sliceL rfl ⟨PL.aggL rfl ⟨.refl _,PL.sliceL rfl (dM _),trivial⟩,PL.aggL rfl ⟨.refl _,PL.sliceL rfl (dM _),trivial⟩,PL.aggL rfl ⟨.refl _,PL.sliceL rfl (dM _),trivial⟩,trivial⟩,.refl _,trivial⟩
theorem Qk:af TP 133 [] (fN LR):=by
 refine af.lessD (q:=.slice 7 [.agg [.str ⟨#[98,101,101,115]⟩,.int .i64 1200,.int .i64 620,.int .i64 640,.int .i64 90,.int .i64 100,.nilslice],.agg [.str ⟨#[112,97,114,97,102,102,105,110]⟩,.int .i64 200,.int .i64 540,.int .i64 580,.int .i64 110,.int .i64 150,.nilslice],
   .agg [.str ⟨#[104,97,114,100]⟩,.int .i64 400,.int .i64 690,.int .i64 700,.int .i64 60,.int .i64 70,.slice 2 [.agg [.int .i64 0,.int .i64 0],.agg [.int .i64 2,.int .i64 20],.agg [.int .i64 4,.int .i64 30]] true]] true) ?_ ?_
 .refine aa (ag func133 rfl) rfl ?_;simp only[go_sem,simprocAttr];repeat' (refine ae (Qq _ _) rfl ?_;simp only[go_sem,simprocAttr])
 .refine PL.sliceL rfl ⟨PL.aggL rfl ⟨.refl _,.refl _,.refl _,.refl _,.refl _,.refl _,.nil _,trivial⟩,PL.aggL rfl ⟨.refl _,.refl _,.refl _,.refl _,.refl _,.refl _,.nil _,trivial⟩,
   PL.aggL rfl ⟨.refl _,.refl _,.refl _,.refl _,.refl _,.refl _,PL.sliceL rfl (dM _),trivial⟩,trivial⟩
theorem SJ:af TP 134 [] CM.pv:=by
 refine af.lessD (q:=.agg [.slice 4 (CM.wicks.map Wick.pv) true,.slice 8 (CM.waxes.map Wax.pv) true,.int .i64 20,.int .i64 45,.int .i64 500,.int .i64 1000]) ?_ ?_
 .refine aa (ag func134 rfl) rfl ?_;simp only[go_sem,simprocAttr];repeat' (refine ae (Qp _ _) rfl ?_;simp only[go_sem,simprocAttr])
  exact⟨rfl,rfl⟩
 .exact PL.aggL rfl ⟨PL.sliceL rfl (dM _),PL.sliceL rfl (dM _),.refl _,.refl _,.refl _,.refl _,trivial⟩
theorem NW:af TP 136 [] Hp.pv:=by
 refine af.lessD (q:=.agg [.slice 4 [.agg [.str ⟨#[119,104,105,116,101]⟩,.int .i64 10,.int .i64 20,.slice 1 [.int .i64 1000,.int .i64 1000,.int .i64 1000] true],.agg [.str ⟨#[114,101,100]⟩,.int .i64 10,.int .i64 20,.slice 1 [.int .i64 2,.int .i64 1000,.int .i64 50] true],.agg [.str ⟨#[98,108,97,99,107]⟩,.int .i64 20,.int .i64 40,.slice 1 [.int .i64 1,.int .i64 5,.int .i64 1000] true]] true,.int .i64 100,.int .i64 200,.int .i64 50]) ?_ ?_
 .refine aa (ag func136 rfl) rfl ?_;simp only[go_sem,simprocAttr];repeat' (refine ae (Qn _ _) rfl ?_;simp only[go_sem,simprocAttr])
 .exact PL.aggL rfl ⟨PL.sliceL rfl ⟨PL.aggL rfl ⟨.refl _,.refl _,.refl _,PL.sliceL rfl (dM _),trivial⟩,PL.aggL rfl ⟨.refl _,.refl _,.refl _,PL.sliceL rfl (dM _),trivial⟩,PL.aggL rfl ⟨.refl _,.refl _,.refl _,PL.sliceL rfl (dM _),trivial⟩,trivial⟩,.refl _,.refl _,.refl _,trivial⟩
theorem u3:af TP 75 [] et.pv:=by
 refine aa (ag func75 rfl) rfl ?_;simp only[go_sem,simprocAttr];refine ae Qm rfl ?_;simp only[go_sem,simprocAttr];refine ae Qk rfl ?_;simp only[go_sem,simprocAttr];refine ae SJ rfl ?_;simp only[go_sem,simprocAttr];refine ae UD rfl ?_;simp only[go_sem,simprocAttr];refine ae NW rfl ?_;simp only[go_sem,simprocAttr];and_intros<;>rfl
theorem AE:af TP 76 [] (bv ef):=by
 refine af.lessD (q:=.slice 1 (ef.map λx=>.str (bs x)) true) ?_ (PL.sliceL rfl (dM _));refine aa (ag func76 rfl) rfl ?_;simp only[go_sem,simprocAttr];rfl
theorem UK:af TP 81 [] (bv ve):=by
 refine af.lessD (q:=.slice 1 (ve.map λx=>.str (bs x)) true) ?_ (PL.sliceL rfl (dM _));refine aa (ag func81 rfl) rfl ?_;simp only[go_sem,simprocAttr];rfl
theorem MW:cy H0 f82=true:=by kernel_rfl
theorem QJ:af TP 82 [] (.str (bs j9)):=by
 refine aa (eI (by kernel_rfl) rfl MW) rfl ?_;simp only[go_sem,simprocAttr];rfl
theorem tB:bi et ef=0:=by kernel_rfl
theorem Sm:(bx et ef).2.1=ve:=by kernel_rfl
theorem PT:(bx et ef).1=(dY et j9).1:=by kernel_rfl
theorem Sp:(bx et ef).1.lots.length=2:=by kernel_rfl
theorem Sq:((bx et ef).1.lots[0]?).map (·.grams)=some 1000:=by kernel_rfl
theorem Us:((bx et ef).1.poured,(bx et ef).1.lost,(bx et ef).1.tests.length,(bx et ef).1.boxes.length)=(6000,100,2,1):=by kernel_rfl
theorem PS:i7 (bx et ef).2.2=j9:=by kernel_rfl
theorem Sn:((cR j9).1.length,(cR j9).2)=(9,0):=by kernel_rfl
theorem Nv:(dY et j9).2=(-1,0):=by kernel_rfl
def Oa:List UInt8:=[49,32,115,116,111,99,107,10]
theorem Ut:(dY et Oa).2=(0,0):=by kernel_rfl
def Kz:ChShop:=⟨⟨[],[],0⟩,[],⟨[],[],⟨0,0⟩,⟨0,0⟩⟩,⟨[],[],0⟩,⟨[],⟨0,0⟩,0⟩⟩
theorem So:bi Kz []=3:=by kernel_rfl
theorem OQ{s}{e}(h:bi s e=0):(aZ s).2.2=0/\e.length<=40:=by
 unfold bi at h;split at h
 .rename_i a;split at h
  .cases h
  .exact⟨a,by omega⟩
 .rename_i a;exact absurd h a
theorem N4{s}{b}{n}(h:BkOk s b n)(hi:BkIn b):BkLen b:=
 ⟨by have:=h.lots;omega,by have:=h.batches;omega,by have:=h.tests;omega,by have:=h.boxes;omega,hi.reads,hi.marks⟩
theorem Ky:BkLen bS:=⟨by decide,by decide,by decide,by decide,λx hx=>(by cases hx),λx hx=>(by cases hx)⟩
theorem Bf{s}{a}(h:bi s a=0):BkLen (bx s a).1:=by
 obtain⟨i,e⟩:=OQ h;exact N4 (Dr (yb i) e) (RO s a)
theorem LQ(s)(a):BkLen (k9 s a):=by
 unfold k9;split
 .rename_i h;exact Bf h
 .exact Ky
theorem k8:af TP 20 [] (.bool true):=by
 have D:pA et ef=ve:=by rw[pA,if_pos tB,Sm]
 have C:sL et ef=(bx et ef).2.2:=by rw[sL,if_pos tB]
 refine aa (ag func20 rfl) rfl ?_;simp only[go_sem,simprocAttr];refine ae u3 rfl ?_;simp only[go_sem,simprocAttr];refine ae AE rfl ?_;simp only[go_sem,simprocAttr];refine ae (IK et ef) rfl ?_;rw[tB,D];simp only[go_sem,simprocAttr];refine ae u3 rfl ?_;simp only[go_sem,simprocAttr];refine ae AE rfl ?_;simp only[go_sem,simprocAttr];refine ae (Ed et ef) rfl ?_;rw[tB,k9,if_pos tB];simp only[go_sem,simprocAttr];refine ae u3 rfl ?_;simp only[go_sem,simprocAttr];refine ae AE rfl ?_;simp only[go_sem,simprocAttr];refine ae (Sa et ef) rfl ?_;rw[tB,C,PS];simp only[go_sem,simprocAttr];refine ae (Ug j9 (by decide)) rfl ?_;simp only[go_sem,simprocAttr];refine ae u3 rfl ?_;simp only[go_sem,simprocAttr];refine ae (Hd et j9 (by decide)) rfl ?_;rw[Nv];simp only[go_sem,simprocAttr];refine ae u3 rfl ?_;have j:(⟨#[49,32,115,116,111,99,107,10]⟩:ByteArray)=bs Oa:=rfl;simp only[j,go_sem,simprocAttr];refine ae (Hd et Oa (by decide)) rfl ?_;rw[Ut];simp only[go_sem,simprocAttr];refine ae ((IK Kz []).arglessD (args':=[.agg [.nilslice,.nilslice,.int .i64 0,.nilslice,.nilslice,.nilslice,.int .i64 0,.int .i64 0,.int .i64 0,.int .i64 0,.nilslice,.nilslice,.int .i64 0,.nilslice,.int .i64 0,.int .i64 0,.int .i64 0],.nilslice]) ⟨PL.aggL rfl ⟨.nil _,.nil _,.refl _,.nil _,.nil _,.nil _,.refl _,.refl _,.refl _,.refl _,.nil _,.nil _,.refl _,.nil _,.refl _,.refl _,.refl _,trivial⟩,.nil _,trivial⟩) rfl ?_;rw[So];obtain⟨n1,l,q,o⟩:(bx et ef).1.poured=6000/\(bx et ef).1.lost=100/\(bx et ef).1.tests.length=2/\(bx et ef).1.boxes.length=1:=by
  have:=Us;simpa only[xN]using this
 obtain⟨z,y⟩:(cR j9).1.length=9/\(cR j9).2=0:=by
  have:=Sn;simpa only[xN]using this
 obtain⟨x,hx,A⟩:=bC.1 Sq;have e:=Sp;have a:=Bf tB;rw[<-PT];simp only[y,C2,go_sem,simprocAttr];generalize (bx et ef).1=E at n1 l q o hx e a;have v:(ve==ve)=true:=by simp
 have u:(bs j9==bs j9)=true:=(nv _ _).2 rfl;refine ae UK rfl ?_;simp only[C2,go_sem,simprocAttr];refine ae (NM ve ve (by decide)) rfl ?_;rw[v];simp only[C2,e,hx,A,n1,l,q,o,go_sem,simprocAttr];refine ae QJ rfl ?_;simp only[C2,u,z,bv,go_sem,simprocAttr];have i:=CT E a;simp only[ChBooks.pv,ChBooks.cells,n1,l]at i;refine ae i rfl ?_;simp only[C2,go_sem,simprocAttr]
set_option maxRecDepth 4000
structure Said where
 verb:List UInt8
 names:List (List UInt8)
 numbers:List Int
 text:List UInt8
def Said.pv (x:Said):PV:=.agg [.str (bs x.verb),bv x.names,.slice 1 (x.numbers.map aI) false,.str (bs x.text)]
end Ch
variable {P:Program} {H:Hints}
def HN (q v:PV):Prop:=∀(M:Nat->Prop) (w:World) (u:Value),RepP M w u q->RepP M w u v
theorem G7{q:PV}:HN q q:=λ_ _ _ h=>h
theorem Bv{n:Nat}{l:List PV}{b:Bool}:HN (.slice n l b) (.slice n l false):=λ_ _ _ h=>by
 cases h with
 |slice f a q u o j i e=>exact .slice f a q (λh=>by cases h) o j i e
 |empty a=>exact .empty (by simp)
theorem Ms{A:AAct}{T:Nat->AV}(K:Nat->Bool)(u:∀t,T t=A.tmps t\/T t=.undef\/∃q v,T t=.p v/\wv (cS (λi=>!K i) A.h) (A.tmps t)=some q/\HN q v) :
  fS P A { A with tmps:=T,h:=cS K A.h }:=
 ⟨rfl,rfl,λM0 y b cs0 m a w j=>by
  have e:=j.ahead (m':=fu K m) (h':=cS K A.h) (w':=w) (vS ⟨m,A.h,w⟩ K _) (tq j.hok K);refine⟨fu K m,e.size,λt=>?_,e.hok,e.ev,e.le,?_,e.rc⟩
  .show Rep M0 ⟨fu K m,cS K A.h,w⟩ (a.tmps.getD t undef) (T t);rcases u t with h|h|⟨q,v,h,o,l⟩
   .rw[h];exact e.tmps t
   .rw[h];exact trivial
   .rw[h];exact l _ _ _ (tt (S:=⟨m,A.h,w⟩) j.hok K (j.tmps t) o)
  .exact e.df⟩
theorem Bz{A:AAct}(f:AV->Option PV)(live:List Nat)(t:Nat):∀l:List (Nat×PV),(∀p,p∈l->∃q,f (A.tmps p.1)=some q/\HN q p.2) ->
  cN ((l.map λp=>(p.1,AV.p p.2))++bU A.tmps live []) t=A.tmps t\/cN ((l.map λp=>(p.1,AV.p p.2))++bU A.tmps live []) t=.undef\/∃q v,cN ((l.map λp=>(p.1,AV.p p.2))++bU A.tmps live []) t=.p v/\f (A.tmps t)=some q/\HN q v
 |[],_=>by
  rcases uK (T:=A.tmps) live t with⟨a,_⟩|a
  .exact .inl a
  .exact .inr (.inl a)
 |p::l,i=>by
  rw[bK,hZ,pM];by_cases e:t=p.1
  .rw[if_pos e];subst e;obtain⟨q,a,o⟩:=i p (by simp);exact .inr (.inr ⟨q,p.2,rfl,a,o⟩)
  .rw[if_neg e];exact Bz f live t l λq j=>i q (by simp[j])
theorem Mf{c:Code}{Q:Ex->AAct->Prop}{A:AAct}(K:Nat->Bool)(live:List Nat)(l:List (Nat×PV))(h':Heap)(hh:cS K A.h=h')(e:A.df=[])
  (a:∀p,p∈l->∃q,wv (cS (λi=>!K i) A.h) (A.tmps p.1)=some q/\HN q p.2) (k:SW P H c Q { n:=A.n,bs:=A.bs,rc:=A.rc,tmps:=cN ((l.map λp=>(p.1,AV.p p.2))++bU A.tmps live []),h:=h',df:=[] }):SW P H c Q A:=by
 subst hh;have hw:=Ms (P:=P) (A:=A) (T:=cN ((l.map λp=>(p.1,AV.p p.2))++bU A.tmps live [])) K (λt=>Bz _ live t l a);refine Rq hw ?_;rw[e];exact k
theorem UQ{y:Code}{Q:Ex->AAct->Prop}{A:AAct}:@WQ ⟨eH (SW P H y Q) Q⟩ .normal A=SW P H y Q A:=rfl
attribute [go_sem] UQ
end Abs
end Go.Proofs.YtmndpldajflenaaGreatDoor
namespace Go.Proofs.YtmndpldajflenaaGreatDoor
namespace Abs
namespace Ch
set_option maxRecDepth 4000
theorem NX(s:ChShop):af TP 17 [s.pv] (.bool ((aZ s).2.2==0)):=by
 refine aa (ag func17 rfl) rfl ?_;simp only[go_sem,simprocAttr];refine ae (Gh s) rfl ?_;simp only[ah,go_sem,simprocAttr]
def Mv:List UInt8:=[110,111,32]
def kK (a:List UInt8):Bool:=decide (3<a.length)&&(a.take 3==Mv)
theorem BT(a:List UInt8):af TP 23 [.str (bs a)] (.bool (kK a)):=by
 refine aa (ag func23 rfl) rfl ?_;have e:((bs a).size:Int)=(a.length:Int):=by rw[aj]
 have c0:(⟨#[110,111,32]⟩:ByteArray)=bs Mv:=rfl;by_cases h:3<a.length
 .have i:decide ((3:Int)<(a.length:Int))=true:=decide_eq_true (by omega);have j:(3:Int)<=(a.length:Int):=by omega
  have l:(bs a).extract 0 3=bs (a.take 3):=by rw[eD,qd]
  simp only[e,i,j,l,c0,dy,kK,h,decide_true,go_sem,simprocAttr]
 .have i:decide ((3:Int)<(a.length:Int))=false:=decide_eq_false (by omega);simp only[e,i,kK,h,decide_false,go_sem,simprocAttr]
theorem NB(n:Int):(bH n)≠[]:=qH _
theorem sZ(e:Int):kK (joinL [Dc,bH e])=true:=by
 have h:joinL [Dc,bH e]=[110,111,32]++bH e:=rfl;have a:0<(bH e).length:=xS.2 (NB e);unfold kK;rw[h];simp[Mv];omega
def oA (s:ChShop) (b:ChBooks) (l:List UInt8):List UInt8:=match eB s b l with|.error e=>joinL [Dc,bH e]|.ok (_,a,_)=>a
def nq (s:ChShop) (b:ChBooks) (l:List UInt8):ChBooks:=match eB s b l with|.error _=>b|.ok (b',_,_)=>b'
def Mq (s:ChShop) (b:ChBooks) (l:List UInt8):List (List UInt8):=match eB s b l with|.error _=>[]|.ok (_,_,w)=>if w=true then [l] else []
theorem Pi(s:ChShop)(q:ChBooks×List (List UInt8)×List (List UInt8))(l:List UInt8):er s q l=(nq s q.1 l,q.2.1++[oA s q.1 l],q.2.2++Mq s q.1 l):=by
 unfold er nq oA Mq
 cases eB s q.1 l with
 |error e=>simp
 |ok x=>
  obtain⟨b,a,w⟩:=x;cases w<;>simp
theorem P2{s:ChShop}{b:ChBooks}{l:List UInt8}{e:Int}(a:gr l=.error e):eB s b l=.error e:=by simp[eB,a]
theorem P1{s:ChShop}{b:ChBooks}{l:List UInt8}{c:Cmd}{e:Int}(a:gr l=.ok c)(i:aR s b c=.error e):eB s b l=.error e:=by simp[eB,a,i]
theorem Au{s:ChShop}{b b':ChBooks}{l a:List UInt8}{c:Cmd}(e:gr l=.ok c)(i:aR s b c=.ok (b',a)):eB s b l=.ok (b',a,c.written):=by simp[eB,e,i]
def nw (s:ChShop):ChBooks->List (List UInt8)->List (List UInt8)
 |_,[]=>[]
 |b,l::r=>oA s b l::nw s (nq s b l) r
def mh (s:ChShop):ChBooks->List (List UInt8)->ChBooks
 |b,[]=>b
 |b,l::r=>mh s (nq s b l) r
def C' (s:ChShop):ChBooks->List (List UInt8)->List (List UInt8)
 |_,[]=>[]
 |b,l::r=>Mq s b l++C' s (nq s b l) r
theorem Hl(s:ChShop):∀(d:List (List UInt8)) (q:ChBooks×List (List UInt8)×List (List UInt8)),d.foldl (er s) q=(mh s q.1 d,q.2.1++nw s q.1 d,q.2.2++C' s q.1 d)
 |[],q=>by simp[mh,nw,C']
 |l::d,q=>by
  rw[o8,Hl s d,Pi];simp[mh,nw,C']
theorem yg(s:ChShop)(d:List (List UInt8)):bx s d=(mh s bS d,nw s bS d,C' s bS d):=by
 rw[bx,Hl];simp
theorem Fb(s:ChShop):∀(d:List (List UInt8)) (b:ChBooks),(nw s b d).length=d.length
 |[],_=>rfl
 |l::d,b=>by rw[nw,dB,dB,Fb s d]
theorem Fc(s:ChShop):∀(d e:List (List UInt8)) (b:ChBooks),nw s b (d++e)=nw s b d++nw s (mh s b d) e
 |[],_,_=>rfl
 |l::d,e,b=>by rw[hZ,nw,Fc s d e,nw,mh];rfl
theorem xD(s:ChShop):∀(d e:List (List UInt8)) (b:ChBooks),mh s b (d++e)=mh s (mh s b d) e
 |[],_,_=>rfl
 |l::d,e,b=>by rw[hZ,mh,xD s d e,mh]
def iy (n r:List UInt8):List UInt8:=dE++32::(n++32::r)
def g7 (n:List UInt8):List UInt8:=kw++32::n
theorem Kc{n r}{c}(j:(32:UInt8)∉n)(h:gr (iy n r)=.ok c):∃o lt g,c=.batch n o lt g:=by
 have i:aM 32 (iy n r)=dE::n::aM 32 r:=by
  unfold iy;rw[g9 _ (by decide),g9 _ j]
 unfold gr at h;split at h
 .cases h
 rw[if_neg (by simp[iy,dE,jo]),i]at h;simp only[fy,if_neg (show ¬dE=uL by decide),if_true]at h;split at h
 .rename_i C a;split at a
  .rename_i q c1 u A l;split at a
   .rename_i e z y v;cases a;cases h;unfold cM at e;split at e
    .cases e;obtain⟨rfl,_⟩:=zM l;exact⟨_,_,_,rfl⟩
    .cases e
   .cases a
  .cases a
 .cases h
theorem Kb{n}(e:nameOk (bs n)=true):gr (g7 n)=.ok (.drop n):=by
 have l:=pI e;rw[aj]at l;have j:(32:UInt8)∉n:=(Abs.Ai e).2;have i:aM 32 (g7 n)=[kw,n]:=by
  unfold g7;rw[g9 _ (by decide),rf j]
 have a:¬400<(g7 n).length:=by simp[g7,kw];omega
 unfold gr;rw[if_neg a,if_neg (by simp[g7,kw,jo]),i];simp only[fy,if_neg (show ¬kw=uL by decide),if_neg (show ¬kw=dE by decide),if_true,cM,if_pos e,jI]
theorem L6{s}{b b'}{n u lt a}{g}(h:aR s b (.batch n u lt g)=.ok (b',a)):a=oH/\aR s b' (.drop n)=.ok (b,oH):=by
 simp only[aR]at h;split at h
 .cases h
 rename_i l;split at h
 .cases h
 split at h
 .cases h
 split at h
 .cases h
 split at h
 .cases h
 rename_i x hx;split at h
 .cases h
 split at h
 .cases h
 cases h;refine⟨rfl,?_⟩;have o:∀q:ChBatch,q∈b.batches->(q.name==bs n)=false:=λq y=>sE.2 λe=>l (C3.2 ⟨q,y,e⟩);have i:(bs n==bs n)=true:=(nv _ _).2 rfl;have hi:=An (λx:ChBatch=>x.name==bs n) b.batches ⟨bs n,aq (λx:ClColour=>x.name==bs u) s.colour.colours 0,aq (λx:ChLot=>x.name==bs lt) b.lots 0,g⟩ [] 0 i o;rw[gV]at hi;simp only[aR,hi,kn];rw[if_neg (by omega),cG (ba _),qZ];simp only[zJ];have j:=(aB.1 hx).1;rw[fZ j];simp only[oc];have z:x.grams-g+g=x.grams:=by omega
 have v:b.lots.set (aq (λx:ChLot=>x.name==bs lt) b.lots 0).toNat x=b.lots:=by
  conv=>rhs;rw[<-List.set_getElem_self j]
  rw[(aB.1 hx).2]
 rw[z];rw[show ({ x with grams:=x.grams }:ChLot)=x from rfl,v,List.eraseIdx_append_of_length_le (ba _),qZ];simp
theorem Lj{s}{b}{n r}(o:nameOk (bs n)=true) :
  (oA s b (iy n r)≠oH/\kK (oA s b (iy n r))=true)\/(oA s b (iy n r)=oH/\nq s (nq s b (iy n r)) (g7 n)=b):=by
 have j:∀e,joinL [Dc,bH e]≠oH:=λe q=>by
  have:=sZ e;rw[q]at this;cases this
 unfold oA
 cases i:gr (iy n r) with
 |error e=>rw[P2 i];exact .inl ⟨j e,sZ e⟩
 |ok c=>
  obtain⟨v,lt,g,rfl⟩:=Kc (Abs.Ai o).2 i
  cases l:aR s b (.batch n v lt g) with
  |error e=>rw[P1 i l];exact .inl ⟨j e,sZ e⟩
  |ok x=>
   obtain⟨b',a⟩:=x;obtain⟨rfl,u⟩:=L6 l;right;rw[Au i l];refine⟨rfl,?_⟩;unfold nq;rw[Au i l];dsimp only;rw[Au (Kb o) u]
end Ch
variable {P:Program}
theorem KT(id)(h):cS (λi=>i==id) h=h.set id .dead:=by
 apply mD;intro i;unfold cS;rw[ua];by_cases e:id=i
 .subst e;rcases cx id h.length with a|a
  .rw[fZ a,bO a];simp
  .rw[lC a,lC (by simpa using a)];rfl
 .rw[db e]
  cases h[i]? with
  |none=>rfl
  |some o=>simp[Ne.symm e]
theorem KU(id:Nat)(h:Heap):(cS (λi=>!(i==id)) h)[id]?=h[id]?:=by
 unfold cS;rw[ua]
 cases h[id]? with
 |none=>rfl
 |some o=>simp
theorem BE{f:FuncId}{args:List AV}{a:List PV}{v:PV}{l:Heap}{id sz:Nat}{xs:List AV}(e:l[id]?=some (.row sz xs))(u:af P f a v)
  (y:∀h',h'[id]?=some (.row sz xs)->m9 h' args=some a):∀h',bY l h'->ar P f args h' (λr j=>r=.ret (.p v)/\j=h'.set id .dead):=by
 intro h' o;have q:=o id _ e rfl;rw[<-KT];exact IW (λi=>i==id) u (y _ (by rw[KU];exact q))
end Abs
end Go.Proofs.YtmndpldajflenaaGreatDoor
