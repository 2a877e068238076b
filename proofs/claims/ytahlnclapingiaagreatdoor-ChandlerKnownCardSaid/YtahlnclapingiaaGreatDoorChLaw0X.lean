/-
  CONTRACTS: the helpers of the laws of layer 13: lists and books that are equal, the exampl
  THE LAWS ChandlerKnown, ChandlerFirst. No conditions but those in the theorems' heads.
  WHAT THE ARGUMENTS OF THE LAWS OF LAYER 9 LOOK LIKE. No conditions beyond the theorems' ow
  WHAT THE ARGUMENTS OF THE LAWS OF LAYER 13 LOOK LIKE. No conditions beyond the theorems' o
-/
import Derived.Test.YtahlnclapingiaaGreatDoorChReadCX
import Derived.Test.YtahlnclapingiaaGreatDoorHrLaw0X
import Derived.Test.YtahlnclapingiaaGreatDoorAbsEvX
set_option linter.unusedSimpArgs false
set_option linter.unusedVariables false
namespace Go.Proofs.YtahlnclapingiaaGreatDoor
namespace Abs
namespace Ch
set_option maxRecDepth 100000
def zo0 (s:ChShop) (ls:List (List UInt8)):List (List UInt8):=if za5 s ls=0 then (zaY s ls).2.1 else []
def zug (s:ChShop) (ls:List (List UInt8)):ChBooks:=if za5 s ls=0 then (zaY s ls).1 else zb9
def zlm (s:ChShop) (ls:List (List UInt8)):List (List UInt8):=if za5 s ls=0 then (zaY s ls).2.2 else []
theorem zvW:PL zez zb9.pv:=PL.aggL rfl ⟨.nil _,.nil _,.nil _,.nil _,.refl _,.refl _,trivial⟩
theorem zxq (s:ChShop) (ls:List (List UInt8)):zae Tryz.prog 14 [s.pv,zbt ls] (.tuple [zbt (zo0 s ls),.int .i64 (za5 s ls)]):=by
 refine (zBy s ls).lessD ?_
 unfold zo0
 by_cases h:za5 s ls=0
 ·rw [if_pos h,if_pos h,h];exact .refl _
 ·rw [if_neg h,if_neg h];exact PL.tupleL ⟨.nil _,.refl _,trivial⟩
theorem zFY (s:ChShop) (ls:List (List UInt8)):zae Tryz.prog 38 [s.pv,zbt ls] (.tuple [(zug s ls).pv,.int .i64 (za5 s ls)]):=by
 refine (zGO s ls).lessD ?_
 unfold zug
 by_cases h:za5 s ls=0
 ·rw [if_pos h,if_pos h,h];exact .refl _
 ·rw [if_neg h,if_neg h];exact PL.tupleL ⟨zvW,.refl _,trivial⟩
theorem zFX (s:ChShop) (ls:List (List UInt8)):zae Tryz.prog 5 [s.pv,zbt ls] (.tuple [.str (bs (zeS (zlm s ls))),.int .i64 (za5 s ls)]):=by
 have:=zGN s ls
 unfold zig at this
 unfold zlm
 by_cases h:za5 s ls=0
 ·rw [if_pos h,←h] at this;rw [if_pos h];exact this
 ·rw [if_neg h] at this;rw [if_neg h];exact this
theorem zyN {t:List UInt8} (h:(zbA t).2≠0):(zbA t).1=[]:=by
 unfold zbA at h ⊢
 split
 ·rfl
 ·split
  ·rfl
  ·rename_i l hl h2
   rw [hl] at h
   simp only [if_neg h2] at h
   exact absurd rfl h
theorem zKI (t:List UInt8) (hl:t.length≤2000000):zae Tryz.prog 7 [.str (bs t)] (.tuple [zbt (zbA t).1,.int .i64 (zbA t).2]):=by
 refine (zxN t hl).lessD ?_
 unfold zbK
 by_cases h:(zbA t).2=0
 ·rw [if_pos h];exact .refl _
 ·rw [if_neg h,zyN h];exact PL.tupleL ⟨.nil _,.refl _,trivial⟩
theorem zw6 {s:ChShop} {t:List UInt8} (h:(zcf s t).2.2≠0):(zcf s t).1=zb9:=by
 unfold zcf at h ⊢
 split
 ·rfl
 ·split
  ·rfl
  ·rename_i h1 h2
   rw [if_neg h1,if_neg h2] at h
   exact absurd rfl h
theorem zwj (s:ChShop) (t:List UInt8) (hl:t.length≤2000000):zae Tryz.prog 10 [s.pv,.str (bs t)] (.tuple [(zcf s t).1.pv,.int .i64 (zcf s t).2.1,.int .i64 (zcf s t).2.2]):=by
 refine (zEp s t hl).lessD ?_
 unfold zf6
 by_cases h:(zcf s t).2.2=0
 ·rw [if_pos h];exact .refl _
 ·rw [if_neg h,zw6 h];exact PL.tupleL ⟨zvW,.refl _,.refl _,trivial⟩
theorem zt4 (a c:List (List UInt8)) (ha:a.length<1000000000):zae Tryz.prog 9 [zbt a,zbt c] (.bool (a==c)):=by
 refine zaa zad (fn:=Tryz.f9) (n:=26) (rs:=[.tmp 4]) (by kernel_rfl) rfl rfl rfl ok9 (Nat.le_of_ble_eq_true rfl) ?_
 simp only [zbt,go_sem,simprocAttr]
 refine zaH (fun hb=>?_) (fun hb=>?_)<;>simp only [hb,go_sem,simprocAttr]
 ·have:¬ (a=c):=fun h=>by subst h;simp at hb
  simp [this]
 have hlen:a.length=c.length:=by simp [bne] at hb;omega
 refine zcr [0,1] a ha (τ:=Unit) (fun done rest _=>c.take done.length=done) (fun done _=>[(5,.p (.int .i64 done.length))]) () (by simp) ?_ ?_ ?_
 ·simp only [go_sem,simprocAttr]<;>simp
 ·intro _ e2
  rw [List.take_of_length_le (by omega)] at e2
  subst e2
  simp only [go_sem,simprocAttr]
  simp
 ·intro done x rest _ e1 e2 hx hlt hnx
  have hlt2:(done.length:Int)<(c.length:Int):=by omega
  obtain ⟨y,hy⟩:∃ y,c[done.length]?=some y:=⟨_,List.getElem?_eq_getElem (by omega)⟩
  simp only [hlt,hlt2,hx,hy,zbZ,go_sem,simprocAttr]
  cases hb:(x==y)
  ·simp only [go_sem,simprocAttr]
   have:¬ (a=c):=fun h=>by
    subst h
    rw [hx] at hy;cases hy;simp at hb
   simp [this]
  ·have hxy:x=y:=by simpa using hb
   simp only [go_sem,simprocAttr]
   refine zaA e1 () (by rw [List.length_append,List.length_singleton,List.take_add_one,e2,hy,hxy];rfl) ?_
   simp only [hnx,go_sem,simprocAttr]
structure BkLen (b:ChBooks):Prop where
 lots:b.lots.length<1000000000
 batches:b.batches.length<1000000000
 tests:b.tests.length<1000000000
 boxes:b.boxes.length<1000000000
 readings:∀ x,x∈b.lots→x.readings.length<1000000000
 marks:∀ t,t∈b.tests→t.marks.length<1000000000
theorem zLd (b:ChBooks) (h:BkLen b):zae Tryz.prog 12 [b.pv,b.pv] (.bool true):=by
 refine zaa zad (fn:=Tryz.f12) (n:=158) (rs:=[.tmp 4]) (by kernel_rfl) rfl rfl rfl zNq (Nat.le_of_ble_eq_true rfl) ?_
 have b1:∀ n:Int,(n != n)=false:=fun n=>by simp
 have b2:∀ x:ByteArray,(x==x)=true:=fun x=>(zks x x).2 rfl
 simp only [b1,go_sem,simprocAttr]
 refine zbb [2,3] b.lots h.lots (τ:=Unit) (fun _ _ _=>True) (fun done _=>[(5,.p (.int .i64 done.length))]) (fun _ _=>[.row 6 [.p b.pv],.row 6 [.p b.pv]]) () trivial ?_ ?_ ?_
 ·simp only [List.length_nil,go_sem,simprocAttr]
 rotate_left
 ·intro done x rest _ e1 _ hx hlt hnx
  have hxm:x∈b.lots:=by rw [e1];simp
  simp only [hlt,decide_true,hx,H12,zal,b1,b2,go_sem,simprocAttr]
  refine zab (zEq x.readings x.readings false false (h.readings x hxm)) rfl ?_
  rw [show (x.readings==x.readings)=true by simp]
  simp only [go_sem,simprocAttr]
  refine zaA e1 () trivial ?_
  simp only [hnx,go_sem,simprocAttr]
 intro _ _
 have hlt0:¬ ((b.lots.length:Int)<(b.lots.length:Int)):=by omega
 simp only [hlt0,decide_false,go_sem,simprocAttr]
 refine zbb [2,3] b.batches h.batches (τ:=Unit) (fun _ _ _=>True) (fun done _=>[(8,.p (.int .i64 done.length))]) (fun _ _=>[.row 6 [.p b.pv],.row 6 [.p b.pv]]) () trivial ?_ ?_ ?_
 ·simp only [List.length_nil,go_sem,simprocAttr]
 rotate_left
 ·intro done x rest _ e1 _ hx hlt hnx
  have hxm:x∈b.batches:=by rw [e1];simp
  simp only [hlt,decide_true,hx,H12,zal,b1,b2,go_sem,simprocAttr]
  rw [show (x.colour==x.colour&&(x.lot==x.lot&&x.grams==x.grams))=true by simp]
  simp only [go_sem,simprocAttr]
  refine zaA e1 () trivial ?_
  simp only [hnx,go_sem,simprocAttr]
 intro _ _
 have hlt1:¬ ((b.batches.length:Int)<(b.batches.length:Int)):=by omega
 simp only [hlt1,decide_false,go_sem,simprocAttr]
 refine zbb [2,3] b.tests h.tests (τ:=Unit) (fun _ _ _=>True) (fun done _=>[(9,.p (.int .i64 done.length))]) (fun _ _=>[.row 6 [.p b.pv],.row 6 [.p b.pv]]) () trivial ?_ ?_ ?_
 ·simp only [List.length_nil,go_sem,simprocAttr]
 rotate_left
 ·intro done x rest _ e1 _ hx hlt hnx
  have hxm:x∈b.tests:=by rw [e1];simp
  simp only [hlt,decide_true,hx,H12,zal,b1,b2,go_sem,simprocAttr]
  refine zau (zGL x x (h.marks x hxm)) rfl ?_
  rw [show eqT x x=true by rw [zDR]]
  simp only [H12,zal,go_sem,simprocAttr]
  refine zaA e1 () trivial ?_
  simp only [hnx,go_sem,simprocAttr]
 intro _ _
 have hlt2:¬ ((b.tests.length:Int)<(b.tests.length:Int)):=by omega
 simp only [hlt2,decide_false,go_sem,simprocAttr]
 refine zbb [2,3] b.boxes h.boxes (τ:=Unit) (fun _ _ _=>True) (fun done _=>[(10,.p (.int .i64 done.length))]) (fun _ _=>[.row 6 [.p b.pv],.row 6 [.p b.pv]]) () trivial ?_ ?_ ?_
 ·simp only [List.length_nil,go_sem,simprocAttr]
 rotate_left
 ·intro done x rest _ e1 _ hx hlt hnx
  have hxm:x∈b.boxes:=by rw [e1];simp
  simp only [hlt,decide_true,hx,H12,zal,b1,b2,go_sem,simprocAttr]
  rw [show (x.kind==x.kind&&x.hours==x.hours)=true by simp]
  simp only [go_sem,simprocAttr]
  refine zaA e1 () trivial ?_
  simp only [hnx,go_sem,simprocAttr]
 intro _ _
 have hlt3:¬ ((b.boxes.length:Int)<(b.boxes.length:Int)):=by omega
 simp only [hlt3,decide_false,go_sem,simprocAttr]
def zAt:WxTable:=⟨[⟨⟨#[109,101,108,116]⟩,5⟩,⟨⟨#[97,99,105,100]⟩,2⟩],[⟨⟨#[98,101,101,115]⟩,[⟨620,640⟩,⟨17,22⟩]⟩,⟨⟨#[112,97,114,97,102,102,105,110]⟩,[⟨540,580⟩,⟨0,0⟩]⟩,⟨⟨#[116,97,108,108,111,119]⟩,[⟨420,460⟩,⟨2,10⟩]⟩],950⟩
def zss:Shop:=⟨[⟨⟨#[116,104,105,110]⟩,10,⟨16,18⟩⟩,⟨⟨#[109,105,100]⟩,14,⟨20,24⟩⟩,⟨⟨#[102,97,116]⟩,20,⟨30,36⟩⟩],[⟨⟨#[98,101,101,115]⟩,⟨100,100⟩,⟨150,160⟩,⟨1000,1100⟩,1⟩],⟨20,45⟩,⟨500,1000⟩⟩
def zz0:List BdWax:=[⟨⟨#[98,101,101,115]⟩,1200,⟨620,640⟩,⟨90,100⟩,[]⟩,⟨⟨#[112,97,114,97,102,102,105,110]⟩,200,⟨540,580⟩,⟨110,150⟩,[]⟩,⟨⟨#[104,97,114,100]⟩,400,⟨690,700⟩,⟨60,70⟩,[⟨0,0⟩,⟨2,20⟩,⟨4,30⟩]⟩]
def zwx:ClShop:=⟨[⟨⟨#[119,104,105,116,101]⟩,⟨10,20⟩,[1000,1000,1000]⟩,⟨⟨#[114,101,100]⟩,⟨10,20⟩,[2,1000,50]⟩,⟨⟨#[98,108,97,99,107]⟩,⟨20,40⟩,[1,5,1000]⟩],⟨100,200⟩,50⟩
def zb7:ChShop:=⟨zAt,zz0,zss,zsu,zwx⟩
def zbO:List (List UInt8):=[[108,111,116,32,111,108,100,32,98,101,101,115,32,53,48,48,48,32,54,52,51,32,49,54],[108,111,116,32,110,101,119,32,98,101,101,115,32,57,48,48,48,32,54,48,48,32,57],[108,111,116,32,111,100,100,32,98,101,101,115,32,57,48,48,48,32,55,48,48,32,120],[98,97,116,99,104,32,97,32,98,108,97,99,107,32,111,108,100,32,50,48,48,48],[98,97,116,99,104,32,98,32,119,104,105,116,101,32,111,108,100,32,50,48,48,48],[98,97,116,99,104,32,99,32,114,101,100,32,111,108,100,32,50,48,48,48],[98,97,116,99,104,32,99,32,114,101,100,32,110,101,119,32,50,48,48,48],[112,108,97,110,32,98,108,97,99,107],[112,111,117,114,32,98,108,97,99,107],[115,116,111,99,107],[116,101,115,116,10,116,101,115,116,32,97,108,116,97,114,32,53,48,10,48,32,49,48,48,53,48,48,10,54,48,32,57,54,53,48,48,10,49,50,48,32,57,50,52,48,48,10],[112,114,111,109,105,115,101,32,97,108,116,97,114],[98,111,120,32,97,108,116,97,114,32,50,49],[98,111,120,32,97,108,116,97,114,32,50,50],[116,101,115,116,10,116,101,115,116,32,97,108,116,97,114,32,48,10,48,32,49,48,48,48,48,48,10,54,48,32,57,53,48,48,48,10],[108,111,111,107],[119,105,99,107,32,98,101,101,115,32,51,48,48,32,49,48,32,48,32,50,48],[98,108,101,110,100,32,53,54,48,32,54,50,48,32,49,52,48]]
def zhX:List (List UInt8):=[[112,117,114,101,32,57,54,55,32,49,48,48,48],[105,109,112,117,114,101,32,51,49,57,32,54,52,55],[110,111,32,57],[111,107],[111,107],[110,111,32,57],[111,107],[97,32,98,32,99,32,49,48,48],[49,48,48],[111,108,100,32,49,48,48,48,32,110,101,119,32,55,48,48,48],[52,48,48,48,32,52,49,48,48],[50,49],[111,107],[110,111,32,57],[53,48,48,48,32,53,48,48,48],[98,114,111,107,101,110,32,48],[109,105,100],[49,32,49,55,32,50,32,53,52,48,48]]
def zfH:List UInt8:=[49,32,108,111,116,32,111,108,100,32,98,101,101,115,32,53,48,48,48,32,54,52,51,32,49,54,10,50,32,108,111,116,32,110,101,119,32,98,101,101,115,32,57,48,48,48,32,54,48,48,32,57,10,51,32,98,97,116,99,104,32,97,32,98,108,97,99,107,32,111,108,100,32,50,48,48,48,10,52,32,98,97,116,99,104,32,98,32,119,104,105,116,101,32,111,108,100,32,50,48,48,48,10,53,32,98,97,116,99,104,32,99,32,114,101,100,32,110,101,119,32,50,48,48,48,10,54,32,112,111,117,114,32,98,108,97,99,107,10,55,32,116,101,115,116,47,116,101,115,116,32,97,108,116,97,114,32,53,48,47,48,32,49,48,48,53,48,48,47,54,48,32,57,54,53,48,48,47,49,50,48,32,57,50,52,48,48,47,10,56,32,98,111,120,32,97,108,116,97,114,32,50,49,10,57,32,116,101,115,116,47,116,101,115,116,32,97,108,116,97,114,32,48,47,48,32,49,48,48,48,48,48,47,54,48,32,57,53,48,48,48,47,10]
theorem zEl (a b:Int):zae Tryz.prog 74 [.int .i64 a,.int .i64 b] (.agg [.int .i64 a,.int .i64 b]):=by
 refine zaa zad (fn:=Tryz.f74) (n:=8) (rs:=[.cell 4 30]) (by kernel_rfl) rfl rfl rfl zM1 (Nat.le_of_ble_eq_true rfl) ?_
 simp only [go_sem,simprocAttr]
theorem zEk (a b:Int):zae Tryz.prog 75 [.int .i64 a,.int .i64 b] (.agg [.int .i64 a,.int .i64 b]):=by
 refine zaa zad (fn:=Tryz.f75) (n:=8) (rs:=[.cell 4 30]) (by kernel_rfl) rfl rfl rfl zM0 (Nat.le_of_ble_eq_true rfl) ?_
 simp only [go_sem,simprocAttr]
theorem zEj (a b:Int):zae Tryz.prog 76 [.int .i64 a,.int .i64 b] (.agg [.int .i64 a,.int .i64 b]):=by
 refine zaa zad (fn:=Tryz.f76) (n:=8) (rs:=[.cell 4 30]) (by kernel_rfl) rfl rfl rfl zMZ (Nat.le_of_ble_eq_true rfl) ?_
 simp only [go_sem,simprocAttr]
theorem zEh (a b:Int):zae Tryz.prog 78 [.int .i64 a,.int .i64 b] (.agg [.int .i64 a,.int .i64 b]):=by
 refine zaa zad (fn:=Tryz.f78) (n:=8) (rs:=[.cell 4 30]) (by kernel_rfl) rfl rfl rfl zMX (Nat.le_of_ble_eq_true rfl) ?_
 simp only [go_sem,simprocAttr]
theorem zEg:zae Tryz.prog 40 [] zAt.pv:=by
 refine zae.lessD (q:=.agg [.slice 2 (zAt.props.map WxProp.pv) true,.slice 2 [.agg [.str ⟨#[98,101,101,115]⟩,.slice 2 [.agg [.int .i64 620,.int .i64 640],.agg [.int .i64 17,.int .i64 22]] true],.agg [.str ⟨#[112,97,114,97,102,102,105,110]⟩,.slice 2 [.agg [.int .i64 540,.int .i64 580],.agg [.int .i64 0,.int .i64 0]] true],.agg [.str ⟨#[116,97,108,108,111,119]⟩,.slice 2 [.agg [.int .i64 420,.int .i64 460],.agg [.int .i64 2,.int .i64 10]] true]] true,.int .i64 950]) ?_ ?_
 ·refine zaa zad (fn:=Tryz.f40) (n:=18) (rs:=[.cell 0 25]) (by kernel_rfl) rfl rfl rfl zNb (Nat.le_of_ble_eq_true rfl) ?_
  simp only [go_sem,simprocAttr]
  repeat' (refine zab (zEl _ _) rfl ?_;simp only [go_sem,simprocAttr])
  rfl
 ·exact PL.aggL rfl ⟨PL.sliceL rfl (zb4 _),PL.sliceL rfl ⟨PL.aggL rfl ⟨.refl _,PL.sliceL rfl (zb4 _),trivial⟩,PL.aggL rfl ⟨.refl _,PL.sliceL rfl (zb4 _),trivial⟩,PL.aggL rfl ⟨.refl _,PL.sliceL rfl (zb4 _),trivial⟩,trivial⟩,.refl _,trivial⟩
theorem zEe:zae Tryz.prog 41 [] (zdt zz0):=by
 refine zae.lessD (q:=.slice 7 [.agg [.str ⟨#[98,101,101,115]⟩,.int .i64 1200,.int .i64 620,.int .i64 640,.int .i64 90,.int .i64 100,.nilslice],.agg [.str ⟨#[112,97,114,97,102,102,105,110]⟩,.int .i64 200,.int .i64 540,.int .i64 580,.int .i64 110,.int .i64 150,.nilslice],
   .agg [.str ⟨#[104,97,114,100]⟩,.int .i64 400,.int .i64 690,.int .i64 700,.int .i64 60,.int .i64 70,.slice 2 [.agg [.int .i64 0,.int .i64 0],.agg [.int .i64 2,.int .i64 20],.agg [.int .i64 4,.int .i64 30]] true]] true) ?_ ?_
 ·refine zaa zad (fn:=Tryz.f41) (n:=15) (rs:=[.tmp 0]) (by kernel_rfl) rfl rfl rfl zNa (Nat.le_of_ble_eq_true rfl) ?_
  simp only [go_sem,simprocAttr]
  repeat' (refine zab (zEk _ _) rfl ?_;simp only [go_sem,simprocAttr])
 ·refine PL.sliceL rfl ⟨PL.aggL rfl ⟨.refl _,.refl _,.refl _,.refl _,.refl _,.refl _,.nil _,trivial⟩,PL.aggL rfl ⟨.refl _,.refl _,.refl _,.refl _,.refl _,.refl _,.nil _,trivial⟩,
   PL.aggL rfl ⟨.refl _,.refl _,.refl _,.refl _,.refl _,.refl _,PL.sliceL rfl (zb4 _),trivial⟩,trivial⟩
theorem zGw:zae Tryz.prog 42 [] zss.pv:=by
 refine zae.lessD (q:=.agg [.slice 4 (zss.wicks.map Wick.pv) true,.slice 8 (zss.waxes.map Wax.pv) true,.int .i64 20,.int .i64 45,.int .i64 500,.int .i64 1000]) ?_ ?_
 ·refine zaa zad (fn:=Tryz.f42) (n:=16) (rs:=[.cell 0 32]) (by kernel_rfl) rfl rfl rfl zM9 (Nat.le_of_ble_eq_true rfl) ?_
  simp only [go_sem,simprocAttr]
  repeat' (refine zab (zEj _ _) rfl ?_;simp only [go_sem,simprocAttr])
  exact ⟨rfl,rfl⟩
 ·exact PL.aggL rfl ⟨PL.sliceL rfl (zb4 _),PL.sliceL rfl (zb4 _),.refl _,.refl _,.refl _,.refl _,trivial⟩
theorem zBK:zae Tryz.prog 44 [] zwx.pv:=by
 refine zae.lessD (q:=.agg [.slice 4 [.agg [.str ⟨#[119,104,105,116,101]⟩,.int .i64 10,.int .i64 20,.slice 1 [.int .i64 1000,.int .i64 1000,.int .i64 1000] true],.agg [.str ⟨#[114,101,100]⟩,.int .i64 10,.int .i64 20,.slice 1 [.int .i64 2,.int .i64 1000,.int .i64 50] true],.agg [.str ⟨#[98,108,97,99,107]⟩,.int .i64 20,.int .i64 40,.slice 1 [.int .i64 1,.int .i64 5,.int .i64 1000] true]] true,.int .i64 100,.int .i64 200,.int .i64 50]) ?_ ?_
 ·refine zaa zad (fn:=Tryz.f44) (n:=13) (rs:=[.cell 0 39]) (by kernel_rfl) rfl rfl rfl zM7 (Nat.le_of_ble_eq_true rfl) ?_
  simp only [go_sem,simprocAttr]
  repeat' (refine zab (zEh _ _) rfl ?_;simp only [go_sem,simprocAttr])
 ·exact PL.aggL rfl ⟨PL.sliceL rfl ⟨PL.aggL rfl ⟨.refl _,.refl _,.refl _,PL.sliceL rfl (zb4 _),trivial⟩,PL.aggL rfl ⟨.refl _,.refl _,.refl _,PL.sliceL rfl (zb4 _),trivial⟩,PL.aggL rfl ⟨.refl _,.refl _,.refl _,PL.sliceL rfl (zb4 _),trivial⟩,trivial⟩,.refl _,.refl _,.refl _,trivial⟩
theorem zk9:zae Tryz.prog 15 [] zb7.pv:=by
 refine zaa zad (fn:=Tryz.f15) (n:=7) (rs:=[.cell 0 41]) (by kernel_rfl) rfl rfl rfl zNn (Nat.le_of_ble_eq_true rfl) ?_
 simp only [go_sem,simprocAttr]
 refine zab zEg rfl ?_
 simp only [go_sem,simprocAttr]
 refine zab zEe rfl ?_
 simp only [go_sem,simprocAttr]
 refine zab zGw rfl ?_
 simp only [go_sem,simprocAttr]
 refine zab zK6 rfl ?_
 simp only [go_sem,simprocAttr]
 refine zab zBK rfl ?_
 simp only [go_sem,simprocAttr]
 and_intros<;>rfl
theorem znO:zae Tryz.prog 16 [] (zbt zbO):=by
 refine zae.lessD (q:=.slice 1 (zbO.map fun x=>.str (bs x)) true) ?_ (PL.sliceL rfl (zb4 _))
 refine zaa zad (fn:=Tryz.f16) (n:=2) (rs:=[.tmp 0]) (by kernel_rfl) rfl rfl rfl zNm (Nat.le_of_ble_eq_true rfl) ?_
 simp only [go_sem,simprocAttr]
 rfl
theorem zCR:zae Tryz.prog 17 [] (zbt zhX):=by
 refine zae.lessD (q:=.slice 1 (zhX.map fun x=>.str (bs x)) true) ?_ (PL.sliceL rfl (zb4 _))
 refine zaa zad (fn:=Tryz.f17) (n:=2) (rs:=[.tmp 0]) (by kernel_rfl) rfl rfl rfl zNl (Nat.le_of_ble_eq_true rfl) ?_
 simp only [go_sem,simprocAttr]
 rfl
theorem zAU:zaf H0 Tryz.f39=true:=by kernel_rfl
theorem zEB:zae Tryz.prog 39 [] (.str (bs zfH)):=by
 refine zaa zad (fn:=Tryz.f39) (n:=1) (rs:=[.tmp 0]) (by kernel_rfl) rfl rfl rfl zAU (Nat.le_of_ble_eq_true rfl) ?_
 simp only [go_sem,simprocAttr]
 rfl
theorem zl1:za5 zb7 zbO=0:=by kernel_rfl
theorem zGa:(zaY zb7 zbO).2.1=zhX:=by kernel_rfl
theorem zDQ:(zaY zb7 zbO).1=(zcf zb7 zfH).1:=by kernel_rfl
theorem zGd:(zaY zb7 zbO).1.lots.length=2:=by kernel_rfl
theorem zGe:((zaY zb7 zbO).1.lots[0]?).map (·.grams)=some 1000:=by kernel_rfl
theorem zKV:((zaY zb7 zbO).1.poured,(zaY zb7 zbO).1.lost,(zaY zb7 zbO).1.tests.length,(zaY zb7 zbO).1.boxes.length)=(6000,100,2,1):=by kernel_rfl
theorem zDP:zeS (zaY zb7 zbO).2.2=zfH:=by kernel_rfl
theorem zGb:((zbA zfH).1.length,(zbA zfH).2)=(9,0):=by kernel_rfl
theorem zBm:(zcf zb7 zfH).2=(-1,0):=by kernel_rfl
def zBY:List UInt8:=[49,32,115,116,111,99,107,10]
theorem zKW:(zcf zb7 zBY).2=(0,0):=by kernel_rfl
def zy4:ChShop:=⟨⟨[],[],0⟩,[],⟨[],[],⟨0,0⟩,⟨0,0⟩⟩,⟨[],[],0⟩,⟨[],⟨0,0⟩,0⟩⟩
theorem zGc:za5 zy4 []=3:=by kernel_rfl
theorem zKU {s:ChShop} {ls:List (List UInt8)} (h:za5 s ls=0):(zbj s).2.2=0∧ls.length≤40:=by
 unfold za5 at h
 split at h
 ·rename_i h1
  split at h
  ·cases h
  ·exact ⟨h1,by omega⟩
 ·rename_i h1
  exact absurd h h1
theorem zBS {s:ChShop} {b:ChBooks} {n:Nat} (h:BkOk s b n) (hi:BkIn b):BkLen b :=
 ⟨by have:=h.lots;omega,by have:=h.batches;omega,by have:=h.tests;omega,by have:=h.boxes;omega,hi.reads,hi.marks⟩
theorem zyI {s:ChShop} {ls:List (List UInt8)} (h:za5 s ls=0):BkLen (zaY s ls).1:=by
 obtain ⟨h1,h2⟩:=zKU h
 exact zBS (zyH (zsR h1) h2) (zFw s ls)
set_option maxHeartbeats 4000000 in
theorem zBL:zae Tryz.prog 13 [] (.bool true):=by
 have e1:zo0 zb7 zbO=zhX:=by rw [zo0,if_pos zl1,zGa]
 have e2:zlm zb7 zbO=(zaY zb7 zbO).2.2:=by rw [zlm,if_pos zl1]
 refine zaa zad (fn:=Tryz.f13) (n:=148) (rs:=[.tmp 0]) (by kernel_rfl) rfl rfl rfl zNp (Nat.le_of_ble_eq_true rfl) ?_
 simp only [go_sem,simprocAttr]
 refine zab zk9 rfl ?_
 simp only [go_sem,simprocAttr]
 refine zab znO rfl ?_
 simp only [go_sem,simprocAttr]
 refine zab (zxq zb7 zbO) rfl ?_
 rw [zl1,e1]
 simp only [go_sem,simprocAttr]
 refine zab zk9 rfl ?_
 simp only [go_sem,simprocAttr]
 refine zab znO rfl ?_
 simp only [go_sem,simprocAttr]
 refine zab (zFY zb7 zbO) rfl ?_
 rw [zl1,zug,if_pos zl1]
 simp only [go_sem,simprocAttr]
 refine zab zk9 rfl ?_
 simp only [go_sem,simprocAttr]
 refine zab znO rfl ?_
 simp only [go_sem,simprocAttr]
 refine zab (zFX zb7 zbO) rfl ?_
 rw [zl1,e2,zDP]
 simp only [go_sem,simprocAttr]
 refine zab (zKI zfH (by decide)) rfl ?_
 simp only [go_sem,simprocAttr]
 refine zab zk9 rfl ?_
 simp only [go_sem,simprocAttr]
 refine zab (zwj zb7 zfH (by decide)) rfl ?_
 rw [zBm]
 simp only [go_sem,simprocAttr]
 refine zab zk9 rfl ?_
 have hbad:(⟨#[49,32,115,116,111,99,107,10]⟩:ByteArray)=bs zBY:=rfl
 simp only [hbad,go_sem,simprocAttr]
 refine zab (zwj zb7 zBY (by decide)) rfl ?_
 rw [zKW]
 simp only [go_sem,simprocAttr]
 refine zab ((zxq zy4 []).arglessD (args':=[.agg [.nilslice,.nilslice,.int .i64 0,.nilslice,.nilslice,.nilslice,.int .i64 0,.int .i64 0,.int .i64 0,.int .i64 0,.nilslice,.nilslice,.int .i64 0,.nilslice,.int .i64 0,.int .i64 0,.int .i64 0],.nilslice]) ⟨PL.aggL rfl ⟨.nil _,.nil _,.refl _,.nil _,.nil _,.nil _,.refl _,.refl _,.refl _,.refl _,.nil _,.nil _,.refl _,.nil _,.refl _,.refl _,.refl _,trivial⟩,.nil _,trivial⟩) rfl ?_
 rw [zGc]
 obtain ⟨n1,n2,n3,n4⟩:(zaY zb7 zbO).1.poured=6000∧(zaY zb7 zbO).1.lost=100∧(zaY zb7 zbO).1.tests.length=2∧(zaY zb7 zbO).1.boxes.length=1:=by
  have:=zKV
  simpa only [Prod.mk.injEq] using this
 obtain ⟨r1,r2⟩:(zbA zfH).1.length=9∧(zbA zfH).2=0:=by
  have:=zGb
  simpa only [Prod.mk.injEq] using this
 obtain ⟨x,hx,hg⟩:=Option.map_eq_some_iff.1 zGe
 have hl2:=zGd
 have hln:=zyI zl1
 rw [←zDQ]
 simp only [r2,List.append_eq,go_sem,simprocAttr]
 generalize (zaY zb7 zbO).1=bk at n1 n2 n3 n4 hx hl2 hln
 have z1:(zhX==zhX)=true:=by simp
 have z2:(bs zfH==bs zfH)=true:=(zks _ _).2 rfl
 refine zab zCR rfl ?_
 simp only [List.append_eq,go_sem,simprocAttr]
 refine zab (zt4 zhX zhX (by decide)) rfl ?_
 rw [z1]
 simp only [List.append_eq,hl2,hx,hg,n1,n2,n3,n4,go_sem,simprocAttr]
 refine zab zEB rfl ?_
 simp only [List.append_eq,z2,r1,zbt,go_sem,simprocAttr]
 have heq:=zLd bk hln
 simp only [ChBooks.pv,ChBooks.cells,n1,n2] at heq
 refine zab heq rfl ?_
 simp only [List.append_eq,go_sem,simprocAttr]
end Ch
end Abs
end Go.Proofs.YtahlnclapingiaaGreatDoor
namespace Go.Proofs.YtahlnclapingiaaGreatDoor
namespace Abs
namespace Ch
set_option maxRecDepth 100000
theorem zwu:za5 zb7 (zbO.take 10)=0:=by kernel_rfl
theorem zBl:(zaY zb7 (zbO.take 10)).2.1=zhX.take 10:=by kernel_rfl
theorem zqy:zae Tryz.prog 4 [] (.bool true):=by
 have hk:=zxq zb7 (zbO.take 10)
 rw [zwu,zo0,if_pos zwu,zBl] at hk
 have hs:=zt4 (zhX.take 10) (zhX.take 10) (by decide)
 rw [show (zhX.take 10==zhX.take 10)=true by simp] at hs
 simp only [zbt,List.map_take] at hk hs
 refine zaa zad (fn:=Tryz.f4) (n:=21) (rs:=[.tmp 0]) (by kernel_rfl) rfl rfl rfl ok4 (Nat.le_of_ble_eq_true rfl) ?_
 simp only [go_sem,simprocAttr]
 refine zab zk9 rfl ?_
 simp only [go_sem,simprocAttr]
 refine zab znO rfl ?_
 simp only [zbt,go_sem,simprocAttr]
 have h1:(10:Int)≤(zbO.length:Int):=by decide
 have h2:(10:Int)≤(zhX.length:Int):=by decide
 simp only [h1,go_sem,simprocAttr]
 refine zab hk rfl ?_
 simp only [go_sem,simprocAttr]
 refine zab zCR rfl ?_
 simp only [zbt,h2,go_sem,simprocAttr]
 refine zab hs rfl ?_
 simp only [go_sem,simprocAttr]
 refine zab zBL rfl ?_
 simp only [go_sem,simprocAttr]
end Ch
end Abs
end Go.Proofs.YtahlnclapingiaaGreatDoor
namespace Go.Proofs.YtahlnclapingiaaGreatDoor
namespace Abs
set_option maxRecDepth 100000
theorem zjQ (cs:List PV):ze9 true cs=.agg cs:=by
 cases cs with
 |nil=>rfl
 |cons a l=>cases l<;>rfl
theorem zpE {n:Nat} {cs:List PV} (h:zc6 Tryz.prog (n+1) 3 cs):∃ m,cs=[.int .i64 m]:=by
 obtain ⟨m,h,_⟩:=zFz (k:=.i64) (by kernel_rfl) h;exact ⟨m,h⟩
theorem zqB {n:Nat} {cs:List PV} (h:zc6 Tryz.prog (n+2) 30 cs):∃ s:Span,cs=[.int .i64 s.lo,.int .i64 s.hi]:=by
 obtain ⟨a,_,rfl,ha,b,_,rfl,hb,rfl⟩:=zki (ts:=[3,3]) (by kernel_rfl) h
 obtain ⟨x,rfl⟩:=zpE ha
 obtain ⟨y,rfl⟩:=zpE hb
 exact ⟨⟨x,y⟩,rfl⟩
theorem zzo {n:Nat} {cs:List PV} (h:zc6 Tryz.prog (n+3) 163 cs):∃ k:HrKind,.agg cs=k.pv:=by
 obtain ⟨a,_,rfl,ha,b,_,rfl,hb,c,_,rfl,hc,rfl⟩:=zki (ts:=[9,30,3]) (by kernel_rfl) h
 obtain ⟨x,rfl,_⟩:=zyP (by kernel_rfl) ha
 obtain ⟨y,rfl⟩:=zqB hb
 obtain ⟨z,rfl⟩:=zpE hc
 exact ⟨⟨x,y,z⟩,rfl⟩
theorem zzn {n:Nat} {cs:List PV} (h:zc6 Tryz.prog (n+3) 165 cs):∃ k:HrRule,.agg cs=k.pv:=by
 obtain ⟨a,_,rfl,ha,b,_,rfl,hb,c,_,rfl,hc,rfl⟩:=zki (ts:=[9,30,30]) (by kernel_rfl) h
 obtain ⟨x,rfl,_⟩:=zyP (by kernel_rfl) ha
 obtain ⟨y,rfl⟩:=zqB hb
 obtain ⟨z,rfl⟩:=zqB hc
 exact ⟨⟨x,y,z⟩,rfl⟩
theorem zxv {n:Nat} {cs:List PV} (h:zc6 Tryz.prog (n+4) 33 cs):∃ l:List HrKind,cs=[.slice 4 (l.map HrKind.pv) false]:=by
 obtain ⟨xs,rfl,_,hx⟩:=zv4 (e:=163) (z:=4) (g:=true) (by kernel_rfl) h
 obtain ⟨l,rfl⟩:=zqx HrKind.pv (xs:=xs) fun x hm=>by
  obtain ⟨es,rfl,h⟩:=hx x hm
  rw [zjQ];exact zzo h
 exact ⟨l,rfl⟩
theorem zxu {n:Nat} {cs:List PV} (h:zc6 Tryz.prog (n+4) 34 cs):∃ l:List HrRule,cs=[.slice 5 (l.map HrRule.pv) false]:=by
 obtain ⟨xs,rfl,_,hx⟩:=zv4 (e:=165) (z:=5) (g:=true) (by kernel_rfl) h
 obtain ⟨l,rfl⟩:=zqx HrRule.pv (xs:=xs) fun x hm=>by
  obtain ⟨es,rfl,h⟩:=hx x hm
  rw [zjQ];exact zzn h
 exact ⟨l,rfl⟩
theorem zns {v:PV} (h:zwV Tryz.prog 8 36 v):∃ s:HrShop,v=s.pv:=by
 obtain ⟨cs,rfl,h⟩:=h
 rw [show (zbc Tryz.prog 36==some true)=true by kernel_rfl,zjQ]
 obtain ⟨a,_,rfl,ha,b,_,rfl,hb,c,_,rfl,hc,rfl⟩:=zki (ts:=[33,34,3]) (by kernel_rfl) h
 obtain ⟨x,rfl⟩:=zxv ha
 obtain ⟨y,rfl⟩:=zxu hb
 obtain ⟨z,rfl⟩:=zpE hc
 exact ⟨⟨x,y,z⟩,rfl⟩
end Abs
end Go.Proofs.YtahlnclapingiaaGreatDoor
namespace Go.Proofs.YtahlnclapingiaaGreatDoor
namespace Abs
namespace Ch
set_option maxRecDepth 100000
end Ch
end Abs
end Go.Proofs.YtahlnclapingiaaGreatDoor
