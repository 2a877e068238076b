/-
  CONTRACTS: chandler: the books in memory; questions. No conditions but those in the theore
  PLAIN LAWS: what is written is read. No program in sight. No conditions but those in the t
-/
import Derived.Test.YtahlnclapingiaaGreatDoorChMustX
import Derived.Test.YtahlnclapingiaaGreatDoorAbsFrame
import Derived.Test.YtahlnclapingiaaGreatDoorHrReadX
set_option linter.unusedSimpArgs false
set_option linter.unusedVariables false
namespace Go.Proofs.YtahlnclapingiaaGreatDoor
namespace Abs
namespace Ch
set_option maxRecDepth 4000
def zgd (x:ChLot):AV:=.p x.pv
def zbq (x:ChBatch):AV:=.p x.pv
def zis (x:HrTest):AV:=.p x.pv
def zkK (x:HrBox):AV:=.p x.pv
def B7 (s:ChShop) (b:ChBooks) (ex:List PV):Heap :=
 [.dead,.dead,.row 23 [.agg ([.slice 3 b.lots.length 0 b.lots.length,.slice 4 (b.batches.length+ex.length) 0 b.batches.length,.slice 5 b.tests.length 0 b.tests.length,.slice 6 b.boxes.length 0 b.boxes.length,.p (.int .i64 b.poured),.p (.int .i64 b.lost)]++s.cells.map .p)],
  .row 4 (b.lots.map zgd),.row 4 (b.batches.map zbq++ex.map .p),.row 3 (b.tests.map zis),.row 2 (b.boxes.map zkK)]
attribute [go_sem] B7
theorem zcU (s:ChShop) (b:ChBooks) (ex:List PV):∀ o,o∈B7 s b ex→zaI 7 o:=by
 intro o ho
 simp only [B7,List.mem_cons,List.not_mem_nil,or_false] at ho
 rcases ho with rfl | rfl | rfl | rfl | rfl | rfl | rfl
 ·trivial
 ·trivial
 ·intro x hx
  simp only [List.mem_singleton] at hx
  subst hx
  intro c hc
  simp only [ChShop.cells,List.map_cons,List.map_nil,List.mem_append,List.mem_cons,List.not_mem_nil,or_false] at hc
  rcases hc with (rfl | rfl | rfl | rfl | rfl | rfl) | hc
  ·show 3<7;decide
  ·show 4<7;decide
  ·show 5<7;decide
  ·show 6<7;decide
  ·trivial
  ·trivial
  ·rcases hc with rfl | rfl | rfl | rfl | rfl | rfl | rfl | rfl | rfl | rfl | rfl | rfl | rfl | rfl | rfl | rfl | rfl<;>trivial
 ·intro x hx
  obtain ⟨y,_,rfl⟩:=List.mem_map.1 hx
  trivial
 ·intro x hx
  rcases List.mem_append.1 hx with hx | hx
  ·obtain ⟨y,_,rfl⟩:=List.mem_map.1 hx
   trivial
  ·obtain ⟨y,_,rfl⟩:=List.mem_map.1 hx
   trivial
 ·intro x hx
  obtain ⟨y,_,rfl⟩:=List.mem_map.1 hx
  trivial
 ·intro x hx
  obtain ⟨y,_,rfl⟩:=List.mem_map.1 hx
  trivial
def B7n (s:ChShop) (b:ChBooks) (l:List ChBatch) (ex:List PV):Heap :=
 [.dead,.dead,.row 23 [.agg ([.slice 3 b.lots.length 0 b.lots.length,.p .nilslice,.slice 5 b.tests.length 0 b.tests.length,.slice 6 b.boxes.length 0 b.boxes.length,.p (.int .i64 b.poured),.p (.int .i64 b.lost)]++s.cells.map .p)],
  .row 4 (b.lots.map zgd),.row 4 (l.map zbq++ex.map .p),.row 3 (b.tests.map zis),.row 2 (b.boxes.map zkK)]
attribute [go_sem] B7n
theorem zr3 (s:ChShop) (b:ChBooks) (l:List ChBatch) (ex:List PV):∀ o,o∈B7n s b l ex→zaI 7 o:=by
 intro o ho
 by_cases h:o=.row 23 [.agg ([.slice 3 b.lots.length 0 b.lots.length,.p .nilslice,.slice 5 b.tests.length 0 b.tests.length,.slice 6 b.boxes.length 0 b.boxes.length,.p (.int .i64 b.poured),.p (.int .i64 b.lost)]++s.cells.map .p)]
 ·subst h
  intro x hx
  simp only [List.mem_singleton] at hx
  subst hx
  intro c hc
  simp only [ChShop.cells,List.map_cons,List.map_nil,List.mem_append,List.mem_cons,List.not_mem_nil,or_false] at hc
  rcases hc with (rfl | rfl | rfl | rfl | rfl | rfl) | hc
  ·show 3<7;decide
  ·trivial
  ·show 5<7;decide
  ·show 6<7;decide
  ·trivial
  ·trivial
  ·rcases hc with rfl | rfl | rfl | rfl | rfl | rfl | rfl | rfl | rfl | rfl | rfl | rfl | rfl | rfl | rfl | rfl | rfl<;>trivial
 ·refine zcU s { b with batches:=l } ex o ?_
  simp only [B7n,B7,List.mem_cons,List.not_mem_nil,or_false] at ho ⊢
  rcases ho with ho | ho | ho | ho
  ·exact .inl ho
  ·exact .inr (.inl ho)
  ·exact absurd ho h
  ·exact .inr (.inr (.inr ho))
def zfz (s:ChShop) (b:ChBooks) (ex:List PV) (q:Except Int (ChBooks×List UInt8)) (r:AEnd) (h':Heap):Prop :=
 match q with
 |.error e=>r=.panic (zdq e)∧h'=B7 s b ex
 |.ok (b',a)=>r=.ret (.p (.str (bs a)))∧((∃ ex',h'=B7 s b' ex')∨(b'.batches=[]∧∃ l x,h'=B7n s b' l x))
theorem zbJ {s:ChShop} {b:ChBooks} {ex:List PV} {q:Except Int (ChBooks×List UInt8)} {e:Int} (hq:q=.error e) {hh:Heap} (t:Heap) (hd:hh=B7 s b ex++t) :
  ∃ h' t,hh=h'++t∧h'.length=7∧(∀ o,o∈h'→zaI h'.length o)∧zs4 (.panic (zdq e))∧zfz s b ex q (.panic (zdq e)) h':=by
 subst hq
 exact ⟨_,t,hd,rfl,zcU s b ex,trivial,rfl,rfl⟩
theorem zdX {s:ChShop} {b b':ChBooks} {ex ex':List PV} {q:Except Int (ChBooks×List UInt8)} {a:List UInt8} (hq:q=.ok (b',a)) {hh:Heap} (t:Heap) (hd:hh=B7 s b' ex'++t) :
  ∃ h' t,hh=h'++t∧h'.length=7∧(∀ o,o∈h'→zaI h'.length o)∧zs4 (.ret (.p (.str (bs a))))∧zfz s b ex q (.ret (.p (.str (bs a)))) h':=by
 subst hq
 exact ⟨_,t,hd,rfl,zcU s b' ex',trivial,rfl,.inl ⟨_,rfl⟩⟩
theorem zD8 {s:ChShop} {b b':ChBooks} {ex:List PV} {l:List ChBatch} {x:List PV} {q:Except Int (ChBooks×List UInt8)} {a:List UInt8} (hq:q=.ok (b',a)) (h0:b'.batches=[]) {hh:Heap} (t:Heap) (hd:hh=B7n s b' l x++t) :
  ∃ h' t,hh=h'++t∧h'.length=7∧(∀ o,o∈h'→zaI h'.length o)∧zs4 (.ret (.p (.str (bs a))))∧zfz s b ex q (.ret (.p (.str (bs a)))) h':=by
 subst hq
 exact ⟨_,t,hd,rfl,zr3 s b' l x,trivial,rfl,.inr ⟨h0,_,_,rfl⟩⟩
theorem zm2 (n:Nat) (h:Heap) (l:List ChLot):zaD (zbe n h) (l.map zgd)=some (l.map ChLot.pv):=zbV (zcp n h) ChLot.pv l
theorem zBe (n:Nat) (h:Heap) (l:List ChBatch):zaD (zbe n h) (l.map zbq)=some (l.map ChBatch.pv):=zbV (zcp n h) ChBatch.pv l
theorem zk3 (n:Nat) (h:Heap) (l:List HrTest):zaD (zbe n h) (l.map zis)=some (l.map HrTest.pv):=zbV (zcp n h) HrTest.pv l
theorem zm3 (n:Nat) (h:Heap) (l:List HrBox):zaD (zbe n h) (l.map zkK)=some (l.map HrBox.pv):=zbV (zcp n h) HrBox.pv l
theorem zk4 (n:Nat) (h:Heap) (l:List ChBatch) (ex:List PV):zaD (zbe n h) (l.map zbq++ex.map .p)=some (l.map ChBatch.pv++ex):=by
 have:=Cl.zDM (zcp n h) (l.map ChBatch.pv) ex
 rw [List.map_map] at this
 exact this
theorem zwJ (l:List ChBatch) (ex:List PV):(l.map zbq++ex.map AV.p).length=l.length+ex.length:=by simp
attribute [go_sem] zm2 zBe zk3 zm3 zk4 zwJ
theorem zni {l:List ChBatch} {i:Nat} {x:ChBatch} (h:l[i]?=some x) (ex:List PV):(l.map zbq++ex.map AV.p)[i]?=some (.p x.pv):=by
 have hi:i<l.length:=(List.getElem?_eq_some_iff.1 h).1
 rw [List.getElem?_append_left (by simpa using hi),List.getElem?_map,h];rfl
structure BkOk (s:ChShop) (b:ChBooks) (n:Nat):Prop where
 lots:b.lots.length≤8
 batches:b.batches.length≤7
 tests:b.tests.length≤8
 boxes:b.boxes.length≤20
 grams:∀ x,x∈b.lots→0≤x.grams∧x.grams≤100000*(n+1)
 names:∀ x,x∈b.lots→x.name.size≤20
 waits:∀ x,x∈b.batches→(1≤x.grams∧x.grams≤100000)∧(0≤x.lot∧x.lot<b.lots.length)∧x.name.size≤20
 poured:0≤b.poured∧b.poured≤700000*n
 lost:0≤b.lost∧b.lost≤300000*n
 few:n≤40
theorem zxX (s:ByteArray):bs (bl s)=s:=zp5 s
theorem zrP (s:HrShop) (l:List HrTest):∀ (bx:List HrBox) (i:Nat),(∀ j,j∈(zbs s l i bx).1→(i:Int)≤j∧j<i+bx.length)∧(zbs s l i bx).1.length≤bx.length∧((zbs s l i bx).2≠0→(zbs s l i bx).1=[])
 |[],i=>by simp [zbs]
 |b::r,i=>by
  obtain ⟨h1,h2,h3⟩:=zrP s l r (i+1)
  rw [zbs]
  split
  ·split
   ·refine ⟨fun j hj=>?_,?_,fun h=>absurd rfl h⟩
    ·rcases List.mem_append.1 hj with hj | hj
     ·split at hj
      ·simp at hj;subst hj;simp;omega
      ·simp at hj
     ·have:=h1 j hj
      simp at this ⊢;omega
    ·rw [List.length_append,List.length_cons]
     split<;>simp<;>omega
   ·exact ⟨by simp,by simp,fun _=>rfl⟩
  ·exact ⟨by simp,by simp,fun _=>rfl⟩
theorem zzZ (s:HrShop) (l:List HrTest) (bx:List HrBox) (hb:bx.length≤20):(∀ j,j∈(zbl s l bx).1→0≤j∧j<1000000000)∧(zbl s l bx).1.length≤1000∧((zbl s l bx).2≠0→(zbl s l bx).1=[]):=by
 obtain ⟨h1,h2,h3⟩:=zrP s l bx 0
 unfold zbl
 split
 ·split
  ·exact ⟨by simp,by simp,fun _=>rfl⟩
  ·exact ⟨fun j hj=>by have:=h1 j hj;simp at this;omega,by omega,h3⟩
 ·exact ⟨by simp,by simp,fun _=>rfl⟩
theorem zxB (s:ChShop) (b:ChBooks) (ex:List PV) (n:Nat) (hb:BkOk s b n):zap Tryz.prog 116 [.ptr 2 1 0 0] (B7 s b ex) (zfz s b ex (act s b .look)):=by
 obtain ⟨k1,k2,k3⟩:=zzZ s.hour b.tests b.boxes hb.boxes
 refine za4 zad (fn:=Tryz.f116) (n:=32) (rs:=[.tmp 2]) (by kernel_rfl) rfl rfl rfl zKq (Nat.le_of_ble_eq_true rfl) ?_
 simp only [ChShop.cells,go_sem,simprocAttr]
 refine zE3 (zDB s.hour b.tests b.boxes) ?_ ?_
 ·simp only [go_sem,simprocAttr]
 by_cases h0:(zbl s.hour b.tests b.boxes).1=[]
 ·have hv:zed (zbl s.hour b.tests b.boxes)=.nilslice∨zed (zbl s.hour b.tests b.boxes)=.slice 1 [] false:=by
   unfold zed
   split
   ·exact .inr (by rw [h0];rfl)
   ·exact .inl rfl
  have ha:act s b .look=.ok (b,wOk):=by rw [act,if_pos h0]
  rcases hv with hv | hv
  all_goals (
   simp only [hv,go_sem,simprocAttr]
   exact zdX ha [] (List.append_nil _).symm)
 ·have h2:(zbl s.hour b.tests b.boxes).2=0:=Classical.byContradiction fun h=>h0 (k3 h)
  have hv:zed (zbl s.hour b.tests b.boxes)=.slice 1 ((zbl s.hour b.tests b.boxes).1.map zay) false:=by rw [zed,if_pos h2];rfl
  have ha:act s b .look=.ok (b,joinL (znq::(zbl s.hour b.tests b.boxes).1.map dec)):=by rw [act,if_neg h0]
  have hlen:(((zbl s.hour b.tests b.boxes).1.length:Int)==0)=false:=by
   rw [beq_eq_false_iff_ne]
   intro h
   exact h0 (List.eq_nil_of_length_eq_zero (by omega))
  simp only [hv,hlen,go_sem,simprocAttr]
  have hs:=zix [.s znq,.ns (zbl s.hour b.tests b.boxes).1] true (by simp) (fun w hw=>by
   simp only [List.mem_cons,List.not_mem_nil,or_false] at hw
   rcases hw with rfl | rfl
   ·show (6:Nat)≤1000;decide
   ·exact ⟨k2,k1⟩)
  refine zab hs rfl ?_
  simp only [go_sem,simprocAttr]
  exact zdX (a:=joinL ([Word.s znq,.ns (zbl s.hour b.tests b.boxes).1].flatMap Word.ws)) (by simpa [Word.ws] using ha) [] (List.append_nil _).symm
end Ch
end Abs
end Go.Proofs.YtahlnclapingiaaGreatDoor
namespace Go.Proofs.YtahlnclapingiaaGreatDoor
namespace Abs
theorem znL {c:UInt8}:∀ {a:List UInt8} (b:List UInt8),c∉a→zav c (a++c::b)=(a,some b)
 |[],b,_=>by simp [zav]
 |x::a,b,h=>by
  have hx:¬ x=c:=fun e=>h (by simp [e])
  have ih:=znL (a:=a) b (fun hm=>h (List.mem_cons_of_mem _ hm))
  rw [List.cons_append,zav,if_neg hx,ih]
theorem zww {c:UInt8}:∀ {a:List UInt8},c∉a→zav c a=(a,none)
 |[],_=>rfl
 |x::a,h=>by
  have hx:¬ x=c:=fun e=>h (by simp [e])
  have ih:=zww (a:=a) (fun hm=>h (List.mem_cons_of_mem _ hm))
  rw [zav,if_neg hx,ih]
theorem zf3 {c:UInt8} {a:List UInt8} (b:List UInt8) (h:c∉a):zaC c (a++c::b)=a::zaC c b:=by
 have h1:=znL b h
 rw [zgH (r:=b) (by rw [h1]),h1]
theorem zmw {c:UInt8} {a:List UInt8} (h:c∉a):zaC c a=[a]:=zgI (by rw [zww h])
theorem zwW (c:UInt8) (l:List UInt8):zir c (l++[c])=l:=by simp [zir]
theorem zmL:∀ (l:List UInt8) (last:Int),zgb l last=true→∀ c,c∈l→c.toNat=45∨(97≤c.toNat∧c.toNat≤122)
 |[],_,_,c,h=>by cases h
 |x::l,last,h,c,hc=>by
  rw [zgb] at h
  split at h
  ·cases h
  ·rename_i hb
   rcases List.mem_cons.1 hc with rfl | hc
   ·simp [zqZ] at hb
    omega
   ·exact zmL l _ h c hc
theorem zDz {b:ByteArray} (h:nameOk b=true):(10:UInt8)∉b.data.toList∧(32:UInt8)∉b.data.toList:=by
 unfold nameOk at h
 rw [Bool.and_eq_true] at h
 have:=zmL _ _ h.1
 refine ⟨fun hm=>?_,fun hm=>?_⟩
 ·have:=this _ hm;simp at this
 ·have:=this _ hm;simp at this
theorem zk5 (n:Int):(10:UInt8)∉dec n∧(32:UInt8)∉dec n:=by
 have:=zpS n.toNat
 refine ⟨fun hm=>?_,fun hm=>?_⟩
 ·have:=this _ hm;simp at this
 ·have:=this _ hm;simp at this
def zfS (m:HrMark):List UInt8:=dec m.minute++32::dec m.weight
def zgt:List HrMark→List UInt8
 |[]=>[]
 |[m]=>zfS m
 |m::q::r=>zfS m++10::zgt (q::r)
theorem zru (m:HrMark):zfq m=zfS m++[10]:=by simp [zfq,zfS,sp,nl]
theorem znu (m:HrMark):(10:UInt8)∉zfS m:=by
 have h1:=zk5 m.minute
 have h2:=zk5 m.weight
 simp [zfS,h1.1,h2.1]
theorem zrF:∀ (l:List HrMark),l≠[]→(l.map zfq).flatten=zgt l++[10]
 |[],h=>absurd rfl h
 |[m],_=>by simp [zgt,zru]
 |m::q::r,_=>by
  have ih:=zrF (q::r) (by simp)
  rw [List.map_cons,List.flatten_cons,ih,zru,zgt]
  simp
theorem zo9:∀ (l:List HrMark),l≠[]→zaC 10 (zgt l)=l.map zfS
 |[],h=>absurd rfl h
 |[m],_=>by rw [zgt,zmw (znu m)];rfl
 |m::q::r,_=>by
  have ih:=zo9 (q::r) (by simp)
  rw [zgt,zf3 _ (znu m),ih];rfl
theorem zmi:∀ (l:List HrMark),l≠[]→zaC 10 (zgt l++[10])=l.map zfS++[[]]
 |[],h=>absurd rfl h
 |[m],_=>by rw [zgt,zf3 [] (znu m)];rfl
 |m::q::r,_=>by
  have ih:=zmi (q::r) (by simp)
  rw [zgt,List.append_assoc,List.cons_append,zf3 _ (znu m),ih];rfl
theorem zD7 (m:HrMark):zav 32 (zfS m)=(dec m.minute,some (dec m.weight)):=znL _ (zk5 _).2
theorem zyD (m:HrMark):zaC 32 (zfS m)=[dec m.minute,dec m.weight]:=by
 rw [zfS,zf3 _ (zk5 _).2,zmw (zk5 _).2]
theorem zvh {m:HrMark} (h:0≤m.minute∧m.minute≤1000000∧0≤m.weight∧m.weight≤10000000):zbN (zfS m)=some m:=by
 simp only [zbN,zD7,zoA h.1 (by omega),zoA h.2.2.1 h.2.2.2]
theorem znX:∀ (l acc:List HrMark),(∀ m,m∈l→0≤m.minute∧m.minute≤1000000∧0≤m.weight∧m.weight≤10000000)→zci acc (l.map zfS)=some (acc++l)
 |[],acc,_=>by simp [zci]
 |m::l,acc,h=>by
  rw [List.map_cons,zci,zvh (h m (by simp))]
  dsimp only
  rw [znX l _ fun q hq=>h q (by simp [hq])]
  simp
theorem zoz {n:Int} (h0:0≤n) (h1:n≤10000000):zti (dec n)=n:=by
 obtain ⟨m,rfl⟩:=Int.eq_ofNat_of_zero_le h0
 have hl:=zie h0 h1
 have hne:(dec (m:Int)).length≠0:=fun h=>zm8 (m:Int).toNat (List.length_eq_zero_iff.1 h)
 have hg:gIn ((dec (m:Int)).length:Int) 1 8=true:=by simp [gIn];omega
 have hf:Lib.decFrom 0 (dec (m:Int))=some m:=by unfold dec;rw [Int.toNat_natCast];exact zoc m
 rw [zti,hg,hf]
 rfl
theorem zpw (nm:ByteArray):∀ (l:List HrKind) (i:Nat) (acc:Int),(∀ k,k∈l→¬ k.name=nm)→zhk nm l i acc=acc
 |[],_,_,_=>rfl
 |k::r,i,acc,h=>by
  have hk:(k.name==nm)=false:=Bool.eq_false_iff.2 fun he=>h k (by simp) ((zks _ _).1 he)
  rw [zhk,hk]
  exact zpw nm r _ _ fun q hq=>h q (by simp [hq])
theorem zpx (nm:ByteArray):∀ (a:List HrKind) (k:HrKind) (r:List HrKind) (i:Nat) (acc:Int),k.name=nm→(∀ q,q∈r→¬ q.name=nm)→zhk nm (a++k::r) i acc=((i+a.length:Nat):Int)
 |[],k,r,i,acc,h1,h2=>by
  have hk:(k.name==nm)=true:=(zks _ _).2 h1
  rw [List.nil_append,zhk,hk,zpw nm r _ _ h2]
  simp
 |x::a,k,r,i,acc,h1,h2=>by
  rw [List.cons_append,zhk,zpx nm a k r _ _ h1 h2]
  simp;omega
theorem zwn {α:Type} (p:α→Bool):∀ (a:List α) (k:α) (r:List α) (i:Nat),p k=true→(∀ q,q∈a→p q=false)→zam p (a++k::r) i=((i+a.length:Nat):Int)
 |[],k,r,i,h1,_=>by simp [zam,h1]
 |x::a,k,r,i,h1,h2=>by
  rw [List.cons_append,zam,h2 x (by simp)]
  have:=zwn p a k r (i+1) h1 fun q hq=>h2 q (by simp [hq])
  rw [if_neg (by simp),this]
  simp;omega
theorem zxn {s:HrShop} (hc:(hrCheck s).2.2=0) {n:Nat} {k:HrKind} (hk:s.kinds[n]?=some k) :
  s.kinds=s.kinds.take n++k::s.kinds.drop (n+1)∧(s.kinds.take n).length=n∧(∀ q,q∈s.kinds.take n→¬ q.name=k.name)∧∀ q,q∈s.kinds.drop (n+1)→¬ q.name=k.name:=by
 have hl:=(List.getElem?_eq_some_iff.1 hk).1
 have h1:=List.drop_eq_getElem_cons hl
 rw [(List.getElem?_eq_some_iff.1 hk).2] at h1
 refine ⟨by rw [←h1,List.take_append_drop],by rw [List.length_take];omega,fun q hq e=>?_,fun q hq e=>?_⟩
 ·obtain ⟨i,hi⟩:=List.getElem?_of_mem hq
  rw [List.getElem?_take] at hi
  split at hi
  ·rename_i hlt
   have:=zmO hc hi hk e
   omega
  ·cases hi
 ·obtain ⟨i,hi⟩:=List.getElem?_of_mem hq
  rw [List.getElem?_drop] at hi
  have:=zmO hc hi hk e
  omega
theorem zpe (s:HrShop):∀ (l:List HrMark) (k e:Int) (acc:List HrMark),(∀ m,m∈l→0≤m.minute∧m.minute≤1000000∧0≤m.weight∧m.weight≤10000000) →
  znt s false ⟨k,e,acc⟩ (l.map zfS++[[]])=⟨k,e,acc++l⟩
 |[],k,e,acc,_=>by simp [znt]
 |m::l,k,e,acc,h=>by
  have hm:=h m (by simp)
  have ih:=zpe s l k e (acc++[m]) fun q hq=>h q (by simp [hq])
  have hst:zo7 s false ⟨k,e,acc⟩ (zfS m)=⟨k,e,acc++[m]⟩:=by
   simp only [zo7,zyD,zoz hm.1 (show m.minute≤10000000 by omega),zoz hm.2.2.1 hm.2.2.2]
  rw [List.map_cons,List.cons_append]
  cases hr:l.map zfS++[[]] with
  |nil=>simp at hr
  |cons a b =>
   rw [znt,hst,←hr,ih]
   simp
theorem zph {s:HrShop} {t:HrTest} (hc:(hrCheck s).2.2=0) (ht:za6 s.kinds.length t=0):zhy s (ze1 s t)=some t∧zmI s (ze1 s t)=t:=by
 obtain ⟨hok,k0,k1⟩:=zdv ht
 obtain ⟨n,hn⟩:=Int.eq_ofNat_of_zero_le k0
 have hnl:n<s.kinds.length:=by omega
 obtain ⟨k,hk⟩:∃ k,s.kinds[n]?=some k:=⟨_,List.getElem?_eq_getElem hnl⟩
 have hko:=zkm hc (List.mem_of_getElem? hk)
 obtain ⟨n10,n32⟩:=zDz hko.name
 obtain ⟨d10,d32⟩:=zk5 t.error
 have hms:t.marks≠[]:=by intro h;have:=hok.two;rw [h] at this;simp at this
 have htx:ze1 s t=([116,101,115,116]++32::(k.name.data.toList++32::dec t.error))++10::(zgt t.marks++[10]):=by
  rw [ze1,hn,Int.toNat_natCast,hk,Option.map_some,Option.getD_some,zrF _ hms]
  simp [zhF,hdr,sp,nl]
 have hno:(10:UInt8)∉([116,101,115,116]++32::(k.name.data.toList++32::dec t.error)):=by simp [n10,d10]
 have hcut:zav 10 (ze1 s t)=([116,101,115,116]++32::(k.name.data.toList++32::dec t.error),some (zgt t.marks++[10])):=by rw [htx];exact znL _ hno
 have hwd:zaC 32 ([116,101,115,116]++32::(k.name.data.toList++32::dec t.error))=[[116,101,115,116],k.name.data.toList,dec t.error]:=by
  rw [zf3 _ (by decide),zf3 _ n32,zmw d32]
 obtain ⟨s1,s2,s3,s4⟩:=zxn hc hk
 have hid:zjw s.kinds (bs k.name.data.toList)=t.kind:=by
  rw [zp5,zjw,s1,zwn (fun q=>q.name==k.name) _ k _ 0 ((zks _ _).2 rfl) (fun q hq=>Bool.eq_false_iff.2 fun he=>s3 q hq ((zks _ _).1 he)),s2,hn]
  simp
 have hli:zhk (bs k.name.data.toList) s.kinds 0 (-1)=t.kind:=by
  rw [zp5,s1,zpx _ _ k _ 0 _ rfl s4,s2,hn]
  simp
 have hne:=zoA hok.err.1 (by have:=hok.err.2;omega)
 have hnr:=zoz hok.err.1 (by have:=hok.err.2;omega)
 refine ⟨?_,?_⟩
 ·have hw:ziB (ze1 s t)=[[116,101,115,116],k.name.data.toList,dec t.error]:=by rw [ziB,hcut];exact hwd
  have hr:zlA (ze1 s t)=zgt t.marks:=by rw [zlA,hcut];exact zwW _ _
  rw [zhy,hw]
  dsimp only
  rw [hne,hr,zo9 _ hms,znX _ _ hok.all,hid]
  rfl
 ·have hsp:zaC 10 (ze1 s t)=([116,101,115,116]++32::(k.name.data.toList++32::dec t.error))::(t.marks.map zfS++[[]]):=by
   rw [htx,zf3 _ hno,zmi _ hms]
  have hst:zo7 s true ⟨-1,0,[]⟩ ([116,101,115,116]++32::(k.name.data.toList++32::dec t.error))=⟨t.kind,t.error,[]⟩:=by
   simp only [zo7,hwd,hli,hnr]
  rw [zmI,hsp]
  cases hr:t.marks.map zfS++[[]] with
  |nil=>simp at hr
  |cons a b =>
   rw [znt,hst,←hr,zpe s _ _ _ _ hok.all]
   simp
theorem zm1 {s:HrShop} {all:List UInt8} {t:HrTest}:zhO s all t=true↔za6 s.kinds.length t=0∧ze1 s t=all:=by simp [zhO]
theorem ztd (s:HrShop):zba s []=(hrCheck s).2.2:=by
 unfold zba
 split
 ·rename_i h;rw [h];rfl
 ·rfl
theorem zrk (s:HrShop) (all:List UInt8):zaB s all=znI s all:=by
 rw [zaB,znI,ztd]
 split
 ·rename_i hc
  split
  ·rfl
  ·cases hg:zhO s all (zmI s all) with
   |true =>
    obtain ⟨h1,h2⟩:=zm1.1 hg
    have:=(zph hc h1).1
    rw [h2] at this
    rw [this]
    dsimp only
    rw [hg]
   |false =>
    rw [if_neg (by simp)]
    cases hp:zhy s all with
    |none=>rfl
    |some t =>
     dsimp only
     split
     ·rename_i hgt
      obtain ⟨h1,h2⟩:=zm1.1 hgt
      have:=(zph hc h1).2
      rw [h2] at this
      rw [this,hgt] at hg
      cases hg
     ·rfl
 ·rfl
theorem zyL {s:HrShop} {all:List UInt8} (h:(zaB s all).2=0):(hrCheck s).2.2=0∧za6 s.kinds.length (zaB s all).1=0∧ze1 s (zaB s all).1=all:=by
 rw [zrk] at h ⊢
 unfold znI at h ⊢
 split at h
 ·rename_i hc
  split at h
  ·cases h
  ·rename_i h3
   split at h
   ·rename_i hg
    rw [if_pos hc,if_neg h3,if_pos hg]
    exact ⟨hc,zm1.1 hg⟩
   ·cases h
 ·contradiction
theorem zAM {s:HrShop} {all:List UInt8} (h:(zaB s all).2≠0):(zaB s all).1=zbH:=by
 rw [zrk] at h ⊢
 unfold znI at h ⊢
 split at h
 ·split at h
  ·rename_i hc h3
   rw [if_pos hc,if_pos h3]
  ·rename_i hc h3
   split at h
   ·exact absurd rfl h
   ·rename_i hg
    rw [if_pos hc,if_neg h3,if_neg hg]
 ·rename_i hc
  rw [if_neg hc]
theorem zlZ:∀ l:List HrMark,(∀ m,m∈l→(zfq m).length≤18)→(l.map zfq).flatten.length≤18*l.length
 |[],_=>by simp
 |m::l,h=>by
  have h1:=h m (by simp)
  have h2:=zlZ l fun q hq=>h q (by simp [hq])
  rw [List.map_cons,List.flatten_cons,List.length_append,List.length_cons]
  omega
end Abs
end Go.Proofs.YtahlnclapingiaaGreatDoor
