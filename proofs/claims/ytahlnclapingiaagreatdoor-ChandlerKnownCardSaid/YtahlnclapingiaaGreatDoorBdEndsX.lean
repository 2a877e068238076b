/-
  CONTRACTS: what a blend melts and shrinks at, what it costs; Value, Made, Weigh, Raise; in
  CONTRACTS: Value, Made, Weigh, Raise, the error of a wish, why a recipe does not fit one, 
  CONTRACTS: why a recipe does not fit a wish, Fits, Made, Weigh; in the program and in the 
  CONTRACTS: Made, in the program and in the reference.
  CONTRACTS: all recipes, those that fit a wish; in the reference; and the program's iterato
  CONTRACTS: the program's iterator over the recipes that fit a wish.
-/
import Derived.Test.YtahlnclapingiaaGreatDoorBdChkX
set_option linter.unusedSimpArgs false
set_option linter.unusedVariables false
namespace Go.Proofs.YtahlnclapingiaaGreatDoor
namespace Abs
set_option maxRecDepth 4000
theorem zEd {of:PV} (i:Int) (p:BdWax×Int) (v:Int) (h:App Tryz.prog of [zbu p] (.int .i64 v)):zae Tryz.prog 360 [.int .i64 i,zbu p,.ptr 1 [of] 0 0] (.int .i64 v):=by
 refine zaa zad (fn:=Tryz.f360) (n:=9) (rs:=[.tmp 5]) (by kernel_rfl) rfl rfl rfl zIi (Nat.le_of_ble_eq_true rfl) ?_
 obtain ⟨g,first,cap,rfl,hc⟩:=h
 simp only [go_sem,simprocAttr]
 refine zab hc (by simp [zbu]) ?_
 simp only [go_sem,simprocAttr]
theorem zk7 {of:PV} (ps:Ps) (f:BdWax×Int→Int) (b:Bool) (hl:ps.length≤5) (hof:∀ p,p∈ps→App Tryz.prog of [zbu p] (.int .i64 (f p))∧-1000000000≤f p∧f p≤1000000000) (hne:∃ g first cap,of=.func (.func g) first cap) :
  zae Tryz.prog 314 [.slice 8 (ps.map zbu) b,of] (.int .i64 (zbE f ps)):=by
 refine zaa zad (fn:=Tryz.f314) (n:=8) (rs:=[.tmp 4]) (by kernel_rfl) rfl rfl rfl zIH (Nat.le_of_ble_eq_true rfl) ?_
 obtain ⟨g,first,cap,rfl⟩:=hne
 simp only [go_sem,simprocAttr]
 refine zaO (zED (fv:=.func (.func 360) [] [.ptr 1 [.func (.func g) first cap] 0 0]) ps (fun _ p=>f p) b 8 rfl (by omega) fun i p hi=>⟨⟨_,_,_,rfl,zEd i p _ (hof p (List.mem_of_getElem? hi)).1⟩,(hof p (List.mem_of_getElem? hi)).2⟩) ?_ (.int _ _) ?_
 ·simp only [go_sem,simprocAttr]
 ·simp only [go_sem,simprocAttr]
  rw [zvY];rfl
theorem zqM (ps:Ps) (b:Bool) (h:PsOk ps):zae Tryz.prog 314 [.slice 8 (ps.map zbu) b,.func (.func 398) [] []] (.int .i64 (zbE zgw ps)) :=
 zk7 ps zgw b h.len (fun p hp=>⟨⟨_,_,_,rfl,zsj p (h.wax p hp)⟩,by have:=zcc (h.wax p hp);omega⟩) ⟨_,_,_,rfl⟩
theorem zqN (ps:Ps) (b:Bool) (h:PsOk ps):zae Tryz.prog 314 [.slice 8 (ps.map zbu) b,.func (.func 399) [] []] (.int .i64 (zbE zgx ps)) :=
 zk7 ps zgx b h.len (fun p hp=>⟨⟨_,_,_,rfl,zsk p (h.wax p hp)⟩,by have:=zcc (h.wax p hp);omega⟩) ⟨_,_,_,rfl⟩
theorem zt3 (ps:Ps) (b:Bool) (h:PsOk ps):zae Tryz.prog 314 [.slice 8 (ps.map zbu) b,.func (.func 400) [] []] (.int .i64 (zbE zgj ps)) :=
 zk7 ps zgj b h.len (fun p hp=>⟨⟨_,_,_,rfl,zvv p (h.wax p hp)⟩,by have:=zcc (h.wax p hp);omega⟩) ⟨_,_,_,rfl⟩
theorem zvr (ps:Ps) (b:Bool) (h:PsOk ps):zae Tryz.prog 314 [.slice 8 (ps.map zbu) b,.func (.func 401) [] []] (.int .i64 (zbE zhQ ps)) :=
 zk7 ps zhQ b h.len (fun p hp=>⟨⟨_,_,_,rfl,zxO p (h.wax p hp)⟩,by have:=zcc (h.wax p hp);omega⟩) ⟨_,_,_,rfl⟩
theorem znb (ps:Ps) (b:Bool) (h:PsOk ps):zae Tryz.prog 314 [.slice 8 (ps.map zbu) b,.func (.func 316) [] []] (.int .i64 (zbE zfa ps)) :=
 zk7 ps zfa b h.len (fun p hp=>⟨⟨_,_,_,rfl,zvu p (h.wax p hp)⟩,by have:=zcc (h.wax p hp);omega⟩) ⟨_,_,_,rfl⟩
theorem zt2 (ps:Ps) (b:Bool) (h:PsOk ps):zae Tryz.prog 314 [.slice 8 (ps.map zbu) b,.func (.func 402) [] []] (.int .i64 (zbE zdG ps)) :=
 zk7 ps zdG b h.len (fun p hp=>⟨⟨_,_,_,rfl,zvt p (h.wax p hp)⟩,by have:=zcc (h.wax p hp);omega⟩) ⟨_,_,_,rfl⟩
theorem zvX {ps:Ps} (h:PsOk ps):(0≤zbE zgw ps∧zbE zgw ps≤200000)∧(0≤zbE zgx ps∧zbE zgx ps≤200000)∧(0≤zbE zgj ps∧zbE zgj ps≤100000)∧(0≤zbE zhQ ps∧zbE zhQ ps≤100000)∧(0≤zbE zfa ps∧zbE zfa ps≤10000000)∧-30000≤zbE zdG ps∧zbE zdG ps≤30000:=by
 have hl:=h.len
 have key:∀ (f:BdWax×Int→Int) (b:Int),0≤b→(∀ p,p∈ps→0≤f p∧f p≤b)→0≤zbE f ps∧zbE f ps≤5*b:=fun f b hb hf=>by
  have h1:=zqm hf
  have h2:=(zra (f:=f) hl hb fun p hp=>by have:=hf p hp;omega).2
  omega
 refine ⟨key _ 40000 (by omega) fun p hp=>(zcc (h.wax p hp)).1,key _ 40000 (by omega) fun p hp=>(zcc (h.wax p hp)).2.1,key _ 20000 (by omega) fun p hp=>(zcc (h.wax p hp)).2.2.1,key _ 20000 (by omega) fun p hp=>(zcc (h.wax p hp)).2.2.2.1,key _ 2000000 (by omega) fun p hp=>(zcc (h.wax p hp)).2.2.2.2.1,?_⟩
 exact zra (b:=6000) hl (by omega) fun p hp=>(zcc (h.wax p hp)).2.2.2.2.2
def zkl (ps:Ps):Span:=⟨zbE zgw ps+zbE zdG ps,zbE zgx ps+zbE zdG ps⟩
def ze7 (ps:Ps):Span:=⟨zbE zgj ps,zbE zhQ ps⟩
set_option maxHeartbeats 1000000 in
theorem znQ (ps:Ps) (b:Bool) (h:PsOk ps):zae Tryz.prog 390 [.slice 8 (ps.map zbu) b] (.tuple [(zkl ps).pv,(ze7 ps).pv]):=by
 refine zaa zad (fn:=Tryz.f390) (n:=34) (rs:=[.cell 2 30,.cell 3 30]) (by kernel_rfl) rfl rfl rfl zH0 (Nat.le_of_ble_eq_true rfl) ?_
 have hb:=zvX h
 have w1:IntKind.i64.wrap (zbE zgw ps+zbE zdG ps)=zbE zgw ps+zbE zdG ps:=zaj (by omega) (by omega)
 have w2:IntKind.i64.wrap (zbE zgx ps+zbE zdG ps)=zbE zgx ps+zbE zdG ps:=zaj (by omega) (by omega)
 simp only [zCj,zal,go_sem,simprocAttr]
 refine zaR ?_
 simp only [go_sem,simprocAttr]
 refine zab (zqM ps b h) rfl ?_
 simp only [go_sem,simprocAttr]
 refine zaR ?_
 simp only [go_sem,simprocAttr]
 refine zab (zqN ps b h) rfl ?_
 simp only [go_sem,simprocAttr]
 refine zaR ?_
 simp only [go_sem,simprocAttr]
 refine zab (zt3 ps b h) rfl ?_
 simp only [go_sem,simprocAttr]
 refine zaR ?_
 simp only [go_sem,simprocAttr]
 refine zab (zvr ps b h) rfl ?_
 simp only [go_sem,simprocAttr]
 refine zaR ?_
 simp only [go_sem,simprocAttr]
 refine zab (zt2 ps b h) rfl ?_
 simp only [go_sem,simprocAttr]
 refine zaR ?_
 simp only [zCj,zal,w1,w2,zkl,ze7,go_sem,simprocAttr]
end Abs
end Go.Proofs.YtahlnclapingiaaGreatDoor
namespace Go.Proofs.YtahlnclapingiaaGreatDoor
namespace Abs
set_option maxRecDepth 4000
theorem zqi {α β γ:Type} (f:α→γ) {l:List α} {r:List β} (h:r.length=l.length):((l.zip r).map fun p=>f p.1)=l.map f:=by
 rw [show (fun p:α×β=>f p.1)=f∘Prod.fst from rfl,←List.map_map,List.map_fst_zip (by omega)]
theorem zqh {α β γ:Type} (f:β→γ) {l:List α} {r:List β} (h:r.length=l.length):((l.zip r).map fun p=>f p.2)=r.map f:=by
 rw [show (fun p:α×β=>f p.2)=f∘Prod.snd from rfl,←List.map_map,List.map_snd_zip (by omega)]
theorem zlC {l:List BdWax} {r:List Int} (hl:BdWaxesOk l) (hr:∀ n,n∈r→0≤n∧n≤20):PsOk (l.zip r):=by
 refine ⟨by have:=hl.len;simp;omega,fun p hp=>?_⟩
 obtain ⟨x,n⟩:=p
 obtain ⟨h1,h2⟩:=List.of_mem_zip hp
 exact ⟨hl.wax x h1,hr n h2⟩
theorem zwG {l:List BdWax} {r:List Int} (b1 b2:Bool) (hl:BdWaxesOk l) (hlen:r.length=l.length):zae Tryz.prog 315 [.slice 7 (l.map BdWax.pv) b1,.slice 1 (r.map zay) b2] (zjz (l.zip r)):=by
 have h:=zGP (l.zip r) b1 b2 (by have:=hl.len;simp;omega)
 rwa [zqi BdWax.pv hlen,zqh zay hlen] at h
theorem zwd {l:List BdWax} (h:BdWaxesOk l):IntKind.i64.wrap ((l.length:Int)-1)=(l.length:Int)-1:=zaj (by omega) (by have:=h.len;omega)
def lvl (a b:Bool):Int:=if a=true then 7 else if b=true then 2 else 0
def zjt (w:BdWish):Bool:=!(inS w.melt 0 2000&&inS w.shrink 0 1000)
def zgo (w:BdWish):Bool:=zaJ w.melt||zaJ w.shrink
def zew (l:List BdWax) (w:BdWish):Int :=
 if bdE l=0 then
  if w.parts.length=l.length then lvl (zjt w||w.parts.any fun s=>!inS s 0 20) (zgo w||w.parts.any zaJ)
  else 3
 else bdE l
structure WishOk (m:Nat) (w:BdWish):Prop where
 len:w.parts.length=m
 melt:0≤w.melt.lo∧w.melt.lo≤w.melt.hi∧w.melt.hi≤2000
 shrink:0≤w.shrink.lo∧w.shrink.lo≤w.shrink.hi∧w.shrink.hi≤1000
 parts:∀ s,s∈w.parts→0≤s.lo∧s.lo≤s.hi∧s.hi≤20
theorem zq7 {l:List BdWax} {w:BdWish} (h:zew l w=0):BdWaxesOk l∧WishOk l.length w:=by
 unfold zew at h
 split at h
 ·rename_i he
  split at h
  ·rename_i hl
   refine ⟨zng he,?_⟩
   unfold lvl at h
   split at h
   ·cases h
   ·rename_i ho
    split at h
    ·cases h
    ·rename_i ht
     simp [zjt,zgo,inS,gIn,zaJ] at ho ht
     refine ⟨hl,by omega,by omega,fun s hs=>?_⟩
     have:=ho.2 s hs
     have:=ht.2 s hs
     omega
  ·cases h
 ·rename_i he;exact absurd h he
theorem zGA (l:List BdWax) (w:BdWish):zae Tryz.prog 312 [zdt l,w.pv] (.int .i64 (zew l w)):=by
 refine zaa zad (fn:=Tryz.f312) (n:=90) (rs:=[.tmp 4]) (by kernel_rfl) rfl rfl rfl zIJ (Nat.le_of_ble_eq_true rfl) ?_
 simp only [go_sem,simprocAttr]
 (first | refine zab (zoQ l) rfl ?_ | refine zau (zoQ l) rfl ?_)
 simp only [zat,go_sem,simprocAttr]
 refine zaH (fun he=>?_) (fun he=>?_)
 ·have he':¬ bdE l=0:=by simpa [bdE] using he
  simp only [zew,if_neg he',go_sem,simprocAttr]
  rfl
 have he':bdE l=0:=by simpa [bdE] using he
 have hok:=(zng he').len
 simp only [go_sem,simprocAttr]
 refine zaH (fun hb=>?_) (fun hb=>?_)
 ·have:¬ (w.parts.length=l.length):=by simp [bne] at hb;omega
  simp only [zew,if_pos he',if_neg this,go_sem,simprocAttr]
 have hlen:w.parts.length=l.length:=by simp [bne] at hb;omega
 have hspec:zew l w=lvl (zjt w||w.parts.any fun s=>!inS s 0 20) (zgo w||w.parts.any zaJ):=by rw [zew,if_pos he',if_pos hlen]
 rw [hspec]
 have ho:zjt w=!(gIn w.melt.lo 0 2000&&gIn w.melt.hi 0 2000&&(gIn w.shrink.lo 0 1000&&gIn w.shrink.hi 0 1000)):=rfl
 have ht:zgo w=(decide (w.melt.hi<w.melt.lo)||decide (w.shrink.hi<w.shrink.lo)):=rfl
 simp only [go_sem,simprocAttr]
 cases ht1:decide (w.melt.hi<w.melt.lo)
 all_goals
  rw [ht1] at ht
  simp only [Bool.true_or,Bool.false_or] at ht
  simp only [ht1,go_sem,simprocAttr]
  (first | refine zab (zeU 0 2000 [_,_] true (by simp)) rfl ?_ | refine zau (zeU 0 2000 [_,_] true (by simp)) rfl ?_)
  simp only [List.any_cons,List.any_nil,Bool.or_false,←Bool.not_and,go_sem,simprocAttr]
  cases ho1:(gIn w.melt.lo 0 2000&&gIn w.melt.hi 0 2000)
 all_goals
  rw [ho1] at ho
  simp only [Bool.true_and,Bool.false_and,Bool.not_false] at ho
  simp only [ho1,go_sem,simprocAttr]
  try
   (first | refine zab (zeU 0 1000 [_,_] true (by simp)) rfl ?_ | refine zau (zeU 0 1000 [_,_] true (by simp)) rfl ?_)
   simp only [List.any_cons,List.any_nil,Bool.or_false,←Bool.not_and,←ho,go_sem,simprocAttr]
  refine zbb [62,63] w.parts (by omega) (τ:=Bool×Bool) (fun done rest q=>(zjt w||w.parts.any fun s=>!inS s 0 20)=(q.1||rest.any fun s=>!inS s 0 20)∧(zgo w||w.parts.any zaJ)=(q.2||rest.any zaJ))
   (fun done q=>[(64,.p (.int .i64 done.length)),(8,.p (.bool q.2)),(9,.p (.bool q.1))]) (fun _ _=>[.row 5 [.p w.pv]]) (zjt w,zgo w) ⟨rfl,rfl⟩ ?_ ?_ ?_
  ·simp only [ho,ht,go_sem,simprocAttr]<;>simp
  ·rintro ⟨a,b⟩ ⟨g1,g2⟩
   dsimp only at g1 g2
   rw [g1,g2]
   cases a<;>cases b<;>simp only [List.any_nil,lvl,go_sem,simprocAttr]
  ·rintro done x r ⟨a,b⟩ e1 ⟨g1,g2⟩ hx hlt hnx
   dsimp only at g1 g2
   rw [List.any_cons] at g1 g2
   cases a<;>cases b<;>simp only [hlt,hx,go_sem,simprocAttr]
   all_goals
    try
     (first | refine zab (zeU 0 20 [_,_] true (by simp)) rfl ?_ | refine zau (zeU 0 20 [_,_] true (by simp)) rfl ?_)
     simp only [List.any_cons,List.any_nil,Bool.or_false,←Bool.not_and,go_sem,simprocAttr]
    first
     |(refine zaA e1 (!inS x 0 20,zaJ x) ⟨by simpa using g1,by simpa using g2⟩ ?_
       simp only [hnx,inS,zaJ,go_sem,simprocAttr];done)
     |(refine zaA e1 (!inS x 0 20,true) ⟨by simpa using g1,by simpa using g2⟩ ?_
       simp only [hnx,inS,zaJ,go_sem,simprocAttr];done)
     |(refine zaA e1 (true,zaJ x) ⟨by simpa using g1,by simpa using g2⟩ ?_
       simp only [hnx,inS,zaJ,go_sem,simprocAttr];done)
     |(refine zaA e1 (true,true) ⟨by simpa using g1,by simpa using g2⟩ ?_
       simp only [hnx,inS,zaJ,go_sem,simprocAttr])
end Abs
end Go.Proofs.YtahlnclapingiaaGreatDoor
namespace Go.Proofs.YtahlnclapingiaaGreatDoor
namespace Abs
set_option maxRecDepth 4000
def zh6 (w:BdWish) (r:List Int):Bool:=(r.zip w.parts).any fun q=>!gIn q.1 q.2.lo q.2.hi
def zfi (l:List BdWax) (w:BdWish) (r:List Int):Int :=
 if zh6 w r=true then 1
 else if (zkl (l.zip r)).lo<20*w.melt.lo then 2
 else if 20*w.melt.hi<(zkl (l.zip r)).hi then 3
 else if (ze7 (l.zip r)).lo<20*w.shrink.lo∨20*w.shrink.hi<(ze7 (l.zip r)).hi then 4
 else 0
theorem zK1 {l:List BdWax} {w:BdWish} {r:List Int} (b:Bool) (hl:BdWaxesOk l) (hw:WishOk l.length w) (hlen:r.length=l.length) (hr:∀ n,n∈r→0≤n∧n≤20) :
  zae Tryz.prog 358 [zdt l,w.pv,.slice 1 (r.map zay) b] (.int .i64 (zfi l w r)):=by
 refine zaa zad (fn:=Tryz.f358) (n:=74) (rs:=[.tmp 6]) (by kernel_rfl) rfl rfl rfl zIk (Nat.le_of_ble_eq_true rfl) ?_
 have hl5:=hl.len
 have hwl:=hw.len
 have m1:IntKind.i64.wrap (20*w.melt.lo)=20*w.melt.lo:=zaj (by have:=hw.melt;omega) (by have:=hw.melt;omega)
 have m2:IntKind.i64.wrap (20*w.melt.hi)=20*w.melt.hi:=zaj (by have:=hw.melt;omega) (by have:=hw.melt;omega)
 have m3:IntKind.i64.wrap (20*w.shrink.lo)=20*w.shrink.lo:=zaj (by have:=hw.shrink;omega) (by have:=hw.shrink;omega)
 have m4:IntKind.i64.wrap (20*w.shrink.hi)=20*w.shrink.hi:=zaj (by have:=hw.shrink;omega) (by have:=hw.shrink;omega)
 have hz1:((r.zip w.parts).map fun q=>q.1)=r:=by have:=zqi (fun x=>x) (l:=r) (r:=w.parts) (by omega);simpa using this
 have hz2:((r.zip w.parts).map fun q=>q.2)=w.parts:=by have:=zqh (fun x=>x) (l:=r) (r:=w.parts) (by omega);simpa using this
 have hzl:(r.zip w.parts).length=r.length:=by simp;omega
 simp only [go_sem,simprocAttr]
 refine zbb [0,2,4,11,12] (r.zip w.parts) (by omega) (τ:=Unit) (fun done rest _=>zh6 w r=rest.any fun q=>!gIn q.1 q.2.lo q.2.hi) (fun done _=>[(13,.p (.int .i64 done.length))]) (fun _ _=>[.row 5 [.p w.pv]]) () rfl ?_ ?_ ?_
 ·simp only [go_sem,simprocAttr]<;>simp
 ·intro _ e2
  have e2':zh6 w r=false:=by rw [e2];rfl
  have g1:¬ ((r.zip w.parts).length:Int)<(r.length:Int):=by omega
  have g2:¬ ((r.zip w.parts).length:Int)<(l.length:Int):=by omega
  simp only [g1,g2,go_sem,simprocAttr]
  first
   |(first | refine zab (zwG false b hl hlen) rfl ?_ | refine zau (zwG false b hl hlen) rfl ?_)
    simp only [go_sem,simprocAttr]
    (first | refine zab (znQ (l.zip r) false (zlC hl hr)) rfl ?_ | refine zau (znQ (l.zip r) false (zlC hl hr)) rfl ?_)
   |(first | refine zab (znQ false b hl hlen hr) rfl ?_ | refine zau (znQ false b hl hlen hr) rfl ?_)
  simp only [m1,m2,m3,m4,go_sem,simprocAttr]
  refine zaH (fun h1=>?_) (fun h1=>?_)
  ·have h1':(zkl (l.zip r)).lo<20*w.melt.lo:=by simpa using h1
   simp only [zfi,e2',if_pos h1',go_sem,simprocAttr]
  have h1':¬ (zkl (l.zip r)).lo<20*w.melt.lo:=by simpa using h1
  simp only [m1,m2,m3,m4,go_sem,simprocAttr]
  refine zaH (fun h2=>?_) (fun h2=>?_)
  ·have h2':20*w.melt.hi<(zkl (l.zip r)).hi:=by simpa using h2
   simp only [zfi,e2',if_neg h1',if_pos h2',go_sem,simprocAttr]
  have h2':¬ 20*w.melt.hi<(zkl (l.zip r)).hi:=by simpa using h2
  simp only [m1,m2,m3,m4,go_sem,simprocAttr]
  cases h3:decide ((ze7 (l.zip r)).lo<20*w.shrink.lo)
  ·simp only [m1,m2,m3,m4,h3,go_sem,simprocAttr]
   refine zaH (fun h4=>?_) (fun h4=>?_)
   ·have h4':(ze7 (l.zip r)).lo<20*w.shrink.lo∨20*w.shrink.hi<(ze7 (l.zip r)).hi:=.inr (by simpa using h4)
    simp only [zfi,e2',if_neg h1',if_neg h2',if_pos h4',go_sem,simprocAttr]
   ·have h4':¬ ((ze7 (l.zip r)).lo<20*w.shrink.lo∨20*w.shrink.hi<(ze7 (l.zip r)).hi):=by simp at h3 h4;omega
    simp only [zfi,e2',if_neg h1',if_neg h2',if_neg h4',go_sem,simprocAttr]
  ·have h4':(ze7 (l.zip r)).lo<20*w.shrink.lo∨20*w.shrink.hi<(ze7 (l.zip r)).hi:=.inl (by simpa using h3)
   simp only [h3,zfi,e2',if_neg h1',if_neg h2',if_pos h4',go_sem,simprocAttr]
 ·intro done x rest _ e1 e2 hx hlt hnx
  have g1:(done.length:Int)<(r.length:Int):=by omega
  have g2:(done.length:Int)<(l.length:Int):=by omega
  have g3:(done.length:Int)<(w.parts.length:Int):=by omega
  have x1:r[done.length]?=some x.1:=by rw [←hz1,List.getElem?_map,hx];rfl
  have x2:w.parts[done.length]?=some x.2:=by rw [←hz2,List.getElem?_map,hx];rfl
  simp only [g1,g2,g3,x1,x2,go_sem,simprocAttr]
  first
   |(first | refine zab (zeU _ _ [_] true (by simp)) rfl ?_ | refine zau (zeU _ _ [_] true (by simp)) rfl ?_)
   |(first | refine zab (zGD _ _ _) rfl ?_ | refine zau (zGD _ _ _) rfl ?_)
  simp only [List.any_cons,List.any_nil,Bool.or_false,go_sem,simprocAttr]
  cases hg:gIn x.1 x.2.lo x.2.hi
  ·simp only [go_sem,simprocAttr]
   have e2':zh6 w r=true:=by rw [e2,List.any_cons,hg];rfl
   simp only [zfi,e2',go_sem,simprocAttr]
  ·simp only [go_sem,simprocAttr]
   refine zaA e1 () (by rw [e2,List.any_cons,hg];rfl) ?_
   simp only [hnx,go_sem,simprocAttr]
end Abs
end Go.Proofs.YtahlnclapingiaaGreatDoor
namespace Go.Proofs.YtahlnclapingiaaGreatDoor
namespace Abs
set_option maxRecDepth 4000
end Abs
end Go.Proofs.YtahlnclapingiaaGreatDoor
namespace Go.Proofs.YtahlnclapingiaaGreatDoor
namespace Abs
set_option maxRecDepth 4000
def ups (a b:Int):List Int:=(List.range (b+1-a).toNat).map fun (i:Nat)=>a+(i:Int)
theorem zDb (a b:Int):(ups a b).length=(b+1-a).toNat:=by simp [ups]
theorem zDc {a b y:Int} {i:Nat} (h:(ups a b)[i]?=some y):y=a+(i:Int)∧y≤b:=by
 unfold ups at h
 rw [List.getElem?_map,Option.map_eq_some_iff] at h
 obtain ⟨k,h1,rfl⟩:=h
 obtain ⟨h2,h3⟩:=List.getElem?_eq_some_iff.1 h1
 simp at h2 h3
 subst h3
 exact ⟨rfl,by omega⟩
theorem zny {a b y:Int}:y∈ups a b↔a≤y∧y≤b:=by
 unfold ups
 rw [List.mem_map]
 constructor
 ·rintro ⟨i,hi,rfl⟩
  rw [List.mem_range] at hi
  omega
 ·rintro ⟨h1,h2⟩
  exact ⟨(y-a).toNat,by rw [List.mem_range];omega,by omega⟩
def ziZ:Nat→Int→List (List Int)
 |0,left=>[[left]]
 |k+1,left=>(ups 0 left).flatMap fun n=>(ziZ k (left-n)).map (n::·)
theorem zv3:∀ (k:Nat) (left:Int) (r:List Int),0≤left→r∈ziZ k left→r.length=k+1∧(∀ n,n∈r→0≤n∧n≤left)∧r.sum=left
 |0,left,r,h0,h=>by
  simp [ziZ] at h
  subst h
  refine ⟨rfl,fun n hn=>?_,by simp⟩
  simp at hn
  omega
 |k+1,left,r,h0,h=>by
  rw [ziZ,List.mem_flatMap] at h
  obtain ⟨n,hn,h⟩:=h
  rw [List.mem_map] at h
  obtain ⟨t,ht,rfl⟩:=h
  have hn':=zny.1 hn
  obtain ⟨h1,h2,h3⟩:=zv3 k (left-n) t (by omega) ht
  refine ⟨by simp [h1],fun m hm=>?_,by simp [h3];omega⟩
  rcases List.mem_cons.1 hm with rfl | hm
  ·omega
  ·have:=h2 m hm;omega
theorem zn6 (n:Nat) (h:Heap) (m:List AV):∀ l:List PV,zaD (zbe n h) (l.map .p++m)=(zaD (zbe n h) m).map (l++·)
 |[]=>by cases hf:zaD (zbe n h) m<;>simp [hf]
 |x::r=>by
  rw [List.map_cons,List.cons_append,zaD,zn6 n h m r,zcp]
  cases zaD (zbe n h) m<;>rfl
theorem zyA {α β:Type} (f:α→β) (l:List α) (x:β):(l.map f++[x]).take (l.length+1)=l.map f++[x]:=List.take_of_length_le (by simp)
attribute [go_sem] zn6 zyA
def zFy (ls:List (List Int)):PV:=.slice 1 (ls.map fun r=>.slice 1 (r.map zay) false) false
attribute [go_sem] zFy
def fits (l:List BdWax) (w:BdWish):List (List Int):=(ziZ (l.length-1) 20).filter fun r=>zfi l w r==0
theorem zAJ {l:List BdWax} (hl:BdWaxesOk l) {r:List Int} (h:r∈ziZ (l.length-1) 20):RecOk l.length r:=by
 obtain ⟨h1,h2,h3⟩:=zv3 _ _ _ (by omega) h
 have:=hl.len
 exact ⟨by omega,h2,h3⟩
theorem zoK {l:List BdWax} {w:BdWish} (hl:BdWaxesOk l) {r:List Int} (h:r∈fits l w):RecOk l.length r∧zfi l w r=0:=by
 obtain ⟨h1,h2⟩:=List.mem_filter.1 h
 exact ⟨zAJ hl h1,by simpa using h2⟩
end Abs
end Go.Proofs.YtahlnclapingiaaGreatDoor
namespace Go.Proofs.YtahlnclapingiaaGreatDoor
namespace Abs
set_option maxRecDepth 4000
def zhP (l:List BdWax) (w:BdWish):Nat→List Int→Int→List (List Int)
 |0,pre,left=>if zfi l w (pre++[left])=0 then [pre++[left]] else []
 |k+1,pre,left=>match w.parts[pre.length]? with
  |some s=>(ups s.lo (if s.hi<left then s.hi else left)).flatMap fun n=>zhP l w k (pre++[n]) (left-n)
  |none=>[]
theorem zo2 {a b c:Int} (h1:a≤b+1) (h2:b≤c):ups a c=ups a b++ups (b+1) c:=by
 unfold ups
 obtain ⟨m,hm⟩:∃ m:Nat,(b+1-a).toNat=m:=⟨_,rfl⟩
 obtain ⟨k,hk⟩:∃ k:Nat,(c+1-(b+1)).toNat=k:=⟨_,rfl⟩
 have e:(c+1-a).toNat=m+k:=by omega
 rw [e,hm,hk,List.range_add,List.map_append,List.map_map]
 congr 1
 apply List.map_congr_left
 intro i _
 simp only [Function.comp]
 omega
theorem zyt {a b:Int} (h:b<a):ups a b=[]:=by
 unfold ups
 have:(b+1-a).toNat=0:=by omega
 rw [this];rfl
theorem zlY {α β:Type} {f:α→List β}:∀ {l:List α},(∀ x,x∈l→f x=[])→l.flatMap f=[]
 |[],_=>rfl
 |x::l,h=>by rw [List.flatMap_cons,h x (by simp),zlY fun y hy=>h y (by simp [hy])];rfl
theorem zBh {β:Type} {f:Int→List β} {lo hi left:Int} (h0:0≤lo) (hf:∀ n,n<lo∨hi<n→f n=[]):(ups 0 left).flatMap f=(ups lo (if hi<left then hi else left)).flatMap f:=by
 obtain ⟨m,hm⟩:∃ m,(if hi<left then hi else left)=m:=⟨_,rfl⟩
 have hmh:m≤hi:=by rw [←hm];split<;>omega
 have hml:m≤left:=by rw [←hm];split<;>omega
 have hmx:∀ n,n≤left→m<n→hi<n:=fun n h1 h2=>by rw [←hm] at h2;split at h2<;>omega
 rw [hm]
 rcases Int.lt_or_le m lo with h | h
 ·rw [zyt h]
  exact zlY fun n hn=>by
   have:=zny.1 hn
   by_cases h1:n<lo
   ·exact hf n (.inl h1)
   ·exact hf n (.inr (hmx n this.2 (by omega)))
 ·have e1:ups 0 left=ups 0 (lo-1)++ups lo left:=by have:=zo2 (a:=0) (b:=lo-1) (c:=left) (by omega) (by omega);rwa [Int.sub_add_cancel] at this
  have e2:ups lo left=ups lo m++ups (m+1) left:=zo2 (by omega) hml
  rw [e1,e2,List.flatMap_append,List.flatMap_append,zlY (l:=ups 0 (lo-1)) fun n hn=>hf n (.inl (by have:=zny.1 hn;omega)),
   zlY (l:=ups (m+1) left) fun n hn=>hf n (.inr (by have:=zny.1 hn;exact hmx n this.2 (by omega)))]
  simp
theorem zDt {l:List BdWax} {w:BdWish} {pre t:List Int} {n:Int} {s:Span} (hs:w.parts[pre.length]?=some s) (hn:n<s.lo∨s.hi<n):zfi l w (pre++n::t)=1:=by
 have:zh6 w (pre++n::t)=true:=by
  unfold zh6
  rw [List.any_eq_true]
  refine ⟨(n,s),List.mem_of_getElem? (i:=pre.length) (List.getElem?_zip_eq_some.2 ⟨by simp,hs⟩),?_⟩
  simp [gIn];omega
 rw [zfi,if_pos this]
theorem zwt {l:List BdWax} {w:BdWish} (hw:WishOk l.length w):∀ (k:Nat) (pre:List Int) (left:Int),pre.length+k+1=l.length→zhP l w k pre left=((ziZ k left).map (pre++·)).filter fun r=>zfi l w r==0
 |0,pre,left,h=>by
  rw [zhP,ziZ]
  simp [List.filter_cons]
 |k+1,pre,left,h=>by
  have hlt:pre.length<w.parts.length:=by have:=hw.len;omega
  obtain ⟨s,hs⟩:∃ s,w.parts[pre.length]?=some s:=⟨_,List.getElem?_eq_getElem hlt⟩
  have hsr:=hw.parts s (List.mem_of_getElem? hs)
  rw [zhP,hs,ziZ]
  dsimp only
  have e:∀ n,zhP l w k (pre++[n]) (left-n)=(((ziZ k (left-n)).map (n::·)).map (pre++·)).filter fun r=>zfi l w r==0:=fun n=>by
   rw [zwt hw k (pre++[n]) (left-n) (by simp;omega)]
   simp [Function.comp_def]
  simp only [e]
  have:((((ups 0 left).flatMap fun n=>(ziZ k (left-n)).map (n::·)).map (pre++·)).filter fun r=>zfi l w r==0)=(ups 0 left).flatMap fun n=>(((ziZ k (left-n)).map (n::·)).map (pre++·)).filter fun r=>zfi l w r==0:=by
   rw [List.map_flatMap,List.filter_flatMap]
  rw [this]
  symm
  refine zBh hsr.1 fun n hn=>?_
  rw [List.filter_eq_nil_iff]
  intro r hr
  simp only [List.map_map,List.mem_map,Function.comp] at hr
  obtain ⟨t,_,rfl⟩:=hr
  rw [zDt hs hn]
  decide
theorem zBj {l:List BdWax} {w:BdWish} (hl:BdWaxesOk l) (hw:WishOk l.length w):zhP l w (l.length-1) [] 20=fits l w:=by
 rw [zwt hw _ _ _ (by have:=hl.len;simp;omega)]
 simp [fits]
def znh (l:List BdWax):PV:=.ptr 1 [zdt l] 0 0
def znf (w:BdWish):PV:=.ptr 5 [w.pv] 0 0
attribute [go_sem] znh znf
def zfY (l:List BdWax) (w:BdWish) (n0 id:Nat) (lo:Heap) (cur:List Int) (ext:Heap):Heap :=
 lo++(.row 1 [.ref .yl id]::.row 1 (cur.map fun x=>.p (zay x))::.row 1 [.slice (n0+1) l.length 0 l.length] ::
  .row 1 [.func (.func 357) [] [.p (znh l),.ptr (n0+2) 1 0 0,.p (znf w),.ptr n0 1 0 0,.ptr (n0+3) 1 0 0]]::ext)
theorem zj4 {lo:Heap} {n0:Nat} (h:lo.length=n0) (t:Heap) (j:Nat):(lo++t)[n0+j]?=t[j]?:=by rw [List.getElem?_append_right (by omega)];congr 1;omega
theorem ziU {lo:Heap} {n0:Nat} (h:lo.length=n0) (t:Heap):(lo++t)[n0]?=t[0]?:=zj4 h t 0
theorem zj3 {lo:Heap} {n0:Nat} (h:lo.length=n0) (t:Heap) (j:Nat) (x:AObj):(lo++t).set (n0+j) x=lo++t.set j x:=by
 rw [List.set_append_right _ _ (by omega)];congr 2;omega
theorem zsM {cur pre:List Int} {v c:Int} (h:cur.take pre.length=pre) (hc:cur[pre.length]?=some c):(cur.set pre.length v).take (pre.length+1)=pre++[v]:=by
 have hlt:=(List.getElem?_eq_some_iff.1 hc).1
 rw [List.take_add_one,List.take_set_of_le (by omega),h]
 simp [hlt]
set_option maxHeartbeats 2000000 in
theorem zCP {l:List BdWax} {w:BdWish} (hl:BdWaxesOk l) (hw:WishOk l.length w) {id n0:Nat} {Inv:Nat→Heap→Prop} {Fin:Heap→Prop} {all:List (List Int)}
  (hy:∀ (k:Nat) (xs:List PV) (lo mid:Heap) (j:Nat),(all.map fun r=>r.map zay)[k]?=some xs→Inv k lo→lo.length=n0→mid[j]?=some (.row 1 (xs.map .p)) →
   zkM Tryz.prog id [.slice (j+n0) xs.length 0 xs.length] (lo++mid) (fun r h'=>∃ lo' ext,h'=lo'++mid++ext∧lo'.length=n0 ∧
    ((r=.ret (.p (.bool true))∧Inv (k+1) lo')∨(r=.ret (.p (.bool false))∧Fin lo')))) :
  ∀ (k:Nat) (pre:List Int) (left:Int) (lo:Heap) (cur:List Int) (ext:Heap) (idx:Nat) (tl:List (List Int)),pre.length+k+1=l.length→0≤left→left≤20→(∀ n,n∈pre→0≤n∧n≤20) →
   cur.length=l.length→cur.take pre.length=pre→idx≤all.length→all.drop idx=zhP l w k pre left++tl→lo.length=n0→Inv idx lo →
   zap Tryz.prog 357 [.p (.int .i64 pre.length),.p (.int .i64 left),.p (znh l),.ptr (n0+2) 1 0 0,.p (znf w),.ptr n0 1 0 0,.ptr (n0+3) 1 0 0] (zfY l w n0 id lo cur ext)
    (fun r h'=>∃ lo' cur' ext',h'=zfY l w n0 id lo' cur' ext'∧lo'.length=n0∧((r=.ret (.p (.bool true))∧cur'.length=l.length∧cur'.take pre.length=pre∧∃ idx',idx'≤all.length∧all.drop idx'=tl∧Inv idx' lo') ∨
     (r=.ret (.p (.bool false))∧Fin lo')))
 |0,pre,left,lo,cur,ext,idx,tl,h1,h2,h3,h4,h5,h6,h7,h8,h9,h10=>by
  refine zan zad (fn:=Tryz.f357) (n:=60) (rs:=[.tmp 9]) (by kernel_rfl) rfl rfl rfl zCt (Nat.le_of_ble_eq_true rfl) ?_
  have hl5:=hl.len
  have gg:=zj4 h9
  have g0:=ziU h9
  have ss:=zj3 h9
  have hw1:IntKind.i64.wrap ((l.length:Int)-1)=(l.length:Int)-1:=zwd hl
  have hc:(((pre.length:Nat):Int)==(l.length:Int)-1)=true:=by simp;omega
  obtain ⟨c,hcur⟩:∃ c,cur[pre.length]?=some c:=⟨_,List.getElem?_eq_getElem (by omega)⟩
  have hlt:((pre.length:Nat):Int)<(l.length:Int):=by omega
  have hset:(cur.map fun x=>AV.p (zay x)).set pre.length (.p (zay left))=(cur.set pre.length left).map fun x=>AV.p (zay x):=by rw [List.map_set]
  have hcs:cur.set pre.length left=pre++[left]:=by
   have:=zsM (v:=left) h6 hcur
   rwa [List.take_of_length_le (by simp;omega)] at this
  rw [hcs] at hset
  simp only [zay] at hset
  have hlen:(pre++[left]).length=l.length:=by simp;omega
  have hrng:∀ n,n∈pre++[left]→0≤n∧n≤20:=fun n hn=>by
   rcases List.mem_append.1 hn with hn | hn
   ·exact h4 n hn
   ·simp at hn;omega
  simp only [zfY,gg,g0,ss,hw1,hc,hcur,hlt,h5,hset,go_sem,simprocAttr]
  have htk:((pre++[left]).map zay).take l.length=(pre++[left]).map zay:=List.take_of_length_le (by simp;omega)
  refine zaO (zK1 false hl hw hlen hrng) ?_ (.int _ _) ?_
  ·simp only [gg,g0,hlen,htk,go_sem,simprocAttr]
   exact congrArg (fun x=>PV.slice 1 x false) htk
  simp only [go_sem,simprocAttr]
  rw [zhP] at h8
  cases hb:(zfi l w (pre++[left]) != 0)
  rotate_left
  ·have hb':¬ zfi l w (pre++[left])=0:=by simpa using hb
   rw [if_neg hb',List.nil_append] at h8
   simp only [gg,g0,go_sem,simprocAttr]
   first | exact ⟨lo,pre++[left],ext,rfl,h9,.inl ⟨hlen,by simp,idx,h7,h8,h10⟩⟩ | exact ⟨lo,pre++[left],ext,rfl,h9,hlen,by simp,idx,h7,h8,h10⟩
  have hb':zfi l w (pre++[left])=0:=by simpa using hb
  rw [if_pos hb',List.singleton_append] at h8
  have hidx:all[idx]?=some (pre++[left]):=by rw [←List.head?_drop,h8];rfl
  have hlti:idx<all.length:=(List.getElem?_eq_some_iff.1 hidx).1
  have hdrop:all.drop (idx+1)=tl:=by rw [←List.drop_drop,h8];rfl
  have hyl:=hy idx ((pre++[left]).map zay) lo (.row 1 [.ref .yl id]::.row 1 ((pre++[left]).map fun x=>.p (zay x))::.row 1 [.slice (n0+1) l.length 0 l.length] ::
   .row 1 [.func (.func 357) [] [.p (znh l),.ptr (n0+2) 1 0 0,.p (znf w),.ptr n0 1 0 0,.ptr (n0+3) 1 0 0]]::ext) 1 (by rw [List.getElem?_map,hidx];rfl) h10 h9 (by simp)
  rw [List.length_map,hlen,Nat.add_comm 1 n0] at hyl
  simp only [zay,znh,znf,zdt,BdWish.pv] at hyl
  simp only [gg,g0,go_sem,simprocAttr]
  refine ziV hyl (fun v h' hr=>?_) (fun v h' hr=>?_)
  rotate_left
  ·obtain ⟨_,_,_,_,hr⟩:=hr
   rcases hr with ⟨hr,_⟩ | ⟨hr,_⟩<;>cases hr
  obtain ⟨lo',ext',rfl,k1,hr⟩:=hr
  rcases hr with ⟨hr,k2⟩ | ⟨hr,k2⟩
  ·cases hr
   simp only [go_sem,simprocAttr]
   first | exact ⟨lo',pre++[left],ext++ext',by simp [zfY],k1,.inl ⟨hlen,by simp,idx+1,by omega,hdrop,k2⟩⟩ | exact ⟨lo',pre++[left],ext++ext',by simp [zfY],k1,hlen,by simp,idx+1,by omega,hdrop,k2⟩
  ·cases hr
   simp only [go_sem,simprocAttr]
   first | exact ⟨lo',pre++[left],ext++ext',by simp [zfY],k1,.inr k2⟩ | exact ⟨lo',pre++[left],ext++ext',by simp [zfY],k1,k2⟩
 |k+1,pre,left,lo,cur,ext,idx,tl,h1,h2,h3,h4,h5,h6,h7,h8,h9,h10=>by
  refine zan zad (fn:=Tryz.f357) (n:=60) (rs:=[.tmp 9]) (by kernel_rfl) rfl rfl rfl zCt (Nat.le_of_ble_eq_true rfl) ?_
  have hl5:=hl.len
  have gg:=zj4 h9
  have g0:=ziU h9
  have ss:=zj3 h9
  have hw1:IntKind.i64.wrap ((l.length:Int)-1)=(l.length:Int)-1:=zwd hl
  have hc:(((pre.length:Nat):Int)==(l.length:Int)-1)=false:=by simp;omega
  have hltp:pre.length<w.parts.length:=by have:=hw.len;omega
  have hltp':((pre.length:Nat):Int)<(w.parts.length:Int):=by omega
  obtain ⟨s,hs⟩:∃ s,w.parts[pre.length]?=some s:=⟨_,List.getElem?_eq_getElem hltp⟩
  have hsr:=hw.parts s (List.mem_of_getElem? hs)
  have hw2:IntKind.i64.wrap (((pre.length:Nat):Int)+1)=((pre.length+1:Nat):Int):=za9 (by omega) (by simp [zar];omega) (by omega)
  rw [zhP,hs] at h8
  dsimp only at h8
  obtain ⟨m,hm⟩:∃ m,(if s.hi<left then s.hi else left)=m:=⟨_,rfl⟩
  have hml:m≤left:=by rw [←hm];split<;>omega
  have hmin:(if s.hi<left then PV.int .i64 s.hi else PV.int .i64 left)=.int .i64 m:=by rw [←hm];split<;>rfl
  rw [hm] at h8
  simp only [zfY,gg,g0,ss,hw1,hc,hs,hltp',go_sem,simprocAttr]
  refine zcZ [0,1,3,4,6] (σ:=List Int×List Int×Heap×List Int×Heap×Nat)
   (fun q=>ups s.lo m=q.1++q.2.1∧q.2.2.1.length=n0∧q.2.2.2.1.length=l.length∧q.2.2.2.1.take pre.length=pre∧q.2.2.2.2.2≤all.length∧all.drop q.2.2.2.2.2=(q.2.1.flatMap fun n=>zhP l w k (pre++[n]) (left-n))++tl∧Inv q.2.2.2.2.2 q.2.2.1)
   (fun q=>q.2.1.length) (fun q=>[(10,.p (.int .i64 (s.lo+(q.1.length:Int))))]) (fun q=>zfY l w n0 id q.2.2.1 q.2.2.2.1 q.2.2.2.2.1) ([],ups s.lo m,lo,cur,ext,idx) ⟨rfl,h9,h5,h6,h7,h8,h10⟩ (by simp only [zfY,go_sem,simprocAttr]) ?_ ?_
  ·simp only [go_sem,simprocAttr]<;>simp
  clear h5 h6 h7 h8 h9 h10 gg g0 ss idx
  rintro ⟨done,rest,lo',cur',ext',idx⟩ ⟨e1,h9,h5,h6,h7,h8,h10⟩
  dsimp only at e1 h9 h5 h6 h7 h8 h10
  have gg:=zj4 h9
  have g0:=ziU h9
  have ss:=zj3 h9
  cases rest with
  |nil =>
   have hlen:=zDb s.lo m
   rw [e1,List.append_nil] at hlen
   have hgt:¬ s.lo+(done.length:Int)≤m:=by omega
   simp only [zfY,gg,g0,ss,hs,hltp',hmin,hm,hgt,go_sem,simprocAttr]
   first | exact ⟨lo',cur',ext',rfl,h9,.inl ⟨h5,h6,idx,h7,by simpa using h8,h10⟩⟩ | exact ⟨lo',cur',ext',rfl,h9,h5,h6,idx,h7,by simpa using h8,h10⟩
  |cons y r =>
   have hy0:(ups s.lo m)[done.length]?=some y:=by rw [e1];simp
   obtain ⟨hy1,hy2⟩:=zDc hy0
   have hle:s.lo+(done.length:Int)≤m:=by omega
   obtain ⟨c,hcur⟩:∃ c,cur'[pre.length]?=some c:=⟨_,List.getElem?_eq_getElem (by omega)⟩
   have hlt:((pre.length:Nat):Int)<(l.length:Int):=by omega
   have hset:(cur'.map fun x=>AV.p (zay x)).set pre.length (.p (zay y))=(cur'.set pre.length y).map fun x=>AV.p (zay x):=by rw [List.map_set]
   have hcs:(cur'.set pre.length y).take (pre.length+1)=pre++[y]:=zsM h6 hcur
   simp only [zay] at hset
   have hwy:IntKind.i64.wrap (left-y)=left-y:=zaj (by omega) (by omega)
   have hnx:IntKind.i64.wrap (y+1)=y+1:=zaj (by omega) (by omega)
   rw [List.flatMap_cons,List.append_assoc] at h8
   have ih:=zCP hl hw hy k (pre++[y]) (left-y) lo' (cur'.set pre.length y) ext' idx ((r.flatMap fun n=>zhP l w k (pre++[n]) (left-n))++tl) (by simp;omega) (by omega) (by omega)
    (fun n hn=>by
     rcases List.mem_append.1 hn with hn | hn
     ·exact h4 n hn
     ·simp at hn;omega) (by simpa using h5) (by rw [List.length_append];exact hcs) h7 h8 h9 h10
   rw [hy1] at ih hset hwy hnx hcs
   simp only [zfY,gg,g0,ss,hs,hltp',hmin,hm,hle,h5,hcur,hlt,hset,hw2,hwy,go_sem,simprocAttr]
   simp only [zfY,znh,znf,zdt,BdWish.pv,zay,List.length_append,List.length_singleton] at ih
   refine zbf ih (fun v h' hr=>?_) (fun v h' hr=>?_)
   rotate_left
   ·obtain ⟨_,_,_,_,_,hr⟩:=hr
    rcases hr with ⟨hr,_⟩ | ⟨hr,_⟩<;>cases hr
   obtain ⟨lo2,cur2,ext2,rfl,k1,hr⟩:=hr
   rcases hr with ⟨hr,k2,k3,idx2,k4,k5,k6⟩ | ⟨hr,k2⟩
   ·cases hr
    simp only [go_sem,simprocAttr]
    refine zaS (done++[y],r,lo2,cur2,ext2,idx2) ⟨by simp [e1],k1,k2,?_,k4,k5,k6⟩ (by simp) rfl ?_
    ·have:=congrArg (List.take pre.length) k3
     rw [List.take_take,List.take_left' rfl] at this
     rwa [Nat.min_eq_left (by simp)] at this
    ·simp only [hnx,List.length_append,List.length_singleton,go_sem,simprocAttr]
     omega
   ·cases hr
    simp only [go_sem,simprocAttr]
    first | exact ⟨lo2,cur2,ext2,rfl,k1,.inr k2⟩ | exact ⟨lo2,cur2,ext2,rfl,k1,k2⟩
end Abs
end Go.Proofs.YtahlnclapingiaaGreatDoor
