/-
  CONTRACTS: blend.Check, in the program and in the reference: both come to 'bdCheck'.
  CONTRACTS: Check of blend's reference; what a wax raises, in the program and in the refere
  CONTRACTS: recipes, what waxes give to a blend, its ends; in the program and in the refere
-/
import Derived.Test.YtahlnclapingiaaGreatDoorLibNameX
set_option linter.unusedSimpArgs false
set_option linter.unusedVariables false
namespace Go.Proofs.YtahlnclapingiaaGreatDoor
namespace Abs
set_option maxRecDepth 4000
theorem zEE (lo hi n:Int):zae Tryz.prog 258 [.int .i64 n,.ptr 1 [.int .i64 lo] 0 0,.ptr 1 [.int .i64 hi] 0 0] (.bool (!gIn n lo hi)):=by
 refine zaa zad (fn:=Tryz.f258) (n:=13) (rs:=[.tmp 4]) (by kernel_rfl) rfl rfl rfl zJq (Nat.le_of_ble_eq_true rfl) ?_
 simp only [go_sem,simprocAttr]
 refine zaH (fun hb=>?_) (fun hb=>?_)<;>simp only [hb,go_sem,simprocAttr]<;>simp_all [gIn]
 rw [←decide_not];congr 1;simp
theorem zeU (lo hi:Int) (l:List Int) (b:Bool) (hl:l.length<1000000000):zae Tryz.prog 173 [.int .i64 lo,.int .i64 hi,.slice 1 (l.map zay) b] (.bool (l.any fun n=>!gIn n lo hi)):=by
 refine zaa zad (fn:=Tryz.f173) (n:=10) (rs:=[.tmp 6]) (by kernel_rfl) rfl rfl rfl zKb (Nat.le_of_ble_eq_true rfl) ?_
 simp only [go_sem,simprocAttr]
 refine zaO (zfb (fv:=.func (.func 258) [] [.ptr 1 [.int .i64 lo] 0 0,.ptr 1 [.int .i64 hi] 0 0]) l (fun n=>!gIn n lo hi) b 1 rfl hl fun n _=>⟨_,_,_,rfl,zEE lo hi n⟩) ?_ (.bool _) ?_
 ·simp only [go_sem,simprocAttr]
 ·simp only [go_sem,simprocAttr]
def zhx (last:Int):List BdPoint→Int
 |[]=>0
 |p::r=>if (gIn p.parts 0 20&&gIn p.add (-300) 300)=true then (if p.parts≤last then 2 else zhx p.parts r) else 7
def zeo (c:List BdPoint):Int:=if 6<c.length then 3 else zhx (-1) c
theorem zBM (c:List BdPoint) (b:Bool) (n:Int):zae Tryz.prog 176 [.agg [.slice 2 (c.map BdPoint.pv) b,.int .i64 n]] (.int .i64 (zeo c)):=by
 refine zaa zad (fn:=Tryz.f176) (n:=36) (rs:=[.tmp 2]) (by kernel_rfl) rfl rfl rfl zJ8 (Nat.le_of_ble_eq_true rfl) ?_
 simp only [go_sem,simprocAttr]
 refine zaH (fun hb=>?_) (fun hb=>?_)<;>simp only [hb,go_sem,simprocAttr]
 ·have:6<c.length:=by simp at hb;omega
  simp [zeo,this]
 ·have h6:¬ 6<c.length:=by simp at hb;omega
  rw [show zeo c=zhx (-1) c by simp [zeo,h6]]
  refine zbb [11,12] c (by omega) (τ:=Int) (fun done rest last=>zhx (-1) c=zhx last rest) (fun done last=>[(13,.p (.int .i64 done.length)),(3,.p (.int .i64 last))]) (fun _ _=>[.row 2 [.p (.agg [.slice 2 (c.map BdPoint.pv) b,.int .i64 n])]]) (-1) rfl ?_ ?_ ?_
  ·simp only [go_sem,simprocAttr]<;>simp
  ·intro last e2
   simp only [go_sem,simprocAttr]
   rw [e2];rfl
  ·intro done x r last e1 e2 hx hlt hnx
   simp only [hlt,hx,go_sem,simprocAttr]
   refine zab (zeU 0 20 [_] true (by simp)) rfl ?_
   simp only [List.any_cons,List.any_nil,Bool.or_false,go_sem,simprocAttr]
   cases h1:gIn x.parts 0 20
   ·simp only [go_sem,simprocAttr]
    rw [e2,zhx,h1];rfl
   simp only [go_sem,simprocAttr]
   refine zab (zeU (-300) 300 [_] true (by simp)) rfl ?_
   simp only [List.any_cons,List.any_nil,Bool.or_false,go_sem,simprocAttr]
   cases h2:gIn x.add (-300) 300
   ·simp only [go_sem,simprocAttr]
    rw [e2,zhx,h1,h2];rfl
   simp only [go_sem,simprocAttr]
   refine zaH (fun hb=>?_) (fun hb=>?_)<;>simp only [hb,go_sem,simprocAttr]
   ·rw [e2,zhx,h1,h2,Bool.and_self,if_pos rfl,if_pos (by simpa using hb)]
   ·refine zaA e1 x.parts (by rw [e2,zhx,h1,h2,Bool.and_self,if_pos rfl,if_neg (by simpa using hb)]) ?_
    simp only [hnx,go_sem,simprocAttr]
def inS (s:Span) (a b:Int):Bool:=gIn s.lo a b&&gIn s.hi a b
def zaJ (s:Span):Bool:=decide (s.hi<s.lo)
def zce (before:List ByteArray) (x:BdWax):Int :=
 if zaq before x.name=0 then
  if (gIn x.price 0 100000&&(inS x.melt 0 2000&&inS x.shrink 0 1000))=true then
   if (zaJ x.melt||zaJ x.shrink)=true then 2 else zeo x.curve
  else 7
 else zaq before x.name
def zus:Option (Int×Int)→Int×Int×Int
 |none=>(0,0,0)
 |some (i,e)=>(2,i,e)
def bdCheck (l:List BdWax):Int×Int×Int :=
 if gIn l.length 1 5=true then zus (firstErr zce (·.name) l []) else (1,0,3)
theorem zzX (x y:BdWax):zae Tryz.prog 175 [y.pv,.ptr 7 [x.pv] 0 0] (.bool (y.name==x.name)):=by
 refine zaa zad (fn:=Tryz.f175) (n:=9) (rs:=[.tmp 3]) (by kernel_rfl) rfl rfl rfl zJ9 (Nat.le_of_ble_eq_true rfl) ?_
 simp only [go_sem,simprocAttr]
theorem zfN {before:List ByteArray} {x:BdWax} {a b c:Bool} (h1:nameOk x.name=a) (h2:before.any (fun t=>t==x.name)=b) (h3:(gIn x.price 0 100000&&(inS x.melt 0 2000&&inS x.shrink 0 1000))=c) :
  zce before x=if a=true then (if b=true then 5 else if c=true then (if (zaJ x.melt||zaJ x.shrink)=true then 2 else zeo x.curve) else 7) else 6:=by
 unfold zce zaq
 rw [h1,h2,h3]
 cases a<;>cases b<;>rfl
set_option maxHeartbeats 1000000 in
theorem zoQ (l:List BdWax):zae Tryz.prog 88 [zdt l] (zat (bdCheck l)):=by
 refine zaa zad (fn:=Tryz.f88) (n:=80) (rs:=[.tmp 2,.tmp 3,.tmp 4]) (by kernel_rfl) rfl rfl rfl zMR (Nat.le_of_ble_eq_true rfl) ?_
 simp only [go_sem,simprocAttr]
 refine zab (zeU 1 5 [_] true (by simp)) rfl ?_
 simp only [List.any_cons,List.any_nil,Bool.or_false,go_sem,simprocAttr]
 cases h1:gIn l.length 1 5
 ·simp only [zat,bdCheck,h1,go_sem,simprocAttr]
 have hl:l.length≤5:=by simp [gIn] at h1;omega
 have hspec:bdCheck l=zus (firstErr zce (·.name) l []):=by simp [bdCheck,h1]
 rw [hspec]
 simp only [go_sem,simprocAttr]
 refine zcr [0,11,12] l (by omega) (τ:=Unit) (fun done rest _=>firstErr zce (·.name) l []=firstErr zce (·.name) rest (done.map (·.name))) (fun done _=>[(13,.p (.int .i64 done.length)),(4,.p (.int .i64 0))]) () rfl ?_ ?_ ?_
 ·simp only [go_sem,simprocAttr]<;>simp
 ·intro _ e2
  simp only [go_sem,simprocAttr]
  rw [e2];rfl
 ·intro done x r _ e1 e2 hx hlt hnx
  have hle:((done.length:Nat):Int)≤(l.length:Int):=by omega
  have htk:(l.map BdWax.pv).take done.length=done.map BdWax.pv:=by
   rw [e1,List.map_append,List.take_left' (by simp)]
  have hln:(done.length==l.length)=false:=by simp;omega
  have hE:firstErr zce (·.name) l []=if zce (done.map (·.name)) x=0 then firstErr zce (·.name) r ((done++[x]).map (·.name)) else some ((done.length:Int),zce (done.map (·.name)) x):=by
   rw [e2,firstErr];simp
  have fin:∀ e,zce (done.map (·.name)) x=e→e≠0→zus (firstErr zce (·.name) l [])=(2,(done.length:Int),e):=by
   intro e he hne
   rw [hE,he,if_neg hne];rfl
  simp only [hlt,hx,go_sem,simprocAttr]
  refine zab (ze0 x.name) rfl ?_
  simp only [go_sem,simprocAttr]
  cases h2:nameOk x.name
  ·simp only [zat,fin 6 (by rw [zfN h2 rfl rfl];rfl) (by decide),go_sem,simprocAttr]
  simp only [hle,Option.getD_none,Option.getD_some,htk,hln,go_sem,simprocAttr]
  refine zaO (zqY (fv:=.func (.func 175) [] [.ptr 7 [x.pv] 0 0]) done (fun y=>y.name==x.name) false 7 rfl (by omega) fun y _=>⟨_,_,_,rfl,zzX x y⟩) ?_ (.bool _) ?_
  ·simp only [go_sem,simprocAttr]
  simp only [go_sem,simprocAttr]
  have hany:(done.map (·.name)).any (fun t=>t==x.name)=done.any (fun y=>y.name==x.name):=by simp only [List.any_map,Function.comp_def]
  cases h3:done.any (fun y=>y.name==x.name)
  rotate_left
  ·simp only [zat,fin 5 (by rw [zfN h2 (hany.trans h3) rfl];rfl) (by decide),go_sem,simprocAttr]
  simp only [go_sem,simprocAttr]
  refine zab (zeU 0 100000 [_] true (by simp)) rfl ?_
  simp only [List.any_cons,List.any_nil,Bool.or_false,go_sem,simprocAttr]
  have bad:(gIn x.price 0 100000&&(inS x.melt 0 2000&&inS x.shrink 0 1000))=false→zce (done.map (·.name)) x=7:=fun h=>by rw [zfN h2 (hany.trans h3) h];rfl
  cases h4:gIn x.price 0 100000
  ·simp only [zat,fin 7 (bad (by rw [h4];rfl)) (by decide),go_sem,simprocAttr]
  simp only [go_sem,simprocAttr]
  refine zab (zeU 0 2000 [_,_] true (by simp)) rfl ?_
  simp only [List.any_cons,List.any_nil,Bool.or_false,←Bool.not_and,go_sem,simprocAttr]
  cases h5:(gIn x.melt.lo 0 2000&&gIn x.melt.hi 0 2000)
  ·simp only [zat,fin 7 (bad (by rw [inS,h5];simp)) (by decide),go_sem,simprocAttr]
  simp only [go_sem,simprocAttr]
  refine zab (zeU 0 1000 [_,_] true (by simp)) rfl ?_
  simp only [List.any_cons,List.any_nil,Bool.or_false,←Bool.not_and,go_sem,simprocAttr]
  cases h6:(gIn x.shrink.lo 0 1000&&gIn x.shrink.hi 0 1000)
  ·simp only [zat,fin 7 (bad (by rw [inS,inS,h6];simp)) (by decide),go_sem,simprocAttr]
  have hc:(gIn x.price 0 100000&&(inS x.melt 0 2000&&inS x.shrink 0 1000))=true:=by rw [inS,inS,h4,h5,h6];rfl
  simp only [go_sem,simprocAttr]
  cases h7:decide (x.melt.hi<x.melt.lo)
  rotate_left
  ·simp only [zat,fin 2 (by rw [zfN h2 (hany.trans h3) hc,zaJ,h7];rfl) (by decide),go_sem,simprocAttr]
  simp only [go_sem,simprocAttr]
  cases h8:decide (x.shrink.hi<x.shrink.lo)
  rotate_left
  ·simp only [zat,fin 2 (by rw [zfN h2 (hany.trans h3) hc,zaJ,zaJ,h7,h8];rfl) (by decide),go_sem,simprocAttr]
  simp only [go_sem,simprocAttr]
  refine zab (zBM x.curve false 0) rfl ?_
  simp only [go_sem,simprocAttr]
  have hw:zce (done.map (·.name)) x=zeo x.curve:=by rw [zfN h2 (hany.trans h3) hc,zaJ,zaJ,h7,h8];rfl
  cases h9:(zeo x.curve != 0)
  ·have h9':zeo x.curve=0:=by simpa using h9
   simp only [go_sem,simprocAttr]
   refine zaA e1 () (by rw [hE,if_pos (hw.trans h9')]) ?_
   simp only [hnx,h9',go_sem,simprocAttr]
  ·simp only [zat,fin _ hw (by simpa using h9),go_sem,simprocAttr]
end Abs
end Go.Proofs.YtahlnclapingiaaGreatDoor
namespace Go.Proofs.YtahlnclapingiaaGreatDoor
namespace Abs
set_option maxRecDepth 4000
structure CurveOk (c:List BdPoint):Prop where
 len:c.length≤6
 pt:∀ p,p∈c→0≤p.parts∧p.parts≤20∧-300≤p.add∧p.add≤300
 up:c.Pairwise fun a b=>a.parts<b.parts
theorem zs5:∀ (c:List BdPoint) (last:Int),zhx last c=0→(∀ p,p∈c→0≤p.parts∧p.parts≤20∧-300≤p.add∧p.add≤300)∧c.Pairwise (fun a b=>a.parts<b.parts)∧∀ p,p∈c→last<p.parts
 |[],_,_=>⟨by simp,.nil,by simp⟩
 |q::r,last,h=>by
  rw [zhx] at h
  split at h
  ·rename_i hg
   split at h
   ·cases h
   ·rename_i hl
    obtain ⟨h1,h2,h3⟩:=zs5 r _ h
    have hq:0≤q.parts∧q.parts≤20∧-300≤q.add∧q.add≤300:=by simp [gIn] at hg;omega
    refine ⟨?_,.cons (fun p hp=>h3 p hp) h2,?_⟩
    ·intro p hp
     rcases List.mem_cons.1 hp with rfl | hp
     ·exact hq
     ·exact h1 p hp
    ·intro p hp
     rcases List.mem_cons.1 hp with rfl | hp
     ·omega
     ·have:=h3 p hp;omega
  ·cases h
theorem zxI {c:List BdPoint} (h:zeo c=0):CurveOk c:=by
 unfold zeo at h
 split at h
 ·cases h
 ·obtain ⟨h1,h2,_⟩:=zs5 c _ h
  exact ⟨by omega,h1,h2⟩
def ziI (a b:BdPoint) (n:Int):Int:=a.add+(b.add-a.add)*(n-a.parts) / (b.parts-a.parts)
def zfZ (a:BdPoint):List BdPoint→Int→Int
 |[],_=>a.add
 |b::r,n=>if n≤b.parts then ziI a b n else zfZ b r n
def zi6:List BdPoint→Int→Int
 |[],_=>0
 |a::r,n=>if n≤a.parts then a.add else zfZ a r n
theorem zDV (a b:Int) (hb:0<b):(if a.tmod b<0 then a.tdiv b-1 else a.tdiv b)=a / b:=by
 have h:=Int.mul_tdiv_add_tmod a b
 rcases Int.le_total 0 a with ha | ha
 ·have h1:=Int.tmod_nonneg b ha
  rw [if_neg (by omega),Int.tdiv_eq_ediv_of_nonneg ha]
 ·have h1:-b<a.tmod b:=Int.lt_tmod_of_pos a hb
  have h2:a.tmod b≤0:=by
   have:=Int.tmod_nonneg b (a:=-a) (by omega)
   rw [Int.neg_tmod] at this
   omega
  split
  ·rename_i h3
   symm
   rw [Int.ediv_eq_iff_of_pos hb]
   have:b*(a.tdiv b-1)=b*a.tdiv b-b:=by rw [Int.mul_sub,Int.mul_one]
   rw [Int.mul_comm]
   constructor<;>omega
  ·rename_i h3
   symm
   rw [Int.ediv_eq_iff_of_pos hb]
   rw [Int.mul_comm]
   constructor<;>omega
theorem zGM (a b:Int) (ha:-1000000000000000≤a∧a≤1000000000000000) (hb:0<b):zae Tryz.prog 412 [.int .i64 a,.int .i64 b] (.int .i64 (a / b)):=by
 refine zaa zad (fn:=Tryz.f412) (n:=16) (rs:=[.tmp 4]) (by kernel_rfl) rfl rfl rfl zHJ (Nat.le_of_ble_eq_true rfl) ?_
 have hb0:b≠0:=by omega
 have hq:-1000000000000000≤a.tdiv b∧a.tdiv b≤1000000000000000:=by
  have h1:=Int.natAbs_tdiv_le_natAbs a b
  omega
 have hw:IntKind.i64.wrap (a.tdiv b)=a.tdiv b:=zaj (by omega) (by omega)
 have hw1:IntKind.i64.wrap (a.tdiv b-1)=a.tdiv b-1:=zaj (by omega) (by omega)
 have he:=zDV a b hb
 simp only [hb0,hw,go_sem,simprocAttr]
 refine zaH (fun hc=>?_) (fun hc=>?_)<;>simp only [hc,hw1,go_sem,simprocAttr]
 ·rw [if_pos (by simpa using hc)] at he;exact he
 ·rw [if_neg (by simpa using hc)] at he;exact he
theorem zBD (c:List BdPoint) (b:Bool) (n:Int) (i:Nat) (p:BdPoint) (hi:c[i]?=some p):zae Tryz.prog 411 [.agg [.slice 2 (c.map BdPoint.pv) b,.int .i64 n],.int .i64 i] (.bool (decide (n≤p.parts))):=by
 refine zaa zad (fn:=Tryz.f411) (n:=14) (rs:=[.tmp 4]) (by kernel_rfl) rfl rfl rfl zHK (Nat.le_of_ble_eq_true rfl) ?_
 have hlt:((i:Nat):Int)<(c.length:Int):=by have:=(List.getElem?_eq_some_iff.1 hi).1;omega
 simp only [hlt,hi,go_sem,simprocAttr]
theorem zod:∀ {c:List BdPoint} (n:Int),c.Pairwise (fun a b=>a.parts<b.parts)→∃ pre post,c=pre++post∧(∀ p,p∈pre→p.parts<n)∧∀ p,p∈post→n≤p.parts
 |[],_,_=>⟨[],[],rfl,by simp,by simp⟩
 |a::r,n,h=>by
  cases h with
  |cons h1 h2 =>
   by_cases ha:a.parts<n
   ·obtain ⟨pre,post,e,g1,g2⟩:=zod n h2
    refine ⟨a::pre,post,by rw [e];rfl,fun p hp=>?_,g2⟩
    rcases List.mem_cons.1 hp with rfl | hp
    ·exact ha
    ·exact g1 p hp
   ·refine ⟨[],a::r,rfl,by simp,fun p hp=>?_⟩
    rcases List.mem_cons.1 hp with rfl | hp
    ·omega
    ·have:=h1 p hp;omega
theorem zr1 (n:Int):∀ (pre:List BdPoint) (x a:BdPoint) (post:List BdPoint),(∀ p,p∈pre++[a]→p.parts<n)→zfZ x (pre++a::post) n=zfZ a post n
 |[],x,a,post,h=>by
  have:=h a (by simp)
  rw [List.nil_append,zfZ,if_neg (by omega)]
 |y::pre,x,a,post,h=>by
  have:=h y (by simp)
  rw [List.cons_append,zfZ,if_neg (by omega)]
  exact zr1 n pre y a post fun p hp=>h p (by simp at hp ⊢;exact .inr hp)
theorem zB1 {n:Int} (pre:List BdPoint) (a:BdPoint) (post:List BdPoint) (h:∀ p,p∈pre++[a]→p.parts<n):zi6 (pre++a::post) n=zfZ a post n:=by
 cases pre with
 |nil =>
  have:=h a (by simp)
  rw [List.nil_append,zi6,if_neg (by omega)]
 |cons y pre =>
  have:=h y (by simp)
  rw [List.cons_append,zi6,if_neg (by omega)]
  exact zr1 n pre y a post fun p hp=>h p (by simp at hp ⊢;exact .inr hp)
theorem zwc {a b:BdPoint} {n:Int} (ha:0≤a.parts∧a.parts≤20∧-300≤a.add∧a.add≤300) (hb:0≤b.parts∧b.parts≤20∧-300≤b.add∧b.add≤300) (h1:a.parts≤n) (h2:n≤b.parts) (h3:a.parts<b.parts) :
  -20000≤(b.add-a.add)*(n-a.parts)∧(b.add-a.add)*(n-a.parts)≤20000 ∧
  ((a.add≤b.add→a.add≤ziI a b n∧ziI a b n≤b.add)∧(b.add≤a.add→b.add≤ziI a b n∧ziI a b n≤a.add)):=by
 unfold ziI
 generalize hk:n-a.parts=k
 generalize hm:b.parts-a.parts=m
 generalize hd:b.add-a.add=d
 have k0:0≤k:=by omega
 have k1:k≤20:=by omega
 have hkm:k≤m:=by omega
 have m0:0<m:=by omega
 have e1:(-600)*k≤d*k:=Int.mul_le_mul_of_nonneg_right (by omega) k0
 have e2:d*k≤600*k:=Int.mul_le_mul_of_nonneg_right (by omega) k0
 refine ⟨by omega,by omega,fun h=>?_,fun h=>?_⟩
 ·have d0:0≤d:=by omega
  have g1:0≤d*k / m:=Int.ediv_nonneg (Int.mul_nonneg d0 k0) (by omega)
  have g2:d*k / m≤d:=by
   have:=Int.ediv_le_ediv m0 (Int.mul_le_mul_of_nonneg_left hkm d0)
   rwa [Int.mul_ediv_cancel _ (by omega)] at this
  omega
 ·have d0:d≤0:=by omega
  have g1:d*k / m≤0:=by
   have:=Int.ediv_le_ediv m0 (show d*k≤0 from Int.mul_nonpos_of_nonpos_of_nonneg d0 k0)
   simpa using this
  have g2:d≤d*k / m:=by
   have e:d*m≤d*k:=Int.mul_le_mul_of_nonpos_left d0 hkm
   have:=Int.ediv_le_ediv m0 e
   rwa [Int.mul_ediv_cancel _ (by omega)] at this
  omega
theorem zGQ (c:List BdPoint) (b:Bool) (n:Int) (hc:CurveOk c):zae Tryz.prog 408 [.agg [.slice 2 (c.map BdPoint.pv) b,.int .i64 n]] (.int .i64 (zi6 c n)):=by
 refine zaa zad (fn:=Tryz.f408) (n:=67) (rs:=[.tmp 2]) (by kernel_rfl) rfl rfl rfl zHM (Nat.le_of_ble_eq_true rfl) ?_
 obtain ⟨pre,post,e,g1,g2⟩:=zod n hc.up
 have hlen:=hc.len
 have hlt:pre.length≤c.length:=by rw [e];simp
 simp only [zCi,zal,go_sem,simprocAttr]
 refine zaH (fun hb=>?_) (fun hb=>?_)
 ·have:c=[]:=by simpa using hb
  simp only [this,zi6,go_sem,simprocAttr]
 simp only [go_sem,simprocAttr]
 refine zab (zEn (fv:=.func (.func 411) [.agg [.slice 2 (c.map BdPoint.pv) b,.int .i64 n]] []) c.length (fun i=>match c[i]? with | some p=>decide (n≤p.parts) | none=>true) (by omega) (fun i hi=>?_) pre.length hlt (fun i hi=>?_) fun i h1 h2=>?_) rfl ?_
 ·have hg:c[i]?=some c[i]:=List.getElem?_eq_getElem hi
  rw [hg]
  exact ⟨_,_,_,rfl,zBD c b n i _ hg⟩
 ·rw [e,List.getElem?_append_left hi,List.getElem?_eq_getElem hi]
  have:=g1 _ (List.getElem_mem hi)
  simp;omega
 ·have hh:i-pre.length<post.length:=by rw [e] at h2;simp at h2;omega
  rw [e,List.getElem?_append_right h1,List.getElem?_eq_getElem hh]
  have:=g2 _ (List.getElem_mem hh)
  simp;omega
 simp only [go_sem,simprocAttr]
 rcases List.eq_nil_or_concat pre with rfl | ⟨pr,a,hp⟩
 ·cases post with
  |nil=>subst e;simp at hb
  |cons x post =>
   have hx:=g2 x (by simp)
   rw [List.nil_append] at e
   have h0:c[0]?=some x:=by rw [e];rfl
   have h0':(0:Int)<(c.length:Int):=by rw [e];simp<;>omega
   simp only [h0',h0,List.length_nil,go_sem,simprocAttr]
   rw [e,zi6,if_pos hx]
 ·rw [List.concat_eq_append] at hp
  subst hp
  have hz:((((pr++[a]).length:Nat):Int)==0)=false:=by simp<;>omega
  have hw1:IntKind.i64.wrap ((((pr++[a]).length:Nat):Int)-1)=((pr.length:Nat):Int):=by
   rw [zb3 (by simp<;>omega) (by simp [zar] at hlt ⊢;omega)];simp
  have ha:c[pr.length]?=some a:=by rw [e];simp
  have hla:((pr.length:Nat):Int)<(c.length:Int):=by simp at hlt;omega
  have hadd:zi6 c n=zfZ a post n:=by rw [e];simpa using zB1 pr a post g1
  cases post with
  |nil =>
   have hlc:((((pr++[a]).length:Nat):Int)==(c.length:Int))=true:=by rw [e];simp
   simp only [hz,hlc,hw1,ha,hla,hadd,zfZ,go_sem,simprocAttr]
  |cons x post =>
   have hx:=g2 x (by simp)
   have hap:=g1 a (by simp)
   have hxc:c[(pr++[a]).length]?=some x:=by rw [e];simp
   have hlx:(((pr++[a]).length:Nat):Int)<(c.length:Int):=by rw [e];simp<;>omega
   have hlc:((((pr++[a]).length:Nat):Int)==(c.length:Int))=false:=by simp only [beq_eq_false_iff_ne];omega
   have pa:=hc.pt a (by rw [e];simp)
   have px:=hc.pt x (by rw [e];simp)
   obtain ⟨b1,b2,b3⟩:=zwc pa px (by omega) hx (by omega)
   have w1:IntKind.i64.wrap (x.add-a.add)=x.add-a.add:=zaj (by omega) (by omega)
   have w2:IntKind.i64.wrap (n-a.parts)=n-a.parts:=zaj (by omega) (by omega)
   have w3:IntKind.i64.wrap ((x.add-a.add)*(n-a.parts))=(x.add-a.add)*(n-a.parts):=zaj (by omega) (by omega)
   have w4:IntKind.i64.wrap (x.parts-a.parts)=x.parts-a.parts:=zaj (by omega) (by omega)
   have w5:IntKind.i64.wrap (ziI a x n)=ziI a x n:=zaj (by omega) (by omega)
   simp only [hz,hlc,hw1,ha,hla,hxc,hlx,w1,w2,w3,w4,zCi,zal,go_sem,simprocAttr]
   refine zau (zGM _ _ (by omega) (by omega)) rfl ?_
   simp only [go_sem,simprocAttr]
   rw [hadd,zfZ,if_pos hx]
   exact w5
end Abs
end Go.Proofs.YtahlnclapingiaaGreatDoor
namespace Go.Proofs.YtahlnclapingiaaGreatDoor
namespace Abs
set_option maxRecDepth 4000
structure BdWaxOk (x:BdWax):Prop where
 price:0≤x.price∧x.price≤100000
 melt:0≤x.melt.lo∧x.melt.lo≤x.melt.hi∧x.melt.hi≤2000
 shrink:0≤x.shrink.lo∧x.shrink.lo≤x.shrink.hi∧x.shrink.hi≤1000
 curve:CurveOk x.curve
structure BdWaxesOk (l:List BdWax):Prop where
 len:1≤l.length∧l.length≤5
 wax:∀ x,x∈l→BdWaxOk x
def bdE (l:List BdWax):Int:=(bdCheck l).2.2
theorem zx6 {before:List ByteArray} {x:BdWax} (h:zce before x=0):BdWaxOk x∧zaq before x.name=0:=by
 unfold zce at h
 split at h
 ·rename_i hn
  split at h
  ·rename_i hg
   split at h
   ·cases h
   ·rename_i ht
    simp [gIn,inS,zaJ] at hg ht
    exact ⟨⟨by omega,by omega,by omega,zxI h⟩,hn⟩
  ·cases h
 ·rename_i hn;exact absurd h hn
theorem zex {α:Type} {f:List ByteArray→α→Int} {nm:α→ByteArray}:∀ {l:List α} {before:List ByteArray},firstErr f nm l before=none→∀ x,x∈l→∃ b,f b x=0
 |[],_,_,_,hx=>by cases hx
 |y::r,before,h,x,hx=>by
  rw [firstErr] at h
  split at h
  ·rename_i h0
   rcases List.mem_cons.1 hx with rfl | hx
   ·exact ⟨_,h0⟩
   ·exact zex h x hx
  ·cases h
theorem zn8 {α:Type} {f:List ByteArray→α→Int} {nm:α→ByteArray}:∀ {l:List α} {before:List ByteArray} {i e:Int},firstErr f nm l before=some (i,e)→e≠0
 |[],_,_,_,h=>by cases h
 |y::r,before,i,e,h=>by
  rw [firstErr] at h
  split at h
  ·exact zn8 h
  ·rename_i h0
   cases h;exact h0
theorem zz8 {l:List BdWax} (h:bdE l=0):(1≤l.length∧l.length≤5)∧firstErr zce (·.name) l []=none:=by
 unfold bdE bdCheck at h
 split at h
 ·rename_i hg
  refine ⟨by simp [gIn] at hg;omega,?_⟩
  cases hf:firstErr zce (·.name) l [] with
  |none=>rfl
  |some q =>
   obtain ⟨i,e⟩:=q
   rw [hf] at h
   exact absurd h (zn8 hf)
 ·cases h
theorem zng {l:List BdWax} (h:bdE l=0):BdWaxesOk l:=by
 obtain ⟨h1,h2⟩:=zz8 h
 exact ⟨h1,fun x hx=>let ⟨b,hb⟩:=zex h2 x hx;(zx6 hb).1⟩
structure RecOk (m:Nat) (r:List Int):Prop where
 len:r.length=m
 rng:∀ n,n∈r→0≤n∧n≤20
 sum:r.sum=20
def zmr {α:Type} (f:Nat→α→Int):List α→Nat→Int
 |[],_=>0
 |x::r,i=>f i x+zmr f r (i+1)
theorem zvY {α:Type} (f:α→Int):∀ (l:List α) (i:Nat),zmr (fun _ x=>f x) l i=(l.map f).sum
 |[],_=>rfl
 |x::r,i=>by rw [zmr,zvY f r,List.map_cons,List.sum_cons]
def zbu (p:BdWax×Int):PV:=.agg [.str p.1.name,.int .i64 p.1.price,.int .i64 p.1.melt.lo,.int .i64 p.1.melt.hi,.int .i64 p.1.shrink.lo,.int .i64 p.1.shrink.hi,.slice 2 (p.1.curve.map BdPoint.pv) false,.int .i64 p.2]
attribute [go_sem] zbu
theorem zED {fv:PV} (l:List (BdWax×Int)) (f:Nat→(BdWax×Int)→Int) (b:Bool) (sz:Nat) (hsz:sz=8) (hl:l.length≤1000) (hf:∀ (i:Nat) x,l[i]?=some x→App Tryz.prog fv [.int .i64 i,zbu x] (.int .i64 (f i x))∧-1000000000≤f i x∧f i x≤1000000000) :
  zae Tryz.prog 359 [.slice sz (l.map zbu) b,fv] (.int .i64 (zmr f l 0)):=by
 subst hsz
 refine zaa zad (fn:=Tryz.f359) (n:=22) (rs:=[.tmp 4]) (by kernel_rfl) rfl rfl rfl zIj (Nat.le_of_ble_eq_true rfl) ?_
 simp only [go_sem,simprocAttr]
 refine zcr [1,7,8] l (by omega) (τ:=Int) (fun done rest n=>zmr f l 0=n+zmr f rest done.length∧-1000000000*(done.length:Int)≤n∧n≤1000000000*(done.length:Int)) (fun done n=>[(9,.p (.int .i64 done.length)),(4,.p (.int .i64 n))]) 0 ⟨by simp,by simp,by simp⟩ ?_ ?_ ?_
 ·simp only [go_sem,simprocAttr]<;>simp
 ·rintro n ⟨e2,_⟩
  simp only [go_sem,simprocAttr]
  rw [e2];simp [zmr]
 ·rintro done x r n e1 ⟨e2,e3,e4⟩ hx hlt hnx
  obtain ⟨⟨g,first,cap,rfl,hc⟩,e5,e6⟩:=hf _ _ hx
  simp only [hlt,decide_true,hx,zbu,go_sem,simprocAttr]
  refine zab hc (by simp [zbu]) ?_
  have hw:IntKind.i64.wrap (n+f done.length x)=n+f done.length x:=zaj (by omega) (by omega)
  simp only [hw,go_sem,simprocAttr]
  refine zaA e1 (n+f done.length x) ⟨by rw [e2,zmr];simp;omega,by simp;omega,by simp;omega⟩ ?_
  simp only [hnx,go_sem,simprocAttr]
abbrev Ps:=List (BdWax×Int)
structure PsOk (ps:Ps):Prop where
 len:ps.length≤5
 wax:∀ p,p∈ps→BdWaxOk p.1∧0≤p.2∧p.2≤20
def zbE (f:BdWax×Int→Int) (ps:Ps):Int:=(ps.map f).sum
def zgw (p:BdWax×Int):Int:=p.2*p.1.melt.lo
def zgx (p:BdWax×Int):Int:=p.2*p.1.melt.hi
def zgj (p:BdWax×Int):Int:=p.2*p.1.shrink.lo
def zhQ (p:BdWax×Int):Int:=p.2*p.1.shrink.hi
def zfa (p:BdWax×Int):Int:=p.2*p.1.price
def zdG (p:BdWax×Int):Int:=20*zi6 p.1.curve p.2
theorem zuy (n:Int):∀ (r:List BdPoint) (a:BdPoint),(0≤a.parts∧a.parts≤20∧-300≤a.add∧a.add≤300)→(∀ p,p∈r→0≤p.parts∧p.parts≤20∧-300≤p.add∧p.add≤300)→a.parts≤n→(a::r).Pairwise (fun a b=>a.parts<b.parts)→-300≤zfZ a r n∧zfZ a r n≤300
 |[],a,ha,_,_,_=>by rw [zfZ];omega
 |b::r,a,ha,hr,hn,hp=>by
  rw [zfZ]
  have hab:a.parts<b.parts:=by cases hp with | cons h _=>exact h b (by simp)
  split
  ·rename_i h
   obtain ⟨_,_,h3,h4⟩:=zwc ha (hr b (by simp)) hn h hab
   have hb:=hr b (by simp)
   rcases Int.le_total a.add b.add with h5 | h5
   ·have:=h3 h5;omega
   ·have:=h4 h5;omega
  ·rename_i h
   exact zuy n r b (hr b (by simp)) (fun p hp=>hr p (by simp [hp])) (by omega) (by cases hp with | cons _ h=>exact h)
theorem zEM {c:List BdPoint} (h:CurveOk c) (n:Int):-300≤zi6 c n∧zi6 c n≤300:=by
 cases c with
 |nil=>simp [zi6]
 |cons a r =>
  have ha:=h.pt a (by simp)
  rw [zi6]
  split
  ·omega
  ·exact zuy n r a ha (fun p hp=>h.pt p (by simp [hp])) (by omega) h.up
theorem zcc {p:BdWax×Int} (h:BdWaxOk p.1∧0≤p.2∧p.2≤20):(0≤zgw p∧zgw p≤40000)∧(0≤zgx p∧zgx p≤40000)∧(0≤zgj p∧zgj p≤20000)∧(0≤zhQ p∧zhQ p≤20000)∧(0≤zfa p∧zfa p≤2000000)∧-6000≤zdG p∧zdG p≤6000:=by
 obtain ⟨hw,h0,h1⟩:=h
 have m1:=hw.melt
 have m2:=hw.shrink
 have m3:=hw.price
 have m4:=zEM hw.curve p.2
 refine ⟨zfF (B:=2000) h0 h1 (by omega) (by omega),zfF (B:=2000) h0 h1 (by omega) (by omega),zfF (B:=1000) h0 h1 (by omega) (by omega),zfF (B:=1000) h0 h1 (by omega) (by omega),zfF (B:=100000) h0 h1 (by omega) (by omega),?_⟩
 unfold zdG
 omega
theorem zqm {f:BdWax×Int→Int} {a b:Int}:∀ {ps:Ps},(∀ p,p∈ps→a≤f p∧f p≤b)→a*(ps.length:Int)≤zbE f ps∧zbE f ps≤b*(ps.length:Int)
 |[],_=>by simp [zbE]
 |p::ps,h=>by
  have h1:=zqm (f:=f) (ps:=ps) fun q hq=>h q (by simp [hq])
  have h2:=h p (by simp)
  simp only [zbE,List.map_cons,List.sum_cons,List.length_cons] at h1 ⊢
  have e1:a*((ps.length+1:Nat):Int)=a*(ps.length:Int)+a:=by rw [Int.natCast_add,Int.mul_add];simp
  have e2:b*((ps.length+1:Nat):Int)=b*(ps.length:Int)+b:=by rw [Int.natCast_add,Int.mul_add];simp
  omega
theorem zra {f:BdWax×Int→Int} {b:Int} {ps:Ps} (hl:ps.length≤5) (hb:0≤b) (h:∀ p,p∈ps→-b≤f p∧f p≤b):-(5*b)≤zbE f ps∧zbE f ps≤5*b:=by
 obtain ⟨h1,h2⟩:=zqm h
 have:b*(ps.length:Int)≤b*5:=Int.mul_le_mul_of_nonneg_left (by omega) hb
 have e:(-b)*(ps.length:Int)=-(b*(ps.length:Int)):=Int.neg_mul _ _
 omega
theorem zsj (p:BdWax×Int) (h:BdWaxOk p.1∧0≤p.2∧p.2≤20):zae Tryz.prog 398 [zbu p] (.int .i64 (zgw p)):=by
 refine zaa zad (fn:=Tryz.f398) (n:=10) (rs:=[.tmp 2]) (by kernel_rfl) rfl rfl rfl zHU (Nat.le_of_ble_eq_true rfl) ?_
 have hb:=zcc h
 have hw:IntKind.i64.wrap (zgw p)=zgw p:=zaj (by omega) (by omega)
 unfold zgw at hw ⊢
 simp only [hw,go_sem,simprocAttr]
theorem zsk (p:BdWax×Int) (h:BdWaxOk p.1∧0≤p.2∧p.2≤20):zae Tryz.prog 399 [zbu p] (.int .i64 (zgx p)):=by
 refine zaa zad (fn:=Tryz.f399) (n:=10) (rs:=[.tmp 2]) (by kernel_rfl) rfl rfl rfl zHT (Nat.le_of_ble_eq_true rfl) ?_
 have hb:=zcc h
 have hw:IntKind.i64.wrap (zgx p)=zgx p:=zaj (by omega) (by omega)
 unfold zgx at hw ⊢
 simp only [hw,go_sem,simprocAttr]
theorem zvv (p:BdWax×Int) (h:BdWaxOk p.1∧0≤p.2∧p.2≤20):zae Tryz.prog 400 [zbu p] (.int .i64 (zgj p)):=by
 refine zaa zad (fn:=Tryz.f400) (n:=10) (rs:=[.tmp 2]) (by kernel_rfl) rfl rfl rfl zHS (Nat.le_of_ble_eq_true rfl) ?_
 have hb:=zcc h
 have hw:IntKind.i64.wrap (zgj p)=zgj p:=zaj (by omega) (by omega)
 unfold zgj at hw ⊢
 simp only [hw,go_sem,simprocAttr]
theorem zxO (p:BdWax×Int) (h:BdWaxOk p.1∧0≤p.2∧p.2≤20):zae Tryz.prog 401 [zbu p] (.int .i64 (zhQ p)):=by
 refine zaa zad (fn:=Tryz.f401) (n:=10) (rs:=[.tmp 2]) (by kernel_rfl) rfl rfl rfl zHR (Nat.le_of_ble_eq_true rfl) ?_
 have hb:=zcc h
 have hw:IntKind.i64.wrap (zhQ p)=zhQ p:=zaj (by omega) (by omega)
 unfold zhQ at hw ⊢
 simp only [hw,go_sem,simprocAttr]
theorem zvu (p:BdWax×Int) (h:BdWaxOk p.1∧0≤p.2∧p.2≤20):zae Tryz.prog 316 [zbu p] (.int .i64 (zfa p)):=by
 refine zaa zad (fn:=Tryz.f316) (n:=9) (rs:=[.tmp 2]) (by kernel_rfl) rfl rfl rfl zIG (Nat.le_of_ble_eq_true rfl) ?_
 have hb:=zcc h
 have hw:IntKind.i64.wrap (zfa p)=zfa p:=zaj (by omega) (by omega)
 unfold zfa at hw ⊢
 simp only [hw,go_sem,simprocAttr]
theorem zvt (p:BdWax×Int) (h:BdWaxOk p.1∧0≤p.2∧p.2≤20):zae Tryz.prog 402 [zbu p] (.int .i64 (zdG p)):=by
 refine zaa zad (fn:=Tryz.f402) (n:=11) (rs:=[.tmp 2]) (by kernel_rfl) rfl rfl rfl zHQ (Nat.le_of_ble_eq_true rfl) ?_
 have hb:=zcc h
 have hw:IntKind.i64.wrap (zdG p)=zdG p:=zaj (by omega) (by omega)
 unfold zdG at hw ⊢
 simp only [go_sem,simprocAttr]
 refine zab (zGQ p.1.curve false p.2 h.1.curve) rfl ?_
 simp only [hw,go_sem,simprocAttr]
def zkj:AV:=.p (.agg [.str ⟨#[]⟩,.int .i64 0,.int .i64 0,.int .i64 0,.int .i64 0,.int .i64 0,.nilslice,.int .i64 0])
def zev (ps done:Ps):List AV:=(done.map fun p=>.p (zbu p))++List.replicate (ps.length-done.length) zkj
theorem zrR {ps done r:Ps} {x:BdWax×Int} (h:ps=done++x::r):(zev ps done).length=ps.length:=by subst h;simp [zev]
theorem zrS {ps done r:Ps} {x:BdWax×Int} (h:ps=done++x::r):(zev ps done)[done.length]?=some zkj:=by
 subst h
 unfold zev
 rw [List.getElem?_append_right (by simp)]
 simp
theorem zrQ {ps done r:Ps} {x:BdWax×Int} (h:ps=done++x::r):(zev ps done).set done.length (.p (zbu x))=zev ps (done++[x]):=by
 subst h
 have e:(done++x::r).length-done.length=((done++x::r).length-(done++[x]).length)+1:=by simp<;>omega
 unfold zev
 rw [List.set_append_right _ _ (by simp),e,List.replicate_succ]
 simp
theorem zoi (n:Nat) (ps done:Ps):(∀ x,x∈zev ps done→below n x)=True:=by
 refine eq_true fun x hx=>?_
 rcases List.mem_append.1 hx with h | h
 ·obtain ⟨p,_,rfl⟩:=List.mem_map.1 h;trivial
 ·rw [List.eq_of_mem_replicate h];trivial
def zjz (ps:Ps):PV:=.slice 8 (ps.map zbu) false
attribute [go_sem] zjz
theorem zGP (ps:Ps) (b1 b2:Bool) (hl:ps.length≤5):zae Tryz.prog 315 [.slice 7 (ps.map fun p=>p.1.pv) b1,.slice 1 (ps.map fun p=>zay p.2) b2] (zjz ps):=by
 refine zbT zad (fn:=Tryz.f315) (n:=29) (rs:=[.tmp 4]) (by kernel_rfl) rfl rfl rfl zCu (Nat.le_of_ble_eq_true rfl) ?_
 have hrm:((ps.length:Nat):Int)≤(zar:Int):=by simp [zar];omega
 have hr0:List.replicate ps.length zkj=zev ps []:=by simp [zev]
 simp only [zkj] at hr0
 simp only [hrm,Int.le_refl,hr0,go_sem,simprocAttr]
 refine zbb [1,5,11,12] ps (by omega) (τ:=Unit) (fun _ _ _=>True) (fun done _=>[(13,.p (.int .i64 done.length))]) (fun done _=>[.row 8 (zev ps done)]) () trivial ?_ ?_ ?_
 ·simp only [zoi,go_sem,simprocAttr]
 ·intro _ _
  have hz:(zev ps ps)=ps.map fun p=>.p (zbu p):=by simp [zev]
  simp only [zbu] at hz
  simp only [hz,go_sem,simprocAttr]
  rfl
 ·intro done x r _ e1 _ hx hlt hnx
  have h1:=zrR e1
  have h2:=zrS e1
  have h3:=zrQ e1
  simp only [zkj] at h2
  simp only [zbu] at h3
  simp only [hlt,hx,h1,h2,h3,go_sem,simprocAttr]
  refine zaA e1 () trivial ?_
  simp only [hnx,h3,zoi,go_sem,simprocAttr]
end Abs
end Go.Proofs.YtahlnclapingiaaGreatDoor
