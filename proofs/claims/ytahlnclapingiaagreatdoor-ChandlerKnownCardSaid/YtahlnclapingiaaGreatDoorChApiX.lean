/-
  CONTRACTS: chandler: Work, Books. No conditions but those in the theorems' heads.
  CONTRACT: room made in a strings.Builder of one's own that holds nothing yet. No condition
  CONTRACTS: strings.ReplaceAll, one byte for another one. No conditions but those in the th
  CONTRACTS: chandler: cards, Cards. No conditions but those in the theorems' heads.
-/
import Derived.Test.YtahlnclapingiaaGreatDoorChDoneX
import Derived.Test.YtahlnclapingiaaGreatDoorStrBldX
import Derived.Lib.MakeNoZero
import Derived.Laws.IdiomCopy
import Derived.Test.YtahlnclapingiaaGreatDoorHrUseX
set_option linter.unusedSimpArgs false
set_option linter.unusedVariables false
namespace Go.Proofs.YtahlnclapingiaaGreatDoor
namespace Abs
namespace Ch
set_option maxRecDepth 4000
theorem zBy (s:ChShop) (ls:List (List UInt8)):zae Tryz.prog 14 [s.pv,zbt ls] (if za5 s ls=0 then .tuple [zbt (zaY s ls).2.1,.int .i64 0] else .tuple [.nilslice,.int .i64 (za5 s ls)]):=by
 refine zaa zad (fn:=Tryz.f14) (n:=20) (rs:=[.tmp 4,.tmp 5]) (by kernel_rfl) rfl rfl rfl zNo (Nat.le_of_ble_eq_true rfl) ?_
 simp only [go_sem,simprocAttr]
 refine zab (zxM s ls) rfl ?_
 by_cases he:za5 s ls=0
 ·simp only [zf1,if_pos he,he,zbt,go_sem,simprocAttr]
 ·simp only [zf1,if_neg he,zbt,go_sem,simprocAttr]
theorem zGO (s:ChShop) (ls:List (List UInt8)):zae Tryz.prog 38 [s.pv,zbt ls] (if za5 s ls=0 then .tuple [(zaY s ls).1.pv,.int .i64 0] else .tuple [.agg [.nilslice,.nilslice,.nilslice,.nilslice,.int .i64 0,.int .i64 0],.int .i64 (za5 s ls)]):=by
 refine zaa zad (fn:=Tryz.f38) (n:=26) (rs:=[.cell 4 54,.tmp 5]) (by kernel_rfl) rfl rfl rfl zNc (Nat.le_of_ble_eq_true rfl) ?_
 simp only [go_sem,simprocAttr]
 refine zab (zxM s ls) rfl ?_
 by_cases he:za5 s ls=0
 ·simp only [zf1,if_pos he,he,zbt,go_sem,simprocAttr]
 ·have hn:(za5 s ls != 0)=true:=by simpa using he
  simp only [zf1,if_neg he,hn,zbt,go_sem,simprocAttr]
end Ch
end Abs
end Go.Proofs.YtahlnclapingiaaGreatDoor
namespace Go.Proofs.YtahlnclapingiaaGreatDoor
namespace Abs
open Go.RowKit
set_option maxRecDepth 100000
theorem zsm {w:World} {b i:Nat} {v:Value} {o:Obj} (h:b<w.heap.size):((w.setCell ⟨b,i,none⟩ v).alloc o).heap=((w.alloc o).setCell ⟨b,i,none⟩ v).heap:=by
 apply Array.ext_getElem?
 intro k
 simp only [World.alloc,World.setCell,Array.getElem?_modify,Array.getElem?_push,Array.size_modify]
 by_cases hk:k=w.heap.size
 ·subst hk
  rw [if_pos rfl,if_neg (by omega),if_pos rfl]
 ·rw [if_neg hk,if_neg hk]
def zAk (b n:Nat) (w w':World):Prop:=∃ cs:Array Value,n≤cs.size∧w'.os=w.os∧w'.tape=w.tape∧w'.output=w.output ∧
 w'.heap=((w.alloc (.cells cs 5)).setCell ⟨b,1,none⟩ (.slice (some ⟨w.heap.size,0,none⟩) 0 cs.size)).heap
set_option maxHeartbeats 2000000 in
theorem zBQ (b n:Nat) (w:World) (hbk:w.heap[b]?=some (.cells #[.pointer (some ⟨b,0,none⟩),.slice none 0 0] 69 (0,0))) (hn:n≤281474976710656) :
  Calls Tryz.prog 163 #[.pointer (some ⟨b,0,none⟩),.int .i64 n] w fun e w'=>e=.returned (.tuple #[])∧zAk b n w w':=by
 obtain ⟨cs,hrun,hle,hmax⟩:=Lib.run_makeNoZero (P:=Tryz.prog) w.drew #[3] 67 5 Tryz.underlying67 n hn
 have hw:IntKind.i64.wrap (n:Int)=n:=by
  rw [IntKind.wrap_i64]
  omega
 have hcall:(callFunc 250 #[.int .i64 (IntKind.i64.wrap (n:Int))]).run Tryz.prog w.drew=.ok (.value (.slice (some ⟨w.drew.heap.size,0,none⟩) n cs.size)) (w.drew.drew.drew.alloc (.cells cs 5)):=by
  rw [hw,run_callFunc_extern Tryz.func250 (by kernel_rfl) (by kernel_rfl) (by kernel_rfl) (e:=Extern.BytealgMakeNoZero.makeNoZero #[3] #[67]) (by kernel_rfl),hrun]
  rfl
 have hlt:b<w.heap.size:=by
  rcases Nat.lt_or_ge b w.heap.size with h' | h'
  ·exact h'
  ·simp [Array.getElem?_eq_none h'] at hbk
 have c1:w.drew.cell? ⟨b,1,none⟩=some (.slice none 0 0):=by
  have:w.drew.heap[b]?=_:=hbk
  rw [zds this];rfl
 have c2:(w.alloc (.cells cs 5)).cell? ⟨b,1,none⟩=some (.slice none 0 0):=by
  have:(w.alloc (.cells cs 5)).heap[b]?=_:=(zde w _ b hlt).trans hbk
  rw [zds this];rfl
 have f2:(w.alloc (.cells cs 5)).frozen? ⟨b,1,none⟩=false:=by
  have:(w.alloc (.cells cs 5)).heap[b]?=_:=(zde w _ b hlt).trans hbk
  simp [World.frozen?,this]
 have hcopy:∀ W:World,(Builtin.copy_ #[67,67] 3 #[.slice (some ⟨w.heap.size,0,none⟩) 0 cs.size,.slice none 0 0]).run Tryz.prog W=.ok (goInt 0) W :=
  fun W=>run_copy_none W 67 67 3 5 _ _ 0 cs.size 0 0 Tryz.underlying67 (by kernel_rfl) rfl
 have hcomm:=zsm (w:=w) (b:=b) (i:=1) (v:=.slice (some ⟨w.heap.size,0,none⟩) 0 cs.size) (o:=.cells cs 5) hlt
 clear hw
 go_enter Tryz.func163,Tryz.ntmps163
 go_wp2
 go_region
 all_goals (go_wp2;go_end0;exact ⟨rfl,cs,hle,rfl,rfl,rfl,hcomm⟩)
theorem zsT {w:World} {b:Nat} {cs:Array Value} {T:TypeId} {fr:Nat×Nat} {v:Value} {i:Nat} (hb:w.heap[b]?=some (.cells cs T fr)) (hc:cs[i]?=some v):w.setCell ⟨b,i,none⟩ v=w:=by
 have h:(w.setCell ⟨b,i,none⟩ v).heap=w.heap:=by
  apply Array.ext_getElem?
  intro k
  simp only [World.setCell,Array.getElem?_modify]
  split
  ·rename_i hk
   subst hk
   have hcs:cs.setIfInBounds i v=cs:=by
    apply Array.ext_getElem?
    intro k
    rw [Array.getElem?_setIfInBounds]
    split
    ·rename_i hk
     subst hk
     rw [hc]
     split
     ·rfl
     ·rename_i hn
      exact absurd (Array.getElem?_eq_some_iff.1 hc).1 hn
    ·rfl
   rw [hb]
   simp [hcs]
  ·rfl
 cases w
 simp only [World.setCell] at h ⊢
 rw [h]
set_option maxHeartbeats 2000000 in
theorem zEJ (b n:Nat) (w:World) (p:Value) (hbk:w.heap[b]?=some (.cells #[p,.slice none 0 0] 69 (0,0))) (hp:p=.pointer none∨p=.pointer (some ⟨b,0,none⟩)) (h0:1≤n) (hn:n≤281474976710656) :
  Calls Tryz.prog 84 #[.pointer (some ⟨b,0,none⟩),.int .i64 n] w fun e w'=>e=.returned (.tuple #[])∧zAk b n (w.setCell ⟨b,0,none⟩ (.pointer (some ⟨b,0,none⟩))) w':=by
 have hbk1:(w.setCell ⟨b,0,none⟩ (.pointer (some ⟨b,0,none⟩))).heap[b]?=some (.cells #[.pointer (some ⟨b,0,none⟩),.slice none 0 0] 69 (0,0)):=by
  simp [World.setCell,Array.getElem?_modify,hbk]
 have c1:(w.setCell ⟨b,0,none⟩ (.pointer (some ⟨b,0,none⟩))).cell? ⟨b,1,none⟩=some (.slice none 0 0):=by rw [zds hbk1];rfl
 have hck:Calls Tryz.prog 47 #[.pointer (some ⟨b,0,none⟩)] w fun e w'=>e=.returned (.tuple #[])∧w'=w.setCell ⟨b,0,none⟩ (.pointer (some ⟨b,0,none⟩)):=by
  rcases hp with rfl | rfl
  ·exact zlb b w (by rw [zds hbk];rfl) (by simp [World.shape?,hbk]) (by simp [World.frozen?,hbk])
  ·refine (zmm b w (by rw [zds hbk];rfl)).mono ?_
   rintro e w' ⟨rfl,rfl⟩
   refine ⟨rfl,?_⟩
   exact (zsT hbk rfl).symm
 have c1':(w.setCell ⟨b,0,none⟩ (.pointer (some ⟨b,0,none⟩))).drew.cell? ⟨b,1,none⟩=some (.slice none 0 0):=c1
 go_enter Tryz.func84,Tryz.ntmps84
 go_wp2_with (go_at_call 47;refine hck.mono ?_;rintro e w' ⟨rfl,rfl⟩)
 go_region
 all_goals go_wp2_with (go_at_call 163;refine (zBQ b n (w.setCell ⟨b,0,none⟩ (.pointer (some ⟨b,0,none⟩))).drew hbk1 hn).mono ?_;rintro e w' ⟨rfl,h1⟩)
 all_goals (go_end0;exact ⟨rfl,h1⟩)
theorem zBd {h:Heap} {i n:Nat} (hi:h[i]?=some (.bld 69 5 (.p .nilslice))) (h0:1≤n) (hn:n≤281474976710656) :
  zap Tryz.prog 84 [.ref .bl i,.p (.int .i64 n)] h (fun r h'=>r=.ret (.p (.tuple []))∧h'=(h++[AObj.row 1 []]).set i (.bld 69 5 (.slice h.length 0 0 0))):=by
 intro M0 m w cargs hS ha
 have hnn:=ha.1
 have ha0:=ha.2 0 _ rfl
 have ha1:=ha.2 1 _ rfl
 obtain ⟨c0,c1,rfl⟩:∃ c0 c1,cargs=#[c0,c1]:=⟨cargs.getD 0 undef,cargs.getD 1 undef,by
  apply Array.ext
  ·simpa using hnn
  ·intro i h1 h2
   have:i=0∨i=1:=by simp at h2;omega
   rcases this with rfl | rfl<;>simp [h1]⟩
 have ha1':RepP (Avoid M0 m) w c1 (.int .i64 n):=ha1
 cases ha1'
 obtain ⟨b,p,v,hm,hb,hp,hxf,hr,hsh⟩:=hS.obj i _ hi
 have hm':m.getD i none=some b:=hm
 obtain rfl:c0=.pointer (some ⟨b,0,none⟩):=by
  rcases ha0.2 with hd | ⟨_,b',hb',hv⟩
  ·have hd':h[i]?=some .dead:=hd
   rw [hi] at hd';cases hd'
  ·have hb2:m.getD i none=some b':=hb'
   rw [hm'] at hb2
   cases hb2
   exact hv
 have hv:RepP (Avoid M0 m) w v .nilslice:=hr
 cases hv
 have hb0:w.heap[b]?=some (.cells #[p,.slice none 0 0] 69 (0,0)):=hb
 refine ⟨fun w'=>Go.Proofs.enters_of Tryz.func84 (by kernel_rfl) rfl _ w',?_⟩
 refine (zEJ b n w p hb0 hp h0 hn).mono ?_
 rintro e w' ⟨rfl,cs,hle,hos,htp,hout,hheap⟩
 have hb1:(w.setCell ⟨b,0,none⟩ (.pointer (some ⟨b,0,none⟩))).heap[b]?=some (.cells #[.pointer (some ⟨b,0,none⟩),.slice none 0 0] 69 (0,0)):=by
  simp [World.setCell,Array.getElem?_modify,hb0]
 obtain ⟨k1,e1⟩:=zp6 (S:=⟨m,h,w⟩) hS hi hm' hb0 (zgY _ _ _ _) hb1 (.inr rfl) (.inl rfl) (show zbr M0 ⟨m,h,w⟩ (.slice none 0 0) (.p .nilslice) from .nilslice) (fun a n c hv=>by cases hv)
 rw [show (Mem.mk m h w).h.set i (.bld 69 5 (.p .nilslice))=h from zh3 hi] at k1 e1
 have hln:m.length=h.length:=hS.len
 have k2:=HOk.new k1 (o:=.row 1 []) (ob:=.cells cs 5) (.inr ⟨_,5,cs,rfl,zaU _ _,by simp,fun i x hx=>by simp at hx⟩)
 have e2:=Ev.new h.length M0 k1 (Nat.le_refl _) (.row 1 []) (.cells cs 5)
 have hil:=(List.getElem?_eq_some_iff.1 hi).1
 have hi2:(h++[AObj.row 1 []])[i]?=some (.bld 69 5 (.p .nilslice)):=by rw [List.getElem?_append_left hil];exact hi
 have hm2:(m++[some (w.setCell ⟨b,0,none⟩ (.pointer (some ⟨b,0,none⟩))).heap.size]).getD i none=some b:=by
  rw [List.getD_eq_getElem?_getD,List.getElem?_append_left (by omega),←List.getD_eq_getElem?_getD]
  exact hm'
 have hbl:b<(w.setCell ⟨b,0,none⟩ (.pointer (some ⟨b,0,none⟩))).heap.size:=(Array.getElem?_eq_some_iff.1 hb1).1
 have hb2:((w.setCell ⟨b,0,none⟩ (.pointer (some ⟨b,0,none⟩))).alloc (.cells cs 5)).heap[b]?=some (.cells #[.pointer (some ⟨b,0,none⟩),.slice none 0 0] 69 (0,0)):=(zde _ _ _ hbl).trans hb1
 have hor:OnlyB b ((w.setCell ⟨b,0,none⟩ (.pointer (some ⟨b,0,none⟩))).alloc (.cells cs 5)) w':=by
  have ho:=zgY ((w.setCell ⟨b,0,none⟩ (.pointer (some ⟨b,0,none⟩))).alloc (.cells cs 5)) b 1 (.slice (some ⟨(w.setCell ⟨b,0,none⟩ (.pointer (some ⟨b,0,none⟩))).heap.size,0,none⟩) 0 cs.size)
  refine ⟨hos.trans rfl,htp.trans rfl,hout.trans rfl,?_,?_⟩
  ·rw [hheap];exact ho.size
  ·intro k hk;rw [hheap];exact ho.block k hk
 have hshape:((w.setCell ⟨b,0,none⟩ (.pointer (some ⟨b,0,none⟩))).alloc (.cells cs 5)).shape? (w.setCell ⟨b,0,none⟩ (.pointer (some ⟨b,0,none⟩))).heap.size=some (5,cs.size):=by
  unfold World.shape?
  rw [zaU]
 obtain ⟨k3,e3⟩:=zp6 (S:=⟨m++[some (w.setCell ⟨b,0,none⟩ (.pointer (some ⟨b,0,none⟩))).heap.size],h++[.row 1 []],(w.setCell ⟨b,0,none⟩ (.pointer (some ⟨b,0,none⟩))).alloc (.cells cs 5)⟩)
  (w':=w') (p':=.pointer (some ⟨b,0,none⟩)) (v':=.slice (some ⟨(w.setCell ⟨b,0,none⟩ (.pointer (some ⟨b,0,none⟩))).heap.size,0,none⟩) 0 cs.size) (x':=.slice h.length 0 0 0) k2 hi2 hm2 hb2 hor
  (by rw [hheap];simp [World.setCell,Array.getElem?_modify] at hb2 ⊢;simp [hb2]) (.inr rfl) (.inr ⟨_,_,rfl⟩)
  ⟨⟨_,_,_,rfl⟩,.inr ⟨1,[],by simp,Nat.le_refl _,fun _=>.inr (.inl ⟨(w.setCell ⟨b,0,none⟩ (.pointer (some ⟨b,0,none⟩))).heap.size,cs.size,5,cs.size,by simp [hln.symm],by simp,⟨Nat.zero_le _,Nat.le_refl _⟩,hshape,by simp,Nat.zero_le _⟩)⟩⟩
  (fun a n c hv=>by cases hv;exact ⟨_,hshape⟩)
 exact ⟨.ret (.p (.tuple [])),_,_,⟨rfl,rfl⟩,(e1.trans e2).trans (e3.mono (by simp)),k3,.tuple rfl fun i c hi=>by simp at hi⟩
end Abs
end Go.Proofs.YtahlnclapingiaaGreatDoor
namespace Go.Proofs.YtahlnclapingiaaGreatDoor
namespace Abs
set_option maxRecDepth 4000
def repL (a b:UInt8) (l:List UInt8):List UInt8:=l.map fun x=>if x=a then b else x
theorem zfl (a b:UInt8) (l:List UInt8):(repL a b l).length=l.length:=by simp [repL]
theorem zor (a b:UInt8) (x y:List UInt8):repL a b (x++y)=repL a b x++repL a b y:=by simp [repL]
theorem znw (a b:UInt8):∀ l:List UInt8,l.count a=0→repL a b l=l
 |[],_=>rfl
 |x::r,h=>by
  rw [List.count_cons] at h
  have hx:x≠a:=fun e=>by subst e;simp at h
  have:=znw a b r (by omega)
  unfold repL at this ⊢
  rw [List.map_cons,this,if_neg hx]
theorem zl6 (a:UInt8):∀ l:List UInt8,(zav a l).1.count a=0
 |[]=>rfl
 |x::r=>by
  unfold zav
  by_cases hx:x=a
  ·rw [if_pos hx];rfl
  ·rw [if_neg hx]
   show (x::(zav a r).1).count a=0
   rw [List.count_cons_of_ne hx]
   exact zl6 a r
theorem zBu (a:UInt8) {l:List UInt8} (h:l.count a≠0):∃ p r,l=p++a::r∧p.count a=0∧Lib.indexByte l a=(p.length:Int):=by
 rcases zgu a l with ⟨h1,h2,h3⟩ | ⟨r,h1,h2,h3⟩
 ·exact absurd (h2▸zl6 a l) h
 ·exact ⟨_,r,h3,zl6 a l,h2⟩
set_option maxHeartbeats 2000000 in
theorem zBC (l:List UInt8) (a b:UInt8) (hab:a≠b) (hl:l.length≤900000):zae Tryz.prog 51 [.str (bs l),.str (bs [a]),.str (bs [b]),.int .i64 (-1)] (.str (bs (repL a b l))):=by
 have e0:(bs [a]==bs [b])=false:=by rw [zbZ];simpa using hab
 refine zaa zad (fn:=Tryz.f51) (n:=104) (rs:=[.tmp 8]) (by kernel_rfl) rfl rfl rfl zM3 (Nat.le_of_ble_eq_true rfl) ?_
 simp only [e0,go_sem,simprocAttr]
 refine zab (zzV (bs l) a) rfl ?_
 rw [zdr]
 by_cases h0:l.count a=0
 ·have e1:((Lib.countByte l a:Nat):Int)=0:=by simpa [Lib.countByte] using h0
  simp only [e1,go_sem,simprocAttr]
  rw [znw a b l h0]
 ·have hcl:=List.count_le_length (a:=a) (l:=l)
  obtain ⟨k,hk⟩:∃ k,l.count a=k+1:=⟨l.count a-1,by omega⟩
  have e1:((Lib.countByte l a:Nat):Int)=((k+1:Nat):Int):=by rw [Lib.countByte,hk]
  have e2:(((k+1:Nat):Int)==0)=false:=by simp;omega
  simp only [e1,e2,zao,List.length_singleton,go_sem,simprocAttr]
  have hl0:1≤l.length:=by omega
  have e3:IntKind.i64.wrap ((l.length:Int)+IntKind.i64.wrap (((k+1:Nat):Int)*0))=((l.length:Nat):Int):=by
   rw [Int.mul_zero,show IntKind.i64.wrap 0=0 from rfl,Int.add_zero]
   exact zaj (by omega) (by omega)
  rw [e3]
  refine zbk (zBd (n:=l.length) rfl hl0 (by omega)) ?_
  have z1:decide (0<(((bs [a]).size:Nat):Int))=true:=rfl
  simp only [z1,go_sem,simprocAttr]
  refine zcZ [0,1,2,10,52] (σ:=List UInt8×List UInt8) (fun q=>l=q.1++q.2) (fun q=>q.2.length)
   (fun q=>[(11,.p (.int .i64 q.1.length)),(53,.p (.int .i64 ((q.1.count a:Nat):Int)))])
   (fun q=>[.bld 69 5 (.slice 1 q.1.length 0 q.1.length),.row 1 (zdH (bs (repL a b q.1)))]) ([],l) rfl rfl ?_ ?_
  ·simp only [List.count_nil,go_sem,simprocAttr]
  rintro ⟨done,rest⟩ e4
  dsimp only at e4
  have hcnt:l.count a=done.count a+rest.count a:=by rw [e4,List.count_append]
  have hlen:=congrArg List.length e4
  rw [List.length_append] at hlen
  have hle:((done.length:Nat):Int)≤((bs l).size:Int):=by rw [zao];omega
  have hex:(bs l).extract done.length (bs l).size=bs rest:=by
   rw [zcN,zao,List.take_length]
   congr 1
   rw [e4]
   simp
  rcases Nat.eq_zero_or_pos (rest.count a) with hz | hp
  ·have hlt:¬ (((done.count a:Nat):Int)<((k+1:Nat):Int)):=by omega
   simp only [hlt,decide_false,hle,hex,go_sem,simprocAttr]
   refine zbk (zhM (s:=bs rest) (j:=1) rfl rfl (by rw [zfw,zao,zfl]) (by decide) (by rw [zao];omega)) ?_
   have hr:repL a b done++rest=repL a b l:=by rw [e4,zor,znw a b rest hz]
   have hq:done.length+(bs rest).size=(bs (repL a b l)).size:=by rw [zao,zao,zfl];omega
   simp only [zfI,zdI,hr,hq,go_sem,simprocAttr]
   refine zbk (zlU (j:=1) (s:=bs (repL a b l)) rfl rfl (by rw [zao,zfl];omega) (by rw [zao,zfl];omega)) ?_
   simp only [go_sem,simprocAttr]
  ·obtain ⟨p,r,e5,e6,e7⟩:=zBu a (l:=rest) (by omega)
   have hlt:(((done.count a:Nat):Int)<((k+1:Nat):Int)):=by omega
   have hrl:=congrArg List.length e5
   simp only [List.length_append,List.length_cons] at hrl
   simp only [hlt,decide_true,hle,hex,go_sem,simprocAttr]
   refine zab (zt8 (bs rest) a) rfl ?_
   rw [zdr,e7]
   have q1:IntKind.i64.wrap ((done.length:Int)+(p.length:Int))=((done.length+p.length:Nat):Int):=za9 (by omega) (by simp [zar];omega) (by simp)
   have q2:((done.length+p.length:Nat):Int)≤((bs l).size:Int):=by rw [zao];omega
   have q3:(((done.length:Nat):Int)≤((done.length+p.length:Nat):Int)):=by omega
   have q4:(bs l).extract done.length (done.length+p.length)=bs p:=by
    rw [zcN]
    congr 1
    rw [e4,e5]
    simp [List.take_append]
   have q5:IntKind.i64.wrap (((done.length+p.length:Nat):Int)+1)=(((done++(p++[a])).length:Nat):Int):=za9 (by omega) (by simp [zar];omega) (by simp;omega)
   have q6:IntKind.i64.wrap (((done.count a:Nat):Int)+1)=(((done++(p++[a])).count a:Nat):Int):=za9 (by omega) (by simp [zar];omega) (by simp [e6])
   simp only [q1,q2,q3,q4,go_sem,simprocAttr]
   refine zbk (zhM (s:=bs p) (j:=1) rfl rfl (by rw [zfw,zao,zfl]) (by decide) (by rw [zao];omega)) ?_
   simp only [zfI,zdI,go_sem,simprocAttr]
   refine zbk (zhM (s:=bs [b]) (j:=1) rfl rfl (by rw [zfw,zao,zao,List.length_append,zfl]) (by decide) (by rw [zao,zao];simp;omega)) ?_
   simp only [zfI,zdI,zao,List.length_singleton,q5,go_sem,simprocAttr]
   refine zaS (done++(p++[a]),r) (by rw [e4,e5];simp) (by show r.length<rest.length;omega) ?_ ?_
   ·have h1:repL a b (done++(p++[a]))=repL a b done++p++[b]:=by
     rw [zor,zor,znw a b p e6,List.append_assoc]
     simp [repL]
    have h2:(done++(p++[a])).length=done.length+p.length+1:=by simp;omega
    show _=[AObj.bld 69 5 (.slice 1 (done++(p++[a])).length 0 (done++(p++[a])).length),AObj.row 1 (zdH (bs (repL a b (done++(p++[a])))))]
    rw [h1,h2]
   simp only [q6,go_sem,simprocAttr]
theorem zoh (l:List UInt8) (a b:UInt8) (hab:a≠b) (hl:l.length≤900000):zae Tryz.prog 26 [.str (bs l),.str (bs [a]),.str (bs [b])] (.str (bs (repL a b l))):=by
 refine zaa zad (fn:=Tryz.f26) (n:=11) (rs:=[.tmp 6]) (by kernel_rfl) rfl rfl rfl zNf (Nat.le_of_ble_eq_true rfl) ?_
 simp only [go_sem,simprocAttr]
 refine zab (zBC l a b hab hl) rfl ?_
 simp only [go_sem,simprocAttr]
end Abs
end Go.Proofs.YtahlnclapingiaaGreatDoor
namespace Go.Proofs.YtahlnclapingiaaGreatDoor
namespace Abs
namespace Ch
set_option maxRecDepth 4000
def zjn (i:Nat) (x:List UInt8):List UInt8:=dec ((i+1:Nat):Int)++[32]++repL 10 47 x++[10]
theorem zrL {i:Nat} {x:List UInt8} (hi:i≤50):(zjn i x).length≤x.length+10:=by
 have:=zie (n:=((i+1:Nat):Int)) (by omega) (by omega)
 simp only [zjn,List.length_append,zfl,List.length_singleton]
 omega
def zqL (l:List (List UInt8)):PV:=.func (.func 46) [] [.ptr 1 [zbt l] 0 0]
theorem zEC (l:List (List UInt8)):zae Tryz.prog 19 [zbt l] (zqL l):=by
 refine zbT zad (fn:=Tryz.f19) (n:=4) (rs:=[.tmp 2]) (by kernel_rfl) rfl rfl rfl zNj (Nat.le_of_ble_eq_true rfl) ?_
 simp only [zqL,zbt,go_sem,simprocAttr]
set_option maxHeartbeats 1000000 in
theorem zBc (l:List (List UInt8)) (hl:l.length≤40) (hw:∀ x,x∈l→x.length≤1000) (id:Nat) (h0:Heap) (Inv:List (List UInt8)→Heap→Prop)
  (hy:∀ done x rest h,l=done++x::rest→Inv done h→zkM Tryz.prog id [.p (.str (bs (zjn done.length x)))] h (fun r h'=>r=.ret (.p (.bool true))∧Inv (done++[x]) h')) (hi:Inv [] h0) :
  zap Tryz.prog 46 [.ref .yl id,.p (.ptr 1 [zbt l] 0 0)] h0 (fun r h'=>r=.ret (.p (.tuple []))∧Inv l h'):=by
 refine zan zad (fn:=Tryz.f46) (n:=24) (rs:=[]) (by kernel_rfl) rfl rfl rfl zM5 (Nat.le_of_ble_eq_true rfl) ?_
 simp only [zbt,go_sem,simprocAttr]
 refine zcZ [0,5,6] (σ:=List (List UInt8)×List (List UInt8)×Heap) (fun q=>l=q.1++q.2.1∧Inv q.1 q.2.2) (fun q=>q.2.1.length)
  (fun q=>[(7,.p (.int .i64 q.1.length))]) (fun q=>q.2.2) ([],l,h0) ⟨rfl,hi⟩ rfl ?_ ?_
 ·simp only [go_sem,simprocAttr]
 rintro ⟨done,rest,h⟩ ⟨e1,e2⟩
 dsimp only at e1 e2
 cases rest with
 |nil =>
  have hlt:¬ ((done.length:Int)<(l.length:Int)):=by rw [e1];simp
  simp only [hlt,decide_false,go_sem,simprocAttr]
  rw [List.append_nil] at e1
  rw [e1]
  exact e2
 |cons x rest =>
  obtain ⟨hx,hlt⟩:=zeb e1
  have hlen:=congrArg List.length e1
  simp only [List.length_append,List.length_cons] at hlen
  have hnx:IntKind.i64.wrap ((done.length:Int)+1)=(((done++[x]).length:Nat):Int):=za9 (by omega) (by simp [zar];omega) (by simp)
  have hn1:IntKind.i64.wrap ((done.length:Int)+1)=((done.length+1:Nat):Int):=za9 (by omega) (by simp [zar];omega) (by simp)
  have hxl:=hw x (by rw [e1];simp)
  have hd:=zie (n:=((done.length+1:Nat):Int)) (by omega) (by omega)
  have hit:=zha (n:=((done.length+1:Nat):Int)) (by omega)
  have c1:(⟨#[32]⟩:ByteArray)=bs [32]:=rfl
  have c2:(⟨#[10]⟩:ByteArray)=bs [10]:=rfl
  have c3:(⟨#[47]⟩:ByteArray)=bs [47]:=rfl
  have hyy:=hy done x rest h e1 e2
  rw [show zjn done.length x=dec ((done.length+1:Nat):Int)++[32]++repL 10 47 x++[10] from rfl] at hyy
  generalize dec ((done.length+1:Nat):Int)=D at hd hit hyy
  have q1:(bs (D)).size+(bs [32]).size≤zb0:=by simp [zao,zb0];omega
  have q2:(bs (D++[32])).size+(bs (repL 10 47 x)).size≤zb0:=by simp [zao,zb0,zfl];omega
  have q3:(bs (D++[32]++repL 10 47 x)).size+(bs [10]).size≤zb0:=by simp [zao,zb0,zfl];omega
  simp only [hlt,decide_true,hx,hn1,go_sem,simprocAttr]
  refine zab (znP ((done.length+1:Nat):Int) (by omega) (by omega)) rfl ?_
  simp only [hit,c1,q1,zdI,go_sem,simprocAttr]
  refine zab (zoh x 10 47 (by decide) (by omega)) rfl ?_
  simp only [c2,q2,q3,zdI,go_sem,simprocAttr]
  refine ziV hyy (fun v h' hr=>?_) (fun v h' hr=>?_)
  ·obtain ⟨hr,hI⟩:=hr
   cases hr
   simp only [go_sem,simprocAttr]
   refine zaS (done++[x],rest,h') ⟨by rw [e1];simp,hI⟩ (Nat.lt_succ_self _) rfl ?_
   simp only [hnx,go_sem,simprocAttr]
  ·cases hr.1
def zeS (l:List (List UInt8)):List UInt8:=(l.mapIdx zjn).flatten
theorem zoe (l:List (List UInt8)) (x:List UInt8):zeS (l++[x])=zeS l++zjn l.length x:=by
 unfold zeS
 rw [List.mapIdx_concat]
 simp
theorem zof:∀ (n:Nat) (l r:List (List UInt8)),l.length=n→(l++r).length≤40→(∀ x,x∈l++r→x.length≤400)→(zeS l).length≤410*n
 |0,l,r,h0,_,_=>by
  rw [List.eq_nil_of_length_eq_zero h0]
  exact Nat.le_refl _
 |n+1,l,r,h0,h1,h2=>by
  rcases List.eq_nil_or_concat l with rfl | ⟨l,x,rfl⟩
  ·cases h0
  rw [List.concat_eq_append] at h0 h1 h2 ⊢
  have h0':l.length=n:=by simpa using h0
  have h3:=zof n l ([x]++r) h0' (by simpa using h1) (by simpa using h2)
  have h4:=h2 x (by simp)
  have h5:=zrL (i:=l.length) (x:=x) (by simp at h1;omega)
  rw [zoe,List.length_append]
  omega
theorem zpW (l r:List (List UInt8)) (h1:(l++r).length≤40) (h2:∀ x,x∈l++r→x.length≤400):(zeS l).length≤410*l.length:=zof _ l r rfl h1 h2
theorem zBw (i:Nat) (x:List UInt8):(zjn i x).length≠0:=by simp [zjn]
theorem zyF {l:List UInt8} {c:Cmd} (h:say l=.ok c):l.length≤400:=by
 unfold say at h
 split at h
 ·cases h
 ·omega
theorem zwZ {s:ChShop} {q:ChBooks×List (List UInt8)×List (List UInt8)} {l:List UInt8} (hq:∀ x,x∈q.2.2→x.length≤400):∀ x,x∈(zc1 s q l).2.2→x.length≤400:=by
 unfold zc1
 split
 ·exact hq
 ·rename_i b a w hd
  dsimp only
  split
  ·intro x hx
   rcases List.mem_append.1 hx with hx | hx
   ·exact hq x hx
   ·simp only [List.mem_singleton] at hx
    subst hx
    unfold zeQ at hd
    split at hd
    ·cases hd
    ·rename_i c hc
     exact zyF hc
  ·exact hq
theorem zpP {s:ChShop}:∀ (d:List (List UInt8)) (q:ChBooks×List (List UInt8)×List (List UInt8)),(∀ x,x∈q.2.2→x.length≤400)→∀ x,x∈(d.foldl (zc1 s) q).2.2→x.length≤400
 |[],q,h=>h
 |l::d,q,h=>zpP d (zc1 s q l) (zwZ h)
theorem zyG (s:ChShop) (d:List (List UInt8)):∀ x,x∈(zaY s d).2.2→x.length≤400:=zpP d _ (fun x hx=>(by cases hx))
def zl7 (n:Nat):AV:=if n=0 then .p .nilslice else .slice 4 n 0 n
def ziR (t:List UInt8):Heap:=if t.length=0 then [] else [.row 1 (zdH (bs t))]
def zkH (s:ChShop) (o:AObj) (t:List UInt8):Heap:=[.row 17 [.p s.pv],.bld 69 5 (zl7 t.length),.dblock,o]++ziR t
def zig (s:ChShop) (ls:List (List UInt8)):PV:=if za5 s ls=0 then .tuple [.str (bs (zeS (zaY s ls).2.2)),.int .i64 0] else .tuple [.str (bs []),.int .i64 (za5 s ls)]
set_option maxHeartbeats 2000000 in
theorem zGN (s:ChShop) (ls:List (List UInt8)):zae Tryz.prog 5 [s.pv,zbt ls] (zig s ls):=by
 refine zaa zad (fn:=Tryz.f5) (n:=29) (rs:=[.tmp 4,.tmp 5]) (by kernel_rfl) rfl rfl rfl ok5 (Nat.le_of_ble_eq_true rfl) ?_
 simp only [go_sem,simprocAttr]
 refine zab (zxM s ls) rfl ?_
 by_cases he:za5 s ls=0
 rotate_left
 ·have hn:(za5 s ls != 0)=true:=by simpa using he
  simp only [zf1,if_neg he,hn,zig,go_sem,simprocAttr]
  rfl
 have hlen:(zaY s ls).2.2.length≤40:=by
  have h1:=(zv1 s ls).2
  unfold za5 at he
  split at he
  ·split at he
   ·cases he
   ·omega
  ·exact absurd he (by assumption)
 have hsh:=zyG s ls
 simp only [zf1,if_pos he,he,zig,go_sem,simprocAttr]
 generalize hw0:(zaY s ls).2.2=w at hlen hsh
 refine zab (zEC w) rfl ?_
 simp only [go_sem,simprocAttr]
 refine zuB (f:=46) (args:=[.ref .yl 3,.p (.ptr 1 [zbt w] 0 0)])
  (R:=fun r h=>r=.ret (.p (.tuple []))∧∃ o,h=zkH s o (zeS w))
  rfl (by simp only [zqL,go_sem,simprocAttr]) zad (by kernel_rfl) (by kernel_rfl) (by kernel_rfl) (fun oR oB oD hround=>?_) (fun v h hr=>by cases hr.1)
 have hT1:∀ t o,(zkH s o t)[3]?=some o:=fun t o=>rfl
 refine (zBc w hlen (fun x hx=>Nat.le_trans (hsh x hx) (by decide)) 3 _ (fun done h=>h=zkH s oR (zeS done)) ?_ rfl).mono ?_
 ·rintro done x rest h hd rfl
  have hcl:=zpW done (x::rest) (by rw [←hd];exact hlen) (by rw [←hd];exact hsh)
  have hdl:done.length≤40:=by rw [hd] at hlen;simp at hlen;omega
  have hx1:=zrL (i:=done.length) (x:=x) (by omega)
  have hx2:=hsh x (by rw [hd];simp)
  have hx3:=zBw done.length x
  refine hround _ _ _ rfl (hT1 _ _) ?_
  clear hround
  rw [zoe]
  generalize zeS done=t at hcl
  generalize zjn done.length x=y at hx1 hx3
  have hty:(t++y).length≠0:=by rw [List.length_append];omega
  by_cases ht:t.length=0
  ·have ht':t=[]:=List.eq_nil_of_length_eq_zero ht
   subst ht'
   simp only [zkH,zl7,ziR,List.length_nil,if_pos,go_sem,simprocAttr]
   refine zbk (zn5 (s:=bs y) rfl (by rw [zao];omega) (by rw [zao];exact hx3)) ?_
   simp only [zao,go_sem,simprocAttr]
   refine ⟨rfl,?_⟩
   rw [zkH,zl7,ziR,if_neg hx3,if_neg hx3]
   rfl
  ·simp only [zkH,zl7,ziR,if_neg ht,go_sem,simprocAttr]
   refine zbk (zhM (s:=bs y) (j:=4) rfl rfl (by rw [zfw,zao]) (by decide) (by rw [zao];omega)) ?_
   simp only [zao,zfI,zdI,go_sem,simprocAttr]
   refine ⟨by rw [zkH,ziR,if_neg ht];rfl,?_⟩
   rw [zkH,zl7,ziR,if_neg hty,if_neg hty,List.length_append]
   rfl
 ·rintro r h ⟨rfl,rfl⟩
  refine ⟨⟨rfl,oR,rfl⟩,fun v hv=>.inl ⟨hT1 _ _,?_⟩⟩
  clear hround
  have hcl:=zpW w [] (by simpa using hlen) (by simpa using hsh)
  by_cases ht:(zeS w).length=0
  ·have ht':zeS w=[]:=List.eq_nil_of_length_eq_zero ht
   rw [ht']
   simp only [zkH,zl7,ziR,List.length_nil,go_sem,simprocAttr]
   refine zbk (zzw rfl) ?_
   simp only [zaX,go_sem,simprocAttr]
   rw [zig,if_pos he,hw0,ht']
   rfl
  ·simp only [zkH,zl7,ziR,if_neg ht,go_sem,simprocAttr]
   refine zbk (zlU (j:=4) (s:=bs (zeS w)) (by rw [zao];rfl) rfl (by rw [zao];exact ht) (by rw [zao];omega)) ?_
   simp only [zaX,go_sem,simprocAttr]
   rw [zig,if_pos he,hw0]
end Ch
end Abs
end Go.Proofs.YtahlnclapingiaaGreatDoor
