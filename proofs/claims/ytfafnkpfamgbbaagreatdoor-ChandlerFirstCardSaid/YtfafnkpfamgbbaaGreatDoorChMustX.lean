/-
  CONTRACTS: chandler: must, find, said. No conditions but those in the theorems' heads.
  CONTRACTS: chandler: said. No conditions but those in the theorems' heads.
  CONTRACTS: hour.Broken, as new memory. No conditions but those in the theorems' heads.
-/
import Derived.Test.YtfafnkpfamgbbaaGreatDoorAbsCutX
import Derived.Test.YtfafnkpfamgbbaaGreatDoorChSpecX
import Derived.Test.YtfafnkpfamgbbaaGreatDoorHrUseX
set_option linter.unusedSimpArgs false
set_option linter.unusedVariables false
open Go.Proofs.Tryz renaming prog->TP
namespace Go.Proofs.YtfafnkpfamgbbaaGreatDoor
namespace Abs
namespace Ch
set_option maxRecDepth 4000
def rf (P:Program) (f:FuncId) (pargs:List PV) (e:PV):Prop :=
 ∀ (M0:Nat->Prop) (w:World) (cargs:Array Value),(∀ b,M0 b->b<w.heap.size)->tA P w->pk M0 w cargs pargs ->
  (∀ w',(callFunc f cargs).run P w'=.ok (.enter f cargs) w') /\
  Calls P f cargs w λen w'=>∃ v',en=.panicked [{ v:=v',recovered:=false }]/\RepP M0 w' v' e/\Fr [] w w'
theorem fZ {P} {f} {pargs} {e} (h:ay P f (pargs.map .p) [] (λr _=>r=.panic e)):rf P f pargs e:=by
 intro M0 w cargs hM hg ha;have ha':da (Rep M0 ⟨[],[],w⟩) cargs (pargs.map .p):=by
  refine ⟨by simpa using ha.1,λi c hc=>?_⟩;simp only [cg,bz] at hc;obtain ⟨q,hq,rfl⟩:=hc;exact aD ((ha.2 i q hq).mono (λ_ _ _=>rfl) (λb hb=>by
   rcases hb with hb | hb
   .exact .inl hb
   .simp [Own] at hb))
 have:=h M0 [] w cargs (pu hM hg) ha';refine ⟨this.1,this.2.mono λen w' hh=>?_⟩;obtain ⟨r,h',m',rfl,hev,hk,hend⟩:=hh
 cases en with
 |returned v'=>exact hend.elim
 |panicked ch =>
  obtain ⟨v',h1,h2⟩:=hend
  exact ⟨v',by rw [h1],RepP.less h2 (λb hb=>.inl hb),hev.fr⟩
 |outgrown=>exact hend.elim
theorem Bv {P} {f} {args} {pargs} {e} {h} (hc:rf P f pargs e) (ha:oz h args=some pargs) (hv:Flat e):ay P f args h (λr h'=>r=.panic e/\h'=h):=by
 intro M0 m w cargs hS hargs;obtain ⟨hl,hg⟩:=zF ha;have hpa:pk M0 w cargs pargs:=by
  refine ⟨by rw [hargs.1,hl],λi c hi=>?_⟩;obtain ⟨a,h1,h2⟩:=hg i c hi;exact pV (S:=⟨m,h,w⟩) hS (hargs.2 i a h1) h2
 obtain ⟨h1,h2⟩:=hc M0 w cargs (λb hb=>(hS.m0 b hb).1) hS.gl.1 hpa;refine ⟨h1,h2.mono λen w' hh=>?_⟩;obtain ⟨v',rfl,hr,hfr⟩:=hh;obtain ⟨hk,hev⟩:=qC hS hfr;exact ⟨.panic e,_,m,⟨rfl,rfl⟩,hev,hk,⟨v',rfl,hv.rep hr⟩⟩
theorem qb {P} {H} {Q} {ops} {rest} {dst} {A} {f} {args} {pargs} {e} (hc:rf P f pargs e) (ha:oz A.h args=some pargs) (hv:Flat e)
  (h2:@WQ ⟨Q⟩ (.panic e) A):@WF ⟨P,H,ops,rest,Q,dst⟩ A f args :=
 bW (Bv hc ha hv) (λv h hr=>by cases hr.1) (λv h hr=>by obtain ⟨e,rfl⟩:=hr;cases e;exact h2)
def fo (e:Int):PV:=.iface 43 (.int .i64 e)
attribute [go_sem] fo
theorem lI (e):Flat (fo e):=.iface (.int _ _)
theorem vB (b) (e) (h):ay TP 94 [.p (.bool b),.p (.int .i64 e)] h (λr h'=>h'=h/\r=if b=true then .ret (.p (.tuple [])) else .panic (fo e)):=by
 refine ax (ai (by kernel_rfl) rfl Yw) rfl ?_;simp only [go_sem,simprocAttr];cases b
 .simp only [go_sem,simprocAttr]
 .simp only [go_sem,simprocAttr]
theorem aq {H} {Q} {ops} {rest} {dst} {A} {b} {e} (h1:b=true->@WO ⟨TP,H,ops,rest,Q⟩ (A.put dst (.p (.tuple [])) A.h))
  (h2:b=false->@WQ ⟨Q⟩ (.panic (fo e)) A):@WF ⟨TP,H,ops,rest,Q,dst⟩ A 94 [.p (.bool b),.p (.int .i64 e)]:=by
 refine bW (vB b e A.h) (λv h hr=>?_) (λv h hr=>?_)
 .obtain ⟨rfl,hr⟩:=hr;cases b
  .cases hr
  .cases hr;exact h1 rfl
 .obtain ⟨rfl,hr⟩:=hr;cases b
  .cases hr;exact h2 rfl
  .cases hr
theorem Px (x:WxKind):ah TP 175 [x.pv] (.str x.name):=by
 refine aa (ai (by kernel_rfl) rfl Vc) rfl ?_;simp only [go_sem,simprocAttr]
theorem Gw (s) (x:WxKind):ah TP 248 [x.pv,.ptr 1 [.func (.func 175) [] []] 0 0,.ptr 1 [.str s] 0 0] (.bool (x.name==s)):=by
 refine aa (ai (by kernel_rfl) rfl Uq) rfl ?_;simp only [go_sem,simprocAttr];refine aC (Px x) rfl ?_;simp only [go_sem,simprocAttr]
theorem RT (l) (s) (b) (hl:l.length<1000000000) (h0:0<=au (λx=>x.name==s) l 0) :
  ah TP 174 [.slice 2 (l.map WxKind.pv) b,.str s,.func (.func 175) [] []] (.int .i64 (au (λx=>x.name==s) l 0)):=by
 refine aa (ai (by kernel_rfl) rfl Nz) rfl ?_;simp only [go_sem,simprocAttr];refine bh (q8 (fv:=.func (.func 248) [] [.ptr 1 [.func (.func 175) [] []] 0 0,.ptr 1 [.str s] 0 0]) l (λy=>y.name==s) b 2 rfl hl λy _=>⟨_,_,_,rfl,Gw s y⟩) ?_ (.int _ _) ?_
 .simp only [go_sem,simprocAttr]
 have hd:decide (0<=au (λx:WxKind=>x.name==s) l 0)=true:=by simpa using h0
 simp only [hd,go_sem,simprocAttr];refine aq (λ_=>?_) (λh=>by cases h);simp only [go_sem,simprocAttr]
theorem QM (l) (s) (b) (hl:l.length<1000000000) (h0:au (λx=>x.name==s) l 0<0) :
  rf TP 174 [.slice 2 (l.map WxKind.pv) b,.str s,.func (.func 175) [] []] (fo 4):=by
 refine fZ ?_;refine ax (ai (by kernel_rfl) rfl Nz) rfl ?_;simp only [go_sem,simprocAttr];refine bh (q8 (fv:=.func (.func 248) [] [.ptr 1 [.func (.func 175) [] []] 0 0,.ptr 1 [.str s] 0 0]) l (λy=>y.name==s) b 2 rfl hl λy _=>⟨_,_,_,rfl,Gw s y⟩) ?_ (.int _ _) ?_
 .simp only [go_sem,simprocAttr]
 have hd:decide (0<=au (λx:WxKind=>x.name==s) l 0)=false:=by simpa using h0
 simp only [hd,go_sem,simprocAttr];refine aq (λh=>by cases h) (λ_=>?_);simp only [go_sem,simprocAttr]
theorem Pw (x:ClColour):ah TP 180 [x.pv] (.str x.name):=by
 refine aa (ai (by kernel_rfl) rfl U9) rfl ?_;simp only [go_sem,simprocAttr]
theorem Gv (s) (x:ClColour):ah TP 252 [x.pv,.ptr 1 [.func (.func 180) [] []] 0 0,.ptr 1 [.str s] 0 0] (.bool (x.name==s)):=by
 refine aa (ai (by kernel_rfl) rfl Nr) rfl ?_;simp only [go_sem,simprocAttr];refine aC (Pw x) rfl ?_;simp only [go_sem,simprocAttr]
theorem RS (l) (s) (b) (hl:l.length<1000000000) (h0:0<=au (λx=>x.name==s) l 0) :
  ah TP 179 [.slice 4 (l.map ClColour.pv) b,.str s,.func (.func 180) [] []] (.int .i64 (au (λx=>x.name==s) l 0)):=by
 refine aa (ai (by kernel_rfl) rfl BV) rfl ?_;simp only [go_sem,simprocAttr];refine bh (lf (fv:=.func (.func 252) [] [.ptr 1 [.func (.func 180) [] []] 0 0,.ptr 1 [.str s] 0 0]) l (λy=>y.name==s) b 4 rfl hl λy _=>⟨_,_,_,rfl,Gv s y⟩) ?_ (.int _ _) ?_
 .simp only [go_sem,simprocAttr]
 have hd:decide (0<=au (λx:ClColour=>x.name==s) l 0)=true:=by simpa using h0
 simp only [hd,go_sem,simprocAttr];refine aq (λ_=>?_) (λh=>by cases h);simp only [go_sem,simprocAttr]
theorem QL (l) (s) (b) (hl:l.length<1000000000) (h0:au (λx=>x.name==s) l 0<0) :
  rf TP 179 [.slice 4 (l.map ClColour.pv) b,.str s,.func (.func 180) [] []] (fo 4):=by
 refine fZ ?_;refine ax (ai (by kernel_rfl) rfl BV) rfl ?_;simp only [go_sem,simprocAttr];refine bh (lf (fv:=.func (.func 252) [] [.ptr 1 [.func (.func 180) [] []] 0 0,.ptr 1 [.str s] 0 0]) l (λy=>y.name==s) b 4 rfl hl λy _=>⟨_,_,_,rfl,Gv s y⟩) ?_ (.int _ _) ?_
 .simp only [go_sem,simprocAttr]
 have hd:decide (0<=au (λx:ClColour=>x.name==s) l 0)=false:=by simpa using h0
 simp only [hd,go_sem,simprocAttr];refine aq (λh=>by cases h) (λ_=>?_);simp only [go_sem,simprocAttr]
theorem Pv (x:ClColour):ah TP 255 [x.pv] (.str x.name):=by
 refine aa (ai (by kernel_rfl) rfl Uk) rfl ?_;simp only [go_sem,simprocAttr]
theorem Gu (s) (x:ClColour):ah TP 252 [x.pv,.ptr 1 [.func (.func 255) [] []] 0 0,.ptr 1 [.str s] 0 0] (.bool (x.name==s)):=by
 refine aa (ai (by kernel_rfl) rfl Nr) rfl ?_;simp only [go_sem,simprocAttr];refine aC (Pv x) rfl ?_;simp only [go_sem,simprocAttr]
theorem Kl (l) (s) (b) (hl:l.length<1000000000) (h0:0<=au (λx=>x.name==s) l 0) :
  ah TP 179 [.slice 4 (l.map ClColour.pv) b,.str s,.func (.func 255) [] []] (.int .i64 (au (λx=>x.name==s) l 0)):=by
 refine aa (ai (by kernel_rfl) rfl BV) rfl ?_;simp only [go_sem,simprocAttr];refine bh (lf (fv:=.func (.func 252) [] [.ptr 1 [.func (.func 255) [] []] 0 0,.ptr 1 [.str s] 0 0]) l (λy=>y.name==s) b 4 rfl hl λy _=>⟨_,_,_,rfl,Gu s y⟩) ?_ (.int _ _) ?_
 .simp only [go_sem,simprocAttr]
 have hd:decide (0<=au (λx:ClColour=>x.name==s) l 0)=true:=by simpa using h0
 simp only [hd,go_sem,simprocAttr];refine aq (λ_=>?_) (λh=>by cases h);simp only [go_sem,simprocAttr]
theorem QK (l) (s) (b) (hl:l.length<1000000000) (h0:au (λx=>x.name==s) l 0<0) :
  rf TP 179 [.slice 4 (l.map ClColour.pv) b,.str s,.func (.func 255) [] []] (fo 4):=by
 refine fZ ?_;refine ax (ai (by kernel_rfl) rfl BV) rfl ?_;simp only [go_sem,simprocAttr];refine bh (lf (fv:=.func (.func 252) [] [.ptr 1 [.func (.func 255) [] []] 0 0,.ptr 1 [.str s] 0 0]) l (λy=>y.name==s) b 4 rfl hl λy _=>⟨_,_,_,rfl,Gu s y⟩) ?_ (.int _ _) ?_
 .simp only [go_sem,simprocAttr]
 have hd:decide (0<=au (λx:ClColour=>x.name==s) l 0)=false:=by simpa using h0
 simp only [hd,go_sem,simprocAttr];refine aq (λh=>by cases h) (λ_=>?_);simp only [go_sem,simprocAttr]
theorem Pu (x:ChLot):ah TP 182 [x.pv] (.str x.name):=by
 refine aa (ai (by kernel_rfl) rfl U8) rfl ?_;simp only [go_sem,simprocAttr]
theorem Gt (s) (x:ChLot):ah TP 253 [x.pv,.ptr 1 [.func (.func 182) [] []] 0 0,.ptr 1 [.str s] 0 0] (.bool (x.name==s)):=by
 refine aa (ai (by kernel_rfl) rfl Um) rfl ?_;simp only [go_sem,simprocAttr];refine aC (Pu x) rfl ?_;simp only [go_sem,simprocAttr]
theorem RR (l) (s) (b) (hl:l.length<1000000000) (h0:0<=au (λx=>x.name==s) l 0) :
  ah TP 181 [.slice 4 (l.map ChLot.pv) b,.str s,.func (.func 182) [] []] (.int .i64 (au (λx=>x.name==s) l 0)):=by
 refine aa (ai (by kernel_rfl) rfl Ny) rfl ?_;simp only [go_sem,simprocAttr];refine bh (p6 (fv:=.func (.func 253) [] [.ptr 1 [.func (.func 182) [] []] 0 0,.ptr 1 [.str s] 0 0]) l (λy=>y.name==s) b 4 rfl hl λy _=>⟨_,_,_,rfl,Gt s y⟩) ?_ (.int _ _) ?_
 .simp only [go_sem,simprocAttr]
 have hd:decide (0<=au (λx:ChLot=>x.name==s) l 0)=true:=by simpa using h0
 simp only [hd,go_sem,simprocAttr];refine aq (λ_=>?_) (λh=>by cases h);simp only [go_sem,simprocAttr]
theorem QJ (l) (s) (b) (hl:l.length<1000000000) (h0:au (λx=>x.name==s) l 0<0) :
  rf TP 181 [.slice 4 (l.map ChLot.pv) b,.str s,.func (.func 182) [] []] (fo 4):=by
 refine fZ ?_;refine ax (ai (by kernel_rfl) rfl Ny) rfl ?_;simp only [go_sem,simprocAttr];refine bh (p6 (fv:=.func (.func 253) [] [.ptr 1 [.func (.func 182) [] []] 0 0,.ptr 1 [.str s] 0 0]) l (λy=>y.name==s) b 4 rfl hl λy _=>⟨_,_,_,rfl,Gt s y⟩) ?_ (.int _ _) ?_
 .simp only [go_sem,simprocAttr]
 have hd:decide (0<=au (λx:ChLot=>x.name==s) l 0)=false:=by simpa using h0
 simp only [hd,go_sem,simprocAttr];refine aq (λh=>by cases h) (λ_=>?_);simp only [go_sem,simprocAttr]
theorem Pt (x:ChBatch):ah TP 184 [x.pv] (.str x.name):=by
 refine aa (ai (by kernel_rfl) rfl U7) rfl ?_;simp only [go_sem,simprocAttr]
theorem Gs (s) (x:ChBatch):ah TP 254 [x.pv,.ptr 1 [.func (.func 184) [] []] 0 0,.ptr 1 [.str s] 0 0] (.bool (x.name==s)):=by
 refine aa (ai (by kernel_rfl) rfl Ul) rfl ?_;simp only [go_sem,simprocAttr];refine aC (Pt x) rfl ?_;simp only [go_sem,simprocAttr]
theorem RQ (l) (s) (b) (hl:l.length<1000000000) (h0:0<=au (λx=>x.name==s) l 0) :
  ah TP 183 [.slice 4 (l.map ChBatch.pv) b,.str s,.func (.func 184) [] []] (.int .i64 (au (λx=>x.name==s) l 0)):=by
 refine aa (ai (by kernel_rfl) rfl Nx) rfl ?_;simp only [go_sem,simprocAttr];refine bh (p5 (fv:=.func (.func 254) [] [.ptr 1 [.func (.func 184) [] []] 0 0,.ptr 1 [.str s] 0 0]) l (λy=>y.name==s) b 4 rfl hl λy _=>⟨_,_,_,rfl,Gs s y⟩) ?_ (.int _ _) ?_
 .simp only [go_sem,simprocAttr]
 have hd:decide (0<=au (λx:ChBatch=>x.name==s) l 0)=true:=by simpa using h0
 simp only [hd,go_sem,simprocAttr];refine aq (λ_=>?_) (λh=>by cases h);simp only [go_sem,simprocAttr]
theorem QI (l) (s) (b) (hl:l.length<1000000000) (h0:au (λx=>x.name==s) l 0<0) :
  rf TP 183 [.slice 4 (l.map ChBatch.pv) b,.str s,.func (.func 184) [] []] (fo 4):=by
 refine fZ ?_;refine ax (ai (by kernel_rfl) rfl Nx) rfl ?_;simp only [go_sem,simprocAttr];refine bh (p5 (fv:=.func (.func 254) [] [.ptr 1 [.func (.func 184) [] []] 0 0,.ptr 1 [.str s] 0 0]) l (λy=>y.name==s) b 4 rfl hl λy _=>⟨_,_,_,rfl,Gs s y⟩) ?_ (.int _ _) ?_
 .simp only [go_sem,simprocAttr]
 have hd:decide (0<=au (λx:ChBatch=>x.name==s) l 0)=false:=by simpa using h0
 simp only [hd,go_sem,simprocAttr];refine aq (λh=>by cases h) (λ_=>?_);simp only [go_sem,simprocAttr]
theorem Pr (x:HrKind):ah TP 188 [x.pv] (.str x.name):=by
 refine aa (ai (by kernel_rfl) rfl U5) rfl ?_;simp only [go_sem,simprocAttr]
theorem Gr (s) (x:HrKind):ah TP 257 [x.pv,.ptr 1 [.func (.func 188) [] []] 0 0,.ptr 1 [.str s] 0 0] (.bool (x.name==s)):=by
 refine aa (ai (by kernel_rfl) rfl Uj) rfl ?_;simp only [go_sem,simprocAttr];refine aC (Pr x) rfl ?_;simp only [go_sem,simprocAttr]
theorem RP (l) (s) (b) (hl:l.length<1000000000) (h0:0<=au (λx=>x.name==s) l 0) :
  ah TP 187 [.slice 4 (l.map HrKind.pv) b,.str s,.func (.func 188) [] []] (.int .i64 (au (λx=>x.name==s) l 0)):=by
 refine aa (ai (by kernel_rfl) rfl Nv) rfl ?_;simp only [go_sem,simprocAttr];refine bh (nI (fv:=.func (.func 257) [] [.ptr 1 [.func (.func 188) [] []] 0 0,.ptr 1 [.str s] 0 0]) l (λy=>y.name==s) b 4 rfl hl λy _=>⟨_,_,_,rfl,Gr s y⟩) ?_ (.int _ _) ?_
 .simp only [go_sem,simprocAttr]
 have hd:decide (0<=au (λx:HrKind=>x.name==s) l 0)=true:=by simpa using h0
 simp only [hd,go_sem,simprocAttr];refine aq (λ_=>?_) (λh=>by cases h);simp only [go_sem,simprocAttr]
theorem QH (l) (s) (b) (hl:l.length<1000000000) (h0:au (λx=>x.name==s) l 0<0) :
  rf TP 187 [.slice 4 (l.map HrKind.pv) b,.str s,.func (.func 188) [] []] (fo 4):=by
 refine fZ ?_;refine ax (ai (by kernel_rfl) rfl Nv) rfl ?_;simp only [go_sem,simprocAttr];refine bh (nI (fv:=.func (.func 257) [] [.ptr 1 [.func (.func 188) [] []] 0 0,.ptr 1 [.str s] 0 0]) l (λy=>y.name==s) b 4 rfl hl λy _=>⟨_,_,_,rfl,Gr s y⟩) ?_ (.int _ _) ?_
 .simp only [go_sem,simprocAttr]
 have hd:decide (0<=au (λx:HrKind=>x.name==s) l 0)=false:=by simpa using h0
 simp only [hd,go_sem,simprocAttr];refine aq (λh=>by cases h) (λ_=>?_);simp only [go_sem,simprocAttr]
theorem Pq (x:Wax):ah TP 192 [x.pv] (.str x.name):=by
 refine aa (ai (by kernel_rfl) rfl U2) rfl ?_;simp only [go_sem,simprocAttr]
theorem Gq (s) (x:Wax):ah TP 261 [x.pv,.ptr 1 [.func (.func 192) [] []] 0 0,.ptr 1 [.str s] 0 0] (.bool (x.name==s)):=by
 refine aa (ai (by kernel_rfl) rfl Uf) rfl ?_;simp only [go_sem,simprocAttr];refine aC (Pq x) rfl ?_;simp only [go_sem,simprocAttr]
theorem RO (l) (s) (b) (hl:l.length<1000000000) (h0:0<=au (λx=>x.name==s) l 0) :
  ah TP 191 [.slice 8 (l.map Wax.pv) b,.str s,.func (.func 192) [] []] (.int .i64 (au (λx=>x.name==s) l 0)):=by
 refine aa (ai (by kernel_rfl) rfl Nu) rfl ?_;simp only [go_sem,simprocAttr];refine bh (q9 (fv:=.func (.func 261) [] [.ptr 1 [.func (.func 192) [] []] 0 0,.ptr 1 [.str s] 0 0]) l (λy=>y.name==s) b 8 rfl hl λy _=>⟨_,_,_,rfl,Gq s y⟩) ?_ (.int _ _) ?_
 .simp only [go_sem,simprocAttr]
 have hd:decide (0<=au (λx:Wax=>x.name==s) l 0)=true:=by simpa using h0
 simp only [hd,go_sem,simprocAttr];refine aq (λ_=>?_) (λh=>by cases h);simp only [go_sem,simprocAttr]
theorem QG (l) (s) (b) (hl:l.length<1000000000) (h0:au (λx=>x.name==s) l 0<0) :
  rf TP 191 [.slice 8 (l.map Wax.pv) b,.str s,.func (.func 192) [] []] (fo 4):=by
 refine fZ ?_;refine ax (ai (by kernel_rfl) rfl Nu) rfl ?_;simp only [go_sem,simprocAttr];refine bh (q9 (fv:=.func (.func 261) [] [.ptr 1 [.func (.func 192) [] []] 0 0,.ptr 1 [.str s] 0 0]) l (λy=>y.name==s) b 8 rfl hl λy _=>⟨_,_,_,rfl,Gq s y⟩) ?_ (.int _ _) ?_
 .simp only [go_sem,simprocAttr]
 have hd:decide (0<=au (λx:Wax=>x.name==s) l 0)=false:=by simpa using h0
 simp only [hd,go_sem,simprocAttr];refine aq (λh=>by cases h) (λ_=>?_);simp only [go_sem,simprocAttr]
inductive Word where
 |s (l:List UInt8)
 |n (i:Int)
 |ns (l:List Int)
def Word.pv:Word->PV
 |.s l=>.iface 9 (.str (bs l))
 |.n i=>.iface 3 (.int .i64 i)
 |.ns l=>.iface 65 (.slice 1 (l.map aJ) false)
def Word.ws:Word->List (List UInt8)
 |.s l=>[l]
 |.n i=>[bO i]
 |.ns l=>l.map bO
def Word.ok:Word->Prop
 |.s l=>l.length<=1000
 |.n i=>0<=i/\i<1000000000
 |.ns l=>l.length<=1000/\∀ i,i∈l->0<=i/\i<1000000000
theorem yh:∀ l,Lib.join l [32]=joinL l
 |[]=>rfl
 |[x]=>by rw [Lib.join_one];rfl
 |x::y::r=>by
  have ih:=yh (y::r);rw [joinL,<-ih,Lib.join_cons,Lib.join_cons];simp [Lib.joinTail]
theorem lH {n} (h:0<=n):yj n=bs (bO n):=by
 obtain ⟨m,rfl⟩:=qL h;unfold yj bO bs
 congr 2
theorem yP (n) (h0:0<=n) (h1:n<1000000000):ah TP 32 [.int .i64 n] (.str (bs (bO n))):=by
 rw [<-lH h0];exact vH n (by omega) (by omega)
def sh (x:List UInt8):AV:=.p (.str (bs x))
attribute [go_sem] sh
theorem J0 (n) (h) (l:List (List UInt8)):aO (bV n h) (l.map sh)=some (l.map λx=>.str (bs x)):=cZ (dO n h) (λx=>PV.str (bs x)) l
theorem WL:bs [32]=({ data:=#[32] }:ByteArray):=rfl
theorem Qx {w:Word} (h:w.ok):w.ws.length<=1000:=by
 cases w with
 |s l=>simp [Word.ws]
 |n i=>simp [Word.ws]
 |ns l=>simpa [Word.ws] using h.1
theorem DD {n} (h0:0<=n) (h1:n<1000000000):(bO n).length<=1000:=by
 obtain ⟨m,rfl⟩:=qL h0;have:=sZ 8 m (by omega);unfold bO;rw [hH];omega
theorem N4 {w:Word} (h:w.ok):∀ x,x∈w.ws->x.length<=1000:=by
 intro x hx
 cases w with
 |s l=>simp [Word.ws] at hx;subst hx;exact h
 |n i=>simp [Word.ws] at hx;subst hx;exact DD h.1 h.2
 |ns l =>
  simp only [Word.ws,dD] at hx;obtain ⟨i,hi,rfl⟩:=hx;have:=h.2 i hi;exact DD this.1 this.2
theorem Dj (sep):∀ l,(∀ x,x∈l->x.length<=1000)->sep.length<=1->(Lib.join l sep).length<=l.length*1001
 |[],_,_=>by simp [Lib.join_nil]
 |[x],h,_=>by have:=h x (by simp);rw [Lib.join_one];simp;omega
 |x::y::r,h,hs=>by
  have ih:=Dj sep (y::r) (λz hz=>h z (by simp [hz])) hs;have h1:=h x (by simp);rw [Lib.join_cons] at ih |-;have e:Lib.joinTail sep (y::r)=sep++(y++Lib.joinTail sep r):=by simp [Lib.joinTail]
  rw [e];simp only [aP,e9] at ih |-;omega
theorem nH (l:List Word) (fl) (hl:l.length<=100) (hok:∀ w,w∈l->w.ok):ah TP 40 [.slice 1 (l.map Word.pv) fl] (.str (bs (joinL (l.flatMap Word.ws)))):=by
 have hfl:∀ done:List Word,(∀ w,w∈done->w.ok)->(done.flatMap Word.ws).length<=done.length*1000:=λdone h=>Cl.sU done λw hw=>Qx (h w hw);refine aa (ai (by kernel_rfl) rfl YV) rfl ?_;simp only [go_sem,simprocAttr];refine et 3 1 (by simp only [go_sem,simprocAttr]) ?_;simp only [go_sem,simprocAttr];refine bT [11,12] l (by omega) (τ:=Unit) (λdone rest _=>True) (λdone _=>[(3,.slice 0 (done.flatMap Word.ws).length 0 (done.flatMap Word.ws).length),(13,.p (.int .i64 done.length))]) (λdone _=>[.row 1 ((done.flatMap Word.ws).map sh)]) () trivial ?_ ?_ ?_
 .simp only [ww,go_sem,simprocAttr]
 .intro _ _;simp only [go_sem,simprocAttr];have hb:=Dj [32] (l.flatMap Word.ws) (λx hx=>by
   obtain ⟨w,hw,hx⟩:=xu.1 hx
   exact N4 (hok w hw) x hx) (by simp)
  have h2:=hfl l hok;have hj:=WH (l.flatMap Word.ws) [32] false (by omega) (by omega);rw [yh] at hj;refine bh hj ?_ (.str _) ?_
  .simp only [J0,WL,go_sem,simprocAttr]
  simp only [go_sem,simprocAttr]
 .intro done w r _ e1 _ hx hlt hnx;have hwo:=hok w (by rw [e1];simp);have hdl:=hfl done (λw hw=>hok w (by rw [e1];simp [hw]));have hdn:done.length<=100:=by rw [e1] at hl;simp at hl;omega
  have hrm:(done.flatMap Word.ws).length+1<=aB:=by simp only [aB];omega
  cases w with
  |s x =>
   simp only [hlt,hx,Word.pv,hrm,go_sem,simprocAttr];refine aL e1 () trivial ?_
   simp only [hnx,tB,qh,ww,Word.ws,aP,cp,bF,go_sem,simprocAttr]
  |n i =>
   simp only [hlt,hx,Word.pv,go_sem,simprocAttr];refine ae (yP i hwo.1 hwo.2) rfl ?_;simp only [hrm,go_sem,simprocAttr];refine aL e1 () trivial ?_
   simp only [hnx,tB,qh,ww,Word.ws,aP,cp,bF,go_sem,simprocAttr]
  |ns q =>
   simp only [hlt,hx,Word.pv,go_sem,simprocAttr];have hq:=hwo.1;refine bT [11,12,13,36,37] q (by omega) (τ:=Unit) (λd2 rest _=>True) (λd2 _=>[(3,.slice 0 ((done.flatMap Word.ws).length+d2.length) 0 ((done.flatMap Word.ws).length+d2.length)),(38,.p (.int .i64 d2.length))]) (λd2 _=>[.row 1 ((done.flatMap Word.ws).map sh++(d2.map bO).map sh)]) () trivial ?_ ?_ ?_
   .simp only [cO,bF,kz,go_sem,simprocAttr]
   .intro _ _;simp only [go_sem,simprocAttr];refine aL e1 () trivial ?_;simp only [hnx,tB,qh,ww,Word.ws,aP,cp,bF,go_sem,simprocAttr]
   .intro d2 i r2 _ e3 _ hx2 hlt2 hnx2;have hio:=hwo.2 i (by rw [e3];simp);have hd2:d2.length<=1000:=by rw [e3] at hq;simp at hq;omega
    have hrm2:(done.flatMap Word.ws).length+d2.length+1<=aB:=by simp only [aB];omega
    simp only [hlt2,hx2,go_sem,simprocAttr];refine ae (yP i hio.1 hio.2) rfl ?_;simp only [hrm2,aP,go_sem,simprocAttr];refine aL e3 () trivial ?_;simp only [hnx2,aP,bu,cp,bQ,cO,di,kR,go_sem,simprocAttr]
end Ch
set_option maxRecDepth 4000
def gE (v:List Int×Int):PV:=if v.2=0 then wO v.1 else .nilslice
set_option maxHeartbeats 2000000 in
theorem Oz (s) (l) (boxes):gk TP 190 [s.pv,.slice 3 (l.map HrTest.pv) false,.slice 2 (boxes.map HrBox.pv) false] (.tuple [gE (cb s l boxes),.int .i64 (cb s l boxes).2]):=by
 refine eY (ai (by kernel_rfl) rfl U3) rfl ?_;simp only [go_sem,simprocAttr];refine ae (Ia s l (-1)) rfl ?_;simp only [HB,go_sem,simprocAttr];cases h0:decide (cB s l=0)
 .have h0':¬ cB s l=0:=by simpa using h0
  have hsp:cb s l boxes=([],cB s l):=by rw [cb,if_neg h0']
  rw [hsp,if_neg h0'];have hch:(hrCheck s).2.2=0->cB s l=4->l.length<1000000000:=by
   intro hc h4;unfold cB at h4;rw [if_pos hc] at h4;split at h4
   .cases h4
   .omega
  cases h4:(cB s l != 4)
  .have h4':cB s l=4:=by simpa using h4
   simp only [go_sem,simprocAttr];refine ae (nn s l false (λhc=>hch hc h4')) rfl ?_;have hop:(bS s l != 0)=true:=by
    unfold cB at h4';unfold bS;split at h4'
    .rename_i hc;split at h4'
     .cases h4'
     .rw [if_pos hc,h4'];rfl
    .rename_i hc;rw [if_neg hc,h4'];rfl
   simp only [hop,gE,if_neg h0',go_sem,simprocAttr]
  .simp only [gE,if_neg h0',go_sem,simprocAttr]
 have h0':cB s l=0:=by simpa using h0
 have hok:=yr h0';have hkk:=lp hok.1;have hop:bS s l=0:=by rw [bS,if_pos hok.1,hok.2.2]
 rw [if_pos h0'];simp only [go_sem,simprocAttr];refine ae (nn s l false (λ_=>by omega)) rfl ?_;simp only [hop,go_sem,simprocAttr];cases h20:decide ((20:Int)<(boxes.length:Int));rotate_left
 .have h20':20<boxes.length:=by simp at h20;omega
  have hsp:cb s l boxes=([],3):=by rw [cb,if_pos h0',if_pos h20']
  rw [hsp];simp only [gE,go_sem,simprocAttr]
 have h20':¬ 20<boxes.length:=by simp at h20;omega
 have hsp:cb s l boxes=cm s l 0 boxes:=by rw [cb,if_pos h0',if_neg h20']
 rw [hsp];have hj:cm s l 0 boxes=js [] (cm s l 0 boxes):=by
  have key:∀ q:List Int×Int,(q.2≠0->q.1=[])->q=js [] q:=by
   rintro ⟨a,b⟩ h
   simp only [js,lX];split
   .rename_i h1;rw [show b=0 from h1]
   .rename_i h1;rw [show a=[] from h h1]
  refine key _ ?_;generalize (0:Nat)=i
  cases boxes with
  |nil=>intro h;exact absurd rfl h
  |cons b r =>
   intro h;rw [cm] at h |-;split
   .split
    .rename_i h1 h2;rw [if_pos h1,if_pos h2] at h;exact absurd rfl h
    .rfl
   .rfl
 rw [hj];simp only [go_sem,simprocAttr];refine et 6 1 (by simp only [go_sem,simprocAttr]) ?_;simp only [go_sem,simprocAttr]
 refine eF [1,3,8,36,37] (σ:=List HrBox×List HrBox×List Int×List (Int×Int)×Heap)
  (λq=>boxes=q.1++q.2.1/\js [] (cm s l 0 boxes)=js q.2.2.1 (cm s l q.1.length q.2.1)/\q.2.2.1.length<=q.1.length /\
   ∀ k v,jn k q.2.2.2.1=some v->(be s l k).2=0/\v=(be s l k).1.promise) (λq=>q.2.1.length)
  (λq=>[(6,.slice 2 q.2.2.1.length 0 q.2.2.1.length),(38,.p (.int .i64 q.1.length))])
  (λq=>[.row 3 [.p s.pv],.mp (q.2.2.2.1.map F1),.row 1 (q.2.2.1.map λn=>.p (aJ n))]++q.2.2.2.2) ([],boxes,[],[],[]) ⟨rfl,rfl,bR _,λk v h=>by cases h⟩ (by simp only [cO,bF,go_sem,simprocAttr]) ?_ ?_
 .simp only [go_sem,simprocAttr]
 rintro ⟨done,rest,out,es,g⟩ ⟨e1,e2,e3,e4⟩
 dsimp only at e1 e2 e3 e4
 cases rest with
 |nil =>
  have hlt:¬ ((done.length:Int)<(boxes.length:Int)):=by rw [e1];simp
  have e5:js out (cm s l done.length [])=(out,0):=by rw [cm,js,if_pos rfl,bF]
  rw [e2,e5];have hfz:∀ n h (ms:List Int),aO (fH n h) (ms.map λn=>AV.p (PV.int .i64 n))=some (ms.map aJ):=λn h ms=>kp n h aJ (λ_=>rfl) ms
  simp only [hlt,decide_false,gE,wO,hfz,tJ,go_sem,simprocAttr]
 |cons b r =>
  obtain ⟨hx,hltt⟩:=gC e1;have hlen1:=congrArg List.length e1;simp only [aP,e9] at hlen1;have hnx:IntKind.i64.wrap ((done.length:Int)+1)=(((done++[b]).length:Nat):Int):=bI (by omega) (by simp [aB];omega) (by simp);have g0:=kn (lo:=g) rfl;have s0:=mC (lo:=g) rfl;have gg:=km (lo:=g) rfl;have ss:=mA (lo:=g) rfl;have hw:IntKind.i64.wrap ((s.kinds.length:Int)-1)=(s.kinds.length:Int)-1:=an (by omega) (by omega);simp only [hltt,decide_true,hx,g0,s0,hw,go_sem,simprocAttr];refine ae (iD 0 _ [_] true (by simp)) rfl ?_;simp only [bg,bj,ca,go_sem,simprocAttr];cases h2:az b.kind 0 ((s.kinds.length:Int)-1)
  .rw [e2,wW (e:=4) (by rw [oc,h2];rfl) (by decide)];simp only [gE,go_sem,simprocAttr]
  simp only [g0,go_sem,simprocAttr];refine ae (iD 0 1000000 [_] true (by simp)) rfl ?_;simp only [bg,bj,ca,go_sem,simprocAttr];cases h3:az b.hours 0 1000000
  .rw [e2,wW (e:=7) (by rw [oc,h2,h3];rfl) (by decide)];simp only [gE,go_sem,simprocAttr]
  have hbe:oc s l b=(be s l b.kind).2:=by rw [oc,h2,h3];rfl
  have hgi:=ya b.kind es;simp only [g0,hgi,go_sem,simprocAttr];have hrm:out.length+1<=aB:=by simp [aB];omega
  cases hm:jn b.kind es with
  |some v =>
   obtain ⟨hl0,rfl⟩:=e4 _ _ hm;have hj2:=Gb (out:=out) (i:=done.length) (r:=r) (hbe.trans hl0);simp only [g0,go_sem,simprocAttr];cases h9:decide ((be s l b.kind).1.promise<b.hours)
   .have h9':¬ (be s l b.kind).1.promise<b.hours:=by simpa using h9
    rw [if_neg h9',bF] at hj2;simp only [go_sem,simprocAttr];refine bq (done++[b],r,out,es,g++[.row 2 [.p b.pv]]) ⟨by rw [e1];simp,by rw [e2,hj2];simp,by simp;omega,e4⟩ (lz _) (by simp only [go_sem,simprocAttr]) ?_;simp only [hnx,go_sem,simprocAttr]
   .have h9':(be s l b.kind).1.promise<b.hours:=by simpa using h9
    rw [if_pos h9'] at hj2;simp only [hrm,go_sem,simprocAttr];refine bq (done++[b],r,out++[((done.length:Nat):Int)],es,g++[.row 2 [.p b.pv]]) ⟨by rw [e1];simp,by rw [e2,hj2];simp,by simp;omega,e4⟩ (lz _) (by simp only [cp,go_sem,simprocAttr]) ?_
    simp only [hnx,aP,bu,go_sem,simprocAttr]
  |none =>
   simp only [g0,go_sem,simprocAttr];refine ae (Ia s l b.kind) rfl ?_;simp only [gg,ss,di,aP,bu,go_sem,simprocAttr];cases hl:((be s l b.kind).2 != 0)
   rotate_left
   .have hl':(be s l b.kind).2≠0:=by simpa using hl
    rw [e2,wW hbe hl'];simp only [gE,if_neg hl',go_sem,simprocAttr]
   have hl0:(be s l b.kind).2=0:=by simpa using hl
   have hj2:=Gb (out:=out) (i:=done.length) (r:=r) (hbe.trans hl0);have hmp:=x9 b.kind (be s l b.kind).1.promise es hm;have hes:∀ k v,jn k (es++[(b.kind,(be s l b.kind).1.promise)])=some v->(be s l k).2=0/\v=(be s l k).1.promise:=by
    intro k v h;rw [uc] at h
    cases hk:jn k es with
    |some u=>rw [hk] at h;cases h;exact e4 k _ hk
    |none =>
     rw [hk] at h;dsimp only [Option.or] at h;split at h
     .rename_i hkk;cases h;rw [hkk];exact ⟨hl0,rfl⟩
     .cases h
   simp only [gg,go_sem,simprocAttr];refine ae (A2 _ (uq hl0).1) rfl ?_;simp only [g0,hmp,go_sem,simprocAttr];cases h9:decide ((be s l b.kind).1.promise<b.hours)
   .have h9':¬ (be s l b.kind).1.promise<b.hours:=by simpa using h9
    rw [if_neg h9',bF] at hj2;simp only [go_sem,simprocAttr];refine bq (done++[b],r,out,es++[(b.kind,(be s l b.kind).1.promise)],g++[.row 2 [.p b.pv],.row 6 [.p (be s l b.kind).1.pv]]) ⟨by rw [e1];simp,by rw [e2,hj2];simp,by simp;omega,hes⟩ (lz _) (by simp only [go_sem,simprocAttr]) ?_;simp only [hnx,go_sem,simprocAttr]
   .have h9':(be s l b.kind).1.promise<b.hours:=by simpa using h9
    rw [if_pos h9'] at hj2;simp only [hrm,go_sem,simprocAttr];refine bq (done++[b],r,out++[((done.length:Nat):Int)],es++[(b.kind,(be s l b.kind).1.promise)],g++[.row 2 [.p b.pv],.row 6 [.p (be s l b.kind).1.pv]]) ⟨by rw [e1];simp,by rw [e2,hj2];simp,by simp;omega,hes⟩ (lz _) (by simp only [cp,go_sem,simprocAttr]) ?_;simp only [hnx,aP,bu,go_sem,simprocAttr]
end Abs
end Go.Proofs.YtfafnkpfamgbbaaGreatDoor
