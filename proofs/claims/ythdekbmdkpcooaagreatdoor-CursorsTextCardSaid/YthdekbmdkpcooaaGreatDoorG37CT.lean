/- How an index lies in memory. -/
import Derived.Test.YthdekbmdkpcooaaGreatDoorG33CT
import Derived.Test.YthdekbmdkpcooaaGreatDoorG36CT
import Derived.Test.YthdekbmdkpcooaaGreatDoorG26CT
import Derived.Test.YthdekbmdkpcooaaGreatDoorG29CT
set_option linter.unusedVariables false
set_option linter.unusedSimpArgs false
set_option maxRecDepth 100000
set_option maxHeartbeats 12800000
namespace Go.Proofs.YthdekbmdkpcooaaGreatDoor
theorem η37 {p:Prop} (h:p):Go.RowKit.Hid p:=Lib.hid h
section
open Go.RowKit Go.Maps
structure Man where
 nx:Int
 ck:Int
 sd:Int
 L:List (List Int)
def Man.ok (m:Man):Prop:=q0d m.nx m.ck m.L=true∧0≤m.sd∧m.sd<18446744073709551616
structure TE where
 b:Nat
 L:List En
 may:Int→Bool
structure IxSt where
 m:Man
 rate:Nat
 w:List En
 t:Int→Option TE
 c:Nat
def InX (gx gm gt i:Nat):Prop:=i=gx∨i=gm∨i=gt
def y1Y (o:Option TE):DataW Unit:=match o with|some e=> .lit (.int .i64 e.b)|none=> .nil
structure IxI (w:World) (gx g gm gt:Nat) (st:IxSt) (v:Value) (vs:List Value) (vm:Value) (D:DataW Unit) (nn:Nat) (Y:Nat→Prop):Prop where
 blk:Blk w gx 152 #[.pointer (some ⟨g,0,none⟩),.int .i64 st.m.nx,.int .i64 st.m.ck,.int .u64 st.m.sd,v,.float .f64 st.rate,.pointer (some ⟨gm,0,none⟩),.map (some gt)]
 mem:MemI w gm vm st.w
 lev:OGr w 0 36 3 v vs st.m.L
 map:w.ownsMap Tryz.prog 3 q6I gt nn D
 cnt:nn≤st.c
 look: ∀n,D.atKey (.int .i64 n) .nil=y1Y (st.t n)
 tab: ∀n e,st.t n=some e→Tb w e.b g n e.L e.may Y
 inY: ∀i,(v.ownBlock=some i∨(∃q,(vs.getD q (.slice none 0 0)).ownBlock=some i)∨vm.ownBlock=some i)→Y i
 lt: ∀i,Y i→i<w.heap.size
 apart: ∀i,Y i→¬InX gx gm gt i
 ne:gx≠gm∧gx≠gt∧gm≠gt
structure y1z (st:IxSt):Prop where
 man:st.m.ok
 mem:okM st.w
 c:st.c≤1000000
def IxSt.full (st:IxSt):Prop:= ∀n∈st.m.L.flatten,∃e,st.t n=some e
def IxY (w:World) (gx g gm gt:Nat) (st:IxSt) (Y:Nat→Prop):Prop:=y1z st∧ ∃v vs vm D nn,IxI w gx g gm gt st v vs vm D nn Y
section
variable {w w':World} {gx g gm gt:Nat} {st:IxSt} {v:Value} {vs:List Value} {vm:Value} {D:DataW Unit} {nn:Nat} {Y Y' F:Nat→Prop}
theorem IxI.same (h:IxI w gx g gm gt st v vs vm D nn Y) (hs:w.heap.size≤w'.heap.size) (k: ∀i,InX gx gm gt i∨Y i→w'.heap[i]? =w.heap[i]?):IxI w' gx g gm gt st v vs vm D nn Y:=
 ⟨h.blk.same (k _ (.inl (.inl rfl))),h.mem.same fun i hi=>hi.elim (fun e=>k i (.inl (.inr (.inl e)))) fun e=>k i (.inr (h.inY i (.inr (.inr e)))),
  q4S h.lev fun i hi=>k i (.inr (h.inY i (hi.elim .inl fun e=> .inr (.inl e)))),q2C h.map (k _ (.inl (.inr (.inr rfl)))),h.cnt,h.look,
  fun n e hn=>(h.tab n e hn).same hs fun i hi=>k i (.inr hi),h.inY,fun i hi=>Nat.lt_of_lt_of_le (h.lt i hi) hs,h.apart,h.ne⟩
theorem IxI.xlt (h:IxI w gx g gm gt st v vs vm D nn Y): ∀i,InX gx gm gt i→i<w.heap.size:=fun i hi=>by
 rcases hi with rfl|rfl|rfl
 ·exact h.blk.lt
 ·exact h.mem.blk.lt
 ·exact h.map.lt
theorem IxI.ext (h:IxI w gx g gm gt st v vs vm D nn Y) (k:Ext w w'):IxI w' gx g gm gt st v vs vm D nn Y:=
 h.same k.size fun i hi=>k.block i (hi.elim (h.xlt i) (h.lt i))
theorem IxI.off (h:IxI w gx g gm gt st v vs vm D nn Y) (k:OffS F w w') (hd: ∀i,InX gx gm gt i∨Y i→¬F i):IxI w' gx g gm gt st v vs vm D nn Y:=
 h.same k.size fun i hi=>k.block i (hi.elim (h.xlt i) (h.lt i)) (hd i hi)
theorem IxI.memTurn (h:IxI w gx g gm gt st v vs vm D nn Y) {vm':Value} {L':List En} (hm:MemI w' gm vm' L') (off:OffS (fun i=>i=gm) w w') (hv:vm'=vm∨ ∀i,vm'.ownBlock=some i→w.heap.size≤i):
  IxI w' gx g gm gt {st with w:=L'} v vs vm' D nn (fun i=>Y i∨vm'.ownBlock=some i):=by
 have hY: ∀i,Y i→w'.heap[i]? =w.heap[i]? :=fun i hi=>off.block i (h.lt i hi) fun e=>h.apart i hi (.inr (.inl e))
 have hnew: ∀i,vm'.ownBlock=some i→Y i∨w.heap.size≤i:=fun i hi=>by
  rcases hv with e|e
  ·exact .inl (h.inY i (.inr (.inr (e▸hi))))
  ·exact .inr (e i hi)
 have hlt: ∀i,(Y i∨vm'.ownBlock=some i)→i<w'.heap.size:=fun i hi=>by
  rcases hi with hi|hi
  ·exact Nat.lt_of_lt_of_le (h.lt i hi) off.size
  ·exact hm.lt (.inr hi)
 have hap : ∀i,(Y i∨vm'.ownBlock=some i)→¬InX gx gm gt i:=fun i hi=>by
  rcases hi with hi|hi
  ·exact h.apart i hi
  ·rcases hnew i hi with h1|h1
   ·exact h.apart i h1
   ·intro hx
    have:i<w.heap.size:=by
     rcases hx with rfl|rfl|rfl
     ·exact h.blk.lt
     ·exact h.mem.blk.lt
     ·exact h.map.lt
    omega
 exact ⟨h.blk.same (off.block _ h.blk.lt h.ne.1),hm,q4S h.lev fun i hi=>hY i (h.inY i (hi.elim .inl fun e=> .inr (.inl e))),q2C h.map (off.block _ h.map.lt fun e=>h.ne.2.2 e.symm),h.cnt,h.look,
  fun n e hn=>((h.tab n e hn).same off.size hY).mono (fun i hi=> .inl hi) hlt,
  fun i hi=>by
   rcases hi with hi|hi|hi
   ·exact .inl (h.inY i (.inl hi))
   ·exact .inl (h.inY i (.inr (.inl hi)))
   ·exact .inr hi,hlt,hap,h.ne⟩
theorem IxI.c1 (h:IxI w gx g gm gt st v vs vm D nn Y):w.cell? ⟨gx,1,none⟩=some (.int .i64 st.m.nx):=h.blk.cell 1
theorem IxI.c2 (h:IxI w gx g gm gt st v vs vm D nn Y):w.cell? ⟨gx,2,none⟩=some (.int .i64 st.m.ck):=h.blk.cell 2
theorem IxI.c3 (h:IxI w gx g gm gt st v vs vm D nn Y):w.cell? ⟨gx,3,none⟩=some (.int .u64 st.m.sd):=h.blk.cell 3
theorem IxI.c4 (h:IxI w gx g gm gt st v vs vm D nn Y):w.cell? ⟨gx,4,none⟩=some v:=h.blk.cell 4
theorem IxI.c6 (h:IxI w gx g gm gt st v vs vm D nn Y):w.cell? ⟨gx,6,none⟩=some (.pointer (some ⟨gm,0,none⟩)):=h.blk.cell 6
theorem IxI.c7 (h:IxI w gx g gm gt st v vs vm D nn Y):w.cell? ⟨gx,7,none⟩=some (.map (some gt)):=h.blk.cell 7
theorem y1d (w:World):(zeroValue 178).run Tryz.prog w= .ok (.pointer none) w:=by kernel_rfl
theorem IxI.at (h:IxI w gx g gm gt st v vs vm D nn Y) {n:Int} (hw:(Lit.int .i64 n).wf=true) {e:TE} (hn:st.t n=some e):
  (Instr.lookup 150 (.map (some gt)) (.int .i64 n) false).run Tryz.prog w= .ok (.pointer (some ⟨e.b,0,none⟩)) w:=by
 obtain ⟨u,ps,h1,h2⟩:=h.map.lookup Tryz.keyInt Tryz.underlying150 (y1d w) q8j (keyOf_int_mk Tryz.underlying3 hw);rw[h.look,hn] at h2;rw[h1,q8u h2]
theorem z6s {n:Int} {e:TE} (hl: ∀n,D.atKey (.int .i64 n) .nil=y1Y (st.t n)) (hm:IsMap D) (x:Int):
  (D.put (.int .i64 n) (.lit (.int .i64 e.b))).atKey (.int .i64 x) .nil=y1Y (if x=n then some e else st.t x):=by
 by_cases hx:x=n
 ·subst hx
  rw[if_pos rfl,atKey_put_same hm (k:= .int .i64 x) (show WideAt.IsKeyLit (.int .i64 x) from trivial)]
  rfl
 ·rw[if_neg hx,atKey_put_other (by intro h;injection h with _ h;exact hx h),hl]
end
end
section
open Go.RowKit
structure IxD (w:World) (g:Nat) (F:Nat→Prop) (σ:DM) (gx gm gt:Nat) (st:IxSt) (Y:Nat→Prop):Prop where
 d:Dk w g F σ
 x:IxY w gx g gm gt st Y
 ap: ∀i,F i→¬InX gx gm gt i∧¬Y i
structure IxF (wb w:World) (g:Nat) (F:Nat→Prop) (σ:DM) (gx gm gt:Nat) (st:IxSt) (Y K:Nat→Prop):Prop where
 i:IxD w g F σ gx gm gt st Y
 bF: ∀i,F i→wb.heap.size≤i
 bX: ∀i,InX gx gm gt i→wb.heap.size≤i
 bY: ∀i,Y i→wb.heap.size≤i
 ext:Ext wb w
 k: ∀i,K i→i<w.heap.size∧¬F i∧¬InX gx gm gt i∧¬Y i
def IxK (wb w:World) (g gx:Nat) (st:IxSt) (σ:DM) (K:Nat→Prop):Prop:= ∃F gm gt Y,IxF wb w g F σ gx gm gt st Y K
section
variable {wb w w1 w2:World} {g gx gm gt:Nat} {st st1:IxSt} {F Y Y1 K K':Nat→Prop} {σ σ1:DM}
theorem IxY.xlt (h:IxY w gx g gm gt st Y): ∀i,InX gx gm gt i→i<w.heap.size:=by
 obtain ⟨_,v,vs,vm,D,nn,h1⟩:=h;exact h1.xlt
theorem IxY.ylt (h:IxY w gx g gm gt st Y): ∀i,Y i→i<w.heap.size:=by
 obtain ⟨_,v,vs,vm,D,nn,h1⟩:=h;exact h1.lt
theorem IxY.ext (h:IxY w gx g gm gt st Y) (k:Ext w w1):IxY w1 gx g gm gt st Y:=by
 obtain ⟨h0,v,vs,vm,D,nn,h1⟩:=h;exact ⟨h0,v,vs,vm,D,nn,h1.ext k⟩
theorem IxY.off (h:IxY w gx g gm gt st Y) (k:OffS F w w1) (hd: ∀i,InX gx gm gt i∨Y i→¬F i):IxY w1 gx g gm gt st Y:=by
 obtain ⟨h0,v,vs,vm,D,nn,h1⟩:=h;exact ⟨h0,v,vs,vm,D,nn,h1.off k hd⟩
theorem IxY.same (h:IxY w gx g gm gt st Y) (hs:w.heap.size≤w1.heap.size) (k: ∀i,InX gx gm gt i∨Y i→w1.heap[i]? =w.heap[i]?):IxY w1 gx g gm gt st Y:=by
 obtain ⟨h0,v,vs,vm,D,nn,h1⟩:=h;exact ⟨h0,v,vs,vm,D,nn,h1.same hs k⟩
theorem IxF.grow (h:IxF wb w g F σ gx gm gt st Y K) (k:Ext w w1):IxF wb w1 g F σ gx gm gt st Y K:=
 ⟨⟨h.i.d.ext k,h.i.x.ext k,h.i.ap⟩,h.bF,h.bX,h.bY,h.ext.trans k,fun i hi=>⟨Nat.lt_of_lt_of_le (h.k i hi).1 k.size,(h.k i hi).2⟩⟩
theorem IxF.kExt (h:IxF wb w g F σ gx gm gt st Y K) (k:Ext w w1):Stay K w w1:=fun i hi=>k.block i (h.k i hi).1
theorem IxF.notF (h:IxF wb w g F σ gx gm gt st Y K): ∀i,InX gx gm gt i∨Y i→¬F i:=fun i hi hf=>hi.elim (h.i.ap i hf).1 (h.i.ap i hf).2
theorem IxF.disk (h:IxF wb w g F σ gx gm gt st Y K) (k:DkS w g F σ1 w1):IxF wb w1 g (Gr F w w1) σ1 gx gm gt st Y K∧Stay K w w1:=by
 have hs:=k.off.size;refine ⟨⟨⟨k.dk,h.i.x.off k.off h.notF,fun i hi=>?_⟩,fun i hi=>Gr.ge h.bF h.ext.size hi,h.bX,h.bY,k.off.ext h.ext h.bF,fun i hi=>?_⟩,fun i hi=>?_⟩
 ·rcases hi with hi|hi
  ·exact h.i.ap i hi
  ·exact ⟨fun hx=>by have:=h.i.x.xlt i hx;omega,fun hy=>by have:=h.i.x.ylt i hy;omega⟩
 ·obtain ⟨a,b,c,d⟩:=h.k i hi
  exact ⟨by omega,Gr.not b a,c,d⟩
 ·obtain ⟨a,b,c,d⟩:=h.k i hi
  exact k.off.block i a b
theorem IxF.row (h:IxF wb w g F σ gx gm gt st Y K) {v:Value} {acc:List En} (k:RowV w g F σ1 w1 v acc):(∃F',IxF wb w1 g F' σ1 gx gm gt st Y (fun i=>K i∨v.ownBlock=some i))∧Stay K w w1:=by
 obtain ⟨F',d1,d2,d3⟩:=k.dk;have hs:=k.off.size;refine ⟨⟨F',⟨d1,h.i.x.off k.off h.notF,fun i hi=>?_⟩,fun i hi=>Gr.ge h.bF h.ext.size (d2 i hi),h.bX,h.bY,k.off.ext h.ext h.bF,fun i hi=>?_⟩,fun i hi=>?_⟩
 ·rcases d2 i hi with hi|hi
  ·exact h.i.ap i hi
  ·exact ⟨fun hx=>by have:=h.i.x.xlt i hx;omega,fun hy=>by have:=h.i.x.ylt i hy;omega⟩
 ·rcases hi with hi|hi
  ·obtain ⟨a,b,c,d⟩:=h.k i hi
   exact ⟨by omega,fun hf=>Gr.not b a (d2 i hf),c,d⟩
  ·have:=q0c k.row i hi
   exact ⟨this.2,d3 i hi,fun hx=>by have:=h.i.x.xlt i hx;omega,fun hy=>by have:=h.i.x.ylt i hy;omega⟩
 ·obtain ⟨a,b,c,d⟩:=h.k i hi
  exact k.off.block i a b
theorem IxF.turn (h:IxF wb w g F σ gx gm gt st Y K) (hx:IxY w1 gx g gm gt st1 Y1) (off:OffS (InX gx gm gt) w w1) (hY: ∀i,Y1 i→Y i∨w.heap.size≤i):IxF wb w1 g F σ gx gm gt st1 Y1 K∧Stay K w w1:=by
 have hs:=off.size;refine ⟨⟨⟨h.i.d.held hs fun i hi=>off.block i (h.i.d.Flt i hi) (h.i.ap i hi).1,hx,fun i hi=>⟨(h.i.ap i hi).1,fun hy=>?_⟩⟩,h.bF,h.bX,fun i hi=>?_,off.ext h.ext h.bX,fun i hi=>?_⟩,fun i hi=>?_⟩
 ·rcases hY i hy with h1|h1
  ·exact (h.i.ap i hi).2 h1
  ·have:=h.i.d.Flt i hi;omega
 ·rcases hY i hi with h1|h1
  ·exact h.bY i h1
  ·have:=h.ext.size;omega
 ·obtain ⟨a,b,c,d⟩:=h.k i hi
  refine ⟨by omega,b,c,fun hy=>?_⟩;rcases hY i hy with h1|h1
  ·exact d h1
  ·omega
 ·obtain ⟨a,b,c,d⟩:=h.k i hi
  exact off.block i a c
theorem IxF.turnV {K2:Nat→Prop} (h:IxF wb w g F σ gx gm gt st Y K2) (hx:IxY w1 gx g gm gt st1 Y1) (off:OffS (InX gx gm gt) w w1) (hY: ∀i,Y1 i→wb.heap.size≤i∧¬F i) (hK: ∀i,K i→K2 i∧¬Y1 i):IxF wb w1 g F σ gx gm gt st1 Y1 K∧Stay K w w1:=by
 have hs:=off.size;refine ⟨⟨⟨h.i.d.held hs fun i hi=>off.block i (h.i.d.Flt i hi) (h.i.ap i hi).1,hx,fun i hi=>⟨(h.i.ap i hi).1,fun hy=>(hY i hy).2 hi⟩⟩,h.bF,h.bX,fun i hi=>(hY i hi).1,off.ext h.ext h.bX,fun i hi=>?_⟩,fun i hi=>?_⟩
 ·obtain ⟨k2,hny⟩:=hK i hi
  obtain ⟨a,b,c,d⟩:=h.k i k2;exact ⟨by omega,b,c,hny⟩
 ·obtain ⟨k2,hny⟩:=hK i hi
  obtain ⟨a,b,c,d⟩:=h.k i k2;exact off.block i a c
theorem IxF.more (h:IxF wb w g F σ gx gm gt st Y K) (k:Ext w w1) (hK: ∀i,K' i→K i∨(w.heap.size≤i∧i<w1.heap.size)):IxF wb w1 g F σ gx gm gt st Y K':=by
 have h2:=h.grow k;refine ⟨h2.i,h2.bF,h2.bX,h2.bY,h2.ext,fun i hi=>?_⟩;rcases hK i hi with h3|⟨h3,h4⟩
 ·exact h2.k i h3
 ·exact ⟨h4,fun hf=>by have:=h.i.d.Flt i hf;omega,fun hx=>by have:=h.i.x.xlt i hx;omega,fun hy=>by have:=h.i.x.ylt i hy;omega⟩
theorem IxF.side (h:IxF wb w g F σ gx gm gt st Y K) (hs:w.heap.size≤w1.heap.size) (hx:Ext wb w1) (k: ∀i,i<w.heap.size→¬K i→w1.heap[i]? =w.heap[i]?):IxF wb w1 g F σ gx gm gt st Y K:=by
 refine ⟨⟨h.i.d.held hs fun i hi=>k i (h.i.d.Flt i hi) fun hk=>(h.k i hk).2.1 hi,h.i.x.same hs fun i hi=>?_,h.i.ap⟩,h.bF,h.bX,h.bY,hx,fun i hi=>⟨Nat.lt_of_lt_of_le (h.k i hi).1 hs,(h.k i hi).2⟩⟩;rcases hi with hi|hi
 ·exact k i (h.i.x.xlt i hi) fun hk=>(h.k i hk).2.2.1 hi
 ·exact k i (h.i.x.ylt i hi) fun hk=>(h.k i hk).2.2.2 hi
theorem IxF.sideM (h:IxF wb w g F σ gx gm gt st Y K) (hs:w.heap.size≤w1.heap.size) (hx:Ext wb w1) (k: ∀i,i<w.heap.size→¬K i→w1.heap[i]? =w.heap[i]?) (hK: ∀i,K' i→K i∨(w.heap.size≤i∧i<w1.heap.size)):IxF wb w1 g F σ gx gm gt st Y K':=by
 have h1:=h.side hs hx k;refine ⟨h1.i,h1.bF,h1.bX,h1.bY,hx,fun i hi=>?_⟩;rcases hK i hi with h2|⟨h2,h3⟩
 ·exact h1.k i h2
 ·exact ⟨h3,fun hf=>by have:=h.i.d.Flt i hf;omega,fun hx=>by have:=h.i.x.xlt i hx;omega,fun hy=>by have:=h.i.x.ylt i hy;omega⟩
theorem IxF.beside (h:IxF wb w g F σ gx gm gt st Y K) (k: ∀i,K' i→K i):IxF wb w g F σ gx gm gt st Y K':=⟨h.i,h.bF,h.bX,h.bY,h.ext,fun i hi=>h.k i (k i hi)⟩
theorem IxF.tb (h:IxF wb w g F σ gx gm gt st Y K) {n:Int} {e:TE} (he:st.t n=some e):TbD w e.b g n e.L e.may Y F σ:=by
 obtain ⟨_,v,vs,vm,D,nn,h1⟩:=h.i.x;exact ⟨h.i.d,h1.tab n e he,fun i hy hf=>(h.i.ap i hf).2 hy⟩
theorem IxK.base (h:IxK wb w g gx st σ K):Ext wb w:=by obtain ⟨F,gm,gt,Y,h1⟩:=h;exact h1.ext
theorem IxK.grow (h:IxK wb w g gx st σ K) (k:Ext w w1):IxK wb w1 g gx st σ K:=by obtain ⟨F,gm,gt,Y,h1⟩:=h;exact ⟨_,_,_,_,h1.grow k⟩
theorem IxK.kExt (h:IxK wb w g gx st σ K) (k:Ext w w1):Stay K w w1:=by obtain ⟨F,gm,gt,Y,h1⟩:=h;exact h1.kExt k
theorem IxK.more (h:IxK wb w g gx st σ K) (k:Ext w w1) (hK: ∀i,K' i→K i∨(w.heap.size≤i∧i<w1.heap.size)):IxK wb w1 g gx st σ K':=by obtain ⟨F,gm,gt,Y,h1⟩:=h;exact ⟨_,_,_,_,h1.more k hK⟩
theorem IxK.sideM (h:IxK wb w g gx st σ K) (hs:w.heap.size≤w1.heap.size) (hx:Ext wb w1) (k: ∀i,i<w.heap.size→¬K i→w1.heap[i]? =w.heap[i]?) (hK: ∀i,K' i→K i∨(w.heap.size≤i∧i<w1.heap.size)):IxK wb w1 g gx st σ K':=by obtain ⟨F,gm,gt,Y,h1⟩:=h;exact ⟨_,_,_,_,h1.sideM hs hx k hK⟩
theorem IxK.beside (h:IxK wb w g gx st σ K) (k: ∀i,K' i→K i):IxK wb w g gx st σ K':=by obtain ⟨F,gm,gt,Y,h1⟩:=h;exact ⟨_,_,_,_,h1.beside k⟩
theorem IxK.disk {f:FuncId} {P:Program} {args:Array Value} {R:Ending→Prop} (h:IxK wb w g gx st σ K) (hc: ∀F,Dk w g F σ→Calls P f args w fun e w'=>R e∧DkS w g F σ1 w'):
  Calls P f args w fun e w'=>R e∧IxK wb w' g gx st σ1 K∧Stay K w w':=by
 obtain ⟨F,gm,gt,Y,h1⟩:=h;refine (hc F h1.i.d).mono ?_;rintro e w' ⟨he,hd⟩;have:=h1.disk hd;exact ⟨he,⟨_,_,_,_,this.1⟩,this.2⟩
end
end
section
open Go.RowKit
section
variable {wb w w1 w2:World} {g gx gm gt:Nat} {st st1:IxSt} {F Y Y1 K K':Nat→Prop} {σ σ1:DM}
theorem q8e (h:IxY w gx g gm gt st Y):Calls Tryz.prog 78 #[.pointer (some ⟨gx,0,none⟩)] w fun e w'=>e= .returned (.bool false)∧w=w':=by
 obtain ⟨_,v,vs,vm,D,nn,h1⟩:=h;have c6:=h1.c6;clear h1;go_enter Tryz.func78,Tryz.ntmps78;go_wp2_with fail;go_ret;exact ⟨rfl,rfl⟩
theorem IxI.grid {v:Value} {vs:List Value} {vm:Value} {D:DataW Unit} {nn:Nat} (h:IxI w gx g gm gt st v vs vm D nn Y): ∃ao c,v= .slice ao st.m.L.length c∧Grid w ao st.m.L.length c st.m.L:=h.lev.grid
theorem Man.bounds {m:Man} (h:m.ok):m.L.length≤5∧m.L.flatten.length≤40∧(∀i,(m.L.getD i []).length≤40)∧(∀x∈m.L.flatten,(Lit.int .i64 x).wf=true∧0≤x∧x<m.nx)∧0≤m.nx∧m.nx≤1000000∧m.L.flatten.Nodup∧0≤m.ck∧m.ck≤2147483647:=by
 have hv:=h.1;unfold q0d q1c at hv;simp only[Bool.and_eq_true,decide_eq_true_eq,List.all_eq_true] at hv;obtain ⟨⟨⟨h1,h2,h3,h4⟩,h5,h6,h7,h8⟩,h9⟩:=hv;refine ⟨h5,h6,fun i=>?_,fun x hx=>⟨?_,h7 x hx,h9 x hx⟩,h1,h2,h8,h3,h4⟩
 ·rcases Nat.lt_or_ge i m.L.length with hi|hi
  ·have:(m.L.getD i [])∈m.L:=by rw[List.getD_eq_getElem?_getD,List.getElem?_eq_getElem hi];exact List.getElem_mem hi
   have:=(List.sublist_flatten_of_mem this).length_le;omega
  ·rw[List.getD_eq_getElem?_getD,List.getElem?_eq_none hi];simp
 ·have:=h7 x hx;have:=h9 x hx
  exact WalkArith.wf_i64 (by omega)
theorem q6t (h:IxY w gx g gm gt st Y):Calls Tryz.prog 116 #[.pointer (some ⟨gx,0,none⟩)] w fun e w'=>
  ∃v vs,e= .returned (.agg #[.int .i64 st.m.nx,.int .i64 st.m.ck,.int .u64 st.m.sd,v])∧OGr w' w.heap.size 36 3 v vs st.m.L∧Ext w w':=by
 have hb:=Man.bounds h.1.man;have HN:=η37 (fun W (k:Ext w W)=>q8e (h.ext k));obtain ⟨hok,v,vs,vm,D,nn,h1⟩:=h;obtain ⟨ao,cp,rfl,hg⟩:=h1.grid;have hx0:=q0B w (.cells #[.int .i64 0,.int .i64 0,.int .u64 0,.slice none 0 0] 148);have HBk:=η37 (Blk.new w 148 #[.int .i64 0,.int .i64 0,.int .u64 0,.slice none 0 0]);have h2:=h1.ext hx0;have c1:=h2.c1;have c2:=h2.c2;have c3:=h2.c3;have c4:=h2.c4;have HC:=η37 (fun W (k:Ext w W)=>z2Z st.m.nx st.m.ck st.m.sd ao st.m.L.length cp st.m.L W (hg.ext k) (fun i=>by have:=hb.2.2.1 i;omega) (by omega));have HX0:=η37 hx0;clear h1 h2 hg hok hb hx0;go_enter Tryz.func116,Tryz.ntmps116;go_wp2_with fail;refine (HN.out _ HX0.out).mono ?_;rintro e w1 ⟨rfl,rfl⟩;go_wp2_with fail;refine (HC.out _ HX0.out).mono ?_;rintro e w1 ⟨v,vs2,rfl,hog,hb⟩;obtain ⟨av,kv,rfl⟩:=hog.own.slice;have HOG:=η37 hog;have HB:=η37 hb;have hbk:=HBk.out.ext hb;have k0:w1.cell? ⟨w.heap.size,0,none⟩=some (.int .i64 0):=hbk.cell 0
 have k1:w1.cell? ⟨w.heap.size,1,none⟩=some (.int .i64 0):=hbk.cell 1;have k2:w1.cell? ⟨w.heap.size,2,none⟩=some (.int .u64 0):=hbk.cell 2;have k3:w1.cell? ⟨w.heap.size,3,none⟩=some (.slice none 0 0):=hbk.cell 3;have f0:w1.frozen? ⟨w.heap.size,0,none⟩=false:=hbk.free 0;have f1:w1.frozen? ⟨w.heap.size,1,none⟩=false:=hbk.free 1;have f2:w1.frozen? ⟨w.heap.size,2,none⟩=false:=hbk.free 2;have f3:w1.frozen? ⟨w.heap.size,3,none⟩=false:=hbk.free 3;have HF:Hid (∀W,OffS (fun i=>i=w.heap.size) w1 W→OGr W w.heap.size 36 3 (.slice av st.m.L.length kv) vs2 st.m.L∧Ext w W):=η37 fun W hW=>by
  rw[World.size_alloc] at hog;refine ⟨q4S (q8g hog (Nat.le_succ _)) fun i hi=>hW.block i (z0h hog i hi).2 fun e=>?_,hW.ext (HX0.out.trans hb) fun i hi=>by rw[hi];exact Nat.le_refl _⟩;have:=(z0h hog i hi).1;omega
 clear hog hb hbk;go_wp2_with fail
 ((try simp only[Exit.inBlock,Exit.then]);refine bodyPost_ret (v:= .agg #[.int .i64 st.m.nx,.int .i64 st.m.ck,.int .u64 st.m.sd,.slice av st.m.L.length kv]) (by rw[q0z rfl];go_simp) rfl ?_)
 have hf:=HF.out _ ((((OffS.set (F:=fun i=>i=w.heap.size) w1 rfl 0 (.int .i64 st.m.nx)).trans (OffS.set (F:=fun i=>i=w.heap.size) _ rfl 1 (.int .i64 st.m.ck))).trans (OffS.set (F:=fun i=>i=w.heap.size) _ rfl 2 (.int .u64 st.m.sd))).trans (OffS.set (F:=fun i=>i=w.heap.size) _ rfl 3 (.slice av st.m.L.length kv)));exact ⟨_,vs2,rfl,hf.1,hf.2⟩
theorem y0Z (h:IxK wb w g gx st σ K) {e:En} (he:q3J e=true) (hl:st.w.length<50000):
  Calls Tryz.prog 39 #[.pointer (some ⟨gx,0,none⟩),enV e] w fun r w'=>r= .returned (.int .i64 0)∧IxK wb w' g gx {st with w:=q3V e st.w} σ K∧Stay K w w':=by
 obtain ⟨F,gm,gt,Y,h1⟩:=h;have HF:=η37 h1;obtain ⟨e1,e2,e3⟩:=e;show Calls _ _ #[_,.agg #[.int .u64 e1,.int .i64 e2,.int .i64 e3]] _ _;have hx1:=q0B w (.cells #[.int .u64 e1,.int .i64 e2,.int .i64 e3] 106);have HX1:=η37 hx1;have HN:=η37 (q8e (h1.i.x.ext hx1));have hbk:=Blk.new w 106 #[.int .u64 e1,.int .i64 e2,.int .i64 e3];have k0:(w.alloc (.cells #[.int .u64 e1,.int .i64 e2,.int .i64 e3] 106)).cell? ⟨w.heap.size,0,none⟩=some (.int .u64 e1):=hbk.cell 0;have k1:(w.alloc (.cells #[.int .u64 e1,.int .i64 e2,.int .i64 e3] 106)).cell? ⟨w.heap.size,1,none⟩=some (.int .i64 e2):=hbk.cell 1;have k2:(w.alloc (.cells #[.int .u64 e1,.int .i64 e2,.int .i64 e3] 106)).cell? ⟨w.heap.size,2,none⟩=some (.int .i64 e3):=hbk.cell 2
 have HPe:Hid (∃b0 B,∀W,Calls Tryz.prog 79 #[.agg #[.int .u64 e1,.int .i64 e2,.int .i64 e3]] W fun r w'=>r= .returned (.string ⟨(b0::B:List UInt8).toArray⟩)∧Ext W w'):=η37 (by
  obtain ⟨b0,B,hB⟩: ∃b0 B,q4B (e1,e2,e3)=b0::B:=by
   have:=q3C (e1,e2,e3)
   cases h:q4B (e1,e2,e3) with
   |nil=>rw[h] at this;cases this
   |cons a l=>exact ⟨a,l,rfl⟩
  exact ⟨b0,B,fun W=>hB▸z7H (e1,e2,e3) W he⟩)
 obtain ⟨b0,B,hP⟩:=HPe.out;have HP:=η37 hP;obtain ⟨hok,v,vs,vm,D,nn,hi⟩:=h1.i.x;have HI:=η37 hi;have HOk:=η37 hok;have HMa:=η37 (fun W (k:Ext w W)=>y1H (hi.mem.ext k) hok.mem he hl);have HOkM:=η37 (hok.mem.add he hl);clear h1 hx1 hbk HPe hP hi hok hl he;go_enter Tryz.func39,Tryz.ntmps39;go_wp2_with fail;refine HN.out.mono ?_;rintro e w1 ⟨rfl,rfl⟩;go_wp2_with fail;refine (HP.out _).mono ?_;rintro e w1 ⟨rfl,hb⟩;have HB:=η37 (HX1.out.trans hb);have p0:=q0A hb k0;have p1:=q0A hb k1;have p2:=q0A hb k2;have c6:=(HI.out.ext HB.out).c6;clear hb k0 k1 k2;go_wp2_with fail
 go_still_tail 5,(by kernel_rfl)
 go_wp2_with fail;refine (HMa.out _ HB.out.drew).mono ?_;rintro e w2 ⟨vm2,rfl,hm,hv,hoff⟩;have HX2:Hid (IxY w2 gx g gm gt {st with w:=q3V (e1,e2,e3) st.w} (fun i=>Y i∨vm2.ownBlock=some i)):=η37 ⟨⟨HOk.out.man,HOkM.out,HOk.out.c⟩,v,vs,vm2,D,nn,(HI.out.ext HB.out.drew).memTurn hm hoff hv⟩
 have HT:=η37 ((HF.out.grow HB.out.drew).turn HX2.out (hoff.mono fun i _ hi=> .inr (.inl hi)) (fun i hi=>by
  rcases hi with hi|hi
  ·exact .inl hi
  ·rcases hv with e|e
   ·exact .inl (HI.out.inY i (.inr (.inr (e▸hi))))
   ·exact .inr (e i hi)))
 have HSt:=η37 (HF.out.kExt HB.out.drew);clear hm hv hoff;go_wp2_with fail;go_ret;exact ⟨rfl,⟨_,_,_,_,HT.out.1⟩,HSt.out.trans HT.out.2⟩
end
end
section
open Go.RowKit Go.Maps
def q3O (st:IxSt) (h a b:Int):DM→List Int→List (List En)→List (List En)×Int×DM
 |σ,[],acc=>(acc,0,σ)
 | σ, n::ns,acc=>match st.t n with
  |none=>(acc,1,σ)
  | some e=>if (q2h σ n e.L e.may h a b).2.1≠0 then (acc,(q2h σ n e.L e.may h a b).2.1,(q2h σ n e.L e.may h a b).2.2)
   else q3O st h a b (q2h σ n e.L e.may h a b).2.2 ns (acc++[(q2h σ n e.L e.may h a b).1])
def z8Q (va v:Value) (vs:List Value) (i:Nat):Prop:=va.ownBlock=some i∨v.ownBlock=some i∨ ∃q,(vs.getD q (.slice none 0 0)).ownBlock=some i
theorem Tryz.infoLs :(Tryz.prog.info? 180).map (fun i=>(i.zero,i.size,i.bytes))=some (some (.slice none 0 0),1,24):=by kernel_rfl
structure LsW (wb w0 W:World) (g gx:Nat) (st:IxSt) (σ:DM) (K:Nat→Prop) (va v:Value) (vs:List Value) (ns:List Int) (acc:List (List En)) (B:Nat):Prop where
 i:IxK wb W g gx st σ (fun i=>K i∨z8Q va v vs i)
 all:Own W B 3 1 va ns.length (ns.map (Value.int .i64))
 ls:EGo W B v vs acc
 stay:Stay K w0 W
 base:w0.heap.size≤B∧B≤W.heap.size
 kl: ∀i,K i→i<w0.heap.size
 wbl:wb.heap.size≤w0.heap.size
section
variable {wb w0 w W W1 w1 w2:World} {g gx gm gt B:Nat} {st st1:IxSt} {F Y Y1 K K' V:Nat→Prop} {σ σ1:DM} {va v v1 v2:Value} {vs:List Value} {ns:List Int} {acc:List (List En)} {M:List En}
theorem LsW.grow (h:LsW wb w0 W g gx st σ K va v vs ns acc B) (k:Ext W W1):LsW wb w0 W1 g gx st σ K va v vs ns acc B:=
 ⟨h.i.grow k,h.all.ext k,h.ls.ext k,h.stay.trans fun i hi=>h.i.kExt k i (.inl hi),⟨h.base.1,Nat.le_trans h.base.2 k.size⟩,h.kl,h.wbl⟩
theorem LsW.push (h:LsW wb w0 W g gx st σ K va v vs ns acc B) (h1:IxK wb W1 g gx st σ1 (fun i=>(K i∨z8Q va v vs i)∨v1.ownBlock=some i)) (hst:Stay (fun i=>K i∨z8Q va v vs i) W W1) (hs:W.heap.size≤W1.heap.size)
  (hr:W1.ownsRow W.heap.size 106 3 v1 M.length (ecs M)) {o:Obj} (hown:w2.ownsRow B 180 1 v2 (acc.length+1) (vs++[v1])) (hg:(W1.alloc o).grownBy w2 v.ownBlock) (hat:v2.ownBlock=v.ownBlock∨v2.ownBlock=some (W1.alloc o).heap.size):
  LsW wb w0 w2 g gx st σ1 K va v2 (vs++[v1]) ns (acc++[M]) B:=by
 have hb:=h.base;have hx:=h1.base;have hls:EGo (W1.alloc o) B v vs acc:=(h.ls.same (w':=W1) fun i hi=>hst i (.inr (.inr hi))).ext (q0B _ _);have hsz:W1.heap.size≤w2.heap.size:=by have:=hg.size;rw[World.size_alloc] at this;omega
 have hk: ∀i,i<W1.heap.size→v.ownBlock≠some i→w2.heap[i]? =W1.heap[i]? :=fun i hi hn=>by
  rw[hg.block i (by rw[World.size_alloc];omega) (fun e=>hn e.symm),(q0B W1 o).block i hi]
 have hlt: ∀i,z8Q va v vs i→B≤i∧i<W.heap.size:=fun i hi=>by
  rcases hi with hi|hi
  ·exact h.all.lt i hi
  ·exact h.ls.lt hi
 have hva:va.ownBlock=none∨ ∃i,va.ownBlock=some i:=by cases h:va.ownBlock<;>simp
 have hne: ∀i,va.ownBlock=some i→v.ownBlock≠some i:=fun i h1 h2=>by
  obtain ⟨c1,e1⟩:=h.all.etype h1;obtain ⟨c2,e2⟩:=q5a h.ls.own h2;rw[e1] at e2;injection e2 with e2;injection e2 with _ e2 _;revert e2
  decide
 have hxb:Ext wb w2:=by
  have h3:Ext wb (W1.alloc o):=hx.trans (q0B _ _);refine h3.grown hg h3.size fun i hi=>?_
  have:=hlt i (.inr (.inl hi));have:=h.wbl;omega
 have hsep:=hls.push (q0N hr (q0B W1 o)) (by omega) hown hg;refine ⟨h1.sideM hsz hxb (fun i hi hn=>hk i hi fun e=>hn (.inl (.inr (.inr (.inl e))))) (fun i hi=>?_),(h.all.same (w':=w2) fun i hi=>?_),hsep,fun i hi=>?_,⟨hb.1,by omega⟩,h.kl,h.wbl⟩
 ·rcases hi with hi|hi|hi|⟨q,hi⟩
  ·exact .inl (.inl (.inl hi))
  ·exact .inl (.inl (.inr (.inl hi)))
  ·rcases hat with e|e
   ·exact .inl (.inl (.inr (.inr (.inl (e▸hi)))))
   ·rw[e,World.size_alloc] at hi
    injection hi with hi;have:=(q0c hown i (by rw[e,World.size_alloc,hi])).2;exact .inr ⟨by omega,this⟩
  ·rw [q7B] at hi
   split at hi
   ·exact .inl (.inl (.inr (.inr (.inr ⟨q,hi⟩))))
   ·split at hi
    ·exact .inl (.inr hi)
    ·cases hi
 ·rw[hk i (Nat.lt_of_lt_of_le (h.all.lt i hi).2 hs) (hne i hi),hst i (.inr (.inl hi))]
 ·rw[hk i (Nat.lt_of_lt_of_le (h.kl i hi) (by omega)) fun e=>by have:=(hlt i (.inr (.inl e))).1;have:=h.kl i hi;omega]
  exact (hst i (.inl hi)).trans (h.stay i hi)
theorem z8j (w:World) (B:Nat) (hB:B≤w.heap.size) (x:Value):(w.alloc (.cells #[x] 180)).ownsRow B 180 1 (.slice (some ⟨w.heap.size,0,none⟩) 1 1) 1 [x]:=
 ⟨rfl,.inr ⟨w.heap.size,1,#[x],rfl,hB,Blk.new w _ _,Nat.le_refl _,by unfold maxLen;omega,rfl,rfl⟩⟩
def z1g (wb w:World) (g gx:Nat) (st:IxSt) (K:Nat→Prop) (R:List (List En)×Int×DM) (e:Ending) (w':World):Prop:=
 ∃v,e= .returned (.tuple #[v,.int .i64 R.2.1])∧IxK wb w' g gx st R.2.2 (fun i=>K i∨v.ownBlock=some i)∧Stay K w w'∧(R.2.1=0→w'.ownsRow w.heap.size 106 3 v (q2S R.1).length (ecs (q2S R.1)))
theorem z7e (h:IxK wb w g gx st σ K) (hfull:st.full) (h' a b:Int) {R:List (List En)×Int×DM} (hR:q3O st h' (max a 0) (min b 1073741824) σ st.m.L.flatten [q0m st.w h' (max a 0) (min b 1073741824)]=R)
  (hs:R.2.1=0→(∀L∈R.1,q0q L)∧R.1.flatten.length≤1000000):
  Calls Tryz.prog 105 #[.pointer (some ⟨gx,0,none⟩),.int .u64 h',.int .i64 a,.int .i64 b] w (z1g wb w g gx st K R):=by
 obtain ⟨A,hA⟩: ∃A,max a 0=A:=⟨_,rfl⟩
 obtain ⟨B,hB⟩: ∃B,min b 1073741824=B:=⟨_,rfl⟩
 rw[hA,hB] at hR;have HK:=η37 h;obtain ⟨F,gm,gt,Y,h1⟩:=h;have HN:=η37 (q8e h1.i.x);have hok:=h1.i.x.1;have hbd:=Man.bounds hok.man;obtain ⟨_,v,vs,vm,D,nn,hi⟩:=h1.i.x;have c6:=hi.c6;have HRm:=η37 (z8I hi.mem hok.mem h' A B);have HI:=η37 hi;have HOk:=η37 hok;have HBd:=η37 hbd;have HR:=η37 hR;have HS:=η37 hs;have HF:=η37 h1;clear hi hok hbd hR hs h1;go_enter Tryz.func105,Tryz.ntmps105;go_wp2_with fail;refine HN.out.mono ?_;rintro e w1 ⟨rfl,rfl⟩;go_wp2_with fail;refine HRm.out.mono ?_;rintro e w1 ⟨v1,rfl,hr1,hb1⟩;obtain ⟨a1,k1,rfl⟩:=q0J hr1;have HR1:=η37 hr1;obtain ⟨rn,hrn⟩: ∃rn,(q0m st.w h' A B).length=rn:=⟨_,rfl⟩
 have HRn:=η37 hrn;rw[hrn] at HR1;rw[hrn];have HX1:=η37 (hb1.trans (q0B w1 (.cells #[.slice a1 rn k1] 180)));have HX1b:=η37 (q0B w1 (.cells #[.slice a1 rn k1] 180));have HLit:=η37 (z8j w1 w.heap.size hb1.size (.slice a1 rn k1));obtain ⟨av,kv,rfl,hgr⟩:=HI.out.grid;have c4:=(HI.out.ext HX1.out).c4;have HAl:=η37 (z3k av st.m.L.length kv st.m.L _ (hgr.ext HX1.out) (by have:=HBd.out.2.1;omega));have hs1:=hb1.size;clear hr1 hb1 hgr hrn HRm c6;go_wp2_with fail;refine HAl.out.mono ?_;rintro e w2 ⟨va,rfl,hall,hb2⟩;obtain ⟨aa,ka,rfl⟩:=hall.slice;have hsz2:w1.heap.size+1≤w2.heap.size:=by have:=hb2.size;rw[World.size_alloc] at this;exact this
 rw[World.size_alloc] at hall;obtain ⟨ns,hns⟩: ∃ns,st.m.L.flatten=ns:=⟨_,rfl⟩
 rw[hns] at hall HR;have HNs:=η37 hns
 have HLs:Hid (LsW wb w w2 g gx st σ K (.slice aa ns.length ka) (.slice (some ⟨w1.heap.size,0,none⟩) 1 1) [.slice a1 rn k1] ns [q0m st.w h' A B] w.heap.size):=η37 ⟨HK.out.more (HX1.out.trans hb2) (fun i hi=>by
   have h0:=HX1b.out.size;rw[World.size_alloc] at h0;rcases hi with hi|hi|hi|⟨q,hi⟩
   ·exact .inl hi
   ·have:=hall.lt i hi;exact .inr ⟨by omega,this.2⟩
   ·have hi2:w1.heap.size=i:=by cases hi;rfl
    exact .inr ⟨by omega,by omega⟩
   ·match q,hi with
    |0,hi=>have:=q0c HR1.out i hi;exact .inr ⟨this.1,by omega⟩
    |q+1,hi=>simp[Value.ownBlock] at hi),hall.base (by omega),⟨q0N HLit.out hb2,fun i=>by
   match i with
   |0=>simp only[List.getD_cons_zero];rw[HRn.out];exact q0v (q0N (q0N HR1.out HX1b.out) hb2) (Nat.le_refl _)
   |i+1=>simpa [ecs] using World.ownsRow_nil w2 w.heap.size 106 3⟩,HK.out.kExt (HX1.out.trans hb2),⟨Nat.le_refl _,by omega⟩,fun i hi=>by obtain ⟨F,gm,gt,Y,q⟩:=HK.out;exact (q.k i hi).1,HK.out.base.size⟩
 rw[hns];obtain ⟨n,hn⟩: ∃n,ns.length=n:=⟨_,rfl⟩
 have HNl:=η37 hn;have hn40:n≤40:=by rw[←hn,←hns];exact HBd.out.2.1
 rw[hn] at HLs;rw[hn];clear hall hb2 hns hn HAl HLit HR1 HX1 HX1b c4 HN;go_wp2_with fail;have hsw:w.heap.size≤w2.heap.size:=by omega
 clear HI
 go_loopw [10,37] (fun lv i W=> ∃(k:Nat) (vs:List Value) (acc:List (List En)) (τ:DM),k≤n∧i= .int .i64 (k:Int)∧LsW wb w W g gx st τ K (.slice aa n ka) lv vs ns acc w.heap.size∧acc.length=k+1∧q3O st h' A B τ (ns.drop k) acc=R) (fun _ i _=>n-(intOf i).toNat)
 case atStart=>exact ⟨0,_,_,σ,Nat.zero_le _,rfl,HLs.out,rfl,HR.out⟩
 case round =>
  obtain ⟨k,vsk,acc,τ,hk,rfl,hls,hal,hrr⟩:=hrel;have HL:=η37 hls;have HAl:=η37 hal;have HRr:=η37 hrr;obtain ⟨al,kl,rfl,hgrd⟩:=hls.ls.grid;rw[hal] at hgrd HL;rw[hal];clear hls hal hrr;by_cases hlt:k<n
  ·have hd:decide ((k:Int)<(n:Int))=true:=decide_eq_true (by omega)
   have q1:IntKind.i64.wrap ((k:Int)+1)=(k:Int)+1:=by rw[IntKind.wrap_i64];omega
   have q5:(k:Int)<(n:Int):=by omega
   obtain ⟨_,_,ea,hia⟩:=q2l HL.out.all;rw[HNl.out] at ea
   cases ea;rw[HNl.out] at hia;obtain ⟨ba,oa,rfl,n0⟩:=hia.at hlt;have hkl:k<ns.length:=by rw[HNl.out];exact hlt
   have hdrop:ns.drop k=ns.getD k 0::ns.drop (k+1):=by
    rw[List.drop_eq_getElem_cons hkl,List.getD_eq_getElem?_getD,List.getElem?_eq_getElem hkl];rfl
   have hmem:ns.getD k 0∈st.m.L.flatten:=by rw[HNs.out];exact q3j ns k hkl
   have hrr:=HRr.out;rw[hdrop] at hrr;obtain ⟨e,he⟩:=hfull _ hmem;have hwf:=(HBd.out.2.2.2.1 _ hmem).1;generalize ns.getD k 0=nk at*;rw[q3O,he] at hrr;simp only at hrr;obtain ⟨F2,gm2,gt2,Y2,h2⟩:=HL.out.i;have HTr:=η37 (z7p (h2.tb he) h' A B);have HF2:=η37 h2;obtain ⟨_,v2,vs2,vm2,D2,nn2,hi2⟩:=h2.i.x;have c7:=hi2.c7;have hlk:=hi2.at hwf he;obtain ⟨r,hr⟩: ∃r,q2h τ nk e.L e.may h' A B=r:=⟨_,rfl⟩
   rw[hr] at hrr HTr;obtain ⟨M,c,τ2⟩:=r;simp only at hrr;have HRR:=η37 hrr;have HLk:=η37 hlk;clear hia hdrop hmem hrr h2 hi2 hr hgrd;go_wp2_with fail;refine HTr.out.mono ?_;rintro e3 w3 ⟨v3,rfl,hrv⟩;simp only at hrv;obtain ⟨a3,k3,rfl⟩:=q0J hrv.row;obtain ⟨⟨F3,h3⟩,hst3⟩:=HF2.out.row hrv;have hs3:=hrv.off.size;have HRw3:=η37 hrv.row;have HF3:=η37 h3;have HSt3:=η37 hst3;clear hrv h3 hst3 HTr c7 HLk hlk;by_cases hc:c=0
   case neg=>
    have g2:(c !=0)=true:=by simpa using hc
    have HE:Hid (z1g wb w g gx st K R (.returned (.tuple #[.slice none 0 0,.int .i64 c])) w3):=η37 (by
     have h:=HRR.out;rw[if_pos hc] at h;rw[←h]
     exact ⟨_,rfl,⟨_,_,_,_,HF3.out.beside fun i hi=>by
      rcases hi with hi|hi
      ·exact .inl (.inl hi)
      ·cases hi⟩,HL.out.stay.trans fun i hi=>HSt3.out i (.inl hi),fun e=>absurd e hc⟩)
    clear hc;go_wp2_with fail;go_ret2;exact HE.out
   case pos=>
   subst hc;have HR2:Hid (q3O st h' A B τ2 (ns.drop (k+1)) (acc++[M])=R):=η37 (by have h:=HRR.out;rw[if_neg (fun h=>h rfl)] at h;exact h);obtain ⟨M1,hM1⟩: ∃M1,M.length=M1:=⟨_,rfl⟩
   have HM1:=η37 hM1;rw[hM1] at HF3 HRw3;rw[hM1]
   have HRow:Hid ((w3.alloc (.cells #[.slice a3 M1 k3] 180)).ownsRow w.heap.size 180 1 (.slice al (k+1) kl) (k+1) vsk):=η37 (by
    have h:=(HL.out.ls.same (w':=w3) fun i hi=>HSt3.out i (.inr (.inr hi))).own;rw[HAl.out] at h
    exact q0N h (q0B _ _))
   have hwb:=HL.out.base.2;have hwS:w.heap.size≤(w3.alloc (.cells #[.slice a3 M1 k3] 180)).heap.size:=by rw[World.size_alloc];omega
   have HwS:=η37 hwS;clear HRR hM1 hwS
   go_wp2_with (at_builtin;refine q0R rfl (.tmp 57) (.tmp 59) 240 rfl w.heap.size 180 _ 1 24 Tryz.underlying240 Tryz.infoLs (by decide) (by decide) _ (k+1) vsk rfl HRow.out _ 1 1 [.slice a3 M1 k3] rfl rfl (fun h=>by cases h) (Rd.lit _ _ _) (fun u hu=>by rw[List.mem_singleton.1 hu];rfl) (by unfold maxLen;omega) (by omega) HwS.out ?_;intro v4 w4 hown hgrow hat;obtain ⟨a4,k4,rfl⟩:=q0J hown;have HO4:=η37 hown;have HG4:=η37 hgrow;have HA4:=η37 hat;clear hown hgrow hat)
   go_roundw
   case rel=>
    refine ⟨k+1,vsk++[.slice a3 M1 k3],acc++[M],τ2,hlt,by go_num,?_,by rw[List.length_append,HAl.out];rfl,HR2.out⟩;have hl:=HL.out;exact hl.push (M:=M) ⟨_,_,_,_,HF3.out⟩ HSt3.out hs3 (by rw[HM1.out];exact HRw3.out) (by rw[HAl.out];exact HO4.out) HG4.out HA4.out
   case measure=>simp[intOf];omega
  ·obtain rfl:k=n:=by omega
   have hd:decide ((k:Int)<(k:Int))=false:=decide_eq_false (by omega);have hrr:=HRr.out;rw[List.drop_of_length_le (by rw[HNl.out];exact Nat.le_refl _),q3O] at hrr;have HRR:=η37 hrr;have hss:=HS.out (by rw[←hrr]);rw[←hrr] at hss;have HMg:=η37 (z8v wr hgrd (by omega) hss.2 hss.1);clear hrr hss hgrd;go_wp2_with fail;refine HMg.out.mono ?_;rintro e w3 ⟨vU,rfl,hrow,hb3⟩
   have HE:Hid (z1g wb w g gx st K R (.returned (.tuple #[vU,.int .i64 0])) w3):=η37 (by
    rw[←HRR.out];refine ⟨vU,rfl,HL.out.i.more hb3 (fun i hi=>?_),HL.out.stay.trans fun i hi=>HL.out.i.kExt hb3 i (.inl hi),fun _=>q0v hrow (HL.out.base.2)⟩;rcases hi with hi|hi
    ·exact .inl (.inl hi)
    ·exact .inr (q0c hrow i hi))
   obtain ⟨aU,kU,rfl⟩:=q0J hrow;clear hrow hb3 HMg HRR HRr;go_wp2_with fail;go_ret2;exact HE.out
end
end
section
open Go.RowKit Go.Maps
def q2j (st:IxSt) (h u:Int):DM→List Int→Int→Int×Int×DM
 |σ,[],out=>(out,0,σ)
 | σ, n::ns,out=>match st.t n with
  |none=>(-1,1,σ)
  | some e=>if (q3A σ n e.L e.may h u).2.2.1≠0 then (-1,(q3A σ n e.L e.may h u).2.2.1,(q3A σ n e.L e.may h u).2.2.2)
   else q2j st h u (q3A σ n e.L e.may h u).2.2.2 ns (if (q3A σ n e.L e.may h u).2.1 then max out (q3A σ n e.L e.may h u).1.2.1 else out)
def z4K (L:List En) (h u:Int):Int:=match q2p L h u with|some e=>e.2.1|none=> -1
section
variable {wb w0 w W W1 w1 w2:World} {g gx gm gt B:Nat} {st st1:IxSt} {F Y Y1 K K' V:Nat→Prop} {σ σ1:DM} {va v v1 v2:Value} {vs:List Value} {ns:List Int} {acc:List (List En)} {M:List En}
theorem LsW.step (h:LsW wb w0 W g gx st σ K va v vs ns acc B) (h1:IxK wb W1 g gx st1 σ1 (fun i=>K i∨z8Q va v vs i)) (hst:Stay (fun i=>K i∨z8Q va v vs i) W W1) (hs:W.heap.size≤W1.heap.size):LsW wb w0 W1 g gx st1 σ1 K va v vs ns acc B:=
 ⟨h1,h.all.same fun i hi=>hst i (.inr (.inl hi)),h.ls.same fun i hi=>hst i (.inr (.inr hi)),h.stay.trans fun i hi=>hst i (.inl hi),⟨h.base.1,Nat.le_trans h.base.2 hs⟩,h.kl,h.wbl⟩
theorem LsW.start (h:IxK wb w g gx st σ K) (hx:Ext w W) (hall:Own W w.heap.size 3 1 va ns.length (ns.map (Value.int .i64))):LsW wb w W g gx st σ K va (.slice none 0 0) [] ns [] w.heap.size:=
 ⟨h.more hx (fun i hi=>by
   rcases hi with hi|hi|hi|⟨q,hi⟩
   ·exact .inl hi
   ·exact .inr (hall.lt i hi)
   ·cases hi
   ·simp[Value.ownBlock] at hi),hall,EGo.nil _ _,h.kExt hx,⟨Nat.le_refl _,hx.size⟩,fun i hi=>by obtain ⟨F,gm,gt,Y,q⟩:=h;exact (q.k i hi).1,h.base.size⟩
theorem Own.base0 {w:World} {B B':Nat} {e:TypeId} {size:Nat} {v:Value} {n:Nat} {cs:List Value} (h:Own w B e size v n cs) (k:B'≤B):Own w B' e size v n cs:=h.base k
theorem z9z (h:IxK wb w g gx st σ K) (hfull:st.full) (h' a:Int) (ha: -9223372036854775808≤a) {R:Int×Int×DM} (hR:q2j st h' (min a 1073741824) σ st.m.L.flatten (z4K st.w h' (min a 1073741824))=R):
  Calls Tryz.prog 62 #[.pointer (some ⟨gx,0,none⟩),.int .u64 h',.int .i64 a] w fun e w'=>e= .returned (.tuple #[.int .i64 R.1,.int .i64 R.2.1])∧IxK wb w' g gx st R.2.2 K∧Stay K w w':=by
 obtain ⟨B,hB⟩: ∃B,min a 1073741824=B:=⟨_,rfl⟩
 have hB0: -9223372036854775808≤B:=by omega
 rw[hB] at hR;have HK:=η37 h;obtain ⟨F,gm,gt,Y,h1⟩:=h;have HN:=η37 (q8e h1.i.x);have hok:=h1.i.x.1;have hbd:=Man.bounds hok.man;obtain ⟨_,v,vs,vm,D,nn,hi⟩:=h1.i.x;have c6:=hi.c6;have HRm:=η37 (z9q hi.mem hok.mem h' B);have hout:z4K st.w h' B=if (q2p st.w h' B).isSome then ((q2p st.w h' B).getD en0).2.1 else-1:=by unfold z4K;cases q2p st.w h' B<;>rfl
 have hver: ∀x∈st.w,0≤x.2.1∧x.2.1≤9223372036854775807:=fun x hx=>by have:=hok.mem.ok x hx;unfold q3J at this;simp at this;omega
 have HI:=η37 hi;have HOk:=η37 hok;have HBd:=η37 hbd;rw[hout] at hR;generalize (q2p st.w h' B).getD en0=y at*;generalize (q2p st.w h' B).isSome=q at*;have HR:=η37 hR;obtain ⟨y1,y2,y3⟩:=y;have HRm:Hid (Calls Tryz.prog 102 #[.pointer (some ⟨gm,0,none⟩),.int .u64 h',.int .i64 B] w fun r w'=>r= .returned (.tuple #[.agg #[.int .u64 y1,.int .i64 y2,.int .i64 y3],.bool q])∧Ext w w'):=HRm;clear hi hok hbd hR h1 hout hver;go_enter Tryz.func62,Tryz.ntmps62;go_wp2_with fail;refine HN.out.mono ?_;rintro e w1 ⟨rfl,rfl⟩;go_wp2_with fail;refine HRm.out.mono ?_;rintro e w1 ⟨rfl,hb1⟩;have HX1:=η37 (hb1.trans (q0B w1 (.cells #[.int .u64 y1,.int .i64 y2,.int .i64 y3] 106)));have hbk:=Blk.new w1 106 #[.int .u64 y1,.int .i64 y2,.int .i64 y3];have k1:(w1.alloc (.cells #[.int .u64 y1,.int .i64 y2,.int .i64 y3] 106)).cell? ⟨w1.heap.size,1,none⟩=some (.int .i64 y2):=hbk.cell 1;obtain ⟨av,kv,rfl,hgr⟩:=HI.out.grid
 have c4:=(HI.out.ext HX1.out).c4;have HAl:=η37 (z3k av st.m.L.length kv st.m.L _ (hgr.ext HX1.out) (by have:=HBd.out.2.1;omega));obtain ⟨W0,hW0⟩: ∃W0,w1.alloc (.cells #[.int .u64 y1,.int .i64 y2,.int .i64 y3] 106)=W0:=⟨_,rfl⟩
 rw[hW0] at HX1 k1 c4 HAl;clear hb1 hgr hbk HRm c6
 cases q with
 | false =>
  go_wp2_with fail;refine HAl.out.mono ?_;rintro e w2 ⟨va,rfl,hall,hb2⟩;obtain ⟨aa,ka,rfl⟩:=hall.slice;have HX2:=η37 (HX1.out.trans hb2);obtain ⟨ns,hns⟩: ∃ns,st.m.L.flatten=ns:=⟨_,rfl⟩
  have hRR:=HR.out;rw[hns] at hall hRR;have HRn:=η37 hRR;have HNs:=η37 hns;have HL0:=η37 ((LsW.start HK.out (W:=w2) HX2.out (va:= .slice aa ns.length ka) (hall.base0 HX1.out.size)));rw[hns];obtain ⟨n,hn⟩: ∃n,ns.length=n:=⟨_,rfl⟩
  have HNl:=η37 hn;have hn40:n≤40:=by rw[←hn,←hns];exact HBd.out.2.1
  rw[hn] at HL0;rw[hn];clear hall hb2 hns hn HAl HX1 c4 HN HI hRR hW0 k1;go_wp2_with fail
  go_loopw [8,40] (fun o i W=> ∃(k:Nat) (τ:DM) (oz:Int),k≤n∧i= .int .i64 (k:Int)∧o= .int .i64 oz∧LsW wb w W g gx st τ K (.slice aa n ka) (.slice none 0 0) [] ns [] w.heap.size∧q2j st h' B τ (ns.drop k) oz=R) (fun _ i _=>n-(intOf i).toNat)
  case atStart=>exact ⟨0,σ,_,Nat.zero_le _,rfl,rfl,HL0.out,HRn.out⟩
  case round=>
   obtain ⟨k,τ,oz,hk,rfl,rfl,hls,hrr⟩:=hrel;have HL:=η37 hls;have HRr:=η37 hrr;clear hls hrr;by_cases hlt:k<n
   ·have hd:decide ((k:Int)<(n:Int))=true:=decide_eq_true (by omega)
    have q1:IntKind.i64.wrap ((k:Int)+1)=(k:Int)+1:=by rw[IntKind.wrap_i64];omega
    have q5:(k:Int)<(n:Int):=by omega
    obtain ⟨_,_,ea,hia⟩:=q2l HL.out.all;rw[HNl.out] at ea
    cases ea;rw[HNl.out] at hia;obtain ⟨ba,oa,rfl,n0⟩:=hia.at hlt;have hkl:k<ns.length:=by rw[HNl.out];exact hlt
    have hdrop:ns.drop k=ns.getD k 0::ns.drop (k+1):=by
     rw[List.drop_eq_getElem_cons hkl,List.getD_eq_getElem?_getD,List.getElem?_eq_getElem hkl];rfl
    have hmem:ns.getD k 0∈st.m.L.flatten:=by rw[HNs.out];exact q3j ns k hkl
    have hrr:=HRr.out;rw[hdrop] at hrr;obtain ⟨e,he⟩:=hfull _ hmem;have hwf:=(HBd.out.2.2.2.1 _ hmem).1;generalize ns.getD k 0=nk at*;rw[q2j,he] at hrr;simp only at hrr;obtain ⟨F2,gm2,gt2,Y2,h2⟩:=HL.out.i;have HTr:=η37 (z4p (h2.tb he) h' B hB0);have HF2:=η37 h2;obtain ⟨_,v2,vs2,vm2,D2,nn2,hi2⟩:=h2.i.x;have c7:=hi2.c7;have hlk:=hi2.at hwf he;obtain ⟨r,hr⟩: ∃r,q3A τ nk e.L e.may h' B=r:=⟨_,rfl⟩
    rw[hr] at hrr HTr;obtain ⟨⟨z1,z2,z3⟩,okb,c,τ2⟩:=r;simp only at hrr;have HTr:Hid (Calls Tryz.prog 104 #[.pointer (some ⟨e.b,0,none⟩),.int .u64 h',.int .i64 B] wr fun e w'=>e= .returned (.tuple #[.agg #[.int .u64 z1,.int .i64 z2,.int .i64 z3],.bool okb,.int .i64 c])∧DkS wr g F2 τ2 w'):=HTr;have HRR:=η37 hrr;have HLk:=η37 hlk;clear hia hdrop hmem hrr h2 hi2 hr;go_wp2_with fail;refine HTr.out.mono ?_;rintro e3 w3 ⟨rfl,hd3⟩;obtain ⟨h3,hst3⟩:=HF2.out.disk hd3;have HL3:=η37 ((HL.out.step ⟨_,_,_,_,h3⟩ hst3 hd3.off.size).grow (q0B w3 (.cells #[.int .u64 z1,.int .i64 z2,.int .i64 z3] 106)));have hbk:=Blk.new w3 106 #[.int .u64 z1,.int .i64 z2,.int .i64 z3];have k1:(w3.alloc (.cells #[.int .u64 z1,.int .i64 z2,.int .i64 z3] 106)).cell? ⟨w3.heap.size,1,none⟩=some (.int .i64 z2):=hbk.cell 1;clear hd3 h3 hst3 HTr c7 HLk hlk hbk;by_cases hc:c=0
    case neg=>
     have g2:(c !=0)=true:=by simpa using hc
     have HE:Hid (R=(-1,c,τ2)):=η37 (by
      have h:=HRR.out;rw[if_pos hc] at h
      exact h.symm)
     clear hc;go_wp2_with fail;go_ret2;rw[HE.out];exact ⟨rfl,HL3.out.i.beside fun i hi=> .inl hi,HL3.out.stay⟩
    case pos=>
    subst hc
    cases okb with
    | false=>
     have HR2:Hid (q2j st h' B τ2 (ns.drop (k+1)) oz=R):=η37 (by have h:=HRR.out;rw[if_neg (fun h=>h rfl),if_neg (by decide)] at h;exact h);clear HRR;go_wp2_with fail
     go_roundw
     case rel=>exact ⟨k+1,τ2,oz,hlt,by go_num,rfl,HL3.out,HR2.out⟩
     case measure=>simp[intOf];omega
    | true=>
     obtain ⟨O,hO⟩: ∃O,max oz z2=O:=⟨_,rfl⟩
     have HR2:Hid (q2j st h' B τ2 (ns.drop (k+1)) O=R):=η37 (by have h:=HRR.out;rw[if_neg (fun h=>h rfl),if_pos rfl,hO] at h;exact h);clear HRR;go_wp2_with fail
     go_roundw
     case rel=>exact ⟨k+1,τ2,O,hlt,by go_num,rfl,HL3.out,HR2.out⟩
     case measure=>simp[intOf];omega
   ·obtain rfl:k=n:=by omega
    have hd:decide ((k:Int)<(k:Int))=false:=decide_eq_false (by omega);have hrr:=HRr.out;rw[List.drop_of_length_le (by rw[HNl.out];exact Nat.le_refl _),q2j] at hrr;have HE:=η37 hrr;clear hrr;go_wp2_with fail;go_ret2;rw[←HE.out];exact ⟨rfl,HL.out.i.beside fun i hi=> .inl hi,HL.out.stay⟩
 | true =>
  go_wp2_with fail;refine HAl.out.mono ?_;rintro e w2 ⟨va,rfl,hall,hb2⟩;obtain ⟨aa,ka,rfl⟩:=hall.slice;have HX2:=η37 (HX1.out.trans hb2);obtain ⟨ns,hns⟩: ∃ns,st.m.L.flatten=ns:=⟨_,rfl⟩
  have hRR:=HR.out;rw[hns] at hall hRR;have HRn:=η37 hRR;have HNs:=η37 hns;have HL0:=η37 ((LsW.start HK.out (W:=w2) HX2.out (va:= .slice aa ns.length ka) (hall.base0 HX1.out.size)));rw[hns];obtain ⟨n,hn⟩: ∃n,ns.length=n:=⟨_,rfl⟩
  have HNl:=η37 hn;have hn40:n≤40:=by rw[←hn,←hns];exact HBd.out.2.1
  rw[hn] at HL0;rw[hn];clear hall hb2 hns hn HAl HX1 c4 HN HI hRR hW0 k1;go_wp2_with fail
  go_loopw [8,40] (fun o i W=> ∃(k:Nat) (τ:DM) (oz:Int),k≤n∧i= .int .i64 (k:Int)∧o= .int .i64 oz∧LsW wb w W g gx st τ K (.slice aa n ka) (.slice none 0 0) [] ns [] w.heap.size∧q2j st h' B τ (ns.drop k) oz=R) (fun _ i _=>n-(intOf i).toNat)
  case atStart=>exact ⟨0,σ,_,Nat.zero_le _,rfl,rfl,HL0.out,HRn.out⟩
  case round=>
   obtain ⟨k,τ,oz,hk,rfl,rfl,hls,hrr⟩:=hrel;have HL:=η37 hls;have HRr:=η37 hrr;clear hls hrr;by_cases hlt:k<n
   ·have hd:decide ((k:Int)<(n:Int))=true:=decide_eq_true (by omega)
    have q1:IntKind.i64.wrap ((k:Int)+1)=(k:Int)+1:=by rw[IntKind.wrap_i64];omega
    have q5:(k:Int)<(n:Int):=by omega
    obtain ⟨_,_,ea,hia⟩:=q2l HL.out.all;rw[HNl.out] at ea
    cases ea;rw[HNl.out] at hia;obtain ⟨ba,oa,rfl,n0⟩:=hia.at hlt;have hkl:k<ns.length:=by rw[HNl.out];exact hlt
    have hdrop:ns.drop k=ns.getD k 0::ns.drop (k+1):=by
     rw[List.drop_eq_getElem_cons hkl,List.getD_eq_getElem?_getD,List.getElem?_eq_getElem hkl];rfl
    have hmem:ns.getD k 0∈st.m.L.flatten:=by rw[HNs.out];exact q3j ns k hkl
    have hrr:=HRr.out;rw[hdrop] at hrr;obtain ⟨e,he⟩:=hfull _ hmem;have hwf:=(HBd.out.2.2.2.1 _ hmem).1;generalize ns.getD k 0=nk at*;rw[q2j,he] at hrr;simp only at hrr;obtain ⟨F2,gm2,gt2,Y2,h2⟩:=HL.out.i;have HTr:=η37 (z4p (h2.tb he) h' B hB0);have HF2:=η37 h2;obtain ⟨_,v2,vs2,vm2,D2,nn2,hi2⟩:=h2.i.x;have c7:=hi2.c7;have hlk:=hi2.at hwf he;obtain ⟨r,hr⟩: ∃r,q3A τ nk e.L e.may h' B=r:=⟨_,rfl⟩
    rw[hr] at hrr HTr;obtain ⟨⟨z1,z2,z3⟩,okb,c,τ2⟩:=r;simp only at hrr;have HTr:Hid (Calls Tryz.prog 104 #[.pointer (some ⟨e.b,0,none⟩),.int .u64 h',.int .i64 B] wr fun e w'=>e= .returned (.tuple #[.agg #[.int .u64 z1,.int .i64 z2,.int .i64 z3],.bool okb,.int .i64 c])∧DkS wr g F2 τ2 w'):=HTr;have HRR:=η37 hrr;have HLk:=η37 hlk;clear hia hdrop hmem hrr h2 hi2 hr;go_wp2_with fail;refine HTr.out.mono ?_;rintro e3 w3 ⟨rfl,hd3⟩;obtain ⟨h3,hst3⟩:=HF2.out.disk hd3;have HL3:=η37 ((HL.out.step ⟨_,_,_,_,h3⟩ hst3 hd3.off.size).grow (q0B w3 (.cells #[.int .u64 z1,.int .i64 z2,.int .i64 z3] 106)));have hbk:=Blk.new w3 106 #[.int .u64 z1,.int .i64 z2,.int .i64 z3];have k1:(w3.alloc (.cells #[.int .u64 z1,.int .i64 z2,.int .i64 z3] 106)).cell? ⟨w3.heap.size,1,none⟩=some (.int .i64 z2):=hbk.cell 1;clear hd3 h3 hst3 HTr c7 HLk hlk hbk;by_cases hc:c=0
    case neg=>
     have g2:(c !=0)=true:=by simpa using hc
     have HE:Hid (R=(-1,c,τ2)):=η37 (by
      have h:=HRR.out;rw[if_pos hc] at h
      exact h.symm)
     clear hc;go_wp2_with fail;go_ret2;rw[HE.out];exact ⟨rfl,HL3.out.i.beside fun i hi=> .inl hi,HL3.out.stay⟩
    case pos=>
    subst hc
    cases okb with
    | false=>
     have HR2:Hid (q2j st h' B τ2 (ns.drop (k+1)) oz=R):=η37 (by have h:=HRR.out;rw[if_neg (fun h=>h rfl),if_neg (by decide)] at h;exact h);clear HRR;go_wp2_with fail
     go_roundw
     case rel=>exact ⟨k+1,τ2,oz,hlt,by go_num,rfl,HL3.out,HR2.out⟩
     case measure=>simp[intOf];omega
    | true=>
     obtain ⟨O,hO⟩: ∃O,max oz z2=O:=⟨_,rfl⟩
     have HR2:Hid (q2j st h' B τ2 (ns.drop (k+1)) O=R):=η37 (by have h:=HRR.out;rw[if_neg (fun h=>h rfl),if_pos rfl,hO] at h;exact h);clear HRR;go_wp2_with fail
     go_roundw
     case rel=>exact ⟨k+1,τ2,O,hlt,by go_num,rfl,HL3.out,HR2.out⟩
     case measure=>simp[intOf];omega
   ·obtain rfl:k=n:=by omega
    have hd:decide ((k:Int)<(k:Int))=false:=decide_eq_false (by omega);have hrr:=HRr.out;rw[List.drop_of_length_le (by rw[HNl.out];exact Nat.le_refl _),q2j] at hrr;have HE:=η37 hrr;clear hrr;go_wp2_with fail;go_ret2;rw[←HE.out];exact ⟨rfl,HL.out.i.beside fun i hi=> .inl hi,HL.out.stay⟩
end
end
end Go.Proofs.YthdekbmdkpcooaaGreatDoor
