/- How an index lies in memory. An index with its disk, made since a world, beside other blocks. Walks: an entry is added to an index; how many wait; its manifest. Walks: the entries of a hash between two versions (index.Range). Walks: the last version of a hash up to one (index.Last). -/
import Derived.Test.YtmajfklnagdlpaaGreatDoorG37Bs
import Derived.Test.YtmajfklnagdlpaaGreatDoorG40Bs
import Derived.Test.YtmajfklnagdlpaaGreatDoorG30Bs
import Derived.Test.YtmajfklnagdlpaaGreatDoorG38Bs
import Derived.Test.YtmajfklnagdlpaaGreatDoorG39Bs
import Derived.Test.YtmajfklnagdlpaaGreatDoorG11Bs
import Derived.StillTailTactics
import Derived.Test.YtmajfklnagdlpaaGreatDoorG33Bs
set_option linter.unusedVariables false
set_option linter.unusedSimpArgs false
namespace Go.Proofs.YtmajfklnagdlpaaGreatDoor
open Go.RowKit Go.Maps
structure Man where
  nx:Int
  ck:Int
  sd:Int
  L:List (List Int)
def Man.ok (m:Man):Prop:=q0T m.nx m.ck m.L=true∧0≤m.sd∧m.sd<18446744073709551616
structure TE where
  b:Nat
  L:List En
  may:Int→Bool
structure IxSt where
  m:Man
  rate:Nat
  w:List En
  t:Int→Option TE
  c:Nat
def InX (gx gm gt i:Nat):Prop:=i=gx∨i=gm∨i=gt
def z9Z (o:Option TE):DataW Unit:=match o with|some e=> .lit (.int .i64 e.b)|none=> .nil
structure IxI (w:World) (gx g gm gt:Nat) (st:IxSt) (v:Value) (vs:List Value) (vm:Value) (D:DataW Unit) (nn:Nat) (Y:Nat→Prop):Prop where
  blk:Blk w gx 131 #[.pointer (some ⟨g,0,none⟩),.int .i64 st.m.nx,.int .i64 st.m.ck,.int .u64 st.m.sd,v,.float .f64 st.rate,.pointer (some ⟨gm,0,none⟩),.map (some gt)]
  mem:MemI w gm vm st.w
  lev:OGr w 0 80 3 v vs st.m.L
  map:w.ownsMap Tryz.prog 3 q4W gt nn D
  cnt:nn≤st.c
  look: ∀n,D.atKey (.int .i64 n) .nil=z9Z (st.t n)
  tab: ∀n e,st.t n=some e→Tb w e.b g n e.L e.may Y
  inY: ∀i,(v.ownBlock=some i∨(∃q,(vs.getD q (.slice none 0 0)).ownBlock=some i)∨vm.ownBlock=some i)→Y i
  lt: ∀i,Y i→i<w.heap.size
  apart: ∀i,Y i→¬InX gx gm gt i
  ne:gx≠gm∧gx≠gt∧gm≠gt
structure y0C (st:IxSt):Prop where
  man:st.m.ok
  mem:okM st.w
  c:st.c≤1000000
def IxSt.full (st:IxSt):Prop:= ∀n∈st.m.L.flatten,∃e,st.t n=some e
def IxY (w:World) (gx g gm gt:Nat) (st:IxSt) (Y:Nat→Prop):Prop:=y0C st∧ ∃v vs vm D nn,IxI w gx g gm gt st v vs vm D nn Y
section
variable {w w':World} {gx g gm gt:Nat} {st:IxSt} {v:Value} {vs:List Value} {vm:Value} {D:DataW Unit} {nn:Nat} {Y Y' F:Nat→Prop}
theorem IxI.same (h:IxI w gx g gm gt st v vs vm D nn Y) (hs:w.heap.size≤w'.heap.size) (k: ∀i,InX gx gm gt i∨Y i→w'.heap[i]?=w.heap[i]?):IxI w' gx g gm gt st v vs vm D nn Y:=
  ⟨h.blk.same (k _ (.inl (.inl rfl))),h.mem.same fun i hi=>hi.elim (fun e=>k i (.inl (.inr (.inl e)))) fun e=>k i (.inr (h.inY i (.inr (.inr e)))),
    q2S h.lev fun i hi=>k i (.inr (h.inY i (hi.elim .inl fun e=> .inr (.inl e)))),q1V h.map (k _ (.inl (.inr (.inr rfl)))),h.cnt,h.look,
    fun n e hn=>(h.tab n e hn).same hs fun i hi=>k i (.inr hi),h.inY,fun i hi=>Nat.lt_of_lt_of_le (h.lt i hi) hs,h.apart,h.ne⟩
theorem IxI.xlt (h:IxI w gx g gm gt st v vs vm D nn Y): ∀i,InX gx gm gt i→i<w.heap.size:=fun i hi=>by
  rcases hi with rfl|rfl|rfl
  · exact h.blk.lt
  · exact h.mem.blk.lt
  · exact h.map.lt
theorem IxI.ext (h:IxI w gx g gm gt st v vs vm D nn Y) (k:Ext w w'):IxI w' gx g gm gt st v vs vm D nn Y:=
  h.same k.size fun i hi=>k.block i (hi.elim (h.xlt i) (h.lt i))
theorem IxI.off (h:IxI w gx g gm gt st v vs vm D nn Y) (k:OffS F w w') (hd: ∀i,InX gx gm gt i∨Y i→¬F i):IxI w' gx g gm gt st v vs vm D nn Y:=
  h.same k.size fun i hi=>k.block i (hi.elim (h.xlt i) (h.lt i)) (hd i hi)
theorem IxI.memTurn (h:IxI w gx g gm gt st v vs vm D nn Y) {vm':Value} {L':List En} (hm:MemI w' gm vm' L') (off:OffS (fun i=>i=gm) w w') (hv:vm'=vm∨ ∀i,vm'.ownBlock=some i→w.heap.size≤i):
    IxI w' gx g gm gt {st with w:=L'} v vs vm' D nn (fun i=>Y i∨vm'.ownBlock=some i):=by
  have hY: ∀i,Y i→w'.heap[i]?=w.heap[i]?:=fun i hi=>off.block i (h.lt i hi) fun e=>h.apart i hi (.inr (.inl e))
  have hnew: ∀i,vm'.ownBlock=some i→Y i∨w.heap.size≤i:=fun i hi=>by
    rcases hv with e|e
    · exact .inl (h.inY i (.inr (.inr (e▸hi))))
    · exact .inr (e i hi)
  have hlt: ∀i,(Y i∨vm'.ownBlock=some i)→i<w'.heap.size:=fun i hi=>by
    rcases hi with hi|hi
    · exact Nat.lt_of_lt_of_le (h.lt i hi) off.size
    · exact hm.lt (.inr hi)
  have hap : ∀i,(Y i∨vm'.ownBlock=some i)→¬InX gx gm gt i:=fun i hi=>by
    rcases hi with hi|hi
    · exact h.apart i hi
    · rcases hnew i hi with h1|h1
      · exact h.apart i h1
      · intro hx
        have:i<w.heap.size:=by
          rcases hx with rfl|rfl|rfl
          · exact h.blk.lt
          · exact h.mem.blk.lt
          · exact h.map.lt
        omega
  exact ⟨h.blk.same (off.block _ h.blk.lt h.ne.1),hm,q2S h.lev fun i hi=>hY i (h.inY i (hi.elim .inl fun e=> .inr (.inl e))),q1V h.map (off.block _ h.map.lt fun e=>h.ne.2.2 e.symm),h.cnt,h.look,
    fun n e hn=>((h.tab n e hn).same off.size hY).mono (fun i hi=> .inl hi) hlt,
    fun i hi=>by
      rcases hi with hi|hi|hi
      · exact .inl (h.inY i (.inl hi))
      · exact .inl (h.inY i (.inr (.inl hi)))
      · exact .inr hi,hlt,hap,h.ne⟩
theorem IxI.c0 (h:IxI w gx g gm gt st v vs vm D nn Y):w.cell? ⟨gx,0,none⟩=some (.pointer (some ⟨g,0,none⟩)):=h.blk.cell 0
theorem IxI.c1 (h:IxI w gx g gm gt st v vs vm D nn Y):w.cell? ⟨gx,1,none⟩=some (.int .i64 st.m.nx):=h.blk.cell 1
theorem IxI.c2 (h:IxI w gx g gm gt st v vs vm D nn Y):w.cell? ⟨gx,2,none⟩=some (.int .i64 st.m.ck):=h.blk.cell 2
theorem IxI.c3 (h:IxI w gx g gm gt st v vs vm D nn Y):w.cell? ⟨gx,3,none⟩=some (.int .u64 st.m.sd):=h.blk.cell 3
theorem IxI.c4 (h:IxI w gx g gm gt st v vs vm D nn Y):w.cell? ⟨gx,4,none⟩=some v:=h.blk.cell 4
theorem IxI.c5 (h:IxI w gx g gm gt st v vs vm D nn Y):w.cell? ⟨gx,5,none⟩=some (.float .f64 st.rate):=h.blk.cell 5
theorem IxI.c6 (h:IxI w gx g gm gt st v vs vm D nn Y):w.cell? ⟨gx,6,none⟩=some (.pointer (some ⟨gm,0,none⟩)):=h.blk.cell 6
theorem IxI.c7 (h:IxI w gx g gm gt st v vs vm D nn Y):w.cell? ⟨gx,7,none⟩=some (.map (some gt)):=h.blk.cell 7
theorem z9r (w:World):(zeroValue 141).run Tryz.prog w= .ok (.pointer none) w:=by kernel_rfl
theorem z1m {n:Int} {e:TE} (hl: ∀n,D.atKey (.int .i64 n) .nil=z9Z (st.t n)) (hm:IsMap D) (x:Int):
    (D.put (.int .i64 n) (.lit (.int .i64 e.b))).atKey (.int .i64 x) .nil=z9Z (if x=n then some e else st.t x):=by
  by_cases hx:x=n
  · subst hx
    rw[if_pos rfl,atKey_put_same hm (k:= .int .i64 x) (show WideAt.IsKeyLit (.int .i64 x) from trivial)]
    rfl
  · rw[if_neg hx,atKey_put_other (by intro h;injection h with _ h;exact hx h),hl]
end
end Go.Proofs.YtmajfklnagdlpaaGreatDoor
namespace Go.Proofs.YtmajfklnagdlpaaGreatDoor
open Go.RowKit
structure IxD (w:World) (g:Nat) (F:Nat→Prop) (σ:DM) (gx gm gt:Nat) (st:IxSt) (Y:Nat→Prop):Prop where
  d:Dk w g F σ
  x:IxY w gx g gm gt st Y
  ap: ∀i,F i→¬InX gx gm gt i∧¬Y i
structure IxF (wb w:World) (g:Nat) (F:Nat→Prop) (σ:DM) (gx gm gt:Nat) (st:IxSt) (Y K:Nat→Prop):Prop where
  i:IxD w g F σ gx gm gt st Y
  bF: ∀i,F i→wb.heap.size≤i
  bX: ∀i,InX gx gm gt i→wb.heap.size≤i
  bY: ∀i,Y i→wb.heap.size≤i
  ext:Ext wb w
  k: ∀i,K i→i<w.heap.size∧¬F i∧¬InX gx gm gt i∧¬Y i
def IxK (wb w:World) (g gx:Nat) (st:IxSt) (σ:DM) (K:Nat→Prop):Prop:= ∃F gm gt Y,IxF wb w g F σ gx gm gt st Y K
section
variable {wb w w1 w2:World} {g gx gm gt:Nat} {st st1:IxSt} {F Y Y1 K K':Nat→Prop} {σ σ1:DM}
theorem IxY.xlt (h:IxY w gx g gm gt st Y): ∀i,InX gx gm gt i→i<w.heap.size:=by
  obtain ⟨_,v,vs,vm,D,nn,h1⟩:=h
  exact h1.xlt
theorem IxY.ylt (h:IxY w gx g gm gt st Y): ∀i,Y i→i<w.heap.size:=by
  obtain ⟨_,v,vs,vm,D,nn,h1⟩:=h
  exact h1.lt
theorem IxY.ext (h:IxY w gx g gm gt st Y) (k:Ext w w1):IxY w1 gx g gm gt st Y:=by
  obtain ⟨h0,v,vs,vm,D,nn,h1⟩:=h
  exact ⟨h0,v,vs,vm,D,nn,h1.ext k⟩
theorem IxY.off (h:IxY w gx g gm gt st Y) (k:OffS F w w1) (hd: ∀i,InX gx gm gt i∨Y i→¬F i):IxY w1 gx g gm gt st Y:=by
  obtain ⟨h0,v,vs,vm,D,nn,h1⟩:=h
  exact ⟨h0,v,vs,vm,D,nn,h1.off k hd⟩
theorem IxY.same (h:IxY w gx g gm gt st Y) (hs:w.heap.size≤w1.heap.size) (k: ∀i,InX gx gm gt i∨Y i→w1.heap[i]?=w.heap[i]?):IxY w1 gx g gm gt st Y:=by
  obtain ⟨h0,v,vs,vm,D,nn,h1⟩:=h
  exact ⟨h0,v,vs,vm,D,nn,h1.same hs k⟩
theorem IxF.grow (h:IxF wb w g F σ gx gm gt st Y K) (k:Ext w w1):IxF wb w1 g F σ gx gm gt st Y K:=
  ⟨⟨h.i.d.ext k,h.i.x.ext k,h.i.ap⟩,h.bF,h.bX,h.bY,h.ext.trans k,fun i hi=>⟨Nat.lt_of_lt_of_le (h.k i hi).1 k.size,(h.k i hi).2⟩⟩
theorem IxF.kExt (h:IxF wb w g F σ gx gm gt st Y K) (k:Ext w w1):Stay K w w1:=fun i hi=>k.block i (h.k i hi).1
theorem IxF.notF (h:IxF wb w g F σ gx gm gt st Y K): ∀i,InX gx gm gt i∨Y i→¬F i:=fun i hi hf=>hi.elim (h.i.ap i hf).1 (h.i.ap i hf).2
theorem IxF.disk (h:IxF wb w g F σ gx gm gt st Y K) (k:DkS w g F σ1 w1):IxF wb w1 g (Gr F w w1) σ1 gx gm gt st Y K∧Stay K w w1:=by
  have hs:=k.off.size
  refine ⟨⟨⟨k.dk,h.i.x.off k.off h.notF,fun i hi=>?_⟩,fun i hi=>Gr.ge h.bF h.ext.size hi,h.bX,h.bY,k.off.ext h.ext h.bF,fun i hi=>?_⟩,fun i hi=>?_⟩
  · rcases hi with hi|hi
    · exact h.i.ap i hi
    · exact ⟨fun hx=>by have:=h.i.x.xlt i hx;omega,fun hy=>by have:=h.i.x.ylt i hy;omega⟩
  · obtain ⟨a,b,c,d⟩:=h.k i hi
    exact ⟨by omega,Gr.not b a,c,d⟩
  · obtain ⟨a,b,c,d⟩:=h.k i hi
    exact k.off.block i a b
theorem IxF.turn (h:IxF wb w g F σ gx gm gt st Y K) (hx:IxY w1 gx g gm gt st1 Y1) (off:OffS (InX gx gm gt) w w1) (hY: ∀i,Y1 i→Y i∨w.heap.size≤i):IxF wb w1 g F σ gx gm gt st1 Y1 K∧Stay K w w1:=by
  have hs:=off.size
  refine ⟨⟨⟨h.i.d.held hs fun i hi=>off.block i (h.i.d.Flt i hi) (h.i.ap i hi).1,hx,fun i hi=>⟨(h.i.ap i hi).1,fun hy=>?_⟩⟩,h.bF,h.bX,fun i hi=>?_,off.ext h.ext h.bX,fun i hi=>?_⟩,fun i hi=>?_⟩
  · rcases hY i hy with h1|h1
    · exact (h.i.ap i hi).2 h1
    · have:=h.i.d.Flt i hi;omega
  · rcases hY i hi with h1|h1
    · exact h.bY i h1
    · have:=h.ext.size;omega
  · obtain ⟨a,b,c,d⟩:=h.k i hi
    refine ⟨by omega,b,c,fun hy=>?_⟩
    rcases hY i hy with h1|h1
    · exact d h1
    · omega
  · obtain ⟨a,b,c,d⟩:=h.k i hi
    exact off.block i a c
theorem IxF.turnV {K2:Nat→Prop} (h:IxF wb w g F σ gx gm gt st Y K2) (hx:IxY w1 gx g gm gt st1 Y1) (off:OffS (InX gx gm gt) w w1) (hY: ∀i,Y1 i→wb.heap.size≤i∧¬F i) (hK: ∀i,K i→K2 i∧¬Y1 i):IxF wb w1 g F σ gx gm gt st1 Y1 K∧Stay K w w1:=by
  have hs:=off.size
  refine ⟨⟨⟨h.i.d.held hs fun i hi=>off.block i (h.i.d.Flt i hi) (h.i.ap i hi).1,hx,fun i hi=>⟨(h.i.ap i hi).1,fun hy=>(hY i hy).2 hi⟩⟩,h.bF,h.bX,fun i hi=>(hY i hi).1,off.ext h.ext h.bX,fun i hi=>?_⟩,fun i hi=>?_⟩
  · obtain ⟨k2,hny⟩:=hK i hi
    obtain ⟨a,b,c,d⟩:=h.k i k2
    exact ⟨by omega,b,c,hny⟩
  · obtain ⟨k2,hny⟩:=hK i hi
    obtain ⟨a,b,c,d⟩:=h.k i k2
    exact off.block i a c
theorem IxF.more (h:IxF wb w g F σ gx gm gt st Y K) (k:Ext w w1) (hK: ∀i,K' i→K i∨(w.heap.size≤i∧i<w1.heap.size)):IxF wb w1 g F σ gx gm gt st Y K':=by
  have h2:=h.grow k
  refine ⟨h2.i,h2.bF,h2.bX,h2.bY,h2.ext,fun i hi=>?_⟩
  rcases hK i hi with h3|⟨h3,h4⟩
  · exact h2.k i h3
  · exact ⟨h4,fun hf=>by have:=h.i.d.Flt i hf;omega,fun hx=>by have:=h.i.x.xlt i hx;omega,fun hy=>by have:=h.i.x.ylt i hy;omega⟩
theorem IxF.side (h:IxF wb w g F σ gx gm gt st Y K) (hs:w.heap.size≤w1.heap.size) (hx:Ext wb w1) (k: ∀i,i<w.heap.size→¬K i→w1.heap[i]?=w.heap[i]?):IxF wb w1 g F σ gx gm gt st Y K:=by
  refine ⟨⟨h.i.d.held hs fun i hi=>k i (h.i.d.Flt i hi) fun hk=>(h.k i hk).2.1 hi,h.i.x.same hs fun i hi=>?_,h.i.ap⟩,h.bF,h.bX,h.bY,hx,fun i hi=>⟨Nat.lt_of_lt_of_le (h.k i hi).1 hs,(h.k i hi).2⟩⟩
  rcases hi with hi|hi
  · exact k i (h.i.x.xlt i hi) fun hk=>(h.k i hk).2.2.1 hi
  · exact k i (h.i.x.ylt i hi) fun hk=>(h.k i hk).2.2.2 hi
theorem IxF.beside (h:IxF wb w g F σ gx gm gt st Y K) (k: ∀i,K' i→K i):IxF wb w g F σ gx gm gt st Y K':=⟨h.i,h.bF,h.bX,h.bY,h.ext,fun i hi=>h.k i (k i hi)⟩
theorem IxF.tb (h:IxF wb w g F σ gx gm gt st Y K) {n:Int} {e:TE} (he:st.t n=some e):TbD w e.b g n e.L e.may Y F σ:=by
  obtain ⟨_,v,vs,vm,D,nn,h1⟩:=h.i.x
  exact ⟨h.i.d,h1.tab n e he,fun i hy hf=>(h.i.ap i hf).2 hy⟩
theorem IxK.base (h:IxK wb w g gx st σ K):Ext wb w:=by obtain ⟨F,gm,gt,Y,h1⟩:=h;exact h1.ext
theorem IxK.grow (h:IxK wb w g gx st σ K) (k:Ext w w1):IxK wb w1 g gx st σ K:=by obtain ⟨F,gm,gt,Y,h1⟩:=h;exact ⟨_,_,_,_,h1.grow k⟩
theorem IxK.kExt (h:IxK wb w g gx st σ K) (k:Ext w w1):Stay K w w1:=by obtain ⟨F,gm,gt,Y,h1⟩:=h;exact h1.kExt k
theorem IxK.more (h:IxK wb w g gx st σ K) (k:Ext w w1) (hK: ∀i,K' i→K i∨(w.heap.size≤i∧i<w1.heap.size)):IxK wb w1 g gx st σ K':=by obtain ⟨F,gm,gt,Y,h1⟩:=h;exact ⟨_,_,_,_,h1.more k hK⟩
theorem IxK.beside (h:IxK wb w g gx st σ K) (k: ∀i,K' i→K i):IxK wb w g gx st σ K':=by obtain ⟨F,gm,gt,Y,h1⟩:=h;exact ⟨_,_,_,_,h1.beside k⟩
theorem IxK.dkf (h:IxK wb w g gx st σ K): ∃F,DkF wb w g F σ K:=by
  obtain ⟨F,gm,gt,Y,h1⟩:=h
  exact ⟨F,h1.i.d,h1.bF,h1.ext,fun i hi=>⟨(h1.k i hi).1,(h1.k i hi).2.1⟩⟩
theorem IxK.disk {f:FuncId} {P:Program} {args:Array Value} {R:Ending→Prop} (h:IxK wb w g gx st σ K) (hc: ∀F,Dk w g F σ→Calls P f args w fun e w'=>R e∧DkS w g F σ1 w'):
    Calls P f args w fun e w'=>R e∧IxK wb w' g gx st σ1 K∧Stay K w w':=by
  obtain ⟨F,gm,gt,Y,h1⟩:=h
  refine (hc F h1.i.d).mono ?_
  rintro e w' ⟨he,hd⟩
  have:=h1.disk hd
  exact ⟨he,⟨_,_,_,_,this.1⟩,this.2⟩
end
end Go.Proofs.YtmajfklnagdlpaaGreatDoor
namespace Go.Proofs.YtmajfklnagdlpaaGreatDoor
open Go.RowKit
set_option maxRecDepth 100000
set_option linter.unusedVariables false
set_option maxHeartbeats 6400000
section
variable {wb w w1 w2:World} {g gx gm gt:Nat} {st st1:IxSt} {F Y Y1 K K':Nat→Prop} {σ σ1:DM}
theorem q7x (h:IxY w gx g gm gt st Y):Calls Tryz.prog 63 #[.pointer (some ⟨gx,0,none⟩)] w fun e w'=>e= .returned (.bool false)∧w=w':=by
  obtain ⟨_,v,vs,vm,D,nn,h1⟩:=h
  have c6:=h1.c6
  clear h1
  go_enter Tryz.func63,Tryz.ntmps63
  go_wp2_with fail
  go_ret
  exact ⟨rfl,rfl⟩
theorem q7P (h:IxY w gx g gm gt st Y):Calls Tryz.prog 43 #[.pointer (some ⟨gx,0,none⟩)] w fun e w'=>e= .returned (.int .i64 (st.w.length:Int))∧w=w':=by
  have HN:=Lib.hid (q7x h)
  obtain ⟨_,v,vs,vm,D,nn,h1⟩:=h
  have c6:=h1.c6
  have HL:=Lib.hid (z6h h1.mem)
  clear h1
  go_enter Tryz.func43,Tryz.ntmps43
  go_wp2_with fail
  refine HN.out.mono ?_
  rintro e w1 ⟨rfl,rfl⟩
  go_wp2_with fail
  refine HL.out.mono ?_
  rintro e w1 ⟨rfl,rfl⟩
  go_wp2_with fail
  go_ret
  exact ⟨rfl,rfl⟩
theorem IxI.grid {v:Value} {vs:List Value} {vm:Value} {D:DataW Unit} {nn:Nat} (h:IxI w gx g gm gt st v vs vm D nn Y): ∃ao c,v= .slice ao st.m.L.length c∧Grid w ao st.m.L.length c st.m.L:=h.lev.grid
theorem Man.bounds {m:Man} (h:m.ok):m.L.length≤5∧m.L.flatten.length≤40∧(∀i,(m.L.getD i []).length≤40)∧(∀x∈m.L.flatten,(Lit.int .i64 x).wf=true∧0≤x∧x<m.nx)∧0≤m.nx∧m.nx≤1000000∧m.L.flatten.Nodup∧0≤m.ck∧m.ck≤2147483647:=by
  have hv:=h.1
  unfold q0T q0i at hv
  simp only[Bool.and_eq_true,decide_eq_true_eq,List.all_eq_true] at hv
  obtain ⟨⟨⟨h1,h2,h3,h4⟩,h5,h6,h7,h8⟩,h9⟩:=hv
  refine ⟨h5,h6,fun i=>?_,fun x hx=>⟨?_,h7 x hx,h9 x hx⟩,h1,h2,h8,h3,h4⟩
  · rcases Nat.lt_or_ge i m.L.length with hi|hi
    · have:(m.L.getD i [])∈m.L:=by rw[List.getD_eq_getElem?_getD,List.getElem?_eq_getElem hi];exact List.getElem_mem hi
      have:=(List.sublist_flatten_of_mem this).length_le
      omega
    · rw[List.getD_eq_getElem?_getD,List.getElem?_eq_none hi];simp
  · have:=h7 x hx;have:=h9 x hx
    exact WalkArith.wf_i64 (by omega)
theorem q6g (h:IxY w gx g gm gt st Y):Calls Tryz.prog 16 #[.pointer (some ⟨gx,0,none⟩)] w fun e w'=>
    ∃v vs,e= .returned (.agg #[.int .i64 st.m.nx,.int .i64 st.m.ck,.int .u64 st.m.sd,v])∧OGr w' w.heap.size 80 3 v vs st.m.L∧Ext w w':=by
  have hb:=Man.bounds h.1.man
  have HN:=Lib.hid (fun W (k:Ext w W)=>q7x (h.ext k))
  obtain ⟨hok,v,vs,vm,D,nn,h1⟩:=h
  obtain ⟨ao,cp,rfl,hg⟩:=h1.grid
  have hx0:=q0C w (.cells #[.int .i64 0,.int .i64 0,.int .u64 0,.slice none 0 0] 45)
  have HBk:=Lib.hid (Blk.new w 45 #[.int .i64 0,.int .i64 0,.int .u64 0,.slice none 0 0])
  have h2:=h1.ext hx0
  have c1:=h2.c1;have c2:=h2.c2;have c3:=h2.c3;have c4:=h2.c4
  have HC:=Lib.hid (fun W (k:Ext w W)=>q8F st.m.nx st.m.ck st.m.sd ao st.m.L.length cp st.m.L W (hg.ext k) (fun i=>by have:=hb.2.2.1 i;omega) (by omega))
  have HX0:=Lib.hid hx0
  clear h1 h2 hg hok hb hx0
  go_enter Tryz.func16,Tryz.ntmps16
  go_wp2_with fail
  refine (HN.out _ HX0.out).mono ?_
  rintro e w1 ⟨rfl,rfl⟩
  go_wp2_with fail
  refine (HC.out _ HX0.out).mono ?_
  rintro e w1 ⟨v,vs2,rfl,hog,hb⟩
  obtain ⟨av,kv,rfl⟩:=hog.own.slice
  have HOG:=Lib.hid hog;have HB:=Lib.hid hb
  have hbk:=HBk.out.ext hb
  have k0:w1.cell? ⟨w.heap.size,0,none⟩=some (.int .i64 0):=hbk.cell 0
  have k1:w1.cell? ⟨w.heap.size,1,none⟩=some (.int .i64 0):=hbk.cell 1
  have k2:w1.cell? ⟨w.heap.size,2,none⟩=some (.int .u64 0):=hbk.cell 2
  have k3:w1.cell? ⟨w.heap.size,3,none⟩=some (.slice none 0 0):=hbk.cell 3
  have f0:w1.frozen? ⟨w.heap.size,0,none⟩=false:=hbk.free 0
  have f1:w1.frozen? ⟨w.heap.size,1,none⟩=false:=hbk.free 1
  have f2:w1.frozen? ⟨w.heap.size,2,none⟩=false:=hbk.free 2
  have f3:w1.frozen? ⟨w.heap.size,3,none⟩=false:=hbk.free 3
  have HF:Hid (∀W,OffS (fun i=>i=w.heap.size) w1 W→OGr W w.heap.size 80 3 (.slice av st.m.L.length kv) vs2 st.m.L∧Ext w W):=Lib.hid fun W hW=>by
    rw[World.size_alloc] at hog
    refine ⟨q2S (q6A hog (Nat.le_succ _)) fun i hi=>hW.block i (q5f hog i hi).2 fun e=>?_,hW.ext (HX0.out.trans hb) fun i hi=>by rw[hi];exact Nat.le_refl _⟩
    have:=(q5f hog i hi).1
    omega
  clear hog hb hbk
  go_wp2_with fail
  ((try simp only[Exit.inBlock,Exit.then]);refine bodyPost_ret (v:= .agg #[.int .i64 st.m.nx,.int .i64 st.m.ck,.int .u64 st.m.sd,.slice av st.m.L.length kv]) (by rw[q0s rfl];go_simp) rfl ?_)
  have hf:=HF.out _ ((((OffS.set (F:=fun i=>i=w.heap.size) w1 rfl 0 (.int .i64 st.m.nx)).trans (OffS.set (F:=fun i=>i=w.heap.size) _ rfl 1 (.int .i64 st.m.ck))).trans (OffS.set (F:=fun i=>i=w.heap.size) _ rfl 2 (.int .u64 st.m.sd))).trans (OffS.set (F:=fun i=>i=w.heap.size) _ rfl 3 (.slice av st.m.L.length kv)))
  exact ⟨_,vs2,rfl,hf.1,hf.2⟩
theorem z8k (h:IxK wb w g gx st σ K) {e:En} (he:q4p e=true) (hl:st.w.length<50000):
    Calls Tryz.prog 22 #[.pointer (some ⟨gx,0,none⟩),enV e] w fun r w'=>r= .returned (.int .i64 0)∧IxK wb w' g gx {st with w:=q3Z e st.w} σ K∧Stay K w w':=by
  obtain ⟨F,gm,gt,Y,h1⟩:=h
  have HF:=Lib.hid h1
  obtain ⟨e1,e2,e3⟩:=e
  show Calls _ _ #[_,.agg #[.int .u64 e1,.int .i64 e2,.int .i64 e3]] _ _
  have hx1:=q0C w (.cells #[.int .u64 e1,.int .i64 e2,.int .i64 e3] 66)
  have HX1:=Lib.hid hx1
  have HN:=Lib.hid (q7x (h1.i.x.ext hx1))
  have hbk:=Blk.new w 66 #[.int .u64 e1,.int .i64 e2,.int .i64 e3]
  have k0:(w.alloc (.cells #[.int .u64 e1,.int .i64 e2,.int .i64 e3] 66)).cell? ⟨w.heap.size,0,none⟩=some (.int .u64 e1):=hbk.cell 0
  have k1:(w.alloc (.cells #[.int .u64 e1,.int .i64 e2,.int .i64 e3] 66)).cell? ⟨w.heap.size,1,none⟩=some (.int .i64 e2):=hbk.cell 1
  have k2:(w.alloc (.cells #[.int .u64 e1,.int .i64 e2,.int .i64 e3] 66)).cell? ⟨w.heap.size,2,none⟩=some (.int .i64 e3):=hbk.cell 2
  have HPe:Hid (∃b0 B,∀W,Calls Tryz.prog 87 #[.agg #[.int .u64 e1,.int .i64 e2,.int .i64 e3]] W fun r w'=>r= .returned (.string ⟨(b0::B:List UInt8).toArray⟩)∧Ext W w'):=Lib.hid (by
    obtain ⟨b0,B,hB⟩: ∃b0 B,q5G (e1,e2,e3)=b0::B:=by
      have:=q2k (e1,e2,e3)
      cases h:q5G (e1,e2,e3) with
      |nil=>rw[h] at this;cases this
      |cons a l=>exact ⟨a,l,rfl⟩
    exact ⟨b0,B,fun W=>hB▸z1X (e1,e2,e3) W he⟩)
  obtain ⟨b0,B,hP⟩:=HPe.out
  have HP:=Lib.hid hP
  obtain ⟨hok,v,vs,vm,D,nn,hi⟩:=h1.i.x
  have HI:=Lib.hid hi
  have HOk:=Lib.hid hok
  have HMa:=Lib.hid (fun W (k:Ext w W)=>z8g (hi.mem.ext k) hok.mem he hl)
  have HOkM:=Lib.hid (hok.mem.add he hl)
  clear h1 hx1 hbk HPe hP hi hok hl he
  go_enter Tryz.func22,Tryz.ntmps22
  go_wp2_with fail
  refine HN.out.mono ?_
  rintro e w1 ⟨rfl,rfl⟩
  go_wp2_with fail
  refine (HP.out _).mono ?_
  rintro e w1 ⟨rfl,hb⟩
  have HB:=Lib.hid (HX1.out.trans hb)
  have p0:=q0A hb k0;have p1:=q0A hb k1;have p2:=q0A hb k2
  have c6:=(HI.out.ext HB.out).c6
  clear hb k0 k1 k2
  go_wp2_with fail
  go_still_tail 5,(by kernel_rfl)
  go_wp2_with fail
  refine (HMa.out _ HB.out.drew).mono ?_
  rintro e w2 ⟨vm2,rfl,hm,hv,hoff⟩
  have HX2:Hid (IxY w2 gx g gm gt {st with w:=q3Z (e1,e2,e3) st.w} (fun i=>Y i∨vm2.ownBlock=some i)):=Lib.hid ⟨⟨HOk.out.man,HOkM.out,HOk.out.c⟩,v,vs,vm2,D,nn,(HI.out.ext HB.out.drew).memTurn hm hoff hv⟩
  have HT:=Lib.hid ((HF.out.grow HB.out.drew).turn HX2.out (hoff.mono fun i _ hi=> .inr (.inl hi)) (fun i hi=>by
    rcases hi with hi|hi
    · exact .inl hi
    · rcases hv with e|e
      · exact .inl (HI.out.inY i (.inr (.inr (e▸hi))))
      · exact .inr (e i hi)))
  have HSt:=Lib.hid (HF.out.kExt HB.out.drew)
  clear hm hv hoff
  go_wp2_with fail
  go_ret
  exact ⟨rfl,⟨_,_,_,_,HT.out.1⟩,HSt.out.trans HT.out.2⟩
end
end Go.Proofs.YtmajfklnagdlpaaGreatDoor
namespace Go.Proofs.YtmajfklnagdlpaaGreatDoor
open Go.RowKit Go.Maps
set_option maxRecDepth 100000
set_option linter.unusedVariables false
set_option maxHeartbeats 12800000
def z8a (va v:Value) (vs:List Value) (i:Nat):Prop:=va.ownBlock=some i∨v.ownBlock=some i∨ ∃q,(vs.getD q (.slice none 0 0)).ownBlock=some i
structure LsW (wb w0 W:World) (g gx:Nat) (st:IxSt) (σ:DM) (K:Nat→Prop) (va v:Value) (vs:List Value) (ns:List Int) (acc:List (List En)) (B:Nat):Prop where
  i:IxK wb W g gx st σ (fun i=>K i∨z8a va v vs i)
  all:Own W B 3 1 va ns.length (ns.map (Value.int .i64))
  ls:EGo W B v vs acc
  stay:Stay K w0 W
  base:w0.heap.size≤B∧B≤W.heap.size
  kl: ∀i,K i→i<w0.heap.size
  wbl:wb.heap.size≤w0.heap.size
section
variable {wb w0 w W W1 w1 w2:World} {g gx gm gt B:Nat} {st st1:IxSt} {F Y Y1 K K' V:Nat→Prop} {σ σ1:DM} {va v v1 v2:Value} {vs:List Value} {ns:List Int} {acc:List (List En)} {M:List En}
end
end Go.Proofs.YtmajfklnagdlpaaGreatDoor
namespace Go.Proofs.YtmajfklnagdlpaaGreatDoor
open Go.RowKit Go.Maps
set_option maxRecDepth 100000
set_option linter.unusedVariables false
set_option maxHeartbeats 12800000
section
variable {wb w0 w W W1 w1 w2:World} {g gx gm gt B:Nat} {st st1:IxSt} {F Y Y1 K K' V:Nat→Prop} {σ σ1:DM} {va v v1 v2:Value} {vs:List Value} {ns:List Int} {acc:List (List En)} {M:List En}
theorem LsW.step (h:LsW wb w0 W g gx st σ K va v vs ns acc B) (h1:IxK wb W1 g gx st1 σ1 (fun i=>K i∨z8a va v vs i)) (hst:Stay (fun i=>K i∨z8a va v vs i) W W1) (hs:W.heap.size≤W1.heap.size):LsW wb w0 W1 g gx st1 σ1 K va v vs ns acc B:=
  ⟨h1,h.all.same fun i hi=>hst i (.inr (.inl hi)),h.ls.same fun i hi=>hst i (.inr (.inr hi)),h.stay.trans fun i hi=>hst i (.inl hi),⟨h.base.1,Nat.le_trans h.base.2 hs⟩,h.kl,h.wbl⟩
theorem LsW.start (h:IxK wb w g gx st σ K) (hx:Ext w W) (hall:Own W w.heap.size 3 1 va ns.length (ns.map (Value.int .i64))):LsW wb w W g gx st σ K va (.slice none 0 0) [] ns [] w.heap.size:=
  ⟨h.more hx (fun i hi=>by
      rcases hi with hi|hi|hi|⟨q,hi⟩
      · exact .inl hi
      · exact .inr (hall.lt i hi)
      · cases hi
      · simp[Value.ownBlock] at hi),hall,EGo.nil _ _,h.kExt hx,⟨Nat.le_refl _,hx.size⟩,fun i hi=>by obtain ⟨F,gm,gt,Y,q⟩:=h;exact (q.k i hi).1,h.base.size⟩
end
end Go.Proofs.YtmajfklnagdlpaaGreatDoor
