/- How an index lies in memory. -/
import Derived.Test.YtfiibpgoplcgkaaGreatDoorG25SA
import Derived.Test.YtfiibpgoplcgkaaGreatDoorG28SA
import Derived.Test.YtfiibpgoplcgkaaGreatDoorG21SA
import Derived.Test.YtfiibpgoplcgkaaGreatDoorG22SA
set_option linter.unusedVariables false
set_option linter.unusedSimpArgs false
set_option maxRecDepth 100000
set_option maxHeartbeats 12800000
namespace Go.Proofs.YtfiibpgoplcgkaaGreatDoor
variable {n:Int}
section
open Go.RowKit Go.Maps
structure Man where
 nx:Int
 ck:Int
 sd:Int
 L:List (List Int)
def Man.ok(m:Man):Prop:=q0k m.nx m.ck m.L=true/\0<=m.sd/\m.sd<18446744073709551616
structure TE where
 b:Nat
 L:List En
 may:Int->Bool
structure IxSt where
 m:Man
 rate:Nat
 w:List En
 t:Int->Option TE
 c:Nat
def InX(gx gm gt i:Nat):Prop:=i=gx\/i=gm\/i=gt
def y3W(o:Option TE):DataW Unit:=match o with|some e=> .lit (.int .i64 e.b)|none=> .nil
structure IxI(w:World)(gx g gm gt:Nat)(st:IxSt)(v:Value)(vs:List Value)(vm:Value)(D:DataW Unit)(nn:Nat)(Y:Nat->Prop):Prop where
 blk:Blk w gx 186 #[.pointer (some ⟨g,0,none⟩),.int .i64 st.m.nx,.int .i64 st.m.ck,.int .u64 st.m.sd,v,.float .f64 st.rate,.pointer (some ⟨gm,0,none⟩),.map (some gt)]
 mem:MemI w gm vm st.w
 lev:OGr w 0 37 3 v vs st.m.L
 map:w.ownsMap Tryz.prog 3 q6I gt nn D
 cnt:nn<=st.c
 look: ∀n,D.atKey (.int .i64 n) .nil=y3W (st.t n)
 tab: ∀n e,st.t n=some e->Tb w e.b g n e.L e.may Y
 inY: ∀i,(v.ownBlock=some i\/(∃q,(vs.getD q (.slice none 0 0)).ownBlock=some i)\/vm.ownBlock=some i)->Y i
 lt: ∀i,Y i->i<w.heap.size
 apart: ∀i,Y i->¬InX gx gm gt i
 ne:gx≠gm/\gx≠gt/\gm≠gt
structure y3y(st:IxSt):Prop where
 man:st.m.ok
 mem:okM st.w
 c:st.c<=1000000
def IxSt.full(st:IxSt):Prop:= ∀n∈st.m.L.flatten,∃e,st.t n=some e
def IxY(w:World)(gx g gm gt:Nat)(st:IxSt)(Y:Nat->Prop):Prop:=y3y st/\ ∃v vs vm D nn,IxI w gx g gm gt st v vs vm D nn Y
section
variable {w w':World}{gx g gm gt:Nat}{st:IxSt}{v:Value}{vs:List Value}{vm:Value}{D:DataW Unit}{nn:Nat}{Y Y' F:Nat->Prop}
theorem IxI.same(h:IxI w gx g gm gt st v vs vm D nn Y)(d:w.heap.size<=w'.heap.size)(k: ∀i,InX gx gm gt i\/Y i->w'.heap[i]? =w.heap[i]?):IxI w' gx g gm gt st v vs vm D nn Y:=
 ⟨h.blk.same (k _ (.inl (.inl rfl))),h.mem.same fun i b=>b.elim (fun e=>k i (.inl (.inr (.inl e)))) fun e=>k i (.inr (h.inY i (.inr (.inr e)))),
  q4w h.lev fun i b=>k i (.inr (h.inY i (b.elim .inl fun e=> .inr (.inl e)))),q2X h.map (k _ (.inl (.inr (.inr rfl)))),h.cnt,h.look,
  fun n e j=>(h.tab n e j).same d fun i b=>k i (.inr b),h.inY,fun i b=>Ψ (h.lt i b) d,h.apart,h.ne⟩
theorem IxI.xlt(h:IxI w gx g gm gt st v vs vm D nn Y): ∀i,InX gx gm gt i->i<w.heap.size:=fun i b=>by
 rcases b with rfl|rfl|rfl
 ·exact h.blk.lt
 ·exact h.mem.blk.lt
 ·exact h.map.lt
theorem IxI.ext(h:IxI w gx g gm gt st v vs vm D nn Y)(k:Ext w w'):IxI w' gx g gm gt st v vs vm D nn Y:=
 h.same k.size fun i b=>k.block i (b.elim (h.xlt i) (h.lt i))
theorem IxI.off(h:IxI w gx g gm gt st v vs vm D nn Y)(k:OffS F w w')(d: ∀i,InX gx gm gt i\/Y i->¬F i):IxI w' gx g gm gt st v vs vm D nn Y:=
 h.same k.size fun i b=>k.block i (b.elim (h.xlt i) (h.lt i)) (d i b)
theorem IxI.memTurn(h:IxI w gx g gm gt st v vs vm D nn Y){d:Value}{o:List En}(hm:MemI w' gm d o)(off:OffS (fun i=>i=gm) w w')(u:d=vm\/ ∀i,d.ownBlock=some i->w.heap.size<=i):
  IxI w' gx g gm gt {st with w:=o} v vs d D nn (fun i=>Y i\/d.ownBlock=some i):=by
 have r: ∀i,Y i->w'.heap[i]? =w.heap[i]? :=fun i b=>off.block i (h.lt i b) fun e=>h.apart i b (.inr (.inl e))
 have l: ∀i,d.ownBlock=some i->Y i\/w.heap.size<=i:=fun i b=>by
  rcases u with e|e
  ·exact .inl (h.inY i (.inr (.inr (e▸b))))
  ·exact .inr (e i b)
 have j: ∀i,(Y i\/d.ownBlock=some i)->i<w'.heap.size:=fun i b=>by
  rcases b with b|b
  ·exact Ψ (h.lt i b) off.size
  ·exact hm.lt (.inr b)
 have m : ∀i,(Y i\/d.ownBlock=some i)->¬InX gx gm gt i:=fun i b=>by
  rcases b with b|b
  ·exact h.apart i b
  ·rcases l i b with q|q
   ·exact h.apart i q
   ·intro x
    have:i<w.heap.size:=by
     rcases x with rfl|rfl|rfl
     ·exact h.blk.lt
     ·exact h.mem.blk.lt
     ·exact h.map.lt
    omega
 exact⟨h.blk.same (off.block _ h.blk.lt h.ne.1),hm,q4w h.lev fun i b=>r i (h.inY i (b.elim .inl fun e=> .inr (.inl e))),q2X h.map (off.block _ h.map.lt fun e=>h.ne.2.2 e.symm),h.cnt,h.look,
  fun n e s=>((h.tab n e s).same off.size r).mono (fun i b=> .inl b) j,
  fun i b=>by
   rcases b with b|b|b
   ·exact .inl (h.inY i (.inl b))
   ·exact .inl (h.inY i (.inr (.inl b)))
   ·exact .inr b,j,m,h.ne⟩
theorem IxI.c1(h:IxI w gx g gm gt st v vs vm D nn Y):w.cell? ⟨gx,1,none⟩=some (.int .i64 st.m.nx):=h.blk.cell 1
theorem IxI.c2(h:IxI w gx g gm gt st v vs vm D nn Y):w.cell? ⟨gx,2,none⟩=some (.int .i64 st.m.ck):=h.blk.cell 2
theorem IxI.c3(h:IxI w gx g gm gt st v vs vm D nn Y):w.cell? ⟨gx,3,none⟩=some (.int .u64 st.m.sd):=h.blk.cell 3
theorem IxI.c4(h:IxI w gx g gm gt st v vs vm D nn Y):w.cell? ⟨gx,4,none⟩=some v:=h.blk.cell 4
theorem IxI.c6(h:IxI w gx g gm gt st v vs vm D nn Y):w.cell? ⟨gx,6,none⟩=some (.pointer (some ⟨gm,0,none⟩)):=h.blk.cell 6
theorem IxI.c7(h:IxI w gx g gm gt st v vs vm D nn Y):w.cell? ⟨gx,7,none⟩=some (.map (some gt)):=h.blk.cell 7
theorem y3b(w:World):(zeroValue 250).run Tryz.prog w= .ok (.pointer none) w:=by kernel_rfl
theorem IxI.at(h:IxI w gx g gm gt st v vs vm D nn Y)(l:(Lit.int .i64 n).wf=true){e:TE}(j:st.t n=some e):
  (Instr.lookup 184 (.map (some gt)) (.int .i64 n) false).run Tryz.prog w= .ok (.pointer (some ⟨e.b,0,none⟩)) w:=by
 obtain⟨u,ps,i,d⟩:=h.map.lookup Tryz.keyInt Tryz.underlying184 (y3b w) z0C (keyOf_int_mk Tryz.underlying3 l);rw[h.look,j] at d;rw[i,z0B d]
theorem z9K{e:TE}(i: ∀n,D.atKey (.int .i64 n) .nil=y3W (st.t n))(hm:IsMap D)(x:Int):
  (D.put (.int .i64 n) (.lit (.int .i64 e.b))).atKey (.int .i64 x) .nil=y3W (if x=n then some e else st.t x):=by
 by_cases d:x=n
 ·subst d
  rw[ξ rfl,atKey_put_same hm (k:= .int .i64 x) (show WideAt.IsKeyLit (.int .i64 x) from trivial)]
  rfl
 ·rw[κ d,atKey_put_other (by intro h;injection h with _ h;exact d h),i]
end
end
section
open Go.RowKit
structure IxD(w:World)(g:Nat)(F:Nat->Prop)(σ:DM)(gx gm gt:Nat)(st:IxSt)(Y:Nat->Prop):Prop where
 d:Dk w g F σ
 x:IxY w gx g gm gt st Y
 ap: ∀i,F i->¬InX gx gm gt i/\¬Y i
structure IxF(wb w:World)(g:Nat)(F:Nat->Prop)(σ:DM)(gx gm gt:Nat)(st:IxSt)(Y K:Nat->Prop):Prop where
 i:IxD w g F σ gx gm gt st Y
 bF: ∀i,F i->wb.heap.size<=i
 bX: ∀i,InX gx gm gt i->wb.heap.size<=i
 bY: ∀i,Y i->wb.heap.size<=i
 ext:Ext wb w
 k: ∀i,K i->i<w.heap.size/\¬F i/\¬InX gx gm gt i/\¬Y i
def IxK(wb w:World)(g gx:Nat)(st:IxSt)(σ:DM)(K:Nat->Prop):Prop:= ∃F gm gt Y,IxF wb w g F σ gx gm gt st Y K
section
variable {wb w w1 w2:World}{g gx gm gt:Nat}{st st1:IxSt}{F Y Y1 K K':Nat->Prop}{σ σ1:DM}
theorem IxY.xlt(h:IxY w gx g gm gt st Y): ∀i,InX gx gm gt i->i<w.heap.size:=by
 obtain⟨_,v,vs,vm,D,nn,b⟩:=h;exact b.xlt
theorem IxY.ylt(h:IxY w gx g gm gt st Y): ∀i,Y i->i<w.heap.size:=by
 obtain⟨_,v,vs,vm,D,nn,b⟩:=h;exact b.lt
theorem IxY.ext(h:IxY w gx g gm gt st Y)(k:Ext w w1):IxY w1 gx g gm gt st Y:=by
 obtain⟨b,v,vs,vm,D,nn,d⟩:=h;exact⟨b,v,vs,vm,D,nn,d.ext k⟩
theorem IxY.off(h:IxY w gx g gm gt st Y)(k:OffS F w w1)(j: ∀i,InX gx gm gt i\/Y i->¬F i):IxY w1 gx g gm gt st Y:=by
 obtain⟨b,v,vs,vm,D,nn,d⟩:=h;exact⟨b,v,vs,vm,D,nn,d.off k j⟩
theorem IxY.same(h:IxY w gx g gm gt st Y)(j:w.heap.size<=w1.heap.size)(k: ∀i,InX gx gm gt i\/Y i->w1.heap[i]? =w.heap[i]?):IxY w1 gx g gm gt st Y:=by
 obtain⟨b,v,vs,vm,D,nn,d⟩:=h;exact⟨b,v,vs,vm,D,nn,d.same j k⟩
theorem IxF.grow(h:IxF wb w g F σ gx gm gt st Y K)(k:Ext w w1):IxF wb w1 g F σ gx gm gt st Y K:=
 ⟨⟨h.i.d.ext k,h.i.x.ext k,h.i.ap⟩,h.bF,h.bX,h.bY,h.ext.trans k,fun i b=>⟨Ψ (h.k i b).1 k.size,(h.k i b).2⟩⟩
theorem IxF.kExt(h:IxF wb w g F σ gx gm gt st Y K)(k:Ext w w1):Stay K w w1:=fun i b=>k.block i (h.k i b).1
theorem IxF.notF(h:IxF wb w g F σ gx gm gt st Y K): ∀i,InX gx gm gt i\/Y i->¬F i:=fun i d b=>d.elim (h.i.ap i b).1 (h.i.ap i b).2
theorem IxF.disk(h:IxF wb w g F σ gx gm gt st Y K)(k:DkS w g F σ1 w1):IxF wb w1 g (Gr F w w1) σ1 gx gm gt st Y K/\Stay K w w1:=by
 have o:=k.off.size;refine⟨⟨⟨k.dk,h.i.x.off k.off h.notF,fun i j=>?_⟩,fun i j=>Gr.ge h.bF h.ext.size j,h.bX,h.bY,k.off.ext h.ext h.bF,fun i j=>?_⟩,fun i j=>?_⟩
 ·rcases j with j|j
  ·exact h.i.ap i j
  ·exact⟨fun l=>by have:=h.i.x.xlt i l;omega,fun m=>by have:=h.i.x.ylt i m;omega⟩
 ·obtain⟨a,b,c,d⟩:=h.k i j
  exact⟨by omega,Gr.not b a,c,d⟩
 ·obtain⟨a,b,c,d⟩:=h.k i j
  exact k.off.block i a b
theorem IxF.row(h:IxF wb w g F σ gx gm gt st Y K){v:Value}{acc:List En}(k:RowV w g F σ1 w1 v acc):(∃l,IxF wb w1 g l σ1 gx gm gt st Y (fun i=>K i\/v.ownBlock=some i))/\Stay K w w1:=by
 obtain⟨l,r,m,s⟩:=k.dk;have y:=k.off.size;refine⟨⟨l,⟨r,h.i.x.off k.off h.notF,fun i j=>?_⟩,fun i j=>Gr.ge h.bF h.ext.size (m i j),h.bX,h.bY,k.off.ext h.ext h.bF,fun i j=>?_⟩,fun i j=>?_⟩
 ·rcases m i j with j|j
  ·exact h.i.ap i j
  ·exact⟨fun o=>by have:=h.i.x.xlt i o;omega,fun q=>by have:=h.i.x.ylt i q;omega⟩
 ·rcases j with j|j
  ·obtain⟨a,b,c,d⟩:=h.k i j
   exact⟨by omega,fun u=>Gr.not b a (m i u),c,d⟩
  ·have:=q0l k.row i j
   exact⟨this.2,s i j,fun o=>by have:=h.i.x.xlt i o;omega,fun q=>by have:=h.i.x.ylt i q;omega⟩
 ·obtain⟨a,b,c,d⟩:=h.k i j
  exact k.off.block i a b
theorem IxF.turn(h:IxF wb w g F σ gx gm gt st Y K)(r:IxY w1 gx g gm gt st1 Y1)(off:OffS (InX gx gm gt) w w1)(m: ∀i,Y1 i->Y i\/w.heap.size<=i):IxF wb w1 g F σ gx gm gt st1 Y1 K/\Stay K w w1:=by
 have q:=off.size;refine⟨⟨⟨h.i.d.held q fun i j=>off.block i (h.i.d.Flt i j) (h.i.ap i j).1,r,fun i j=>⟨(h.i.ap i j).1,fun o=>?_⟩⟩,h.bF,h.bX,fun i j=>?_,off.ext h.ext h.bX,fun i j=>?_⟩,fun i j=>?_⟩
 ·rcases m i o with l|l
  ·exact(h.i.ap i j).2 l
  ·have:=h.i.d.Flt i j;omega
 ·rcases m i j with l|l
  ·exact h.bY i l
  ·have:=h.ext.size;omega
 ·obtain⟨a,b,c,d⟩:=h.k i j
  refine⟨by omega,b,c,fun o=>?_⟩;rcases m i o with l|l
  ·exact d l
  ·omega
 ·obtain⟨a,b,c,d⟩:=h.k i j
  exact off.block i a c
theorem IxF.turnV{o:Nat->Prop}(h:IxF wb w g F σ gx gm gt st Y o)(s:IxY w1 gx g gm gt st1 Y1)(off:OffS (InX gx gm gt) w w1)(q: ∀i,Y1 i->wb.heap.size<=i/\¬F i)(hK: ∀i,K i->o i/\¬Y1 i):IxF wb w1 g F σ gx gm gt st1 Y1 K/\Stay K w w1:=by
 have r:=off.size;refine⟨⟨⟨h.i.d.held r fun i j=>off.block i (h.i.d.Flt i j) (h.i.ap i j).1,s,fun i j=>⟨(h.i.ap i j).1,fun u=>(q i u).2 j⟩⟩,h.bF,h.bX,fun i j=>(q i j).1,off.ext h.ext h.bX,fun i j=>?_⟩,fun i j=>?_⟩
 ·obtain⟨m,l⟩:=hK i j
  obtain⟨a,b,c,d⟩:=h.k i m;exact⟨by omega,b,c,l⟩
 ·obtain⟨m,l⟩:=hK i j
  obtain⟨a,b,c,d⟩:=h.k i m;exact off.block i a c
theorem IxF.more(h:IxF wb w g F σ gx gm gt st Y K)(k:Ext w w1)(hK: ∀i,K' i->K i\/(w.heap.size<=i/\i<w1.heap.size)):IxF wb w1 g F σ gx gm gt st Y K':=by
 have b:=h.grow k;refine⟨b.i,b.bF,b.bX,b.bY,b.ext,fun i o=>?_⟩;rcases hK i o with j|⟨j,l⟩
 ·exact b.k i j
 ·exact⟨l,fun m=>by have:=h.i.d.Flt i m;omega,fun q=>by have:=h.i.x.xlt i q;omega,fun r=>by have:=h.i.x.ylt i r;omega⟩
theorem IxF.side(h:IxF wb w g F σ gx gm gt st Y K)(l:w.heap.size<=w1.heap.size)(m:Ext wb w1)(k: ∀i,i<w.heap.size->¬K i->w1.heap[i]? =w.heap[i]?):IxF wb w1 g F σ gx gm gt st Y K:=by
 refine⟨⟨h.i.d.held l fun i b=>k i (h.i.d.Flt i b) fun j=>(h.k i j).2.1 b,h.i.x.same l fun i b=>?_,h.i.ap⟩,h.bF,h.bX,h.bY,m,fun i b=>⟨Ψ (h.k i b).1 l,(h.k i b).2⟩⟩;rcases b with b|b
 ·exact k i (h.i.x.xlt i b) fun j=>(h.k i j).2.2.1 b
 ·exact k i (h.i.x.ylt i b) fun j=>(h.k i j).2.2.2 b
theorem IxF.sideM(h:IxF wb w g F σ gx gm gt st Y K)(r:w.heap.size<=w1.heap.size)(j:Ext wb w1)(k: ∀i,i<w.heap.size->¬K i->w1.heap[i]? =w.heap[i]?)(hK: ∀i,K' i->K i\/(w.heap.size<=i/\i<w1.heap.size)):IxF wb w1 g F σ gx gm gt st Y K':=by
 have b:=h.side r j k;refine⟨b.i,b.bF,b.bX,b.bY,j,fun i q=>?_⟩;rcases hK i q with l|⟨l,m⟩
 ·exact b.k i l
 ·exact⟨m,fun o=>by have:=h.i.d.Flt i o;omega,fun j=>by have:=h.i.x.xlt i j;omega,fun s=>by have:=h.i.x.ylt i s;omega⟩
theorem IxF.beside(h:IxF wb w g F σ gx gm gt st Y K)(k: ∀i,K' i->K i):IxF wb w g F σ gx gm gt st Y K':=⟨h.i,h.bF,h.bX,h.bY,h.ext,fun i b=>h.k i (k i b)⟩
theorem IxF.tb(h:IxF wb w g F σ gx gm gt st Y K){e:TE}(he:st.t n=some e):TbD w e.b g n e.L e.may Y F σ:=by
 obtain⟨_,v,vs,vm,D,nn,j⟩:=h.i.x;exact⟨h.i.d,j.tab n e he,fun i m l=>(h.i.ap i l).2 m⟩
theorem IxK.base(h:IxK wb w g gx st σ K):Ext wb w:=by obtain⟨F,gm,gt,Y,b⟩:=h;exact b.ext
theorem IxK.grow(h:IxK wb w g gx st σ K)(k:Ext w w1):IxK wb w1 g gx st σ K:=by obtain⟨F,gm,gt,Y,b⟩:=h;exact⟨_,_,_,_,b.grow k⟩
theorem IxK.kExt(h:IxK wb w g gx st σ K)(k:Ext w w1):Stay K w w1:=by obtain⟨F,gm,gt,Y,b⟩:=h;exact b.kExt k
theorem IxK.more(h:IxK wb w g gx st σ K)(k:Ext w w1)(hK: ∀i,K' i->K i\/(w.heap.size<=i/\i<w1.heap.size)):IxK wb w1 g gx st σ K':=by obtain⟨F,gm,gt,Y,b⟩:=h;exact⟨_,_,_,_,b.more k hK⟩
theorem IxK.sideM(h:IxK wb w g gx st σ K)(d:w.heap.size<=w1.heap.size)(j:Ext wb w1)(k: ∀i,i<w.heap.size->¬K i->w1.heap[i]? =w.heap[i]?)(hK: ∀i,K' i->K i\/(w.heap.size<=i/\i<w1.heap.size)):IxK wb w1 g gx st σ K':=by obtain⟨F,gm,gt,Y,b⟩:=h;exact⟨_,_,_,_,b.sideM d j k hK⟩
theorem IxK.beside(h:IxK wb w g gx st σ K)(k: ∀i,K' i->K i):IxK wb w g gx st σ K':=by obtain⟨F,gm,gt,Y,b⟩:=h;exact⟨_,_,_,_,b.beside k⟩
theorem IxK.dkf(h:IxK wb w g gx st σ K): ∃F,DkF wb w g F σ K:=by
 obtain⟨F,gm,gt,Y,b⟩:=h;exact⟨F,b.i.d,b.bF,b.ext,fun i j=>⟨(b.k i j).1,(b.k i j).2.1⟩⟩
theorem IxK.disk{f:FuncId}{P:Program}{args:Array Value}{R:Ending->Prop}(h:IxK wb w g gx st σ K)(hc: ∀F,Dk w g F σ->Calls P f args w fun e w'=>R e/\DkS w g F σ1 w'):
  Calls P f args w fun e w'=>R e/\IxK wb w' g gx st σ1 K/\Stay K w w':=by
 obtain⟨F,gm,gt,Y,b⟩:=h;refine(hc F b.i.d).mono ?_;rintro e w' ⟨he,j⟩;have:=b.disk j;exact⟨he,⟨_,_,_,_,this.1⟩,this.2⟩
end
section
variable {wb w w1 w2:World}{g gx gm gt:Nat}{st st1:IxSt}{F Y Y1 K K':Nat->Prop}{σ σ1:DM}
theorem q9p(h:IxY w gx g gm gt st Y):Calls Tryz.prog 110 #[.pointer (some ⟨gx,0,none⟩)] w fun e w'=>e= .returned (.bool false)/\w=w':=by
 obtain⟨_,v,vs,vm,D,nn,b⟩:=h;have d:=b.c6;clear b;go_enter Tryz.func110,Tryz.ntmps110;go_wp2_with fail;go_ret;exact⟨rfl,rfl⟩
theorem IxI.grid{v:Value}{vs:List Value}{vm:Value}{D:DataW Unit}{nn:Nat}(h:IxI w gx g gm gt st v vs vm D nn Y): ∃ao c,v= .slice ao st.m.L.length c/\Grid w ao st.m.L.length c st.m.L:=h.lev.grid
theorem Man.bounds{m:Man}(h:m.ok):m.L.length<=5/\m.L.flatten.length<=40/\(∀i,(m.L.getD i []).length<=40)/\(∀x∈m.L.flatten,(Lit.int .i64 x).wf=true/\0<=x/\x<m.nx)/\0<=m.nx/\m.nx<=1000000/\m.L.flatten.Nodup/\0<=m.ck/\m.ck<=2147483647:=by
 have j:=h.1;unfold q0k q1x at j;simp only[Ξ,Φ,List.all_eq_true] at j;obtain⟨⟨⟨q,r,s,u⟩,y,C,l,E⟩,o⟩:=j;refine⟨y,C,fun i=>?_,fun x d=>⟨?_,l x d,o x d⟩,q,r,E,s,u⟩
 ·rcases Nat.lt_or_ge i m.L.length with b|b
  ·have:(m.L.getD i [])∈m.L:=by rw[δ,γ b];exact List.getElem_mem b
   have:=(List.sublist_flatten_of_mem this).length_le;omega
  ·rw[δ,List.getElem?_eq_none b];simp
 ·have:=l x d;have:=o x d
  exact WalkArith.wf_i64 (by omega)
theorem q7m(h:IxY w gx g gm gt st Y):Calls Tryz.prog 62 #[.pointer (some ⟨gx,0,none⟩)] w fun e w'=>
  ∃v vs,e= .returned (.agg #[.int .i64 st.m.nx,.int .i64 st.m.ck,.int .u64 st.m.sd,v])/\OGr w' w.heap.size 37 3 v vs st.m.L/\Ext w w':=by
 have l:=Man.bounds h.1.man;have R:=η (fun W (k:Ext w W)=>q9p (h.ext k));obtain⟨E,v,vs,vm,D,nn,C⟩:=h;obtain⟨ao,U,rfl,N⟩:=C.grid;have q:=q0B w (.cells #[.int .i64 0,.int .i64 0,.int .u64 0,.slice none 0 0] 47);have x:=η (Blk.new w 47 #[.int .i64 0,.int .i64 0,.int .u64 0,.slice none 0 0]);have r:=C.ext q;have Z:=r.c1;have c2:=r.c2;have c3:=r.c3;have c4:=r.c4;have O:=η (fun W (k:Ext w W)=>z3Q st.m.nx st.m.ck st.m.sd ao st.m.L.length U st.m.L W (N.ext k) (fun i=>by have:=l.2.2.1 i;omega) (by omega));have j:=η q;clear C r N E l q;go_enter Tryz.func62,Tryz.ntmps62;go_wp2_with fail;refine(R.o _ j.o).mono ?_;rintro e w1 ⟨rfl,rfl⟩;go_wp2_with fail;refine(O.o _ j.o).mono ?_;rintro e w1 ⟨v,s,rfl,d,l⟩;obtain⟨y,G,rfl⟩:=d.own.slice;have S:=η d;have X:=η l;have b:=x.o.ext l;have k0:w1.cell? ⟨w.heap.size,0,none⟩=some (.int .i64 0):=b.cell 0;have k1:w1.cell? ⟨w.heap.size,1,none⟩=some (.int .i64 0):=b.cell 1;have k2:w1.cell? ⟨w.heap.size,2,none⟩=some (.int .u64 0):=b.cell 2;have k3:w1.cell? ⟨w.heap.size,3,none⟩=some (.slice none 0 0):=b.cell 3;have f0:w1.frozen? ⟨w.heap.size,0,none⟩=false:=b.free 0;have f1:w1.frozen? ⟨w.heap.size,1,none⟩=false:=b.free 1;have f2:w1.frozen? ⟨w.heap.size,2,none⟩=false:=b.free 2;have f3:w1.frozen? ⟨w.heap.size,3,none⟩=false:=b.free 3;have Q:Hd (∀W,OffS (fun i=>i=w.heap.size) w1 W->OGr W w.heap.size 37 3 (.slice y st.m.L.length G) s st.m.L/\Ext w W):=η fun W I=>by
  rw[ρ] at d;refine⟨q4w (q9y d (Nat.le_succ _)) fun i u=>I.block i (z1N d i u).2 fun e=>?_,I.ext (j.o.trans l) fun i u=>by rw[u];exact ι _⟩;have:=(z1N d i u).1;omega
 clear d l b;go_wp2_with fail
 ((try simp only[Exit.inBlock,Exit.then]);refine bodyPost_ret (v:= .agg #[.int .i64 st.m.nx,.int .i64 st.m.ck,.int .u64 st.m.sd,.slice y st.m.L.length G]) (by rw[q1I rfl];go_simp) rfl ?_)
 have J:=Q.o _ ((((OffS.set (F:=fun i=>i=w.heap.size) w1 rfl 0 (.int .i64 st.m.nx)).trans (OffS.set (F:=fun i=>i=w.heap.size) _ rfl 1 (.int .i64 st.m.ck))).trans (OffS.set (F:=fun i=>i=w.heap.size) _ rfl 2 (.int .u64 st.m.sd))).trans (OffS.set (F:=fun i=>i=w.heap.size) _ rfl 3 (.slice y st.m.L.length G)));exact⟨_,s,rfl,J.1,J.2⟩
theorem y2H(h:IxK wb w g gx st σ K){e:En}(he:q3f e=true)(hl:st.w.length<50000):
  Calls Tryz.prog 90 #[.pointer (some ⟨gx,0,none⟩),enV e] w fun r w'=>r= .returned (.int .i64 0)/\IxK wb w' g gx {st with w:=q3o e st.w} σ K/\Stay K w w':=by
 obtain⟨F,gm,gt,Y,Q⟩:=h;have HF:=η Q;obtain⟨b,d,j⟩:=e;show Calls _ _ #[_,.agg #[.int .u64 b,.int .i64 d,.int .i64 j]] _ _;have y:=q0B w (.cells #[.int .u64 b,.int .i64 d,.int .i64 j] 165);have X:=η y;have HN:=η (q9p (Q.i.x.ext y));have s:=Blk.new w 165 #[.int .u64 b,.int .i64 d,.int .i64 j];have k0:(w.alloc (.cells #[.int .u64 b,.int .i64 d,.int .i64 j] 165)).cell? ⟨w.heap.size,0,none⟩=some (.int .u64 b):=s.cell 0;have k1:(w.alloc (.cells #[.int .u64 b,.int .i64 d,.int .i64 j] 165)).cell? ⟨w.heap.size,1,none⟩=some (.int .i64 d):=s.cell 1;have k2:(w.alloc (.cells #[.int .u64 b,.int .i64 d,.int .i64 j] 165)).cell? ⟨w.heap.size,2,none⟩=some (.int .i64 j):=s.cell 2
 have J:Hd (∃C B,∀W,Calls Tryz.prog 152 #[.agg #[.int .u64 b,.int .i64 d,.int .i64 j]] W fun r w'=>r= .returned (.string ⟨(C::B:List UInt8).toArray⟩)/\Ext W w'):=η (by
  obtain⟨C,B,hB⟩: ∃C B,q4X (b,d,j)=C::B:=by
   have:=q3R (b,d,j)
   cases h:q4X (b,d,j) with
   |nil=>rw[h] at this;cases this
   |cons a l=>exact⟨a,l,rfl⟩
  exact⟨C,B,fun W=>hB▸z9X (b,d,j) W he⟩)
 obtain⟨C,B,hP⟩:=J.o;have HP:=η hP;obtain⟨u,v,vs,vm,D,nn,m⟩:=Q.i.x;have R:=η m;have G:=η u;have S:=η (fun W (k:Ext w W)=>y2M (m.mem.ext k) u.mem he hl);have I:=η (u.mem.add he hl);clear Q y s J hP m u hl he;go_enter Tryz.func90,Tryz.ntmps90;go_wp2_with fail;refine HN.o.mono ?_;rintro e w1 ⟨rfl,rfl⟩;go_wp2_with fail;refine(HP.o _).mono ?_;rintro e w1 ⟨rfl,N⟩;have E:=η (X.o.trans N);have p0:=q0A N k0;have p1:=q0A N k1;have p2:=q0A N k2;have c6:=(R.o.ext E.o).c6;clear N k0 k1 k2;go_wp2_with fail
 go_still_tail 5,(by kernel_rfl)
 go_wp2_with fail;refine(S.o _ E.o.drew).mono ?_;rintro e w2 ⟨O,rfl,hm,hv,q⟩;have Z:Hd (IxY w2 gx g gm gt {st with w:=q3o (b,d,j) st.w} (fun i=>Y i\/O.ownBlock=some i)):=η ⟨⟨G.o.man,I.o,G.o.c⟩,v,vs,O,D,nn,(R.o.ext E.o.drew).memTurn hm q hv⟩
 have HT:=η ((HF.o.grow E.o.drew).turn Z.o (q.mono fun i _ m=> .inr (.inl m)) (fun i m=>by
  rcases m with m|m
  ·exact .inl m
  ·rcases hv with e|e
   ·exact .inl (R.o.inY i (.inr (.inr (e▸m))))
   ·exact .inr (e i m)))
 have U:=η (HF.o.kExt E.o.drew);clear hm hv q;go_wp2_with fail;go_ret;exact⟨rfl,⟨_,_,_,_,HT.o.1⟩,U.o.trans HT.o.2⟩
end
end
section
open Go.RowKit Go.Maps
def q3n(st:IxSt)(h a b:Int):DM->List Int->List (List En)->List (List En)×Int×DM
 |σ,[],acc=>(acc,0,σ)
 | σ, n::ns,acc=>match st.t n with
  |none=>(acc,1,σ)
  | some e=>if (q3C σ n e.L e.may h a b).2.1≠0 then(acc,(q3C σ n e.L e.may h a b).2.1,(q3C σ n e.L e.may h a b).2.2)
   else q3n st h a b (q3C σ n e.L e.may h a b).2.2 ns (acc++[(q3C σ n e.L e.may h a b).1])
def z9t(va v:Value)(vs:List Value)(i:Nat):Prop:=va.ownBlock=some i\/v.ownBlock=some i\/ ∃q,(vs.getD q (.slice none 0 0)).ownBlock=some i
theorem Tryz.infoLs :(Tryz.prog.info? 187).map (fun i=>(i.zero,i.size,i.bytes))=some (some (.slice none 0 0),1,24):=by kernel_rfl
structure LsW(wb w0 W:World)(g gx:Nat)(st:IxSt)(σ:DM)(K:Nat->Prop)(va v:Value)(vs:List Value)(ns:List Int)(acc:List (List En))(B:Nat):Prop where
 i:IxK wb W g gx st σ (fun i=>K i\/z9t va v vs i)
 all:Own W B 3 1 va ns.length (ns.map (Value.int .i64))
 ls:EGo W B v vs acc
 stay:Stay K w0 W
 base:w0.heap.size<=B/\B<=W.heap.size
 kl: ∀i,K i->i<w0.heap.size
 wbl:wb.heap.size<=w0.heap.size
section
variable {wb w0 w W W1 w1 w2:World}{g gx gm gt B:Nat}{st st1:IxSt}{F Y Y1 K K' V:Nat->Prop}{σ σ1:DM}{va v v1 v2:Value}{vs:List Value}{ns:List Int}{acc:List (List En)}{M:List En}
theorem LsW.grow(h:LsW wb w0 W g gx st σ K va v vs ns acc B)(k:Ext W W1):LsW wb w0 W1 g gx st σ K va v vs ns acc B:=
 ⟨h.i.grow k,h.all.ext k,h.ls.ext k,h.stay.trans fun i b=>h.i.kExt k i (.inl b),⟨h.base.1,Ω h.base.2 k.size⟩,h.kl,h.wbl⟩
theorem LsW.push(h:LsW wb w0 W g gx st σ K va v vs ns acc B)(s:IxK wb W1 g gx st σ1 (fun i=>(K i\/z9t va v vs i)\/v1.ownBlock=some i))(j:Stay (fun i=>K i\/z9t va v vs i) W W1)(U:W.heap.size<=W1.heap.size)
  (S:W1.ownsRow W.heap.size 165 3 v1 M.length (ecs M)){o:Obj}(d:w2.ownsRow B 187 1 v2 (acc.length+1) (vs++[v1]))(u:(W1.alloc o).grownBy w2 v.ownBlock)(x:v2.ownBlock=v.ownBlock\/v2.ownBlock=some (W1.alloc o).heap.size):
  LsW wb w0 w2 g gx st σ1 K va v2 (vs++[v1]) ns (acc++[M]) B:=by
 have R:=h.base;have Z:=s.base;have C:EGo (W1.alloc o) B v vs acc:=(h.ls.same (w':=W1) fun i b=>j i (.inr (.inr b))).ext (q0B _ _);have I:W1.heap.size<=w2.heap.size:=by have:=u.size;rw[ρ] at this;omega
 have y: ∀i,i<W1.heap.size->v.ownBlock≠some i->w2.heap[i]? =W1.heap[i]? :=fun i b E=>by
  rw[u.block i (by rw[ρ];omega) (fun e=>E e.symm),(q0B W1 o).block i b]
 have m: ∀i,z9t va v vs i->B<=i/\i<W.heap.size:=fun i b=>by
  rcases b with b|b
  ·exact h.all.lt i b
  ·exact h.ls.lt b
 have X:va.ownBlock=none\/ ∃i,va.ownBlock=some i:=by cases h:va.ownBlock<;>simp
 have G: ∀i,va.ownBlock=some i->v.ownBlock≠some i:=fun i s Q=>by
  obtain⟨c1,O⟩:=h.all.etype s;obtain⟨c2,l⟩:=q6C h.ls.own Q;rw[O] at l;injection l with l;injection l with _ l _;revert l
  decide
 have J:Ext wb w2:=by
  have N:Ext wb (W1.alloc o):=Z.trans (q0B _ _);refine N.grown u N.size fun i b=>?_
  have:=m i (.inr (.inl b));have:=h.wbl;omega
 have r:=C.push (q0O S (q0B W1 o)) (by omega) d u;refine⟨s.sideM I J (fun i b E=>y i b fun e=>E (.inl (.inr (.inr (.inl e))))) (fun i b=>?_),(h.all.same (w':=w2) fun i b=>?_),r,fun i b=>?_,⟨R.1,by omega⟩,h.kl,h.wbl⟩
 ·rcases b with b|b|b|⟨q,b⟩
  ·exact .inl (.inl (.inl b))
  ·exact .inl (.inl (.inr (.inl b)))
  ·rcases x with e|e
   ·exact .inl (.inl (.inr (.inr (.inl (e▸b)))))
   ·rw[e,ρ] at b
    injection b with b;have:=(q0l d i (by rw[e,ρ,b])).2;exact .inr ⟨by omega,this⟩
  ·rw [q7i] at b
   split at b
   ·exact .inl (.inl (.inr (.inr (.inr ⟨q,b⟩))))
   ·split at b
    ·exact .inl (.inr b)
    ·cases b
 ·rw[y i (Ψ (h.all.lt i b).2 U) (G i b),j i (.inr (.inl b))]
 ·rw[y i (Ψ (h.kl i b) (by omega)) fun e=>by have:=(m i (.inr (.inl e))).1;have:=h.kl i b;omega]
  exact(j i (.inl b)).trans (h.stay i b)
theorem y1I(w:World)(B:Nat)(b:B<=w.heap.size)(x:Value):(w.alloc (.cells #[x] 187)).ownsRow B 187 1 (.slice (some ⟨w.heap.size,0,none⟩) 1 1) 1 [x]:=
 ⟨rfl,.inr ⟨w.heap.size,1,#[x],rfl,b,Blk.new w _ _,ι _,by unfold maxLen;omega,rfl,rfl⟩⟩
def z1q(wb w:World)(g gx:Nat)(st:IxSt)(K:Nat->Prop)(R:List (List En)×Int×DM)(e:Ending)(w':World):Prop:=
 ∃v,e= .returned (.tuple #[v,.int .i64 R.2.1])/\IxK wb w' g gx st R.2.2 (fun i=>K i\/v.ownBlock=some i)/\Stay K w w'/\(R.2.1=0->w'.ownsRow w.heap.size 165 3 v (q2s R.1).length (ecs (q2s R.1)))
theorem z9E(h:IxK wb w g gx st σ K)(u0:st.full)(h' a b:Int){R:List (List En)×Int×DM}(hR:q3n st h' (max a 0) (min b 1073741824) σ st.m.L.flatten [q0u st.w h' (max a 0) (min b 1073741824)]=R)
  (hs:R.2.1=0->(∀L∈R.1,q1E L)/\R.1.flatten.length<=1000000):
  Calls Tryz.prog 112 #[.pointer (some ⟨gx,0,none⟩),.int .u64 h',.int .i64 a,.int .i64 b] w (z1q wb w g gx st K R):=by
 obtain⟨A,hA⟩: ∃A,max a 0=A:=⟨_,rfl⟩
 obtain⟨B,hB⟩: ∃B,min b 1073741824=B:=⟨_,rfl⟩
 rw[hA,hB] at hR;have HK:=η h;obtain⟨F,gm,gt,Y,h1⟩:=h;have HN:=η (q9p h1.i.x);have i0:=h1.i.x.1;have H0:=Man.bounds i0.man;obtain⟨_,v,vs,vm,D,nn,d⟩:=h1.i.x;have c6:=d.c6;have E0:=η (z9N d.mem i0.mem h' A B);have HI:=η d;have b1:=η i0;have p0:=η H0;have HR:=η hR;have HS:=η hs;have HF:=η h1;clear d i0 H0 hR hs h1;go_enter Tryz.func112,Tryz.ntmps112;go_wp2_with fail;refine HN.o.mono ?_;rintro e w1 ⟨rfl,rfl⟩;go_wp2_with fail;refine E0.o.mono ?_;rintro e w1 ⟨v1,rfl,A0,f0⟩;obtain⟨a1,k1,rfl⟩:=q0G A0;have c0:=η A0;obtain⟨rn,j0⟩: ∃rn,(q0u st.w h' A B).length=rn:=⟨_,rfl⟩
 have U0:=η j0;rw[j0] at c0;rw[j0];have O:=η (f0.trans (q0B w1 (.cells #[.slice a1 rn k1] 187)));have Q:=η (q0B w1 (.cells #[.slice a1 rn k1] 187));have l0:=η (y1I w1 w.heap.size f0.size (.slice a1 rn k1));obtain⟨av,kv,rfl,I0⟩:=HI.o.grid;have c4:=(HI.o.ext O.o).c4;have C:=η (z4U av st.m.L.length kv st.m.L _ (I0.ext O.o) (by have:=p0.o.2.1;omega));have e1:=f0.size;clear A0 f0 I0 j0 E0 c6;go_wp2_with fail;refine C.o.mono ?_;rintro e w2 ⟨va,rfl,l,G⟩;obtain⟨aa,ka,rfl⟩:=l.slice;have Z0:w1.heap.size+1<=w2.heap.size:=by have:=G.size;rw[ρ] at this;exact this
 rw[ρ] at l;obtain⟨ns,Z⟩: ∃ns,st.m.L.flatten=ns:=⟨_,rfl⟩
 rw[Z] at l HR;have R0:=η Z
 have C0:Hd (LsW wb w w2 g gx st σ K (.slice aa ns.length ka) (.slice (some ⟨w1.heap.size,0,none⟩) 1 1) [.slice a1 rn k1] ns [q0u st.w h' A B] w.heap.size):=η ⟨HK.o.more (O.o.trans G) (fun i d=>by
   have h0:=Q.o.size;rw[ρ] at h0;rcases d with d|d|d|⟨q,d⟩
   ·exact .inl d
   ·have:=l.lt i d;exact .inr ⟨by omega,this.2⟩
   ·have g0:w1.heap.size=i:=by cases d;rfl
    exact .inr ⟨by omega,by omega⟩
   ·match q,d with
    |0,d=>have:=q0l c0.o i d;exact .inr ⟨this.1,by omega⟩
    |q+1,d=>simp[Value.ownBlock] at d),l.base (by omega),⟨q0O l0.o G,fun i=>by
   match i with
   |0=>simp only[List.getD_cons_zero];rw[U0.o];exact q1G (q0O (q0O c0.o Q.o) G) (ι _)
   |i+1=>simpa [ecs] using World.ownsRow_nil w2 w.heap.size 165 3⟩,HK.o.kExt (O.o.trans G),⟨ι _,by omega⟩,fun i d=>by obtain⟨F,gm,gt,Y,q⟩:=HK.o;exact(q.k i d).1,HK.o.base.size⟩
 rw[Z];obtain⟨n,hn⟩: ∃n,ns.length=n:=⟨_,rfl⟩
 have b0:=η hn;have Y0:n<=40:=by rw[<-hn,<-Z];exact p0.o.2.1
 rw[hn] at C0;rw[hn];clear l G Z hn C l0 c0 O Q c4 HN;go_wp2_with fail;have f1:w.heap.size<=w2.heap.size:=by omega
 clear HI
 go_loopw [10,37] (fun lv i W=> ∃(k:Nat) (vs:List Value) (acc:List (List En)) (τ:DM),k<=n/\i= .int .i64 (k:Int)/\LsW wb w W g gx st τ K (.slice aa n ka) lv vs ns acc w.heap.size/\acc.length=k+1/\q3n st h' A B τ (ns.drop k) acc=R) (fun _ i _=>n-(intOf i).toNat)
 case atStart=>exact⟨0,_,_,σ,υ _,rfl,C0.o,rfl,HR.o⟩
 case round =>
  obtain⟨k,B0,acc,τ,hk,rfl,y0,e0,j⟩:=hrel;have J:=η y0;have C:=η e0;have r0:=η j;obtain⟨al,kl,rfl,s⟩:=y0.ls.grid;rw[e0] at s J;rw[e0];clear y0 e0 j;by_cases z0:k<n
  ·have hd:decide ((k:Int)<(n:Int))=true:=ζ (by omega)
   have q1:IntKind.i64.wrap ((k:Int)+1)=(k:Int)+1:=by rw[ν];omega
   have q5:(k:Int)<(n:Int):=by omega
   obtain⟨_,_,ea,v0⟩:=q3I J.o.all;rw[b0.o] at ea
   cases ea;rw[b0.o] at v0;obtain⟨ba,oa,rfl,n0⟩:=v0.at z0;have x0:k<ns.length:=by rw[b0.o];exact z0
   have S:ns.drop k=ns.getD k 0::ns.drop (k+1):=by
    rw[List.drop_eq_getElem_cons x0,δ,γ x0];rfl
   have X:ns.getD k 0∈st.m.L.flatten:=by rw[R0.o];exact q4J ns k x0
   have j:=r0.o;rw[S] at j;obtain⟨e,he⟩:=u0 _ X;have X0:=(p0.o.2.2.2.1 _ X).1;generalize ns.getD k 0=nk at*;rw[q3n,he] at j;simp only at j;obtain⟨F2,c1,d1,Y2,h2⟩:=J.o.i;have s0:=η (z9r (h2.tb he) h' A B);have N0:=η h2;obtain⟨_,v2,l1,j1,D2,i1,g0⟩:=h2.i.x;have c7:=g0.c7;have J0:=g0.at X0 he;obtain⟨r,hr⟩: ∃r,q3C τ nk e.L e.may h' A B=r:=⟨_,rfl⟩
   rw[hr] at j s0;obtain⟨M,c,L0⟩:=r;simp only at j;have E:=η j;have P0:=η J0;clear v0 S X j h2 g0 hr s;go_wp2_with fail;refine s0.o.mono ?_;rintro e3 w3 ⟨v3,rfl,I⟩;simp only at I;obtain⟨a3,k3,rfl⟩:=q0G I.row;obtain⟨⟨F3,h3⟩,o0⟩:=N0.o.row I;have W0:=I.off.size;have m0:=η I.row;have q0:=η h3;have N:=η o0;clear I h3 o0 s0 c7 P0 J0;by_cases hc:c=0
   case neg=>
    have g2:(c !=0)=true:=by simpa using hc
    have HE:Hd (z1q wb w g gx st K R (.returned (.tuple #[.slice none 0 0,.int .i64 c])) w3):=η (by
     have h:=E.o;rw[ξ hc] at h;rw[<-h]
     exact⟨_,rfl,⟨_,_,_,_,q0.o.beside fun i d=>by
      rcases d with d|d
      ·exact .inl (.inl d)
      ·cases d⟩,J.o.stay.trans fun i d=>N.o i (.inl d),fun e=>absurd e hc⟩)
    clear hc;go_wp2_with fail;go_ret2;exact HE.o
   case pos=>
   subst hc;have T0:Hd (q3n st h' A B L0 (ns.drop (k+1)) (acc++[M])=R):=η (by have h:=E.o;rw[κ (fun h=>h rfl)] at h;exact h);obtain⟨M1,d0⟩: ∃M1,M.length=M1:=⟨_,rfl⟩
   have Q0:=η d0;rw[d0] at q0 m0;rw[d0]
   have F0:Hd ((w3.alloc (.cells #[.slice a3 M1 k3] 187)).ownsRow w.heap.size 187 1 (.slice al (k+1) kl) (k+1) B0):=η (by
    have h:=(J.o.ls.same (w':=w3) fun i d=>N.o i (.inr (.inr d))).own;rw[C.o] at h
    exact q0O h (q0B _ _))
   have g1:=J.o.base.2;have K0:w.heap.size<=(w3.alloc (.cells #[.slice a3 M1 k3] 187)).heap.size:=by rw[ρ];omega
   have V0:=η K0;clear E d0 K0
   go_wp2_with (at_builtin;refine q0R rfl (.tmp 57) (.tmp 59) 258 rfl w.heap.size 187 _ 1 24 Tryz.underlying258 Tryz.infoLs (by decide) (by decide) _ (k+1) B0 rfl F0.o _ 1 1 [.slice a3 M1 k3] rfl rfl (fun h=>by cases h) (Rd.lit _ _ _) (fun u hu=>by rw[List.mem_singleton.1 hu];rfl) (by unfold maxLen;omega) (by omega) V0.o ?_;intro v4 w4 a0 U G0;obtain⟨a4,k4,rfl⟩:=q0G a0;have S0:=η a0;have O0:=η U;have M0:=η G0;clear a0 U G0)
   go_roundw
   case rel=>
    refine⟨k+1,B0++[.slice a3 M1 k3],acc++[M],L0,z0,by go_num,?_,by rw[θ,C.o];rfl,T0.o⟩;have hl:=J.o;exact hl.push (M:=M) ⟨_,_,_,_,q0.o⟩ N.o W0 (by rw[Q0.o];exact m0.o) (by rw[C.o];exact S0.o) O0.o M0.o
   case measure=>simp[intOf];omega
  ·obtain rfl:k=n:=by omega
   have hd:decide ((k:Int)<(k:Int))=false:=ε (by omega);have j:=r0.o;rw[List.drop_of_length_le (by rw[b0.o];exact ι _),q3n] at j;have E:=η j;have k0:=HS.o (by rw[<-j]);rw[<-j] at k0;have D0:=η (y1B wr s (by omega) k0.2 k0.1);clear j k0 s;go_wp2_with fail;refine D0.o.mono ?_;rintro e w3 ⟨vU,rfl,y,t0⟩
   have HE:Hd (z1q wb w g gx st K R (.returned (.tuple #[vU,.int .i64 0])) w3):=η (by
    rw[<-E.o];refine⟨vU,rfl,J.o.i.more t0 (fun i d=>?_),J.o.stay.trans fun i d=>J.o.i.kExt t0 i (.inl d),fun _=>q1G y (J.o.base.2)⟩;rcases d with d|d
    ·exact .inl (.inl d)
    ·exact .inr (q0l y i d))
   obtain⟨aU,kU,rfl⟩:=q0G y;clear y t0 D0 E r0;go_wp2_with fail;go_ret2;exact HE.o
end
def q3A(st:IxSt)(h u:Int):DM->List Int->Int->Int×Int×DM
 |σ,[],out=>(out,0,σ)
 | σ, n::ns,out=>match st.t n with
  |none=>(-1,1,σ)
  | some e=>if (q3S σ n e.L e.may h u).2.2.1≠0 then(-1,(q3S σ n e.L e.may h u).2.2.1,(q3S σ n e.L e.may h u).2.2.2)
   else q3A st h u (q3S σ n e.L e.may h u).2.2.2 ns (if (q3S σ n e.L e.may h u).2.1 then max out (q3S σ n e.L e.may h u).1.2.1 else out)
def z5h(L:List En)(h u:Int):Int:=match q3H L h u with|some e=>e.2.1|none=> -1
section
variable {wb w0 w W W1 w1 w2:World}{g gx gm gt B:Nat}{st st1:IxSt}{F Y Y1 K K' V:Nat->Prop}{σ σ1:DM}{va v v1 v2:Value}{vs:List Value}{ns:List Int}{acc:List (List En)}{M:List En}
theorem LsW.step(h:LsW wb w0 W g gx st σ K va v vs ns acc B)(j:IxK wb W1 g gx st1 σ1 (fun i=>K i\/z9t va v vs i))(b:Stay (fun i=>K i\/z9t va v vs i) W W1)(l:W.heap.size<=W1.heap.size):LsW wb w0 W1 g gx st1 σ1 K va v vs ns acc B:=
 ⟨j,h.all.same fun i d=>b i (.inr (.inl d)),h.ls.same fun i d=>b i (.inr (.inr d)),h.stay.trans fun i d=>b i (.inl d),⟨h.base.1,Ω h.base.2 l⟩,h.kl,h.wbl⟩
theorem LsW.start(h:IxK wb w g gx st σ K)(j:Ext w W)(d:Own W w.heap.size 3 1 va ns.length (ns.map (Value.int .i64))):LsW wb w W g gx st σ K va (.slice none 0 0) [] ns [] w.heap.size:=
 ⟨h.more j (fun i b=>by
   rcases b with b|b|b|⟨q,b⟩
   ·exact .inl b
   ·exact .inr (d.lt i b)
   ·cases b
   ·simp[Value.ownBlock] at b),d,EGo.nil _ _,h.kExt j,⟨ι _,j.size⟩,fun i b=>by obtain⟨F,gm,gt,Y,q⟩:=h;exact(q.k i b).1,h.base.size⟩
theorem Own.base0{w:World}{B B':Nat}{e:TypeId}{size:Nat}{v:Value}{n:Nat}{cs:List Value}(h:Own w B e size v n cs)(k:B'<=B):Own w B' e size v n cs:=h.base k
theorem y0o(h:IxK wb w g gx st σ K)(k0:st.full)(C a:Int)(ha: -9223372036854775808<=a){R:Int×Int×DM}(hR:q3A st C (min a 1073741824) σ st.m.L.flatten (z5h st.w C (min a 1073741824))=R):
  Calls Tryz.prog 104 #[.pointer (some ⟨gx,0,none⟩),.int .u64 C,.int .i64 a] w fun e w'=>e= .returned (.tuple #[.int .i64 R.1,.int .i64 R.2.1])/\IxK wb w' g gx st R.2.2 K/\Stay K w w':=by
 obtain⟨B,hB⟩: ∃B,min a 1073741824=B:=⟨_,rfl⟩
 have A0: -9223372036854775808<=B:=by omega
 rw[hB] at hR;have HK:=η h;obtain⟨F,gm,gt,Y,h1⟩:=h;have HN:=η (q9p h1.i.x);have o0:=h1.i.x.1;have C0:=Man.bounds o0.man;obtain⟨_,v,vs,vm,D,nn,hi⟩:=h1.i.x;have c6:=hi.c6;have q0:=η (y1C hi.mem o0.mem C B);have r0:z5h st.w C B=if (q3H st.w C B).isSome then((q3H st.w C B).getD en0).2.1 else-1:=by unfold z5h;cases q3H st.w C B<;>rfl
 have F0: ∀x∈st.w,0<=x.2.1/\x.2.1<=9223372036854775807:=fun x hx=>by have:=o0.mem.ok x hx;unfold q3f at this;simp at this;omega
 have HI:=η hi;have L0:=η o0;have g0:=η C0;rw[r0] at hR;generalize (q3H st.w C B).getD en0=y at*;generalize (q3H st.w C B).isSome=q at*;have HR:=η hR;obtain⟨y1,y2,y3⟩:=y;have q0:Hd (Calls Tryz.prog 166 #[.pointer (some ⟨gm,0,none⟩),.int .u64 C,.int .i64 B] w fun r w'=>r= .returned (.tuple #[.agg #[.int .u64 y1,.int .i64 y2,.int .i64 y3],.bool q])/\Ext w w'):=q0;clear hi o0 C0 hR h1 r0 F0;go_enter Tryz.func104,Tryz.ntmps104;go_wp2_with fail;refine HN.o.mono ?_;rintro e w1 ⟨rfl,rfl⟩;go_wp2_with fail;refine q0.o.mono ?_;rintro e w1 ⟨rfl,B0⟩;have Q:=η (B0.trans (q0B w1 (.cells #[.int .u64 y1,.int .i64 y2,.int .i64 y3] 165)));have U:=Blk.new w1 165 #[.int .u64 y1,.int .i64 y2,.int .i64 y3];have k1:(w1.alloc (.cells #[.int .u64 y1,.int .i64 y2,.int .i64 y3] 165)).cell? ⟨w1.heap.size,1,none⟩=some (.int .i64 y2):=U.cell 1;obtain⟨av,kv,rfl,D0⟩:=HI.o.grid;have c4:=(HI.o.ext Q.o).c4;have f0:=η (z4U av st.m.L.length kv st.m.L _ (D0.ext Q.o) (by have:=g0.o.2.1;omega));obtain⟨W0,y0⟩: ∃W0,w1.alloc (.cells #[.int .u64 y1,.int .i64 y2,.int .i64 y3] 165)=W0:=⟨_,rfl⟩
 rw[y0] at Q k1 c4 f0;clear B0 D0 U q0 c6
 cases q with
 | false =>
  go_wp2_with fail;refine f0.o.mono ?_;rintro e w2 ⟨va,rfl,j,j0⟩;obtain⟨aa,ka,rfl⟩:=j.slice;have x0:=η (Q.o.trans j0);obtain⟨ns,I⟩: ∃ns,st.m.L.flatten=ns:=⟨_,rfl⟩
  have a0:=HR.o;rw[I] at j a0;have v0:=η a0;have u0:=η I;have h0:=η ((LsW.start HK.o (W:=w2) x0.o (va:= .slice aa ns.length ka) (j.base0 Q.o.size)));rw[I];obtain⟨n,hn⟩: ∃n,ns.length=n:=⟨_,rfl⟩
  have N:=η hn;have E0:n<=40:=by rw[<-hn,<-I];exact g0.o.2.1
  rw[hn] at h0;rw[hn];clear j j0 I hn f0 Q c4 HN HI a0 y0 k1;go_wp2_with fail
  go_loopw [8,40] (fun o i W=> ∃(k:Nat) (τ:DM) (oz:Int),k<=n/\i= .int .i64 (k:Int)/\o= .int .i64 oz/\LsW wb w W g gx st τ K (.slice aa n ka) (.slice none 0 0) [] ns [] w.heap.size/\q3A st C B τ (ns.drop k) oz=R) (fun _ i _=>n-(intOf i).toNat)
  case atStart=>exact⟨0,σ,_,υ _,rfl,rfl,h0.o,v0.o⟩
  case round=>
   obtain⟨k,τ,oz,hk,rfl,rfl,m0,d⟩:=hrel;have HL:=η m0;have i0:=η d;clear m0 d;by_cases S:k<n
   ·have hd:decide ((k:Int)<(n:Int))=true:=ζ (by omega)
    have q1:IntKind.i64.wrap ((k:Int)+1)=(k:Int)+1:=by rw[ν];omega
    have q5:(k:Int)<(n:Int):=by omega
    obtain⟨_,_,ea,d0⟩:=q3I HL.o.all;rw[N.o] at ea
    cases ea;rw[N.o] at d0;obtain⟨ba,oa,rfl,n0⟩:=d0.at S;have e0:k<ns.length:=by rw[N.o];exact S
    have E:ns.drop k=ns.getD k 0::ns.drop (k+1):=by
     rw[List.drop_eq_getElem_cons e0,δ,γ e0];rfl
    have G:ns.getD k 0∈st.m.L.flatten:=by rw[u0.o];exact q4J ns k e0
    have d:=i0.o;rw[E] at d;obtain⟨e,he⟩:=k0 _ G;have z0:=(g0.o.2.2.2.1 _ G).1;generalize ns.getD k 0=nk at*;rw[q3A,he] at d;simp only at d;obtain⟨F2,G0,H0,Y2,h2⟩:=HL.o.i;have u:=η (z7t (h2.tb he) C B A0);have s0:=η h2;obtain⟨_,v2,K0,J0,D2,I0,c0⟩:=h2.i.x;have c7:=c0.c7;have l0:=c0.at z0 he;obtain⟨r,hr⟩: ∃r,q3S τ nk e.L e.may C B=r:=⟨_,rfl⟩
    rw[hr] at d u;obtain⟨⟨z1,z2,z3⟩,p0,c,l⟩:=r;simp only at d;have u:Hd (Calls Tryz.prog 167 #[.pointer (some ⟨e.b,0,none⟩),.int .u64 C,.int .i64 B] wr fun e w'=>e= .returned (.tuple #[.agg #[.int .u64 z1,.int .i64 z2,.int .i64 z3],.bool p0,.int .i64 c])/\DkS wr g F2 l w'):=u;have s:=η d;have t0:=η l0;clear d0 E G d h2 c0 hr;go_wp2_with fail;refine u.o.mono ?_;rintro e3 w3 ⟨rfl,b0⟩;obtain⟨h3,X⟩:=s0.o.disk b0;have J:=η ((HL.o.step ⟨_,_,_,_,h3⟩ X b0.off.size).grow (q0B w3 (.cells #[.int .u64 z1,.int .i64 z2,.int .i64 z3] 165)));have U:=Blk.new w3 165 #[.int .u64 z1,.int .i64 z2,.int .i64 z3];have k1:(w3.alloc (.cells #[.int .u64 z1,.int .i64 z2,.int .i64 z3] 165)).cell? ⟨w3.heap.size,1,none⟩=some (.int .i64 z2):=U.cell 1;clear b0 h3 X u c7 t0 l0 U;by_cases hc:c=0
    case neg=>
     have g2:(c !=0)=true:=by simpa using hc
     have HE:Hd (R=(-1,c,l)):=η (by
      have h:=s.o;rw[ξ hc] at h
      exact h.symm)
     clear hc;go_wp2_with fail;go_ret2;rw[HE.o];exact⟨rfl,J.o.i.beside fun i hi=> .inl hi,J.o.stay⟩
    case pos=>
    subst hc
    cases p0 with
    | false=>
     have Z:Hd (q3A st C B l (ns.drop (k+1)) oz=R):=η (by have h:=s.o;rw[κ (fun h=>h rfl),κ (by decide)] at h;exact h);clear s;go_wp2_with fail
     go_roundw
     case rel=>exact⟨k+1,l,oz,S,by go_num,rfl,J.o,Z.o⟩
     case measure=>simp[intOf];omega
    | true=>
     obtain⟨O,hO⟩: ∃O,max oz z2=O:=⟨_,rfl⟩
     have Z:Hd (q3A st C B l (ns.drop (k+1)) O=R):=η (by have h:=s.o;rw[κ (fun h=>h rfl),ξ rfl,hO] at h;exact h);clear s;go_wp2_with fail
     go_roundw
     case rel=>exact⟨k+1,l,O,S,by go_num,rfl,J.o,Z.o⟩
     case measure=>simp[intOf];omega
   ·obtain rfl:k=n:=by omega
    have hd:decide ((k:Int)<(k:Int))=false:=ε (by omega);have d:=i0.o;rw[List.drop_of_length_le (by rw[N.o];exact ι _),q3A] at d;have HE:=η d;clear d;go_wp2_with fail;go_ret2;rw[<-HE.o];exact⟨rfl,HL.o.i.beside fun i hi=> .inl hi,HL.o.stay⟩
 | true =>
  go_wp2_with fail;refine f0.o.mono ?_;rintro e w2 ⟨va,rfl,j,j0⟩;obtain⟨aa,ka,rfl⟩:=j.slice;have x0:=η (Q.o.trans j0);obtain⟨ns,I⟩: ∃ns,st.m.L.flatten=ns:=⟨_,rfl⟩
  have a0:=HR.o;rw[I] at j a0;have v0:=η a0;have u0:=η I;have h0:=η ((LsW.start HK.o (W:=w2) x0.o (va:= .slice aa ns.length ka) (j.base0 Q.o.size)));rw[I];obtain⟨n,hn⟩: ∃n,ns.length=n:=⟨_,rfl⟩
  have N:=η hn;have E0:n<=40:=by rw[<-hn,<-I];exact g0.o.2.1
  rw[hn] at h0;rw[hn];clear j j0 I hn f0 Q c4 HN HI a0 y0 k1;go_wp2_with fail
  go_loopw [8,40] (fun o i W=> ∃(k:Nat) (τ:DM) (oz:Int),k<=n/\i= .int .i64 (k:Int)/\o= .int .i64 oz/\LsW wb w W g gx st τ K (.slice aa n ka) (.slice none 0 0) [] ns [] w.heap.size/\q3A st C B τ (ns.drop k) oz=R) (fun _ i _=>n-(intOf i).toNat)
  case atStart=>exact⟨0,σ,_,υ _,rfl,rfl,h0.o,v0.o⟩
  case round=>
   obtain⟨k,τ,oz,hk,rfl,rfl,m0,d⟩:=hrel;have HL:=η m0;have i0:=η d;clear m0 d;by_cases S:k<n
   ·have hd:decide ((k:Int)<(n:Int))=true:=ζ (by omega)
    have q1:IntKind.i64.wrap ((k:Int)+1)=(k:Int)+1:=by rw[ν];omega
    have q5:(k:Int)<(n:Int):=by omega
    obtain⟨_,_,ea,d0⟩:=q3I HL.o.all;rw[N.o] at ea
    cases ea;rw[N.o] at d0;obtain⟨ba,oa,rfl,n0⟩:=d0.at S;have e0:k<ns.length:=by rw[N.o];exact S
    have E:ns.drop k=ns.getD k 0::ns.drop (k+1):=by
     rw[List.drop_eq_getElem_cons e0,δ,γ e0];rfl
    have G:ns.getD k 0∈st.m.L.flatten:=by rw[u0.o];exact q4J ns k e0
    have d:=i0.o;rw[E] at d;obtain⟨e,he⟩:=k0 _ G;have z0:=(g0.o.2.2.2.1 _ G).1;generalize ns.getD k 0=nk at*;rw[q3A,he] at d;simp only at d;obtain⟨F2,G0,H0,Y2,h2⟩:=HL.o.i;have u:=η (z7t (h2.tb he) C B A0);have s0:=η h2;obtain⟨_,v2,K0,J0,D2,I0,c0⟩:=h2.i.x;have c7:=c0.c7;have l0:=c0.at z0 he;obtain⟨r,hr⟩: ∃r,q3S τ nk e.L e.may C B=r:=⟨_,rfl⟩
    rw[hr] at d u;obtain⟨⟨z1,z2,z3⟩,p0,c,l⟩:=r;simp only at d;have u:Hd (Calls Tryz.prog 167 #[.pointer (some ⟨e.b,0,none⟩),.int .u64 C,.int .i64 B] wr fun e w'=>e= .returned (.tuple #[.agg #[.int .u64 z1,.int .i64 z2,.int .i64 z3],.bool p0,.int .i64 c])/\DkS wr g F2 l w'):=u;have s:=η d;have t0:=η l0;clear d0 E G d h2 c0 hr;go_wp2_with fail;refine u.o.mono ?_;rintro e3 w3 ⟨rfl,b0⟩;obtain⟨h3,X⟩:=s0.o.disk b0;have J:=η ((HL.o.step ⟨_,_,_,_,h3⟩ X b0.off.size).grow (q0B w3 (.cells #[.int .u64 z1,.int .i64 z2,.int .i64 z3] 165)));have U:=Blk.new w3 165 #[.int .u64 z1,.int .i64 z2,.int .i64 z3];have k1:(w3.alloc (.cells #[.int .u64 z1,.int .i64 z2,.int .i64 z3] 165)).cell? ⟨w3.heap.size,1,none⟩=some (.int .i64 z2):=U.cell 1;clear b0 h3 X u c7 t0 l0 U;by_cases hc:c=0
    case neg=>
     have g2:(c !=0)=true:=by simpa using hc
     have HE:Hd (R=(-1,c,l)):=η (by
      have h:=s.o;rw[ξ hc] at h
      exact h.symm)
     clear hc;go_wp2_with fail;go_ret2;rw[HE.o];exact⟨rfl,J.o.i.beside fun i hi=> .inl hi,J.o.stay⟩
    case pos=>
    subst hc
    cases p0 with
    | false=>
     have Z:Hd (q3A st C B l (ns.drop (k+1)) oz=R):=η (by have h:=s.o;rw[κ (fun h=>h rfl),κ (by decide)] at h;exact h);clear s;go_wp2_with fail
     go_roundw
     case rel=>exact⟨k+1,l,oz,S,by go_num,rfl,J.o,Z.o⟩
     case measure=>simp[intOf];omega
    | true=>
     obtain⟨O,hO⟩: ∃O,max oz z2=O:=⟨_,rfl⟩
     have Z:Hd (q3A st C B l (ns.drop (k+1)) O=R):=η (by have h:=s.o;rw[κ (fun h=>h rfl),ξ rfl,hO] at h;exact h);clear s;go_wp2_with fail
     go_roundw
     case rel=>exact⟨k+1,l,O,S,by go_num,rfl,J.o,Z.o⟩
     case measure=>simp[intOf];omega
   ·obtain rfl:k=n:=by omega
    have hd:decide ((k:Int)<(k:Int))=false:=ε (by omega);have d:=i0.o;rw[List.drop_of_length_le (by rw[N.o];exact ι _),q3A] at d;have HE:=η d;clear d;go_wp2_with fail;go_ret2;rw[<-HE.o];exact⟨rfl,HL.o.i.beside fun i hi=> .inl hi,HL.o.stay⟩
end
end
end Go.Proofs.YtfiibpgoplcgkaaGreatDoor
