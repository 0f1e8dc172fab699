/- How an index lies in memory. -/
import Derived.Test.YtjigghjfcbbkiaaGreatDoorG26SN
import Derived.Test.YtjigghjfcbbkiaaGreatDoorG29SN
import Derived.Test.YtjigghjfcbbkiaaGreatDoorG30SN
import Derived.WideKeyEntry
import Derived.Test.YtjigghjfcbbkiaaGreatDoorG25SN
set_option linter.unusedVariables false
set_option linter.unusedSimpArgs false
set_option maxRecDepth 100000
set_option maxHeartbeats 12800000
namespace Go.Proofs.YtjigghjfcbbkiaaGreatDoor
variable {n e f:Int}{τ:DM}{u' cnt' k cap:Nat}{α:Type}{bs:List Bt}{ao:Option Addr}
section
open Go.RowKit Go.Maps
structure Man where
 nx:Int
 ck:Int
 sd:Int
 L:List (List Int)
def Man.ok(m:Man):Prop:=q0c m.nx m.ck m.L=true/\0<=m.sd/\m.sd<18446744073709551616
structure TE where
 b:Nat
 L:List En
 may:Int->Bool
structure IxSt where
 m:Man
 rate:Nat
 w:List En
 t:Int->Option TE
 c:Nat
def InX(gx gm gt i:Nat):Prop:=i=gx\/i=gm\/i=gt
def y1Z(o:Option TE):DataW Unit:=match o with|some e=> .lit (.int .i64 e.b)|none=> .nil
structure IxI(w:World)(gx g gm gt:Nat)(st:IxSt)(v:Value)(vs:List Value)(vm:Value)(D:DataW Unit)(nn:Nat)(Y:Nat->Prop):Prop where
 blk:Blk w gx 202 #[.pointer (some ⟨g,0,none⟩),.int .i64 st.m.nx,.int .i64 st.m.ck,.int .u64 st.m.sd,v,.float .f64 st.rate,.pointer (some ⟨gm,0,none⟩),.map (some gt)]
 mem:MemI w gm vm st.w
 lev:OGr w 0 44 3 v vs st.m.L
 map:w.ownsMap Tryz.prog 3 q6L gt nn D
 cnt:nn<=st.c
 look: ∀n,D.atKey (.int .i64 n) .nil=y1Z (st.t n)
 tab: ∀n e,st.t n=some e->Tb w e.b g n e.L e.may Y
 inY: ∀i,(v.ownBlock=some i\/(∃q,(vs.getD q (.slice none 0 0)).ownBlock=some i)\/vm.ownBlock=some i)->Y i
 lt: ∀i,Y i->i<w.heap.size
 apart: ∀i,Y i->¬InX gx gm gt i
 ne:gx≠gm/\gx≠gt/\gm≠gt
structure y2D(st:IxSt):Prop where
 man:st.m.ok
 mem:okM st.w
 c:st.c<=1000000
def IxSt.full(st:IxSt):Prop:= ∀n∈st.m.L.flatten,∃e,st.t n=some e
def IxY(w:World)(gx g gm gt:Nat)(st:IxSt)(Y:Nat->Prop):Prop:=y2D st/\ ∃v vs vm D nn,IxI w gx g gm gt st v vs vm D nn Y
section
variable {w w':World}{gx g gm gt:Nat}{st:IxSt}{v:Value}{vs:List Value}{vm:Value}{D:DataW Unit}{nn:Nat}{Y Y' F:Nat->Prop}
theorem IxI.same(h:IxI w gx g gm gt st v vs vm D nn Y)(j:w.heap.size<=w'.heap.size)(k: ∀i,InX gx gm gt i\/Y i->w'.heap[i]? =w.heap[i]?):IxI w' gx g gm gt st v vs vm D nn Y:=
 ⟨h.blk.same (k _ (.inl (.inl rfl))),h.mem.same fun i d=>d.elim (fun e=>k i (.inl (.inr (.inl e)))) fun e=>k i (.inr (h.inY i (.inr (.inr e)))),
  q4O h.lev fun i d=>k i (.inr (h.inY i (d.elim .inl fun e=> .inr (.inl e)))),q2D h.map (k _ (.inl (.inr (.inr rfl)))),h.cnt,h.look,
  fun n e m=>(h.tab n e m).same j fun i d=>k i (.inr d),h.inY,fun i d=>Ψ (h.lt i d) j,h.apart,h.ne⟩
theorem IxI.xlt(h:IxI w gx g gm gt st v vs vm D nn Y): ∀i,InX gx gm gt i->i<w.heap.size:=fun i d=>by
 rcases d with rfl|rfl|rfl
 ·exact h.blk.lt
 ·exact h.mem.blk.lt
 ·exact h.map.lt
theorem IxI.ext(h:IxI w gx g gm gt st v vs vm D nn Y)(k:Ext w w'):IxI w' gx g gm gt st v vs vm D nn Y:=
 h.same k.size fun i d=>k.block i (d.elim (h.xlt i) (h.lt i))
theorem IxI.off(h:IxI w gx g gm gt st v vs vm D nn Y)(k:OffS F w w')(j: ∀i,InX gx gm gt i\/Y i->¬F i):IxI w' gx g gm gt st v vs vm D nn Y:=
 h.same k.size fun i d=>k.block i (d.elim (h.xlt i) (h.lt i)) (j i d)
theorem IxI.memTurn(h:IxI w gx g gm gt st v vs vm D nn Y){j:Value}{r:List En}(hm:MemI w' gm j r)(off:OffS (fun i=>i=gm) w w')(J:j=vm\/ ∀i,j.ownBlock=some i->w.heap.size<=i):
  IxI w' gx g gm gt {st with w:=r} v vs j D nn (fun i=>Y i\/j.ownBlock=some i):=by
 have G: ∀i,Y i->w'.heap[i]? =w.heap[i]? :=fun i d=>off.block i (h.lt i d) fun e=>h.apart i d (.inr (.inl e))
 have o: ∀i,j.ownBlock=some i->Y i\/w.heap.size<=i:=fun i d=>by
  rcases J with e|e
  ·exact .inl (h.inY i (.inr (.inr (e▸d))))
  ·exact .inr (e i d)
 have m: ∀i,(Y i\/j.ownBlock=some i)->i<w'.heap.size:=fun i d=>by
  rcases d with d|d
  ·exact Ψ (h.lt i d) off.size
  ·exact hm.lt (.inr d)
 have q : ∀i,(Y i\/j.ownBlock=some i)->¬InX gx gm gt i:=fun i d=>by
  rcases d with d|d
  ·exact h.apart i d
  ·rcases o i d with y|y
   ·exact h.apart i y
   ·intro N
    have:i<w.heap.size:=by
     rcases N with rfl|rfl|rfl
     ·exact h.blk.lt
     ·exact h.mem.blk.lt
     ·exact h.map.lt
    omega
 exact⟨h.blk.same (off.block _ h.blk.lt h.ne.1),hm,q4O h.lev fun i d=>G i (h.inY i (d.elim .inl fun e=> .inr (.inl e))),q2D h.map (off.block _ h.map.lt fun e=>h.ne.2.2 e.symm),h.cnt,h.look,
  fun n e I=>((h.tab n e I).same off.size G).mono (fun i d=> .inl d) m,
  fun i d=>by
   rcases d with d|d|d
   ·exact .inl (h.inY i (.inl d))
   ·exact .inl (h.inY i (.inr (.inl d)))
   ·exact .inr d,m,q,h.ne⟩
theorem IxI.c1(h:IxI w gx g gm gt st v vs vm D nn Y):w.cell? ⟨gx,1,none⟩=some (.int .i64 st.m.nx):=h.blk.cell 1
theorem IxI.c2(h:IxI w gx g gm gt st v vs vm D nn Y):w.cell? ⟨gx,2,none⟩=some (.int .i64 st.m.ck):=h.blk.cell 2
theorem IxI.c3(h:IxI w gx g gm gt st v vs vm D nn Y):w.cell? ⟨gx,3,none⟩=some (.int .u64 st.m.sd):=h.blk.cell 3
theorem IxI.c4(h:IxI w gx g gm gt st v vs vm D nn Y):w.cell? ⟨gx,4,none⟩=some v:=h.blk.cell 4
theorem IxI.c6(h:IxI w gx g gm gt st v vs vm D nn Y):w.cell? ⟨gx,6,none⟩=some (.pointer (some ⟨gm,0,none⟩)):=h.blk.cell 6
theorem IxI.c7(h:IxI w gx g gm gt st v vs vm D nn Y):w.cell? ⟨gx,7,none⟩=some (.map (some gt)):=h.blk.cell 7
theorem y1d(w:World):(zeroValue 231).run Tryz.prog w= .ok (.pointer none) w:=by kernel_rfl
theorem IxI.at(h:IxI w gx g gm gt st v vs vm D nn Y)(m:(Lit.int .i64 n).wf=true){e:TE}(j:st.t n=some e):
  (Instr.lookup 200 (.map (some gt)) (.int .i64 n) false).run Tryz.prog w= .ok (.pointer (some ⟨e.b,0,none⟩)) w:=by
 obtain⟨u,ps,i,d⟩:=h.map.lookup Tryz.keyInt Tryz.underlying200 (y1d w) q9B (keyOf_int_mk Tryz.underlying3 m);rw[h.look,j] at d;rw[i,q9A d]
theorem z7c{e:TE}(i: ∀n,D.atKey (.int .i64 n) .nil=y1Z (st.t n))(hm:IsMap D)(x:Int):
  (D.put (.int .i64 n) (.lit (.int .i64 e.b))).atKey (.int .i64 x) .nil=y1Z (if x=n then some e else st.t x):=by
 by_cases d:x=n
 ·subst d
  rw[ξ rfl,atKey_put_same hm (k:= .int .i64 x) (show WideAt.IsKeyLit (.int .i64 x) from trivial)]
  rfl
 ·rw[κ d,atKey_put_other (by intro h;injection h with _ h;exact d h),i]
end
end
section
open Go.RowKit
structure IxD(w:World)(g:Nat)(F:Nat->Prop)(σ:DM)(gx gm gt:Nat)(st:IxSt)(Y:Nat->Prop):Prop where
 d:Dk w g F σ
 x:IxY w gx g gm gt st Y
 ap: ∀i,F i->¬InX gx gm gt i/\¬Y i
structure IxF(wb w:World)(g:Nat)(F:Nat->Prop)(σ:DM)(gx gm gt:Nat)(st:IxSt)(Y K:Nat->Prop):Prop where
 i:IxD w g F σ gx gm gt st Y
 bF: ∀i,F i->wb.heap.size<=i
 bX: ∀i,InX gx gm gt i->wb.heap.size<=i
 bY: ∀i,Y i->wb.heap.size<=i
 ext:Ext wb w
 k: ∀i,K i->i<w.heap.size/\¬F i/\¬InX gx gm gt i/\¬Y i
def IxK(wb w:World)(g gx:Nat)(st:IxSt)(σ:DM)(K:Nat->Prop):Prop:= ∃F gm gt Y,IxF wb w g F σ gx gm gt st Y K
section
variable {wb w w1 w2:World}{g gx gm gt:Nat}{st st1:IxSt}{F Y Y1 K K':Nat->Prop}{σ σ1:DM}
theorem IxY.xlt(h:IxY w gx g gm gt st Y): ∀i,InX gx gm gt i->i<w.heap.size:=by
 obtain⟨_,v,vs,vm,D,nn,d⟩:=h;exact d.xlt
theorem IxY.ylt(h:IxY w gx g gm gt st Y): ∀i,Y i->i<w.heap.size:=by
 obtain⟨_,v,vs,vm,D,nn,d⟩:=h;exact d.lt
theorem IxY.ext(h:IxY w gx g gm gt st Y)(k:Ext w w1):IxY w1 gx g gm gt st Y:=by
 obtain⟨d,v,vs,vm,D,nn,i⟩:=h;exact⟨d,v,vs,vm,D,nn,i.ext k⟩
theorem IxY.off(h:IxY w gx g gm gt st Y)(k:OffS F w w1)(m: ∀i,InX gx gm gt i\/Y i->¬F i):IxY w1 gx g gm gt st Y:=by
 obtain⟨d,v,vs,vm,D,nn,j⟩:=h;exact⟨d,v,vs,vm,D,nn,j.off k m⟩
theorem IxY.same(h:IxY w gx g gm gt st Y)(m:w.heap.size<=w1.heap.size)(k: ∀i,InX gx gm gt i\/Y i->w1.heap[i]? =w.heap[i]?):IxY w1 gx g gm gt st Y:=by
 obtain⟨d,v,vs,vm,D,nn,j⟩:=h;exact⟨d,v,vs,vm,D,nn,j.same m k⟩
theorem IxF.grow(h:IxF wb w g F σ gx gm gt st Y K)(k:Ext w w1):IxF wb w1 g F σ gx gm gt st Y K:=
 ⟨⟨h.i.d.ext k,h.i.x.ext k,h.i.ap⟩,h.bF,h.bX,h.bY,h.ext.trans k,fun i j=>⟨Ψ (h.k i j).1 k.size,(h.k i j).2⟩⟩
theorem IxF.kExt(h:IxF wb w g F σ gx gm gt st Y K)(k:Ext w w1):Stay K w w1:=fun i d=>k.block i (h.k i d).1
theorem IxF.notF(h:IxF wb w g F σ gx gm gt st Y K): ∀i,InX gx gm gt i\/Y i->¬F i:=fun i j d=>j.elim (h.i.ap i d).1 (h.i.ap i d).2
theorem IxF.disk(h:IxF wb w g F σ gx gm gt st Y K)(k:DkS w g F σ1 w1):IxF wb w1 g (Gr F w w1) σ1 gx gm gt st Y K/\Stay K w w1:=by
 have q:=k.off.size;refine⟨⟨⟨k.dk,h.i.x.off k.off h.notF,fun i j=>?_⟩,fun i j=>Gr.ge h.bF h.ext.size j,h.bX,h.bY,k.off.ext h.ext h.bF,fun i j=>?_⟩,fun i j=>?_⟩
 ·rcases j with j|j
  ·exact h.i.ap i j
  ·exact⟨fun m=>by have:=h.i.x.xlt i m;omega,fun o=>by have:=h.i.x.ylt i o;omega⟩
 ·obtain⟨a,b,c,d⟩:=h.k i j
  exact⟨by omega,Gr.not b a,c,d⟩
 ·obtain⟨a,b,c,d⟩:=h.k i j
  exact k.off.block i a b
theorem IxF.row(h:IxF wb w g F σ gx gm gt st Y K){v:Value}{acc:List En}(k:RowV w g F σ1 w1 v acc):(∃m,IxF wb w1 g m σ1 gx gm gt st Y (fun i=>K i\/v.ownBlock=some i))/\Stay K w w1:=by
 obtain⟨m,y,o,G⟩:=k.dk;have J:=k.off.size;refine⟨⟨m,⟨y,h.i.x.off k.off h.notF,fun i j=>?_⟩,fun i j=>Gr.ge h.bF h.ext.size (o i j),h.bX,h.bY,k.off.ext h.ext h.bF,fun i j=>?_⟩,fun i j=>?_⟩
 ·rcases o i j with j|j
  ·exact h.i.ap i j
  ·exact⟨fun q=>by have:=h.i.x.xlt i q;omega,fun r=>by have:=h.i.x.ylt i r;omega⟩
 ·rcases j with j|j
  ·obtain⟨a,b,c,d⟩:=h.k i j
   exact⟨by omega,fun I=>Gr.not b a (o i I),c,d⟩
  ·have:=q0X k.row i j
   exact⟨this.2,G i j,fun q=>by have:=h.i.x.xlt i q;omega,fun r=>by have:=h.i.x.ylt i r;omega⟩
 ·obtain⟨a,b,c,d⟩:=h.k i j
  exact k.off.block i a b
theorem IxF.turn(h:IxF wb w g F σ gx gm gt st Y K)(y:IxY w1 gx g gm gt st1 Y1)(off:OffS (InX gx gm gt) w w1)(o: ∀i,Y1 i->Y i\/w.heap.size<=i):IxF wb w1 g F σ gx gm gt st1 Y1 K/\Stay K w w1:=by
 have r:=off.size;refine⟨⟨⟨h.i.d.held r fun i j=>off.block i (h.i.d.Flt i j) (h.i.ap i j).1,y,fun i j=>⟨(h.i.ap i j).1,fun q=>?_⟩⟩,h.bF,h.bX,fun i j=>?_,off.ext h.ext h.bX,fun i j=>?_⟩,fun i j=>?_⟩
 ·rcases o i q with m|m
  ·exact(h.i.ap i j).2 m
  ·have:=h.i.d.Flt i j;omega
 ·rcases o i j with m|m
  ·exact h.bY i m
  ·have:=h.ext.size;omega
 ·obtain⟨a,b,c,d⟩:=h.k i j
  refine⟨by omega,b,c,fun q=>?_⟩;rcases o i q with m|m
  ·exact d m
  ·omega
 ·obtain⟨a,b,c,d⟩:=h.k i j
  exact off.block i a c
theorem IxF.turnV{q:Nat->Prop}(h:IxF wb w g F σ gx gm gt st Y q)(G:IxY w1 gx g gm gt st1 Y1)(off:OffS (InX gx gm gt) w w1)(r: ∀i,Y1 i->wb.heap.size<=i/\¬F i)(hK: ∀i,K i->q i/\¬Y1 i):IxF wb w1 g F σ gx gm gt st1 Y1 K/\Stay K w w1:=by
 have y:=off.size;refine⟨⟨⟨h.i.d.held y fun i j=>off.block i (h.i.d.Flt i j) (h.i.ap i j).1,G,fun i j=>⟨(h.i.ap i j).1,fun I=>(r i I).2 j⟩⟩,h.bF,h.bX,fun i j=>(r i j).1,off.ext h.ext h.bX,fun i j=>?_⟩,fun i j=>?_⟩
 ·obtain⟨o,m⟩:=hK i j
  obtain⟨a,b,c,d⟩:=h.k i o;exact⟨by omega,b,c,m⟩
 ·obtain⟨o,m⟩:=hK i j
  obtain⟨a,b,c,d⟩:=h.k i o;exact off.block i a c
theorem IxF.more(h:IxF wb w g F σ gx gm gt st Y K)(k:Ext w w1)(hK: ∀i,K' i->K i\/(w.heap.size<=i/\i<w1.heap.size)):IxF wb w1 g F σ gx gm gt st Y K':=by
 have j:=h.grow k;refine⟨j.i,j.bF,j.bX,j.bY,j.ext,fun i r=>?_⟩;rcases hK i r with m|⟨m,o⟩
 ·exact j.k i m
 ·exact⟨o,fun q=>by have:=h.i.d.Flt i q;omega,fun y=>by have:=h.i.x.xlt i y;omega,fun G=>by have:=h.i.x.ylt i G;omega⟩
theorem IxF.side(h:IxF wb w g F σ gx gm gt st Y K)(o:w.heap.size<=w1.heap.size)(q:Ext wb w1)(k: ∀i,i<w.heap.size->¬K i->w1.heap[i]? =w.heap[i]?):IxF wb w1 g F σ gx gm gt st Y K:=by
 refine⟨⟨h.i.d.held o fun i j=>k i (h.i.d.Flt i j) fun m=>(h.k i m).2.1 j,h.i.x.same o fun i j=>?_,h.i.ap⟩,h.bF,h.bX,h.bY,q,fun i j=>⟨Ψ (h.k i j).1 o,(h.k i j).2⟩⟩;rcases j with j|j
 ·exact k i (h.i.x.xlt i j) fun m=>(h.k i m).2.2.1 j
 ·exact k i (h.i.x.ylt i j) fun m=>(h.k i m).2.2.2 j
theorem IxF.sideM(h:IxF wb w g F σ gx gm gt st Y K)(G:w.heap.size<=w1.heap.size)(m:Ext wb w1)(k: ∀i,i<w.heap.size->¬K i->w1.heap[i]? =w.heap[i]?)(hK: ∀i,K' i->K i\/(w.heap.size<=i/\i<w1.heap.size)):IxF wb w1 g F σ gx gm gt st Y K':=by
 have j:=h.side G m k;refine⟨j.i,j.bF,j.bX,j.bY,m,fun i y=>?_⟩;rcases hK i y with o|⟨o,q⟩
 ·exact j.k i o
 ·exact⟨q,fun r=>by have:=h.i.d.Flt i r;omega,fun m=>by have:=h.i.x.xlt i m;omega,fun I=>by have:=h.i.x.ylt i I;omega⟩
theorem IxF.beside(h:IxF wb w g F σ gx gm gt st Y K)(k: ∀i,K' i->K i):IxF wb w g F σ gx gm gt st Y K':=⟨h.i,h.bF,h.bX,h.bY,h.ext,fun i d=>h.k i (k i d)⟩
theorem IxF.tb(h:IxF wb w g F σ gx gm gt st Y K){e:TE}(he:st.t n=some e):TbD w e.b g n e.L e.may Y F σ:=by
 obtain⟨_,v,vs,vm,D,nn,j⟩:=h.i.x;exact⟨h.i.d,j.tab n e he,fun i o m=>(h.i.ap i m).2 o⟩
theorem IxK.base(h:IxK wb w g gx st σ K):Ext wb w:=by obtain⟨F,gm,gt,Y,d⟩:=h;exact d.ext
theorem IxK.grow(h:IxK wb w g gx st σ K)(k:Ext w w1):IxK wb w1 g gx st σ K:=by obtain⟨F,gm,gt,Y,d⟩:=h;exact⟨_,_,_,_,d.grow k⟩
theorem IxK.kExt(h:IxK wb w g gx st σ K)(k:Ext w w1):Stay K w w1:=by obtain⟨F,gm,gt,Y,d⟩:=h;exact d.kExt k
theorem IxK.more(h:IxK wb w g gx st σ K)(k:Ext w w1)(hK: ∀i,K' i->K i\/(w.heap.size<=i/\i<w1.heap.size)):IxK wb w1 g gx st σ K':=by obtain⟨F,gm,gt,Y,d⟩:=h;exact⟨_,_,_,_,d.more k hK⟩
theorem IxK.sideM(h:IxK wb w g gx st σ K)(j:w.heap.size<=w1.heap.size)(m:Ext wb w1)(k: ∀i,i<w.heap.size->¬K i->w1.heap[i]? =w.heap[i]?)(hK: ∀i,K' i->K i\/(w.heap.size<=i/\i<w1.heap.size)):IxK wb w1 g gx st σ K':=by obtain⟨F,gm,gt,Y,d⟩:=h;exact⟨_,_,_,_,d.sideM j m k hK⟩
theorem IxK.beside(h:IxK wb w g gx st σ K)(k: ∀i,K' i->K i):IxK wb w g gx st σ K':=by obtain⟨F,gm,gt,Y,d⟩:=h;exact⟨_,_,_,_,d.beside k⟩
theorem IxK.disk{f:FuncId}{P:Program}{args:Array Value}{R:Ending->Prop}(h:IxK wb w g gx st σ K)(hc: ∀F,Dk w g F σ->Calls P f args w fun e w'=>R e/\DkS w g F σ1 w'):
  Calls P f args w fun e w'=>R e/\IxK wb w' g gx st σ1 K/\Stay K w w':=by
 obtain⟨F,gm,gt,Y,j⟩:=h;refine(hc F j.i.d).mono ?_;rintro e w' ⟨he,m⟩;have:=j.disk m;exact⟨he,⟨_,_,_,_,this.1⟩,this.2⟩
end
section
variable {wb w w1 w2:World}{g gx gm gt:Nat}{st st1:IxSt}{F Y Y1 K K':Nat->Prop}{σ σ1:DM}
theorem q8o(h:IxY w gx g gm gt st Y):Calls Tryz.prog 125 #[.pointer (some ⟨gx,0,none⟩)] w fun e w'=>e= .returned (.bool false)/\w=w':=by
 obtain⟨_,v,vs,vm,D,nn,d⟩:=h;have i:=d.c6;clear d;go_enter Tryz.func125,Tryz.ntmps125;go_wp2_with fail;go_ret;exact⟨rfl,rfl⟩
theorem IxI.grid{v:Value}{vs:List Value}{vm:Value}{D:DataW Unit}{nn:Nat}(h:IxI w gx g gm gt st v vs vm D nn Y): ∃ao c,v= .slice ao st.m.L.length c/\Grid w ao st.m.L.length c st.m.L:=h.lev.grid
theorem Man.bounds{m:Man}(h:m.ok):m.L.length<=5/\m.L.flatten.length<=40/\(∀i,(m.L.getD i []).length<=40)/\(∀x∈m.L.flatten,(Lit.int .i64 x).wf=true/\0<=x/\x<m.nx)/\0<=m.nx/\m.nx<=1000000/\m.L.flatten.Nodup/\0<=m.ck/\m.ck<=2147483647:=by
 have o:=h.1;unfold q0c q1e at o;simp only[Ξ,Φ,List.all_eq_true] at o;obtain⟨⟨⟨y,G,I,J⟩,N,O,q,Q⟩,r⟩:=o;refine⟨N,O,fun i=>?_,fun x j=>⟨?_,q x j,r x j⟩,y,G,Q,I,J⟩
 ·rcases Nat.lt_or_ge i m.L.length with d|d
  ·have:(m.L.getD i [])∈m.L:=by rw[δ,γ d];exact List.getElem_mem d
   have:=(List.sublist_flatten_of_mem this).length_le;omega
  ·rw[δ,List.getElem?_eq_none d];simp
 ·have:=q x j;have:=r x j
  exact WalkArith.wf_i64 (by omega)
theorem q6o(h:IxY w gx g gm gt st Y):Calls Tryz.prog 76 #[.pointer (some ⟨gx,0,none⟩)] w fun e w'=>
  ∃v vs,e= .returned (.agg #[.int .i64 st.m.nx,.int .i64 st.m.ck,.int .u64 st.m.sd,v])/\OGr w' w.heap.size 44 3 v vs st.m.L/\Ext w w':=by
 have r:=Man.bounds h.1.man;have HN:=η (fun W (k:Ext w W)=>q8o (h.ext k));obtain⟨R,v,vs,vm,D,nn,Q⟩:=h;obtain⟨ao,cp,rfl,Z⟩:=Q.grid;have y:=q0B w (.cells #[.int .i64 0,.int .i64 0,.int .u64 0,.slice none 0 0] 71);have N:=η (Blk.new w 71 #[.int .i64 0,.int .i64 0,.int .u64 0,.slice none 0 0]);have G:=Q.ext y;have c1:=G.c1;have c2:=G.c2;have c3:=G.c3;have c4:=G.c4;have HC:=η (fun W (k:Ext w W)=>z2F st.m.nx st.m.ck st.m.sd ao st.m.L.length cp st.m.L W (Z.ext k) (fun i=>by have:=r.2.2.1 i;omega) (by omega));have q:=η y;clear Q G Z R r y;go_enter Tryz.func76,Tryz.ntmps76;go_wp2_with fail;refine(HN.o _ q.o).mono ?_;rintro e w1 ⟨rfl,rfl⟩;go_wp2_with fail;refine(HC.o _ q.o).mono ?_;rintro e w1 ⟨v,I,rfl,j,r⟩;obtain⟨O,S,rfl⟩:=j.own.slice;have a0:=η j;have HB:=η r;have d:=N.o.ext r;have k0:w1.cell? ⟨w.heap.size,0,none⟩=some (.int .i64 0):=d.cell 0;have k1:w1.cell? ⟨w.heap.size,1,none⟩=some (.int .i64 0):=d.cell 1;have k2:w1.cell? ⟨w.heap.size,2,none⟩=some (.int .u64 0):=d.cell 2;have k3:w1.cell? ⟨w.heap.size,3,none⟩=some (.slice none 0 0):=d.cell 3;have f0:w1.frozen? ⟨w.heap.size,0,none⟩=false:=d.free 0;have f1:w1.frozen? ⟨w.heap.size,1,none⟩=false:=d.free 1;have f2:w1.frozen? ⟨w.heap.size,2,none⟩=false:=d.free 2;have f3:w1.frozen? ⟨w.heap.size,3,none⟩=false:=d.free 3;have HF:Hd (∀W,OffS (fun i=>i=w.heap.size) w1 W->OGr W w.heap.size 44 3 (.slice O st.m.L.length S) I st.m.L/\Ext w W):=η fun W U=>by
  rw[ρ] at j;refine⟨q4O (q8x j (Nat.le_succ _)) fun i J=>U.block i (z0C j i J).2 fun e=>?_,U.ext (q.o.trans r) fun i J=>by rw[J];exact ι _⟩;have:=(z0C j i J).1;omega
 clear j r d;go_wp2_with fail
 ((try simp only[Exit.inBlock,Exit.then]);refine bodyPost_ret (v:= .agg #[.int .i64 st.m.nx,.int .i64 st.m.ck,.int .u64 st.m.sd,.slice O st.m.L.length S]) (by rw[q0z rfl];go_simp) rfl ?_)
 have X:=HF.o _ ((((OffS.set (F:=fun i=>i=w.heap.size) w1 rfl 0 (.int .i64 st.m.nx)).trans (OffS.set (F:=fun i=>i=w.heap.size) _ rfl 1 (.int .i64 st.m.ck))).trans (OffS.set (F:=fun i=>i=w.heap.size) _ rfl 2 (.int .u64 st.m.sd))).trans (OffS.set (F:=fun i=>i=w.heap.size) _ rfl 3 (.slice O st.m.L.length S)));exact⟨_,I,rfl,X.1,X.2⟩
theorem y0O(h:IxK wb w g gx st σ K){e:En}(he:q3L e=true)(hl:st.w.length<50000):
  Calls Tryz.prog 87 #[.pointer (some ⟨gx,0,none⟩),enV e] w fun r w'=>r= .returned (.int .i64 0)/\IxK wb w' g gx {st with w:=q3R e st.w} σ K/\Stay K w w':=by
 obtain⟨F,gm,gt,Y,Z⟩:=h;have HF:=η Z;obtain⟨d,j,m⟩:=e;show Calls _ _ #[_,.agg #[.int .u64 d,.int .i64 j,.int .i64 m]] _ _;have J:=q0B w (.cells #[.int .u64 d,.int .i64 j,.int .i64 m] 159);have d0:=η J;have HN:=η (q8o (Z.i.x.ext J));have G:=Blk.new w 159 #[.int .u64 d,.int .i64 j,.int .i64 m];have k0:(w.alloc (.cells #[.int .u64 d,.int .i64 j,.int .i64 m] 159)).cell? ⟨w.heap.size,0,none⟩=some (.int .u64 d):=G.cell 0;have k1:(w.alloc (.cells #[.int .u64 d,.int .i64 j,.int .i64 m] 159)).cell? ⟨w.heap.size,1,none⟩=some (.int .i64 j):=G.cell 1;have k2:(w.alloc (.cells #[.int .u64 d,.int .i64 j,.int .i64 m] 159)).cell? ⟨w.heap.size,2,none⟩=some (.int .i64 m):=G.cell 2
 have S:Hd (∃N B,∀W,Calls Tryz.prog 139 #[.agg #[.int .u64 d,.int .i64 j,.int .i64 m]] W fun r w'=>r= .returned (.string ⟨(N::B:List UInt8).toArray⟩)/\Ext W w'):=η (by
  obtain⟨N,B,hB⟩: ∃N B,q3v (d,j,m)=N::B:=by
   have:=q2x (d,j,m)
   cases h:q3v (d,j,m) with
   |nil=>rw[h] at this;cases this
   |cons a l=>exact⟨a,l,rfl⟩
  exact⟨N,B,fun W=>hB▸z7p (d,j,m) W he⟩)
 obtain⟨N,B,hP⟩:=S.o;have HP:=η hP;obtain⟨I,v,vs,vm,D,nn,q⟩:=Z.i.x;have HI:=η q;have Q:=η I;have a0:=η (fun W (k:Ext w W)=>y0U (q.mem.ext k) I.mem he hl);have R:=η (I.mem.add he hl);clear Z J G S hP q I hl he;go_enter Tryz.func87,Tryz.ntmps87;go_wp2_with fail;refine HN.o.mono ?_;rintro e w1 ⟨rfl,rfl⟩;go_wp2_with fail;refine(HP.o _).mono ?_;rintro e w1 ⟨rfl,U⟩;have O:=η (d0.o.trans U);have p0:=q0A U k0;have p1:=q0A U k1;have p2:=q0A U k2;have c6:=(HI.o.ext O.o).c6;clear U k0 k1 k2;go_wp2_with fail
 go_still_tail 5,(by kernel_rfl)
 go_wp2_with fail;refine(a0.o _ O.o.drew).mono ?_;rintro e w2 ⟨X,rfl,hm,hv,y⟩;have e0:Hd (IxY w2 gx g gm gt {st with w:=q3R (d,j,m) st.w} (fun i=>Y i\/X.ownBlock=some i)):=η ⟨⟨Q.o.man,R.o,Q.o.c⟩,v,vs,X,D,nn,(HI.o.ext O.o.drew).memTurn hm y hv⟩
 have HT:=η ((HF.o.grow O.o.drew).turn e0.o (y.mono fun i _ q=> .inr (.inl q)) (fun i q=>by
  rcases q with q|q
  ·exact .inl q
  ·rcases hv with e|e
   ·exact .inl (HI.o.inY i (.inr (.inr (e▸q))))
   ·exact .inr (e i q)))
 have c0:=η (HF.o.kExt O.o.drew);clear hm hv y;go_wp2_with fail;go_ret;exact⟨rfl,⟨_,_,_,_,HT.o.1⟩,c0.o.trans HT.o.2⟩
end
end
section
open Go.RowKit Go.Maps
def Man.S(m:Man):List UInt8:=(q3G m.nx m.ck m.sd m.L).1
theorem z3L{c:Int}(h:c≠0):q1w c≠0:=by
 rcases z3M c with e|e<;>rw[e]
 ·exact h
 ·decide
theorem z7l{σ:DM}(h:q5N σ n=(none,e,τ)):e≠0:=by
 unfold q5N at h
 split at h
 ·next i=>injection h with _ d;injection d with d _;rw[<-d];exact z3L i
 ·split at h
  ·injection h with _ d;injection d with d _;rw[<-d];decide
  ·split at h
   ·injection h with _ d;injection d with d _;rw[<-d];decide
   ·injection h with i _;cases i
theorem z3t{σ:DM}{L:List En}(h:q5N σ n=(some L,e,τ)):e=0:=by
 unfold q5N at h
 split at h
 ·injection h with d _;cases d
 ·split at h
  ·injection h with d _;cases d
  ·split at h
   ·injection h with d _;cases d
   ·injection h with _ i;injection i with i _;exact i.symm
end
section
open Go.RowKit
abbrev Fls :=List UInt8->Option (List UInt8)
def z8l(φ:Fls)(nm:List UInt8):Fls:=fun x=>if x=nm then none else φ x
def Fl(σ:DM)(c s:Int)(φ:Fls)(u cnt:Nat):Prop:= ∃l,Pl σ c s l/\q3F Prod.fst l/\(∀nm,(q0F Prod.fst nm l).map Prod.snd=φ nm)/\q2Q l<=u/\l.length<=cnt
section
variable {σ :DM}{c s:Int}{l:List (List UInt8×List UInt8)}{nm t a b:List UInt8}{x:List UInt8×List UInt8}{φ:Fls}{u cnt:Nat}
theorem Pl.delete(h:Pl σ c s l)(i:q0F Prod.fst nm l=some x): ∃σ',q1R σ nm=(0,σ')/\Pl σ' c s (q2n Prod.fst nm l):=by
 obtain⟨f,d,rfl⟩:=h.find_some i;refine⟨{q2a σ with L:=q2n FM.nm nm σ.L},?_,h.up,h.fine,?_,h.cap,h.st⟩
 ·unfold q1R
  rw[κ (by rw[h.up];decide),d,κ (by simp),κ (by rw[h.no];decide)]
 ·rw[<-h.files]
  exact z2I (k:=FM.nm) (k':=Prod.fst) q7p nm σ.L
theorem Pl.deleteN(h:Pl σ c s l)(d:q0F Prod.fst nm l=none):q1R σ nm=(4,σ):=by
 unfold q1R;rw[κ (by rw[h.up];decide),h.find_none d,ξ (by simp)]
theorem q8g(nm:List UInt8)(l:List (List UInt8×List UInt8)):q0F Prod.fst nm (q2n Prod.fst nm l)=none:=q0V fun y d=>(mem_delN.1 d).2
theorem z4z{nm d:List UInt8}(l:List (List UInt8×List UInt8))(j:nm≠d):q0F Prod.fst nm (q2n Prod.fst d l)=q0F Prod.fst nm l:=by
 unfold q0F q2n;rw[List.find?_filter]
 congr 1
 funext y
 by_cases m:y.1=nm
 ·have i:(y.1==nm)=true:=by simpa using m
  have o:(y.1==d)=false:=by rw[m];simpa using j
  rw[i,o];rfl
 ·have i:(y.1==nm)=false:=by simpa using m
  rw[i];simp
theorem z6T(nm:List UInt8)(l:List (List UInt8×List UInt8)):q2Q (q2n Prod.fst nm l)<=q2Q l:=by
 unfold q2Q q5X q2n
 induction l with
 |nil=>exact ι _
 | cons y r ih=>
  rw[List.filter_cons]
  split
  ·simp only[List.map_cons,List.sum_cons];omega
  ·simp only[List.map_cons,List.sum_cons];omega
theorem z8n(nm:List UInt8)(l:List (List UInt8×List UInt8)):(q2n Prod.fst nm l).length<=l.length:=List.length_filter_le _ _
theorem Fl.find(j: ∀nm,(q0F Prod.fst nm l).map Prod.snd=φ nm)(h:φ nm=some t):q0F Prod.fst nm l=some (nm,t):=by
 have d:=j nm;rw[h] at d
 cases hf:q0F Prod.fst nm l with
 |none=>rw[hf] at d;cases d
 | some y=>
  rw[hf] at d;have i:=(q0M hf).2;injection d with d;rw[<-d,<-i]
theorem Fl.noFind(i: ∀nm,(q0F Prod.fst nm l).map Prod.snd=φ nm)(h:φ nm=none):q0F Prod.fst nm l=none:=by
 have d:=i nm;rw[h] at d
 cases hf:q0F Prod.fst nm l with
 |none=>rfl
 |some y=>rw[hf] at d;cases d
theorem Fl.cut(i: ∀nm,(q0F Prod.fst nm l).map Prod.snd=φ nm)(nm:List UInt8): ∀x,(q0F Prod.fst x (q2n Prod.fst nm l)).map Prod.snd=z8l φ nm x:=fun x=>by
 unfold z8l;by_cases d:x=nm
 ·subst d;rw[ξ rfl,q8g];rfl
 ·rw[κ d,z4z l d];exact i x
theorem Fl.up(h:Fl σ c s φ u cnt):σ.down=false:=by obtain⟨l,d,_⟩:=h;exact d.up
theorem Fl.mono(h:Fl σ c s φ u cnt)(q:u<=u')(r:cnt<=cnt'):Fl σ c s φ u' cnt':=by
 obtain⟨l,d,i,j,m,o⟩:=h;exact⟨l,d,i,j,by omega,by omega⟩
theorem Fl.tell(h:Fl σ c s φ u cnt):Fl (q2P σ) c s φ u cnt:=by
 obtain⟨l,d,i,j,m,o⟩:=h;exact⟨l,d.tell,i,j,m,o⟩
theorem Fl.tells : ∀(k:Nat) {σ:DM},Fl σ c s φ u cnt->Fl (tellN k σ) c s φ u cnt
 |0,_,h=>h
 |k+1,σ,h=>by rw[q1h];exact Fl.tells k h.tell
theorem Fl.del(h:Fl σ c s φ u cnt)(q:φ nm=some t): ∃σ',q1R σ nm=(0,σ')/\Fl σ' c s (z8l φ nm) u cnt:=by
 obtain⟨l,i,j,d,m,o⟩:=h;obtain⟨σ',e,p⟩:=i.delete (Fl.find d q);exact⟨σ',e,_,p,q8b j,Fl.cut d nm,Ω (z6T nm l) m,Ω (z8n nm l) o⟩
theorem Fl.wl(h:Fl σ c s φ u cnt){L:List En}(j:φ (q0E 116 n)=some (q8N L)):Wl σ n L:=by
 obtain⟨l,d,m,i,o,q⟩:=h;exact d.wl (Fl.find i j)
end
end
section
open Go.RowKit Go.Maps
theorem q9P{P:Program}{id:Nat}{Q:Exit->Act->World->Prop}{a:Act}{w:World}{l:List Oper}(n:Nat)(hm:P.follows .mixedOrders=true)(i:Region.lexTailB .any l.toArray n=true)
  (h:wpStill P l.toArray w.drew (fun d=>wpList P l.toArray Q (l.drop n) d w.drew) (l.take n) a):(Code.region id l.toArray true).wp P Q a w:=
 wp_region_still_tail n hm i h
section
variable {wb w w1 w2:World}{g gx gm gt:Nat}{st st1:IxSt}{F Y Y1 K K' V:Nat->Prop}{σ σ1:DM}
end
section
variable {wb w w1 w2:World}{g gx gm gt:Nat}{st st1:IxSt}{F Y Y1 K K' V:Nat->Prop}{σ σ1:DM}
end
def q3Q(st:IxSt)(h a b:Int):DM->List Int->List (List En)->List (List En)×Int×DM
 |σ,[],acc=>(acc,0,σ)
 | σ, n::ns,acc=>match st.t n with
  |none=>(acc,1,σ)
  | some e=>if (q2k σ n e.L e.may h a b).2.1≠0 then(acc,(q2k σ n e.L e.may h a b).2.1,(q2k σ n e.L e.may h a b).2.2)
   else q3Q st h a b (q2k σ n e.L e.may h a b).2.2 ns (acc++[(q2k σ n e.L e.may h a b).1])
def z8J(va v:Value)(vs:List Value)(i:Nat):Prop:=va.ownBlock=some i\/v.ownBlock=some i\/ ∃q,(vs.getD q (.slice none 0 0)).ownBlock=some i
theorem Tryz.infoLs :(Tryz.prog.info? 189).map (fun i=>(i.zero,i.size,i.bytes))=some (some (.slice none 0 0),1,24):=by kernel_rfl
structure LsW(wb w0 W:World)(g gx:Nat)(st:IxSt)(σ:DM)(K:Nat->Prop)(va v:Value)(vs:List Value)(ns:List Int)(acc:List (List En))(B:Nat):Prop where
 i:IxK wb W g gx st σ (fun i=>K i\/z8J va v vs i)
 all:Own W B 3 1 va ns.length (ns.map (Value.int .i64))
 ls:EGo W B v vs acc
 stay:Stay K w0 W
 base:w0.heap.size<=B/\B<=W.heap.size
 kl: ∀i,K i->i<w0.heap.size
 wbl:wb.heap.size<=w0.heap.size
section
variable {wb w0 w W W1 w1 w2:World}{g gx gm gt B:Nat}{st st1:IxSt}{F Y Y1 K K' V:Nat->Prop}{σ σ1:DM}{va v v1 v2:Value}{vs:List Value}{ns:List Int}{acc:List (List En)}{M:List En}
theorem LsW.grow(h:LsW wb w0 W g gx st σ K va v vs ns acc B)(k:Ext W W1):LsW wb w0 W1 g gx st σ K va v vs ns acc B:=
 ⟨h.i.grow k,h.all.ext k,h.ls.ext k,h.stay.trans fun i d=>h.i.kExt k i (.inl d),⟨h.base.1,Ω h.base.2 k.size⟩,h.kl,h.wbl⟩
theorem LsW.push(h:LsW wb w0 W g gx st σ K va v vs ns acc B)(I:IxK wb W1 g gx st σ1 (fun i=>(K i\/z8J va v vs i)\/v1.ownBlock=some i))(m:Stay (fun i=>K i\/z8J va v vs i) W W1)(hs:W.heap.size<=W1.heap.size)
  (hr:W1.ownsRow W.heap.size 159 3 v1 M.length (ecs M)){o:Obj}(j:w2.ownsRow B 189 1 v2 (acc.length+1) (vs++[v1]))(J:(W1.alloc o).grownBy w2 v.ownBlock)(N:v2.ownBlock=v.ownBlock\/v2.ownBlock=some (W1.alloc o).heap.size):
  LsW wb w0 w2 g gx st σ1 K va v2 (vs++[v1]) ns (acc++[M]) B:=by
 have hb:=h.base;have hx:=I.base;have Q:EGo (W1.alloc o) B v vs acc:=(h.ls.same (w':=W1) fun i d=>m i (.inr (.inr d))).ext (q0B _ _);have U:W1.heap.size<=w2.heap.size:=by have:=J.size;rw[ρ] at this;omega
 have O: ∀i,i<W1.heap.size->v.ownBlock≠some i->w2.heap[i]? =W1.heap[i]? :=fun i d R=>by
  rw[J.block i (by rw[ρ];omega) (fun e=>R e.symm),(q0B W1 o).block i d]
 have y: ∀i,z8J va v vs i->B<=i/\i<W.heap.size:=fun i d=>by
  rcases d with d|d
  ·exact h.all.lt i d
  ·exact h.ls.lt d
 have a0:va.ownBlock=none\/ ∃i,va.ownBlock=some i:=by cases h:va.ownBlock<;>simp
 have S: ∀i,va.ownBlock=some i->v.ownBlock≠some i:=fun i I h2=>by
  obtain⟨c1,e1⟩:=h.all.etype I;obtain⟨c2,r⟩:=q5R h.ls.own h2;rw[e1] at r;injection r with r;injection r with _ r _;revert r
  decide
 have X:Ext wb w2:=by
  have Z:Ext wb (W1.alloc o):=hx.trans (q0B _ _);refine Z.grown J Z.size fun i d=>?_
  have:=y i (.inr (.inl d));have:=h.wbl;omega
 have G:=Q.push (q0K hr (q0B W1 o)) (by omega) j J;refine⟨I.sideM U X (fun i d R=>O i d fun e=>R (.inl (.inr (.inr (.inl e))))) (fun i d=>?_),(h.all.same (w':=w2) fun i d=>?_),G,fun i d=>?_,⟨hb.1,by omega⟩,h.kl,h.wbl⟩
 ·rcases d with d|d|d|⟨q,d⟩
  ·exact .inl (.inl (.inl d))
  ·exact .inl (.inl (.inr (.inl d)))
  ·rcases N with e|e
   ·exact .inl (.inl (.inr (.inr (.inl (e▸d)))))
   ·rw[e,ρ] at d
    injection d with d;have:=(q0X j i (by rw[e,ρ,d])).2;exact .inr ⟨by omega,this⟩
  ·rw [q6k] at d
   split at d
   ·exact .inl (.inl (.inr (.inr (.inr ⟨q,d⟩))))
   ·split at d
    ·exact .inl (.inr d)
    ·cases d
 ·rw[O i (Ψ (h.all.lt i d).2 hs) (S i d),m i (.inr (.inl d))]
 ·rw[O i (Ψ (h.kl i d) (by omega)) fun e=>by have:=(y i (.inr (.inl e))).1;have:=h.kl i d;omega]
  exact(m i (.inl d)).trans (h.stay i d)
theorem z9U(w:World)(B:Nat)(d:B<=w.heap.size)(x:Value):(w.alloc (.cells #[x] 189)).ownsRow B 189 1 (.slice (some ⟨w.heap.size,0,none⟩) 1 1) 1 [x]:=
 ⟨rfl,.inr ⟨w.heap.size,1,#[x],rfl,d,Blk.new w _ _,ι _,by unfold maxLen;omega,rfl,rfl⟩⟩
def z0g(wb w:World)(g gx:Nat)(st:IxSt)(K:Nat->Prop)(R:List (List En)×Int×DM)(e:Ending)(w':World):Prop:=
 ∃v,e= .returned (.tuple #[v,.int .i64 R.2.1])/\IxK wb w' g gx st R.2.2 (fun i=>K i\/v.ownBlock=some i)/\Stay K w w'/\(R.2.1=0->w'.ownsRow w.heap.size 159 3 v (q2b R.1).length (ecs (q2b R.1)))
theorem z7X(h:IxK wb w g gx st σ K)(z0:st.full)(h' a b:Int){R:List (List En)×Int×DM}(hR:q3Q st h' (max a 0) (min b 1073741824) σ st.m.L.flatten [q0m st.w h' (max a 0) (min b 1073741824)]=R)
  (hs:R.2.1=0->(∀L∈R.1,q0s L)/\R.1.flatten.length<=1000000):
  Calls Tryz.prog 118 #[.pointer (some ⟨gx,0,none⟩),.int .u64 h',.int .i64 a,.int .i64 b] w (z0g wb w g gx st K R):=by
 obtain⟨A,hA⟩: ∃A,max a 0=A:=⟨_,rfl⟩
 obtain⟨B,hB⟩: ∃B,min b 1073741824=B:=⟨_,rfl⟩
 rw[hA,hB] at hR;have HK:=η h;obtain⟨F,gm,gt,Y,h1⟩:=h;have HN:=η (q8o h1.i.x);have m0:=h1.i.x.1;have L0:=Man.bounds m0.man;obtain⟨_,v,vs,vm,D,nn,d⟩:=h1.i.x;have c6:=d.c6;have I0:=η (z7f d.mem m0.mem h' A B);have HI:=η d;have f1:=η m0;have t0:=η L0;have HR:=η hR;have HS:=η hs;have HF:=η h1;clear d m0 L0 hR hs h1;go_enter Tryz.func118,Tryz.ntmps118;go_wp2_with fail;refine HN.o.mono ?_;rintro e w1 ⟨rfl,rfl⟩;go_wp2_with fail;refine I0.o.mono ?_;rintro e w1 ⟨v1,rfl,E0,k0⟩;obtain⟨a1,k1,rfl⟩:=q0H E0;have g0:=η E0;obtain⟨rn,o0⟩: ∃rn,(q0m st.w h' A B).length=rn:=⟨_,rfl⟩
 have Y0:=η o0;rw[o0] at g0;rw[o0];have X:=η (k0.trans (q0B w1 (.cells #[.slice a1 rn k1] 189)));have Z:=η (q0B w1 (.cells #[.slice a1 rn k1] 189));have q0:=η (z9U w1 w.heap.size k0.size (.slice a1 rn k1));obtain⟨av,kv,rfl,M0⟩:=HI.o.grid;have c4:=(HI.o.ext X.o).c4;have J:=η (z3H av st.m.L.length kv st.m.L _ (M0.ext X.o) (by have:=t0.o.2.1;omega));have j1:=k0.size;clear E0 k0 M0 o0 I0 c6;go_wp2_with fail;refine J.o.mono ?_;rintro e w2 ⟨va,rfl,y,O⟩;obtain⟨aa,ka,rfl⟩:=y.slice;have e1:w1.heap.size+1<=w2.heap.size:=by have:=O.size;rw[ρ] at this;exact this
 rw[ρ] at y;obtain⟨ns,d0⟩: ∃ns,st.m.L.flatten=ns:=⟨_,rfl⟩
 rw[d0] at y HR;have V0:=η d0
 have G0:Hd (LsW wb w w2 g gx st σ K (.slice aa ns.length ka) (.slice (some ⟨w1.heap.size,0,none⟩) 1 1) [.slice a1 rn k1] ns [q0m st.w h' A B] w.heap.size):=η ⟨HK.o.more (X.o.trans O) (fun i d=>by
   have h0:=Z.o.size;rw[ρ] at h0;rcases d with d|d|d|⟨q,d⟩
   ·exact .inl d
   ·have:=y.lt i d;exact .inr ⟨by omega,this.2⟩
   ·have l0:w1.heap.size=i:=by cases d;rfl
    exact .inr ⟨by omega,by omega⟩
   ·match q,d with
    |0,d=>have:=q0X g0.o i d;exact .inr ⟨this.1,by omega⟩
    |q+1,d=>simp[Value.ownBlock] at d),y.base (by omega),⟨q0K q0.o O,fun i=>by
   match i with
   |0=>simp only[List.getD_cons_zero];rw[Y0.o];exact q0w (q0K (q0K g0.o Z.o) O) (ι _)
   |i+1=>simpa [ecs] using World.ownsRow_nil w2 w.heap.size 159 3⟩,HK.o.kExt (X.o.trans O),⟨ι _,by omega⟩,fun i d=>by obtain⟨F,gm,gt,Y,q⟩:=HK.o;exact(q.k i d).1,HK.o.base.size⟩
 rw[d0];obtain⟨n,hn⟩: ∃n,ns.length=n:=⟨_,rfl⟩
 have f0:=η hn;have d1:n<=40:=by rw[<-hn,<-d0];exact t0.o.2.1
 rw[hn] at G0;rw[hn];clear y O d0 hn J q0 g0 X Z c4 HN;go_wp2_with fail;have l1:w.heap.size<=w2.heap.size:=by omega
 clear HI
 go_loopw [10,37] (fun lv i W=> ∃(k:Nat) (vs:List Value) (acc:List (List En)) (τ:DM),k<=n/\i= .int .i64 (k:Int)/\LsW wb w W g gx st τ K (.slice aa n ka) lv vs ns acc w.heap.size/\acc.length=k+1/\q3Q st h' A B τ (ns.drop k) acc=R) (fun _ i _=>n-(intOf i).toNat)
 case atStart=>exact⟨0,_,_,σ,υ _,rfl,G0.o,rfl,HR.o⟩
 case round =>
  obtain⟨k,F0,acc,τ,hk,rfl,C0,j0,j⟩:=hrel;have S:=η C0;have J:=η j0;have v0:=η j;obtain⟨al,kl,rfl,G⟩:=C0.ls.grid;rw[j0] at G S;rw[j0];clear C0 j0 j;by_cases D0:k<n
  ·have hd:decide ((k:Int)<(n:Int))=true:=ζ (by omega)
   have q1:IntKind.i64.wrap ((k:Int)+1)=(k:Int)+1:=by rw[ν];omega
   have q5:(k:Int)<(n:Int):=by omega
   obtain⟨_,_,ea,A0⟩:=q2r S.o.all;rw[f0.o] at ea
   cases ea;rw[f0.o] at A0;obtain⟨ba,oa,rfl,n0⟩:=A0.at D0;have B0:k<ns.length:=by rw[f0.o];exact D0
   have a0:ns.drop k=ns.getD k 0::ns.drop (k+1):=by
    rw[List.drop_eq_getElem_cons B0,δ,γ B0];rfl
   have c0:ns.getD k 0∈st.m.L.flatten:=by rw[V0.o];exact q3d ns k B0
   have j:=v0.o;rw[a0] at j;obtain⟨e,he⟩:=z0 _ c0;have c1:=(t0.o.2.2.2.1 _ c0).1;generalize ns.getD k 0=nk at*;rw[q3Q,he] at j;simp only at j;obtain⟨F2,g1,i1,Y2,h2⟩:=S.o.i;have x0:=η (z8H (h2.tb he) h' A B);have R0:=η h2;obtain⟨_,v2,p1,o1,D2,n1,l0⟩:=h2.i.x;have c7:=l0.c7;have N0:=l0.at c1 he;obtain⟨r,hr⟩: ∃r,q2k τ nk e.L e.may h' A B=r:=⟨_,rfl⟩
   rw[hr] at j x0;obtain⟨M,c,P0⟩:=r;simp only at j;have N:=η j;have T0:=η N0;clear A0 a0 c0 j h2 l0 hr G;go_wp2_with fail;refine x0.o.mono ?_;rintro e3 w3 ⟨v3,rfl,Q⟩;simp only at Q;obtain⟨a3,k3,rfl⟩:=q0H Q.row;obtain⟨⟨F3,h3⟩,s0⟩:=R0.o.row Q;have b1:=Q.off.size;have r0:=η Q.row;have u0:=η h3;have U:=η s0;clear Q h3 s0 x0 c7 T0 N0;by_cases hc:c=0
   case neg=>
    have g2:(c !=0)=true:=by simpa using hc
    have HE:Hd (z0g wb w g gx st K R (.returned (.tuple #[.slice none 0 0,.int .i64 c])) w3):=η (by
     have h:=N.o;rw[ξ hc] at h;rw[<-h]
     exact⟨_,rfl,⟨_,_,_,_,u0.o.beside fun i d=>by
      rcases d with d|d
      ·exact .inl (.inl d)
      ·cases d⟩,S.o.stay.trans fun i d=>U.o i (.inl d),fun e=>absurd e hc⟩)
    clear hc;go_wp2_with fail;go_ret2;exact HE.o
   case pos=>
   subst hc;have X0:Hd (q3Q st h' A B P0 (ns.drop (k+1)) (acc++[M])=R):=η (by have h:=N.o;rw[κ (fun h=>h rfl)] at h;exact h);obtain⟨M1,i0⟩: ∃M1,M.length=M1:=⟨_,rfl⟩
   have U0:=η i0;rw[i0] at u0 r0;rw[i0]
   have J0:Hd ((w3.alloc (.cells #[.slice a3 M1 k3] 189)).ownsRow w.heap.size 189 1 (.slice al (k+1) kl) (k+1) F0):=η (by
    have h:=(S.o.ls.same (w':=w3) fun i d=>U.o i (.inr (.inr d))).own;rw[J.o] at h
    exact q0K h (q0B _ _))
   have m1:=S.o.base.2;have O0:w.heap.size<=(w3.alloc (.cells #[.slice a3 M1 k3] 189)).heap.size:=by rw[ρ];omega
   have Z0:=η O0;clear N i0 O0
   go_wp2_with (at_builtin;refine q0P rfl (.tmp 57) (.tmp 59) 266 rfl w.heap.size 189 _ 1 24 Tryz.underlying266 Tryz.infoLs (by decide) (by decide) _ (k+1) F0 rfl J0.o _ 1 1 [.slice a3 M1 k3] rfl rfl (fun h=>by cases h) (Rd.lit _ _ _) (fun u hu=>by rw[List.mem_singleton.1 hu];rfl) (by unfold maxLen;omega) (by omega) Z0.o ?_;intro v4 w4 e0 b0 K0;obtain⟨a4,k4,rfl⟩:=q0H e0;have W0:=η e0;have S0:=η b0;have Q0:=η K0;clear e0 b0 K0)
   go_roundw
   case rel=>
    refine⟨k+1,F0++[.slice a3 M1 k3],acc++[M],P0,D0,by go_num,?_,by rw[θ,J.o];rfl,X0.o⟩;have hl:=S.o;exact hl.push (M:=M) ⟨_,_,_,_,u0.o⟩ U.o b1 (by rw[U0.o];exact r0.o) (by rw[J.o];exact W0.o) S0.o Q0.o
   case measure=>simp[intOf];omega
  ·obtain rfl:k=n:=by omega
   have hd:decide ((k:Int)<(k:Int))=false:=ε (by omega);have j:=v0.o;rw[List.drop_of_length_le (by rw[f0.o];exact ι _),q3Q] at j;have N:=η j;have p0:=HS.o (by rw[<-j]);rw[<-j] at p0;have H0:=η (z9M wr G (by omega) p0.2 p0.1);clear j p0 G;go_wp2_with fail;refine H0.o.mono ?_;rintro e w3 ⟨vU,rfl,I,y0⟩
   have HE:Hd (z0g wb w g gx st K R (.returned (.tuple #[vU,.int .i64 0])) w3):=η (by
    rw[<-N.o];refine⟨vU,rfl,S.o.i.more y0 (fun i d=>?_),S.o.stay.trans fun i d=>S.o.i.kExt y0 i (.inl d),fun _=>q0w I (S.o.base.2)⟩;rcases d with d|d
    ·exact .inl (.inl d)
    ·exact .inr (q0X I i d))
   obtain⟨aU,kU,rfl⟩:=q0H I;clear I y0 H0 N v0;go_wp2_with fail;go_ret2;exact HE.o
end
def q2i(st:IxSt)(h u:Int):DM->List Int->Int->Int×Int×DM
 |σ,[],out=>(out,0,σ)
 | σ, n::ns,out=>match st.t n with
  |none=>(-1,1,σ)
  | some e=>if (q2y σ n e.L e.may h u).2.2.1≠0 then(-1,(q2y σ n e.L e.may h u).2.2.1,(q2y σ n e.L e.may h u).2.2.2)
   else q2i st h u (q2y σ n e.L e.may h u).2.2.2 ns (if (q2y σ n e.L e.may h u).2.1 then max out (q2y σ n e.L e.may h u).1.2.1 else out)
def z4M(L:List En)(h u:Int):Int:=match q2q L h u with|some e=>e.2.1|none=> -1
section
variable {wb w0 w W W1 w1 w2:World}{g gx gm gt B:Nat}{st st1:IxSt}{F Y Y1 K K' V:Nat->Prop}{σ σ1:DM}{va v v1 v2:Value}{vs:List Value}{ns:List Int}{acc:List (List En)}{M:List En}
theorem LsW.step(h:LsW wb w0 W g gx st σ K va v vs ns acc B)(m:IxK wb W1 g gx st1 σ1 (fun i=>K i\/z8J va v vs i))(d:Stay (fun i=>K i\/z8J va v vs i) W W1)(o:W.heap.size<=W1.heap.size):LsW wb w0 W1 g gx st1 σ1 K va v vs ns acc B:=
 ⟨m,h.all.same fun i j=>d i (.inr (.inl j)),h.ls.same fun i j=>d i (.inr (.inr j)),h.stay.trans fun i j=>d i (.inl j),⟨h.base.1,Ω h.base.2 o⟩,h.kl,h.wbl⟩
theorem LsW.start(h:IxK wb w g gx st σ K)(m:Ext w W)(j:Own W w.heap.size 3 1 va ns.length (ns.map (Value.int .i64))):LsW wb w W g gx st σ K va (.slice none 0 0) [] ns [] w.heap.size:=
 ⟨h.more m (fun i d=>by
   rcases d with d|d|d|⟨q,d⟩
   ·exact .inl d
   ·exact .inr (j.lt i d)
   ·cases d
   ·simp[Value.ownBlock] at d),j,EGo.nil _ _,h.kExt m,⟨ι _,m.size⟩,fun i d=>by obtain⟨F,gm,gt,Y,q⟩:=h;exact(q.k i d).1,h.base.size⟩
theorem Own.base0{w:World}{B B':Nat}{e:TypeId}{size:Nat}{v:Value}{n:Nat}{cs:List Value}(h:Own w B e size v n cs)(k:B'<=B):Own w B' e size v n cs:=h.base k
theorem z9B(h:IxK wb w g gx st σ K)(q0:st.full)(N a:Int)(ha: -9223372036854775808<=a){R:Int×Int×DM}(hR:q2i st N (min a 1073741824) σ st.m.L.flatten (z4M st.w N (min a 1073741824))=R):
  Calls Tryz.prog 102 #[.pointer (some ⟨gx,0,none⟩),.int .u64 N,.int .i64 a] w fun e w'=>e= .returned (.tuple #[.int .i64 R.1,.int .i64 R.2.1])/\IxK wb w' g gx st R.2.2 K/\Stay K w w':=by
 obtain⟨B,hB⟩: ∃B,min a 1073741824=B:=⟨_,rfl⟩
 have F0: -9223372036854775808<=B:=by omega
 rw[hB] at hR;have HK:=η h;obtain⟨F,gm,gt,Y,h1⟩:=h;have HN:=η (q8o h1.i.x);have t0:=h1.i.x.1;have H0:=Man.bounds t0.man;obtain⟨_,v,vs,vm,D,nn,hi⟩:=h1.i.x;have c6:=hi.c6;have v0:=η (z9N hi.mem t0.mem N B);have x0:z4M st.w N B=if (q2q st.w N B).isSome then((q2q st.w N B).getD en0).2.1 else-1:=by unfold z4M;cases q2q st.w N B<;>rfl
 have K0: ∀x∈st.w,0<=x.2.1/\x.2.1<=9223372036854775807:=fun x hx=>by have:=t0.mem.ok x hx;unfold q3L at this;simp at this;omega
 have HI:=η hi;have Q0:=η t0;have l0:=η H0;rw[x0] at hR;generalize (q2q st.w N B).getD en0=y at*;generalize (q2q st.w N B).isSome=q at*;have HR:=η hR;obtain⟨y1,y2,y3⟩:=y;have v0:Hd (Calls Tryz.prog 155 #[.pointer (some ⟨gm,0,none⟩),.int .u64 N,.int .i64 B] w fun r w'=>r= .returned (.tuple #[.agg #[.int .u64 y1,.int .i64 y2,.int .i64 y3],.bool q])/\Ext w w'):=v0;clear hi t0 H0 hR h1 x0 K0;go_enter Tryz.func102,Tryz.ntmps102;go_wp2_with fail;refine HN.o.mono ?_;rintro e w1 ⟨rfl,rfl⟩;go_wp2_with fail;refine v0.o.mono ?_;rintro e w1 ⟨rfl,G0⟩;have a0:=η (G0.trans (q0B w1 (.cells #[.int .u64 y1,.int .i64 y2,.int .i64 y3] 159)));have c0:=Blk.new w1 159 #[.int .u64 y1,.int .i64 y2,.int .i64 y3];have k1:(w1.alloc (.cells #[.int .u64 y1,.int .i64 y2,.int .i64 y3] 159)).cell? ⟨w1.heap.size,1,none⟩=some (.int .i64 y2):=c0.cell 1;obtain⟨av,kv,rfl,I0⟩:=HI.o.grid;have c4:=(HI.o.ext a0.o).c4;have k0:=η (z3H av st.m.L.length kv st.m.L _ (I0.ext a0.o) (by have:=l0.o.2.1;omega));obtain⟨W0,D0⟩: ∃W0,w1.alloc (.cells #[.int .u64 y1,.int .i64 y2,.int .i64 y3] 159)=W0:=⟨_,rfl⟩
 rw[D0] at a0 k1 c4 k0;clear G0 I0 c0 v0 c6
 cases q with
 | false =>
  go_wp2_with fail;refine k0.o.mono ?_;rintro e w2 ⟨va,rfl,j,p0⟩;obtain⟨aa,ka,rfl⟩:=j.slice;have C0:=η (a0.o.trans p0);obtain⟨ns,U⟩: ∃ns,st.m.L.flatten=ns:=⟨_,rfl⟩
  have f0:=HR.o;rw[U] at j f0;have B0:=η f0;have A0:=η U;have m0:=η ((LsW.start HK.o (W:=w2) C0.o (va:= .slice aa ns.length ka) (j.base0 a0.o.size)));rw[U];obtain⟨n,hn⟩: ∃n,ns.length=n:=⟨_,rfl⟩
  have Z:=η hn;have J0:n<=40:=by rw[<-hn,<-U];exact l0.o.2.1
  rw[hn] at m0;rw[hn];clear j p0 U hn k0 a0 c4 HN HI f0 D0 k1;go_wp2_with fail
  go_loopw [8,40] (fun o i W=> ∃(k:Nat) (τ:DM) (oz:Int),k<=n/\i= .int .i64 (k:Int)/\o= .int .i64 oz/\LsW wb w W g gx st τ K (.slice aa n ka) (.slice none 0 0) [] ns [] w.heap.size/\q2i st N B τ (ns.drop k) oz=R) (fun _ i _=>n-(intOf i).toNat)
  case atStart=>exact⟨0,σ,_,υ _,rfl,rfl,m0.o,B0.o⟩
  case round=>
   obtain⟨k,τ,oz,hk,rfl,rfl,s0,d⟩:=hrel;have HL:=η s0;have o0:=η d;clear s0 d;by_cases b0:k<n
   ·have hd:decide ((k:Int)<(n:Int))=true:=ζ (by omega)
    have q1:IntKind.i64.wrap ((k:Int)+1)=(k:Int)+1:=by rw[ν];omega
    have q5:(k:Int)<(n:Int):=by omega
    obtain⟨_,_,ea,i0⟩:=q2r HL.o.all;rw[Z.o] at ea
    cases ea;rw[Z.o] at i0;obtain⟨ba,oa,rfl,n0⟩:=i0.at b0;have j0:k<ns.length:=by rw[Z.o];exact b0
    have Q:ns.drop k=ns.getD k 0::ns.drop (k+1):=by
     rw[List.drop_eq_getElem_cons j0,δ,γ j0];rfl
    have S:ns.getD k 0∈st.m.L.flatten:=by rw[A0.o];exact q3d ns k j0
    have d:=o0.o;rw[Q] at d;obtain⟨e,he⟩:=q0 _ S;have E0:=(l0.o.2.2.2.1 _ S).1;generalize ns.getD k 0=nk at*;rw[q2i,he] at d;simp only at d;obtain⟨F2,L0,M0,Y2,h2⟩:=HL.o.i;have J:=η (z6N (h2.tb he) N B F0);have y0:=η h2;obtain⟨_,v2,P0,O0,D2,N0,h0⟩:=h2.i.x;have c7:=h0.c7;have r0:=h0.at E0 he;obtain⟨r,hr⟩: ∃r,q2y τ nk e.L e.may N B=r:=⟨_,rfl⟩
    rw[hr] at d J;obtain⟨⟨z1,z2,z3⟩,u0,c,G⟩:=r;simp only at d;have J:Hd (Calls Tryz.prog 156 #[.pointer (some ⟨e.b,0,none⟩),.int .u64 N,.int .i64 B] wr fun e w'=>e= .returned (.tuple #[.agg #[.int .u64 z1,.int .i64 z2,.int .i64 z3],.bool u0,.int .i64 c])/\DkS wr g F2 G w'):=J;have I:=η d;have z0:=η r0;clear i0 Q S d h2 h0 hr;go_wp2_with fail;refine J.o.mono ?_;rintro e3 w3 ⟨rfl,g0⟩;obtain⟨h3,d0⟩:=y0.o.disk g0;have X:=η ((HL.o.step ⟨_,_,_,_,h3⟩ d0 g0.off.size).grow (q0B w3 (.cells #[.int .u64 z1,.int .i64 z2,.int .i64 z3] 159)));have c0:=Blk.new w3 159 #[.int .u64 z1,.int .i64 z2,.int .i64 z3];have k1:(w3.alloc (.cells #[.int .u64 z1,.int .i64 z2,.int .i64 z3] 159)).cell? ⟨w3.heap.size,1,none⟩=some (.int .i64 z2):=c0.cell 1;clear g0 h3 d0 J c7 z0 r0 c0;by_cases hc:c=0
    case neg=>
     have g2:(c !=0)=true:=by simpa using hc
     have HE:Hd (R=(-1,c,G)):=η (by
      have h:=I.o;rw[ξ hc] at h
      exact h.symm)
     clear hc;go_wp2_with fail;go_ret2;rw[HE.o];exact⟨rfl,X.o.i.beside fun i hi=> .inl hi,X.o.stay⟩
    case pos=>
    subst hc
    cases u0 with
    | false=>
     have e0:Hd (q2i st N B G (ns.drop (k+1)) oz=R):=η (by have h:=I.o;rw[κ (fun h=>h rfl),κ (by decide)] at h;exact h);clear I;go_wp2_with fail
     go_roundw
     case rel=>exact⟨k+1,G,oz,b0,by go_num,rfl,X.o,e0.o⟩
     case measure=>simp[intOf];omega
    | true=>
     obtain⟨O,hO⟩: ∃O,max oz z2=O:=⟨_,rfl⟩
     have e0:Hd (q2i st N B G (ns.drop (k+1)) O=R):=η (by have h:=I.o;rw[κ (fun h=>h rfl),ξ rfl,hO] at h;exact h);clear I;go_wp2_with fail
     go_roundw
     case rel=>exact⟨k+1,G,O,b0,by go_num,rfl,X.o,e0.o⟩
     case measure=>simp[intOf];omega
   ·obtain rfl:k=n:=by omega
    have hd:decide ((k:Int)<(k:Int))=false:=ε (by omega);have d:=o0.o;rw[List.drop_of_length_le (by rw[Z.o];exact ι _),q2i] at d;have HE:=η d;clear d;go_wp2_with fail;go_ret2;rw[<-HE.o];exact⟨rfl,HL.o.i.beside fun i hi=> .inl hi,HL.o.stay⟩
 | true =>
  go_wp2_with fail;refine k0.o.mono ?_;rintro e w2 ⟨va,rfl,j,p0⟩;obtain⟨aa,ka,rfl⟩:=j.slice;have C0:=η (a0.o.trans p0);obtain⟨ns,U⟩: ∃ns,st.m.L.flatten=ns:=⟨_,rfl⟩
  have f0:=HR.o;rw[U] at j f0;have B0:=η f0;have A0:=η U;have m0:=η ((LsW.start HK.o (W:=w2) C0.o (va:= .slice aa ns.length ka) (j.base0 a0.o.size)));rw[U];obtain⟨n,hn⟩: ∃n,ns.length=n:=⟨_,rfl⟩
  have Z:=η hn;have J0:n<=40:=by rw[<-hn,<-U];exact l0.o.2.1
  rw[hn] at m0;rw[hn];clear j p0 U hn k0 a0 c4 HN HI f0 D0 k1;go_wp2_with fail
  go_loopw [8,40] (fun o i W=> ∃(k:Nat) (τ:DM) (oz:Int),k<=n/\i= .int .i64 (k:Int)/\o= .int .i64 oz/\LsW wb w W g gx st τ K (.slice aa n ka) (.slice none 0 0) [] ns [] w.heap.size/\q2i st N B τ (ns.drop k) oz=R) (fun _ i _=>n-(intOf i).toNat)
  case atStart=>exact⟨0,σ,_,υ _,rfl,rfl,m0.o,B0.o⟩
  case round=>
   obtain⟨k,τ,oz,hk,rfl,rfl,s0,d⟩:=hrel;have HL:=η s0;have o0:=η d;clear s0 d;by_cases b0:k<n
   ·have hd:decide ((k:Int)<(n:Int))=true:=ζ (by omega)
    have q1:IntKind.i64.wrap ((k:Int)+1)=(k:Int)+1:=by rw[ν];omega
    have q5:(k:Int)<(n:Int):=by omega
    obtain⟨_,_,ea,i0⟩:=q2r HL.o.all;rw[Z.o] at ea
    cases ea;rw[Z.o] at i0;obtain⟨ba,oa,rfl,n0⟩:=i0.at b0;have j0:k<ns.length:=by rw[Z.o];exact b0
    have Q:ns.drop k=ns.getD k 0::ns.drop (k+1):=by
     rw[List.drop_eq_getElem_cons j0,δ,γ j0];rfl
    have S:ns.getD k 0∈st.m.L.flatten:=by rw[A0.o];exact q3d ns k j0
    have d:=o0.o;rw[Q] at d;obtain⟨e,he⟩:=q0 _ S;have E0:=(l0.o.2.2.2.1 _ S).1;generalize ns.getD k 0=nk at*;rw[q2i,he] at d;simp only at d;obtain⟨F2,L0,M0,Y2,h2⟩:=HL.o.i;have J:=η (z6N (h2.tb he) N B F0);have y0:=η h2;obtain⟨_,v2,P0,O0,D2,N0,h0⟩:=h2.i.x;have c7:=h0.c7;have r0:=h0.at E0 he;obtain⟨r,hr⟩: ∃r,q2y τ nk e.L e.may N B=r:=⟨_,rfl⟩
    rw[hr] at d J;obtain⟨⟨z1,z2,z3⟩,u0,c,G⟩:=r;simp only at d;have J:Hd (Calls Tryz.prog 156 #[.pointer (some ⟨e.b,0,none⟩),.int .u64 N,.int .i64 B] wr fun e w'=>e= .returned (.tuple #[.agg #[.int .u64 z1,.int .i64 z2,.int .i64 z3],.bool u0,.int .i64 c])/\DkS wr g F2 G w'):=J;have I:=η d;have z0:=η r0;clear i0 Q S d h2 h0 hr;go_wp2_with fail;refine J.o.mono ?_;rintro e3 w3 ⟨rfl,g0⟩;obtain⟨h3,d0⟩:=y0.o.disk g0;have X:=η ((HL.o.step ⟨_,_,_,_,h3⟩ d0 g0.off.size).grow (q0B w3 (.cells #[.int .u64 z1,.int .i64 z2,.int .i64 z3] 159)));have c0:=Blk.new w3 159 #[.int .u64 z1,.int .i64 z2,.int .i64 z3];have k1:(w3.alloc (.cells #[.int .u64 z1,.int .i64 z2,.int .i64 z3] 159)).cell? ⟨w3.heap.size,1,none⟩=some (.int .i64 z2):=c0.cell 1;clear g0 h3 d0 J c7 z0 r0 c0;by_cases hc:c=0
    case neg=>
     have g2:(c !=0)=true:=by simpa using hc
     have HE:Hd (R=(-1,c,G)):=η (by
      have h:=I.o;rw[ξ hc] at h
      exact h.symm)
     clear hc;go_wp2_with fail;go_ret2;rw[HE.o];exact⟨rfl,X.o.i.beside fun i hi=> .inl hi,X.o.stay⟩
    case pos=>
    subst hc
    cases u0 with
    | false=>
     have e0:Hd (q2i st N B G (ns.drop (k+1)) oz=R):=η (by have h:=I.o;rw[κ (fun h=>h rfl),κ (by decide)] at h;exact h);clear I;go_wp2_with fail
     go_roundw
     case rel=>exact⟨k+1,G,oz,b0,by go_num,rfl,X.o,e0.o⟩
     case measure=>simp[intOf];omega
    | true=>
     obtain⟨O,hO⟩: ∃O,max oz z2=O:=⟨_,rfl⟩
     have e0:Hd (q2i st N B G (ns.drop (k+1)) O=R):=η (by have h:=I.o;rw[κ (fun h=>h rfl),ξ rfl,hO] at h;exact h);clear I;go_wp2_with fail
     go_roundw
     case rel=>exact⟨k+1,G,O,b0,by go_num,rfl,X.o,e0.o⟩
     case measure=>simp[intOf];omega
   ·obtain rfl:k=n:=by omega
    have hd:decide ((k:Int)<(k:Int))=false:=ε (by omega);have d:=o0.o;rw[List.drop_of_length_le (by rw[Z.o];exact ι _),q2i] at d;have HE:=η d;clear d;go_wp2_with fail;go_ret2;rw[<-HE.o];exact⟨rfl,HL.o.i.beside fun i hi=> .inl hi,HL.o.stay⟩
end
section
variable {wb w0 w W W1 w1 w2:World}{g gx gm gt B:Nat}{st st1:IxSt}{F Y Y1 K K' V T:Nat->Prop}{σ σ1:DM}{va v v1 v2 vm:Value}{vs:List Value}{ns:List Int}{acc:List (List En)}{M L:List En}
end
end
section
open Go.RowKit
theorem q9H : ∀{a b:List En},q0s a->q0s b->(∀x∈a,x∈b)->a.Sublist b
 |[],b,_,_,_=>List.nil_sublist b
 |x::a,[],_,_,h=>absurd (h x (.head _)) (by simp)
 | x :: a,y::b,ha,hb,h=>by
  obtain⟨m,I⟩:=List.pairwise_cons.1 ha;obtain⟨J,o⟩:=List.pairwise_cons.1 hb;rcases List.mem_cons.1 (h x (.head _)) with e|r
  ·subst e
   refine(q9H I o fun z i=>?_).cons_cons x;rcases List.mem_cons.1 (h z (.tail _ i)) with e|d
   ·have:=m z i
    rw[e,q0Z] at this;cases this
   ·exact d
  ·refine(q9H ha o fun z i=>?_).cons y
   rcases List.mem_cons.1 (h z i) with e|d
   ·rcases List.mem_cons.1 i with G|j
    ·rw[G];exact r
    ·have q:=m z j
     have N:=J x r;rw[e] at q;have:=q1K q N;rw[q0Z] at this;cases this
   ·exact d
theorem q4J{a b:List En}(d:q0s a)(i:q0s b)(h: ∀x∈a,x∈b):a.length<=b.length:=(q9H d i h).length_le
def TL(st:IxSt)(n:Int):List En:=match st.t n with|some e=>e.L|none=>[]
theorem q3N{st:IxSt}{e:TE}(h:st.t n=some e):TL st n=e.L:=by unfold TL;rw[h]
structure PInv(st:IxSt)(σ:DM)(c s:Int)(φ:Fls)(u cnt:Nat)(B:List En):Prop where
 fl:Fl σ c s φ u cnt
 man:st.m.ok
 full:st.full
 tb: ∀n e,st.t n=some e->n∈st.m.L.flatten/\φ (q0E 116 n)=some (q8N e.L)/\(∃y,φ (q0E 98 n)=some y)/\okM e.L/\ ∀x∈e.L,e.may x.1=true
 only: ∀nm,φ nm≠none->nm=mapN\/(∃n∈st.m.L.flatten,nm=q0E 116 n\/nm=q0E 98 n)\/ ∃k:Nat,k<=999999/\nm=q0E 99 (k:Int)
 okw:okM st.w
 okB:okM B
 mem: ∀x,x∈B↔x∈st.w\/ ∃n e,st.t n=some e/\x∈e.L
section
variable {st :IxSt}{σ σ':DM}{c s:Int}{φ:Fls}{u cnt:Nat}{B:List En}
theorem PInv.range(h:PInv st σ c s φ u cnt B)(i:n∈st.m.L.flatten):0<=n/\n<=999999/\n<st.m.nx:=by
 have d:=Man.bounds h.man;have:=d.2.2.2.1 n i;omega
theorem PInv.tell(h:PInv st σ c s φ u cnt B)(k:Nat):PInv st (tellN k σ) c s φ u cnt B:=⟨Fl.tells k h.fl,h.man,h.full,h.tb,h.only,h.okw,h.okB,h.mem⟩
theorem PInv.mono(h:PInv st σ c s φ u cnt B)(d:u<=u')(i:cnt<=cnt'):PInv st σ c s φ u' cnt' B:=⟨h.fl.mono d i,h.man,h.full,h.tb,h.only,h.okw,h.okB,h.mem⟩
theorem PInv.wlen(h:PInv st σ c s φ u cnt B):st.w.length<=B.length:=q4J h.okw.sort h.okB.sort fun x d=>(h.mem x).2 (.inl d)
theorem PInv.tlen(h:PInv st σ c s φ u cnt B){e:TE}(he:st.t n=some e):e.L.length<=B.length:=q4J (h.tb n e he).2.2.2.1.sort h.okB.sort fun x d=>(h.mem x).2 (.inr ⟨n,e,he,d⟩)
theorem PInv.wl(h:PInv st σ c s φ u cnt B){e:TE}(he:st.t n=some e):Wl σ n e.L:=h.fl.wl (h.tb n e he).2.1
theorem PInv.add(h:PInv st σ c s φ u cnt B){x:En}(i:q3L x=true)(j:B.length<50000):PInv {st with w:=q3R x st.w} σ c s φ u cnt (q3R x B):=by
 have m:=h.wlen;refine⟨h.fl,h.man,h.full,h.tb,h.only,h.okw.add i (by omega),h.okB.add i j,fun y=>?_⟩;show y∈q3R x B↔y∈q3R x st.w\/_;rw[mem_addE,mem_addE,h.mem y]
 constructor
 ·rintro(d|d|d)
  ·exact .inl (.inl d)
  ·exact .inl (.inr d)
  ·exact .inr d
 ·rintro((d|d)|d)
  ·exact .inl d
  ·exact .inr (.inl d)
  ·exact .inr (.inr d)
theorem z0K(h:PInv st σ c s φ u cnt B)(x a b:Int): ∀(ns:List Int) (acc:List (List En)) (k0:Nat),(∀n∈ns,n∈st.m.L.flatten)->
  ∃k,q3Q st x (max a 0) (min b 1073741824) (tellN k0 σ) ns acc=(acc++ns.map (fun n=>q0m (TL st n) x (max a 0) (min b 1073741824)),0,tellN k σ)
 |[],acc,k0,_=>⟨k0,by rw[q3Q];simp⟩
 | n::ns,acc,k0,hn=>by
  obtain⟨e,he⟩:=h.full n (hn n (by simp));have d:=h.tb n e he;obtain⟨k,_,_,i⟩:=z5s ((h.wl he).tellN k0) d.2.2.2.1.sort d.2.2.2.1.ok d.2.2.2.2 x (max a 0) (min b 1073741824);rw[show max (max a 0) 0=max a 0 by omega,show min (min b 1073741824) 1073741824=min b 1073741824 by omega,q3D] at i;obtain⟨q,j⟩:=z0K h x a b ns (acc++[q0m e.L x (max a 0) (min b 1073741824)]) (k0+k) (fun y o=>hn y (by simp[o]));refine⟨q,?_⟩;rw[q3Q,he];simp only;rw[i];simp only;rw[κ (fun h=>h rfl),j,List.map_cons,q3N he,List.append_assoc]
  rfl
theorem mem_range{L:List En}{x a b:Int}{y:En}:y∈q0m L x a b↔y∈L/\y.1=x/\a<=y.2.1/\y.2.1<=b:=by
 unfold q0m;rw[List.mem_filter];simp only[Ξ,Φ]
 constructor
 ·rintro⟨d,⟨i,j⟩,m⟩;exact⟨d,i,j,m⟩
 ·rintro⟨d,i,j,m⟩;exact⟨d,⟨i,j⟩,m⟩
theorem q4P{L:List En}(h:q0s L)(x a b:Int):q0s (q0m L x a b):=h.filter _
theorem z9f(h:PInv st σ c s φ u cnt B)(n:Int):q0s (TL st n)/\(∀x∈TL st n,q3L x=true)/\(TL st n).length<=B.length:=by
 unfold TL
 cases he:st.t n with
 |none=>exact⟨List.Pairwise.nil,fun x d=>by simp at d,υ _⟩
 |some e=>exact⟨(h.tb n e he).2.2.2.1.sort,(h.tb n e he).2.2.2.1.ok,h.tlen he⟩
theorem z7M{L:List (List En)}(h: ∀l∈L,l.length<=k):L.flatten.length<=L.length*k:=by
 induction L with
 |nil=>simp
 | cons a r ih=>
  rw[List.flatten_cons,θ,χ,Nat.add_mul];have i:=h a (by simp);have j:=ih fun l d=>h l (by simp[d])
  omega
theorem PInv.rangeIs(h:PInv st σ c s φ u cnt B)(x a b:Int): ∃k R,q3Q st x (max a 0) (min b 1073741824) σ st.m.L.flatten [q0m st.w x (max a 0) (min b 1073741824)]=(R,0,tellN k σ)/\(∀L∈R,q0s L)/\R.flatten.length<=41*B.length/\q2b R=q0m B x (max a 0) (min b 1073741824):=by
 obtain⟨k,e⟩:=z0K h x a b st.m.L.flatten [q0m st.w x (max a 0) (min b 1073741824)] 0 (fun n o=>o);have r: ∀L∈[q0m st.w x (max a 0) (min b 1073741824)]++st.m.L.flatten.map (fun n=>q0m (TL st n) x (max a 0) (min b 1073741824)),q0s L/\L.length<=B.length:=fun L d=>by
  rcases List.mem_append.1 d with d|d
  ·rw[List.mem_singleton.1 d]
   exact⟨q4P h.okw.sort _ _ _,Ω (List.length_filter_le _ _) h.wlen⟩
  ·obtain⟨n,o,rfl⟩:=List.mem_map.1 d
   have:=z9f h n;exact⟨q4P this.1 _ _ _,Ω (List.length_filter_le _ _) this.2.2⟩
 refine⟨k,_,e,fun L d=>(r L d).1,?_,?_⟩
 ·have j:=z7M fun l G=>(r l G).2
  rw[θ,List.length_map] at j;have q:=(Man.bounds h.man).2.1;simp only[χ,List.length_nil] at j;have:(0+1+st.m.L.flatten.length)*B.length<=41*B.length:=Nat.mul_le_mul_right _ (by omega);omega
 ·refine q5h (q4X _) (q4P h.okB.sort _ _ _) fun y=>?_
  rw[mem_union,mem_range,h.mem y]
  constructor
  ·rintro⟨L,d,i⟩
   rcases List.mem_append.1 d with d|d
   ·rw[List.mem_singleton.1 d,mem_range] at i
    exact⟨.inl i.1,i.2⟩
   ·obtain⟨n,o,rfl⟩:=List.mem_map.1 d
    rw[mem_range] at i;obtain⟨e,he⟩:=h.full n o;rw[q3N he] at i;exact⟨.inr ⟨n,e,he,i.1⟩,i.2⟩
  ·rintro⟨j|⟨n,e,he,j⟩,q⟩
   ·exact⟨_,List.mem_append.2 (.inl (List.mem_singleton.2 rfl)),mem_range.2 ⟨j,q⟩⟩
   ·exact⟨_,List.mem_append.2 (.inr (List.mem_map.2 ⟨n,(h.tb n e he).1,rfl⟩)),mem_range.2 ⟨by rw[q3N he];exact j,q⟩⟩
end
theorem z7h{c i:UInt8}(hc:q1n c=true)(j:q1n i=true){m:Int}(q:0<=n/\n<=999999)(hm:0<=m/\m<=999999)(h:q0E c n=q0E i m):c=i/\n=m:=by
 have d:=q1u hc q;rw[h,q1u j hm] at d;injection d with d o;injection o with o _;exact⟨d.symm,by omega⟩
theorem y0T :q1n 116=true:=by decide
theorem y2C :q1n 98=true:=by decide
theorem y1m :q1n 99=true:=by decide
theorem q3V(d:k<=999999):q0E 99 (k:Int)≠mapN/\q0E 99 (k:Int)≠z3n:=by
 rw[q0W (by omega)];exact⟨fun e=>absurd (List.cons.inj e).1 (by decide),fun e=>absurd (List.cons.inj e).1 (by decide)⟩
theorem z2g{c:UInt8}(hc:c=116\/c=98)(d:0<=n/\n<=999999):q0E c n≠mapN/\q0E c n≠z3n:=by
 rw[q0W d];rcases hc with rfl|rfl
 ·exact⟨fun e=>absurd (List.cons.inj e).1 (by decide),fun e=>absurd (List.cons.inj e).1 (by decide)⟩
 ·exact⟨fun e=>absurd (List.cons.inj e).1 (by decide),fun e=>absurd (List.cons.inj e).1 (by decide)⟩
section
variable {st :IxSt}{σ σ':DM}{c s:Int}{φ:Fls}{u cnt:Nat}{B:List En}
theorem PInv.noNew(h:PInv st σ c s φ u cnt B):φ z3n=none:=by
 cases he:φ z3n with
 |none=>rfl
 | some y=>
  exfalso
  rcases h.only z3n (by rw[he];simp) with e|⟨m,hm,e|e⟩|⟨k,d,e⟩
  ·exact z3o e
  ·have i:=h.range hm
   exact(z2g (.inl rfl) (show 0<=m/\m<=999999 by omega)).2 e.symm
  ·have i:=h.range hm
   exact(z2g (.inr rfl) (show 0<=m/\m<=999999 by omega)).2 e.symm
  ·exact(q3V d).2 e.symm
end
section
variable {st :IxSt}{σ σ':DM}{c s:Int}{φ:Fls}{u cnt:Nat}{B:List En}
theorem PInv.unionLe(h:PInv st σ c s φ u cnt B)(ns:List Int):okM (q2b (ns.map (TL st)))/\(q2b (ns.map (TL st))).length<=B.length/\ ∀x∈q2b (ns.map (TL st)),x∈B:=by
 have hm: ∀x∈q2b (ns.map (TL st)),x∈B:=fun x i=>by
  obtain⟨L,j,d⟩:=mem_union.1 i;obtain⟨n,o,rfl⟩:=List.mem_map.1 j;unfold TL at d
  cases he:st.t n with
  |none=>rw[he] at d;simp at d
  |some e=>rw[he] at d;exact(h.mem x).2 (.inr ⟨n,e,he,d⟩)
 have m:=q4J (q4X (ns.map (TL st))) h.okB.sort hm;exact⟨⟨q4X _,fun x i=>h.okB.ok x (hm x i),by have:=h.okB.len;omega⟩,m,hm⟩
def z1v(B:List En)(x u r:Int):Prop:=(∀y∈B,y.1=x->y.2.1<=u->y.2.1<=r)/\((r= -1)\/ ∃y∈B,y.1=x/\y.2.1<=u/\y.2.1=r)
theorem q6H{L:List En}(N:q0s L)(x u:Int):z1v L x u (z4M L x u):=by
 unfold z4M q2q
 cases hl:(L.filter (inE x u)).getLast? with
 | none=>
  have:=List.getLast?_eq_none_iff.1 hl;refine⟨fun y I m o=>?_,.inl rfl⟩;have:y∈L.filter (inE x u):=List.mem_filter.2 ⟨I,by unfold inE;simp[m,o]⟩;rw[List.getLast?_eq_none_iff.1 hl] at this
  cases this
 | some e=>
  have G:=List.mem_of_getLast? hl;obtain⟨O,j⟩:=List.mem_filter.1 G;unfold inE at j;simp only[Ξ,Φ] at j;refine⟨fun y I m o=>?_,.inr ⟨e,O,j.1,j.2,rfl⟩⟩;have i:y∈L.filter (inE x u):=List.mem_filter.2 ⟨I,by unfold inE;simp[m,o]⟩;have d:q0s (L.filter (inE x u)):=N.filter _;obtain⟨l,r⟩:=List.getLast?_eq_some_iff.1 hl;rw[r] at i d;rcases List.mem_append.1 i with q|q
  ·have J:=(List.pairwise_append.1 d).2.2 y q e (by simp)
   rw[lessE_iff] at J;show y.2.1<=e.2.1;omega
  ·rw[List.mem_singleton.1 q];exact Int.le_refl _
end
structure To where
 s:List UInt8
 v:Int
 e:Ev
def to0 :To:=⟨[],0,ev0⟩
def q8A(s:List UInt8):Nat->List Ev->List To
 |_,[]=>[]
 |i,e::r=>⟨s,(i:Int),e⟩::q8A s (i+1) r
def y1b(b:Bt):List To:=q8A b.st b.fi b.ev
def tos(bs:List Bt):List To:=(bs.map y1b).flatten
def q0S(bs:List Bt)(s:List UInt8):List Ev:=((bs.filter fun b=>decide (b.st=s)).map Bt.ev).flatten
def q4n(bs:List Bt)(s:List UInt8):List To:=q8A s 0 (q0S bs s)
def okBs(bs:List Bt):Prop:= ∀l b r,bs=l++b::r->z4L b/\b.fi=(q0S l b.st).length
theorem q9G{P:List α->Prop}(h0:P [])(h1: ∀l a,P l->P (l++[a]))(l:List α):P l:=by
 have h : ∀n,∀l:List α,l.length=n->P l:=fun n=>by
  induction n with
  |zero=>intro l hl;rw[List.length_eq_zero_iff.1 hl];exact h0
  | succ n ih=>
   intro l hl;rcases List.eq_nil_or_concat l with e|⟨m,a,e⟩
   ·rw[e] at hl;simp at hl
   ·rw[List.concat_eq_append] at e
    subst e;exact h1 m a (ih m (by simpa using hl))
 exact h _ l rfl
theorem q1p(s:List UInt8): ∀(L:List Ev) (i:Nat),(q8A s i L).length=L.length
 |[],_=>rfl
 |e::r,i=>by rw[q8A,χ,q1p s r,χ]
theorem q7A(s:List UInt8): ∀(a b:List Ev) (i:Nat),q8A s i (a++b)=q8A s i a++q8A s (i+a.length) b
 |[],b,i=>rfl
 | e::r,b,i=>by
  rw[List.cons_append,q8A,q7A s r b,q8A,List.cons_append,χ]
  congr 3;omega
theorem numT_mem{s:List UInt8}{t:To}: ∀{L:List Ev} {i:Nat},t∈q8A s i L↔ ∃k,k<L.length/\t=⟨s,((i+k:Nat):Int),L.getD k ev0⟩
 |[],i=>by simp[q8A]
 | e ::r,i=>by
  rw[q8A,List.mem_cons,numT_mem]
  constructor
  ·rintro(h|⟨k,j,d⟩)
   ·exact⟨0,by simp,by rw[h];rfl⟩
   ·exact⟨k+1,by simpa using j,by rw[d,List.getD_cons_succ];congr 2;omega⟩
  ·rintro⟨k,j,d⟩
   cases k with
   |zero=>exact .inl d
   |succ k=>exact .inr ⟨k,by simpa using j,by rw[d,List.getD_cons_succ];congr 2;omega⟩
theorem q7B(s:List UInt8): ∀(L:List Ev) (i k:Nat),k<L.length->(q8A s i L).getD k to0=⟨s,((i+k:Nat):Int),L.getD k ev0⟩
 |[],i,k,h=>by simp at h
 |e::r,i,0,_=>rfl
 | e::r,i,k+1,h=>by
  rw[q8A,List.getD_cons_succ,q7B s r _ k (by simpa using h),List.getD_cons_succ]
  congr 2;omega
theorem q5e(s:List UInt8)(a b:Int): ∀(L:List Ev) (i:Nat),(q8A s i L).filter (fun t=>decide (a<=t.v/\t.v<=b))=((q8A s i L).drop (a-(i:Int)).toNat).take ((b+1-(i:Int)).toNat-(a-(i:Int)).toNat)
 |[],i=>by simp[q8A]
 | e ::r,i=>by
  have d:=q5e s a b r (i+1);rw[q8A];by_cases o:a<=(i:Int)
  ·have j:(a-(i:Int)).toNat=0:=by omega
   have m:(a-((i+1:Nat):Int)).toNat=0:=by omega
   rw[j,List.drop_zero,Nat.sub_zero];rw[m,List.drop_zero,Nat.sub_zero] at d;by_cases q:(i:Int)<=b
   ·rw[List.filter_cons_of_pos (by simp;omega),d,show(b+1-(i:Int)).toNat=(b+1-((i+1:Nat):Int)).toNat+1 by omega,List.take_succ_cons]
   ·rw[List.filter_cons_of_neg (by simp;omega),d,show(b+1-(i:Int)).toNat=0 by omega,show(b+1-((i+1:Nat):Int)).toNat=0 by omega,List.take_zero,List.take_zero]
  ·have j:(a-(i:Int)).toNat=(a-((i+1:Nat):Int)).toNat+1:=by omega
   rw[List.filter_cons_of_neg (by simp;omega),d,j,List.drop_succ_cons]
   congr 1
   omega
theorem z5c(s:List UInt8): ∀(L:List Ev) (i:Nat),(q8A s i L).Pairwise fun x y=>x.v<y.v
 |[],_=>List.Pairwise.nil
 | e ::r,i=>List.pairwise_cons.2 ⟨fun t d=>by
   obtain⟨k,_,rfl⟩:=numT_mem.1 d
   simp only;omega,z5c s r _⟩
theorem q4W(a b:List Bt):tos (a++b)=tos a++tos b:=by unfold tos;rw[List.map_append,List.flatten_append]
theorem q9I(b:Bt):tos [b]=y1b b:=by unfold tos;simp
theorem q3j(b:Bt):(y1b b).length=b.ev.length:=q1p _ _ _
theorem q7o(bs:List Bt)(b:Bt)(s:List UInt8):q0S (bs++[b]) s=if b.st=s then q0S bs s++b.ev else q0S bs s:=by
 unfold q0S;rw[List.filter_append,List.map_append,List.flatten_append]
 split
 ·rename_i h;rw[List.filter_cons_of_pos (by simpa using h)];simp
 ·rename_i h;rw[List.filter_cons_of_neg (by simpa using h)];simp
theorem okBs.nil :okBs []:=fun l b r h=>by simp at h
theorem okBs_snoc{b:Bt}:okBs (bs++[b])↔okBs bs/\z4L b/\b.fi=(q0S bs b.st).length:=by
 constructor
 ·intro h
  exact⟨fun l c r e=>h l c (r++[b]) (by rw[e];simp),h bs b [] rfl⟩
 ·rintro⟨q,y⟩ l c r e
  rcases List.eq_nil_or_concat r with i|⟨o,d,i⟩
  ·subst i
   obtain⟨j,m⟩:=List.append_inj' e rfl;rw[<-j];injection m with m;subst m;exact y
  ·rw[List.concat_eq_append] at i
   subst i;have e':bs++[b]=(l++c::o)++[d]:=by rw[e];simp
   obtain⟨j,_⟩:=List.append_inj' e' rfl;exact q l c o j
theorem q7K(h:okBs bs)(s:List UInt8):(tos bs).filter (fun t=>decide (t.s=s))=q4n bs s:=by
 revert h
 induction bs using q9G with
 |h0=>intro _;rfl
 | h1 l b ih=>
  intro h;obtain⟨h1,m,j⟩:=okBs_snoc.1 h;unfold q4n;rw[q4W,List.filter_append,ih h1,q9I,q7o];by_cases d:b.st=s
  ·rw [ξ d,q7A,Nat.zero_add,<-d,<-j,List.filter_eq_self.2]
   ·rfl
   ·intro t i
    obtain⟨k,_,rfl⟩:=numT_mem.1 i;simp
  ·rw [κ d,List.filter_eq_nil_iff.2,List.append_nil]
   ·rfl
   ·intro t i
    obtain⟨k,_,rfl⟩:=numT_mem.1 i
    simpa using d
theorem z9L{t:To}:t∈tos bs↔ ∃b∈bs,∃k,k<b.ev.length/\t=⟨b.st,((b.fi+k:Nat):Int),b.ev.getD k ev0⟩:=by
 unfold tos;rw[List.mem_flatten]
 constructor
 ·rintro⟨l,j,m⟩
  obtain⟨b,d,rfl⟩:=List.mem_map.1 j;exact⟨b,d,numT_mem.1 m⟩
 ·rintro⟨b,d,i⟩
  exact⟨_,List.mem_map.2 ⟨b,d,rfl⟩,numT_mem.2 i⟩
theorem okBs.each(h:okBs bs){b:Bt}(d:b∈bs):z4L b:=by
 obtain⟨l,r,rfl⟩:=List.append_of_mem d;exact(h l b r rfl).1
theorem q5q(a b:List Bt)(s:List UInt8):q0S (a++b) s=q0S a s++q0S b s:=by
 unfold q0S;rw[List.filter_append,List.map_append,List.flatten_append]
theorem okBs.apart{l m r:List Bt}{b c:Bt}(h:okBs (l++b::m++c::r))(j:b.st=c.st):b.fi+b.ev.length<=c.fi:=by
 have d:=h l b (m++c::r) (by simp);have i:=h (l++b::m) c r (by simp);rw[i.2,d.2,q5q,θ,show b::m=[b]++m from rfl,q5q,θ,<-j];have:(q0S [b] b.st).length=b.ev.length:=by unfold q0S;simp
 omega
theorem y0r{l m:List To}(I:l.Pairwise fun x y=>x.v<y.v)(hm:m.Pairwise fun x y=>x.v<y.v)(h: ∀t,t∈l↔t∈m):l=m:=by
 induction l generalizing m with
 | nil=>
  cases m with
  |nil=>rfl
  |cons y m=>exact absurd ((h y).2 (.head _)) (by simp)
 | cons x l ih=>
  cases m with
  |nil=>exact absurd ((h x).1 (.head _)) (by simp)
  | cons y m=>
   obtain⟨o,r⟩:=List.pairwise_cons.1 I;obtain⟨q,G⟩:=List.pairwise_cons.1 hm;have j:x=y:=by
    rcases List.mem_cons.1 ((h x).1 (.head _)) with e|J
    ·exact e
    rcases List.mem_cons.1 ((h y).2 (.head _)) with e|N
    ·exact e.symm
    have a:=o y N;have b:=q x J;omega
   subst j;rw[ih r G fun t=>?_]
   constructor
   ·intro i
    rcases List.mem_cons.1 ((h t).1 (.tail _ i)) with e|d
    ·have:=o t i;rw[e] at this;omega
    ·exact d
   ·intro i
    rcases List.mem_cons.1 ((h t).2 (.tail _ i)) with e|d
    ·have:=q t i;rw[e] at this;omega
    ·exact d
abbrev Pbs :=List (Nat×Bt)
def z4N(P:Pbs):List (Nat×List UInt8):=P.map fun x=>(x.1,btB x.2)
def q4A(sd:Int)(P:Pbs):List En:=(P.map fun x=>q0a sd x.1 x.2 x.2.ev.length).flatten
def q1j(P:Pbs):List Bt:=P.map Prod.snd
def q2B(P:Pbs)(s:List UInt8)(x:En):Option To:=
 match P.find? (fun y=>decide ((y.1:Int)=x.2.2)) with
 |none=>none
 |some y=>if y.2.st=s/\(y.2.fi:Int)<=x.2.1/\x.2.1<(y.2.fi:Int)+(y.2.ev.length:Int) then some ⟨s,x.2.1,y.2.ev.getD (x.2.1-(y.2.fi:Int)).toNat ev0⟩ else none
structure StI(sd:Int)(B:List En)(P:Pbs):Prop where
 ok:okBs (q1j P)
 pos:P.Pairwise fun a b=>a.1<b.1
 ents: ∀x,x∈B↔x∈q4A sd P
theorem z0O(sd:Int): ∀{P:Pbs},(∀y∈P,z4L y.2)->z0e sd (z4N P)=some (q4A sd P)
 |[],_=>rfl
 | y::P,h=>by
  have d:=z0O sd (P:=P) fun z j=>h z (.tail _ j)
  have i:=z5I y.2 (h y (.head _));unfold z4N at d⊢;rw[List.map_cons,z0e,i,Option.bind_some,d]
  rfl
theorem mem_entsP{sd:Int}{P:Pbs}{x:En}:x∈q4A sd P↔ ∃y∈P,∃k,k<y.2.ev.length/\x=q2U sd y.1 y.2 k:=by
 unfold q4A;rw[List.mem_flatten]
 constructor
 ·rintro⟨l,m,j⟩
  obtain⟨y,i,rfl⟩:=List.mem_map.1 m;unfold q0a at j;obtain⟨k,d,rfl⟩:=List.mem_map.1 j;exact⟨y,i,k,List.mem_range.1 d,rfl⟩
 ·rintro⟨y,i,k,d,rfl⟩
  exact⟨_,List.mem_map.2 ⟨y,i,rfl⟩,by unfold q0a;exact List.mem_map.2 ⟨k,List.mem_range.2 d,rfl⟩⟩
theorem z2T : ∀{P:Pbs},P.Pairwise (fun a b=>a.1<b.1)-> ∀{y:Nat×Bt},y∈P->P.find? (fun z=>decide ((z.1:Int)=(y.1:Int)))=some y
 |[],_,y,h=>by cases h
 | z ::P,hp,y,h=>by
  obtain⟨d,i⟩:=List.pairwise_cons.1 hp;rcases List.mem_cons.1 h with rfl|h
  ·rw[List.find?_cons_of_pos (by simp)]
  ·rw[List.find?_cons_of_neg (by have:=d y h;simp;omega)]
   exact z2T i h
section
variable {sd :Int}{B:List En}{P:Pbs}
theorem q5I(h:P.Pairwise fun a b=>a.1<b.1){y:Nat×Bt}(i:y∈P)(j:k<y.2.ev.length)(s:List UInt8):q2B P s (q2U sd y.1 y.2 k)=if y.2.st=s then some ⟨s,((y.2.fi+k:Nat):Int),y.2.ev.getD k ev0⟩ else none:=by
 unfold q2B q2U;simp only;rw[z2T h i];simp only;by_cases d:y.2.st=s
 ·rw[ξ d,ξ ⟨d,by omega,by omega⟩,show((y.2.fi:Int)+(k:Int)-(y.2.fi:Int)).toNat=k by omega]
  congr 1
 ·rw[κ d,κ fun h=>d h.1]
theorem StI.found(h:StI sd B P){s:List UInt8}{x:En}(I:x∈B){t:To}:q2B P s x=some t↔ ∃y∈P,∃k,k<y.2.ev.length/\x=q2U sd y.1 y.2 k/\y.2.st=s/\t=⟨s,((y.2.fi+k:Nat):Int),y.2.ev.getD k ev0⟩:=by
 obtain⟨y,o,k,i,rfl⟩:=mem_entsP.1 ((h.ents x).1 I);rw[q5I h.pos o i]
 constructor
 ·intro d
  split at d
  ·rename_i m
   injection d with d;exact⟨y,o,k,i,rfl,m,d.symm⟩
  ·cases d
 ·rintro⟨z,J,j,G,he,m,rfl⟩
  have r:=q5I (sd:=sd) h.pos o i s;have q:=q5I (sd:=sd) h.pos J G s;rw[<-he,r,ξ m] at q;exact q
theorem StI.mem_str(h:StI sd B P){s:List UInt8}{t:To}:t∈q4n (q1j P) s↔ ∃y∈P,∃k,k<y.2.ev.length/\y.2.st=s/\t=⟨s,((y.2.fi+k:Nat):Int),y.2.ev.getD k ev0⟩:=by
 rw[<-q7K h.ok,List.mem_filter,z9L]
 constructor
 ·rintro⟨⟨b,m,k,i,rfl⟩,d⟩
  obtain⟨y,j,rfl⟩:=List.mem_map.1 m;simp only[Φ] at d;exact⟨y,j,k,i,d,by rw[d]⟩
 ·rintro⟨y,j,k,i,d,rfl⟩
  exact⟨⟨y.2,List.mem_map.2 ⟨y,j,rfl⟩,k,i,by rw[d]⟩,by simp⟩
theorem StI.between(h:StI sd B P)(hB:q0s B)(s:List UInt8)(a b:Int):(q0m B (q2K sd s) a b).filterMap (q2B P s)=(q4n (q1j P) s).filter fun t=>decide (a<=t.v/\t.v<=b):=by
 refine y0r ?_ ((z5c _ _ _).filter _) fun t=>?_
 ·rw [List.pairwise_filterMap]
  refine List.Pairwise.imp_of_mem ?_ (q4P hB (q2K sd s) a b);intro x y O Q d t ht u hu;obtain⟨I,a0,J,N⟩:=mem_range.1 O;obtain⟨b0,c0,d0,e0⟩:=mem_range.1 Q;obtain⟨p,hp,i,hi,rfl,R,rfl⟩:=(h.found I).1 ht;obtain⟨q,hq,j,hj,rfl,S,rfl⟩:=(h.found b0).1 hu;rw[lessE_iff] at d;unfold q2U at d;simp only at d⊢;rw[R,S] at d;rcases d with d|⟨_,d|⟨he,Z⟩⟩
  ·omega
  ·omega
  ·exfalso
   obtain⟨l,r,hl⟩:=List.append_of_mem hp;have o:=h.ok;have G:=h.pos;rw[hl] at o G hq;rcases List.mem_append.1 hq with hq|hq
   ·have:=(List.pairwise_append.1 G).2.2 q hq p (.head _)
    omega
   ·rcases List.mem_cons.1 hq with hq|hq
    ·rw[hq] at Z;omega
    ·obtain⟨m,r2,hm⟩:=List.append_of_mem hq
     rw[hm] at o;unfold q1j at o;rw[List.map_append,List.map_cons,List.map_append,List.map_cons] at o;have:=okBs.apart (l:=l.map Prod.snd) (b:=p.2) (m:=m.map Prod.snd) (c:=q.2) (r:=r2.map Prod.snd) (by rw[List.append_assoc,List.cons_append];exact o) (by rw[R,S]);omega
 ·rw [List.mem_filterMap,List.mem_filter,h.mem_str,Φ]
  constructor
  ·rintro⟨x,O,ht⟩
   obtain⟨I,a0,J,N⟩:=mem_range.1 O;obtain⟨y,Q,k,U,rfl,X,rfl⟩:=(h.found I).1 ht;unfold q2U at J N;simp only at J N⊢;exact⟨⟨y,Q,k,U,X,rfl⟩,by omega,by omega⟩
  ·rintro⟨⟨y,Q,k,U,X,rfl⟩,h1,h2⟩
   simp only at h1 h2;have O:q2U sd y.1 y.2 k∈B:=(h.ents _).2 (mem_entsP.2 ⟨y,Q,k,U,rfl⟩);refine⟨q2U sd y.1 y.2 k,mem_range.2 ⟨O,?_,?_,?_⟩,(h.found O).2 ⟨y,Q,k,U,rfl,X,rfl⟩⟩
   ·unfold q2U;simp only;rw[X]
   ·unfold q2U;simp only;omega
   ·unfold q2U;simp only;omega
theorem q2O(bs:List Bt)(s:List UInt8):(q4n bs s).length=(q0S bs s).length:=q1p _ _ _
theorem StI.has(h:StI sd B P){s:List UInt8}{v:Nat}(m:v<(q0S (q1j P) s).length): ∃x∈B,x.1=q2K sd s/\x.2.1=(v:Int):=by
 have j:(⟨s,((0+v:Nat):Int),(q0S (q1j P) s).getD v ev0⟩:To)∈q4n (q1j P) s:=numT_mem.2 ⟨v,m,rfl⟩;obtain⟨y,o,k,d,i,he⟩:=h.mem_str.1 j;injection he with _ he _;refine⟨q2U sd y.1 y.2 k,(h.ents _).2 (mem_entsP.2 ⟨y,o,k,d,rfl⟩),?_,?_⟩
 ·unfold q2U;simp only;rw[i]
 ·unfold q2U;simp only;omega
theorem StI.last(h:StI sd B P)(J:okM B){s:List UInt8}{u r:Int}(Z:((q0S (q1j P) s).length:Int)-1<=u)(j:z1v B (q2K sd s) u r):
  ((q0S (q1j P) s).length:Int)-1<=r/\ -1<=r/\(r<0->q0S (q1j P) s=[])/\(0<=r->(q4n (q1j P) s).filter (fun t=>decide (r<=t.v/\t.v<=r))=[]->((q0S (q1j P) s).length:Int)-1<=r-1)/\
   ((q4n (q1j P) s).filter (fun t=>decide (r<=t.v/\t.v<=r))≠[]->((q0S (q1j P) s).length:Int)-1=r):=by
 have o: -1<=r:=by
  rcases j.2 with e|⟨y,S,_,_,e⟩
  ·omega
  ·have:=okEn_iff.1 (J.ok y S);omega
 have q:((q0S (q1j P) s).length:Int)-1<=r:=by
  rcases Nat.eq_zero_or_pos (q0S (q1j P) s).length with e|e
  ·omega
  ·obtain⟨x,R,m,U⟩:=h.has (s:=s) (v:=(q0S (q1j P) s).length-1) (by omega)
   have:=j.1 x R m (by omega);omega
 refine⟨q,o,fun Q=>?_,fun Q he=>?_,fun d=>?_⟩
 ·exact List.length_eq_zero_iff.1 (by omega)
 ·rcases Int.lt_or_le (((q0S (q1j P) s).length:Int)-1) r with O|N
  ·omega
  ·exfalso
   have i:(⟨s,((0+r.toNat:Nat):Int),(q0S (q1j P) s).getD r.toNat ev0⟩:To)∈q4n (q1j P) s:=numT_mem.2 ⟨r.toNat,by omega,rfl⟩;have:=(List.mem_filter (p:=fun t:To=>decide (r<=t.v/\t.v<=r))).2 ⟨i,by simp;omega⟩;rw[he] at this
   cases this
 ·obtain⟨t,i⟩:=List.exists_mem_of_ne_nil _ d
  obtain⟨G,I⟩:=List.mem_filter.1 i;obtain⟨k,X,rfl⟩:=numT_mem.1 G;simp only[Φ] at I;omega
end
theorem z3Z(sd:Int)(P:Pbs)(p:Nat)(b:Bt):q4A sd (P++[(p,b)])=q4A sd P++q0a sd p b b.ev.length:=by
 unfold q4A;rw[List.map_append,List.flatten_append];simp
theorem q4v(P:Pbs)(p:Nat)(b:Bt):q1j (P++[(p,b)])=q1j P++[b]:=by unfold q1j;rw[List.map_append];rfl
theorem mem_addEs{x:En}: ∀{es L:List En},x∈q1O es L↔x∈es\/x∈L
 |[],L=>by unfold q1O;simp
 | e ::es,L=>by
  have h:=mem_addEs (x:=x) (es:=es) (L:=q3R e L);unfold q1O at*;rw[List.foldl_cons,h,mem_addE,List.mem_cons]
  constructor
  ·rintro(h|h|h)
   ·exact .inl (.inr h)
   ·exact .inl (.inl h)
   ·exact .inr h
  ·rintro((h|h)|h)
   ·exact .inr (.inl h)
   ·exact .inl h
   ·exact .inr (.inr h)
theorem StI.snoc{sd:Int}{B:List En}{P:Pbs}(h:StI sd B P){p:Nat}{b:Bt}(i:z4L b)(j:b.fi=(q0S (q1j P) b.st).length)(m: ∀y∈P,y.1<p):StI sd (q1O (q0a sd p b b.ev.length) B) (P++[(p,b)]):=by
 refine⟨by rw[q4v];exact okBs_snoc.2 ⟨h.ok,i,j⟩,?_,fun x=>?_⟩
 ·rw[List.pairwise_append]
  exact⟨h.pos,List.pairwise_singleton _ _,fun a d c hc=>by obtain rfl:=List.mem_singleton.1 hc;exact m a d⟩
 ·rw[mem_addEs,z3Z,List.mem_append,h.ents]
  exact Or.comm
theorem q5p(sd:Int)(P:Pbs):(q4A sd P).length=(tos (q1j P)).length:=by
 unfold q4A tos q1j;rw[List.length_flatten,List.length_flatten,List.map_map,List.map_map,List.map_map]
 congr 1
 refine List.map_congr_left fun x _=>?_
 simp only[Function.comp];rw[q3b,q3j]
theorem StI.len{sd:Int}{B:List En}{P:Pbs}(h:StI sd B P)(i:q0s B):B.length<=(tos (q1j P)).length:=by
 rw[<-q5p sd];have j:B.Nodup:=i.imp fun {a b} d e=>by rw[e,q0Z] at d;cases d
 exact nodup_leB j fun x m=>(h.ents x).1 m
where nodup_leB {α:Type} [DecidableEq α]: ∀{l m:List α},l.Nodup->(∀x∈l,x∈m)->l.length<=m.length
 |[],_,_,_=>υ _
 | x::l,m,h,hm=>by
  obtain⟨h1,h2⟩:=List.nodup_cons.1 h;have hx:=hm x (.head _);have h3:=nodup_leB (m:=m.erase x) h2 fun y hy=>(List.mem_erase_of_ne (fun e:y=x=>h1 (by rw[<-e];exact hy))).2 (hm y (.tail _ hy))
  rw[List.length_erase_of_mem hx] at h3;have:=List.length_pos_of_mem hx;rw[χ];omega
def q8D(L:List To)(from_ count:Int):List To:=(L.drop from_.toNat).take count.toNat
def z0G(L:List To)(from_ count:Int):List To:=(L.drop (from_-count+1).toNat).take ((from_+1).toNat-(from_-count+1).toNat)
theorem z9V(bs:List Bt)(s:List UInt8){c:Int}(d:0<=f)(hc:1<=c)(i:(q0S bs s).length<=1073741824):(q4n bs s).filter (fun t=>decide (max f 0<=t.v/\t.v<=min (f+min c 1073741824-1) 1073741824))=q8D (q4n bs s) f c:=by
 unfold q4n q8D;rw[q5e,show(max f 0-((0:Nat):Int)).toNat=f.toNat by omega];rcases Int.lt_or_le (f+c-1) 1073741824 with h|h
 ·rw[show(min (f+min c 1073741824-1) 1073741824+1-((0:Nat):Int)).toNat-f.toNat=c.toNat by omega]
 ·rw[Δ,Δ]
  ·rw[List.length_drop,q1p];omega
  ·rw[List.length_drop,q1p];omega
theorem z5l(bs:List Bt)(s:List UInt8){c:Int}(d:0<=f)(hc:1<=c)(i:(q0S bs s).length<=1073741824):(q4n bs s).filter (fun t=>decide (max (f-c+1) 0<=t.v/\t.v<=min f 1073741824))=z0G (q4n bs s) f c:=by
 unfold q4n z0G;rw[q5e,show(max (f-c+1) 0-((0:Nat):Int)).toNat=(f-c+1).toNat by omega];rcases Int.le_total f 1073741824 with h|h
 ·rw[show(min f 1073741824+1-((0:Nat):Int)).toNat=(f+1).toNat by omega]
 ·rw[Δ,Δ]
  ·rw[List.length_drop,q1p];omega
  ·rw[List.length_drop,q1p];omega
theorem z5k{L:List To}{c:Int}(h:(L.length:Int)<=f):q8D L f c=[]:=by
 unfold q8D;rw[List.drop_eq_nil_of_le (by omega),List.take_nil]
def q8T(φ:Fls)(C:Cks):Prop:= ∀k:Nat,k<=999999->φ (q0E 99 (k:Int))=(C[k]?).map (q0R k)
def z0h(φ:Fls)(m:Man):Prop:=(φ mapN=some m.S/\0<m.nx)\/(φ mapN=none/\m.nx=0/\m.ck=0/\m.L=[])
def y0j(nm:List UInt8):Prop:= ∀k:Nat,k<=999999->nm≠q0E 99 (k:Int)
theorem z5g : ∀{a b:List (List UInt8×List UInt8)},q3F Prod.fst a->q3F Prod.fst b->(∀z,z∈a↔z∈b)->a=b
 |[],[],_,_,_=>rfl
 |[],y::b,_,_,h=>absurd ((h y).2 (.head _)) (by simp)
 |x::a,[],_,_,h=>absurd ((h x).1 (.head _)) (by simp)
 | x ::a,y::b,ha,hb,h=>by
  obtain⟨m,q⟩:=List.pairwise_cons.1 ha;obtain⟨o,r⟩:=List.pairwise_cons.1 hb;have j:x=y:=by
   rcases List.mem_cons.1 ((h x).1 (.head _)) with e|G
   ·exact e
   rcases List.mem_cons.1 ((h y).2 (.head _)) with e|I
   ·exact e.symm
   have:=WideShapes.bytes_trans _ _ _ (m y I) (o x G);rw[WideAt.bytes_irrefl] at this;cases this
  subst j;rw[z5g q r fun z=>?_]
  constructor
  ·intro i
   rcases List.mem_cons.1 ((h z).1 (.tail _ i)) with e|d
   ·have:=m z i;rw[e,WideAt.bytes_irrefl] at this;cases this
   ·exact d
  ·intro i
   rcases List.mem_cons.1 ((h z).2 (.tail _ i)) with e|d
   ·have:=o z i;rw[e,WideAt.bytes_irrefl] at this;cases this
   ·exact d
theorem z2f{l:List (List UInt8×List UInt8)}(h:q3F Prod.fst l)(z:List UInt8×List UInt8):z∈l↔(q0F Prod.fst z.1 l).map Prod.snd=some z.2:=by
 constructor
 ·intro d;rw[q5H h d rfl];rfl
 ·intro d
  cases hf:q0F Prod.fst z.1 l with
  |none=>rw[hf] at d;cases d
  | some y=>
   rw[hf] at d;injection d with d;obtain⟨i,j⟩:=q0M hf;have:y=z:=Prod.ext j d
   rwa [this] at i
theorem z7n{a b:List (List UInt8×List UInt8)}(d:q3F Prod.fst a)(i:q3F Prod.fst b)(h: ∀nm,(q0F Prod.fst nm a).map Prod.snd=(q0F Prod.fst nm b).map Prod.snd):a=b:=
 z5g d i fun z=>by rw[z2f d,z2f i,h]
theorem q8z{r:α->α->Prop}{p:α->Bool}(j: ∀x y,r x y->p y=true->p x=true): ∀{l:List α},l.Pairwise r->l=l.filter p++l.filter (fun y=>!p y)
 |[],_=>rfl
 | x :: l,h=>by
  obtain⟨m,o⟩:=List.pairwise_cons.1 h
  cases hx:p x with
  | true=>
   rw[List.filter_cons_of_pos hx,List.filter_cons_of_neg (by simp[hx]),List.cons_append,<-q8z j o]
  | false=>
   have i: ∀y∈l,p y=false:=fun y d=>by
    cases hy2:p y with
    |false=>rfl
    |true=>rw[j x y (m y d) hy2] at hx;cases hx
   rw [List.filter_cons_of_neg (by simp[hx]),List.filter_cons_of_pos (by simp[hx]),List.filter_eq_nil_iff.2 fun y d=>by simp[i y d],List.nil_append,
    List.filter_eq_self.2 fun y d=>by simp[i y d]]
theorem q6J{α:Type}[DecidableEq α]: ∀{l m:List α},l.Nodup->(∀x∈l,x∈m)->l.length<=m.length
 |[],_,_,_=>υ _
 | x::l,m,h,hm=>by
  obtain⟨j,o⟩:=List.nodup_cons.1 h;have d:=hm x (.head _);have q:=q6J (m:=m.erase x) o fun y i=>(List.mem_erase_of_ne (fun e:y=x=>j (by rw[<-e];exact i))).2 (hm y (.tail _ i))
  rw[List.length_erase_of_mem d] at q;have:=List.length_pos_of_mem d;rw[χ];omega
theorem q4u(i:k<=999999):bytesBefore [99] (q0E 99 (k:Int))=true/\bytesBefore (q0E 99 (k:Int)) [100]=true/\bytesBefore (q0E 99 (k:Int)) [99]=false:=by
 rw[q0W (by omega)];have d:=q0d 6 ((k:Int)).toNat
 cases hd:q4d 6 ((k:Int)).toNat with
 |nil=>rw[hd] at d;cases d
 |cons a r=>exact⟨by simp[bytesBefore],by simp[bytesBefore],by simp[bytesBefore]⟩
theorem q9X(d:0<=n/\n<=999999):bytesBefore (q0E 98 n) [99]=true/\bytesBefore (q0E 116 n) [100]=false/\bytesBefore (q0E 116 n) [99]=false:=by
 rw[q0W d,q0W d];exact⟨by simp[bytesBefore],by simp[bytesBefore],by simp[bytesBefore]⟩
theorem before_map :bytesBefore mapN [100]=false/\bytesBefore mapN [99]=false:=by decide
section
variable {st :IxSt}{σ σ':DM}{c s:Int}{φ:Fls}{u cnt:Nat}{B:List En}{C C':Cks}{E:Oth}
theorem z2E : ∀(C:Cks) (i:Nat),i+C.length<=999999->q3F Prod.fst (q3n i C)
 |[],_,_=>List.Pairwise.nil
 | ps::r,i,h=>by
  rw[χ] at h;refine List.pairwise_cons.2 ⟨fun y m=>?_,z2E r (i+1) (by omega)⟩;obtain⟨j,o,q,d⟩:=q3K m;rw[d];exact q5m (by omega) (by omega) (by omega)
theorem z2D{C:Cks}(d:C.length<=200)(i:k<=999999):(q0F Prod.fst (q0E 99 (k:Int)) (q3n 0 C)).map Prod.snd=(C[k]?).map (q0R k):=by
 rcases Nat.lt_or_ge k C.length with h|h
 ·rw[q9a d (γ h),γ h];rfl
 ·rw[q9b d h i,List.getElem?_eq_none h];rfl
theorem q7J(h:PInv st σ c s φ u cnt B)(hc:q8T φ C)(hC:okC C):
  ∃E,Lgd E σ (c-(q2G E:Int)) s C/\(∀nm,y0j nm->(q0F Prod.fst nm (E.X++E.Z)).map Prod.snd=φ nm)/\q2G E+q0l C<=u/\E.X.length+C.length+E.Z.length<=cnt:=by
 obtain⟨l,f0,i,J,l0,k0⟩:=h.fl;have O: ∀y∈l,φ y.1≠none:=fun y d e=>by
  have:=J y.1;rw[q5H i d rfl,e] at this;cases this
 have S:=q8z (r:=fun x y:List UInt8×List UInt8=>bytesBefore x.1 y.1=true) (p:=fun y:List UInt8×List UInt8=>bytesBefore y.1 [99]) (fun x y h1 h2=>WideShapes.bytes_trans _ _ _ h1 h2) i;have hr:=i.filter (p:=fun y:List UInt8×List UInt8=>!bytesBefore y.1 [99]);have p2:=q8z (r:=fun x y:List UInt8×List UInt8=>bytesBefore x.1 y.1=true) (p:=fun y:List UInt8×List UInt8=>bytesBefore y.1 [100]) (fun x y h1 h2=>WideShapes.bytes_trans _ _ _ h1 h2) hr;obtain⟨X,hX⟩: ∃X,l.filter (fun y=>bytesBefore y.1 [99])=X:=⟨_,rfl⟩
 obtain⟨R,hR⟩: ∃R,l.filter (fun y=>!bytesBefore y.1 [99])=R:=⟨_,rfl⟩
 obtain⟨M,hM⟩: ∃M,R.filter (fun y=>bytesBefore y.1 [100])=M:=⟨_,rfl⟩
 obtain⟨Z,hZ⟩: ∃Z,R.filter (fun y=>!bytesBefore y.1 [100])=Z:=⟨_,rfl⟩
 rw[hX,hR] at S;rw[hR,hM,hZ] at p2;rw[p2] at S;have mX: ∀y,y∈X↔y∈l/\bytesBefore y.1 [99]=true:=fun y=>by rw[<-hX,List.mem_filter]
 have mR: ∀y,y∈R↔y∈l/\bytesBefore y.1 [99]=false:=fun y=>by rw[<-hR,List.mem_filter];simp
 have mM: ∀y,y∈M↔y∈l/\bytesBefore y.1 [99]=false/\bytesBefore y.1 [100]=true:=fun y=>by rw[<-hM,List.mem_filter,mR];simp[and_assoc]
 have mZ: ∀y,y∈Z↔y∈l/\bytesBefore y.1 [99]=false/\bytesBefore y.1 [100]=false:=fun y=>by rw[<-hZ,List.mem_filter,mR];simp[and_assoc]
 have o: ∀n∈st.m.L.flatten,0<=n/\n<=999999:=fun n G=>by have:=h.range G;omega
 have U: ∀y,y∈X\/y∈Z->y.1=mapN\/ ∃n∈st.m.L.flatten,y.1=q0E 116 n\/y.1=q0E 98 n:=fun y d=>by
  have hl:y∈l:=d.elim (fun h=>((mX y).1 h).1) fun h=>((mZ y).1 h).1
  rcases h.only y.1 (O y hl) with e|e|⟨k,I,e⟩
  ·exact .inl e
  ·exact .inr e
  ·exfalso
   obtain⟨_,b2,b3⟩:=q4u I;rcases d with d|d
   ·have:=((mX y).1 d).2;rw[e,b3] at this;cases this
   ·have:=((mZ y).1 d).2.2;rw[e,b2] at this;cases this
 have b0: ∀y∈M,∃k:Nat,k<=999999/\y.1=q0E 99 (k:Int):=fun y d=>by
  obtain⟨hl,q1,q2⟩:=(mM y).1 d;rcases h.only y.1 (O y hl) with e|⟨n,G,e|e⟩|e
  ·rw[e,before_map.1] at q2;cases q2
  ·rw[e,(q9X (o n G)).2.1] at q2;cases q2
  ·rw[e,(q9X (o n G)).1] at q1;cases q1
  ·exact e
 have Q:=i;rw[S] at Q;obtain⟨oX,g0,_⟩:=List.pairwise_append.1 Q;obtain⟨oM,oZ,_⟩:=List.pairwise_append.1 g0;have a0:M=q3n 0 C:=z7n oM (z2E C 0 (by have:=hC.few;omega)) fun nm=>by
  by_cases N: ∃k:Nat,k<=999999/\nm=q0E 99 (k:Int)
  ·obtain⟨k,I,rfl⟩:=N
   rw[z2D hC.few I,<-hc k I,<-J];obtain⟨_,b2,b3⟩:=q4u I;rw[S,q0Y fun y d e=>?_,q1P fun y d e=>?_]
   ·have:=((mZ y).1 d).2.2;rw[show y.1=q0E 99 (k:Int) from e,b2] at this;cases this
   ·have:=((mX y).1 d).2;rw[show y.1=q0E 99 (k:Int) from e,b3] at this;cases this
  ·rw [q0V fun y d e=>N (by obtain⟨k,I,e2⟩:=b0 y d;exact⟨k,I,by rw[<-e2];exact e.symm⟩),q0V fun y d e=>N (by
    obtain⟨j,h1,h2,h3⟩:=q3K d
    exact⟨j,by have:=hC.few;omega,by rw[<-h3];exact e.symm⟩)]
 rw[a0] at S;have d0:=h.noNew;have j0:q2Q l=q2G ⟨X,Z⟩+q0l C:=by
  rw[S,q1I,q1I,q4x];unfold q2G;simp only;omega
 have i0:l.length=X.length+C.length+Z.length:=by rw[S];simp[q4g];omega
 refine⟨⟨X,Z⟩,⟨?_,hC,⟨fun y d k I=>?_,fun y d k I=>?_,fun y d e=>?_,fun y d hp=>?_,fun y d=>?_,?_⟩⟩,fun nm N=>?_,by omega,by simp only;omega⟩
 ·rw[show c-(q2G ⟨X,Z⟩:Int)+(q2G ⟨X,Z⟩:Int)=c by omega]
  show Pl σ c s (X++(q3n 0 C++Z));rw[<-S];exact f0
 ·exact WideShapes.bytes_trans _ _ _ ((mX y).1 d).2 (q4u I).1
 ·by_cases q:y.1=[100]
  ·rw[q];exact(q4u I).2.1
  ·rcases WideAt.bytes_total y.1 [100] q with q|q
   ·rw[((mZ y).1 d).2.2] at q;cases q
   ·exact WideShapes.bytes_trans _ _ _ (q4u I).2.1 q
 ·have hl:y∈l:=d.elim (fun h=>((mX y).1 h).1) fun h=>((mZ y).1 h).1
  exact O y hl (by rw[e];exact d0)
 ·rcases U y d with e|⟨n,G,e|e⟩
  ·rw[e] at hp;exact absurd hp (by decide)
  ·rw[e,q1u y0T (o n G)];exact(by decide:(116:UInt8)≠99)
  ·rw[e,q1u y2C (o n G)];exact(by decide:(98:UInt8)≠99)
 ·rcases U y d with e|⟨n,G,e|e⟩
  ·rw[e];decide
  ·rw[e,q0W (o n G),χ,q0d];decide
  ·rw[e,q0W (o n G),χ,q0d];decide
 ·have c0:((X++Z).map Prod.fst).Nodup:=by
   have ho:q3F Prod.fst (X++Z):=by
    rw[S] at i;exact i.sublist (List.Sublist.append (List.Sublist.refl X) (List.sublist_append_right _ _))
   exact List.pairwise_map.2 (z0D ho)
  have hb:=Man.bounds h.man;have:=q6J (m:=mapN::(st.m.L.flatten.map (q0E 116)++st.m.L.flatten.map (q0E 98))) c0 fun x hx=>by
   obtain⟨y,d,rfl⟩:=List.mem_map.1 hx;rcases U y (List.mem_append.1 d) with e|⟨n,G,e|e⟩
   ·rw[e];exact .head _
   ·rw[e];exact .tail _ (List.mem_append.2 (.inl (List.mem_map.2 ⟨n,G,rfl⟩)))
   ·rw[e];exact .tail _ (List.mem_append.2 (.inr (List.mem_map.2 ⟨n,G,rfl⟩)))
  simp only[List.length_map,θ,χ] at this;simp only;omega
 ·rw [<-J,S]
  show(q0F Prod.fst nm (X++Z)).map Prod.snd=_;have e0: ∀y∈q3n 0 C,Prod.fst y≠nm:=fun y d e=>by
   obtain⟨j,h1,h2,h3⟩:=q3K d;exact N j (by have:=hC.few;omega) (by rw[<-h3];exact e.symm)
  unfold q0F;rw[List.find?_append,List.find?_append,List.find?_append];have h0:List.find? (fun y=>Prod.fst y==nm) (q3n 0 C)=none:=q0V e0;rw[h0];simp
theorem PInv.relog(h:PInv st σ c s φ u cnt B)(hE: ∀nm,y0j nm->(q0F Prod.fst nm (E.X++E.Z)).map Prod.snd=φ nm)(J:Lgd E σ' (c-(q2G E:Int)) s C')(ho:okD σ')(hu:q2G E+q0l C'<=u')(N:E.X.length+C'.length+E.Z.length<=cnt'):
  ∃r,PInv st σ' c s r u' cnt' B/\q8T r C'/\ ∀nm,y0j nm->r nm=φ nm:=by
 have q:=J.pl;rw[show c-(q2G E:Int)+(q2G E:Int)=c by omega] at q;have d: ∀nm,y0j nm->(q0F Prod.fst nm (q3E E C')).map Prod.snd=φ nm:=fun nm i=>by
  rw[<-hE nm i];have R: ∀y∈q3n 0 C',Prod.fst y≠nm:=fun y hy e=>by
   obtain⟨j,h1,h2,h3⟩:=q3K hy;exact i j (by have:=J.ok.few;omega) (by rw[<-h3];exact e.symm)
  unfold q0F q3E;rw[List.find?_append,List.find?_append,List.find?_append];have U:List.find? (fun y=>Prod.fst y==nm) (q3n 0 C')=none:=q0V R;rw[U];simp
 have Q: ∀k:Nat,k<=999999->(q0F Prod.fst (q0E 99 (k:Int)) (q3E E C')).map Prod.snd=(C'[k]?).map (q0R k):=fun k G=>by
  rw[<-z2D J.ok.few G];unfold q3E;rw[q0Y (J.oth.neX G),q1P (J.oth.neZ G)]
 have O: ∀I:UInt8,(I=116\/I=98)-> ∀n:Int,0<=n/\n<=999999->y0j (q0E I n):=fun I hc n N k G e=>by
  have hl:q1n I=true:=by rcases hc with rfl|rfl<;>decide
  have:=(z7h hl y1m N (by omega) e).1;rcases hc with rfl|rfl<;>exact absurd this (by decide)
 have o: ∀n∈st.m.L.flatten,0<=n/\n<=999999:=fun n N=>by have:=h.range N;omega
 refine⟨fun nm=>(q0F Prod.fst nm (q3E E C')).map Prod.snd,⟨⟨q3E E C',q,q.ord ho,fun _=>rfl,by rw[q6Y];exact hu,by rw[q6X];exact N⟩,h.man,h.full,fun n e he=>?_,fun nm i=>?_,h.okw,h.okB,h.mem⟩,Q,d⟩
 ·obtain⟨S,t1,⟨y,t2⟩,t3,t4⟩:=h.tb n e he
  exact⟨S,(d _ (O 116 (.inl rfl) n (o n S))).trans t1,⟨y,(d _ (O 98 (.inr rfl) n (o n S))).trans t2⟩,t3,t4⟩
 ·by_cases hc: ∃k:Nat,k<=999999/\nm=q0E 99 (k:Int)
  ·exact .inr (.inr hc)
  ·exact h.only nm (by rw[<-d nm fun k G e=>hc ⟨k,G,e⟩];exact i)
end
end
section
open Go.RowKit Go.Maps
def DkX(wb W:World)(g:Nat)(σ:DM)(K:Nat->Prop):Prop:= ∃F,DkF wb W g F σ K
def q3A :DM->List Int->(Int->Option (List En))->(Int->Option (List En))×Int×DM
 |σ,[],acc=>(acc,0,σ)
 | σ,n::ns,acc=>match q5N σ n with
  |(none,e,τ)=>(acc,e,τ)
  |(some L,_,τ)=>q3A τ ns (fun x=>if x=n then some L else acc x)
def q9R(wb w:World)(g:Nat)(m:Man)(rate:Nat)(K:Nat->Prop)(σ:DM)(e:Ending)(w':World):Prop:=
 (q0c m.nx m.ck m.L=false/\e= .returned (.tuple #[.pointer none,.int .i64 2])/\DkX wb w' g σ K/\Stay K w w')\/
 (q0c m.nx m.ck m.L=true/\σ.down=true/\e= .returned (.tuple #[.pointer none,.int .i64 61])/\DkX wb w' g σ K/\Stay K w w')\/
 (q0c m.nx m.ck m.L=true/\σ.down=false/\(q3A σ m.L.flatten (fun _=>none)).2.1≠0/\e= .returned (.tuple #[.pointer none,.int .i64 (q3A σ m.L.flatten (fun _=>none)).2.1])/\DkX wb w' g (q3A σ m.L.flatten (fun _=>none)).2.2 K/\Stay K w w')\/
 (q0c m.nx m.ck m.L=true/\σ.down=false/\(q3A σ m.L.flatten (fun _=>none)).2.1=0/\ ∃gx t,e= .returned (.tuple #[.pointer (some ⟨gx,0,none⟩),.int .i64 0])/\
  IxK wb w' g gx ⟨m,rate,[],t,m.L.flatten.length⟩ (q3A σ m.L.flatten (fun _=>none)).2.2 K/\Stay K w w'/\ ∀n,(t n).map TE.L=(q3A σ m.L.flatten (fun _=>none)).1 n)
section
variable {wb w0 w W W1 w1 w2:World}{g gx gm gt B:Nat}{st st1:IxSt}{F Y Y1 K K' V T:Nat->Prop}{σ σ1:DM}{va v v1 v2 vm:Value}{vs:List Value}{ns:List Int}{acc:List (List En)}{M L:List En}
theorem IxI.putO{D:DataW Unit}{nn:Nat}(h:IxI w gx g gm gt st v vs vm D nn Y){t:Nat}{may:Int->Bool}
  (J:w2.ownsMap Tryz.prog 3 q6L gt (nn+1) (D.put (.int .i64 n) (.lit (.int .i64 t))))(j:OffS (fun i=>i=gt) w w2)
  (G:Tb w t g n L may T)(N: ∀i,T i->¬InX gx gm gt i):
  IxI w2 gx g gm gt ⟨st.m,st.rate,st.w,(fun x=>if x=n then some ⟨t,L,may⟩ else st.t x),st.c+1⟩ v vs vm (D.put (.int .i64 n) (.lit (.int .i64 t))) (nn+1) (fun i=>Y i\/T i):=by
 have I: ∀i,i<w.heap.size->i≠gt->w2.heap[i]? =w.heap[i]? :=fun i d r=>j.block i d r
 have o: ∀i,(Y i\/T i)->i<w.heap.size/\¬InX gx gm gt i:=fun i d=>by
  rcases d with d|d
  ·exact⟨h.lt i d,h.apart i d⟩
  ·exact⟨G.lt i d,N i d⟩
 have q: ∀i,(Y i\/T i)->w2.heap[i]? =w.heap[i]? :=fun i d=>I i (o i d).1 fun e=>(o i d).2 (.inr (.inr e))
 refine⟨h.blk.same (I _ h.blk.lt h.ne.2.1),?_,q4O h.lev fun i d=>q i (.inl (h.inY i (d.elim .inl fun e=> .inr (.inl e)))),J,Nat.succ_le_succ h.cnt,fun x=>?_,fun x e r=>?_,fun i d=> .inl (h.inY i d),fun i d=>Ψ (o i d).1 j.size,fun i d=>(o i d).2,h.ne⟩
 ·refine h.mem.same fun i d=>?_
  rcases d with rfl|d
  ·exact I _ h.mem.blk.lt h.ne.2.2
  ·exact q i (.inl (h.inY i (.inr (.inr d))))
 ·exact z7c (e:=⟨t,L,may⟩) h.look h.map.isMap x
 ·simp only at r
  by_cases y:x=n
  ·rw[ξ y] at r
   injection r with r;subst r;subst y;exact(G.same j.size fun i d=>q i (.inr d)).mono (fun i d=> .inr d) fun i d=>Ψ (o i d).1 j.size
  ·rw[κ y] at r
   exact((h.tab x e r).same j.size fun i d=>q i (.inl d)).mono (fun i d=> .inl d) fun i d=>Ψ (o i d).1 j.size
theorem z5M(h : DkF wb w g F σ K){m:Man}(hG:Grid w ao m.L.length cap m.L)(H1:m.L.flatten.length<=1000000000)(E1: ∀x∈m.L.flatten,(Lit.int .i64 x).wf=true)(A1:0<=m.sd)(B1:m.sd<18446744073709551616)(rate:Nat):
  Calls Tryz.prog 114 #[.pointer (some ⟨g,0,none⟩),.agg #[.int .i64 m.nx,.int .i64 m.ck,.int .u64 m.sd,.slice ao m.L.length cap],.float .f64 rate] w (q9R wb w g m rate K σ):=by
 have HD:=η h;have u0:=q0B w (.cells #[.int .i64 m.nx,.int .i64 m.ck,.int .u64 m.sd,.slice ao m.L.length cap] 71);have c1:=Blk.new w 71 #[.int .i64 m.nx,.int .i64 m.ck,.int .u64 m.sd,.slice ao m.L.length cap];have a0:=η (q7H (h.d.ext u0) [] (by decide));have hc: ∃z c,q1X σ []=(z,c)/\(c==1)=false/\((c==61)=σ.down)/\(σ.down=true->c=61):=by
  unfold q1X
  cases σ.down with
  |true=>exact⟨_,_,rfl,rfl,rfl,fun _=>rfl⟩
  | false=>
   simp only[Bool.false_eq_true,if_false]
   split
   ·exact⟨_,_,rfl,rfl,rfl,fun h=>by cases h⟩
   ·exact⟨_,_,rfl,rfl,rfl,fun h=>by cases h⟩
 obtain⟨z,c,hz,u1,H0,I0⟩:=hc;rw[hz] at a0;have HV:=η (q8u m.nx m.ck m.sd ao m.L.length cap m.L _ (hG.ext u0) (by omega) E1);have HG:=η hG;have j0:=η u0;have O:=η c1;obtain⟨w1,D1⟩: ∃w1,w.alloc (.cells #[.int .i64 m.nx,.int .i64 m.ck,.int .u64 m.sd,.slice ao m.L.length cap] 71)=w1:=⟨_,rfl⟩
 rw[D1] at a0 HV j0 O;obtain⟨p,hp⟩: ∃p,w.heap.size=p:=⟨_,rfl⟩
 have HP:=η hp;rw[hp] at O;have b0:w1.cell? ⟨p,0,none⟩=some (.int .i64 m.nx):=O.o.cell 0;have b1:w1.cell? ⟨p,1,none⟩=some (.int .i64 m.ck):=O.o.cell 1;have b2:w1.cell? ⟨p,2,none⟩=some (.int .u64 m.sd):=O.o.cell 2;have b3:w1.cell? ⟨p,3,none⟩=some (.slice ao m.L.length cap):=O.o.cell 3;have M0:=@run_makeMap Tryz.prog;clear h u0 c1 hz hG
 cases hv:q0c m.nx m.ck m.L with
 | false=>
  rw[hv] at HV;have c0:=η hv;clear hv;go_enter Tryz.func114,Tryz.ntmps114;go_wp2_with fail;refine a0.o.mono ?_;rintro e w2 ⟨rfl,rfl⟩;go_wp2_with fail;refine HV.o.mono ?_;rintro e w2 ⟨rfl,G⟩;have I:=η (j0.o.trans G);clear G;go_wp2_with fail;go_ret2;exact .inl ⟨c0.o,rfl,⟨F,HD.o.grow I.o⟩,fun i j=>I.o.block i (HD.o.k i j).1⟩
 | true =>
  rw[hv] at HV;have c0:=η hv;clear hv
  cases hdn:σ.down with
  | true=>
   rw[hdn] at H0;obtain rfl:=I0 hdn;have q0:=η hdn;clear hdn I0;go_enter Tryz.func114,Tryz.ntmps114;go_wp2_with fail;refine a0.o.mono ?_;rintro e w2 ⟨rfl,rfl⟩;go_wp2_with fail;refine HV.o.mono ?_;rintro e w2 ⟨rfl,G⟩;have I:=η (j0.o.trans G);clear G;go_wp2_with fail;go_ret2;exact .inr (.inl ⟨c0.o,q0.o,rfl,⟨F,HD.o.grow I.o⟩,fun i j=>I.o.block i (HD.o.k i j).1⟩)
  | false =>
   rw[hdn] at H0;have q0:=η hdn;have o0:m.ok:=⟨c0.o,A1,B1⟩
   have t0:=Man.bounds o0;clear hdn I0;go_enter Tryz.func114,Tryz.ntmps114;go_wp2_with fail;refine a0.o.mono ?_;rintro e w2 ⟨rfl,rfl⟩;go_wp2_with fail;refine HV.o.mono ?_;rintro e w2 ⟨rfl,G⟩;have I:=η (j0.o.trans G);have b0:=q0A G b0;have b1:=q0A G b1;have b2:=q0A G b2;have b3:=q0A G b3;have P0:=η (O.o.ext G);clear G;go_wp2_with fail;refine(z2F m.nx m.ck m.sd ao m.L.length cap m.L w2 (HG.o.ext I.o) (fun i=>by have:=t0.2.2.1 i;omega) (by omega)).mono ?_;rintro e w3 ⟨v3,x0,rfl,p0,Z0⟩;have D0:=η p0;have r0:=η Z0;obtain⟨a3,k3,rfl⟩:=p0.own.slice;clear p0 Z0;go_wp2_with fail;refine(y0a w3).mono ?_;rintro e w4 ⟨gm,rfl,Q,y1,G0⟩;have C0:=η Q;have s0:=η G0;have b3:=q0A G0 (q0A r0.o b3);clear Q G0;obtain⟨U,k0⟩: ∃U,(w4.alloc (.map #[] 0)).alloc (.cells #[.pointer (some ⟨g,0,none⟩),.int .i64 m.nx,.int .i64 m.ck,.int .u64 m.sd,.slice a3 m.L.length k3,.float .f64 rate,.pointer (some ⟨gm,0,none⟩),.map (some w4.heap.size)] 202)=U:=⟨_,rfl⟩
   have d0:Hd (Ext w4 U):=η (k0▸q5r _ _ _)
   have O0:Hd (Blk U (w4.heap.size+1) 202 #[.pointer (some ⟨g,0,none⟩),.int .i64 m.nx,.int .i64 m.ck,.int .u64 m.sd,.slice a3 m.L.length k3,.float .f64 rate,.pointer (some ⟨gm,0,none⟩),.map (some w4.heap.size)]):=η (by
    have h:=Blk.new (w4.alloc (.map #[] 0)) 202 #[.pointer (some ⟨g,0,none⟩),.int .i64 m.nx,.int .i64 m.ck,.int .u64 m.sd,.slice a3 m.L.length k3,.float .f64 rate,.pointer (some ⟨gm,0,none⟩),.map (some w4.heap.size)];rw[ρ,k0] at h
    exact h)
   have S0:Hd (U.ownsMap Tryz.prog 3 q6L w4.heap.size 0 (.map [])):=η (k0▸(World.ownsMap_made (H:=Unit) w4 Tryz.prog 3 q6L).alloc _);have p1:Hd (U.heap.size=w4.heap.size+2):=η (by rw[<-k0,ρ,ρ]);have r1:=q0A d0.o b3;have e0:=η (((I.o.trans r0.o).trans s0.o).trans d0.o);have x1:gm<w4.heap.size:=C0.o.blk.lt
   have R0:Hd (IxK wb U g (w4.heap.size+1) ⟨m,rate,[],(fun _=>none),0⟩ σ K):=η (by
    have hD:=HD.o;have I1:=I.o.size;have J1:=r0.o.size;have K1:=s0.o.size;have M1:=hD.ext.size;have z1:OGr U w2.heap.size 44 3 (.slice a3 m.L.length k3) x0 m.L:=(D0.o.ext s0.o).ext d0.o;have J: ∀i,((Value.slice a3 m.L.length k3).ownBlock=some i\/ ∃q,(x0.getD q (.slice none 0 0)).ownBlock=some i)->w2.heap.size<=i/\i<w3.heap.size:=fun i j=>z0C D0.o i j
    refine⟨F,gm,w4.heap.size,fun i=>((Value.slice a3 m.L.length k3).ownBlock=some i\/ ∃q,(x0.getD q (.slice none 0 0)).ownBlock=some i),⟨hD.d.ext e0.o,⟨⟨o0,okM.nil,υ _⟩,.slice a3 m.L.length k3,x0,.slice none 0 0,.map [],0,⟨O0.o,C0.o.ext d0.o,q8x z1 (υ _),S0.o,ι _,fun n=>rfl,fun n e he=>(by cases he),fun i j=>?_,fun i j=>Ψ (J i j).2 (by have:=d0.o.size;omega),fun i j hx=>?_,⟨by omega,by omega,by omega⟩⟩⟩,fun i j=>?_⟩,hD.bF,fun i j=>?_,fun i j=>by have:=J i j;omega,hD.ext.trans e0.o,fun i j=>?_⟩
    ·rcases j with j|j|j
     ·exact .inl j
     ·exact .inr j
     ·cases j
    ·have h1:=J i j
     rcases hx with rfl|rfl|rfl<;>omega
    ·have h1:=hD.d.Flt i j
     exact⟨fun hx=>by rcases hx with rfl|rfl|rfl<;>omega,fun hy=>by have:=J i hy;omega⟩
    ·rcases j with rfl|rfl|rfl<;>omega
    ·have h1:=hD.k i j
     have h2:=e0.o.size
     exact⟨by omega,h1.2,fun hx=>by rcases hx with rfl|rfl|rfl<;>omega,fun hy=>by have:=J i hy;omega⟩)
   have N0:=η (z3H ao m.L.length cap m.L U (HG.o.ext e0.o) (by omega));have t1: ∀i,K i->i<w.heap.size:=fun i j=>(HD.o.k i j).1
   have i0:Hd (Stay K w U):=η fun i j=>e0.o.block i (t1 i j)
   clear M0;have M0:=@run_makeMap Tryz.prog;go_wp2_with fail;refine N0.o.mono ?_;rintro e w5 ⟨va,rfl,Z,a1⟩;obtain⟨aa,ka,rfl⟩:=Z.slice;obtain⟨ns,g0⟩: ∃ns,m.L.flatten=ns:=⟨_,rfl⟩
   have o1:=η g0;rw[g0] at Z;have B0:=η (LsW.start R0.o (W:=w5) a1 Z);rw[g0];obtain⟨R,hR⟩: ∃R,q3A σ ns (fun _=>none)=R:=⟨_,rfl⟩
   have HR:=η hR
   have y0:Hd (∀e w',((R.2.1≠0/\e= .returned (.tuple #[.pointer none,.int .i64 R.2.1])/\DkX wb w' g R.2.2 K/\Stay K U w')\/(R.2.1=0/\ ∃gx t,e= .returned (.tuple #[.pointer (some ⟨gx,0,none⟩),.int .i64 0])/\IxK wb w' g gx ⟨m,rate,[],t,ns.length⟩ R.2.2 K/\Stay K U w'/\ ∀n,(t n).map TE.L=R.1 n))->q9R wb w g m rate K σ e w'):=η (by
    intro e w' h;unfold q9R;rw[g0,hR];rcases h with⟨q1,q2,q3,q4⟩|⟨q1,gx,t,q2,q3,q4,q5⟩
    ·exact .inr (.inr (.inl ⟨c0.o,q0.o,q1,q2,q3,i0.o.trans q4⟩))
    ·exact .inr (.inr (.inr ⟨c0.o,q0.o,q1,gx,t,q2,q3,i0.o.trans q4,q5⟩)))
   obtain⟨n,hn⟩: ∃n,ns.length=n:=⟨_,rfl⟩
   have h0:=η hn;have G1:n<=40:=by rw[<-hn,<-g0];exact t0.2.1
   have m1:=η t0;obtain⟨gx,J0⟩: ∃gx,w4.heap.size+1=gx:=⟨_,rfl⟩
   rw[hn] at B0;rw[J0] at B0;rw[hn];simp only[J0];clear Z a1 g0 hn N0 j0 I r0 s0 d0 O0 S0 p1 r1 b0 b1 b2 b3 e0 R0 C0 D0 M0 hR t0 HV a0 HG O P0 HP i0 u1 H0 k0 x1 y1 J0;go_wp2_with fail
   go_loopw [44] (fun i W=> ∃(k:Nat) (t:Int->Option TE) (acc:Int->Option (List En)) (τ:DM),k<=n/\i= .int .i64 (k:Int)/\LsW wb U W g gx ⟨m,rate,[],t,k⟩ τ K (.slice aa n ka) (.slice none 0 0) [] ns [] U.heap.size/\(∀x,(t x).map TE.L=acc x)/\q3A τ (ns.drop k) acc=R) (fun i _=>n-(intOf i).toNat)
   case atStart=>exact⟨0,fun _=>none,fun _=>none,σ,υ _,rfl,B0.o,fun x=>rfl,HR.o⟩
   case round =>
    obtain⟨k,tt,acc,τ,hk,rfl,g1,k1,y⟩:=hrel;have HL:=η g1;have T0:=η y;have U0:=η k1;clear g1 y k1;by_cases J:k<n
    ·have hd:decide ((k:Int)<(n:Int))=true:=ζ (by omega)
     have q1:IntKind.i64.wrap ((k:Int)+1)=(k:Int)+1:=by rw[ν];omega
     have q5:(k:Int)<(n:Int):=by omega
     obtain⟨_,_,ea,K0⟩:=q2r HL.o.all;rw[h0.o] at ea
     cases ea;rw[h0.o] at K0;obtain⟨ba,oa,rfl,n0⟩:=K0.at J;have L0:k<ns.length:=by rw[h0.o];exact J
     have l0:ns.drop k=ns.getD k 0::ns.drop (k+1):=by
      rw[List.drop_eq_getElem_cons L0,δ,γ L0];rfl
     have Q:ns.getD k 0∈m.L.flatten:=by rw[o1.o];exact q3d ns k L0
     have y:=T0.o;rw[l0] at y;have l1:=(m1.o.2.2.2.1 _ Q).1;generalize ns.getD k 0=nk at*;rw[q3A] at y;obtain⟨F2,s1,W0,Y2,h2⟩:=HL.o.i;have E0:=η (z9X h2.i.d nk);have Q0:=η h2;obtain⟨r,hr⟩: ∃r,q5N τ nk=r:=⟨_,rfl⟩
     rw[hr] at y E0;obtain⟨o,c,F1⟩:=r;clear K0 l0 Q h2
     cases o with
     | none=>
      simp only at y;have hc:=z7l hr;have g2:(c !=0)=true:=by simpa using hc
      have F0:=η y;have HC:=η hc;clear hr y hc;go_wp2_with fail;refine E0.o.mono ?_;rintro e3 w3 ⟨rfl,f0⟩;obtain⟨X,S⟩:=Q0.o.disk f0
      have HE:Hd (q9R wb w g m rate K σ (.returned (.tuple #[.pointer none,.int .i64 c])) w3):=η (y0.o _ _ (.inl (by
       rw[<-F0.o]
       exact⟨HC.o,rfl,⟨_,X.i.d,X.bF,X.ext,fun i j=>⟨(X.k i (.inl j)).1,(X.k i (.inl j)).2.1⟩⟩,HL.o.stay.trans fun i j=>S i (.inl j)⟩)))
      clear f0 X S;go_wp2_with fail;go_ret2;exact HE.o
     | some L=>
      simp only at y;obtain rfl:=z3t hr;have F0:=η y;clear hr y;go_wp2_with fail;refine E0.o.mono ?_;rintro e3 w7 ⟨t,may,T,w6,rfl,f0,v0,j1,hT⟩;obtain⟨X,S⟩:=Q0.o.disk f0;have h7:=X.grow v0;have z0:Stay (fun i=>K i\/z8J (.slice (some ⟨ba,oa,none⟩) n ka) (.slice none 0 0) [] i) wr w7:=S.trans (X.kExt v0);obtain⟨i1,v7,P1,O1,D7,N1,m0⟩:=h7.i.x;have c7:=m0.c7;have d1:=m0.cnt;simp only at d1;obtain⟨w8,C1,X0,e1⟩:=m0.map.update Tryz.keyInt Tryz.underlying200 (by unfold maxLen;omega) (keyOf_int_mk Tryz.underlying3 l1) (z5q t);have N:OffS (fun i=>i=W0) w7 w8:=OffS.grown e1 fun i j=>by injection j with j;exact j.symm
      have Y0: ∀i,T i->¬InX gx s1 W0 i:=fun i j hx=>by have:=hT i j;have:=X.i.x.xlt i hx;omega
      have f1:=m0.putO X0 N j1 Y0
      obtain⟨h8,A0⟩:=h7.turnV (K:=fun i=>K i\/z8J (.slice (some ⟨ba,oa,none⟩) n ka) (.slice none 0 0) [] i) (st1:=⟨m,rate,[],(fun x=>if x=nk then some ⟨t,L,may⟩ else tt x),k+1⟩) (Y1:=fun i=>Y2 i\/T i) ⟨⟨o0,okM.nil,by show k+1<=1000000;omega⟩,_,_,_,_,_,f1⟩ (N.mono fun i _ j=> .inr (.inr j)) (fun i j=>by
       rcases j with j|j
       ·exact⟨h7.bY i j,fun hf=>(h7.i.ap i hf).2 j⟩
       ·have h9:=hT i j
        exact⟨by have:=X.ext.size;omega,fun hf=>by have:=X.i.d.Flt i hf;omega⟩) (fun i j=>⟨j,fun hy=>by
       rcases hy with hy|hy
       ·exact(h7.k i j).2.2.2 hy
       ·have:=hT i hy;have:=(X.k i j).1;omega⟩)
      have n1:=η (HL.o.step ⟨_,_,_,_,h8⟩ (z0.trans A0) (by have:=f0.off.size;have:=v0.size;have:=N.size;omega));have V0:Hd (∀x,(if x=nk then some (⟨t,L,may⟩:TE) else tt x).map TE.L=if x=nk then some L else acc x):=η fun x=>by
       by_cases hx:x=nk
       ·rw[ξ hx,ξ hx];rfl
       ·rw[κ hx,κ hx];exact U0.o x
      have L1:=η C1;clear f0 X S h7 z0 i1 m0 X0 e1 N Y0 f1 h8 A0 j1 hT v0 d1;go_wp2_with fail
      go_roundw
      case rel=>exact⟨k+1,_,_,F1,J,by go_num,n1.o,V0.o,F0.o⟩
      case measure=>simp[intOf];omega
    ·obtain rfl:k=n:=by omega
     have hd:decide ((k:Int)<(k:Int))=false:=ε (by omega);have y:=T0.o;rw[List.drop_of_length_le (by rw[h0.o];exact ι _),q3A] at y
     have HE:Hd (q9R wb w g m rate K σ (.returned (.tuple #[.pointer (some ⟨gx,0,none⟩),.int .i64 0])) wr):=η (y0.o _ _ (.inr (by
      rw[<-y]
      exact⟨rfl,gx,tt,rfl,by rw[h0.o];exact HL.o.i.beside fun i j=> .inl j,HL.o.stay,U0.o⟩)))
     clear y;go_wp2_with fail;go_ret2;exact HE.o
end
end
section
open Go.RowKit
def toc(t:To):List Value:=[.string ⟨t.s.toArray⟩,.int .i64 t.v,.string ⟨t.e.ty.toArray⟩,.string ⟨t.e.da.toArray⟩,.float .f64 t.e.we]
def toV(t:To):Value:= .agg #[.string ⟨t.s.toArray⟩,.int .i64 t.v,.string ⟨t.e.ty.toArray⟩,.string ⟨t.e.da.toArray⟩,.float .f64 t.e.we]
def q3u(L:List To):List Value:=(L.map toc).flatten
theorem q4V(t:To):(toc t).length=5:=rfl
theorem q7O(t:To)(L:List To):q3u (t::L)=toc t++q3u L:=rfl
theorem z1m(L M:List To):q3u (L++M)=q3u L++q3u M:=by unfold q3u;rw[List.map_append,List.flatten_append]
theorem z0S(L:List To)(t:To):q3u (L++[t])=q3u L++toc t:=by rw[z1m];unfold q3u;simp
theorem q7P(L:List To):(q3u L).length=L.length*5:=by
 induction L with
 |nil=>rfl
 |cons k L ih=>rw[q7O,θ,ih,χ,q4V];omega
theorem q4p : ∀(L:List To) (i j:Nat),i<L.length->j<5->(q3u L)[i*5+j]? =(toc (L.getD i to0))[j]?
 |[],i,j,h,_=>by simp at h
 | k::L,0,j,_,hj=>by
  rw[q7O,List.getElem?_append_left (by rw[q4V];omega)];simp
 | k::L,i+1,j,h,hj=>by
  rw[q7O,List.getElem?_append_right (by rw[q4V];omega),show(i+1)*5+j-(toc k).length=i*5+j by rw[q4V];omega,q4p L i j (by simpa using h) hj];simp
theorem z8G(L:List To): ∀u∈q3u L,u.oneCell'=true:=fun u i=>by
 unfold q3u at i;obtain⟨l,j,d⟩:=List.mem_flatten.1 i;obtain⟨f,_,rfl⟩:=List.mem_map.1 j;unfold toc at d;simp only[List.mem_cons,List.not_mem_nil,or_false] at d;rcases d with rfl|rfl|rfl|rfl|rfl<;>rfl
structure Tos(w:World)(ao:Option Addr)(n cap:Nat)(L:List To):Prop where
 len:L.length=n
 fits:n<=cap
 bound:cap<=9223372036854775807
 nil:ao=none->cap=0
 rd:Rd w ao (q3u L)
theorem Tos.ext{w w':World}{n:Nat}{L:List To}(h:Tos w ao n cap L)(k:Ext w w'):Tos w' ao n cap L:=⟨h.len,h.fits,h.bound,h.nil,h.rd.ext k⟩
theorem Tos.at{w:World}{n:Nat}{L:List To}(h:Tos w ao n cap L){i:Nat}(S:i<n):
  ∃b off,ao=some ⟨b,off,none⟩/\w.cell? ⟨b,off+i*5,none⟩=some (.string ⟨(L.getD i to0).s.toArray⟩)/\w.cell? ⟨b,off+i*5+1,none⟩=some (.int .i64 (L.getD i to0).v)/\w.cell? ⟨b,off+i*5+2,none⟩=some (.string ⟨(L.getD i to0).e.ty.toArray⟩)/\w.cell? ⟨b,off+i*5+3,none⟩=some (.string ⟨(L.getD i to0).e.da.toArray⟩)/\w.cell? ⟨b,off+i*5+4,none⟩=some (.float .f64 (L.getD i to0).e.we):=by
 have U:=h.len;have J:=q4p L i 0 (by omega) (by decide);have N:=q4p L i 1 (by omega) (by decide);have O:=q4p L i 2 (by omega) (by decide);have Q:=q4p L i 3 (by omega) (by decide);have R:=q4p L i 4 (by omega) (by decide);obtain⟨b,off,rfl,q⟩:=h.rd _ _ J;obtain⟨_,_,d,r⟩:=h.rd _ _ N
 cases d;obtain⟨_,_,j,y⟩:=h.rd _ _ O
 cases j;obtain⟨_,_,m,G⟩:=h.rd _ _ Q
 cases m;obtain⟨_,_,o,I⟩:=h.rd _ _ R
 cases o;exact⟨b,off,rfl,q,r,y,G,I⟩
theorem Tos.of_own{w:World}{B:Nat}{e:TypeId}{v:Value}{L:List To}(h:Own w B e 5 v L.length (q3u L)): ∃ao cap,v= .slice ao L.length cap/\Tos w ao L.length cap L:=by
 obtain⟨ao,cap,rfl,d,i,j,m⟩:=h.rd;exact⟨ao,cap,rfl,rfl,d,i,j,m⟩
theorem Tryz.infoTo :(Tryz.prog.info? 57).map (fun i=>(i.zero,i.size,i.bytes))=some (some (.agg #[.string ⟨#[]⟩,.int .i64 0,.string ⟨#[]⟩,.string ⟨#[]⟩,.float .f64 0]),5,64):=by kernel_rfl
end
end Go.Proofs.YtjigghjfcbbkiaaGreatDoor
