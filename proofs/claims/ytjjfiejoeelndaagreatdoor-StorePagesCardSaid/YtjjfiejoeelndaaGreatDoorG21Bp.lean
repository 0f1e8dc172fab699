/- A region that draws its order, in a round of a range over a function. -/
import Derived.StillTailTactics
import Derived.OrdersIn
import Derived.TacticsIn
import Derived.Test.YtjjfiejoeelndaaGreatDoorG13Bp
import Derived.Test.YtjjfiejoeelndaaGreatDoorG20Bp
set_option linter.unusedVariables false
set_option linter.unusedSimpArgs false
set_option maxRecDepth 100000
set_option maxHeartbeats 1600000
namespace Go.Proofs.YtjjfiejoeelndaaGreatDoor
section
section
variable {P :Program} {ops:Array Oper} {Q:Exit→Act→World→Prop} {n lo:Nat}
theorem q9f {o:Oper} {a:Act} {K:Act→World→Prop} (r:Result Next) (h:o.upon P a K Q r) (hn:1≤n):o.uponIn (Fence.wide.inRound lo) n P a K Q r:=by
 cases r with
 | ok x w'=>
  cases x with
  |value v=>exact h
  |skip=>exact h
  |defer d=>exact h
  |enter f args=>exact ⟨fun _=>hn,CallsIn.inRound lo (callsIn_wide.2 h)⟩
  |row rw args=>exact ⟨fun _=>hn,fun c cs _=>let ⟨v,w2,r2,s⟩:=h c cs;⟨v,w2,r2,stepsIn_wide.2 s⟩⟩
  |_=>exact h.elim
 | halt x w'=>
  cases x with
  |panic v=>exact h
  |_=>exact h.elim
theorem q9Z {i:Nat} {K K':Act→World→Prop} {a:Act} {w:World} (hd: ∀o∈ops.toList,∀c,o.op≠ .defer c) (hQ:¬LetsOut Q) (hn:1≤n) (hK: ∀a w,K a w→K' a w) (h:wpOp P ops Q i K a w):wpOpIn (Fence.wide.inRound lo) n P ops Q i K' a w:=by
 have h:=wpOp_mono hK h;unfold wpOp at h;unfold wpOpIn
 cases ho:ops[i]? with
 |none=>rw[ho] at h;exact h
 | some o=>
  rw[ho] at h;simp only at h⊢;have hmem:o∈ops.toList:=by
   have:=Array.mem_of_getElem? ho
   simpa using this
  split
  ·rename_i hw
   rw[if_pos hw] at h;rcases h with h|h
   ·refine ⟨fun f _=>trivial,?_⟩
    show o.uponIn (Fence.wide.inRound lo) n P a K' Q ((o.semAt (some lo) a.eval).run P w);rw[Oper.semAt_some lo a.eval o (hd o hmem)];exact q9f _ h hn
   ·exact absurd h.2 hQ
  ·rename_i hw
   rw[if_neg hw] at h;exact ⟨fun f _=>trivial,h⟩
theorem q4f {md:Region.Mode} (hd: ∀o∈ops.toList,∀c,o.op≠ .defer c) (hQ:¬LetsOut Q) (hn:1≤n): ∀(fuel:Nat) (listed:Array Bool) (a:Act) (w:World),wpAny P md ops Q fuel listed a w→wpAnyIn (Fence.wide.inRound lo) n P md ops Q fuel listed a w
 |0,_,_,_,h=>h
 |fuel+1,listed,a,w,h=>⟨h.1,fun i hi=>q9Z hd hQ hn (fun a w h=>q4f hd hQ hn fuel _ a w h) (h.2 i hi)⟩
end
theorem q9A {P:Program} {id n lo:Nat} {Q:Exit→Act→World→Prop} {a:Act} {w:World} {l:List Oper} (k:Nat) (hm:P.follows .mixedOrders=true) (hB:Region.lexTailB .any l.toArray k=true) (hd: ∀o∈l,∀c,o.op≠ .defer c) (hQ:¬LetsOut Q) (hn:1≤n)
  (h:wpStill P l.toArray w.drew (fun a'=>wpList P l.toArray Q (l.drop k) a' w.drew) (l.take k) a):(Code.region id l.toArray true).wpIn (Fence.wide.inRound lo) n P Q a w:=by
 simp only[Region.lexTailB,Bool.and_eq_true,decide_eq_true_eq] at hB;obtain ⟨⟨⟨⟨hsel,hn1⟩,hs⟩,hc⟩,hlex⟩:=hB;have hn':k<l.length:=by simpa using hn1
 have htl:(l.take k).length=k:=by simp;omega
 have hdl:(l.drop k).length=l.toArray.size-k:=by simp
 have inv0:HeadInv .any l.toArray k (Array.replicate l.toArray.size false):=
  ⟨by simp,fun j oj _ hl=>(by rw[getD_replicate_false] at hl;cases hl),fun t _ ht=>getD_in (by simpa using ht) (getD_replicate_false _ _)⟩
 have H:=wpAnyL_lex (md:= .any) (g:=l.toArray.size-k) hsel hs hc hn1 (l.take k) 0 _ a (fun j hj=>by
  have hj':j<k:=by rw[htl] at hj;exact hj
  simp[hj']) (by simpa using htl) inv0 (by rw[htl];exact hlex) h
 have H2:=wpAny_of_head (Q':=Q) (g:=l.toArray.size-k) (fun listed a' hL=>by
  have:=wpAny_of_seq (md:= .any) (Q':=Q) (l.drop k) k listed a' w.drew (fun j=>by simp[List.getElem?_drop]) (by rw[hdl];exact hL.1) hL.2
  rwa [hdl] at this) _ _ _ H
 rw[htl,show k+(l.toArray.size-k)=l.toArray.size by omega] at H2;exact wpIn_region_any hm (q4f (by simpa using hd) hQ hn _ _ _ _ H2)
end
section
open Go.RowKit Go.Shelf
attribute [local go_sem] Oper.semAt_some
structure Us (w:World) (ao:Option Addr) (n cap:Nat) (L:List Int):Prop where
 len:L.length=n
 fits:n≤cap
 bound:cap≤9223372036854775807
 nil:ao=none→cap=0
 rd:Rd w ao (L.map (Value.int .u64))
theorem Us.ext {w w':World} {ao:Option Addr} {n cap:Nat} {L:List Int} (h:Us w ao n cap L) (k:Ext w w'):Us w' ao n cap L:=⟨h.len,h.fits,h.bound,h.nil,h.rd.ext k⟩
def q5b (bs:List UInt8):Array Value:=(bs.map fun b=>Value.int .u8 (b.toNat:Int)).toArray
def z5x (n:Nat):Array Value:=q5b (List.replicate n 0)
theorem z9T (n:Nat):z5x n=madeCells #[.int .u8 0] n:=by
 apply Array.toList_inj.1;rw[toList_madeCells_one];unfold z5x q5b;simp
theorem z8Q {W:World} {br q:Nat} {bs:List UInt8} {Z:Int} (h:W.heap[br]? =some (.cells (q5b bs) 5 (0,0))) (hq:q<bs.length) (h0:0≤Z) (h9:Z≤255):
  (W.setCell ⟨br,q,none⟩ (.int .u8 Z)).heap[br]? =some (.cells (q5b (bs.set q (UInt8.ofNat Z.toNat))) 5 (0,0)):=by
 have e:(q5b bs).setIfInBounds q (.int .u8 Z)=q5b (bs.set q (UInt8.ofNat Z.toNat)):=by
  unfold q5b;rw[List.setIfInBounds_toArray];have:((UInt8.ofNat Z.toNat).toNat:Int)=Z:=by
   rw[UInt8.toNat_ofNat'];have:Z.toNat % 256=Z.toNat:=Nat.mod_eq_of_lt (by omega);simp only[Nat.reducePow,this];omega
  refine congrArg List.toArray ?_;apply List.ext_getElem?;intro j;by_cases hj:q=j
  ·subst hj
   simp[hq];omega
  ·simp[hj,List.getElem?_set]
 simp[World.setCell,Array.getElem?_modify,h,e]
def y3p (D:Nat):Deferred:={target:= .collected D,args:=#[]}
def q8T (W:World) (br N:Nat):Prop:= ∃bs:List UInt8,bs.length=N∧W.heap[br]? =some (.cells (q5b bs) 5 (0,0))
def z8h (W:World) (B:Nat) (Ds:List Nat):Prop:=Ds.Nodup∧ ∀D∈Ds,B≤D∧W.heap[D]? =some (.deferred (some []))
theorem z3W {β:Type} (br N:Nat):Go.Own (fun (_:β) W=>q8T W br N):=by
 rintro s X Y row ⟨bs,h1,h2⟩ hg hr;refine ⟨bs,h1,(hg.block br (Array.getElem?_eq_some_iff.1 h2).1 fun e=>?_).trans h2⟩;obtain ⟨o,ho,hc⟩:=hr br e.symm;rw[h2] at ho;cases ho;cases hc
theorem z7P {β:Type} {B C:Nat} {Ds:List Nat} (hC: ∀D∈Ds,D<C):OwnFrom C (fun (_:β) W=>z8h W B Ds):=by
 rintro s X Y row ⟨h1,h2⟩ hg hr;refine ⟨h1,fun D hD=>⟨(h2 D hD).1,(hg.block D (Array.getElem?_eq_some_iff.1 (h2 D hD).2).1 fun e=>?_).trans (h2 D hD).2⟩⟩;have:=(hr D e.symm).1;have:=hC D hD;omega
theorem q7Q {F:Fence} {n:Nat} {P:Program} {fn:Func} {tmps:Array Value} {R:Ending→World→Prop} {w0:World} {B:Nat} (hB:B≤w0.heap.size) (hR: ∀W,Below B w0 W→LeavesIn F n P fn tmps R [] .returning W):
  ∀(Ds:List Nat) (W:World),z8h W B Ds→Below B w0 W→LeavesInM F n P fn tmps R (Ds.map y3p) .returning W
 |[],W,_,hb=>hR W hb
 | D::Ds,W,⟨h1,h2⟩,hb=>by
  obtain ⟨h3,h4⟩:=List.nodup_cons.1 h1;obtain ⟨h5,h6⟩:=h2 D List.mem_cons_self;refine ⟨by simp,.inl ⟨D,_,rfl,run_takeDeferred h6,?_⟩⟩;refine q7Q hB hR Ds _ ⟨h4,fun E hE=>⟨(h2 E (List.mem_cons_of_mem _ hE)).1,?_⟩⟩ (hb.grown (grownBy_putObj' W D _) (Nat.le_trans hB hb.size) fun q e=>by cases e;exact h5);exact ((grownBy_putObj' W D _).block E (Array.getElem?_eq_some_iff.1 (h2 E (List.mem_cons_of_mem _ hE)).2).1 fun e=>h3 (by cases e;exact hE)).trans (h2 E (List.mem_cons_of_mem _ hE)).2
theorem y1d {ao:Option Addr} {n cap:Nat} {L:List Int} (p b N:Nat) (w:World) (hx:Us w ao n cap L) (hn:n≤1000) (hp:p≤16) (hb:b=8*N) (hN:1≤N) (hN9:N≤100000):
  Calls Tryz.prog 234 #[.slice ao n cap,.int .i64 (p:Int),.int .i64 (b:Int)] w fun e w'=> ∃bs:List UInt8,e= .returned (.string ⟨bs.toArray⟩)∧bs.length=N∧Ext w w':=by
 have Hx:=Lib.hid hx;have HLen:=Lib.hid hx.len;have b1:=hx.fits;have b2:=hx.bound;have a1:¬((b:Int)<1):=by omega
 have a2:¬((1000000:Int)<(b:Int)):=by omega
 have a3:Int.tmod (b:Int) 8=0:=by
  rw[Int.tmod_eq_emod_of_nonneg (by omega)];omega
 have a3':(b:Int) % 8=0:=by omega
 have a4:Int.tdiv (b:Int) 8=(N:Int):=by
  rw[Int.tdiv_eq_ediv_of_nonneg (by omega)];omega
 have a4':(b:Int)/8=(N:Int):=by omega
 have a5:IntKind.i64.wrap (N:Int)=(N:Int):=by rw[IntKind.wrap_i64];omega
 have HB8:=Lib.hid hb;clear hx hb;refine (callsIn_wide (n:=3)).1 ?_;refine callsIn_of_wp_marks Tryz.func234 rfl trivial ?_ rfl;simp only[Tryz.ntmps234,List.size_toArray,List.length_cons,List.length_nil,Nat.reduceAdd,Nat.reduceSub,Array.replicate_succ,Array.replicate_zero,List.push_toArray,List.append_toArray,List.nil_append,List.cons_append];obtain ⟨i0,hi,hz0,hz1,hz2⟩:=info_parts Tryz.infoU8;have hmk:(Instr.makeSlice 128 (.int .i64 (N:Int)) (.int .i64 (N:Int))).run Tryz.prog w= .ok (.slice (some ⟨w.heap.size,0,none⟩) N N) (w.alloc (.cells (z5x N) 5)):=by
  have h:=run_makeSlice (P:=Tryz.prog) w 128 5 i0 (.int .u8 0) Tryz.underlying128 hi hz0 .i64 .i64 (N:Int) (N:Int) (by omega) (by omega) (by rw[hz1];omega) (by rw[hz2];omega) (by omega);have e:((N:Int)).toNat=N:=by omega
  rw[e,hz1,Nat.mul_one] at h;rw[h,z9T]
  rfl
 gi_wp2
 clear hmk;obtain ⟨W0,hW0⟩: ∃W0,(w.alloc (.cells (z5x N) 5)).alloc (.cells #[.slice (some ⟨w.heap.size,0,none⟩) N N] 128)=W0:=⟨_,rfl⟩
 have hsz:W0.heap.size=w.heap.size+2:=by rw[←hW0];simp
 have hbox:Boxed W0 (w.heap.size+1) 128 (.slice (some ⟨w.heap.size,0,none⟩) N N):=by
  rw[←hW0];have:=Boxed.new (w.alloc (.cells (z5x N) 5)) 128 (.slice (some ⟨w.heap.size,0,none⟩) N N);rw[World.size_alloc] at this;exact this
 have hby:q8T W0 w.heap.size N:=by
  rw[←hW0];exact ⟨_,List.length_replicate,((q0D (w.alloc (.cells (z5x N) 5)) _).block _ (by simp)).trans (World.alloc_heap_new w _)⟩
 have hx0:Ext w W0:=by rw[←hW0];exact (q0D _ _).alloc _
 rw[hW0];clear hW0;refine wpIn_loop (fun a' W=> ∃(u9 u28 u29 u30 u31 u32 u33 u34 u46:Value) (i:Nat) (Ds:List Nat),a'={tmps:=(List.toArray ((.slice ao n cap:Value):: .int .i64 (p:Int):: .int .i64 (b:Int)::undef::undef::undef:: .string ⟨#[]⟩:: .pointer (some ⟨w.heap.size+1,0,none⟩)::undef::u9::undef:: .int .i64 (b:Int):: .bool false:: .bool false:: .int .i64 (b:Int):: .bool false:: .bool false:: .bool false:: .int .i64 (b:Int):: .int .i64 0:: .bool false:: .bool false:: .int .i64 (b:Int):: .int .i64 (N:Int):: .slice (some ⟨w.heap.size,0,none⟩) N N:: .slice ao n cap:: .int .i64 (n:Int):: .int .i64 (i:Int)::u28::u29::u30::u31::u32::u33::u34::undef::undef::undef::undef::undef::undef::undef::undef::undef::undef::undef::u46::undef::undef::[])),defers:=Ds.map y3p}∧i≤n∧Boxed W (w.heap.size+1) 128 (.slice (some ⟨w.heap.size,0,none⟩) N N)∧q8T W w.heap.size N∧z8h W w.heap.size Ds∧Below w.heap.size w W) (fun a' _=>n-(intOf (a'.tmps.getD 27 undef)).toNat) ?start ?round
 case start=>exact ⟨undef,undef,undef,undef,undef,undef,undef,undef,undef,0,[],rfl,Nat.zero_le _,hbox,hby,⟨List.nodup_nil,fun _ h=>by cases h⟩,hx0⟩
 case round=>
  clear hbox hby hx0 hsz;rintro a' W ⟨u9,u28,u29,u30,u31,u32,u33,u34,u46,i,Ds,rfl,hil,hbox,hby,hsh,hbl⟩;by_cases hlt:i<n
  ·have hd:decide ((i:Int)<(n:Int))=true:=by simp;omega
   have hg:(L.map (Value.int .u64))[i]? =some (.int .u64 (L.getD i 0)):=by
    rw[List.getElem?_map,List.getElem?_eq_getElem (by rw[HLen.out];exact hlt)];simp[List.getD,List.getElem?_eq_getElem (show i<L.length by rw[HLen.out];exact hlt)]
   obtain ⟨ab,aoff,rfl,c0⟩:=(Hx.out.ext hbl).rd _ _ hg;generalize L.getD i 0=h at*;have HI:=Lib.hid (And.intro hbox (And.intro hby (And.intro hsh hbl)));clear hbox hby hsh hbl hg
   gi_wp2
   refine ⟨trivial,(z9K _ h p b _).mono ?_⟩;rintro e w' ⟨rfl,rfl⟩
   gi_wp2
   obtain ⟨hbox,hby,hsh,hbl⟩:=HI.out;obtain ⟨W1,hW1⟩: ∃W1,(((W.alloc (.cells #[.int .u64 h] 23)).alloc (.cells #[.int .i64 (p:Int)] 3)).alloc (.cells #[.int .i64 (b:Int)] 3))=W1:=⟨_,rfl⟩
   have hs1:W1.heap.size=W.heap.size+3:=by rw[←hW1];simp
   have d1:Boxed W1 W.heap.size 23 (.int .u64 h):=by rw[←hW1];exact ((Boxed.new W _ _).alloc _).alloc _
   have d2:Boxed W1 (W.heap.size+1) 3 (.int .i64 (p:Int)):=by
    rw[←hW1];have:=Boxed.new (W.alloc (.cells #[.int .u64 h] 23)) 3 (.int .i64 (p:Int));rw[World.size_alloc] at this;exact this.alloc _
   have d3:Boxed W1 (W.heap.size+2) 3 (.int .i64 (b:Int)):=by
    rw[←hW1];have:=Boxed.new ((W.alloc (.cells #[.int .u64 h] 23)).alloc (.cells #[.int .i64 (p:Int)] 3)) 3 (.int .i64 (b:Int));rw[World.size_alloc,World.size_alloc] at this;exact this
   have hx1:Ext W W1:=by rw[←hW1];exact z0C _ _ _ _
   have f1:Boxed W1 (w.heap.size+1) 128 (.slice (some ⟨w.heap.size,0,none⟩) N N):=(hx1.block _ hbox.lt).trans hbox;have f2:q8T W1 w.heap.size N:=by obtain ⟨bs,e1,e2⟩:=hby;exact ⟨bs,e1,(hx1.block _ (Array.getElem?_eq_some_iff.1 e2).1).trans e2⟩
   have f3:z8h W1 w.heap.size Ds:=⟨hsh.1,fun D hD=>⟨(hsh.2 D hD).1,(hx1.block _ (Array.getElem?_eq_some_iff.1 (hsh.2 D hD).2).1).trans (hsh.2 D hD).2⟩⟩
   have f4:Below w.heap.size w W1:=hbl.trans (hx1.mono hbl.size);have hDs: ∀D∈Ds,D<W.heap.size:=fun D hD=>(Array.getElem?_eq_some_iff.1 (hsh.2 D hD).2).1
   have hbx:=hbox.lt;rw[hW1];clear hW1 hbox hby hsh HI;refine wpIn_rangeFunc_ownG (F:=Fence.wide) rfl (by omega) (gf:=271) (lb:=#[.pointer (some ⟨W.heap.size+1,0,none⟩),.pointer (some ⟨W.heap.size,0,none⟩),.pointer (some ⟨W.heap.size+2,0,none⟩)]) rfl trivial (enters_of Tryz.func271 (by kernel_rfl) rfl)
    (z3E (3-1) (by omega) (W.heap.size+1) W.heap.size (W.heap.size+2) h p b hp (by have:=HB8.out;omega) (by have:=HB8.out;omega) W1 d2 d1 d3) y3G (fun W l o o' h=>y3i (by omega) (by omega) (by omega) W l o o' h) (Below.refl _ _) (fun _=>rfl)
    (fun _ W2=>Boxed W2 (w.heap.size+1) 128 (.slice (some ⟨w.heap.size,0,none⟩) N N)∧q8T W2 w.heap.size N∧z8h W2 w.heap.size Ds∧W1.heap.size≤W2.heap.size∧Below w.heap.size w W2)
    (fun _ _ _=>False)
    (OwnFrom.and (Go.Own.from (boxed_own (w.heap.size+1) 128 fun _=>_) _) (OwnFrom.and (Go.Own.from (z3W w.heap.size N) _) (OwnFrom.and (z7P fun D hD=>by have:=hDs D hD;omega) (OwnFrom.and (fun _ _ _ _ hs hg _=>Nat.le_trans hs hg.size) (ownFrom_below (Nat.le_refl _) (by have:=hbl.size;omega))))))
    (fun _ _ _ _ _ hs _ _=>hs)
    ⟨f1,f2,f3,Nat.le_refl _,f4⟩
    (fun x=>{tmps:=(List.toArray ((.slice (some ⟨ab,aoff,none⟩) n cap:Value):: .int .i64 (p:Int):: .int .i64 (b:Int)::undef::undef::undef:: .string ⟨#[]⟩:: .pointer (some ⟨w.heap.size+1,0,none⟩)::undef:: .int .u64 h:: .int .i64 x.1:: .int .i64 (b:Int):: .bool false:: .bool false:: .int .i64 (b:Int):: .bool false:: .bool false:: .bool false:: .int .i64 (b:Int):: .int .i64 0:: .bool false:: .bool false:: .int .i64 (b:Int):: .int .i64 (N:Int):: .slice (some ⟨w.heap.size,0,none⟩) N N:: .slice (some ⟨ab,aoff,none⟩) n cap:: .int .i64 (n:Int):: .int .i64 (i:Int):: .bool true:: .pointer (some ⟨ab,aoff+i,none⟩):: .int .u64 h:: .int .u64 h:: .int .i64 (p:Int):: .int .i64 (b:Int):: .func (.func 271) #[] #[.pointer (some ⟨W.heap.size+1,0,none⟩),.pointer (some ⟨W.heap.size,0,none⟩),.pointer (some ⟨W.heap.size+2,0,none⟩)]:: .int .i64 x.1::undef::undef::undef::undef::undef::undef::undef::undef::undef::undef::u46::undef::undef::[])),defers:=[]}) ?assign ?body ?done ?stop
   case assign=>
    intro l x W K hK
    gi_wp2
    exact hK
   case body=>
    rintro l pre x W2 ⟨hbox,⟨bs,hb1,hb2⟩,hsh,hs2,hbl2⟩ hlt2;have hc:=hbox.cell;obtain ⟨z,hz0,hz1⟩:=x;have hb8:=HB8.out;obtain ⟨q,hq⟩: ∃q:Nat,(q:Int)=z/8:=⟨(z/8).toNat,by omega⟩
    have hqN:q<N:=by omega
    have e1:Int.tdiv z 8=(q:Int):=by rw[Int.tdiv_eq_ediv_of_nonneg hz0,hq]
    have e2:IntKind.i64.wrap (q:Int)=(q:Int):=by rw[IntKind.wrap_i64];omega
    obtain ⟨r,hr⟩: ∃r:Int,r=z % 8:=⟨_,rfl⟩
    have e3:Int.tmod z 8=r:=by rw[Int.tmod_eq_emod_of_nonneg hz0,hr]
    have r0:0≤r:=by omega
    have r8:r<8:=by omega
    have e4:IntKind.i64.wrap r=r:=by rw[IntKind.wrap_i64];omega
    obtain ⟨v,c1⟩: ∃v:Int,W2.cell? ⟨w.heap.size,q,none⟩=some (.int .u8 v):=⟨((bs[q]'(by omega)).toNat:Int),by
     rw[cell_of_row W2 w.heap.size q _ _ _ hb2];simp[q5b,show q<bs.length by omega]⟩
    obtain ⟨s,e5⟩: ∃s:Int,Op.shift .shl .u8 1 .i64 r=pure (.int .u8 s):=⟨_,shift_shl .u8 .i64 1 r r0 (by show r≤8;omega)⟩
    have c2:W2.frozen? ⟨w.heap.size,q,none⟩=false:=by simp[World.frozen?,hb2]
    have hlq:¬((N:Int)≤(q:Int)):=by omega
    clear hb8 hr hq
    gi_wp2
    refine q9A 9 (by kernel_rfl) (by kernel_rfl) (by simp) (by rintro ⟨_,_,h⟩;exact h) (by omega) ?_;simp only[List.take_succ_cons,List.take_zero,List.drop_succ_cons,List.drop_zero]
    repeat still_step
    refine wpStill_nil ?_;go_wp2_with fail;obtain ⟨Z,hZ⟩: ∃Z,bits .or .u8 v (2^r.toNat % 256)=Z:=⟨_,rfl⟩
    have Z0:0≤Z:=by rw[←hZ];exact bits_lo_u8 _ _ _
    have Z9:Z≤255:=by rw[←hZ];exact bits_hi_u8 _ _ _
    rw[hZ];have k1: ∀k,k≠w.heap.size→(W2.setCell ⟨w.heap.size,q,none⟩ (.int .u8 Z)).heap[k]? =W2.heap[k]? :=fun k hk=>Below.heap_setCell _ _ _ _ hk
    have k2:=z8Q (W:=W2) (q:=q) hb2 (by omega) Z0 Z9;have k3:(W2.setCell ⟨w.heap.size,q,none⟩ (.int .u8 Z)).heap.size=W2.heap.size:=World.size_setCell _ _ _;have k4:Below w.heap.size w (W2.setCell ⟨w.heap.size,q,none⟩ (.int .u8 Z)):=hbl2.setCell (p:=⟨w.heap.size,q,none⟩) (Nat.le_refl _) _;generalize W2.setCell ⟨w.heap.size,q,none⟩ (.int .u8 Z)=W3 at*;refine ⟨⟨Nat.le_of_eq k3.symm,fun k o hk ho _=>(k1 k (by omega)).trans ho⟩,⟨k1 _ (by omega),k1 _ (by omega),k1 _ (by omega)⟩,(k1 _ (by omega)).trans hbox,⟨_,?_,k2⟩,⟨hsh.1,fun D hD=>⟨(hsh.2 D hD).1,?_⟩⟩,?_,k4.drew⟩
    ·rw[List.length_set];exact hb1
    ·refine (k1 D fun e=>?_).trans (hsh.2 D hD).2
     have:=(hsh.2 D hD).2;rw[e,hb2] at this
     cases this
    ·show W1.heap.size≤W3.heap.size
     rw[k3];exact hs2
   case done=>
    rintro D ys W2 hD _ ⟨hbox,hby,hsh,hs2,hbl2⟩ hK
    gi_wp2
    refine ⟨⟨_,_,_,_,_,_,_,_,_,i+1,D::Ds,by rw[List.map_cons];rfl,hlt,hbox,hby,⟨List.nodup_cons.2 ⟨fun hm=>by have:=hDs D hm;omega,hsh.1⟩,fun E hE=>?_⟩,hbl2⟩,?_⟩
    ·rcases List.mem_cons.1 hE with rfl|hE
     ·exact ⟨by have:=hbl.size;omega,hK⟩
     ·exact hsh.2 E hE
    ·simp[intOf];omega
   case stop=>
    rintro D c pre W _ _ h _;exact h.elim
  ·have hd:decide ((i:Int)<(n:Int))=false:=by simp;omega
   obtain ⟨bs,hbl1,hbl2⟩:=hby;have hc:=hbox.cell;have HI:=Lib.hid (And.intro hsh hbl);have HC:Hid ((convert 128 9 (.slice (some ⟨w.heap.size,0,none⟩) N N)).run Tryz.prog W= .ok (.string ⟨bs.toArray⟩) W):=Lib.hid (by
    rw[←hbl1];refine run_convert_bytes_back W _ _ 5 _ _ bs Tryz.underlying128 Tryz.underlying5 Tryz.underlying9 fun j hj=>?_
    have hadd:(⟨w.heap.size,0,none⟩:Addr).add j=⟨w.heap.size,j,none⟩:=by unfold Addr.add;split<;>simp_all
    rw[hadd,cell_of_row W w.heap.size j _ _ _ hbl2];simp[q5b,hj])
   clear hbox hsh hbl hbl2
   gi_wp2
   rw[HC.out]
   gi_wp2
   exact q7Q (Nat.le_refl _) (fun W5 h5=>⟨_,results_tmp rfl _ _ _,⟨bs,rfl,hbl1,h5⟩⟩) Ds W HI.out.1 HI.out.2
end
end Go.Proofs.YtjjfiejoeelndaaGreatDoor
