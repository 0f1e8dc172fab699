/- A region that draws its order, in a round of a range over a function. -/
import Derived.StillTailTactics
import Derived.OrdersIn
import Derived.TacticsIn
import Derived.Test.YtfiibpgoplcgkaaGreatDoorG10WS
import Derived.Test.YtfiibpgoplcgkaaGreatDoorG19WS
set_option linter.unusedVariables false
set_option linter.unusedSimpArgs false
set_option maxRecDepth 100000
set_option maxHeartbeats 1600000
namespace Go.Proofs.YtfiibpgoplcgkaaGreatDoor
variable {a:Act}{K:Act->World->Prop}{w:World}{ao:Option Addr}{cap B:Nat}{L:List Int}{β:Type}
section
section
variable {P :Program}{ops:Array Oper}{Q:Exit->Act->World->Prop}{n lo:Nat}
theorem q9J{o:Oper}(r:Result Next)(h:o.upon P a K Q r)(b:1<=n):o.uponIn (Fence.wide.inRound lo) n P a K Q r:=by
 cases r with
 | ok x w'=>
  cases x with
  |value v=>exact h
  |skip=>exact h
  |defer d=>exact h
  |enter f args=>exact⟨fun _=>b,CallsIn.inRound lo (callsIn_wide.2 h)⟩
  |row rw args=>exact⟨fun _=>b,fun c cs _=>let ⟨v,w2,r2,s⟩:=h c cs;⟨v,w2,r2,stepsIn_wide.2 s⟩⟩
  |_=>exact h.elim
 | halt x w'=>
  cases x with
  |panic v=>exact h
  |_=>exact h.elim
theorem q9K{i:Nat}{K':Act->World->Prop}(l: ∀o∈ops.toList,∀c,o.op≠ .defer c)(j:¬LetsOut Q)(m:1<=n)(hK: ∀a w,K a w->K' a w)(h:wpOp P ops Q i K a w):wpOpIn (Fence.wide.inRound lo) n P ops Q i K' a w:=by
 have h:=wpOp_mono hK h;unfold wpOp at h;unfold wpOpIn
 cases ho:ops[i]? with
 |none=>rw[ho] at h;exact h
 | some o=>
  rw[ho] at h;simp only at h⊢;have b:o∈ops.toList:=by
   have:=Array.mem_of_getElem? ho
   simpa using this
  split
  ·rename_i d
   rw[ξ d] at h;rcases h with h|h
   ·refine⟨fun f _=>trivial,?_⟩
    show o.uponIn (Fence.wide.inRound lo) n P a K' Q ((o.semAt (some lo) a.eval).run P w);rw[Oper.semAt_some lo a.eval o (l o b)];exact q9J _ h m
   ·exact absurd h.2 j
  ·rename_i d
   rw[κ d] at h;exact⟨fun f _=>trivial,h⟩
theorem q4p{md:Region.Mode}(d: ∀o∈ops.toList,∀c,o.op≠ .defer c)(b:¬LetsOut Q)(j:1<=n): ∀(fuel:Nat) (listed:Array Bool) (a:Act) (w:World),wpAny P md ops Q fuel listed a w->wpAnyIn (Fence.wide.inRound lo) n P md ops Q fuel listed a w
 |0,_,_,_,h=>h
 |fuel+1,listed,a,w,h=>⟨h.1,fun i l=>q9K d b j (fun a w h=>q4p d b j fuel _ a w h) (h.2 i l)⟩
end
theorem q8x{P:Program}{id n lo:Nat}{Q:Exit->Act->World->Prop}{l:List Oper}(k:Nat)(hm:P.follows .mixedOrders=true)(y:Region.lexTailB .any l.toArray k=true)(G: ∀o∈l,∀c,o.op≠ .defer c)(F:¬LetsOut Q)(I:1<=n)
  (h:wpStill P l.toArray w.drew (fun u=>wpList P l.toArray Q (l.drop k) u w.drew) (l.take k) a):(Code.region id l.toArray true).wpIn (Fence.wide.inRound lo) n P Q a w:=by
 simp only[Region.lexTailB,Ξ,Φ] at y;obtain⟨⟨⟨⟨r,q⟩,M⟩,hc⟩,m⟩:=y;have J:k<l.length:=by simpa using q
 have b:(l.take k).length=k:=by simp;omega
 have i:(l.drop k).length=l.toArray.size-k:=by simp
 have s:HeadInv .any l.toArray k (Array.replicate l.toArray.size false):=
  ⟨by simp,fun j O _ E=>(by rw[getD_replicate_false] at E;cases E),fun t _ N=>getD_in (by simpa using N) (getD_replicate_false _ _)⟩
 have H:=wpAnyL_lex (md:= .any) (g:=l.toArray.size-k) r M hc q (l.take k) 0 _ a (fun j D=>by
  have v:j<k:=by rw[b] at D;exact D
  simp[v]) (by simpa using b) s (by rw[b];exact m) h
 have x:=wpAny_of_head (Q':=Q) (g:=l.toArray.size-k) (fun d u C=>by
  have:=wpAny_of_seq (md:= .any) (Q':=Q) (l.drop k) k d u w.drew (fun j=>by simp[List.getElem?_drop]) (by rw[i];exact C.1) C.2
  rwa [i] at this) _ _ _ H
 rw[b,show k+(l.toArray.size-k)=l.toArray.size by omega] at x;exact wpIn_region_any hm (q4p (by simpa using G) F I _ _ _ _ x)
end
section
open Go.RowKit Go.Shelf
attribute [local go_sem] Oper.semAt_some
structure Us(w:World)(ao:Option Addr)(n cap:Nat)(L:List Int):Prop where
 len:L.length=n
 fits:n<=cap
 bound:cap<=9223372036854775807
 nil:ao=none->cap=0
 rd:Rd w ao (L.map (Value.int .u64))
theorem Us.ext{w':World}{n:Nat}(h:Us w ao n cap L)(k:Ext w w'):Us w' ao n cap L:=⟨h.len,h.fits,h.bound,h.nil,h.rd.ext k⟩
def q5Z(bs:List UInt8):Array Value:=(bs.map fun b=>Value.int .u8 (b.toNat:Int)).toArray
def z6V(n:Nat):Array Value:=q5Z (List.replicate n 0)
theorem y0m(n:Nat):z6V n=madeCells #[.int .u8 0] n:=by
 apply Array.toList_inj.1;rw[toList_madeCells_one];unfold z6V q5Z;simp
theorem z6j{W:World}{br q:Nat}{bs:List UInt8}{Z:Int}(h:W.heap[br]? =some (.cells (q5Z bs) 5 (0,0)))(hq:q<bs.length)(d:0<=Z)(i:Z<=255):
  (W.setCell ⟨br,q,none⟩ (.int .u8 Z)).heap[br]? =some (.cells (q5Z (bs.set q (UInt8.ofNat Z.toNat))) 5 (0,0)):=by
 have e:(q5Z bs).setIfInBounds q (.int .u8 Z)=q5Z (bs.set q (UInt8.ofNat Z.toNat)):=by
  unfold q5Z;rw[π];have:((UInt8.ofNat Z.toNat).toNat:Int)=Z:=by
   rw[UInt8.toNat_ofNat'];have:Z.toNat % 256=Z.toNat:=Nat.mod_eq_of_lt (by omega);simp only[Nat.reducePow,this];omega
  refine congrArg List.toArray ?_;apply List.ext_getElem?;intro j;by_cases b:q=j
  ·subst b
   simp[hq];omega
  ·simp[b,List.getElem?_set]
 simp[World.setCell,Array.getElem?_modify,h,e]
def y3S(D:Nat):Deferred:={target:= .collected D,args:=#[]}
def q7q(W:World)(br N:Nat):Prop:= ∃bs:List UInt8,bs.length=N/\W.heap[br]? =some (.cells (q5Z bs) 5 (0,0))
def z6Z(W:World)(B:Nat)(Ds:List Nat):Prop:=Ds.Nodup/\ ∀D∈Ds,B<=D/\W.heap[D]? =some (.deferred (some []))
theorem z2q(br N:Nat):Go.Own (fun (_:β) W=>q7q W br N):=by
 rintro s X Y row ⟨bs,h1,h2⟩ d i;refine⟨bs,h1,(d.block br (Array.getElem?_eq_some_iff.1 h2).1 fun e=>?_).trans h2⟩;obtain⟨o,b,hc⟩:=i br e.symm;rw[h2] at b;cases b;cases hc
theorem z8Z{C:Nat}{d:List Nat}(i: ∀D∈d,D<C):OwnFrom C (fun (_:β) W=>z6Z W B d):=by
 rintro s X Y row ⟨h1,h2⟩ j l;refine⟨h1,fun D b=>⟨(h2 D b).1,(j.block D (Array.getElem?_eq_some_iff.1 (h2 D b).2).1 fun e=>?_).trans (h2 D b).2⟩⟩;have:=(l D e.symm).1;have:=i D b;omega
theorem q7K{F:Fence}{n:Nat}{P:Program}{fn:Func}{tmps:Array Value}{R:Ending->World->Prop}{w0:World}(d:B<=w0.heap.size)(i: ∀W,Below B w0 W->LeavesIn F n P fn tmps R [] .returning W):
  ∀(Ds:List Nat) (W:World),z6Z W B Ds->Below B w0 W->LeavesInM F n P fn tmps R (Ds.map y3S) .returning W
 |[],W,_,hb=>i W hb
 | D::Ds,W,⟨h1,h2⟩,hb=>by
  obtain⟨h3,h4⟩:=List.nodup_cons.1 h1;obtain⟨j,l⟩:=h2 D List.mem_cons_self;refine⟨by simp,.inl ⟨D,_,rfl,run_takeDeferred l,?_⟩⟩;refine q7K d i Ds _ ⟨h4,fun E b=>⟨(h2 E (List.mem_cons_of_mem _ b)).1,?_⟩⟩ (hb.grown (grownBy_putObj' W D _) (Ω d hb.size) fun q e=>by cases e;exact j);exact((grownBy_putObj' W D _).block E (Array.getElem?_eq_some_iff.1 (h2 E (List.mem_cons_of_mem _ b)).2).1 fun e=>h3 (by cases e;exact b)).trans (h2 E (List.mem_cons_of_mem _ b)).2
theorem y1R{n:Nat}(p b N:Nat)(w:World)(hx:Us w ao n cap L)(hn:n<=1000)(hp:p<=16)(hb:b=8*N)(hN:1<=N)(B0:N<=100000):
  Calls Tryz.prog 328 #[.slice ao n cap,.int .i64 (p:Int),.int .i64 (b:Int)] w fun e w'=> ∃bs:List UInt8,e= .returned (.string ⟨bs.toArray⟩)/\bs.length=N/\Ext w w':=by
 have Hx:=η hx;have Y:=η hx.len;have b1:=hx.fits;have b2:=hx.bound;have a1:¬((b:Int)<1):=by omega
 have a2:¬((1000000:Int)<(b:Int)):=by omega
 have a3:Int.tmod (b:Int) 8=0:=by
  rw[Int.tmod_eq_emod_of_nonneg (by omega)];omega
 have z0:(b:Int) % 8=0:=by omega
 have a4:Int.tdiv (b:Int) 8=(N:Int):=by
  rw[Int.tdiv_eq_ediv_of_nonneg (by omega)];omega
 have A0:(b:Int)/8=(N:Int):=by omega
 have a5:IntKind.i64.wrap (N:Int)=(N:Int):=by rw[ν];omega
 have b0:=η hb;clear hx hb;refine(callsIn_wide (n:=3)).1 ?_;refine callsIn_of_wp_marks Tryz.func328 rfl trivial ?_ rfl;simp only[Tryz.ntmps328,List.size_toArray,χ,List.length_nil,Nat.reduceAdd,Nat.reduceSub,Array.replicate_succ,Array.replicate_zero,List.push_toArray,List.append_toArray,List.nil_append,List.cons_append];obtain⟨i0,hi,V,e0,x0⟩:=info_parts Tryz.infoU8;have v0:(Instr.makeSlice 75 (.int .i64 (N:Int)) (.int .i64 (N:Int))).run Tryz.prog w= .ok (.slice (some ⟨w.heap.size,0,none⟩) N N) (w.alloc (.cells (z6V N) 5)):=by
  have h:=run_makeSlice (P:=Tryz.prog) w 75 5 i0 (.int .u8 0) Tryz.underlying75 hi V .i64 .i64 (N:Int) (N:Int) (by omega) (by omega) (by rw[e0];omega) (by rw[x0];omega) (by omega);have e:((N:Int)).toNat=N:=by omega
  rw[e,e0,Nat.mul_one] at h;rw[h,y0m]
  rfl
 gi_wp2
 clear v0;obtain⟨W0,M⟩: ∃W0,(w.alloc (.cells (z6V N) 5)).alloc (.cells #[.slice (some ⟨w.heap.size,0,none⟩) N N] 75)=W0:=⟨_,rfl⟩
 have w0:W0.heap.size=w.heap.size+2:=by rw[<-M];simp
 have d:Boxed W0 (w.heap.size+1) 75 (.slice (some ⟨w.heap.size,0,none⟩) N N):=by
  rw[<-M];have:=Boxed.new (w.alloc (.cells (z6V N) 5)) 75 (.slice (some ⟨w.heap.size,0,none⟩) N N);rw[ρ] at this;exact this
 have u:q7q W0 w.heap.size N:=by
  rw[<-M];exact⟨_,List.length_replicate,((q0C (w.alloc (.cells (z6V N) 5)) _).block _ (by simp)).trans (World.alloc_heap_new w _)⟩
 have k0:Ext w W0:=by rw[<-M];exact(q0C _ _).alloc _
 rw[M];clear M;refine wpIn_loop (fun a' W=> ∃(u9 l0 m0 n0 o0 p0 q0 s0 f0:Value) (i:Nat) (X:List Nat),a'={tmps:=(List.toArray ((.slice ao n cap:Value):: .int .i64 (p:Int):: .int .i64 (b:Int)::undef::undef::undef:: .string ⟨#[]⟩:: .pointer (some ⟨w.heap.size+1,0,none⟩)::undef::u9::undef:: .int .i64 (b:Int):: .bool false:: .bool false:: .int .i64 (b:Int):: .bool false:: .bool false:: .bool false:: .int .i64 (b:Int):: .int .i64 0:: .bool false:: .bool false:: .int .i64 (b:Int):: .int .i64 (N:Int):: .slice (some ⟨w.heap.size,0,none⟩) N N:: .slice ao n cap:: .int .i64 (n:Int):: .int .i64 (i:Int)::l0::m0::n0::o0::p0::q0::s0::undef::undef::undef::undef::undef::undef::undef::undef::undef::undef::undef::f0::undef::undef::[])),defers:=X.map y3S}/\i<=n/\Boxed W (w.heap.size+1) 75 (.slice (some ⟨w.heap.size,0,none⟩) N N)/\q7q W w.heap.size N/\z6Z W w.heap.size X/\Below w.heap.size w W) (fun a' _=>n-(intOf (a'.tmps.getD 27 undef)).toNat) ?start ?round
 case start=>exact⟨undef,undef,undef,undef,undef,undef,undef,undef,undef,0,[],rfl,υ _,d,u,⟨List.nodup_nil,fun _ h=>by cases h⟩,k0⟩
 case round=>
  clear d u k0 w0;rintro a' W ⟨u9,l0,m0,n0,o0,p0,q0,s0,f0,i,X,rfl,D0,d,u,m,y⟩;by_cases d0:i<n
  ·have hd:decide ((i:Int)<(n:Int))=true:=by simp;omega
   have hg:(L.map (Value.int .u64))[i]? =some (.int .u64 (L.getD i 0)):=by
    rw[List.getElem?_map,γ (by rw[Y.o];exact d0)];simp[List.getD,γ (show i<L.length by rw[Y.o];exact d0)]
   obtain⟨ab,R,rfl,c0⟩:=(Hx.o.ext y).rd _ _ hg;generalize L.getD i 0=h at*;have HI:=η (And.intro d (And.intro u (And.intro m y)));clear d u m y hg
   gi_wp2
   refine⟨trivial,(z9h _ h p b _).mono ?_⟩;rintro e w' ⟨rfl,rfl⟩
   gi_wp2
   obtain⟨d,u,m,y⟩:=HI.o;obtain⟨J,I⟩: ∃J,(((W.alloc (.cells #[.int .u64 h] 23)).alloc (.cells #[.int .i64 (p:Int)] 3)).alloc (.cells #[.int .i64 (b:Int)] 3))=J:=⟨_,rfl⟩
   have G0:J.heap.size=W.heap.size+3:=by rw[<-I];simp
   have d1:Boxed J W.heap.size 23 (.int .u64 h):=by rw[<-I];exact((Boxed.new W _ _).alloc _).alloc _
   have d2:Boxed J (W.heap.size+1) 3 (.int .i64 (p:Int)):=by
    rw[<-I];have:=Boxed.new (W.alloc (.cells #[.int .u64 h] 23)) 3 (.int .i64 (p:Int));rw[ρ] at this;exact this.alloc _
   have d3:Boxed J (W.heap.size+2) 3 (.int .i64 (b:Int)):=by
    rw[<-I];have:=Boxed.new ((W.alloc (.cells #[.int .u64 h] 23)).alloc (.cells #[.int .i64 (p:Int)] 3)) 3 (.int .i64 (b:Int));rw[ρ,ρ] at this;exact this
   have U:Ext W J:=by rw[<-I];exact q8M _ _ _ _
   have f1:Boxed J (w.heap.size+1) 75 (.slice (some ⟨w.heap.size,0,none⟩) N N):=(U.block _ d.lt).trans d;have f2:q7q J w.heap.size N:=by obtain⟨bs,e1,e2⟩:=u;exact⟨bs,e1,(U.block _ (Array.getElem?_eq_some_iff.1 e2).1).trans e2⟩
   have f3:z6Z J w.heap.size X:=⟨m.1,fun D O=>⟨(m.2 D O).1,(U.block _ (Array.getElem?_eq_some_iff.1 (m.2 D O).2).1).trans (m.2 D O).2⟩⟩
   have f4:Below w.heap.size w J:=y.trans (U.mono y.size);have g0: ∀D∈X,D<W.heap.size:=fun D O=>(Array.getElem?_eq_some_iff.1 (m.2 D O).2).1
   have C0:=d.lt;rw[I];clear I d u m HI;refine wpIn_rangeFunc_ownG (F:=Fence.wide) rfl (by omega) (gf:=350) (lb:=#[.pointer (some ⟨W.heap.size+1,0,none⟩),.pointer (some ⟨W.heap.size,0,none⟩),.pointer (some ⟨W.heap.size+2,0,none⟩)]) rfl trivial (enters_of Tryz.func350 (by kernel_rfl) rfl)
    (z2z (3-1) (by omega) (W.heap.size+1) W.heap.size (W.heap.size+2) h p b hp (by have:=b0.o;omega) (by have:=b0.o;omega) J d2 d1 d3) y3M (fun W l o o' h=>y3L (by omega) (by omega) (by omega) W l o o' h) (Below.refl _ _) (fun _=>rfl)
    (fun _ G=>Boxed G (w.heap.size+1) 75 (.slice (some ⟨w.heap.size,0,none⟩) N N)/\q7q G w.heap.size N/\z6Z G w.heap.size X/\J.heap.size<=G.heap.size/\Below w.heap.size w G)
    (fun _ _ _=>False)
    (OwnFrom.and (Go.Own.from (boxed_own (w.heap.size+1) 75 fun _=>_) _) (OwnFrom.and (Go.Own.from (z2q w.heap.size N) _) (OwnFrom.and (z8Z fun D O=>by have:=g0 D O;omega) (OwnFrom.and (fun _ _ _ _ hs hg _=>Ω hs hg.size) (ownFrom_below (ι _) (by have:=y.size;omega))))))
    (fun _ _ _ _ _ hs _ _=>hs)
    ⟨f1,f2,f3,ι _,f4⟩
    (fun x=>{tmps:=(List.toArray ((.slice (some ⟨ab,R,none⟩) n cap:Value):: .int .i64 (p:Int):: .int .i64 (b:Int)::undef::undef::undef:: .string ⟨#[]⟩:: .pointer (some ⟨w.heap.size+1,0,none⟩)::undef:: .int .u64 h:: .int .i64 x.1:: .int .i64 (b:Int):: .bool false:: .bool false:: .int .i64 (b:Int):: .bool false:: .bool false:: .bool false:: .int .i64 (b:Int):: .int .i64 0:: .bool false:: .bool false:: .int .i64 (b:Int):: .int .i64 (N:Int):: .slice (some ⟨w.heap.size,0,none⟩) N N:: .slice (some ⟨ab,R,none⟩) n cap:: .int .i64 (n:Int):: .int .i64 (i:Int):: .bool true:: .pointer (some ⟨ab,R+i,none⟩):: .int .u64 h:: .int .u64 h:: .int .i64 (p:Int):: .int .i64 (b:Int):: .func (.func 350) #[] #[.pointer (some ⟨W.heap.size+1,0,none⟩),.pointer (some ⟨W.heap.size,0,none⟩),.pointer (some ⟨W.heap.size+2,0,none⟩)]:: .int .i64 x.1::undef::undef::undef::undef::undef::undef::undef::undef::undef::undef::f0::undef::undef::[])),defers:=[]}) ?assign ?body ?done ?stop
   case assign=>
    intro l x W K hK
    gi_wp2
    exact hK
   case body=>
    rintro l pre x G ⟨d,⟨bs,t0,S⟩,m,j0,C⟩ y0;have hc:=d.cell;obtain⟨z,V,e0⟩:=x;have u0:=b0.o;obtain⟨q,hq⟩: ∃q:Nat,(q:Int)=z/8:=⟨(z/8).toNat,by omega⟩
    have F0:q<N:=by omega
    have e1:Int.tdiv z 8=(q:Int):=by rw[Int.tdiv_eq_ediv_of_nonneg V,hq]
    have e2:IntKind.i64.wrap (q:Int)=(q:Int):=by rw[ν];omega
    obtain⟨r,hr⟩: ∃r:Int,r=z % 8:=⟨_,rfl⟩
    have e3:Int.tmod z 8=r:=by rw[Int.tmod_eq_emod_of_nonneg V,hr]
    have r0:0<=r:=by omega
    have r8:r<8:=by omega
    have e4:IntKind.i64.wrap r=r:=by rw[ν];omega
    obtain⟨v,c1⟩: ∃v:Int,G.cell? ⟨w.heap.size,q,none⟩=some (.int .u8 v):=⟨((bs[q]'(by omega)).toNat:Int),by
     rw[cell_of_row G w.heap.size q _ _ _ S]
     simp[q5Z,show q<bs.length by omega]⟩
    obtain⟨s,e5⟩: ∃s:Int,Op.shift .shl .u8 1 .i64 r=pure (.int .u8 s):=⟨_,shift_shl .u8 .i64 1 r r0 (by show r<=8;omega)⟩
    have c2:G.frozen? ⟨w.heap.size,q,none⟩=false:=by simp[World.frozen?,S]
    have E0:¬((N:Int)<=(q:Int)):=by omega
    clear u0 hr hq
    gi_wp2
    refine q8x 9 (by kernel_rfl) (by kernel_rfl) (by simp) (by rintro⟨_,_,h⟩;exact h) (by omega) ?_;simp only[List.take_succ_cons,List.take_zero,List.drop_succ_cons,List.drop_zero]
    repeat still_step
    refine wpStill_nil ?_;go_wp2_with fail;obtain⟨Z,hZ⟩: ∃Z,bits .or .u8 v (2^r.toNat % 256)=Z:=⟨_,rfl⟩
    have Z0:0<=Z:=by rw[<-hZ];exact bits_lo_u8 _ _ _
    have Z9:Z<=255:=by rw[<-hZ];exact bits_hi_u8 _ _ _
    rw[hZ];have k1: ∀k,k≠w.heap.size->(G.setCell ⟨w.heap.size,q,none⟩ (.int .u8 Z)).heap[k]? =G.heap[k]? :=fun k hk=>Below.heap_setCell _ _ _ _ hk
    have k2:=z6j (W:=G) (q:=q) S (by omega) Z0 Z9;have k3:(G.setCell ⟨w.heap.size,q,none⟩ (.int .u8 Z)).heap.size=G.heap.size:=World.size_setCell _ _ _;have k4:Below w.heap.size w (G.setCell ⟨w.heap.size,q,none⟩ (.int .u8 Z)):=C.setCell (p:=⟨w.heap.size,q,none⟩) (ι _) _;generalize G.setCell ⟨w.heap.size,q,none⟩ (.int .u8 Z)=W3 at*;refine⟨⟨Nat.le_of_eq k3.symm,fun k o hk ho _=>(k1 k (by omega)).trans ho⟩,⟨k1 _ (by omega),k1 _ (by omega),k1 _ (by omega)⟩,(k1 _ (by omega)).trans d,⟨_,?_,k2⟩,⟨m.1,fun D O=>⟨(m.2 D O).1,?_⟩⟩,?_,k4.drew⟩
    ·rw[List.length_set];exact t0
    ·refine(k1 D fun e=>?_).trans (m.2 D O).2
     have:=(m.2 D O).2;rw[e,S] at this
     cases this
    ·show J.heap.size<=W3.heap.size
     rw[k3];exact j0
   case done=>
    rintro D ys G O _ ⟨d,u,m,j0,C⟩ hK
    gi_wp2
    refine⟨⟨_,_,_,_,_,_,_,_,_,i+1,D::X,by rw[List.map_cons];rfl,d0,d,u,⟨List.nodup_cons.2 ⟨fun hm=>by have:=g0 D hm;omega,m.1⟩,fun E hE=>?_⟩,C⟩,?_⟩
    ·rcases List.mem_cons.1 hE with rfl|hE
     ·exact⟨by have:=y.size;omega,hK⟩
     ·exact m.2 E hE
    ·simp[intOf];omega
   case stop=>
    rintro D c pre W _ _ h _;exact h.elim
  ·have hd:decide ((i:Int)<(n:Int))=false:=by simp;omega
   obtain⟨bs,a0,C⟩:=u;have hc:=d.cell;have HI:=η (And.intro m y)
   have HC:Hd ((convert 75 9 (.slice (some ⟨w.heap.size,0,none⟩) N N)).run Tryz.prog W= .ok (.string ⟨bs.toArray⟩) W):=η (by
    rw[<-a0];refine run_convert_bytes_back W _ _ 5 _ _ bs Tryz.underlying75 Tryz.underlying5 Tryz.underlying9 fun j hj=>?_
    have h0:(⟨w.heap.size,0,none⟩:Addr).add j=⟨w.heap.size,j,none⟩:=by unfold Addr.add;split<;>simp_all
    rw[h0,cell_of_row W w.heap.size j _ _ _ C]
    simp[q5Z,hj])
   clear d m y C
   gi_wp2
   rw[HC.o]
   gi_wp2
   exact q7K (ι _) (fun W5 h5=>⟨_,results_tmp rfl _ _ _,⟨bs,rfl,a0,h5⟩⟩) X W HI.o.1 HI.o.2
end
end Go.Proofs.YtfiibpgoplcgkaaGreatDoor
