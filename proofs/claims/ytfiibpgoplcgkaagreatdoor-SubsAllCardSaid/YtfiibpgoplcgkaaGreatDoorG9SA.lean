/- How a disk lies in memory. -/
import Derived.Test.YtfiibpgoplcgkaaGreatDoorG5SA
import Derived.Test.YtfiibpgoplcgkaaGreatDoorG7SA
import Derived.Test.YtfiibpgoplcgkaaGreatDoorG2SA
import Derived.Maps.OwnSet
import Derived.Maps.RangeWalk
import Derived.Lib.AppendStr
set_option linter.unusedVariables false
set_option linter.unusedSimpArgs false
set_option maxRecDepth 100000
set_option maxHeartbeats 800000
namespace Go.Proofs.YtfiibpgoplcgkaaGreatDoor
variable {v:Value}{H:Type}{P:Program}{k t e:TypeId}{n i B n':Nat}{w0:World}
section
open Go.RowKit
open Go.Maps (Keyed)
def q6I(v:Value):Option (DataW Unit×List MemPlace):=
 match v with
 | .pointer none=>some (.nil,[])
 | .pointer (some ⟨b,0,none⟩)=>some (.lit (.int .i64 b),[])
 |_=>none
theorem z2i(b:Nat):q6I (.pointer (some ⟨b,0,none⟩))=some (.lit (.int .i64 b),[]):=rfl
theorem z0C :q6I (.pointer none)=some (.nil,[]):=rfl
theorem z0B{b:Nat}{ps:List MemPlace}(h:q6I v=some (.lit (.int .i64 b),ps)):v= .pointer (some ⟨b,0,none⟩):=by
 unfold q6I at h
 split at h
 ·cases h
 ·rename_i d
  simp only[Option.some.injEq,Prod.mk.injEq,DataW.lit.injEq,Lit.int.injEq,true_and] at h;have:d=b:=by omega
  rw[this]
 ·cases h
theorem z1T{ps:List MemPlace}(h:q6I v=some (.nil,ps)):v= .pointer none:=by
 unfold q6I at h
 split at h
 ·rfl
 ·cases h
 ·cases h
structure FE where
 f:FM
 b:Nat
 v:Value
def FE.nm(e:FE):List UInt8:=e.f.nm
def q5d(L:List FE):DataW Unit:= .map (L.map fun e=>(Lit.string e.f.nm,.lit (.int .i64 e.b)))
theorem z3W(x:FE): ∀L:List FE,DataW.insert (Lit.string x.f.nm,(.lit (.int .i64 x.b):DataW Unit)) (L.map fun e=>(Lit.string e.f.nm,.lit (.int .i64 e.b)))=(q1e FE.nm x L).map fun e=>(Lit.string e.f.nm,.lit (.int .i64 e.b))
 |[]=>rfl
 | y::r=>by
  unfold q1e;rw[List.map_cons,DataW.insert];show(if bytesBefore x.f.nm y.f.nm then _ else _)=_
  split
  ·rename_i h;rw[ξ (show bytesBefore (FE.nm x) (FE.nm y)=true from h)];rfl
  ·rename_i h;rw[κ (show ¬bytesBefore (FE.nm x) (FE.nm y)=true from h),z3W x r];rfl
theorem z3V(nm:List UInt8)(L:List FE):(q5d L).del (.string nm)=q5d (q1M FE.nm nm L):=by
 show DataW.map (List.filter _ _)=DataW.map _
 congr 1
 unfold q1M;rw[List.filter_map]
 rfl
theorem z8f(x:FE)(L:List FE):(q5d L).put (.string x.f.nm) (.lit (.int .i64 x.b))=q5d (q1e FE.nm x (q1M FE.nm x.f.nm L)):=by
 unfold q5d;rw[<-z3W];show DataW.map (DataW.insert _ (List.filter _ _))=_
 congr 2
 unfold q1M;rw[List.filter_map]
 rfl
theorem z8e(nm:List UInt8)(L:List FE):Maps.has (q5d L) (.string nm)=(q0F FE.nm nm L).isSome:=by
 show(List.map _ L).any _=_;rw[List.any_map,Bool.eq_iff_iff,List.any_eq_true];unfold q0F;rw[List.find?_isSome]
 rfl
theorem z6N(nm:List UInt8)(L:List FE)(z:DataW Unit):(q5d L).atKey (.string nm) z=match q0F FE.nm nm L with|some e=> .lit (.int .i64 e.b)|none=>z:=by
 unfold q5d DataW.atKey q0F;simp only[List.find?_map];have d:((fun p:Lit×DataW Unit=>p.1.sameKey (.string nm))∘fun e:FE=>(Lit.string e.f.nm,(.lit (.int .i64 e.b):DataW Unit)))=fun y=>FE.nm y==nm:=rfl
 rw[d]
 cases L.find? fun y=>FE.nm y==nm<;>rfl
theorem q7a(L:List FE):Maps.size (q5d L)=L.length:=by show(List.map _ L).length=_;simp
theorem q7Z(L:List FE):strKeys (q5d L)=L.map FE.nm:=by show(List.map _ (L.map _))=_;rw[List.map_map];rfl
def SepE(x y:FE):Prop:=x.b≠y.b/\ ∀g,x.v.ownBlock=some g->y.v.ownBlock≠some g
theorem SepE.symm{x y:FE}(h:SepE x y):SepE y x:=⟨Ne.symm h.1,fun g j d=>h.2 g d j⟩
structure FS(w:World)(m:Nat)(L:List FE):Prop where
 map:w.ownsMap Tryz.prog 9 q6I m L.length (q5d L)
 blk: ∀e∈L,Blk w e.b 153 #[e.v,.int .i64 (e.f.sy:Int)]
 row: ∀e∈L,Own w 0 5 1 e.v e.f.da.length (e.f.da.map q1R)
 sep:L.Pairwise SepE
 ord:q2Q FE.nm L
def InF(m:Nat)(L:List FE)(i:Nat):Prop:=i=m\/ ∃e∈L,i=e.b\/e.v.ownBlock=some i
theorem q2X{R:Value->Option (DataW H×List MemPlace)}{w w':World}{b:Nat}{D:DataW H}(h:w.ownsMap P k R b n D)(e:w'.heap[b]? =w.heap[b]?):w'.ownsMap P k R b n D:=by
 obtain⟨es,d,j,r⟩:=h;exact⟨es,d,e.trans j,r⟩
theorem z6x{R:Value->Option (DataW H×List MemPlace)}{w:World}{b:Nat}{D:DataW H}(h:w.ownsMap P k R b n D):w.ownsMap P k R b (Maps.size D) D:=by
 obtain⟨es,d,j,F,l,rfl⟩:=h;exact⟨es,d,j,F,by simp[Maps.size,length_sorted],rfl⟩
theorem z6y{w:World}{m:Nat}{D:DataW Unit}{L:List FE}(h:w.ownsMap Tryz.prog 9 q6I m n D)(e:D=q5d L):w.ownsMap Tryz.prog 9 q6I m L.length (q5d L):=by
 subst e;have:=z6x h
 rwa [q7a] at this
theorem q4h{R:Value->Option (DataW H×List MemPlace)}{w:World}{b:Nat}{D:DataW H}(h:w.ownsMap P k R b n D){cs:Array Value}(j:Blk w i t cs):i≠b:=fun e=>by
 obtain⟨es,d,l,_⟩:=h;subst e;unfold Blk at j;rw[j] at l
 cases l
theorem q9s{R:Value->Option (DataW H×List MemPlace)}{w:World}{b:Nat}{D:DataW H}(h:w.ownsMap P k R b n D){size:Nat}{cs:List Value}(l:Own w B e size v n' cs):v.ownBlock≠some b:=fun j=>by
 obtain⟨d,hc⟩:=l.etype j;exact q4h h (cs:=d) hc rfl
theorem Blk.ne{w:World}{j:Nat}{u:TypeId}{cs ds:Array Value}(h:Blk w i t cs)(d:Blk w j u ds)(l:t≠u):i≠j:=fun e=>by
 subst e;unfold Blk at h d;rw[h] at d
 cases d;exact l rfl
theorem Blk.own{w:World}{cs:Array Value}(h:Blk w i t cs){size:Nat}{q:List Value}(o:Own w B e size v n' q)(j:e≠t):v.ownBlock≠some i:=fun l=>by
 obtain⟨d,hc⟩:=o.etype l;exact Blk.ne h (ds:=d) hc (Ne.symm j) rfl
section
variable {w w':World}{m:Nat}{L:List FE}
theorem FS.lt(h:FS w m L)(d:InF m L i):i<w.heap.size:=by
 rcases d with rfl|⟨e,he,rfl|d⟩
 ·exact h.map.lt
 ·exact(h.blk e he).lt
 ·exact((h.row e he).lt i d).2
theorem FS.same(h:FS w m L)(k: ∀i,InF m L i->w'.heap[i]? =w.heap[i]?):FS w' m L:=
 ⟨q2X h.map (k m (.inl rfl)),fun e he=>(h.blk e he).same (k _ (.inr ⟨e,he,.inl rfl⟩)),fun e he=>(h.row e he).same fun g d=>k g (.inr ⟨e,he,.inr d⟩),h.sep,h.ord⟩
theorem FS.ext(h:FS w m L)(k:Ext w w'):FS w' m L:=h.same fun i d=>k.block i (h.lt d)
theorem FS.o(h:FS w m L){cs:Array Value}(d:Blk w i t cs)(j:t≠153)(l:t≠5):¬InF m L i:=by
 rintro(rfl|⟨e,he,rfl|q⟩)
 ·exact q4h h.map d rfl
 ·exact Blk.ne d (h.blk e he) j rfl
 ·exact Blk.own d (h.row e he) (Ne.symm l) q
theorem FS.sepOf(h:FS w m L){x y:FE}(s:x∈L)(D:y∈L)(l:x.f.nm≠y.f.nm):SepE x y:=by
 have C:=h.sep;clear h
 induction L with
 |nil=>cases s
 | cons a r ih=>
  obtain⟨q,u⟩:=List.pairwise_cons.1 C;rcases List.mem_cons.1 s with ex|d<;>rcases List.mem_cons.1 D with o|j
  ·exact absurd (by rw[ex,o]) l
  ·subst ex;exact q y j
  ·subst o;exact(q x d).symm
  ·exact ih d j u
theorem FS.upd(h:FS w m L){nm:List UInt8}{e:FE}(Q:q0F FE.nm nm L=some e)(e':FE)(r:e'.f.nm=nm)(O:e'.b=e.b)
  (U: ∀i,InF m L i->i≠e.b->e.v.ownBlock≠some i->w'.heap[i]? =w.heap[i]?)(u:Blk w' e.b 153 #[e'.v,.int .i64 (e'.f.sy:Int)])
  (D:Own w' 0 5 1 e'.v e'.f.da.length (e'.f.da.map q1R))(I: ∀i,e'.v.ownBlock=some i->e.v.ownBlock=some i\/¬InF m L i):FS w' m (q1P FE.nm nm (fun _=>e') L):=by
 obtain⟨he,x⟩:=q0J Q;have o:=fun y=>q4t (f:=fun _:FE=>e') (y:=y) h.ord Q
 have C: ∀y∈L,FE.nm y≠nm->SepE e y:=fun y d r=>h.sepOf he d fun s=>r (s.symm.trans x)
 have j: ∀y∈L,FE.nm y≠nm-> ∀i,i=y.b\/y.v.ownBlock=some i->w'.heap[i]? =w.heap[i]? :=by
  intro y d r i q;have E:=C y d r;refine U i (.inr ⟨y,d,q⟩) ?_ ?_
  ·rcases q with rfl|q
   ·exact Ne.symm E.1
   ·intro s;subst s
    exact Blk.own (h.blk e he) (h.row y d) (by decide) q
  ·rcases q with rfl|q
   ·exact Blk.own (h.blk y d) (h.row e he) (by decide)
   ·intro s;exact E.2 i s q
 have V:q5d (q1P FE.nm nm (fun _=>e') L)=q5d L:=by
  unfold q5d q1P;rw[List.map_map]
  congr 1
  refine List.map_congr_left fun y d=>?_
  simp only[Function.comp]
  split
  ·rename_i W
   have M:FE.nm y=nm:=by simpa using W
   obtain rfl:=q6Y h.ord d he (M.trans x.symm);have S:y.f.nm=nm:=M;rw[r,O,S]
  ·rfl
 refine⟨?_,fun y d=>?_,fun y d=>?_,?_,z0U h.ord fun y _=>r⟩
 ·rw[V,q8K]
  refine q2X h.map (U m (.inl rfl) ?_ ?_)
  ·exact Ne.symm (q4h h.map (h.blk e he))
  ·exact q9s h.map (h.row e he)
 ·rcases(o y).1 d with rfl|⟨d,l⟩
  ·rw[O];exact u
  ·exact(h.blk y d).same (j y d l _ (.inl rfl))
 ·rcases(o y).1 d with rfl|⟨d,l⟩
  ·exact D
  ·exact(h.row y d).same fun g R=>j y d l g (.inr R)
 ·refine z0A h.ord h.sep Q fun y d l=>?_
  have E:=C y d l
  have:SepE e' y:=⟨by rw[O];exact E.1,fun g R J=>by
   rcases I g R with N|N
   ·exact E.2 g N J
   ·exact N (.inr ⟨y,d,.inr J⟩)⟩
  exact⟨this,this.symm⟩
theorem FS.put(h:FS w m L)(x:FE)(q:q0F FE.nm x.f.nm L=none)(l:w'.ownsMap Tryz.prog 9 q6I m n ((q5d L).put (.string x.f.nm) (.lit (.int .i64 x.b))))
  (D: ∀i,InF m L i->i≠m->w'.heap[i]? =w.heap[i]?)(j:Blk w' x.b 153 #[x.v,.int .i64 (x.f.sy:Int)])
  (r:Own w' 0 5 1 x.v x.f.da.length (x.f.da.map q1R))(s: ∀y∈L,SepE x y):FS w' m (q1e FE.nm x L):=by
 have o: ∀y∈L,∀i,i=y.b\/y.v.ownBlock=some i->i≠m:=by
  intro y d i u e;subst e;rcases u with rfl|u
  ·exact q4h h.map (h.blk y d) rfl
  ·exact q9s h.map (h.row y d) u
 refine⟨z6y l ?_,fun y d=>?_,fun y d=>?_,?_,q4s h.ord (q0r q)⟩
 ·rw[z8f,q5l q]
 ·rcases mem_insN.1 d with rfl|d
  ·exact j
  ·exact(h.blk y d).same (D _ (.inr ⟨y,d,.inl rfl⟩) (o y d _ (.inl rfl)))
 ·rcases mem_insN.1 d with rfl|d
  ·exact r
  ·exact(h.row y d).same fun g C=>D g (.inr ⟨y,d,.inr C⟩) (o y d g (.inr C))
 ·exact((q3r x L).pairwise_iff fun {a b} E=>SepE.symm E).2 (List.pairwise_cons.2 ⟨s,h.sep⟩)
theorem FS.del(h:FS w m L)(nm:List UInt8)(j:w'.ownsMap Tryz.prog 9 q6I m n ((q5d L).del (.string nm)))
  (r: ∀i,InF m L i->i≠m->w'.heap[i]? =w.heap[i]?):FS w' m (q1M FE.nm nm L):=by
 have l: ∀y∈L,∀i,i=y.b\/y.v.ownBlock=some i->i≠m:=by
  intro y d i o e;subst e;rcases o with rfl|o
  ·exact q4h h.map (h.blk y d) rfl
  ·exact q9s h.map (h.row y d) o
 refine⟨z6y j (z3V nm L),fun y d=>?_,fun y d=>?_,h.sep.filter _,q3D h.ord⟩
 ·have d:=(mem_delN.1 d).1
  exact(h.blk y d).same (r _ (.inr ⟨y,d,.inl rfl⟩) (l y d _ (.inl rfl)))
 ·have d:=(mem_delN.1 d).1
  exact(h.row y d).same fun g q=>r g (.inr ⟨y,d,.inr q⟩) (l y d g (.inr q))
theorem InF.del{nm:List UInt8}(h:InF m (q1M FE.nm nm L) i):InF m L i:=by
 rcases h with h|⟨e,he,h⟩
 ·exact .inl h
 ·exact .inr ⟨e,(mem_delN.1 he).1,h⟩
theorem InF.ins{x:FE}(h:InF m (q1e FE.nm x L) i):i=x.b\/x.v.ownBlock=some i\/InF m L i:=by
 rcases h with h|⟨e,he,h⟩
 ·exact .inr (.inr (.inl h))
 ·rcases mem_insN.1 he with rfl|he
  ·rcases h with h|h
   ·exact .inl h
   ·exact .inr (.inl h)
  ·exact .inr (.inr (.inr ⟨e,he,h⟩))
theorem InF.upd{nm:List UInt8}{e e':FE}(o:q2Q FE.nm L)(j:q0F FE.nm nm L=some e)(l:e'.b=e.b)(h:InF m (q1P FE.nm nm (fun _=>e') L) i):InF m L i\/e'.v.ownBlock=some i:=by
 rcases h with h|⟨y,d,h⟩
 ·exact .inl (.inl h)
 ·rcases(q4t (f:=fun _:FE=>e') o j).1 d with rfl|⟨d,_⟩
  ·rcases h with h|h
   ·exact .inl (.inr ⟨e,(q0J j).1,.inl (h.trans l)⟩)
   ·exact .inr h
  ·exact .inl (.inr ⟨y,d,h⟩)
end
def q6y(σ:DM)(us:Int)(m:Nat)(kv:Value):Array Value:=
 #[.bool true,.int .i64 σ.cap,.int .i64 us,.map (some m),.int .i64 σ.reads,.int .i64 σ.starts,.bool σ.down,.bool σ.fail,.int .i64 σ.left,kv]
structure DkI(w:World)(g m:Nat)(kv:Value)(L:List FE)(us:Int)(σ:DM):Prop where
 head:Blk w g 134 (q6y σ us m kv)
 fs:FS w m L
 files:L.map FE.f=σ.L
 keep:Own w 0 3 1 kv σ.keep.length (σ.keep.map (Value.int .i64))
def InD(g m:Nat)(kv:Value)(L:List FE)(i:Nat):Prop:=i=g\/InF m L i\/kv.ownBlock=some i
def Dk(w:World)(g:Nat)(F:Nat->Prop)(σ:DM):Prop:=
 okD σ/\ ∃m kv L,DkI w g m kv L (q0P σ.L:Int) σ/\(∀i,InD g m kv L i->F i)/\ ∀i,F i->i<w.heap.size
structure OffS(F:Nat->Prop)(w w':World):Prop where
 os:w'.os=w.os
 tape:w'.tape=w.tape
 output:w'.output=w.output
 size:w.heap.size<=w'.heap.size
 block: ∀i,i<w.heap.size->¬F i->w'.heap[i]? =w.heap[i]?
def Gr(F:Nat->Prop)(w w':World)(i:Nat):Prop:=F i\/(w.heap.size<=i/\i<w'.heap.size)
section
variable {F G:Nat->Prop}{a b c w w':World}
theorem OffS.refl(F:Nat->Prop)(w:World):OffS F w w:=⟨rfl,rfl,rfl,ι _,fun _ _ _=>rfl⟩
theorem OffS.of_ext(h:Ext w w'):OffS F w w':=⟨h.os,h.tape,h.output,h.size,fun i d _=>h.block i d⟩
theorem OffS.mono(h:OffS F w w')(k: ∀i,i<w.heap.size->F i->G i):OffS G w w':=⟨h.os,h.tape,h.output,h.size,fun i d l=>h.block i d fun j=>l (k i d j)⟩
theorem OffS.trans(h:OffS F a b)(k:OffS F b c):OffS F a c:=
 ⟨k.os.trans h.os,k.tape.trans h.tape,k.output.trans h.output,Ω h.size k.size,fun i d j=>(k.block i (Ψ d h.size) j).trans (h.block i d j)⟩
theorem OffS.gr(h:OffS F a b)(k:OffS (Gr F a b) b c):OffS F a c:=
 ⟨k.os.trans h.os,k.tape.trans h.tape,k.output.trans h.output,Ω h.size k.size,fun i d j=>(k.block i (Ψ d h.size) (by rintro(h|⟨h,_⟩);exact j h;omega)).trans (h.block i d j)⟩
theorem OffS.set(w:World){g:Nat}(d:F g)(k:Nat)(u:Value):OffS F w (w.setCell ⟨g,k,none⟩ u):=
 ⟨rfl,rfl,rfl,by simp[World.setCell],fun i _ j=>Below.heap_setCell _ _ _ _ fun e=>j (e▸d)⟩
theorem OffS.grown{row:Option Nat}(h:w.grownBy w' row)(l: ∀i,row=some i->F i):OffS F w w':=
 ⟨h.os,h.tape,h.output,h.size,fun i d j=>h.block i d fun e=>j (l i e.symm)⟩
theorem OffS.turned{m:Nat}(h:w.mapTurned w' m)(hm:F m):OffS F w w':=OffS.grown h.grown fun i e=>by cases e;exact hm
theorem OffS.below(h:Below B w0 w)(o:B<=w.heap.size)(d: ∀i,F i->B<=i)(k:OffS F w w'):Below B w0 w':=
 ⟨k.os.trans h.os,k.tape.trans h.tape,k.output.trans h.output,Ω h.size k.size,fun i l=>(k.block i (by omega) fun j=>by have:=d i j;omega).trans (h.block i l)⟩
theorem OffS.ext(h:Ext w0 w)(d: ∀i,F i->w0.heap.size<=i)(k:OffS F w w'):Ext w0 w':=OffS.below h h.size d k
theorem OffS.blk{cs:Array Value}(k:OffS F w w')(h:Blk w i t cs)(d:¬F i):Blk w' i t cs:=h.same (k.block i h.lt d)
theorem OffS.own{size:Nat}{cs:List Value}(k:OffS F w w')(h:Own w B e size v n cs)(j: ∀i,v.ownBlock=some i->¬F i):Own w' B e size v n cs:=
 h.same fun i d=>k.block i (h.lt i d).2 (j i d)
theorem Gr.not(h:¬F i)(j:i<w.heap.size):¬Gr F w w' i:=by
 rintro(d|d)
 ·exact h d
 ·omega
theorem Gr.ge(h: ∀i,F i->B<=i)(l:B<=w.heap.size)(j:Gr F w w' i):B<=i:=by
 rcases j with d|d
 ·exact h i d
 ·omega
end
structure DkS(w:World)(g:Nat)(F:Nat->Prop)(σ:DM)(w':World):Prop where
 dk:Dk w' g (Gr F w w') σ
 off:OffS F w w'
theorem DkI.inD_lt{w:World}{g m:Nat}{kv:Value}{L:List FE}{us:Int}{σ:DM}(h:DkI w g m kv L us σ)(d:InD g m kv L i):i<w.heap.size:=by
 rcases d with rfl|d|d
 ·exact h.head.lt
 ·exact h.fs.lt d
 ·exact(h.keep.lt i d).2
theorem DkI.ext{w w':World}{g m:Nat}{kv:Value}{L:List FE}{us:Int}{σ:DM}(h:DkI w g m kv L us σ)(k:Ext w w'):DkI w' g m kv L us σ:=
 ⟨h.head.ext k,h.fs.ext k,h.files,h.keep.ext k⟩
theorem Dk.ext{w w':World}{g:Nat}{F:Nat->Prop}{σ:DM}(h:Dk w g F σ)(k:Ext w w'):Dk w' g F σ:=by
 obtain⟨q,m,kv,L,o,d,j⟩:=h;exact⟨q,m,kv,L,o.ext k,d,fun i l=>Ψ (j i l) k.size⟩
theorem Dk.mono{w:World}{g:Nat}{F G:Nat->Prop}{σ:DM}(h:Dk w g F σ)(k: ∀i,F i->G i)(j: ∀i,G i->i<w.heap.size):Dk w g G σ:=by
 obtain⟨q,m,kv,L,o,d,_⟩:=h;exact⟨q,m,kv,L,o,fun i l=>k i (d i l),j⟩
theorem DkS.mk' {w w':World}{g m s:Nat}{kv j:Value}{L q:List FE}{F:Nat->Prop}{σ':DM}(x: ∀i,InD g m kv L i->F i)(hF: ∀i,F i->i<w.heap.size)(y:okD σ')(u:DkI w' g s j q (q0P σ'.L:Int) σ')
  (l:OffS (InD g m kv L) w w')(r: ∀i,InD g s j q i->InD g m kv L i\/w.heap.size<=i):DkS w g F σ' w':=by
 have off:OffS F w w':=l.mono fun i _=>x i
 refine⟨⟨y,s,j,q,u,fun i o=>?_,fun i o=>?_⟩,off⟩
 ·rcases r i o with d|d
  ·exact .inl (x i d)
  ·exact .inr ⟨d,u.inD_lt o⟩
 ·rcases o with d|d
  ·exact Ψ (hF i d) off.size
  ·exact d.2
end
section
open Go.RowKit
theorem z9H :Maps.Keyed Tryz.prog 9:=Maps.string_keyed Tryz.underlying9
theorem y2w(w:World):(zeroValue 150).run Tryz.prog w= .ok (.pointer none) w:=by kernel_rfl
theorem z5A(nm:List UInt8)(h:nm.length<=9223372036854775807):keyOf Tryz.prog 9 (.string ⟨nm.toArray⟩)=some (.string nm):=
 WideMaps.keyOf_string_mk Tryz.underlying9 (s:=⟨nm.toArray⟩) (by unfold maxLen;exact h)
theorem z3m{w:World}{m:Nat}{L:List FE}(h:FS w m L)(nm:List UInt8)(l:nm.length<=9223372036854775807): ∃v ps,(Instr.lookup 132 (.map (some m)) (.string ⟨nm.toArray⟩) true).run Tryz.prog w= .ok (.tuple #[v,.bool (q0F FE.nm nm L).isSome]) w/\
  q6I v=some (match q0F FE.nm nm L with|some e=> .lit (.int .i64 e.b)|none=> .nil,ps):=by
 obtain⟨v,ps,d,j⟩:=h.map.look_ok z9H Tryz.underlying132 (y2w w) z0C (z5A nm l);rw[z8e] at d;rw[z6N] at j;exact⟨v,ps,d,j⟩
theorem q9r{w:World}{m:Nat}{L:List FE}(h:FS w m L){nm:List UInt8}(o:nm.length<=9223372036854775807){e:FE}(l:q0F FE.nm nm L=some e):
  (Instr.lookup 132 (.map (some m)) (.string ⟨nm.toArray⟩) true).run Tryz.prog w= .ok (.tuple #[.pointer (some ⟨e.b,0,none⟩),.bool true]) w:=by
 obtain⟨v,ps,d,j⟩:=z3m h nm o;rw[l] at d j;rw[d,z0B j];rfl
theorem z2R{w:World}{m:Nat}{L:List FE}(h:FS w m L){nm:List UInt8}(o:nm.length<=9223372036854775807)(l:q0F FE.nm nm L=none):
  (Instr.lookup 132 (.map (some m)) (.string ⟨nm.toArray⟩) true).run Tryz.prog w= .ok (.tuple #[.pointer none,.bool false]) w:=by
 obtain⟨v,ps,d,j⟩:=z3m h nm o;rw[l] at d j;rw[d,z1T j];rfl
theorem z6v{w:World}{m:Nat}{L:List FE}(h:FS w m L){nm:List UInt8}(o:nm.length<=9223372036854775807){e:FE}(l:q0F FE.nm nm L=some e):
  (Instr.lookup 132 (.map (some m)) (.string ⟨nm.toArray⟩) false).run Tryz.prog w= .ok (.pointer (some ⟨e.b,0,none⟩)) w:=by
 obtain⟨v,ps,j,d⟩:=h.map.lookup z9H Tryz.underlying132 (y2w w) z0C (z5A nm o);rw[z6N,l] at d;rw[j,z0B d]
section head
variable {w :World}{g m:Nat}{kv:Value}{L:List FE}{us:Int}{σ:DM}
theorem DkI.c0(h:DkI w g m kv L us σ):w.cell? ⟨g,0,none⟩=some (.bool true):=h.head.cell 0
theorem DkI.c1(h:DkI w g m kv L us σ):w.cell? ⟨g,1,none⟩=some (.int .i64 σ.cap):=h.head.cell 1
theorem DkI.c2(h:DkI w g m kv L us σ):w.cell? ⟨g,2,none⟩=some (.int .i64 us):=h.head.cell 2
theorem DkI.c3(h:DkI w g m kv L us σ):w.cell? ⟨g,3,none⟩=some (.map (some m)):=h.head.cell 3
theorem DkI.c4(h:DkI w g m kv L us σ):w.cell? ⟨g,4,none⟩=some (.int .i64 σ.reads):=h.head.cell 4
theorem DkI.c5(h:DkI w g m kv L us σ):w.cell? ⟨g,5,none⟩=some (.int .i64 σ.starts):=h.head.cell 5
theorem DkI.c6(h:DkI w g m kv L us σ):w.cell? ⟨g,6,none⟩=some (.bool σ.down):=h.head.cell 6
theorem DkI.c7(h:DkI w g m kv L us σ):w.cell? ⟨g,7,none⟩=some (.bool σ.fail):=h.head.cell 7
theorem DkI.c8(h:DkI w g m kv L us σ):w.cell? ⟨g,8,none⟩=some (.int .i64 σ.left):=h.head.cell 8
theorem DkI.c9(h:DkI w g m kv L us σ):w.cell? ⟨g,9,none⟩=some kv:=h.head.cell 9
theorem DkI.z(h:DkI w g m kv L us σ)(i:Nat):w.frozen? ⟨g,i,none⟩=false:=h.head.free i
theorem DkI.f0(h:DkI w g m kv L us σ){e:FE}(he:e∈L):w.cell? ⟨e.b,0,none⟩=some e.v:=(h.fs.blk e he).cell 0
theorem DkI.f1(h:DkI w g m kv L us σ){e:FE}(he:e∈L):w.cell? ⟨e.b,1,none⟩=some (.int .i64 (e.f.sy:Int)):=(h.fs.blk e he).cell 1
theorem DkI.fz(h:DkI w g m kv L us σ){e:FE}(he:e∈L)(i:Nat):w.frozen? ⟨e.b,i,none⟩=false:=(h.fs.blk e he).free i
end head
theorem q6V(w:World)(g:Nat)(b:Bool)(d:w.cell? ⟨g,0,none⟩=some (.bool b)):Calls Tryz.prog 63 #[.pointer (some ⟨g,0,none⟩)] w fun e w'=>e= .returned (.bool (!b))/\w=w':=by
 go_enter Tryz.func63,Tryz.ntmps63;go_wp2_with fail;go_ret;exact⟨rfl,rfl⟩
theorem q4M(w:World)(g:Nat)(d:w.cell? ⟨g,0,none⟩=some (.bool true))(j:w.cell? ⟨g,6,none⟩=some (.bool false)):Calls Tryz.prog 80 #[.pointer (some ⟨g,0,none⟩)] w fun e w'=>e= .returned (.int .i64 0)/\w=w':=by
 go_enter Tryz.func80,Tryz.ntmps80;go_wp2_with fail;refine(q6V _ g true d).mono ?_;rintro e w' ⟨rfl,rfl⟩;go_wp2_with fail;go_ret;exact⟨rfl,rfl⟩
theorem q3w(w:World)(g:Nat)(d:w.cell? ⟨g,0,none⟩=some (.bool true))(j:w.cell? ⟨g,6,none⟩=some (.bool true)):Calls Tryz.prog 80 #[.pointer (some ⟨g,0,none⟩)] w fun e w'=>e= .returned (.int .i64 61)/\w=w':=by
 go_enter Tryz.func80,Tryz.ntmps80;go_wp2_with fail;refine(q6V _ g true d).mono ?_;rintro e w' ⟨rfl,rfl⟩;go_wp2_with fail;go_ret;exact⟨rfl,rfl⟩
theorem z0w(w:World)(g:Nat)(d:w.cell? ⟨g,0,none⟩=some (.bool true))(j:w.cell? ⟨g,6,none⟩=some (.bool true))(s:ByteArray):Calls Tryz.prog 192 #[.pointer (some ⟨g,0,none⟩),.string s] w fun e w'=>e= .returned (.tuple #[.pointer none,.int .i64 61])/\w=w':=by
 have H:=η (q3w w g d j);clear d j;go_enter Tryz.func192,Tryz.ntmps192;go_wp2_with fail;refine H.o.mono ?_;rintro e w' ⟨rfl,rfl⟩;go_wp2_with fail;go_ret2;exact⟨rfl,rfl⟩
theorem find_none(w:World)(g m:Nat)(nm:List UInt8)(d:w.cell? ⟨g,0,none⟩=some (.bool true))(j:w.cell? ⟨g,6,none⟩=some (.bool false))(q:w.cell? ⟨g,3,none⟩=some (.map (some m)))
  (l:(Instr.lookup 132 (.map (some m)) (.string ⟨nm.toArray⟩) true).run Tryz.prog w= .ok (.tuple #[.pointer none,.bool false]) w):
  Calls Tryz.prog 192 #[.pointer (some ⟨g,0,none⟩),.string ⟨nm.toArray⟩] w fun e w'=>e= .returned (.tuple #[.pointer none,.int .i64 4])/\w=w':=by
 have H:=η (q4M w g d j);clear d j;go_enter Tryz.func192,Tryz.ntmps192;go_wp2_with fail;refine H.o.mono ?_;rintro e w' ⟨rfl,rfl⟩;go_wp2_with fail;go_ret2;exact⟨rfl,rfl⟩
theorem find_some(w:World)(g m b:Nat)(nm:List UInt8)(d:w.cell? ⟨g,0,none⟩=some (.bool true))(j:w.cell? ⟨g,6,none⟩=some (.bool false))(q:w.cell? ⟨g,3,none⟩=some (.map (some m)))
  (l:(Instr.lookup 132 (.map (some m)) (.string ⟨nm.toArray⟩) true).run Tryz.prog w= .ok (.tuple #[.pointer (some ⟨b,0,none⟩),.bool true]) w):
  Calls Tryz.prog 192 #[.pointer (some ⟨g,0,none⟩),.string ⟨nm.toArray⟩] w fun e w'=>e= .returned (.tuple #[.pointer (some ⟨b,0,none⟩),.int .i64 0])/\w=w':=by
 have H:=η (q4M w g d j);clear d j;go_enter Tryz.func192,Tryz.ntmps192;go_wp2_with fail;refine H.o.mono ?_;rintro e w' ⟨rfl,rfl⟩;go_wp2_with fail;go_ret2;exact⟨rfl,rfl⟩
theorem y0D(w:World)(nm:List UInt8)(q:nm.length<=9223372036854775807):Calls Tryz.prog 266 #[.string ⟨nm.toArray⟩] w fun e w'=>e= .returned (.bool (q2G nm))/\w=w':=by
 by_cases j:nm=[]
 ·subst j
  go_enter Tryz.func266,Tryz.ntmps266;go_wp2_with fail;go_ret;exact⟨rfl,rfl⟩
 ·have l:nm.isEmpty=false:=by cases nm<;>simp_all
  by_cases d:nm.length<=12
  ·have e:q2G nm=true:=by unfold q2G;simp[l,d]
   have E:=η e;clear e;go_enter Tryz.func266,Tryz.ntmps266;go_wp2_with fail;go_ret;rw[E.o];exact⟨rb (by simp;omega),rfl⟩
  ·have e:q2G nm=false:=by unfold q2G;simp[d]
   have E:=η e;clear e;go_enter Tryz.func266,Tryz.ntmps266;go_wp2_with fail;go_ret;rw[E.o];exact⟨rb (by simp;omega),rfl⟩
theorem z6X(w:World)(g:Nat)(d:w.cell? ⟨g,7,none⟩=some (.bool true))(j:w.cell? ⟨g,8,none⟩=some (.int .i64 0)):
  Calls Tryz.prog 193 #[.pointer (some ⟨g,0,none⟩)] w fun e w'=>e= .returned (.bool true)/\w=w':=by
 go_enter Tryz.func193,Tryz.ntmps193;go_wp2_with fail;go_ret;exact⟨rfl,rfl⟩
theorem z8r(w:World)(g:Nat)(fl:Bool)(k:Int)(l:w.cell? ⟨g,7,none⟩=some (.bool fl))(o:w.cell? ⟨g,8,none⟩=some (.int .i64 k))(r:w.frozen? ⟨g,8,none⟩=false)(d:0<=k)(j:k<=9223372036854775807)(h:fl=true->k≠0):
  Calls Tryz.prog 193 #[.pointer (some ⟨g,0,none⟩)] w fun e w'=>e= .returned (.bool false)/\w'=w.setCell ⟨g,8,none⟩ (.int .i64 (max (k-1) 0)):=by
 cases fl with
 | false=>
  clear h;go_enter Tryz.func193,Tryz.ntmps193;go_wp2_with fail
  all_goals
   go_ret;refine⟨rfl,congrArg (fun x:Int=>w.setCell ⟨g,8,none⟩ (.int .i64 x)) ?_⟩;omega
 | true=>
  have q:(k==0)=false:=by simpa using h rfl
  clear h;go_enter Tryz.func193,Tryz.ntmps193;go_wp2_with fail
  all_goals
   go_ret;refine⟨rfl,congrArg (fun x:Int=>w.setCell ⟨g,8,none⟩ (.int .i64 x)) ?_⟩;omega
def z8H(c:Int):DM:=⟨c,[],0,0,false,false,0,[]⟩
theorem y2X(c:Int)(d:0<=c)(j:c<=1048576):okD (z8H c):=⟨d,j,by simpa [z8H,q0P,q5I] using d,List.Pairwise.nil,(fun f l=>by cases l),υ _,Int.le_refl _,fun _=>rfl,υ _,by show(0:Int)<=_;decide⟩
theorem y2W(w:World)(c:Int)(l:0<=c)(o:c<=1048576):Dk ((w.alloc (.map #[] 0)).alloc (.cells (q6y (z8H c) 0 w.heap.size (.slice none 0 0)) 134)) (w.heap.size+1) (fun i=>i=w.heap.size\/i=w.heap.size+1) (z8H c):=by
 have d:=Blk.new (w.alloc (.map #[] 0)) 134 (q6y (z8H c) 0 w.heap.size (.slice none 0 0));rw[ρ] at d;have hm:=(World.ownsMap_made (H:=Unit) w Tryz.prog 9 q6I).alloc (.cells (q6y (z8H c) 0 w.heap.size (.slice none 0 0)) 134);refine⟨y2X c l o,w.heap.size,.slice none 0 0,[],⟨d,⟨hm,(fun e he=>by cases he),(fun e he=>by cases he),List.Pairwise.nil,List.Pairwise.nil⟩,rfl,Own.nil _ _ _ _⟩,fun i j=>?_,fun i j=>?_⟩
 ·rcases j with h|(h|⟨_,h,_⟩)|h
  ·exact .inr h
  ·exact .inl h
  ·cases h
  ·cases h
 ·simp only[ρ];omega
theorem y3R(w:World)(c:Int)(d:0<=c)(j:c<=1048576):Calls Tryz.prog 55 #[.int .i64 c] w fun e w'=> ∃g F,e= .returned (.tuple #[.pointer (some ⟨g,0,none⟩),.int .i64 0])/\Dk w' g F (z8H c)/\(∀i,F i->w.heap.size<=i)/\Ext w w':=by
 have l:=@run_makeMap Tryz.prog;go_enter Tryz.func55,Tryz.ntmps55;go_wp2_with fail;go_ret2;exact⟨_,_,rfl,y2W w c d j,(fun i o=>by omega),q5q _ _ _⟩
end
end Go.Proofs.YtfiibpgoplcgkaaGreatDoor
