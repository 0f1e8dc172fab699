/- How a disk lies in memory. -/
import Derived.Test.YthdekbmdkpcooaaGreatDoorChecked
import Derived.Test.YthdekbmdkpcooaaGreatDoorG6CT
import Derived.Test.YthdekbmdkpcooaaGreatDoorG8CT
import Derived.Test.YthdekbmdkpcooaaGreatDoorG2CT
import Derived.Maps.OwnSet
import Derived.Maps.RangeWalk
import Derived.Lib.AppendStr
set_option linter.unusedVariables false
set_option linter.unusedSimpArgs false
set_option maxRecDepth 100000
set_option maxHeartbeats 800000
namespace Go.Proofs.YthdekbmdkpcooaaGreatDoor
section
open Go.RowKit
open Go.Maps (Keyed)
def q6I (v:Value):Option (DataW Unit×List MemPlace):=
 match v with
 | .pointer none=>some (.nil,[])
 | .pointer (some ⟨b,0,none⟩)=>some (.lit (.int .i64 b),[])
 |_=>none
theorem z5o (b:Nat):q6I (.pointer (some ⟨b,0,none⟩))=some (.lit (.int .i64 b),[]):=rfl
theorem q8j :q6I (.pointer none)=some (.nil,[]):=rfl
theorem q8u {v:Value} {b:Nat} {ps:List MemPlace} (h:q6I v=some (.lit (.int .i64 b),ps)):v= .pointer (some ⟨b,0,none⟩):=by
 unfold q6I at h
 split at h
 ·cases h
 ·rename_i b'
  simp only[Option.some.injEq,Prod.mk.injEq,DataW.lit.injEq,Lit.int.injEq,true_and] at h;have:b'=b:=by omega
  rw[this]
 ·cases h
theorem q9v {v:Value} {ps:List MemPlace} (h:q6I v=some (.nil,ps)):v= .pointer none:=by
 unfold q6I at h
 split at h
 ·rfl
 ·cases h
 ·cases h
structure FE where
 f:FM
 b:Nat
 v:Value
def FE.nm (e:FE):List UInt8:=e.f.nm
def q5w (L:List FE):DataW Unit:= .map (L.map fun e=>(Lit.string e.f.nm,.lit (.int .i64 e.b)))
theorem z1w (x:FE): ∀L:List FE,DataW.insert (Lit.string x.f.nm,(.lit (.int .i64 x.b):DataW Unit)) (L.map fun e=>(Lit.string e.f.nm,.lit (.int .i64 e.b)))=(q3g FE.nm x L).map fun e=>(Lit.string e.f.nm,.lit (.int .i64 e.b))
 |[]=>rfl
 | y::r=>by
  unfold q3g;rw[List.map_cons,DataW.insert];show (if bytesBefore x.f.nm y.f.nm then _ else _)=_
  split
  ·rename_i h;rw[if_pos (show bytesBefore (FE.nm x) (FE.nm y)=true from h)];rfl
  ·rename_i h;rw[if_neg (show ¬bytesBefore (FE.nm x) (FE.nm y)=true from h),z1w x r];rfl
theorem z8D (nm:List UInt8) (L:List FE):(q5w L).del (.string nm)=q5w (q2k FE.nm nm L):=by
 show DataW.map (List.filter _ _)=DataW.map _
 congr 1
 unfold q2k;rw[List.filter_map]
 rfl
theorem z6f (x:FE) (L:List FE):(q5w L).put (.string x.f.nm) (.lit (.int .i64 x.b))=q5w (q3g FE.nm x (q2k FE.nm x.f.nm L)):=by
 unfold q5w;rw[←z1w];show DataW.map (DataW.insert _ (List.filter _ _))=_
 congr 2
 unfold q2k;rw[List.filter_map]
 rfl
theorem z6o (nm:List UInt8) (L:List FE):Maps.has (q5w L) (.string nm)=(q0H FE.nm nm L).isSome:=by
 show (List.map _ L).any _=_;rw[List.any_map,Bool.eq_iff_iff,List.any_eq_true];unfold q0H;rw[List.find?_isSome]
 rfl
theorem z5T (nm:List UInt8) (L:List FE) (z:DataW Unit):(q5w L).atKey (.string nm) z=match q0H FE.nm nm L with|some e=> .lit (.int .i64 e.b)|none=>z:=by
 unfold q5w DataW.atKey q0H;simp only[List.find?_map];have e1:((fun p:Lit×DataW Unit=>p.1.sameKey (.string nm))∘fun e:FE=>(Lit.string e.f.nm,(.lit (.int .i64 e.b):DataW Unit)))=fun y=>FE.nm y==nm:=rfl
 rw[e1]
 cases L.find? fun y=>FE.nm y==nm<;>rfl
theorem q6z (L:List FE):Maps.size (q5w L)=L.length:=by show (List.map _ L).length=_;simp
theorem q6s (L:List FE):strKeys (q5w L)=L.map FE.nm:=by show (List.map _ (L.map _))=_;rw[List.map_map];rfl
def SepE (x y:FE):Prop:=x.b≠y.b∧ ∀g,x.v.ownBlock=some g→y.v.ownBlock≠some g
theorem SepE.symm {x y:FE} (h:SepE x y):SepE y x:=⟨Ne.symm h.1,fun g hy hx=>h.2 g hx hy⟩
structure FS (w:World) (m:Nat) (L:List FE):Prop where
 map:w.ownsMap Tryz.prog 9 q6I m L.length (q5w L)
 blk: ∀e∈L,Blk w e.b 221 #[e.v,.int .i64 (e.f.sy:Int)]
 row: ∀e∈L,Own w 0 5 1 e.v e.f.da.length (e.f.da.map q1L)
 sep:L.Pairwise SepE
 ord:q3E FE.nm L
def InF (m:Nat) (L:List FE) (i:Nat):Prop:=i=m∨ ∃e∈L,i=e.b∨e.v.ownBlock=some i
theorem q2C {H:Type} {P:Program} {k:TypeId} {R:Value→Option (DataW H×List MemPlace)} {w w':World} {b n:Nat} {D:DataW H} (h:w.ownsMap P k R b n D) (e:w'.heap[b]? =w.heap[b]?):w'.ownsMap P k R b n D:=by
 obtain ⟨es,clock,hb,r⟩:=h;exact ⟨es,clock,e.trans hb,r⟩
theorem z4R {H:Type} {P:Program} {k:TypeId} {R:Value→Option (DataW H×List MemPlace)} {w:World} {b n:Nat} {D:DataW H} (h:w.ownsMap P k R b n D):w.ownsMap P k R b (Maps.size D) D:=by
 obtain ⟨es,clock,hb,F,hs,rfl⟩:=h;exact ⟨es,clock,hb,F,by simp[Maps.size,length_sorted],rfl⟩
theorem z8Y {w:World} {m n:Nat} {D:DataW Unit} {L:List FE} (h:w.ownsMap Tryz.prog 9 q6I m n D) (e:D=q5w L):w.ownsMap Tryz.prog 9 q6I m L.length (q5w L):=by
 subst e;have:=z4R h
 rwa [q6z] at this
theorem q5f {H:Type} {P:Program} {k:TypeId} {R:Value→Option (DataW H×List MemPlace)} {w:World} {b n:Nat} {D:DataW H} (h:w.ownsMap P k R b n D) {i:Nat} {t:TypeId} {cs:Array Value} (hb:Blk w i t cs):i≠b:=fun e=>by
 obtain ⟨es,clock,hh,_⟩:=h;subst e;unfold Blk at hb;rw[hb] at hh
 cases hh
theorem z1F {H:Type} {P:Program} {k:TypeId} {R:Value→Option (DataW H×List MemPlace)} {w:World} {b n:Nat} {D:DataW H} (h:w.ownsMap P k R b n D) {B:Nat} {e:TypeId} {size:Nat} {v:Value} {n':Nat} {cs:List Value} (ho:Own w B e size v n' cs):v.ownBlock≠some b:=fun hh=>by
 obtain ⟨cur,hc⟩:=ho.etype hh;exact q5f h (cs:=cur) hc rfl
theorem Blk.ne {w:World} {i j:Nat} {t u:TypeId} {cs ds:Array Value} (h:Blk w i t cs) (h':Blk w j u ds) (hne:t≠u):i≠j:=fun e=>by
 subst e;unfold Blk at h h';rw[h] at h'
 cases h';exact hne rfl
theorem Blk.own {w:World} {i:Nat} {t:TypeId} {cs:Array Value} (h:Blk w i t cs) {B:Nat} {e:TypeId} {size:Nat} {v:Value} {n':Nat} {xs:List Value} (ho:Own w B e size v n' xs) (hne:e≠t):v.ownBlock≠some i:=fun hh=>by
 obtain ⟨cur,hc⟩:=ho.etype hh;exact Blk.ne h (ds:=cur) hc (Ne.symm hne) rfl
section
variable {w w':World} {m:Nat} {L:List FE}
theorem FS.lt (h:FS w m L) {i:Nat} (hi:InF m L i):i<w.heap.size:=by
 rcases hi with rfl|⟨e,he,rfl|hi⟩
 ·exact h.map.lt
 ·exact (h.blk e he).lt
 ·exact ((h.row e he).lt i hi).2
theorem FS.same (h:FS w m L) (k: ∀i,InF m L i→w'.heap[i]? =w.heap[i]?):FS w' m L:=
 ⟨q2C h.map (k m (.inl rfl)),fun e he=>(h.blk e he).same (k _ (.inr ⟨e,he,.inl rfl⟩)),fun e he=>(h.row e he).same fun g hg=>k g (.inr ⟨e,he,.inr hg⟩),h.sep,h.ord⟩
theorem FS.ext (h:FS w m L) (k:Ext w w'):FS w' m L:=h.same fun i hi=>k.block i (h.lt hi)
theorem FS.out (h:FS w m L) {i:Nat} {t:TypeId} {cs:Array Value} (hb:Blk w i t cs) (h1:t≠221) (h2:t≠5):¬InF m L i:=by
 rintro (rfl|⟨e,he,rfl|hi⟩)
 ·exact q5f h.map hb rfl
 ·exact Blk.ne hb (h.blk e he) h1 rfl
 ·exact Blk.own hb (h.row e he) (Ne.symm h2) hi
theorem FS.sepOf (h:FS w m L) {x y:FE} (hx:x∈L) (hy:y∈L) (hne:x.f.nm≠y.f.nm):SepE x y:=by
 have hp:=h.sep;clear h
 induction L with
 |nil=>cases hx
 | cons a r ih=>
  obtain ⟨h1,h2⟩:=List.pairwise_cons.1 hp;rcases List.mem_cons.1 hx with ex|hx'<;>rcases List.mem_cons.1 hy with ey|hy'
  ·exact absurd (by rw[ex,ey]) hne
  ·subst ex;exact h1 y hy'
  ·subst ey;exact (h1 x hx').symm
  ·exact ih hx' hy' h2
theorem FS.upd (h:FS w m L) {nm:List UInt8} {e:FE} (hf:q0H FE.nm nm L=some e) (e':FE) (hn:e'.f.nm=nm) (hb:e'.b=e.b)
  (hw: ∀i,InF m L i→i≠e.b→e.v.ownBlock≠some i→w'.heap[i]? =w.heap[i]?) (hblk:Blk w' e.b 221 #[e'.v,.int .i64 (e'.f.sy:Int)])
  (hrow:Own w' 0 5 1 e'.v e'.f.da.length (e'.f.da.map q1L)) (hsep: ∀i,e'.v.ownBlock=some i→e.v.ownBlock=some i∨¬InF m L i):FS w' m (q1N FE.nm nm (fun _=>e') L):=by
 obtain ⟨he,hen⟩:=q0O hf;have hmem:=fun y=>q4f (f:=fun _:FE=>e') (y:=y) h.ord hf
 have hne: ∀y∈L,FE.nm y≠nm→SepE e y:=fun y hy hn=>h.sepOf he hy fun e1=>hn (e1.symm.trans hen)
 have hsame: ∀y∈L,FE.nm y≠nm→ ∀i,i=y.b∨y.v.ownBlock=some i→w'.heap[i]? =w.heap[i]? :=by
  intro y hy hn i hi;have hs:=hne y hy hn;refine hw i (.inr ⟨y,hy,hi⟩) ?_ ?_
  ·rcases hi with rfl|hi
   ·exact Ne.symm hs.1
   ·intro e1;subst e1
    exact Blk.own (h.blk e he) (h.row y hy) (by decide) hi
  ·rcases hi with rfl|hi
   ·exact Blk.own (h.blk y hy) (h.row e he) (by decide)
   ·intro e1;exact hs.2 i e1 hi
 have hd:q5w (q1N FE.nm nm (fun _=>e') L)=q5w L:=by
  unfold q5w q1N;rw[List.map_map]
  congr 1
  refine List.map_congr_left fun y hy=>?_
  simp only[Function.comp]
  split
  ·rename_i hz
   have hz':FE.nm y=nm:=by simpa using hz
   obtain rfl:=q5n h.ord hy he (hz'.trans hen.symm);have hz2:y.f.nm=nm:=hz';rw[hn,hb,hz2]
  ·rfl
 refine ⟨?_,fun y hy=>?_,fun y hy=>?_,?_,q9J h.ord fun y _=>hn⟩
 ·rw[hd,q6c]
  refine q2C h.map (hw m (.inl rfl) ?_ ?_)
  ·exact Ne.symm (q5f h.map (h.blk e he))
  ·exact z1F h.map (h.row e he)
 ·rcases (hmem y).1 hy with rfl|⟨hy,hyn⟩
  ·rw[hb];exact hblk
  ·exact (h.blk y hy).same (hsame y hy hyn _ (.inl rfl))
 ·rcases (hmem y).1 hy with rfl|⟨hy,hyn⟩
  ·exact hrow
  ·exact (h.row y hy).same fun g hg=>hsame y hy hyn g (.inr hg)
 ·refine q8y h.ord h.sep hf fun y hy hyn=>?_
  have hs:=hne y hy hyn
  have:SepE e' y:=⟨by rw[hb];exact hs.1,fun g hg hy2=>by
   rcases hsep g hg with h1|h1
   ·exact hs.2 g h1 hy2
   ·exact h1 (.inr ⟨y,hy,.inr hy2⟩)⟩
  exact ⟨this,this.symm⟩
theorem FS.put (h:FS w m L) (x:FE) {n:Nat} (hno:q0H FE.nm x.f.nm L=none) (hmap:w'.ownsMap Tryz.prog 9 q6I m n ((q5w L).put (.string x.f.nm) (.lit (.int .i64 x.b))))
  (hw: ∀i,InF m L i→i≠m→w'.heap[i]? =w.heap[i]?) (hblk:Blk w' x.b 221 #[x.v,.int .i64 (x.f.sy:Int)])
  (hrow:Own w' 0 5 1 x.v x.f.da.length (x.f.da.map q1L)) (hsep: ∀y∈L,SepE x y):FS w' m (q3g FE.nm x L):=by
 have hne: ∀y∈L,∀i,i=y.b∨y.v.ownBlock=some i→i≠m:=by
  intro y hy i hi e;subst e;rcases hi with rfl|hi
  ·exact q5f h.map (h.blk y hy) rfl
  ·exact z1F h.map (h.row y hy) hi
 refine ⟨z8Y hmap ?_,fun y hy=>?_,fun y hy=>?_,?_,q8b h.ord (q1v hno)⟩
 ·rw[z6f,q5Y hno]
 ·rcases mem_insN.1 hy with rfl|hy
  ·exact hblk
  ·exact (h.blk y hy).same (hw _ (.inr ⟨y,hy,.inl rfl⟩) (hne y hy _ (.inl rfl)))
 ·rcases mem_insN.1 hy with rfl|hy
  ·exact hrow
  ·exact (h.row y hy).same fun g hg=>hw g (.inr ⟨y,hy,.inr hg⟩) (hne y hy g (.inr hg))
 ·exact ((q4E x L).pairwise_iff fun {a b} hs=>SepE.symm hs).2 (List.pairwise_cons.2 ⟨hsep,h.sep⟩)
theorem FS.del (h:FS w m L) (nm:List UInt8) {n:Nat} (hmap:w'.ownsMap Tryz.prog 9 q6I m n ((q5w L).del (.string nm)))
  (hw: ∀i,InF m L i→i≠m→w'.heap[i]? =w.heap[i]?):FS w' m (q2k FE.nm nm L):=by
 have hne: ∀y∈L,∀i,i=y.b∨y.v.ownBlock=some i→i≠m:=by
  intro y hy i hi e;subst e;rcases hi with rfl|hi
  ·exact q5f h.map (h.blk y hy) rfl
  ·exact z1F h.map (h.row y hy) hi
 refine ⟨z8Y hmap (z8D nm L),fun y hy=>?_,fun y hy=>?_,h.sep.filter _,q8Q h.ord⟩
 ·have hy:=(mem_delN.1 hy).1
  exact (h.blk y hy).same (hw _ (.inr ⟨y,hy,.inl rfl⟩) (hne y hy _ (.inl rfl)))
 ·have hy:=(mem_delN.1 hy).1
  exact (h.row y hy).same fun g hg=>hw g (.inr ⟨y,hy,.inr hg⟩) (hne y hy g (.inr hg))
theorem InF.del {nm:List UInt8} {i:Nat} (h:InF m (q2k FE.nm nm L) i):InF m L i:=by
 rcases h with h|⟨e,he,h⟩
 ·exact .inl h
 ·exact .inr ⟨e,(mem_delN.1 he).1,h⟩
theorem InF.ins {x:FE} {i:Nat} (h:InF m (q3g FE.nm x L) i):i=x.b∨x.v.ownBlock=some i∨InF m L i:=by
 rcases h with h|⟨e,he,h⟩
 ·exact .inr (.inr (.inl h))
 ·rcases mem_insN.1 he with rfl|he
  ·rcases h with h|h
   ·exact .inl h
   ·exact .inr (.inl h)
  ·exact .inr (.inr (.inr ⟨e,he,h⟩))
theorem InF.upd {nm:List UInt8} {e e':FE} (ho:q3E FE.nm L) (hf:q0H FE.nm nm L=some e) (hb:e'.b=e.b) {i:Nat} (h:InF m (q1N FE.nm nm (fun _=>e') L) i):InF m L i∨e'.v.ownBlock=some i:=by
 rcases h with h|⟨y,hy,h⟩
 ·exact .inl (.inl h)
 ·rcases (q4f (f:=fun _:FE=>e') ho hf).1 hy with rfl|⟨hy,_⟩
  ·rcases h with h|h
   ·exact .inl (.inr ⟨e,(q0O hf).1,.inl (h.trans hb)⟩)
   ·exact .inr h
  ·exact .inl (.inr ⟨y,hy,h⟩)
end
def q8v (σ:DM) (us:Int) (m:Nat) (kv:Value):Array Value:=
 #[.bool true,.int .i64 σ.cap,.int .i64 us,.map (some m),.int .i64 σ.reads,.int .i64 σ.starts,.bool σ.down,.bool σ.fail,.int .i64 σ.left,kv]
structure DkI (w:World) (g m:Nat) (kv:Value) (L:List FE) (us:Int) (σ:DM):Prop where
 head:Blk w g 130 (q8v σ us m kv)
 fs:FS w m L
 files:L.map FE.f=σ.L
 keep:Own w 0 3 1 kv σ.keep.length (σ.keep.map (Value.int .i64))
def InD (g m:Nat) (kv:Value) (L:List FE) (i:Nat):Prop:=i=g∨InF m L i∨kv.ownBlock=some i
def Dk (w:World) (g:Nat) (F:Nat→Prop) (σ:DM):Prop:=
 okD σ∧ ∃m kv L,DkI w g m kv L (q0P σ.L:Int) σ∧(∀i,InD g m kv L i→F i)∧ ∀i,F i→i<w.heap.size
structure OffS (F:Nat→Prop) (w w':World):Prop where
 os:w'.os=w.os
 tape:w'.tape=w.tape
 output:w'.output=w.output
 size:w.heap.size≤w'.heap.size
 block: ∀i,i<w.heap.size→¬F i→w'.heap[i]? =w.heap[i]?
def Gr (F:Nat→Prop) (w w':World) (i:Nat):Prop:=F i∨(w.heap.size≤i∧i<w'.heap.size)
section
variable {F G:Nat→Prop} {a b c w w':World}
theorem OffS.refl (F:Nat→Prop) (w:World):OffS F w w:=⟨rfl,rfl,rfl,Nat.le_refl _,fun _ _ _=>rfl⟩
theorem OffS.of_ext (h:Ext w w'):OffS F w w':=⟨h.os,h.tape,h.output,h.size,fun i hi _=>h.block i hi⟩
theorem OffS.mono (h:OffS F w w') (k: ∀i,i<w.heap.size→F i→G i):OffS G w w':=⟨h.os,h.tape,h.output,h.size,fun i hi hn=>h.block i hi fun hf=>hn (k i hi hf)⟩
theorem OffS.trans (h:OffS F a b) (k:OffS F b c):OffS F a c:=
 ⟨k.os.trans h.os,k.tape.trans h.tape,k.output.trans h.output,Nat.le_trans h.size k.size,fun i hi hn=>(k.block i (Nat.lt_of_lt_of_le hi h.size) hn).trans (h.block i hi hn)⟩
theorem OffS.gr (h:OffS F a b) (k:OffS (Gr F a b) b c):OffS F a c:=
 ⟨k.os.trans h.os,k.tape.trans h.tape,k.output.trans h.output,Nat.le_trans h.size k.size,fun i hi hn=>(k.block i (Nat.lt_of_lt_of_le hi h.size) (by rintro (h|⟨h,_⟩);exact hn h;omega)).trans (h.block i hi hn)⟩
theorem OffS.set (w:World) {g:Nat} (hg:F g) (k:Nat) (u:Value):OffS F w (w.setCell ⟨g,k,none⟩ u):=
 ⟨rfl,rfl,rfl,by simp[World.setCell],fun i _ hn=>Below.heap_setCell _ _ _ _ fun e=>hn (e▸hg)⟩
theorem OffS.grown {row:Option Nat} (h:w.grownBy w' row) (hr: ∀i,row=some i→F i):OffS F w w':=
 ⟨h.os,h.tape,h.output,h.size,fun i hi hn=>h.block i hi fun e=>hn (hr i e.symm)⟩
theorem OffS.turned {m:Nat} (h:w.mapTurned w' m) (hm:F m):OffS F w w':=OffS.grown h.grown fun i e=>by cases e;exact hm
theorem OffS.below {B:Nat} {w0:World} (h:Below B w0 w) (hs:B≤w.heap.size) (hB: ∀i,F i→B≤i) (k:OffS F w w'):Below B w0 w':=
 ⟨k.os.trans h.os,k.tape.trans h.tape,k.output.trans h.output,Nat.le_trans h.size k.size,fun i hi=>(k.block i (by omega) fun hf=>by have:=hB i hf;omega).trans (h.block i hi)⟩
theorem OffS.ext {w0:World} (h:Ext w0 w) (hB: ∀i,F i→w0.heap.size≤i) (k:OffS F w w'):Ext w0 w':=OffS.below h h.size hB k
theorem OffS.blk {i:Nat} {t:TypeId} {cs:Array Value} (k:OffS F w w') (h:Blk w i t cs) (hn:¬F i):Blk w' i t cs:=h.same (k.block i h.lt hn)
theorem OffS.own {B:Nat} {e:TypeId} {size:Nat} {v:Value} {n:Nat} {cs:List Value} (k:OffS F w w') (h:Own w B e size v n cs) (hn: ∀i,v.ownBlock=some i→¬F i):Own w' B e size v n cs:=
 h.same fun i hi=>k.block i (h.lt i hi).2 (hn i hi)
theorem Gr.not {i:Nat} (h:¬F i) (hi:i<w.heap.size):¬Gr F w w' i:=by
 rintro (h1|h1)
 ·exact h h1
 ·omega
theorem Gr.ge {B i:Nat} (h: ∀i,F i→B≤i) (hB:B≤w.heap.size) (hi:Gr F w w' i):B≤i:=by
 rcases hi with h1|h1
 ·exact h i h1
 ·omega
end
structure DkS (w:World) (g:Nat) (F:Nat→Prop) (σ:DM) (w':World):Prop where
 dk:Dk w' g (Gr F w w') σ
 off:OffS F w w'
theorem DkI.inD_lt {w:World} {g m:Nat} {kv:Value} {L:List FE} {us:Int} {σ:DM} (h:DkI w g m kv L us σ) {i:Nat} (hi:InD g m kv L i):i<w.heap.size:=by
 rcases hi with rfl|hi|hi
 ·exact h.head.lt
 ·exact h.fs.lt hi
 ·exact (h.keep.lt i hi).2
theorem DkI.ext {w w':World} {g m:Nat} {kv:Value} {L:List FE} {us:Int} {σ:DM} (h:DkI w g m kv L us σ) (k:Ext w w'):DkI w' g m kv L us σ:=
 ⟨h.head.ext k,h.fs.ext k,h.files,h.keep.ext k⟩
theorem Dk.ext {w w':World} {g:Nat} {F:Nat→Prop} {σ:DM} (h:Dk w g F σ) (k:Ext w w'):Dk w' g F σ:=by
 obtain ⟨ho,m,kv,L,hi,h1,h2⟩:=h;exact ⟨ho,m,kv,L,hi.ext k,h1,fun i hf=>Nat.lt_of_lt_of_le (h2 i hf) k.size⟩
theorem Dk.mono {w:World} {g:Nat} {F G:Nat→Prop} {σ:DM} (h:Dk w g F σ) (k: ∀i,F i→G i) (hG: ∀i,G i→i<w.heap.size):Dk w g G σ:=by
 obtain ⟨ho,m,kv,L,hi,h1,_⟩:=h;exact ⟨ho,m,kv,L,hi,fun i hd=>k i (h1 i hd),hG⟩
theorem DkS.mk' {w w':World} {g m m':Nat} {kv kv':Value} {L L':List FE} {F:Nat→Prop} {σ':DM} (hd: ∀i,InD g m kv L i→F i) (hF: ∀i,F i→i<w.heap.size) (ho:okD σ') (h':DkI w' g m' kv' L' (q0P σ'.L:Int) σ')
  (hoff:OffS (InD g m kv L) w w') (hin: ∀i,InD g m' kv' L' i→InD g m kv L i∨w.heap.size≤i):DkS w g F σ' w':=by
 have off:OffS F w w':=hoff.mono fun i _=>hd i
 refine ⟨⟨ho,m',kv',L',h',fun i hi=>?_,fun i hi=>?_⟩,off⟩
 ·rcases hin i hi with h1|h1
  ·exact .inl (hd i h1)
  ·exact .inr ⟨h1,h'.inD_lt hi⟩
 ·rcases hi with h1|h1
  ·exact Nat.lt_of_lt_of_le (hF i h1) off.size
  ·exact h1.2
end
section
open Go.RowKit
theorem z9X :Maps.Keyed Tryz.prog 9:=Maps.string_keyed Tryz.underlying9
theorem y0t (w:World):(zeroValue 217).run Tryz.prog w= .ok (.pointer none) w:=by kernel_rfl
theorem z7W (nm:List UInt8) (h:nm.length≤9223372036854775807):keyOf Tryz.prog 9 (.string ⟨nm.toArray⟩)=some (.string nm):=
 WideMaps.keyOf_string_mk Tryz.underlying9 (s:=⟨nm.toArray⟩) (by unfold maxLen;exact h)
theorem z3D {w:World} {m:Nat} {L:List FE} (h:FS w m L) (nm:List UInt8) (hl:nm.length≤9223372036854775807): ∃v ps,(Instr.lookup 128 (.map (some m)) (.string ⟨nm.toArray⟩) true).run Tryz.prog w= .ok (.tuple #[v,.bool (q0H FE.nm nm L).isSome]) w∧
  q6I v=some (match q0H FE.nm nm L with|some e=> .lit (.int .i64 e.b)|none=> .nil,ps):=by
 obtain ⟨v,ps,h1,h2⟩:=h.map.look_ok z9X Tryz.underlying128 (y0t w) q8j (z7W nm hl);rw[z6o] at h1;rw[z5T] at h2;exact ⟨v,ps,h1,h2⟩
theorem q8i {w:World} {m:Nat} {L:List FE} (h:FS w m L) {nm:List UInt8} (hl:nm.length≤9223372036854775807) {e:FE} (hf:q0H FE.nm nm L=some e):
  (Instr.lookup 128 (.map (some m)) (.string ⟨nm.toArray⟩) true).run Tryz.prog w= .ok (.tuple #[.pointer (some ⟨e.b,0,none⟩),.bool true]) w:=by
 obtain ⟨v,ps,h1,h2⟩:=z3D h nm hl;rw[hf] at h1 h2;rw[h1,q8u h2];rfl
theorem z1W {w:World} {m:Nat} {L:List FE} (h:FS w m L) {nm:List UInt8} (hl:nm.length≤9223372036854775807) (hf:q0H FE.nm nm L=none):
  (Instr.lookup 128 (.map (some m)) (.string ⟨nm.toArray⟩) true).run Tryz.prog w= .ok (.tuple #[.pointer none,.bool false]) w:=by
 obtain ⟨v,ps,h1,h2⟩:=z3D h nm hl;rw[hf] at h1 h2;rw[h1,q9v h2];rfl
theorem z5F {w:World} {m:Nat} {L:List FE} (h:FS w m L) {nm:List UInt8} (hl:nm.length≤9223372036854775807) {e:FE} (hf:q0H FE.nm nm L=some e):
  (Instr.lookup 128 (.map (some m)) (.string ⟨nm.toArray⟩) false).run Tryz.prog w= .ok (.pointer (some ⟨e.b,0,none⟩)) w:=by
 obtain ⟨v,ps,h1,h2⟩:=h.map.lookup z9X Tryz.underlying128 (y0t w) q8j (z7W nm hl);rw[z5T,hf] at h2;rw[h1,q8u h2]
section head
variable {w :World} {g m:Nat} {kv:Value} {L:List FE} {us:Int} {σ:DM}
theorem DkI.c0 (h:DkI w g m kv L us σ):w.cell? ⟨g,0,none⟩=some (.bool true):=h.head.cell 0
theorem DkI.c1 (h:DkI w g m kv L us σ):w.cell? ⟨g,1,none⟩=some (.int .i64 σ.cap):=h.head.cell 1
theorem DkI.c2 (h:DkI w g m kv L us σ):w.cell? ⟨g,2,none⟩=some (.int .i64 us):=h.head.cell 2
theorem DkI.c3 (h:DkI w g m kv L us σ):w.cell? ⟨g,3,none⟩=some (.map (some m)):=h.head.cell 3
theorem DkI.c4 (h:DkI w g m kv L us σ):w.cell? ⟨g,4,none⟩=some (.int .i64 σ.reads):=h.head.cell 4
theorem DkI.c5 (h:DkI w g m kv L us σ):w.cell? ⟨g,5,none⟩=some (.int .i64 σ.starts):=h.head.cell 5
theorem DkI.c6 (h:DkI w g m kv L us σ):w.cell? ⟨g,6,none⟩=some (.bool σ.down):=h.head.cell 6
theorem DkI.c7 (h:DkI w g m kv L us σ):w.cell? ⟨g,7,none⟩=some (.bool σ.fail):=h.head.cell 7
theorem DkI.c8 (h:DkI w g m kv L us σ):w.cell? ⟨g,8,none⟩=some (.int .i64 σ.left):=h.head.cell 8
theorem DkI.c9 (h:DkI w g m kv L us σ):w.cell? ⟨g,9,none⟩=some kv:=h.head.cell 9
theorem DkI.z (h:DkI w g m kv L us σ) (i:Nat):w.frozen? ⟨g,i,none⟩=false:=h.head.free i
theorem DkI.f0 (h:DkI w g m kv L us σ) {e:FE} (he:e∈L):w.cell? ⟨e.b,0,none⟩=some e.v:=(h.fs.blk e he).cell 0
theorem DkI.f1 (h:DkI w g m kv L us σ) {e:FE} (he:e∈L):w.cell? ⟨e.b,1,none⟩=some (.int .i64 (e.f.sy:Int)):=(h.fs.blk e he).cell 1
theorem DkI.fz (h:DkI w g m kv L us σ) {e:FE} (he:e∈L) (i:Nat):w.frozen? ⟨e.b,i,none⟩=false:=(h.fs.blk e he).free i
end head
theorem q7O (w:World) (g:Nat) (b:Bool) (c0:w.cell? ⟨g,0,none⟩=some (.bool b)):Calls Tryz.prog 173 #[.pointer (some ⟨g,0,none⟩)] w fun e w'=>e= .returned (.bool (!b))∧w=w':=by
 go_enter Tryz.func173,Tryz.ntmps173;go_wp2_with fail;go_ret;exact ⟨rfl,rfl⟩
theorem q3m (w:World) (g:Nat) (c0:w.cell? ⟨g,0,none⟩=some (.bool true)) (c6:w.cell? ⟨g,6,none⟩=some (.bool false)):Calls Tryz.prog 136 #[.pointer (some ⟨g,0,none⟩)] w fun e w'=>e= .returned (.int .i64 0)∧w=w':=by
 go_enter Tryz.func136,Tryz.ntmps136;go_wp2_with fail;refine (q7O _ g true c0).mono ?_;rintro e w' ⟨rfl,rfl⟩;go_wp2_with fail;go_ret;exact ⟨rfl,rfl⟩
theorem q4d (w:World) (g:Nat) (c0:w.cell? ⟨g,0,none⟩=some (.bool true)) (c6:w.cell? ⟨g,6,none⟩=some (.bool true)):Calls Tryz.prog 136 #[.pointer (some ⟨g,0,none⟩)] w fun e w'=>e= .returned (.int .i64 61)∧w=w':=by
 go_enter Tryz.func136,Tryz.ntmps136;go_wp2_with fail;refine (q7O _ g true c0).mono ?_;rintro e w' ⟨rfl,rfl⟩;go_wp2_with fail;go_ret;exact ⟨rfl,rfl⟩
theorem q9g (w:World) (g:Nat) (c0:w.cell? ⟨g,0,none⟩=some (.bool true)) (c6:w.cell? ⟨g,6,none⟩=some (.bool true)) (s:ByteArray):Calls Tryz.prog 137 #[.pointer (some ⟨g,0,none⟩),.string s] w fun e w'=>e= .returned (.tuple #[.pointer none,.int .i64 61])∧w=w':=by
 have H:=Lib.hid (q4d w g c0 c6);clear c0 c6;go_enter Tryz.func137,Tryz.ntmps137;go_wp2_with fail;refine H.out.mono ?_;rintro e w' ⟨rfl,rfl⟩;go_wp2_with fail;go_ret2;exact ⟨rfl,rfl⟩
theorem find_none (w:World) (g m:Nat) (nm:List UInt8) (c0:w.cell? ⟨g,0,none⟩=some (.bool true)) (c6:w.cell? ⟨g,6,none⟩=some (.bool false)) (c3:w.cell? ⟨g,3,none⟩=some (.map (some m)))
  (hrun:(Instr.lookup 128 (.map (some m)) (.string ⟨nm.toArray⟩) true).run Tryz.prog w= .ok (.tuple #[.pointer none,.bool false]) w):
  Calls Tryz.prog 137 #[.pointer (some ⟨g,0,none⟩),.string ⟨nm.toArray⟩] w fun e w'=>e= .returned (.tuple #[.pointer none,.int .i64 4])∧w=w':=by
 have H:=Lib.hid (q3m w g c0 c6);clear c0 c6;go_enter Tryz.func137,Tryz.ntmps137;go_wp2_with fail;refine H.out.mono ?_;rintro e w' ⟨rfl,rfl⟩;go_wp2_with fail;go_ret2;exact ⟨rfl,rfl⟩
theorem find_some (w:World) (g m b:Nat) (nm:List UInt8) (c0:w.cell? ⟨g,0,none⟩=some (.bool true)) (c6:w.cell? ⟨g,6,none⟩=some (.bool false)) (c3:w.cell? ⟨g,3,none⟩=some (.map (some m)))
  (hrun:(Instr.lookup 128 (.map (some m)) (.string ⟨nm.toArray⟩) true).run Tryz.prog w= .ok (.tuple #[.pointer (some ⟨b,0,none⟩),.bool true]) w):
  Calls Tryz.prog 137 #[.pointer (some ⟨g,0,none⟩),.string ⟨nm.toArray⟩] w fun e w'=>e= .returned (.tuple #[.pointer (some ⟨b,0,none⟩),.int .i64 0])∧w=w':=by
 have H:=Lib.hid (q3m w g c0 c6);clear c0 c6;go_enter Tryz.func137,Tryz.ntmps137;go_wp2_with fail;refine H.out.mono ?_;rintro e w' ⟨rfl,rfl⟩;go_wp2_with fail;go_ret2;exact ⟨rfl,rfl⟩
theorem y0e (w:World) (nm:List UInt8) (hl:nm.length≤9223372036854775807):Calls Tryz.prog 186 #[.string ⟨nm.toArray⟩] w fun e w'=>e= .returned (.bool (q3t nm))∧w=w':=by
 by_cases h0:nm=[]
 ·subst h0
  go_enter Tryz.func186,Tryz.ntmps186;go_wp2_with fail;go_ret;exact ⟨rfl,rfl⟩
 ·have h1:nm.isEmpty=false:=by cases nm<;>simp_all
  by_cases h2:nm.length≤12
  ·have e:q3t nm=true:=by unfold q3t;simp[h1,h2]
   have E:=Lib.hid e;clear e;go_enter Tryz.func186,Tryz.ntmps186;go_wp2_with fail;go_ret;rw[E.out];exact ⟨rb (by simp;omega),rfl⟩
  ·have e:q3t nm=false:=by unfold q3t;simp[h2]
   have E:=Lib.hid e;clear e;go_enter Tryz.func186,Tryz.ntmps186;go_wp2_with fail;go_ret;rw[E.out];exact ⟨rb (by simp;omega),rfl⟩
theorem z6L (w:World) (g:Nat) (c7:w.cell? ⟨g,7,none⟩=some (.bool true)) (c8:w.cell? ⟨g,8,none⟩=some (.int .i64 0)):
  Calls Tryz.prog 168 #[.pointer (some ⟨g,0,none⟩)] w fun e w'=>e= .returned (.bool true)∧w=w':=by
 go_enter Tryz.func168,Tryz.ntmps168;go_wp2_with fail;go_ret;exact ⟨rfl,rfl⟩
theorem z8H (w:World) (g:Nat) (fl:Bool) (k:Int) (c7:w.cell? ⟨g,7,none⟩=some (.bool fl)) (c8:w.cell? ⟨g,8,none⟩=some (.int .i64 k)) (z8:w.frozen? ⟨g,8,none⟩=false) (hk0:0≤k) (hk1:k≤9223372036854775807) (h:fl=true→k≠0):
  Calls Tryz.prog 168 #[.pointer (some ⟨g,0,none⟩)] w fun e w'=>e= .returned (.bool false)∧w'=w.setCell ⟨g,8,none⟩ (.int .i64 (max (k-1) 0)):=by
 cases fl with
 | false=>
  clear h;go_enter Tryz.func168,Tryz.ntmps168;go_wp2_with fail
  all_goals
   go_ret;refine ⟨rfl,congrArg (fun x:Int=>w.setCell ⟨g,8,none⟩ (.int .i64 x)) ?_⟩;omega
 | true=>
  have h1:(k==0)=false:=by simpa using h rfl
  clear h;go_enter Tryz.func168,Tryz.ntmps168;go_wp2_with fail
  all_goals
   go_ret;refine ⟨rfl,congrArg (fun x:Int=>w.setCell ⟨g,8,none⟩ (.int .i64 x)) ?_⟩;omega
def z6b (c:Int):DM:=⟨c,[],0,0,false,false,0,[]⟩
theorem y0X (c:Int) (h0:0≤c) (h1:c≤1048576):okD (z6b c):=⟨h0,h1,by simpa [z6b,q0P,q5d] using h0,List.Pairwise.nil,(fun f hf=>by cases hf),Nat.zero_le _,Int.le_refl _,fun _=>rfl,Nat.zero_le _,by show (0:Int)≤_;decide⟩
theorem y1M (w:World) (c:Int) (h0:0≤c) (h1:c≤1048576):Dk ((w.alloc (.map #[] 0)).alloc (.cells (q8v (z6b c) 0 w.heap.size (.slice none 0 0)) 130)) (w.heap.size+1) (fun i=>i=w.heap.size∨i=w.heap.size+1) (z6b c):=by
 have hb:=Blk.new (w.alloc (.map #[] 0)) 130 (q8v (z6b c) 0 w.heap.size (.slice none 0 0));rw[World.size_alloc] at hb;have hm:=(World.ownsMap_made (H:=Unit) w Tryz.prog 9 q6I).alloc (.cells (q8v (z6b c) 0 w.heap.size (.slice none 0 0)) 130);refine ⟨y0X c h0 h1,w.heap.size,.slice none 0 0,[],⟨hb,⟨hm,(fun e he=>by cases he),(fun e he=>by cases he),List.Pairwise.nil,List.Pairwise.nil⟩,rfl,Own.nil _ _ _ _⟩,fun i hi=>?_,fun i hi=>?_⟩
 ·rcases hi with h|(h|⟨_,h,_⟩)|h
  ·exact .inr h
  ·exact .inl h
  ·cases h
  ·cases h
 ·simp only[World.size_alloc];omega
theorem y1X (w:World) (c:Int) (h0:0≤c) (h1:c≤1048576):Calls Tryz.prog 31 #[.int .i64 c] w fun e w'=> ∃g F,e= .returned (.tuple #[.pointer (some ⟨g,0,none⟩),.int .i64 0])∧Dk w' g F (z6b c)∧(∀i,F i→w.heap.size≤i)∧Ext w w':=by
 have hmm:=@run_makeMap Tryz.prog;go_enter Tryz.func31,Tryz.ntmps31;go_wp2_with fail;go_ret2;exact ⟨_,_,rfl,y1M w c h0 h1,(fun i hi=>by omega),q2I _ _ _⟩
end
end Go.Proofs.YthdekbmdkpcooaaGreatDoor
