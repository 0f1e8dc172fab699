/- Walks. -/
import Derived.Test.YtfiibpgoplcgkaaGreatDoorG8WS
import Derived.IntWalk
import Derived.Deep.RegionHeld3
set_option linter.unusedVariables false
set_option linter.unusedSimpArgs false
set_option maxRecDepth 100000
set_option maxHeartbeats 3200000
namespace Go.Proofs.YtfiibpgoplcgkaaGreatDoor
section
open Go.RowKit
theorem Ints.off{F:Nat->Prop}{w:World}{ka:Option Addr}{kn kc:Nat}{xs:List Int}(h:Ints w ka kn kc xs)(m: ∀a,ka=some a->¬F a.block): ∀W,OffS F w W->Ints W ka kn kc xs:=fun W d=>by
 refine⟨h.len,h.fits,h.bound,h.nil,fun j u l=>?_⟩;obtain⟨b,off,e,hc⟩:=h.rd j u l;refine⟨b,off,e,?_⟩;have i:=d.block b (World.block_lt_of_cell? (h:=hc)) (m _ e);simp only[World.cell?,i] at hc⊢;exact hc
theorem z9U{w:World}{g:Nat}{F:Nat->Prop}{σ:DM}(h:Dk w g F σ)(ka:Option Addr)(kn kc:Nat)(xs:List Int)(b: ∀W,OffS F w W->Ints W ka kn kc xs):
  Calls Tryz.prog 31 #[.pointer (some ⟨g,0,none⟩),.slice ka kn kc] w fun e w'=>e= .returned (.int .i64 (q7F σ xs).1)/\DkS w g F (q7F σ xs).2 w':=by
 obtain⟨v,m,E,L,q,j,u⟩:=h;have d: ∀σ' w',Fin w g m E L σ' w'->DkS w g F σ' w':=fun σ' w' ⟨x,I,G,y,s,l,o⟩=>DkS.mk' j u x s o l
 cases hd:σ.down with
 | true=>
  have B:=q.c6;rw[hd] at B;have r:q7F σ xs=(61,σ):=by unfold q7F;rw[ξ hd]
  refine(z5a w g q.c0 B _).mono ?_;rintro e w' ⟨rfl,rfl⟩;rw[r];exact⟨rfl,d _ _ (Fin.same v q)⟩
 | false=>
  have r:q7F σ xs=(0,q5a σ xs):=by unfold q7F;rw[κ (by rw[hd];decide)]
  refine(z6v q v hd ka kn kc xs fun W C=>b W (C.mono fun i _ hm=>j i hm.inD)).mono ?_;rintro e w' ⟨rfl,y,h1,h2,h3⟩;rw[r];refine⟨rfl,d _ _ ⟨z4E v xs,m,_,y,h1,fun i D=>?_,h3.inD⟩⟩;rcases D with h4|h4|h4
  ·exact .inl (.inl h4)
  ·exact .inl (.inr (.inl (h2 i h4)))
  ·cases h4
section
variable {w0 w w':World}{g:Nat}{σ σ':DM}
end
theorem Dk.keep{w w':World}{g:Nat}{F:Nat->Prop}{σ:DM}(h:Dk w g F σ)(o:w.heap.size<=w'.heap.size)(k: ∀i,F i->w'.heap[i]? =w.heap[i]?):Dk w' g F σ:=by
 obtain⟨l,m,q,L,b,h1,h2⟩:=h;exact⟨l,m,q,L,⟨b.head.same (k g (h1 g (.inl rfl))),b.fs.same fun i d=>k i (h1 i (.inr (.inl d))),b.files,b.keep.same fun i d=>k i (h1 i (.inr (.inr d)))⟩,h1,fun i j=>Ψ (h2 i j) o⟩
section
variable {w w1 w2:World}{g:Nat}{F:Nat->Prop}{σ σ1 σ2:DM}
theorem DkS.refl(h:Dk w g F σ):DkS w g F σ w:=by
 have d: ∀i,F i->i<w.heap.size:=by obtain⟨_,_,_,_,_,_,h⟩:=h;exact h
 exact⟨h.mono (fun i b=> .inl b) (fun i b=>b.elim (d i) fun h=>by omega),OffS.refl _ _⟩
theorem DkS.trans(h:DkS w g F σ1 w1)(k:DkS w1 g (Gr F w w1) σ2 w2):DkS w g F σ2 w2:=by
 have j:=h.off.size;have l:=k.off.size;have d: ∀i,Gr (Gr F w w1) w1 w2 i->i<w2.heap.size:=by obtain⟨_,_,_,_,_,_,h⟩:=k.dk;exact h
 refine⟨k.dk.mono (fun i b=>?_) (fun i b=>?_),h.off.gr k.off⟩
 ·rcases b with(h1|h1)|h1
  ·exact .inl h1
  ·exact .inr (by omega)
  ·exact .inr (by omega)
 ·rcases b with h1|h1
  ·exact d i (.inl (.inl h1))
  ·exact h1.2
theorem DkS.ext(h:DkS w g F σ w1)(k:Ext w1 w2):DkS w g F σ w2:=by
 have l:=h.off.size;have j:=k.size;have d: ∀i,Gr F w w1 i->i<w1.heap.size:=by obtain⟨_,_,_,_,_,_,h⟩:=h.dk;exact h
 refine⟨(h.dk.ext k).mono (fun i b=>?_) (fun i b=>?_),h.off.trans (OffS.of_ext k)⟩
 ·rcases b with h1|h1
  ·exact .inl h1
  ·exact .inr (by omega)
 ·rcases b with h1|h1
  ·exact Ψ (d i (.inl h1)) j
  ·exact h1.2
theorem DkS.box{j:World}(d:Ext w j)(h:DkS j g F σ w1)(hF: ∀i,F i->i<w.heap.size)(r:w1.heap.size<=w2.heap.size)(h1:w2.os=w1.os)(h2:w2.tape=w1.tape)(h3:w2.output=w1.output)
  (k: ∀i,i<w1.heap.size->¬(w.heap.size<=i/\i<j.heap.size)->w2.heap[i]? =w1.heap[i]?):DkS w g F σ w2:=by
 have s:=d.size;have u:=h.off.size;have l: ∀i,Gr F j w1 i->i<w1.heap.size:=by obtain⟨_,_,_,_,_,_,h⟩:=h.dk;exact h
 have m:Dk w2 g (Gr F j w1) σ:=h.dk.keep r fun i b=>k i (l i b) (by
  rcases b with h1|h1
  ·have:=hF i h1;omega
  ·omega)
 refine⟨m.mono (fun i b=>?_) (fun i b=>?_),⟨h1.trans (h.off.os.trans d.os),h2.trans (h.off.tape.trans d.tape),h3.trans (h.off.output.trans d.output),by omega,fun i o q=>?_⟩⟩
 ·rcases b with h1|h1
  ·exact .inl h1
  ·exact .inr (by omega)
 ·rcases b with h1|h1
  ·have:=hF i h1;omega
  ·exact h1.2
 ·rw[k i (by omega) (by omega),h.off.block i (by omega) q,d.block i o]
end
theorem Dk.held{w w':World}{g:Nat}{F:Nat->Prop}{σ:DM}(h:Dk w g F σ)(o:w.heap.size<=w'.heap.size)(k: ∀i,F i->w'.heap[i]? =w.heap[i]?):Dk w' g F σ:=by
 obtain⟨l,m,q,L,b,h1,h2⟩:=h;exact⟨l,m,q,L,⟨b.head.same (k g (h1 g (.inl rfl))),b.fs.same fun i d=>k i (h1 i (.inr (.inl d))),b.files,b.keep.same fun i d=>k i (h1 i (.inr (.inr d)))⟩,h1,fun i j=>Ψ (h2 i j) o⟩
structure DkF(w0 w:World)(g:Nat)(F:Nat->Prop)(σ:DM)(K:Nat->Prop):Prop where
 d:Dk w g F σ
 bF: ∀i,F i->w0.heap.size<=i
 ext:Ext w0 w
 k: ∀i,K i->i<w.heap.size/\¬F i
def Stay(K:Nat->Prop)(w w':World):Prop:= ∀i,K i->w'.heap[i]? =w.heap[i]?
theorem Stay.trans{K:Nat->Prop}{a b c:World}(h:Stay K a b)(k:Stay K b c):Stay K a c:=fun i d=>(k i d).trans (h i d)
theorem Stay.refl(K:Nat->Prop)(w:World):Stay K w w:=fun _ _=>rfl
section
variable {w0 w w1:World}{g:Nat}{F K:Nat->Prop}{σ σ1:DM}
theorem DkF.disk(h:DkF w0 w g F σ K)(k:DkS w g F σ1 w1):DkF w0 w1 g (Gr F w w1) σ1 K/\Stay K w w1:=by
 have j:=k.off.size;refine⟨⟨k.dk,fun i d=>Gr.ge h.bF h.ext.size d,k.off.ext h.ext h.bF,fun i d=>?_⟩,fun i d=>?_⟩
 ·obtain⟨a,b⟩:=h.k i d
  exact⟨by omega,Gr.not b a⟩
 ·obtain⟨a,b⟩:=h.k i d
  exact k.off.block i a b
theorem DkF.grow(h:DkF w0 w g F σ K)(k:Ext w w1):DkF w0 w1 g F σ K:=
 ⟨h.d.ext k,h.bF,h.ext.trans k,fun i b=>⟨Ψ (h.k i b).1 k.size,(h.k i b).2⟩⟩
end
end
end Go.Proofs.YtfiibpgoplcgkaaGreatDoor
