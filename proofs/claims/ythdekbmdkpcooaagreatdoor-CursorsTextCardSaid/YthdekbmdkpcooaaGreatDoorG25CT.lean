/- Walks. -/
import Derived.IntWalk
import Derived.Deep.RegionHeld3
import Derived.Test.YthdekbmdkpcooaaGreatDoorG24CT
set_option linter.unusedVariables false
set_option linter.unusedSimpArgs false
set_option maxRecDepth 100000
set_option maxHeartbeats 3200000
namespace Go.Proofs.YthdekbmdkpcooaaGreatDoor
section
open Go.RowKit
end
section
open Go.RowKit
section
variable {w0 w w':World} {g:Nat} {σ σ':DM}
end
end
section
open Go.RowKit
theorem Dk.keep {w w':World} {g:Nat} {F:Nat→Prop} {σ:DM} (h:Dk w g F σ) (hs:w.heap.size≤w'.heap.size) (k: ∀i,F i→w'.heap[i]? =w.heap[i]?):Dk w' g F σ:=by
 obtain ⟨ho,m,kv,L,hi,h1,h2⟩:=h;exact ⟨ho,m,kv,L,⟨hi.head.same (k g (h1 g (.inl rfl))),hi.fs.same fun i hx=>k i (h1 i (.inr (.inl hx))),hi.files,hi.keep.same fun i hx=>k i (h1 i (.inr (.inr hx)))⟩,h1,fun i hf=>Nat.lt_of_lt_of_le (h2 i hf) hs⟩
section
variable {w w1 w2:World} {g:Nat} {F:Nat→Prop} {σ σ1 σ2:DM}
theorem DkS.refl (h:Dk w g F σ):DkS w g F σ w:=by
 have hlt: ∀i,F i→i<w.heap.size:=by obtain ⟨_,_,_,_,_,_,h⟩:=h;exact h
 exact ⟨h.mono (fun i hi=> .inl hi) (fun i hi=>hi.elim (hlt i) fun h=>by omega),OffS.refl _ _⟩
theorem DkS.trans (h:DkS w g F σ1 w1) (k:DkS w1 g (Gr F w w1) σ2 w2):DkS w g F σ2 w2:=by
 have s1:=h.off.size;have s2:=k.off.size;have hlt: ∀i,Gr (Gr F w w1) w1 w2 i→i<w2.heap.size:=by obtain ⟨_,_,_,_,_,_,h⟩:=k.dk;exact h
 refine ⟨k.dk.mono (fun i hi=>?_) (fun i hi=>?_),h.off.gr k.off⟩
 ·rcases hi with (h1|h1)|h1
  ·exact .inl h1
  ·exact .inr (by omega)
  ·exact .inr (by omega)
 ·rcases hi with h1|h1
  ·exact hlt i (.inl (.inl h1))
  ·exact h1.2
theorem DkS.ext (h:DkS w g F σ w1) (k:Ext w1 w2):DkS w g F σ w2:=by
 have s1:=h.off.size;have s2:=k.size;have hlt: ∀i,Gr F w w1 i→i<w1.heap.size:=by obtain ⟨_,_,_,_,_,_,h⟩:=h.dk;exact h
 refine ⟨(h.dk.ext k).mono (fun i hi=>?_) (fun i hi=>?_),h.off.trans (OffS.of_ext k)⟩
 ·rcases hi with h1|h1
  ·exact .inl h1
  ·exact .inr (by omega)
 ·rcases hi with h1|h1
  ·exact Nat.lt_of_lt_of_le (hlt i (.inl h1)) s2
  ·exact h1.2
theorem DkS.box {wa:World} (hx:Ext w wa) (h:DkS wa g F σ w1) (hF: ∀i,F i→i<w.heap.size) (hs:w1.heap.size≤w2.heap.size) (h1:w2.os=w1.os) (h2:w2.tape=w1.tape) (h3:w2.output=w1.output)
  (k: ∀i,i<w1.heap.size→¬(w.heap.size≤i∧i<wa.heap.size)→w2.heap[i]? =w1.heap[i]?):DkS w g F σ w2:=by
 have s0:=hx.size;have s1:=h.off.size;have hlt: ∀i,Gr F wa w1 i→i<w1.heap.size:=by obtain ⟨_,_,_,_,_,_,h⟩:=h.dk;exact h
 have hd:Dk w2 g (Gr F wa w1) σ:=h.dk.keep hs fun i hi=>k i (hlt i hi) (by
  rcases hi with h1|h1
  ·have:=hF i h1;omega
  ·omega)
 refine ⟨hd.mono (fun i hi=>?_) (fun i hi=>?_),⟨h1.trans (h.off.os.trans hx.os),h2.trans (h.off.tape.trans hx.tape),h3.trans (h.off.output.trans hx.output),by omega,fun i hl hn=>?_⟩⟩
 ·rcases hi with h1|h1
  ·exact .inl h1
  ·exact .inr (by omega)
 ·rcases hi with h1|h1
  ·have:=hF i h1;omega
  ·exact h1.2
 ·rw[k i (by omega) (by omega),h.off.block i (by omega) hn,hx.block i hl]
end
theorem Dk.held {w w':World} {g:Nat} {F:Nat→Prop} {σ:DM} (h:Dk w g F σ) (hs:w.heap.size≤w'.heap.size) (k: ∀i,F i→w'.heap[i]? =w.heap[i]?):Dk w' g F σ:=by
 obtain ⟨ho,m,kv,L,hi,h1,h2⟩:=h;exact ⟨ho,m,kv,L,⟨hi.head.same (k g (h1 g (.inl rfl))),hi.fs.same fun i hx=>k i (h1 i (.inr (.inl hx))),hi.files,hi.keep.same fun i hx=>k i (h1 i (.inr (.inr hx)))⟩,h1,fun i hf=>Nat.lt_of_lt_of_le (h2 i hf) hs⟩
structure DkF (w0 w:World) (g:Nat) (F:Nat→Prop) (σ:DM) (K:Nat→Prop):Prop where
 d:Dk w g F σ
 bF: ∀i,F i→w0.heap.size≤i
 ext:Ext w0 w
 k: ∀i,K i→i<w.heap.size∧¬F i
def Stay (K:Nat→Prop) (w w':World):Prop:= ∀i,K i→w'.heap[i]? =w.heap[i]?
theorem Stay.trans {K:Nat→Prop} {a b c:World} (h:Stay K a b) (k:Stay K b c):Stay K a c:=fun i hi=>(k i hi).trans (h i hi)
theorem Stay.refl (K:Nat→Prop) (w:World):Stay K w w:=fun _ _=>rfl
section
variable {w0 w w1:World} {g:Nat} {F K:Nat→Prop} {σ σ1:DM}
theorem DkF.disk (h:DkF w0 w g F σ K) (k:DkS w g F σ1 w1):DkF w0 w1 g (Gr F w w1) σ1 K∧Stay K w w1:=by
 have hs:=k.off.size;refine ⟨⟨k.dk,fun i hi=>Gr.ge h.bF h.ext.size hi,k.off.ext h.ext h.bF,fun i hi=>?_⟩,fun i hi=>?_⟩
 ·obtain ⟨a,b⟩:=h.k i hi
  exact ⟨by omega,Gr.not b a⟩
 ·obtain ⟨a,b⟩:=h.k i hi
  exact k.off.block i a b
theorem DkF.grow (h:DkF w0 w g F σ K) (k:Ext w w1):DkF w0 w1 g F σ K:=
 ⟨h.d.ext k,h.bF,h.ext.trans k,fun i hi=>⟨Nat.lt_of_lt_of_le (h.k i hi).1 k.size,(h.k i hi).2⟩⟩
end
end
section
open Go.RowKit
end
section
open Go.RowKit
end
end Go.Proofs.YthdekbmdkpcooaaGreatDoor
