/- Walks. -/
import Derived.Test.YtfiibpgoplcgkaaGreatDoorG10SA
import Derived.IntWalk
import Derived.Deep.RegionHeld3
set_option linter.unusedVariables false
set_option linter.unusedSimpArgs false
set_option maxRecDepth 100000
set_option maxHeartbeats 3200000
namespace Go.Proofs.YtfiibpgoplcgkaaGreatDoor
section
open Go.RowKit
theorem Ints.off{F:Nat->Prop}{w:World}{d:Option Addr}{kn i:Nat}{l:List Int}(h:Ints w d kn i l)(r: ∀a,d=some a->¬F a.block): ∀W,OffS F w W->Ints W d kn i l:=fun W m=>by
 refine⟨h.len,h.fits,h.bound,h.nil,fun j u q=>?_⟩;obtain⟨b,off,e,hc⟩:=h.rd j u q;refine⟨b,off,e,?_⟩;have o:=m.block b (World.block_lt_of_cell? (h:=hc)) (r _ e);simp only[World.cell?,o] at hc⊢;exact hc
theorem z8X{w:World}{g:Nat}{F:Nat->Prop}{σ:DM}(h:Dk w g F σ)(C:Option Addr)(kn D:Nat)(b:List Int)(d: ∀W,OffS F w W->Ints W C kn D b):
  Calls Tryz.prog 31 #[.pointer (some ⟨g,0,none⟩),.slice C kn D] w fun e w'=>e= .returned (.int .i64 (q6g σ b).1)/\DkS w g F (q6g σ b).2 w':=by
 obtain⟨y,m,Q,L,s,o,x⟩:=h;have j: ∀σ' w',Fin w g m Q L σ' w'->DkS w g F σ' w':=fun σ' w' ⟨B,S,R,E,v,q,r⟩=>DkS.mk' o x B v r q
 cases hd:σ.down with
 | true=>
  have G:=s.c6;rw[hd] at G;have u:q6g σ b=(61,σ):=by unfold q6g;rw[ξ hd]
  refine(z4l w g s.c0 G _).mono ?_;rintro e w' ⟨rfl,rfl⟩;rw[u];exact⟨rfl,j _ _ (Fin.same y s)⟩
 | false=>
  have u:q6g σ b=(0,q5L σ b):=by unfold q6g;rw[κ (by rw[hd];decide)]
  refine(crash_c s y hd C kn D b fun W N=>d W (N.mono fun i _ hm=>o i hm.inD)).mono ?_;rintro e w' ⟨rfl,E,I,J,M⟩;rw[u];refine⟨rfl,j _ _ ⟨z3R y b,m,_,E,I,fun i O=>?_,M.inD⟩⟩;rcases O with l|l|l
  ·exact .inl (.inl l)
  ·exact .inl (.inr (.inl (J i l)))
  ·cases l
section
variable {w0 w w':World}{g:Nat}{σ σ':DM}
end
theorem Dk.keep{w w':World}{g:Nat}{F:Nat->Prop}{σ:DM}(h:Dk w g F σ)(r:w.heap.size<=w'.heap.size)(k: ∀i,F i->w'.heap[i]? =w.heap[i]?):Dk w' g F σ:=by
 obtain⟨q,m,s,L,d,b,l⟩:=h;exact⟨q,m,s,L,⟨d.head.same (k g (b g (.inl rfl))),d.fs.same fun i j=>k i (b i (.inr (.inl j))),d.files,d.keep.same fun i j=>k i (b i (.inr (.inr j)))⟩,b,fun i o=>Ψ (l i o) r⟩
section
variable {w w1 w2:World}{g:Nat}{F:Nat->Prop}{σ σ1 σ2:DM}
theorem DkS.refl(h:Dk w g F σ):DkS w g F σ w:=by
 have d: ∀i,F i->i<w.heap.size:=by obtain⟨_,_,_,_,_,_,h⟩:=h;exact h
 exact⟨h.mono (fun i b=> .inl b) (fun i b=>b.elim (d i) fun h=>by omega),OffS.refl _ _⟩
theorem DkS.trans(h:DkS w g F σ1 w1)(k:DkS w1 g (Gr F w w1) σ2 w2):DkS w g F σ2 w2:=by
 have l:=h.off.size;have m:=k.off.size;have j: ∀i,Gr (Gr F w w1) w1 w2 i->i<w2.heap.size:=by obtain⟨_,_,_,_,_,_,h⟩:=k.dk;exact h
 refine⟨k.dk.mono (fun i d=>?_) (fun i d=>?_),h.off.gr k.off⟩
 ·rcases d with(b|b)|b
  ·exact .inl b
  ·exact .inr (by omega)
  ·exact .inr (by omega)
 ·rcases d with b|b
  ·exact j i (.inl (.inl b))
  ·exact b.2
theorem DkS.ext(h:DkS w g F σ w1)(k:Ext w1 w2):DkS w g F σ w2:=by
 have m:=h.off.size;have l:=k.size;have j: ∀i,Gr F w w1 i->i<w1.heap.size:=by obtain⟨_,_,_,_,_,_,h⟩:=h.dk;exact h
 refine⟨(h.dk.ext k).mono (fun i d=>?_) (fun i d=>?_),h.off.trans (OffS.of_ext k)⟩
 ·rcases d with b|b
  ·exact .inl b
  ·exact .inr (by omega)
 ·rcases d with b|b
  ·exact Ψ (j i (.inl b)) l
  ·exact b.2
theorem DkS.box{l:World}(j:Ext w l)(h:DkS l g F σ w1)(hF: ∀i,F i->i<w.heap.size)(v:w1.heap.size<=w2.heap.size)(b:w2.os=w1.os)(o:w2.tape=w1.tape)(q:w2.output=w1.output)
  (k: ∀i,i<w1.heap.size->¬(w.heap.size<=i/\i<l.heap.size)->w2.heap[i]? =w1.heap[i]?):DkS w g F σ w2:=by
 have x:=j.size;have y:=h.off.size;have m: ∀i,Gr F l w1 i->i<w1.heap.size:=by obtain⟨_,_,_,_,_,_,h⟩:=h.dk;exact h
 have r:Dk w2 g (Gr F l w1) σ:=h.dk.keep v fun i d=>k i (m i d) (by
  rcases d with b|b
  ·have:=hF i b;omega
  ·omega)
 refine⟨r.mono (fun i d=>?_) (fun i d=>?_),⟨b.trans (h.off.os.trans j.os),o.trans (h.off.tape.trans j.tape),q.trans (h.off.output.trans j.output),by omega,fun i s u=>?_⟩⟩
 ·rcases d with b|b
  ·exact .inl b
  ·exact .inr (by omega)
 ·rcases d with b|b
  ·have:=hF i b;omega
  ·exact b.2
 ·rw[k i (by omega) (by omega),h.off.block i (by omega) u,j.block i s]
end
theorem Dk.held{w w':World}{g:Nat}{F:Nat->Prop}{σ:DM}(h:Dk w g F σ)(r:w.heap.size<=w'.heap.size)(k: ∀i,F i->w'.heap[i]? =w.heap[i]?):Dk w' g F σ:=by
 obtain⟨q,m,s,L,d,b,l⟩:=h;exact⟨q,m,s,L,⟨d.head.same (k g (b g (.inl rfl))),d.fs.same fun i j=>k i (b i (.inr (.inl j))),d.files,d.keep.same fun i j=>k i (b i (.inr (.inr j)))⟩,b,fun i o=>Ψ (l i o) r⟩
structure DkF(w0 w:World)(g:Nat)(F:Nat->Prop)(σ:DM)(K:Nat->Prop):Prop where
 d:Dk w g F σ
 bF: ∀i,F i->w0.heap.size<=i
 ext:Ext w0 w
 k: ∀i,K i->i<w.heap.size/\¬F i
def Stay(K:Nat->Prop)(w w':World):Prop:= ∀i,K i->w'.heap[i]? =w.heap[i]?
theorem Stay.trans{K:Nat->Prop}{a b c:World}(h:Stay K a b)(k:Stay K b c):Stay K a c:=fun i d=>(k i d).trans (h i d)
theorem Stay.refl(K:Nat->Prop)(w:World):Stay K w w:=fun _ _=>rfl
section
variable {w0 w w1:World}{g:Nat}{F K:Nat->Prop}{σ σ1:DM}
theorem DkF.disk(h:DkF w0 w g F σ K)(k:DkS w g F σ1 w1):DkF w0 w1 g (Gr F w w1) σ1 K/\Stay K w w1:=by
 have j:=k.off.size;refine⟨⟨k.dk,fun i d=>Gr.ge h.bF h.ext.size d,k.off.ext h.ext h.bF,fun i d=>?_⟩,fun i d=>?_⟩
 ·obtain⟨a,b⟩:=h.k i d
  exact⟨by omega,Gr.not b a⟩
 ·obtain⟨a,b⟩:=h.k i d
  exact k.off.block i a b
theorem DkF.grow(h:DkF w0 w g F σ K)(k:Ext w w1):DkF w0 w1 g F σ K:=
 ⟨h.d.ext k,h.bF,h.ext.trans k,fun i b=>⟨Ψ (h.k i b).1 k.size,(h.k i b).2⟩⟩
end
end
end Go.Proofs.YtfiibpgoplcgkaaGreatDoor
