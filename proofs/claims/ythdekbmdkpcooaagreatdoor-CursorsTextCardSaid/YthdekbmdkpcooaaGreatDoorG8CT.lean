/- Small laws of no program. -/
import Derived.Test.YthdekbmdkpcooaaGreatDoorG1CT
import Derived.Deep.AppendLies
import Derived.Deep.RegionLaw
set_option linter.unusedVariables false
set_option linter.unusedSimpArgs false
set_option maxRecDepth 100000
set_option maxHeartbeats 200000
namespace Go.Proofs.YthdekbmdkpcooaaGreatDoor
section
open Go.RowKit
section
variable {w w':World} {B B':Nat} {e:TypeId} {size:Nat} {v:Value} {n:Nat} {cs:List Value}
theorem q1O (h:w.ownsRow B e size v n cs) (k: ∀g,v.ownBlock=some g→w'.heap[g]? =w.heap[g]?):w'.ownsRow B e size v n cs:=by
 refine ⟨h.1,?_⟩;rcases h.2 with h2|⟨g,cap,cur,rfl,hb,hg,r⟩
 ·exact Or.inl h2
 ·exact Or.inr ⟨g,cap,cur,rfl,hb,by rw[k g rfl];exact hg,r⟩
theorem q0c (h:w.ownsRow B e size v n cs): ∀k,v.ownBlock=some k→B≤k∧k<w.heap.size:=(Own.of_row h).lt
theorem q0N (h:w.ownsRow B e size v n cs) (k:Ext w w'):w'.ownsRow B e size v n cs:=q1O h fun g hg=>k.block g (q0c h g hg).2
theorem q5a (h:w.ownsRow B e size v n cs) {g:Nat} (hg:v.ownBlock=some g): ∃cur,w.heap[g]? =some (.cells cur e (0,0)):=(Own.of_row h).etype hg
theorem q0s (h:w.ownsRow B e size v n cs) {a:Addr} (u:Value) (hne:v.ownBlock≠some a.block):(w.setCell a u).ownsRow B e size v n cs:=
 q1O h fun _ hb=>Below.heap_setCell _ _ _ _ fun e=>hne (e▸hb)
theorem q0J (h:w.ownsRow B e size v n cs): ∃ao cap,v= .slice ao n cap:=(Own.of_row h).slice
theorem q0v (h:w.ownsRow B e size v n cs) (k:B'≤B):w.ownsRow B' e size v n cs:=by
 refine ⟨h.1,?_⟩;rcases h.2 with h2|⟨g,cap,cur,rfl,hb,r⟩
 ·exact Or.inl h2
 ·exact Or.inr ⟨g,cap,cur,rfl,Nat.le_trans k hb,r⟩
end
def Blk (w:World) (g:Nat) (t:TypeId) (cs:Array Value):Prop:=w.heap[g]? =some (.cells cs t (0,0))
theorem Blk.new (w:World) (t:TypeId) (cs:Array Value):Blk (w.alloc (.cells cs t)) w.heap.size t cs:=heap_alloc_new _ _
theorem Blk.same {w w':World} {g:Nat} {t:TypeId} {cs:Array Value} (h:Blk w g t cs) (k:w'.heap[g]? =w.heap[g]?):Blk w' g t cs:=k.trans h
theorem Blk.cell {w:World} {g:Nat} {t:TypeId} {cs:Array Value} (h:Blk w g t cs) (i:Nat):w.cell? ⟨g,i,none⟩=cs[i]? :=by unfold Blk at h;simp[World.cell?,h]
theorem Blk.free {w:World} {g:Nat} {t:TypeId} {cs:Array Value} (h:Blk w g t cs) (i:Nat):w.frozen? ⟨g,i,none⟩=false:=by unfold Blk at h;simp[World.frozen?,h]
theorem Blk.lt {w:World} {g:Nat} {t:TypeId} {cs:Array Value} (h:Blk w g t cs):g<w.heap.size:=by unfold Blk at h;exact (Array.getElem?_eq_some_iff.1 h).1
theorem Blk.ext {w w':World} {g:Nat} {t:TypeId} {cs:Array Value} (h:Blk w g t cs) (k:Ext w w'):Blk w' g t cs:=h.same (k.block _ h.lt)
theorem Blk.set {w:World} {g:Nat} {t:TypeId} {cs:Array Value} (h:Blk w g t cs) (i:Nat) (u:Value):Blk (w.setCell ⟨g,i,none⟩ u) g t (cs.setIfInBounds i u):=by
 unfold Blk at h⊢;simp only[World.setCell,Array.getElem?_modify,if_true,h,Option.map_some];rfl
theorem Blk.drew {w:World} {g:Nat} {t:TypeId} {cs:Array Value} (h:Blk w g t cs):Blk w.drew g t cs:=h
theorem z7a {w:World} {B:Nat} {e:TypeId} {size:Nat} {v:Value} {n:Nat} {cs:List Value} (h:w.ownsRow B e size v n cs):w.drew.ownsRow B e size v n cs:=q1O h fun _ _=>rfl
end
section
open Go.RowKit
end
end Go.Proofs.YthdekbmdkpcooaaGreatDoor
