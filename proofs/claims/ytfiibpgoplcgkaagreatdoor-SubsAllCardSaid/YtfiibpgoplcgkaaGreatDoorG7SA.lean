/- Small laws of no program. -/
import Derived.Test.YtfiibpgoplcgkaaGreatDoorG1SA
import Derived.Deep.AppendLies
import Derived.Deep.RegionLaw
import Derived.Maps.AppendAt
set_option linter.unusedVariables false
set_option linter.unusedSimpArgs false
set_option maxRecDepth 100000
set_option maxHeartbeats 200000
namespace Go.Proofs.YtfiibpgoplcgkaaGreatDoor
variable {g:Nat}{a:Act}{t:TypeId}{P:Program}{ops:Array Oper}{Q:Exit->Act->World->Prop}
section
open Go.RowKit
section
variable {w w':World}{B B':Nat}{e:TypeId}{size:Nat}{v:Value}{n:Nat}{cs:List Value}
theorem q0z(h:w.ownsRow B e size v n cs)(k: ∀g,v.ownBlock=some g->w'.heap[g]? =w.heap[g]?):w'.ownsRow B e size v n cs:=by
 refine⟨h.1,?_⟩;rcases h.2 with d|⟨g,cap,b,rfl,i,j,r⟩
 ·exact Or.inl d
 ·exact Or.inr ⟨g,cap,b,rfl,i,by rw[k g rfl];exact j,r⟩
theorem q0l(h:w.ownsRow B e size v n cs): ∀k,v.ownBlock=some k->B<=k/\k<w.heap.size:=(Own.of_row h).lt
theorem q0O(h:w.ownsRow B e size v n cs)(k:Ext w w'):w'.ownsRow B e size v n cs:=q0z h fun g b=>k.block g (q0l h g b).2
theorem q6C(h:w.ownsRow B e size v n cs)(d:v.ownBlock=some g): ∃b,w.heap[g]? =some (.cells b e (0,0)):=(Own.of_row h).etype d
theorem q1D(h:w.ownsRow B e size v n cs){a:Addr}(u:Value)(b:v.ownBlock≠some a.block):(w.setCell a u).ownsRow B e size v n cs:=
 q0z h fun _ d=>Below.heap_setCell _ _ _ _ fun e=>b (e▸d)
theorem q0G(h:w.ownsRow B e size v n cs): ∃ao cap,v= .slice ao n cap:=(Own.of_row h).slice
theorem q1G(h:w.ownsRow B e size v n cs)(k:B'<=B):w.ownsRow B' e size v n cs:=by
 refine⟨h.1,?_⟩;rcases h.2 with d|⟨g,cap,b,rfl,i,r⟩
 ·exact Or.inl d
 ·exact Or.inr ⟨g,cap,b,rfl,Ω k i,r⟩
end
def Blk(w:World)(g:Nat)(t:TypeId)(cs:Array Value):Prop:=w.heap[g]? =some (.cells cs t (0,0))
theorem Blk.new(w:World)(t:TypeId)(cs:Array Value):Blk (w.alloc (.cells cs t)) w.heap.size t cs:=heap_alloc_new _ _
theorem Blk.same{w w':World}{cs:Array Value}(h:Blk w g t cs)(k:w'.heap[g]? =w.heap[g]?):Blk w' g t cs:=k.trans h
theorem Blk.cell{w:World}{cs:Array Value}(h:Blk w g t cs)(i:Nat):w.cell? ⟨g,i,none⟩=cs[i]? :=by unfold Blk at h;simp[World.cell?,h]
theorem Blk.free{w:World}{cs:Array Value}(h:Blk w g t cs)(i:Nat):w.frozen? ⟨g,i,none⟩=false:=by unfold Blk at h;simp[World.frozen?,h]
theorem Blk.lt{w:World}{cs:Array Value}(h:Blk w g t cs):g<w.heap.size:=by unfold Blk at h;exact(Array.getElem?_eq_some_iff.1 h).1
theorem Blk.ext{w w':World}{cs:Array Value}(h:Blk w g t cs)(k:Ext w w'):Blk w' g t cs:=h.same (k.block _ h.lt)
theorem Blk.set{w:World}{cs:Array Value}(h:Blk w g t cs)(i:Nat)(u:Value):Blk (w.setCell ⟨g,i,none⟩ u) g t (cs.setIfInBounds i u):=by
 unfold Blk at h⊢;simp only[World.setCell,Array.getElem?_modify,if_true,h,Option.map_some];rfl
theorem Blk.drew{w:World}{cs:Array Value}(h:Blk w g t cs):Blk w.drew g t cs:=h
theorem z9c{w:World}{B:Nat}{e:TypeId}{size:Nat}{v:Value}{n:Nat}{cs:List Value}(h:w.ownsRow B e size v n cs):w.drew.ownsRow B e size v n cs:=q0z h fun _ _=>rfl
theorem q1w{w:World}{o:Oper}{K:Act->World->Prop}{E:Prop}(X:o.guard=none)(s x:Operand)(t:TypeId)
  (ho:o.op= .call {callee:= .builtin .append,args:=#[s,x],argTypes:=#[t,t]})
  (base:Nat)(e:TypeId)(z:Value)(size l:Nat)(ht:P.underlying t=some (.slice e))(I:(P.info? e).map (fun i=>(i.zero,i.size,i.bytes))=some (some z,size,l))
  (a0:z.cells.size=size)(O:0<size)
  (v:Value)(n:Nat)(R:List Value)(hs:a.eval s=v)(C:w.ownsRow base e size v n R)
  (ao:Option Addr)(m c:Nat)(d:List Value)(hx:a.eval x= .slice ao m c)(hl:d.length=m*size)(M:ao=none->c=0)(r:Rd w ao d)(h1: ∀u∈d,u.oneCell'=true)
  (V:n+m<=maxLen)(D:(n+m)*l<=140737488355328)(G:base<=w.heap.size)
  (h: ∀q w',w'.ownsRow base e size q (n+m) (R++d)->w.grownBy w' v.ownBlock->(q.ownBlock=v.ownBlock\/q.ownBlock=some w.heap.size)->K (a.put o.dst q) w'):
  if Region.wanted o (yielded ops a.tmps)=true then Oper.wp P o a w K Q else E:=by
 have hw:Region.wanted o (yielded ops a.tmps)=true:=by simp[Region.wanted,X]
 rw[ξ hw];obtain⟨i,hi,hz,J,W⟩:=info_parts I;have N: ∃q w',(Builtin.append_ #[t,t] o.type #[v,.slice ao m c]).run P w= .ok q w'/\w'.ownsRow base e size q (n+m) (R++d)/\w.grownBy w' v.ownBlock/\(q.ownBlock=v.ownBlock\/q.ownBlock=some w.heap.size):=by
  cases ao with
  | some ad=>
   have F: ∀j u,d[j]? =some u->w.cell? (ad.add j)=some u:=by
    intro j u hj;obtain⟨b,off,e,hc⟩:=r j u hj
    cases e;rw[Addr.add_lit];exact hc
   obtain⟨q,w',Z,S,U,_,h5⟩:=run_append_own_at (P:=P) w base t o.type e i z size l ht hi hz J W a0 O v n R C ad m c d hl F h1 V D G;exact⟨q,w',Z,S,U,h5⟩
  | none=>
   have Y:d=[]:=by
    cases d with
    |nil=>rfl
    |cons y ys=>obtain⟨b,off,e,_⟩:=r 0 y rfl;cases e
   subst Y;have hm:m=0:=by
    rcases Nat.eq_zero_or_pos m with h|h
    ·exact h
    ·have:=Nat.mul_pos h O;simp at hl;omega
   subst hm;obtain rfl:=M rfl;exact⟨v,w,run_append_owned_none (P:=P) (w:=w) base t o.type e i size ht hi v n R C,by simpa using C,World.grownBy.refl w _,.inl rfl⟩
 obtain⟨q,w',Z,S,U,h4⟩:=N;unfold Oper.wp execOp;simp only[ho,resolve,invoke,builtin,Sem.run_bind,Sem.run_pure,Result.andThen_ok,List.map_toArray,List.map_cons,List.map_nil,hs,hx,Z];exact h q w' S U h4
theorem q0R{w:World}{rest:List Oper}{o:Oper}(q:o.guard=none)(s x:Operand)(t:TypeId)
  (W:o.op= .call {callee:= .builtin .append,args:=#[s,x],argTypes:=#[t,t]})
  (base:Nat)(e:TypeId)(z:Value)(size d:Nat)(Y:P.underlying t=some (.slice e))(r:(P.info? e).map (fun i=>(i.zero,i.size,i.bytes))=some (some z,size,d))
  (J:z.cells.size=size)(I:0<size)
  (v:Value)(n:Nat)(M:List Value)(X:a.eval s=v)(F:w.ownsRow base e size v n M)
  (ao:Option Addr)(m c:Nat)(b:List Value)(hx:a.eval x= .slice ao m c)(V:b.length=m*size)(D:ao=none->c=0)(y:Rd w ao b)(U: ∀u∈b,u.oneCell'=true)
  (G:n+m<=maxLen)(j:(n+m)*d<=140737488355328)(l:base<=w.heap.size)
  (h: ∀C w',w'.ownsRow base e size C (n+m) (M++b)->w.grownBy w' v.ownBlock->(C.ownBlock=v.ownBlock\/C.ownBlock=some w.heap.size)->wpList P ops Q rest (a.put o.dst C) w'):
  wpList P ops Q (o::rest) a w:=wpList_plain q fun K hK=>by
 have N:=q1w (ops:=ops) (Q:=Q) (K:=K) (E:=True) q s x t W base e z size d Y r J I v n M X F ao m c b hx V D y U G j l fun C w' O R S=>hK _ _ (h C w' O R S)
 have Z:Region.wanted o (yielded ops a.tmps)=true:=by simp[Region.wanted,q]
 rw[ξ Z] at N;exact N
end
end Go.Proofs.YtfiibpgoplcgkaaGreatDoor
