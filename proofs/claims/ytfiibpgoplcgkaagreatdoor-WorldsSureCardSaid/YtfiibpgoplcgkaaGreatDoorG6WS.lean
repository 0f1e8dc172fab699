/- Small laws of no program. -/
import Derived.Test.YtfiibpgoplcgkaaGreatDoorG1WS
import Derived.Deep.AppendLies
import Derived.Deep.RegionLaw
import Derived.Maps.AppendAt
set_option linter.unusedVariables false
set_option linter.unusedSimpArgs false
set_option maxRecDepth 100000
set_option maxHeartbeats 200000
namespace Go.Proofs.YtfiibpgoplcgkaaGreatDoor
variable {g:Nat}{a:Act}{t:TypeId}{P:Program}{ops:Array Oper}{Q:Exit->Act->World->Prop}
section
open Go.RowKit
section
variable {w w':World}{B B':Nat}{e:TypeId}{size:Nat}{v:Value}{n:Nat}{cs:List Value}
theorem q1X(h:w.ownsRow B e size v n cs)(k: ∀g,v.ownBlock=some g->w'.heap[g]? =w.heap[g]?):w'.ownsRow B e size v n cs:=by
 refine⟨h.1,?_⟩;rcases h.2 with h2|⟨g,cap,b,rfl,d,i,r⟩
 ·exact Or.inl h2
 ·exact Or.inr ⟨g,cap,b,rfl,d,by rw[k g rfl];exact i,r⟩
theorem q0p(h:w.ownsRow B e size v n cs): ∀k,v.ownBlock=some k->B<=k/\k<w.heap.size:=(Own.of_row h).lt
theorem q0J(h:w.ownsRow B e size v n cs)(k:Ext w w'):w'.ownsRow B e size v n cs:=q1X h fun g b=>k.block g (q0p h g b).2
theorem q5E(h:w.ownsRow B e size v n cs)(d:v.ownBlock=some g): ∃b,w.heap[g]? =some (.cells b e (0,0)):=(Own.of_row h).etype d
theorem q0d(h:w.ownsRow B e size v n cs){a:Addr}(u:Value)(b:v.ownBlock≠some a.block):(w.setCell a u).ownsRow B e size v n cs:=
 q1X h fun _ d=>Below.heap_setCell _ _ _ _ fun e=>b (e▸d)
theorem q0H(h:w.ownsRow B e size v n cs): ∃ao cap,v= .slice ao n cap:=(Own.of_row h).slice
theorem q1M(h:w.ownsRow B e size v n cs)(k:B'<=B):w.ownsRow B' e size v n cs:=by
 refine⟨h.1,?_⟩;rcases h.2 with h2|⟨g,cap,b,rfl,d,r⟩
 ·exact Or.inl h2
 ·exact Or.inr ⟨g,cap,b,rfl,Ω k d,r⟩
end
def Blk(w:World)(g:Nat)(t:TypeId)(cs:Array Value):Prop:=w.heap[g]? =some (.cells cs t (0,0))
theorem Blk.new(w:World)(t:TypeId)(cs:Array Value):Blk (w.alloc (.cells cs t)) w.heap.size t cs:=heap_alloc_new _ _
theorem Blk.same{w w':World}{cs:Array Value}(h:Blk w g t cs)(k:w'.heap[g]? =w.heap[g]?):Blk w' g t cs:=k.trans h
theorem Blk.cell{w:World}{cs:Array Value}(h:Blk w g t cs)(i:Nat):w.cell? ⟨g,i,none⟩=cs[i]? :=by unfold Blk at h;simp[World.cell?,h]
theorem Blk.free{w:World}{cs:Array Value}(h:Blk w g t cs)(i:Nat):w.frozen? ⟨g,i,none⟩=false:=by unfold Blk at h;simp[World.frozen?,h]
theorem Blk.lt{w:World}{cs:Array Value}(h:Blk w g t cs):g<w.heap.size:=by unfold Blk at h;exact(Array.getElem?_eq_some_iff.1 h).1
theorem Blk.ext{w w':World}{cs:Array Value}(h:Blk w g t cs)(k:Ext w w'):Blk w' g t cs:=h.same (k.block _ h.lt)
theorem Blk.set{w:World}{cs:Array Value}(h:Blk w g t cs)(i:Nat)(u:Value):Blk (w.setCell ⟨g,i,none⟩ u) g t (cs.setIfInBounds i u):=by
 unfold Blk at h⊢;simp only[World.setCell,Array.getElem?_modify,if_true,h,Option.map_some];rfl
theorem Blk.drew{w:World}{cs:Array Value}(h:Blk w g t cs):Blk w.drew g t cs:=h
theorem y0Y{w:World}{B:Nat}{e:TypeId}{size:Nat}{v:Value}{n:Nat}{cs:List Value}(h:w.ownsRow B e size v n cs):w.drew.ownsRow B e size v n cs:=q1X h fun _ _=>rfl
theorem q2F{w:World}{o:Oper}{K:Act->World->Prop}{E:Prop}(U:o.guard=none)(s x:Operand)(t:TypeId)
  (ho:o.op= .call {callee:= .builtin .append,args:=#[s,x],argTypes:=#[t,t]})
  (base:Nat)(e:TypeId)(z:Value)(size l:Nat)(ht:P.underlying t=some (.slice e))(I:(P.info? e).map (fun i=>(i.zero,i.size,i.bytes))=some (some z,size,l))
  (X:z.cells.size=size)(O:0<size)
  (v:Value)(n:Nat)(xs:List Value)(hs:a.eval s=v)(C:w.ownsRow base e size v n xs)
  (ao:Option Addr)(m c:Nat)(d:List Value)(hx:a.eval x= .slice ao m c)(Z:d.length=m*size)(M:ao=none->c=0)(r:Rd w ao d)(h1: ∀u∈d,u.oneCell'=true)
  (R:n+m<=maxLen)(D:(n+m)*l<=140737488355328)(G:base<=w.heap.size)
  (h: ∀q w',w'.ownsRow base e size q (n+m) (xs++d)->w.grownBy w' v.ownBlock->(q.ownBlock=v.ownBlock\/q.ownBlock=some w.heap.size)->K (a.put o.dst q) w'):
  if Region.wanted o (yielded ops a.tmps)=true then Oper.wp P o a w K Q else E:=by
 have hw:Region.wanted o (yielded ops a.tmps)=true:=by simp[Region.wanted,U]
 rw[ξ hw];obtain⟨i,Y,hz,J,S⟩:=info_parts I;have N: ∃q w',(Builtin.append_ #[t,t] o.type #[v,.slice ao m c]).run P w= .ok q w'/\w'.ownsRow base e size q (n+m) (xs++d)/\w.grownBy w' v.ownBlock/\(q.ownBlock=v.ownBlock\/q.ownBlock=some w.heap.size):=by
  cases ao with
  | some ad=>
   have F: ∀j u,d[j]? =some u->w.cell? (ad.add j)=some u:=by
    intro j u hj;obtain⟨b,off,e,hc⟩:=r j u hj
    cases e;rw[Addr.add_lit];exact hc
   obtain⟨q,w',W,h2,h3,_,h5⟩:=run_append_own_at (P:=P) w base t o.type e i z size l ht Y hz J S X O v n xs C ad m c d Z F h1 R D G;exact⟨q,w',W,h2,h3,h5⟩
  | none=>
   have V:d=[]:=by
    cases d with
    |nil=>rfl
    |cons y ys=>obtain⟨b,off,e,_⟩:=r 0 y rfl;cases e
   subst V;have hm:m=0:=by
    rcases Nat.eq_zero_or_pos m with h|h
    ·exact h
    ·have:=Nat.mul_pos h O;simp at Z;omega
   subst hm;obtain rfl:=M rfl;exact⟨v,w,run_append_owned_none (P:=P) (w:=w) base t o.type e i size ht Y v n xs C,by simpa using C,World.grownBy.refl w _,.inl rfl⟩
 obtain⟨q,w',W,h2,h3,h4⟩:=N;unfold Oper.wp execOp;simp only[ho,resolve,invoke,builtin,Sem.run_bind,Sem.run_pure,Result.andThen_ok,List.map_toArray,List.map_cons,List.map_nil,hs,hx,W];exact h q w' h2 h3 h4
theorem q0P{w:World}{rest:List Oper}{o:Oper}(q:o.guard=none)(s x:Operand)(t:TypeId)
  (S:o.op= .call {callee:= .builtin .append,args:=#[s,x],argTypes:=#[t,t]})
  (base:Nat)(e:TypeId)(z:Value)(size d:Nat)(V:P.underlying t=some (.slice e))(r:(P.info? e).map (fun i=>(i.zero,i.size,i.bytes))=some (some z,size,d))
  (J:z.cells.size=size)(I:0<size)
  (v:Value)(n:Nat)(xs:List Value)(U:a.eval s=v)(F:w.ownsRow base e size v n xs)
  (ao:Option Addr)(m c:Nat)(b:List Value)(X:a.eval x= .slice ao m c)(R:b.length=m*size)(D:ao=none->c=0)(y:Rd w ao b)(h1: ∀u∈b,u.oneCell'=true)
  (G:n+m<=maxLen)(j:(n+m)*d<=140737488355328)(l:base<=w.heap.size)
  (h: ∀C w',w'.ownsRow base e size C (n+m) (xs++b)->w.grownBy w' v.ownBlock->(C.ownBlock=v.ownBlock\/C.ownBlock=some w.heap.size)->wpList P ops Q rest (a.put o.dst C) w'):
  wpList P ops Q (o::rest) a w:=wpList_plain q fun K hK=>by
 have h2:=q2F (ops:=ops) (Q:=Q) (K:=K) (E:=True) q s x t S base e z size d V r J I v n xs U F ao m c b X R D y h1 G j l fun C w' M N O=>hK _ _ (h C w' M N O)
 have W:Region.wanted o (yielded ops a.tmps)=true:=by simp[Region.wanted,q]
 rw[ξ W] at h2;exact h2
end
end Go.Proofs.YtfiibpgoplcgkaaGreatDoor
