/- Small laws of no program. -/
import Derived.Test.YtfiibpgoplcgkaaGreatDoorG0WS
import Derived.WalkKit
import Derived.WalkSmall
import Derived.Lib.Hide
import Derived.Deep.QuietTactic
import Derived.BigQuiet
import Derived.Deep.DeepFit
import Derived.Deep.DeepCutAuto
import Derived.Laws.AppendOwnNone
import Derived.Lib.AppendZeros
import Derived.Lib.EndianBits
set_option linter.unusedVariables false
set_option linter.unusedSimpArgs false
set_option maxRecDepth 100000
set_option maxHeartbeats 200000
namespace Go.Proofs.YtfiibpgoplcgkaaGreatDoor
variable {a:World}{c j cap i g m:Nat}{u v' vi:Value}{ao:Option Addr}{xs l:List Int}{L:List (List Int)}{α:Type}{P:Program}{Q:Exit->Act->World->Prop}{tO tI:TypeId}{vs:List Value}
section
open Go.RowKit
abbrev Ext(w w':World):Prop:=Below w.heap.size w w'
theorem Ext.trans{b c:World}(h:Ext a b)(k:Ext b c):Ext a c:=Below.trans h (Below.mono k h.size)
theorem Ext.refl(w:World):Ext w w:=Below.refl _ _
theorem Ext.drew{w:World}(h:Ext a w):Ext a w.drew:=Below.drew h
theorem Ext.drewN{w:World}(h:Ext a w)(n:Nat):Ext a (w.drewN n):=below_drewN h n
theorem Ext.alloc{w:World}(h:Ext a w)(o:Obj):Ext a (w.alloc o):=Below.alloc h h.size o
theorem q0C(w:World)(o:Obj):Ext w (w.alloc o):=(Ext.refl w).alloc o
theorem q1x(w:World)(o p:Obj):Ext w ((w.alloc o).alloc p):=(q0C w o).alloc p
theorem q8M(w:World)(o p q:Obj):Ext w (((w.alloc o).alloc p).alloc q):=(q1x w o p).alloc q
def Rd(w:World)(ao:Option Addr)(cs:List Value):Prop:=
 ∀j u,cs[j]? =some u-> ∃b off,ao=some ⟨b,off,none⟩/\w.cell? ⟨b,off+j,none⟩=some u
theorem Rd.nil(w:World)(ao:Option Addr):Rd w ao []:=fun j u h=>by simp at h
theorem q0A{w w':World}(h:Ext w w'){a:Addr}(hc:w.cell? a=some u):w'.cell? a=some u:=
 (h.cell (World.block_lt_of_cell? (h:=hc))).trans hc
theorem Rd.ext{w w':World}{cs:List Value}(h:Rd w ao cs)(k:Ext w w'):Rd w' ao cs:=
 fun j u d=>let ⟨b,off,e,hc⟩:=h j u d;⟨b,off,e,q0A k hc⟩
theorem Rd.at{w:World}{cs:List Value}(h:Rd w ao cs)(d:j<cs.length):
  ∃b off,ao=some ⟨b,off,none⟩/\w.cell? ⟨b,off+j,none⟩=some cs[j]:=h j _ (γ d)
theorem Rd.take{w:World}{cs:List Value}(h:Rd w ao cs)(n:Nat):Rd w ao (cs.take n):=by
 intro j u b;refine h j u ?_;rw[List.getElem?_take] at b
 split at b
 ·exact b
 ·cases b
theorem Rd.drop{w:World}{b off:Nat}{cs:List Value}(h:Rd w (some ⟨b,off,none⟩) cs)(n:Nat):Rd w (some ⟨b,off+n,none⟩) (cs.drop n):=by
 intro j u d;rw[List.getElem?_drop] at d;obtain⟨q,o,e,hc⟩:=h _ u d
 cases e;exact⟨b,off+n,rfl,by rw[Nat.add_assoc];exact hc⟩
structure Ints(w:World)(ao:Option Addr)(n cap:Nat)(xs:List Int):Prop where
 len:xs.length=n
 fits:n<=cap
 bound:cap<=9223372036854775807
 nil:ao=none->cap=0
 rd:Rd w ao (xs.map (Value.int .i64))
theorem Ints.ext{w w':World}{n:Nat}(h:Ints w ao n cap xs)(k:Ext w w'):Ints w' ao n cap xs:=
 ⟨h.len,h.fits,h.bound,h.nil,h.rd.ext k⟩
theorem Ints.at{w:World}{n:Nat}(h:Ints w ao n cap xs)(d:j<n):
  ∃b off,ao=some ⟨b,off,none⟩/\w.cell? ⟨b,off+j,none⟩=some (.int .i64 (xs.getD j 0)):=by
 have o:=h.len;obtain⟨b,off,e,hc⟩:=h.rd.at (j:=j) (by simp;omega);refine⟨b,off,e,?_⟩;rw[hc,List.getElem_map,δ,γ (by omega)]
 rfl
structure Grid(w:World)(ao:Option Addr)(n cap:Nat)(L:List (List Int)):Prop where
 len:L.length=n
 fits:n<=cap
 bound:cap<=9223372036854775807
 nil:ao=none->cap=0
 rd: ∀i (h:i<L.length),∃b off ai ci,ao=some ⟨b,off,none⟩/\w.cell? ⟨b,off+i,none⟩=some (.slice ai L[i].length ci)/\Ints w ai L[i].length ci L[i]
theorem Grid.ext{w w':World}{n:Nat}(h:Grid w ao n cap L)(k:Ext w w'):Grid w' ao n cap L:=
 ⟨h.len,h.fits,h.bound,h.nil,fun i d=>let ⟨b,off,ai,ci,e,hc,hr⟩:=h.rd i d;⟨b,off,ai,ci,e,q0A k hc,hr.ext k⟩⟩
theorem Grid.at{w:World}{n:Nat}(h:Grid w ao n cap L)(x:i<n):
  ∃b off d q o,ao=some ⟨b,off,none⟩/\w.cell? ⟨b,off+i,none⟩=some (.slice d q o)/\Ints w d q o (L.getD i []):=by
 have y:=h.len;obtain⟨b,off,d,o,e,hc,s⟩:=h.rd i (by omega);have r:L.getD i []=L[i]:=by rw[δ,γ (by omega)];rfl
 exact⟨b,off,d,_,o,e,hc,by rw[r];exact s⟩
theorem Grid.empty(w:World):Grid w none 0 0 []:=⟨rfl,ι _,by omega,fun _=>rfl,fun i h=>by simp at h⟩
theorem q0Z(xs:List α)(d:α)(k:Nat)(h:k<xs.length):xs.take (k+1)=xs.take k++[xs.getD k d]:=by
 rw[List.take_succ_eq_append_getElem h,δ,γ h];rfl
theorem rb{b c:Bool}(h:c=b):Ending.returned (.bool b)=Ending.returned (.bool c):=by rw[h]
theorem rn{k:IntKind}{b c:Int}(h:c=b):Ending.returned (.int k b)=Ending.returned (.int k c):=by rw[h]
def Own(w:World)(B:Nat)(e:TypeId)(size:Nat)(v:Value)(n:Nat)(cs:List Value):Prop:=
 cs.length=n*size/\
 ((v= .slice none 0 0/\n=0)\/
  ∃g cap cur,v= .slice (some ⟨g,0,none⟩) n cap/\B<=g/\w.heap[g]? =some (.cells cur e (0,0))/\n<=cap/\cap<=9223372036854775807/\cap*size<=cur.size/\cur.toList.take (n*size)=cs)
section own
variable {w w':World}{B B':Nat}{e:TypeId}{size:Nat}{v:Value}{n:Nat}{cs:List Value}
theorem Own.of_row(h:w.ownsRow B e size v n cs):Own w B e size v n cs:=by
 refine⟨h.1,?_⟩;rcases h.2 with h2|⟨g,cap,b,rfl,q,r,s,hm,d,o⟩
 ·exact .inl h2
 ·exact .inr ⟨g,cap,b,rfl,q,r,s,hm,Nat.le_of_eq d.symm,o⟩
theorem Own.nil(w:World)(B:Nat)(e:TypeId)(size:Nat):Own w B e size (.slice none 0 0) 0 []:=⟨by simp,.inl ⟨rfl,rfl⟩⟩
theorem Own.rd(h:Own w B e size v n cs):
  ∃ao cap,v= .slice ao n cap/\n<=cap/\cap<=9223372036854775807/\(ao=none->cap=0)/\Rd w ao cs:=by
 have y:=h.1;rcases h.2 with⟨rfl,rfl⟩|⟨g,cap,d,rfl,D,s,C,hm,r,q⟩
 ·obtain rfl:cs=[]:=List.eq_nil_of_length_eq_zero (by simpa using y)
  exact⟨none,0,rfl,ι _,by omega,fun _=>rfl,Rd.nil _ _⟩
 ·refine⟨some ⟨g,0,none⟩,cap,rfl,C,hm,(fun x=>by cases x),?_⟩
  intro j u b;refine⟨g,0,rfl,?_⟩;rw[<-q] at b;have o:d.toList[j]? =some u:=by
   rw[List.getElem?_take] at b
   split at b
   ·exact b
   ·cases b
  simp only[World.cell?,s,Nat.zero_add]
  simpa using o
theorem Own.slice(h:Own w B e size v n cs): ∃ao cap,v= .slice ao n cap:=by
 obtain⟨ao,cap,e,_⟩:=h.rd;exact⟨ao,cap,e⟩
theorem Own.lt(h:Own w B e size v n cs): ∀k,v.ownBlock=some k->B<=k/\k<w.heap.size:=by
 intro k b;rcases h.2 with⟨rfl,_⟩|⟨g,cap,d,rfl,o,q,_⟩
 ·cases b
 ·cases b
  exact⟨o,(Array.getElem?_eq_some_iff.1 q).1⟩
theorem Own.base(h:Own w B e size v n cs)(k:B'<=B):Own w B' e size v n cs:=by
 refine⟨h.1,?_⟩;rcases h.2 with h2|⟨g,cap,b,rfl,d,r⟩
 ·exact Or.inl h2
 ·exact Or.inr ⟨g,cap,b,rfl,Ω k d,r⟩
theorem Own.same(h:Own w B e size v n cs)(k: ∀g,v.ownBlock=some g->w'.heap[g]? =w.heap[g]?):Own w' B e size v n cs:=by
 refine⟨h.1,?_⟩;rcases h.2 with h2|⟨g,cap,b,rfl,d,o,r⟩
 ·exact Or.inl h2
 ·exact Or.inr ⟨g,cap,b,rfl,d,by rw[k g rfl];exact o,r⟩
theorem Own.ext(h:Own w B e size v n cs)(k:Ext w w'):Own w' B e size v n cs:=h.same fun g b=>k.block g (h.lt g b).2
theorem Own.kept{row:Option Nat}(h:Own w B e size v n cs)(o:w.grownBy w' row)(b: ∀g,v.ownBlock=some g->row≠some g):Own w' B e size v n cs:=
 h.same fun g d=>o.block g (h.lt g d).2 fun e=>b g d e.symm
theorem Own.setOther(h:Own w B e size v n cs){a:Addr}(u:Value)(b:v.ownBlock≠some a.block):Own (w.setCell a u) B e size v n cs:=
 h.same fun _ d=>Below.heap_setCell _ _ _ _ fun e=>b (e▸d)
theorem Own.etype(h:Own w B e size v n cs)(d:v.ownBlock=some g): ∃b,w.heap[g]? =some (.cells b e (0,0)):=by
 rcases h.2 with⟨rfl,_⟩|⟨q,cap,b,rfl,r,o,_⟩
 ·cases d
 ·cases d
  exact⟨b,o⟩
theorem Own.apart{e':TypeId}{b:Nat}{y:Nat}{o:List Value}(h:Own w B e size v n cs)(s:Own w B' e' b v' y o)(r:e≠e'):
  ∀g,v.ownBlock=some g->v'.ownBlock≠some g:=by
 intro g x q;obtain⟨c,hc⟩:=h.etype x;obtain⟨C,d⟩:=s.etype q;rw[hc] at d
 cases d;exact r rfl
theorem Own.lit(w:World)(c:Array Value)(e:TypeId)(size k:Nat)(b:B<=w.heap.size)(o:c.size=k*size)(d:k<=9223372036854775807):
  Own (w.alloc (.cells c e)) B e size (.slice (some ⟨w.heap.size,0,none⟩) k k) k c.toList:=by
 refine⟨by simpa using o,.inr ⟨w.heap.size,k,c,rfl,b,heap_alloc_new _ _,ι _,d,by omega,?_⟩⟩;rw[Δ (by simp;omega)]
theorem Own.cut(h:Own w B e size v n cs)(hm:m<=c)(d:v= .slice ao n cap)(y:m<=n)(hc:c<=cap):Own w B e size (.slice ao m c) m (cs.take (m*size)):=by
 subst d;have x:=h.1;have b:=Nat.mul_le_mul_right size y;refine⟨by rw[Θ,x,Nat.min_eq_left b],?_⟩;rcases h.2 with⟨d,rfl⟩|⟨g,cap,o,d,q,s,h1,h2,h3,h4⟩
 ·cases d
  have:m=0:=by omega
  have:c=0:=by omega
  subst m c;exact .inl ⟨rfl,rfl⟩
 ·cases d
  have r:=Nat.mul_le_mul_right size hc;refine .inr ⟨g,c,o,rfl,q,s,hm,by omega,by omega,?_⟩;rw[<-h4,List.take_take,Nat.min_eq_left b]
theorem Own.cell(h:Own w B e size v n cs)(y:j<cs.length): ∃g cap,v= .slice (some ⟨g,0,none⟩) n cap/\w.cell? ⟨g,j,none⟩=some cs[j]/\w.frozen? ⟨g,j,none⟩=false/\B<=g:=by
 have C:=h.1;obtain⟨ao,cap,o,h1,h2,h3,h4⟩:=h.rd;obtain⟨b,off,he,hc⟩:=h4.at y;rcases h.2 with⟨rfl,rfl⟩|⟨g,q,r,d,s,x,_⟩
 ·cases o;cases he
 ·rw[d] at o
  cases o
  cases he;refine⟨_,_,d,by simpa using hc,by simp[World.frozen?,x],s⟩
theorem Own.cellE(h:Own w B e 1 v n cs)(b:j<n): ∃g cap u,v= .slice (some ⟨g,0,none⟩) n cap/\w.cell? ⟨g,j,none⟩=some u/\w.frozen? ⟨g,j,none⟩=false/\B<=g:=by
 have d:=h.1;obtain⟨g,cap,h1,h2,h3,h4⟩:=h.cell (j:=j) (by omega);exact⟨g,cap,_,h1,h2,h3,h4⟩
theorem Own.stored(h:Own w B e 1 v n cs)(o:v= .slice (some ⟨g,0,none⟩) n cap)(u:Value):Own (w.setCell ⟨g,j,none⟩ u) B e 1 v n (cs.set j u):=by
 have s:=h.1;refine⟨by simpa using s,?_⟩;rcases h.2 with⟨rfl,_⟩|⟨x,d,b,rfl,q,r,h1,h2,h3,h4⟩
 ·cases o
 ·cases o
  refine .inr ⟨g,cap,b.setIfInBounds j u,rfl,q,?_,h1,h2,by simpa using h3,?_⟩
  ·simp only[World.setCell,Array.getElem?_modify,if_true,r,Option.map_some]
   rfl
  ·rw[Array.toList_setIfInBounds,<-h4,List.take_set]
theorem Rd.lit(w:World)(c:Array Value)(e:TypeId):Rd (w.alloc (.cells c e)) (some ⟨w.heap.size,0,none⟩) c.toList:=by
 intro j u b;exact⟨_,_,rfl,by simpa using b⟩
end own
theorem q0Y{w:World}{ops:Array Oper}{rest:List Oper}{o:Oper}{a:Act}(M:o.guard=none)(s x:Operand)(t:TypeId)
  (ho:o.op= .call {callee:= .builtin .append,args:=#[s,x],argTypes:=#[t,t]})
  (base:Nat)(e:TypeId)(z:Value)(size D:Nat)(ht:P.underlying t=some (.slice e))(W:(P.info? e).map (fun i=>(i.zero,i.size,i.bytes))=some (some z,size,D))
  (g0:z.cells.size=size)(X:0<size)
  (v:Value)(n:Nat)(xs:List Value)(hs:a.eval s=v)(q:Own w base e size v n xs)
  (ao:Option Addr)(m c:Nat)(d:List Value)(hx:a.eval x= .slice ao m c)(Y:d.length=m*size)(e0:ao=none->c=0)(N:Rd w ao d)(h1: ∀u∈d,u.oneCell'=true)
  (I:(n+m)*D<=140737488355328)(j0:n+m<=9223372036854775807)(J:base<=w.heap.size)
  (h: ∀v' w',Own w' base e size v' (n+m) (xs++d)->w.grownBy w' v.ownBlock->(v'.ownBlock=v.ownBlock\/ ∀g,v'.ownBlock=some g->w.heap.size<=g)->wpList P ops Q rest (a.put o.dst v') w'):wpList P ops Q (o::rest) a w:=by
 obtain⟨i,hi,hz,C,a0⟩:=info_parts W
 cases ao with
 | some ad =>
  have E: ∀j u,d[j]? =some u->w.cell? (ad.add j)=some u:=by
   intro j u hj;obtain⟨b,off,e,hc⟩:=N j u hj
   cases e;rw[Addr.add_lit];exact hc
  have R:=q.1;rcases q.2 with⟨rfl,rfl⟩|⟨g,cap,U,rfl,Z,V,d0,b0,h0,O⟩
  ·obtain rfl:xs=[]:=List.eq_nil_of_length_eq_zero (by simpa using R)
   exact wpList_append_own w M s x t ho w.heap.size e i z size D ht hi hz C a0 g0 X _ 0 [] hs (World.ownsRow_nil _ _ _ _) ad m c d hx Y E h1 (by unfold maxLen;omega) I (ι _) (fun v' w' h1 h2 _=>h v' w' ((Own.of_row h1).base J) h2 (.inr fun g V=>((Own.of_row h1).lt g V).1))
  ·by_cases F:n+m<=cap
   ·have c0:=Nat.mul_le_mul_right size F
    rw[Nat.add_mul] at c0;have hr:=run_append_room (P:=P) w t o.type e i ht hi g n cap U V ad m c d (by rw[C];exact Y) E h1 F (by rw[C];omega);rw[C] at hr;refine Lib.wpList_append_run w M s x t t ho _ _ hs hx _ _ hr (h _ _ ⟨by simp[R,Y,Nat.add_mul],.inr ⟨g,cap,_,rfl,Z,setRow_heap w g U _ e _ V,F,b0,?_,?_⟩⟩ ⟨rfl,rfl,rfl,by simp,fun k _ hk=>setRow_other w g k _ (fun e=>hk (by simp[Value.ownBlock,e]))⟩ (.inl rfl))
    ·simp only[List.size_toArray,θ,Θ,List.length_drop,Array.length_toList]
     omega
    ·rw[O,show(n+m)*size=(xs++d).length from by simp[R,Y,Nat.add_mul]]
     exact List.take_left
   ·refine wpList_append_grows w M s x t ho e i z size D ht hi hz C a0 g0 X (some ⟨g,0,none⟩) n cap xs hs (fun hh=>by cases hh) R ?_ ad m c d hx Y E h1 (by omega) (by unfold maxLen;omega) I ?_
    ·intro b hb j u hj
     cases hb;obtain⟨_,_,_,_,_,_,k0⟩:=q.rd;have: ∃ao G,(Value.slice (some ⟨g,0,none⟩) n cap)= .slice ao n G/\Rd w ao xs:=by
      obtain⟨ao,G,e1,_,_,_,r⟩:=q.rd;exact⟨ao,G,e1,r⟩
     obtain⟨ao,G,e1,r⟩:=this
     cases e1;obtain⟨b,off,e2,hc⟩:=r j u hj
     cases e2;rw[Addr.add_lit];exact hc
    ·intro v' w' r1 r2
     exact h v' w' ((Own.of_row r1).base J) ⟨r2.os,r2.tape,r2.output,r2.size,fun k hk _=>r2.block k hk (by simp)⟩ (.inr fun g V=>((Own.of_row r1).lt g V).1)
 | none =>
  have i0:d=[]:=by
   cases d with
   |nil=>rfl
   |cons y ys=>obtain⟨b,off,e,_⟩:=N 0 y rfl;cases e
  subst i0;have hm:m=0:=by
   rcases Nat.eq_zero_or_pos m with h|h
   ·exact h
   ·have:=Nat.mul_pos h X;simp at Y;omega
  subst hm;obtain rfl:=e0 rfl;have R:=q.1;have S:wpList P ops Q rest (a.put o.dst v) w:=by
   have:=h v w (by simpa using q) (World.grownBy.refl w _) (.inl rfl);exact this
  rcases q.2 with⟨rfl,rfl⟩|⟨g,cap,U,rfl,Z,V,d0,b0,h0,O⟩
  ·exact wpList_append_own_none M s x t ho base e i size ht hi _ 0 [] hs (World.ownsRow_nil _ _ _ _) hx S
  ·have f0:(Builtin.append_ #[t,t] o.type #[.slice (some ⟨g,0,none⟩) n cap,.slice none 0 0]).run P w= .ok (.slice (some ⟨g,0,none⟩) n cap) w:=by
    simp[Builtin.append_,run_underlying ht,sizeOf,typeInfo,hi,Builtin.lenOf,d0,Builtin.firstCells,storeCells]
   exact Lib.wpList_append_run w M s x t t ho _ _ hs hx _ _ f0 S
theorem q0z{B:Nat}{e:TypeId}{size:Nat}{v:Value}{n:Nat}{xs:List Value}{w0 w w':World}(h:Below B w0 w)(b:Own w B e size v n xs)(o:w.grownBy w' v.ownBlock)(d:B<=w.heap.size):Below B w0 w':=
 h.grown o d fun k q=>(b.lt k q).1
theorem q2d{w:World}{B:Nat}{e:TypeId}{v:Value}{n:Nat}(h:Own w B e 1 v n (xs.map (Value.int .i64))):
  ∃ao cap,v= .slice ao n cap/\Ints w ao n cap xs:=by
 have b:=h.1;obtain⟨ao,cap,rfl,h1,h2,h3,h4⟩:=h.rd;exact⟨ao,cap,rfl,by simpa using b,h1,h2,h3,h4⟩
structure OGr(w:World)(B:Nat)(tO tI:TypeId)(v:Value)(vs:List Value)(L:List (List Int)):Prop where
 own:Own w B tO 1 v L.length vs
 row: ∀i,Own w B tI 1 (vs.getD i (.slice none 0 0)) (L.getD i []).length ((L.getD i []).map (Value.int .i64))
 sep: ∀i j g,i≠j->(vs.getD i (.slice none 0 0)).ownBlock=some g->(vs.getD j (.slice none 0 0)).ownBlock≠some g
theorem OGr.nil(w:World)(B:Nat)(tO tI:TypeId):OGr w B tO tI (.slice none 0 0) [] []:=
 ⟨Own.nil _ _ _ _,fun i=>by simpa using Own.nil _ _ _ _,fun i j g _ h=>by simp[Value.ownBlock] at h⟩
theorem OGr.ext{w w':World}{B:Nat}{v:Value}(h:OGr w B tO tI v vs L)(k:Ext w w'):OGr w' B tO tI v vs L:=
 ⟨h.own.ext k,fun i=>(h.row i).ext k,h.sep⟩
theorem OGr.base{w:World}{B B':Nat}{v:Value}(h:OGr w B tO tI v vs L)(k:B'<=B):OGr w B' tO tI v vs L:=
 ⟨h.own.base k,fun i=>(h.row i).base k,h.sep⟩
theorem q6Q(l:List α)(x d:α)(i:Nat):(l++[x]).getD i d=if i<l.length then l.getD i d else if i=l.length then x else d:=by
 simp only[δ,List.getElem?_append];by_cases h:i<l.length
 ·simp[h]
 ·by_cases h2:i=l.length
  ·simp[h2]
  ·simp only[h,h2,if_false]
   rw[List.getElem?_eq_none (by simp;omega)]
   rfl
theorem q3R(l:List α)(x d:α)(i j:Nat)(b:i<l.length):(l.set i x).getD j d=if j=i then x else l.getD j d:=by
 simp only[δ,List.getElem?_set];by_cases h:i=j
 ·subst h;simp[b]
 ·simp[h,Ne.symm h]
theorem OGr.push{w w':World}{B B':Nat}{v:Value}(h:OGr w B tO tI v vs L)(q:tO≠tI)
  (s:Own w B' tI 1 vi l.length (l.map (Value.int .i64)))(G:B<=B')(b: ∀j g,(vs.getD j (.slice none 0 0)).ownBlock=some g->g<B')
  (r:Own w' B tO 1 v' (L.length+1) (vs++[vi]))(E:w.grownBy w' v.ownBlock):OGr w' B tO tI v' (vs++[vi]) (L++[l]):=by
 have D:vs.length=L.length:=by simpa using h.own.1
 refine⟨by simpa using r,fun i=>?_,fun i j g C=>?_⟩
 ·rw [q6Q,q6Q,D]
  split
  ·exact(h.row i).kept E fun g x d=>(h.own.apart (h.row i) q) g d x
  ·split
   ·exact(s.base G).kept E fun g x d=>(h.own.apart s q) g d x
   ·exact Own.nil _ _ _ _
 ·rw [q6Q,q6Q]
  by_cases F:i<vs.length
  ·rw [ξ F]
   by_cases o:j<vs.length
   ·rw[ξ o];exact h.sep i j g C
   ·rw[κ o]
    intro y;have:=b i g y
    split
    ·intro d;have:=(s.lt g d).1;omega
    ·simp[Value.ownBlock]
  ·rw [κ F]
   split
   ·rename_i I
    intro d;have:=(s.lt g d).1;by_cases o:j<vs.length
    ·rw[ξ o];intro J;have:=b j g J;omega
    ·rw[κ o,κ (by omega)];simp[Value.ownBlock]
   ·simp[Value.ownBlock]
theorem OGr.lt{w:World}{B:Nat}{v:Value}(h:OGr w B tO tI v vs L): ∀j g,(vs.getD j (.slice none 0 0)).ownBlock=some g->g<w.heap.size:=
 fun j g b=>((h.row j).lt g b).2
theorem OGr.put{w w':World}{B:Nat}{v:Value}{n:Nat}{row:Option Nat}(h:OGr w B tO tI v vs L)(s:tO≠tI)
  (N:v= .slice (some ⟨g,0,none⟩) n cap)(W:i<L.length)
  (r:Own w' B tI 1 vi l.length (l.map (Value.int .i64)))(R:w.grownBy w' row)(E:row=none\/row=(vs.getD i (.slice none 0 0)).ownBlock)
  (o:vi.ownBlock=row\/ ∀g,vi.ownBlock=some g->w.heap.size<=g):
  OGr (w'.setCell ⟨g,i,none⟩ vi) B tO tI v (vs.set i vi) (L.set i l):=by
 have V:vs.length=L.length:=by simpa using h.own.1
 have D:v.ownBlock=some g:=by rw[N];rfl
 have y: ∀x,row=some x->(vs.getD i (.slice none 0 0)).ownBlock=some x:=by
  intro x d;rcases E with G|G
  ·rw[G] at d;cases d
  ·rw[<-G];exact d
 have U:L.length=n:=by
  obtain⟨a,c,e⟩:=h.own.slice;rw[N] at e;cases e;rfl
 subst U;have q:Own w' B tO 1 v L.length vs:=h.own.kept R fun x d C=>(h.own.apart (h.row i) s) x d (y x C)
 have F:=q.stored N (j:=i) vi;refine⟨by simpa using F,fun j=>?_,fun a b x J=>?_⟩
 ·rw [q3R _ _ _ _ _ (by omega),q3R _ _ _ _ _ (by omega)]
  split
  ·refine r.setOther _ fun d=>?_
   exact(q.apart r s) g D d
  ·rename_i M
   refine Own.setOther ((h.row j).kept R fun x d C=>h.sep i j x (Ne.symm M) (y x C) d) _ fun d=>?_
   exact(h.own.apart (h.row j) s) g D d
 ·have fr: ∀j,j≠i-> ∀x,vi.ownBlock=some x->(vs.getD j (.slice none 0 0)).ownBlock≠some x:=by
   intro j S x d;rcases o with o|o
   ·exact h.sep i j x (Ne.symm S) (y x (o▸d))
   ·intro C
    have:=o x d;have:=h.lt j x C;omega
  rw[q3R _ _ _ _ _ (by omega),q3R _ _ _ _ _ (by omega)];by_cases I:a=i
  ·rw[ξ I,κ (by omega)]
   exact fr b (by omega) x
  ·rw [κ I]
   by_cases O:b=i
   ·rw[ξ O]
    intro d C;exact fr a I x C d
   ·rw[κ O];exact h.sep a b x J
theorem OGr.cell{w w':World}{B:Nat}{n:Nat}{row:Option Nat}(h:OGr w B tO tI (.slice ao n cap) vs L)(q:tO≠tI)(G:i<L.length)
  (y:w.grownBy w' row)(d:row=none\/row=(vs.getD i (.slice none 0 0)).ownBlock):
  ∃g,ao=some ⟨g,0,none⟩/\w.cell? ⟨g,i,none⟩=some (vs.getD i (.slice none 0 0))/\w'.cell? ⟨g,i,none⟩=some (vs.getD i (.slice none 0 0))/\w'.frozen? ⟨g,i,none⟩=false/\B<=g:=by
 have C:vs.length=L.length:=by simpa using h.own.1
 have b:Own w' B tO 1 (.slice ao n cap) L.length vs:=h.own.kept y fun x D r=>by
  rcases d with o|o
  ·rw[o] at r;cases r
  ·exact(h.own.apart (h.row i) q) x D (o▸r)
 obtain⟨g,c,e,h1,_,_⟩:=h.own.cell (j:=i) (by omega);obtain⟨F,E,e',h2,h3,h4⟩:=b.cell (j:=i) (by omega)
 cases e
 cases e';have s:vs.getD i (.slice none 0 0)=vs[i]:=by rw[δ,γ (by omega)];rfl
 exact⟨_,rfl,by rw[s];exact h1,by rw[s];exact h2,h3,h4⟩
theorem OGr.head{w:World}{B:Nat}{n:Nat}(h:OGr w B tO tI (.slice ao n cap) vs L)(y:i<L.length):
  ∃ g b d,ao=some ⟨g,0,none⟩/\w.cell? ⟨g,i,none⟩=some (.slice b (L.getD i []).length d)/\vs.getD i (.slice none 0 0)= .slice b (L.getD i []).length d/\
   Own w B tI 1 (.slice b (L.getD i []).length d) (L.getD i []).length ((L.getD i []).map (Value.int .i64))/\B<=g:=by
 have x:vs.length=L.length:=by simpa using h.own.1
 obtain⟨g,c,e,h1,_,r⟩:=h.own.cell (j:=i) (by omega)
 cases e;have s:vs.getD i (.slice none 0 0)=vs[i]:=by rw[δ,γ (by omega)];rfl
 have q:=h.row i;obtain⟨b,d,o⟩:=q.slice;refine⟨g,b,d,rfl,?_,o,by rw[<-o];exact q,r⟩;rw[h1,<-s,o]
theorem OGr.one(w:World){B:Nat}(o:B<=w.heap.size):OGr (w.alloc (.cells #[.slice none 0 0] tO)) B tO tI (.slice (some ⟨w.heap.size,0,none⟩) 1 1) [.slice none 0 0] [[]]:=by
 have e: ∀i:Nat,([.slice none 0 0]:List Value).getD i (.slice none 0 0)= .slice none 0 0:=by
  intro i;cases i<;>simp
 have d: ∀i:Nat,([[]]:List (List Int)).getD i []=[]:=by
  intro i;cases i<;>simp
 refine⟨Own.lit w #[.slice none 0 0] tO 1 1 o rfl (by omega),fun i=>?_,fun i j g _ b=>?_⟩
 ·rw[e,d];exact Own.nil _ _ _ _
 ·rw[e] at b;cases b
theorem OGr.cut{w:World}{B:Nat}{n:Nat}(h:OGr w B tO tI (.slice ao n cap) vs L)(s:L.length=n)(hm:m<=c)(x:m<=n)(hc:c<=cap):
  OGr w B tO tI (.slice ao m c) (vs.take m) (L.take m):=by
 subst s;have y:vs.length=L.length:=by simpa using h.own.1
 have e: ∀{α:Type} (l:List α) (d:α) (i:Nat),(l.take m).getD i d=if i<m then l.getD i d else d:=by
  intro α l d i;simp only[δ,List.getElem?_take]
  split<;>rfl
 have o:(L.take m).length=m:=by simp;omega
 refine⟨by rw[o];simpa using h.own.cut hm rfl x hc,fun i=>?_,fun i j g b=>?_⟩
 ·rw[e,e]
  split
  ·exact h.row i
  ·exact Own.nil _ _ _ _
 ·rw [e,e]
  by_cases q:i<m
  ·rw[ξ q]
   by_cases r:j<m
   ·rw[ξ r];exact h.sep i j g b
   ·rw[κ r];intro _;simp[Value.ownBlock]
  ·rw[κ q];intro C;simp[Value.ownBlock] at C
theorem OGr.grid{w:World}{B:Nat}{v:Value}(h:OGr w B tO tI v vs L): ∃ao cap,v= .slice ao L.length cap/\Grid w ao L.length cap L:=by
 have y:vs.length=L.length:=by simpa using h.own.1
 obtain⟨ao,cap,x,h1,h2,h3,h4⟩:=h.own.rd;refine⟨ao,cap,x,rfl,h1,h2,h3,fun i s=>?_⟩;obtain⟨b,off,e,hc⟩:=h4.at (j:=i) (by omega);have d:=h.row i;rw[δ,γ (by omega),δ,γ s] at d;obtain⟨q,r,he,o⟩:=q2d d;simp only[Option.getD_some] at he o;exact⟨b,off,q,r,e,by rw[hc,he],o⟩
def y4j(tO tI:TypeId)(w:World)(L:List (List Int))(e:Ending)(w':World):Prop:=
 ∃v vs,e= .returned v/\OGr w' w.heap.size tO tI v vs L/\Ext w w'
def y4P(tO tI:TypeId)(w:World)(r:List (List Int)×Int)(e:Ending)(w':World):Prop:=
 ∃v vs,e= .returned (.tuple #[v,.int .i64 r.2])/\OGr w' w.heap.size tO tI v vs r.1/\Ext w w'
def y3O :Value->Nat| .slice _ n _=>n|_=>0
def y4K(t:TypeId)(w:World)(xs:List Int)(e:Ending)(w':World):Prop:=
 ∃v,e= .returned v/\Own w' w.heap.size t 1 v xs.length (xs.map (Value.int .i64))/\Ext w w'
theorem q2A(L:List (List α))(k:Nat):(L.take k).flatten.length<=L.flatten.length:=by
 conv=>rhs;rw[<-List.take_append_drop k L,List.flatten_append,θ]
 omega
theorem q2l(L:List (List α))(k:Nat)(h:k<L.length):(L.take (k+1)).flatten=(L.take k).flatten++L.getD k []:=by
 rw[q0Z L [] k h];simp
structure ExtOf(w:World) where
 w':World
 h:Ext w w'
instance (w :World):Nonempty (ExtOf w):=⟨⟨w,Ext.refl w⟩⟩
theorem q0E{id:Nat}{a:Act}{w:World}{l:List Oper}(hm:P.follows .mixedOrders=true)(d:Region.lexB .any l.toArray=true)
  (h:wpQuiet P l.toArray (fun w'=> ∃x:ExtOf w,w'=x.w') (fun b=> ∀w',Ext w w'->Q .normal b w') l a):(Code.region id l.toArray true).wp P Q a w:=by
 refine wp_region_quiet (C:=fun w'=> ∃x:ExtOf w,w'=x.w') hm d ⟨⟨w.drew,(Ext.refl w).drew⟩,rfl⟩ ?_;have e:(fun b=> ∀w',Ext w w'->Q .normal b w')=(fun b=> ∀w',(∃x:ExtOf w,w'=x.w')->Q .normal b w'):=by
  funext b
  exact propext ⟨fun h w' ⟨x,q⟩=>q▸h _ x.h,fun h w' o=>h w' ⟨⟨w',o⟩,rfl⟩⟩
 rw[<-e]
 simpa using h
theorem Calls.quiet_ext{f:FuncId}{args:Array Value}{w:World}{x:ExtOf w}{v:Value}
  (h:Calls P f args x.w' fun e w'=>e= .returned v/\Ext x.w' w'):Calls P f args x.w' fun e b=>e= .returned v/\ ∃y:ExtOf w,b=y.w':=
 h.mono fun _ w' ⟨he,hm⟩=>⟨he,⟨w',x.h.trans hm⟩,rfl⟩
theorem q0D{w:World}{a:Addr}(hc:w.cell? a=some u)(x:ExtOf w):x.w'.cell? a=some u:=q0A x.h hc
end
section
def be :Nat->Nat->List UInt8
 |0,_=>[]
 |k+1,x=>UInt8.ofNat (x/256^k)::be k x
def q1W(l:List UInt8):Nat:=l.foldl (fun a b=>a*256+b.toNat) 0
theorem q0G(k x:Nat):(be k x).length=k:=by
 induction k with
 |zero=>rfl
 |succ k ih=>simp[be,ih]
theorem z6P(l:List UInt8): ∀a,l.foldl (fun a b=>a*256+b.toNat) a=a*256^l.length+q1W l:=by
 induction l with
 |nil=>intro a;simp[q1W]
 | cons b l ih=>
  intro a;have h2:q1W (b::l)=(0*256+b.toNat)*256^l.length+q1W l:=by
   unfold q1W;rw[List.foldl_cons];exact ih _
  rw[List.foldl_cons,ih,h2,χ,Nat.pow_succ,Nat.add_mul,Nat.zero_mul,Nat.zero_add,Nat.mul_assoc,Nat.mul_comm 256,Nat.add_assoc]
theorem q8n(b:UInt8)(l:List UInt8):q1W (b::l)=b.toNat*256^l.length+q1W l:=by
 unfold q1W;rw[List.foldl_cons,z6P];simp[q1W]
theorem z8u(l:List UInt8)(b:UInt8):q1W (l++[b])=q1W l*256+b.toNat:=by
 unfold q1W;rw[List.foldl_append];rfl
theorem q2R(l:List UInt8):q1W l<256^l.length:=by
 induction l with
 |nil=>simp[q1W]
 | cons b l ih=>
  rw[q8n,χ,Nat.pow_succ];have:=b.toNat_lt;have h:b.toNat*256^l.length<=255*256^l.length:=Nat.mul_le_mul_right _ (by omega);omega
theorem q5J(k x:Nat):q1W (be k x)=x % 256^k:=by
 induction k with
 |zero=>simp[be,q1W,Nat.mod_one]
 | succ k ih=>
  rw[be,q8n,q0G,ih,Nat.pow_succ,Nat.mod_mul];simp only[UInt8.toNat_ofNat'];rw[Nat.mul_comm (256^k),Nat.add_comm]
theorem q9y(l:List UInt8):be l.length (q1W l)=l:=by
 induction l with
 |nil=>rfl
 | cons b l ih=>
  have h:=q2R l;have x:0<256^l.length:=Nat.pow_pos (by decide);rw[χ,be,q8n];have o:(b.toNat*256^l.length+q1W l)/256^l.length=b.toNat:=by
   rw[Nat.add_comm,Nat.add_mul_div_right _ _ x,Nat.div_eq_of_lt h];omega
  have q : ∀k,k<=l.length->be k (b.toNat*256^l.length+q1W l)=be k (q1W l):=by
   intro k
   induction k with
   |zero=>intro _;rfl
   | succ k ih2=>
    intro y;rw[be,be,ih2 (by omega)]
    congr 1
    have r:256^l.length=256^k*(256*256^(l.length-k-1)):=by
     rw[<-Nat.mul_assoc,<-Nat.pow_succ,<-Nat.pow_add];congr 1;omega
    have d:0<256^k:=Nat.pow_pos (by decide);have s:(b.toNat*256^l.length+q1W l)/256^k=b.toNat*256^(l.length-k-1)*256+q1W l/256^k:=by
     rw [r,show b.toNat*(256^k*(256*256^(l.length-k-1)))+q1W l=q1W l+256^k*(b.toNat*256^(l.length-k-1)*256) from by
      rw[Nat.add_comm];congr 1;rw[Nat.mul_left_comm,Nat.mul_comm 256 (256^_),<-Nat.mul_assoc b.toNat],
      Nat.add_mul_div_left _ _ d,Nat.add_comm]
    rw[s];apply UInt8.toNat_inj.1;simp only[UInt8.toNat_ofNat'];omega
  rw[o,q _ (ι _),ih]
  congr 1
  apply UInt8.toNat_inj.1;simp
theorem y2N(n:Nat)(L:List Value)(z v:Value):(List.replicate (n+1) z++L).set n v=List.replicate n z++v::L:=by
 rw[List.replicate_succ',List.append_assoc,List.set_append];simp
theorem y0U(X k:Nat):((X:Int)/2^(8*k) % 256)=((UInt8.ofNat (X/256^k)).toNat:Int):=by
 have:(2:Nat)^(8*k)=256^k:=by rw[Nat.pow_mul]
 rw[UInt8.toNat_ofNat'];rw[<-this];simp
theorem z3o(Z:Int)(b:UInt8)(o:0<=Z)(h1:Z<72057594037927936):bits .or .u64 (Z*256) (IntKind.u64.wrap (b.toNat:Int))=Z*256+(b.toNat:Int):=by
 have q:=b.toNat_lt;have d:IntKind.u64.wrap (b.toNat:Int)=(b.toNat:Int):=by rw[Go.IntKind.wrap_u64];omega
 rw[d];exact bits_join .u64 64 (by decide) wraps_u64 8 _ _ (by omega) (by omega) (by omega) (by omega) (by omega) (by omega)
def crcPoly :BitVec 32:=0xedb88320#32
def z4F(s:BitVec 32):BitVec 32:=(s>>>1)^^^(crcPoly&&& -(s&&&1#32))
def q8F :Nat->BitVec 32->BitVec 32
 |0,s=>s
 |k+1,s=>z4F (q8F k s)
def q4V(s:BitVec 32)(c:UInt8):BitVec 32:=q8F 8 (s^^^BitVec.ofNat 32 c.toNat)
def q1q(l:List UInt8):BitVec 32:= ~~~(l.foldl q4V (~~~0#32))
theorem q4f(s:BitVec 32):BitVec.ofInt 32 (s.toNat:Int)=s:=by
 rw[BitVec.ofInt_natCast];simp
theorem z9A(s:BitVec 32):IntKind.u32.wrap (s.toNat:Int)=(s.toNat:Int):=by
 have:=s.isLt;rw[IntKind.wrap_u32];omega
theorem q5h(s t:BitVec 32):bits .xor .u32 (s.toNat:Int) (t.toNat:Int)=((s^^^t).toNat:Int):=by
 show IntKind.u32.wrap ((BitVec.ofInt 32 (s.toNat:Int)^^^BitVec.ofInt 32 (t.toNat:Int)).toNat:Int)=_;rw[q4f,q4f,z9A]
theorem q7v(s t:BitVec 32):bits .and .u32 (s.toNat:Int) (t.toNat:Int)=((s&&&t).toNat:Int):=by
 show IntKind.u32.wrap ((BitVec.ofInt 32 (s.toNat:Int)&&&BitVec.ofInt 32 (t.toNat:Int)).toNat:Int)=_;rw[q4f,q4f,z9A]
theorem y3u(s:BitVec 32):((s.toNat:Nat):Int)/(2:Int)=((s>>>1).toNat:Int):=by
 rw[BitVec.toNat_ushiftRight,Nat.shiftRight_eq_div_pow];simp
theorem y3c(s:BitVec 32): -(s.toNat:Int) % 4294967296=((-s).toNat:Int):=by
 have:=s.isLt;rw[BitVec.toNat_neg];omega
theorem y3h(s:BitVec 32):bits .xor .u32 IntKind.u32.max (s.toNat:Int)=((~~~s).toNat:Int):=by
 have h:IntKind.u32.max=((BitVec.allOnes 32).toNat:Int):=by decide
 rw[h,q5h]
 congr 2
theorem y2U(s:BitVec 32):bits .xor .u32 ((s.toNat:Int)/2) (bits .and .u32 3988292384 (-bits .and .u32 (s.toNat:Int) 1 % 4294967296))=((z4F s).toNat:Int):=by
 have h1:(1:Int)=((1#32).toNat:Int):=rfl;have h2:(3988292384:Int)=(crcPoly.toNat:Int):=rfl;rw[h1,q7v,y3c,h2,q7v,y3u,q5h]
 rfl
theorem y1S(c:UInt8):((BitVec.ofNat 32 c.toNat).toNat:Int)=(c.toNat:Int):=by
 have:=c.toNat_lt;rw[BitVec.toNat_ofNat];omega
def q1N(L:List (List Int)):Nat->Nat
 |0=>0
 |n+1=>if L.getD n []=[] then q1N L n else n+1
def q0c(L:List (List Int)):List (List Int):=L.take (q1N L L.length)
theorem q3z(L:List (List Int))(n:Nat):q1N L n<=n:=by
 induction n with
 |zero=>exact ι _
 |succ n ih=>rw[q1N];split<;>omega
theorem q5y(L:List (List Int))(n:Nat)(h:L.getD n []=[]):q1N L (n+1)=q1N L n:=by rw[q1N,ξ h]
theorem q4Q(L:List (List Int))(n:Nat)(h:L.getD n []≠[]):q1N L (n+1)=n+1:=by rw[q1N,κ h]
theorem q8m(L M:List (List Int))(n:Nat)(h: ∀i,i<n->L.getD i []=M.getD i []):q1N L n=q1N M n:=by
 induction n with
 |zero=>rfl
 | succ n ih=>
  rw[q1N,q1N,h n (by omega),ih (fun i b=>h i (by omega))]
theorem q3y(L:List α)(d:α)(m i:Nat)(h:i<m):(L.take m).getD i d=L.getD i d:=by
 simp only[δ,List.getElem?_take,h,if_true]
theorem q5i(L:List α)(d:α)(i:Nat)(h:L.length<=i):L.getD i d=d:=by
 rw[δ,List.getElem?_eq_none h];rfl
def q7C(L:List (List Int)):List (List Int):=L++List.replicate (5-L.length) []
theorem q5K(L:List (List Int))(h:L.length<=5):(q7C L).length=5:=by simp[q7C];omega
theorem q9t(L:List (List Int))(i:Nat):(q7C L).getD i []=L.getD i []:=by
 unfold q7C;simp only[δ,List.getElem?_append]
 split
 ·rfl
 ·rw[List.getElem?_eq_none (l:=L) (by omega)]
  rcases Nat.lt_or_ge (i-L.length) (List.replicate (5-L.length) ([]:List Int)).length with h|h
  ·rw[γ h];simp
  ·rw[List.getElem?_eq_none h]
theorem q9q(L:List (List Int))(n k:Nat)(h: ∀i,n<=i->i<n+k->L.getD i []=[]):q1N L (n+k)=q1N L n:=by
 induction k with
 |zero=>rfl
 | succ k ih=>
  rw[<-Nat.add_assoc,q5y L (n+k) (h _ (by omega) (by omega)),ih (fun i h1 h2=>h i h1 (by omega))]
theorem z4O(L M:List α)(d:α)(b:L.length=M.length)(h: ∀i,i<L.length->L.getD i d=M.getD i d):L=M:=by
 apply List.ext_getElem b;intro i h1 h2;have:=h i h1;rw[δ,δ,γ h1,γ h2] at this;exact this
theorem z3l(L M:List (List Int))(h: ∀i,L.getD i []=M.getD i []):q0c L=q0c M:=by
 have r:q1N L L.length=q1N M M.length:=by
  rcases Nat.le_total L.length M.length with b|b
  ·obtain⟨k,d⟩:=Nat.exists_eq_add_of_le b
   rw[d,<-q8m L M _ (fun i _=>h i),q9q L L.length k (fun i h1 _=>q5i L [] i h1)]
  ·obtain⟨k,d⟩:=Nat.exists_eq_add_of_le b
   rw[d,q8m L M _ (fun i _=>h i),q9q M M.length k (fun i h1 _=>q5i M [] i h1)]
 unfold q0c;have q:(L.take (q1N L L.length)).length=q1N L L.length:=by have:=q3z L L.length;simp;omega
 have s:(M.take (q1N M M.length)).length=q1N M M.length:=by have:=q3z M M.length;simp;omega
 refine z4O _ _ [] (by rw[q,s,r]) fun i o=>?_
 rw[q] at o;rw[q3y _ _ _ _ o,q3y _ _ _ _ (by omega),h]
theorem q2p(L:List (List Int))(i:Nat):(q0c L).getD i []=L.getD i []:=by
 unfold q0c;rcases Nat.lt_or_ge i (q1N L L.length) with h|h
 ·exact q3y _ _ _ _ h
 ·rw [q5i _ _ _ (by simp;omega)]
  have : ∀ n,q1N L n<=i->i<n->L.getD i []=[]:=by
   intro n
   induction n with
   |zero=>intro _ h2;omega
   | succ n ih=>
    intro h1 h2;rw[q1N] at h1
    split at h1
    ·rename_i he
     rcases Nat.lt_or_ge i n with h3|h3
     ·exact ih h1 h3
     ·have:i=n:=by omega
      subst this;exact he
    ·omega
  rcases Nat.lt_or_ge i L.length with h2|h2
  ·exact(this _ h h2).symm
  ·exact(q5i _ _ _ h2).symm
theorem q2X(L:List (List Int)):(q0c L).length=q1N L L.length:=by have:=q3z L L.length;simp[q0c];omega
def q1E(L:List (List Int)):Bool:=decide (L.length<=5/\L.flatten.length<=40/\(∀x∈L.flatten,0<=x)/\L.flatten.Nodup)
theorem q4b(xs:List Int)(k:Nat)(h:k<xs.length):xs.getD k 0∈xs:=by
 rw[δ,γ h];exact List.getElem_mem h
theorem z3r(L:List (List Int))(h:5<L.length):q1E L=false:=by unfold q1E;rw[decide_eq_false_iff_not];rintro⟨h1,_⟩;omega
theorem z2Y(L:List (List Int))(h:40<L.flatten.length):q1E L=false:=by unfold q1E;rw[decide_eq_false_iff_not];rintro⟨_,h1,_⟩;omega
theorem z6T(L:List (List Int))(k:Nat)(b:k<L.flatten.length)(h:L.flatten.getD k 0<0):q1E L=false:=by
 unfold q1E;rw[decide_eq_false_iff_not];rintro⟨_,_,h1,_⟩;have:=h1 _ (q4b _ k b);omega
theorem z6S(L:List (List Int))(k:Nat)(b:k<L.flatten.length)(h:L.flatten.getD k 0∈L.flatten.take k):q1E L=false:=by
 unfold q1E;rw[decide_eq_false_iff_not];rintro⟨_,_,_,h1⟩;have h2:=h1.sublist (List.take_sublist (k+1) _);rw[q0Z _ 0 k b] at h2;have:=(List.nodup_append.1 h2).2.2 _ h _ (List.mem_singleton.2 rfl);exact this rfl
theorem q8t(L:List (List Int))(h1:L.length<=5)(h2:L.flatten.length<=40)(h3: ∀x∈L.flatten,0<=x)(h4:L.flatten.Nodup):q1E L=true:=by
 unfold q1E;exact ζ ⟨h1,h2,h3,h4⟩
theorem q7Z(xs:List Int)(k:Nat)(d:k<xs.length)(b: ∀x∈xs.take k,0<=x)(h1:¬xs.getD k 0<0): ∀x∈xs.take (k+1),0<=x:=by
 rw[q0Z _ 0 k d];intro x o;rcases List.mem_append.1 o with h|h
 ·exact b x h
 ·rw[List.mem_singleton.1 h];omega
theorem q8a(xs:List Int)(k:Nat)(r:k<xs.length)(d:(xs.take k).Nodup)(h1:xs.getD k 0∉xs.take k):(xs.take (k+1)).Nodup:=by
 rw[q0Z _ 0 k r,List.nodup_append];refine⟨d,by simp,fun a o b q=>?_⟩;rw[List.mem_singleton.1 q];intro e;exact h1 (e▸o)
theorem z0b(xs:List Int)(k:Nat)(b:k<xs.length)(x:Int):(x∈xs.take (k+1))↔(x∈xs.take k\/x=xs.getD k 0):=by
 rw[q0Z _ 0 k b,List.mem_append,Γ]
theorem q5g(L:List (List Int))(i:Nat):(L.getD i []).length<=L.flatten.length:=by
 rcases Nat.lt_or_ge i L.length with h|h
 ·have h1:=q2l L i h
  have h2:=q2A L (i+1);rw[h1,θ] at h2;omega
 ·rw[q5i _ _ _ h];simp
def q5X(L:List (List Int))(x:Int):List (List Int):=(if q0c L=[] then [[]] else q0c L).set 0 (L.getD 0 []++[x])
def addS(L:List (List Int))(x:Int):List (List Int)×Int:=
 if q1E L=false\/x<0\/x∈L.flatten then([],2) else if 40<=L.flatten.length then([],60) else(q5X L x,0)
theorem z3w(L:List (List Int))(x:Int)(h:q1E L=false\/x<0\/x∈L.flatten):addS L x=([],2):=by rw[addS,ξ h]
theorem z1L(L:List (List Int))(x:Int)(h:¬(q1E L=false\/x<0\/x∈L.flatten))(h2:40<=L.flatten.length):addS L x=([],60):=by rw[addS,κ h,ξ h2]
theorem z6b(L:List (List Int))(x:Int)(h:¬(q1E L=false\/x<0\/x∈L.flatten))(h2:¬40<=L.flatten.length):addS L x=(q5X L x,0):=by rw[addS,κ h,κ h2]
theorem z3v(L :List (List Int))(x:Int)(h:L.length<=5):q0c ((q7C L).set 0 ((q7C L).getD 0 []++[x]))=q5X L x:=by
 have E:=q5K L h;have r:(L.getD 0 []++[x])≠[]:=by simp
 have s : q0c (q5X L x)=q5X L x:=by
  unfold q0c;have: ∀n,n<=(q5X L x).length->(∀i,n<=i->i<(q5X L x).length->False)->n=(q5X L x).length:=by
   intro n h1 h2;rcases Nat.lt_or_ge n (q5X L x).length with h3|h3
   ·exact(h2 n (ι _) h3).elim
   ·omega
  have d :q1N (q5X L x) (q5X L x).length=(q5X L x).length:=by
   have D:(q5X L x).length=max 1 (q0c L).length:=by
    unfold q5X;split
    ·rename_i he;simp[he]
    ·rename_i he
     have:=List.length_pos_iff.2 he;simp;omega
   rcases Nat.lt_or_ge 1 (q0c L).length with h1|h1
   ·obtain⟨m,hm⟩: ∃m,(q0c L).length=m+1:=⟨(q0c L).length-1,by omega⟩
    have:(q5X L x).length=m+1:=by omega
    rw[this,q4Q];have he:(q5X L x).getD m []=L.getD m []:=by
     unfold q5X;have b:q0c L≠[]:=by intro o;rw[o] at hm;simp at hm
     rw[κ b,q3R _ _ _ _ _ (by omega),κ (by omega),q2p]
    rw[he];intro o;rw[q2X] at hm;have : ∀n,q1N L n=m+1->L.getD m []=[]->False:=by
     intro n
     induction n with
     |zero=>intro h3;simp[q1N] at h3
     | succ n ih=>
      intro h3 h4;rw[q1N] at h3
      split at h3
      ·exact ih h3 h4
      ·rename_i y
       have:n=m:=by omega
       subst this;exact y h4
    exact this _ hm o
   ·have :(q5X L x).length=0+1:=by omega
    rw[this,q4Q];have he:(q5X L x).getD 0 []=L.getD 0 []++[x]:=by
     unfold q5X
     split
     ·rfl
     ·rename_i b
      have:=List.length_pos_iff.2 b;rw[q3R _ _ _ _ _ (by omega),ξ rfl]
    rw[he];exact r
  rw[d,List.take_length]
 rw[<-s];refine z3l _ _ fun i=>?_
 rw[q3R _ _ _ _ _ (by omega),q9t,q9t];unfold q5X
 split
 ·rename_i q
  subst q
  split
  ·rfl
  ·rename_i b
   have:=List.length_pos_iff.2 b;rw[q3R _ _ _ _ _ (by omega),ξ rfl]
 ·rename_i q
  split
  ·rename_i b
   have C:L.getD i []=[]:=by rw[<-q2p,b];rfl
   rw[C,q5i _ _ _ (by simp;omega)]
  ·rename_i b
   have:=List.length_pos_iff.2 b;rw[q3R _ _ _ _ _ (by omega),κ q,q2p]
theorem z8p(T:List (List Int))(h:T=[]\/T.getD (T.length-1) []≠[]):q0c T=T:=by
 rcases h with rfl|h
 ·rfl
 ·have d:0<T.length:=by
   rcases Nat.eq_zero_or_pos T.length with b|b
   ·have:T=[]:=List.eq_nil_of_length_eq_zero b
    subst this;simp at h
   ·exact b
  obtain⟨m,hm⟩: ∃m,T.length=m+1:=⟨T.length-1,by omega⟩
  unfold q0c;rw[hm] at h⊢;rw[q4Q T m (by simpa using h),<-hm,List.take_length]
theorem z6L(L:List (List Int)): ∀n m,q1N L n=m+1->L.getD m []≠[]:=by
 intro n
 induction n with
 |zero=>intro m h;simp[q1N] at h
 | succ n ih=>
  intro m h;rw[q1N] at h
  split at h
  ·exact ih m h
  ·rename_i b
   have:n=m:=by omega
   subst this;exact b
theorem z6K(L:List (List Int))(m:Nat)(h:(q0c L).length=m+1):(q0c L).getD m []≠[]:=by
 rw[q2p];rw[q2X] at h;exact z6L L _ m h
theorem z9t(L:List (List Int)): ∀(i:Nat) (r:List Int),i<L.length->((L.set i r).flatten++L.getD i []).Perm (L.flatten++r):=by
 induction L with
 |nil=>intro i r h;simp at h
 | cons a T ih=>
  intro i r h
  cases i with
  | zero=>
   rw[List.perm_iff_count];intro x;simp only[ψ,List.flatten_cons,List.getD_cons_zero,List.count_append];omega
  | succ i=>
   have:=ih i r (by simpa using h);rw[List.perm_iff_count] at this⊢;intro x;have:=this x;simp only[ω,List.flatten_cons,List.getD_cons_succ,List.count_append] at this⊢;omega
theorem q8O(L:List (List Int))(k:Nat):(L++List.replicate k []).flatten=L.flatten:=by simp
theorem z0Q(L M:List (List Int))(b:L.length<=M.length)(h: ∀i,L.getD i []=M.getD i []):L.flatten=M.flatten:=by
 rw[<-q8O L (M.length-L.length)]
 congr 1
 refine z4O _ _ [] (by simp;omega) fun i d=>?_
 rw[<-h i];simp only[δ,List.getElem?_append]
 split
 ·rfl
 ·rw[<-δ,List.getElem?_eq_none (l:=L) (by omega)]
  simp only[δ,List.getElem?_replicate]
  split<;>rfl
theorem q1h(L:List (List Int)):(q0c L).flatten=L.flatten:=
 z0Q _ _ (by have:=q3z L L.length;rw[q2X];omega) (q2p L)
theorem z1C(L:List (List Int)):(q7C L).flatten=L.flatten:=q8O _ _
theorem q6w{a b c:List Int}(h:(a++c).Perm (b++c)):a.Perm b:=by
 rw[List.perm_iff_count] at h⊢;intro x;have:=h x;simp only[List.count_append] at this;omega
theorem z1K(L:List (List Int))(x:Int)(h:L.length<=5):(q5X L x).flatten.Perm (L.flatten++[x]):=by
 rw[<-z3v L x h,q1h];have b:=q5K L h;have h1:=z9t (q7C L) 0 ((q7C L).getD 0 []++[x]) (by omega);rw[z1C] at h1;refine q6w (h1.trans ?_);rw[List.perm_iff_count];intro y;simp only[List.count_append];omega
def GrowI(L:List (List Int))(i:Nat):Prop:=q1E L=true/\ ∀x∈L.flatten,0<=x/\x<i
theorem q4A(h:q1E L=true):L.length<=5/\L.flatten.length<=40/\(∀x∈L.flatten,0<=x)/\L.flatten.Nodup:=by
 unfold q1E at h;exact of_decide_eq_true h
theorem GrowI.notMem(h:GrowI L i):(i:Int)∉L.flatten:=fun b=>by have:=h.2 _ b;omega
theorem z2g(L:List (List Int))(x:Int)(h:L.length<=5):(q5X L x).length<=5:=by
 rw[<-z3v L x h,q2X];have h1:=q3z ((q7C L).set 0 ((q7C L).getD 0 []++[x])) ((q7C L).set 0 ((q7C L).getD 0 []++[x])).length;have h2:=q5K L h;simp only[List.length_set] at h1⊢;omega
theorem GrowI.add(h:GrowI L i)(r:L.flatten.length<40):GrowI (q5X L i) (i+1)/\(q5X L i).flatten.length=L.flatten.length+1:=by
 obtain⟨h1,h2,h3,h4⟩:=q4A h.1;have o:=z1K L i h1;have q:=o.length_eq;simp only[θ,χ,List.length_nil] at q;refine⟨⟨q8t _ (z2g L i h1) (by omega) ?_ ?_,?_⟩,q⟩
 ·intro x d
  rcases List.mem_append.1 (o.mem_iff.1 d) with d|d
  ·exact h3 x d
  ·rw[List.mem_singleton.1 d];omega
 ·rw[o.nodup_iff,List.nodup_append]
  refine⟨h4,by simp,fun a s b y=>?_⟩;rw[List.mem_singleton.1 y];intro e;exact h.notMem (e▸s)
 ·intro x d
  rcases List.mem_append.1 (o.mem_iff.1 d) with d|d
  ·have:=h.2 x d;omega
  ·rw[List.mem_singleton.1 d];omega
theorem GrowI.addS(h:GrowI L i):addS L i=if 40<=L.flatten.length then([],60) else(q5X L i,0):=by
 have:¬(q1E L=false\/(i:Int)<0\/(i:Int)∈L.flatten):=by
  rintro(h1|h1|h1)
  ·rw[h.1] at h1;cases h1
  ·omega
  ·exact h.notMem h1
 unfold Go.Proofs.YtfiibpgoplcgkaaGreatDoor.addS;rw[κ this]
end
end Go.Proofs.YtfiibpgoplcgkaaGreatDoor
