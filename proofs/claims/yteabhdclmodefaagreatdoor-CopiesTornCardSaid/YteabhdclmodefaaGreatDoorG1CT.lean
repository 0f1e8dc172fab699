/- Small laws of no program. -/
import Derived.Test.YteabhdclmodefaaGreatDoorG0CT
import Derived.WalkKit
import Derived.WalkSmall
import Derived.Lib.Hide
import Derived.Deep.QuietTactic
import Derived.BigQuiet
import Derived.Deep.DeepFit
import Derived.Deep.DeepCutAuto
import Derived.Laws.AppendOwnNone
import Derived.Lib.AppendZeros
import Derived.Lib.EndianBits
set_option linter.unusedVariables false
set_option linter.unusedSimpArgs false
set_option maxRecDepth 100000
set_option maxHeartbeats 200000
namespace Go.Proofs.YteabhdclmodefaaGreatDoor
variable {a:World}{c:Int}{u v' vi:Value}{ao:Option Addr}{j cap i g m:Nat}{xs l:List Int}{L:List (List Int)}{α:Type}{P:Program}{Q:Exit->Act->World->Prop}{tO tI t:TypeId}{vs:List Value}{r:List (List Int)×Int}
section
open Go.RowKit
abbrev Ext(w w':World):Prop:=Below w.heap.size w w'
theorem Ext.trans{b c:World}(h:Ext a b)(k:Ext b c):Ext a c:=Below.trans h (Below.mono k h.size)
theorem Ext.refl(w:World):Ext w w:=Below.refl _ _
theorem Ext.drew{w:World}(h:Ext a w):Ext a w.drew:=Below.drew h
theorem Ext.drewN{w:World}(h:Ext a w)(n:Nat):Ext a (w.drewN n):=below_drewN h n
theorem Ext.alloc{w:World}(h:Ext a w)(o:Obj):Ext a (w.alloc o):=Below.alloc h h.size o
theorem q0B(w:World)(o:Obj):Ext w (w.alloc o):=(Ext.refl w).alloc o
theorem q6f(w:World)(o p:Obj):Ext w ((w.alloc o).alloc p):=(q0B w o).alloc p
theorem z0L(w:World)(o p q:Obj):Ext w (((w.alloc o).alloc p).alloc q):=(q6f w o p).alloc q
def Rd(w:World)(ao:Option Addr)(cs:List Value):Prop:=
 ∀j u,cs[j]? =some u-> ∃b off,ao=some ⟨b,off,none⟩/\w.cell? ⟨b,off+j,none⟩=some u
theorem Rd.nil(w:World)(ao:Option Addr):Rd w ao []:=fun j u h=>by simp at h
theorem q0A{w w':World}(h:Ext w w'){a:Addr}(hc:w.cell? a=some u):w'.cell? a=some u:=
 (h.cell (World.block_lt_of_cell? (h:=hc))).trans hc
theorem Rd.ext{w w':World}{cs:List Value}(h:Rd w ao cs)(k:Ext w w'):Rd w' ao cs:=
 fun j u d=>let ⟨b,off,e,hc⟩:=h j u d;⟨b,off,e,q0A k hc⟩
theorem Rd.at{w:World}{cs:List Value}(h:Rd w ao cs)(d:j<cs.length):
  ∃b off,ao=some ⟨b,off,none⟩/\w.cell? ⟨b,off+j,none⟩=some cs[j]:=h j _ (γ d)
theorem Rd.take{w:World}{cs:List Value}(h:Rd w ao cs)(n:Nat):Rd w ao (cs.take n):=by
 intro j u b;refine h j u ?_;rw[List.getElem?_take] at b
 split at b
 ·exact b
 ·cases b
theorem Rd.drop{w:World}{b off:Nat}{cs:List Value}(h:Rd w (some ⟨b,off,none⟩) cs)(n:Nat):Rd w (some ⟨b,off+n,none⟩) (cs.drop n):=by
 intro j u d;rw[List.getElem?_drop] at d;obtain⟨q,o,e,hc⟩:=h _ u d
 cases e;exact⟨b,off+n,rfl,by rw[Nat.add_assoc];exact hc⟩
structure Ints(w:World)(ao:Option Addr)(n cap:Nat)(xs:List Int):Prop where
 len:xs.length=n
 fits:n<=cap
 bound:cap<=9223372036854775807
 nil:ao=none->cap=0
 rd:Rd w ao (xs.map (Value.int .i64))
theorem Ints.ext{w w':World}{n:Nat}(h:Ints w ao n cap xs)(k:Ext w w'):Ints w' ao n cap xs:=
 ⟨h.len,h.fits,h.bound,h.nil,h.rd.ext k⟩
theorem Ints.at{w:World}{n:Nat}(h:Ints w ao n cap xs)(d:j<n):
  ∃b off,ao=some ⟨b,off,none⟩/\w.cell? ⟨b,off+j,none⟩=some (.int .i64 (xs.getD j 0)):=by
 have o:=h.len;obtain⟨b,off,e,hc⟩:=h.rd.at (j:=j) (by simp;omega);refine⟨b,off,e,?_⟩;rw[hc,List.getElem_map,δ,γ (by omega)]
 rfl
structure Grid(w:World)(ao:Option Addr)(n cap:Nat)(L:List (List Int)):Prop where
 len:L.length=n
 fits:n<=cap
 bound:cap<=9223372036854775807
 nil:ao=none->cap=0
 rd: ∀i (h:i<L.length),∃b off ai ci,ao=some ⟨b,off,none⟩/\w.cell? ⟨b,off+i,none⟩=some (.slice ai L[i].length ci)/\Ints w ai L[i].length ci L[i]
theorem Grid.ext{w w':World}{n:Nat}(h:Grid w ao n cap L)(k:Ext w w'):Grid w' ao n cap L:=
 ⟨h.len,h.fits,h.bound,h.nil,fun i d=>let ⟨b,off,ai,ci,e,hc,hr⟩:=h.rd i d;⟨b,off,ai,ci,e,q0A k hc,hr.ext k⟩⟩
theorem Grid.at{w:World}{n:Nat}(h:Grid w ao n cap L)(y:i<n):
  ∃b off d q o,ao=some ⟨b,off,none⟩/\w.cell? ⟨b,off+i,none⟩=some (.slice d q o)/\Ints w d q o (L.getD i []):=by
 have C:=h.len;obtain⟨b,off,d,o,e,hc,x⟩:=h.rd i (by omega);have s:L.getD i []=L[i]:=by rw[δ,γ (by omega)];rfl
 exact⟨b,off,d,_,o,e,hc,by rw[s];exact x⟩
theorem Grid.empty(w:World):Grid w none 0 0 []:=⟨rfl,ι _,by omega,fun _=>rfl,fun i h=>by simp at h⟩
theorem q0W(xs:List α)(d:α)(k:Nat)(h:k<xs.length):xs.take (k+1)=xs.take k++[xs.getD k d]:=by
 rw[List.take_succ_eq_append_getElem h,δ,γ h];rfl
theorem rb{b c:Bool}(h:c=b):Ending.returned (.bool b)=Ending.returned (.bool c):=by rw[h]
theorem rn{k:IntKind}{b:Int}(h:c=b):Ending.returned (.int k b)=Ending.returned (.int k c):=by rw[h]
def Own(w:World)(B:Nat)(e:TypeId)(size:Nat)(v:Value)(n:Nat)(cs:List Value):Prop:=
 cs.length=n*size/\
 ((v= .slice none 0 0/\n=0)\/
  ∃g cap cur,v= .slice (some ⟨g,0,none⟩) n cap/\B<=g/\w.heap[g]? =some (.cells cur e (0,0))/\n<=cap/\cap<=9223372036854775807/\cap*size<=cur.size/\cur.toList.take (n*size)=cs)
section own
variable {w w':World}{B B':Nat}{e:TypeId}{size:Nat}{v:Value}{n:Nat}{cs:List Value}
theorem Own.of_row(h:w.ownsRow B e size v n cs):Own w B e size v n cs:=by
 refine⟨h.1,?_⟩;rcases h.2 with h2|⟨g,cap,b,rfl,q,s,x,hm,d,o⟩
 ·exact .inl h2
 ·exact .inr ⟨g,cap,b,rfl,q,s,x,hm,Nat.le_of_eq d.symm,o⟩
theorem Own.nil(w:World)(B:Nat)(e:TypeId)(size:Nat):Own w B e size (.slice none 0 0) 0 []:=⟨by simp,.inl ⟨rfl,rfl⟩⟩
theorem Own.rd(h:Own w B e size v n cs):
  ∃ao cap,v= .slice ao n cap/\n<=cap/\cap<=9223372036854775807/\(ao=none->cap=0)/\Rd w ao cs:=by
 have C:=h.1;rcases h.2 with⟨rfl,rfl⟩|⟨g,cap,d,rfl,E,x,D,hm,s,q⟩
 ·obtain rfl:cs=[]:=List.eq_nil_of_length_eq_zero (by simpa using C)
  exact⟨none,0,rfl,ι _,by omega,fun _=>rfl,Rd.nil _ _⟩
 ·refine⟨some ⟨g,0,none⟩,cap,rfl,D,hm,(fun y=>by cases y),?_⟩
  intro j u b;refine⟨g,0,rfl,?_⟩;rw[<-q] at b;have o:d.toList[j]? =some u:=by
   rw[List.getElem?_take] at b
   split at b
   ·exact b
   ·cases b
  simp only[World.cell?,x,Nat.zero_add]
  simpa using o
theorem Own.slice(h:Own w B e size v n cs): ∃ao cap,v= .slice ao n cap:=by
 obtain⟨ao,cap,e,_⟩:=h.rd;exact⟨ao,cap,e⟩
theorem Own.lt(h:Own w B e size v n cs): ∀k,v.ownBlock=some k->B<=k/\k<w.heap.size:=by
 intro k b;rcases h.2 with⟨rfl,_⟩|⟨g,cap,d,rfl,o,q,_⟩
 ·cases b
 ·cases b
  exact⟨o,(Array.getElem?_eq_some_iff.1 q).1⟩
theorem Own.base(h:Own w B e size v n cs)(k:B'<=B):Own w B' e size v n cs:=by
 refine⟨h.1,?_⟩;rcases h.2 with h2|⟨g,cap,b,rfl,d,r⟩
 ·exact Or.inl h2
 ·exact Or.inr ⟨g,cap,b,rfl,Ω k d,r⟩
theorem Own.same(h:Own w B e size v n cs)(k: ∀g,v.ownBlock=some g->w'.heap[g]? =w.heap[g]?):Own w' B e size v n cs:=by
 refine⟨h.1,?_⟩;rcases h.2 with h2|⟨g,cap,b,rfl,d,o,r⟩
 ·exact Or.inl h2
 ·exact Or.inr ⟨g,cap,b,rfl,d,by rw[k g rfl];exact o,r⟩
theorem Own.ext(h:Own w B e size v n cs)(k:Ext w w'):Own w' B e size v n cs:=h.same fun g b=>k.block g (h.lt g b).2
theorem Own.kept{row:Option Nat}(h:Own w B e size v n cs)(o:w.grownBy w' row)(b: ∀g,v.ownBlock=some g->row≠some g):Own w' B e size v n cs:=
 h.same fun g d=>o.block g (h.lt g d).2 fun e=>b g d e.symm
theorem Own.setOther(h:Own w B e size v n cs){a:Addr}(u:Value)(b:v.ownBlock≠some a.block):Own (w.setCell a u) B e size v n cs:=
 h.same fun _ d=>Below.heap_setCell _ _ _ _ fun e=>b (e▸d)
theorem Own.etype(h:Own w B e size v n cs)(d:v.ownBlock=some g): ∃b,w.heap[g]? =some (.cells b e (0,0)):=by
 rcases h.2 with⟨rfl,_⟩|⟨q,cap,b,rfl,s,o,_⟩
 ·cases d
 ·cases d
  exact⟨b,o⟩
theorem Own.apart{e':TypeId}{b:Nat}{C:Nat}{o:List Value}(h:Own w B e size v n cs)(x:Own w B' e' b v' C o)(s:e≠e'):
  ∀g,v.ownBlock=some g->v'.ownBlock≠some g:=by
 intro g y q;obtain⟨c,hc⟩:=h.etype y;obtain⟨D,d⟩:=x.etype q;rw[hc] at d
 cases d;exact s rfl
theorem Own.lit(w:World)(c:Array Value)(e:TypeId)(size k:Nat)(b:B<=w.heap.size)(o:c.size=k*size)(d:k<=9223372036854775807):
  Own (w.alloc (.cells c e)) B e size (.slice (some ⟨w.heap.size,0,none⟩) k k) k c.toList:=by
 refine⟨by simpa using o,.inr ⟨w.heap.size,k,c,rfl,b,heap_alloc_new _ _,ι _,d,by omega,?_⟩⟩;rw[Δ (by simp;omega)]
theorem Own.cut(h:Own w B e size v n cs){c:Nat}(hm:m<=c)(d:v= .slice ao n cap)(C:m<=n)(hc:c<=cap):Own w B e size (.slice ao m c) m (cs.take (m*size)):=by
 subst d;have y:=h.1;have b:=Nat.mul_le_mul_right size C;refine⟨by rw[Θ,y,Nat.min_eq_left b],?_⟩;rcases h.2 with⟨d,rfl⟩|⟨g,cap,o,d,q,x,h1,h2,h3,h4⟩
 ·cases d
  have:m=0:=by omega
  have:c=0:=by omega
  subst m c;exact .inl ⟨rfl,rfl⟩
 ·cases d
  have s:=Nat.mul_le_mul_right size hc;refine .inr ⟨g,c,o,rfl,q,x,hm,by omega,by omega,?_⟩;rw[<-h4,List.take_take,Nat.min_eq_left b]
theorem Own.cell(h:Own w B e size v n cs)(C:j<cs.length): ∃g cap,v= .slice (some ⟨g,0,none⟩) n cap/\w.cell? ⟨g,j,none⟩=some cs[j]/\w.frozen? ⟨g,j,none⟩=false/\B<=g:=by
 have D:=h.1;obtain⟨ao,cap,o,h1,h2,h3,h4⟩:=h.rd;obtain⟨b,off,he,hc⟩:=h4.at C;rcases h.2 with⟨rfl,rfl⟩|⟨g,q,s,d,x,y,_⟩
 ·cases o;cases he
 ·rw[d] at o
  cases o
  cases he;refine⟨_,_,d,by simpa using hc,by simp[World.frozen?,y],x⟩
theorem Own.cellE(h:Own w B e 1 v n cs)(b:j<n): ∃g cap u,v= .slice (some ⟨g,0,none⟩) n cap/\w.cell? ⟨g,j,none⟩=some u/\w.frozen? ⟨g,j,none⟩=false/\B<=g:=by
 have d:=h.1;obtain⟨g,cap,h1,h2,h3,h4⟩:=h.cell (j:=j) (by omega);exact⟨g,cap,_,h1,h2,h3,h4⟩
theorem Own.stored(h:Own w B e 1 v n cs)(o:v= .slice (some ⟨g,0,none⟩) n cap)(u:Value):Own (w.setCell ⟨g,j,none⟩ u) B e 1 v n (cs.set j u):=by
 have x:=h.1;refine⟨by simpa using x,?_⟩;rcases h.2 with⟨rfl,_⟩|⟨y,d,b,rfl,q,s,h1,h2,h3,h4⟩
 ·cases o
 ·cases o
  refine .inr ⟨g,cap,b.setIfInBounds j u,rfl,q,?_,h1,h2,by simpa using h3,?_⟩
  ·simp only[World.setCell,Array.getElem?_modify,if_true,s,Option.map_some]
   rfl
  ·rw[Array.toList_setIfInBounds,<-h4,List.take_set]
theorem Rd.lit(w:World)(c:Array Value)(e:TypeId):Rd (w.alloc (.cells c e)) (some ⟨w.heap.size,0,none⟩) c.toList:=by
 intro j u b;exact⟨_,_,rfl,by simpa using b⟩
end own
theorem q0R{w:World}{ops:Array Oper}{rest:List Oper}{o:Oper}{a:Act}(M:o.guard=none)(s x:Operand)(t:TypeId)
  (ho:o.op= .call {callee:= .builtin .append,args:=#[s,x],argTypes:=#[t,t]})
  (base:Nat)(e:TypeId)(z:Value)(size D:Nat)(ht:P.underlying t=some (.slice e))(W:(P.info? e).map (fun i=>(i.zero,i.size,i.bytes))=some (some z,size,D))
  (g0:z.cells.size=size)(X:0<size)
  (v:Value)(n:Nat)(xs:List Value)(hs:a.eval s=v)(q:Own w base e size v n xs)
  (ao:Option Addr)(m c:Nat)(d:List Value)(hx:a.eval x= .slice ao m c)(Y:d.length=m*size)(e0:ao=none->c=0)(N:Rd w ao d)(h1: ∀u∈d,u.oneCell'=true)
  (I:(n+m)*D<=140737488355328)(j0:n+m<=9223372036854775807)(J:base<=w.heap.size)
  (h: ∀v' w',Own w' base e size v' (n+m) (xs++d)->w.grownBy w' v.ownBlock->(v'.ownBlock=v.ownBlock\/ ∀g,v'.ownBlock=some g->w.heap.size<=g)->wpList P ops Q rest (a.put o.dst v') w'):wpList P ops Q (o::rest) a w:=by
 obtain⟨i,hi,hz,C,a0⟩:=info_parts W
 cases ao with
 | some ad =>
  have E: ∀j u,d[j]? =some u->w.cell? (ad.add j)=some u:=by
   intro j u hj;obtain⟨b,off,e,hc⟩:=N j u hj
   cases e;rw[Addr.add_lit];exact hc
  have R:=q.1;rcases q.2 with⟨rfl,rfl⟩|⟨g,cap,U,rfl,Z,V,d0,b0,h0,O⟩
  ·obtain rfl:xs=[]:=List.eq_nil_of_length_eq_zero (by simpa using R)
   exact wpList_append_own w M s x t ho w.heap.size e i z size D ht hi hz C a0 g0 X _ 0 [] hs (World.ownsRow_nil _ _ _ _) ad m c d hx Y E h1 (by unfold maxLen;omega) I (ι _) (fun v' w' h1 h2 _=>h v' w' ((Own.of_row h1).base J) h2 (.inr fun g V=>((Own.of_row h1).lt g V).1))
  ·by_cases F:n+m<=cap
   ·have c0:=Nat.mul_le_mul_right size F
    rw[Nat.add_mul] at c0;have hr:=run_append_room (P:=P) w t o.type e i ht hi g n cap U V ad m c d (by rw[C];exact Y) E h1 F (by rw[C];omega);rw[C] at hr;refine Lib.wpList_append_run w M s x t t ho _ _ hs hx _ _ hr (h _ _ ⟨by simp[R,Y,Nat.add_mul],.inr ⟨g,cap,_,rfl,Z,setRow_heap w g U _ e _ V,F,b0,?_,?_⟩⟩ ⟨rfl,rfl,rfl,by simp,fun k _ hk=>setRow_other w g k _ (fun e=>hk (by simp[Value.ownBlock,e]))⟩ (.inl rfl))
    ·simp only[List.size_toArray,θ,Θ,List.length_drop,Array.length_toList]
     omega
    ·rw[O,show(n+m)*size=(xs++d).length from by simp[R,Y,Nat.add_mul]]
     exact List.take_left
   ·refine wpList_append_grows w M s x t ho e i z size D ht hi hz C a0 g0 X (some ⟨g,0,none⟩) n cap xs hs (fun hh=>by cases hh) R ?_ ad m c d hx Y E h1 (by omega) (by unfold maxLen;omega) I ?_
    ·intro b hb j u hj
     cases hb;obtain⟨_,_,_,_,_,_,k0⟩:=q.rd;have: ∃ao G,(Value.slice (some ⟨g,0,none⟩) n cap)= .slice ao n G/\Rd w ao xs:=by
      obtain⟨ao,G,e1,_,_,_,r⟩:=q.rd;exact⟨ao,G,e1,r⟩
     obtain⟨ao,G,e1,r⟩:=this
     cases e1;obtain⟨b,off,e2,hc⟩:=r j u hj
     cases e2;rw[Addr.add_lit];exact hc
    ·intro v' w' r1 r2
     exact h v' w' ((Own.of_row r1).base J) ⟨r2.os,r2.tape,r2.output,r2.size,fun k hk _=>r2.block k hk (by simp)⟩ (.inr fun g V=>((Own.of_row r1).lt g V).1)
 | none =>
  have i0:d=[]:=by
   cases d with
   |nil=>rfl
   |cons y ys=>obtain⟨b,off,e,_⟩:=N 0 y rfl;cases e
  subst i0;have hm:m=0:=by
   rcases Nat.eq_zero_or_pos m with h|h
   ·exact h
   ·have:=Nat.mul_pos h X;simp at Y;omega
  subst hm;obtain rfl:=e0 rfl;have R:=q.1;have S:wpList P ops Q rest (a.put o.dst v) w:=by
   have:=h v w (by simpa using q) (World.grownBy.refl w _) (.inl rfl);exact this
  rcases q.2 with⟨rfl,rfl⟩|⟨g,cap,U,rfl,Z,V,d0,b0,h0,O⟩
  ·exact wpList_append_own_none M s x t ho base e i size ht hi _ 0 [] hs (World.ownsRow_nil _ _ _ _) hx S
  ·have f0:(Builtin.append_ #[t,t] o.type #[.slice (some ⟨g,0,none⟩) n cap,.slice none 0 0]).run P w= .ok (.slice (some ⟨g,0,none⟩) n cap) w:=by
    simp[Builtin.append_,run_underlying ht,sizeOf,typeInfo,hi,Builtin.lenOf,d0,Builtin.firstCells,storeCells]
   exact Lib.wpList_append_run w M s x t t ho _ _ hs hx _ _ f0 S
theorem q0v{B:Nat}{e:TypeId}{size:Nat}{v:Value}{n:Nat}{xs:List Value}{w0 w w':World}(h:Below B w0 w)(b:Own w B e size v n xs)(o:w.grownBy w' v.ownBlock)(d:B<=w.heap.size):Below B w0 w':=
 h.grown o d fun k q=>(b.lt k q).1
theorem q2H{w:World}{B:Nat}{e:TypeId}{v:Value}{n:Nat}(h:Own w B e 1 v n (xs.map (Value.int .i64))):
  ∃ao cap,v= .slice ao n cap/\Ints w ao n cap xs:=by
 have b:=h.1;obtain⟨ao,cap,rfl,h1,h2,h3,h4⟩:=h.rd;exact⟨ao,cap,rfl,by simpa using b,h1,h2,h3,h4⟩
structure OGr(w:World)(B:Nat)(tO tI:TypeId)(v:Value)(vs:List Value)(L:List (List Int)):Prop where
 own:Own w B tO 1 v L.length vs
 row: ∀i,Own w B tI 1 (vs.getD i (.slice none 0 0)) (L.getD i []).length ((L.getD i []).map (Value.int .i64))
 sep: ∀i j g,i≠j->(vs.getD i (.slice none 0 0)).ownBlock=some g->(vs.getD j (.slice none 0 0)).ownBlock≠some g
theorem OGr.nil(w:World)(B:Nat)(tO tI:TypeId):OGr w B tO tI (.slice none 0 0) [] []:=
 ⟨Own.nil _ _ _ _,fun i=>by simpa using Own.nil _ _ _ _,fun i j g _ h=>by simp[Value.ownBlock] at h⟩
theorem OGr.ext{w w':World}{B:Nat}{v:Value}(h:OGr w B tO tI v vs L)(k:Ext w w'):OGr w' B tO tI v vs L:=
 ⟨h.own.ext k,fun i=>(h.row i).ext k,h.sep⟩
theorem OGr.base{w:World}{B B':Nat}{v:Value}(h:OGr w B tO tI v vs L)(k:B'<=B):OGr w B' tO tI v vs L:=
 ⟨h.own.base k,fun i=>(h.row i).base k,h.sep⟩
theorem q4Q(l:List α)(x d:α)(i:Nat):(l++[x]).getD i d=if i<l.length then l.getD i d else if i=l.length then x else d:=by
 simp only[δ,List.getElem?_append];by_cases h:i<l.length
 ·simp[h]
 ·by_cases h2:i=l.length
  ·simp[h2]
  ·simp only[h,h2,if_false]
   rw[List.getElem?_eq_none (by simp;omega)]
   rfl
theorem q1w(l:List α)(x d:α)(i j:Nat)(b:i<l.length):(l.set i x).getD j d=if j=i then x else l.getD j d:=by
 simp only[δ,List.getElem?_set];by_cases h:i=j
 ·subst h;simp[b]
 ·simp[h,Ne.symm h]
theorem OGr.push{w w':World}{B B':Nat}{v:Value}(h:OGr w B tO tI v vs L)(q:tO≠tI)
  (x:Own w B' tI 1 vi l.length (l.map (Value.int .i64)))(I:B<=B')(b: ∀j g,(vs.getD j (.slice none 0 0)).ownBlock=some g->g<B')
  (s:Own w' B tO 1 v' (L.length+1) (vs++[vi]))(F:w.grownBy w' v.ownBlock):OGr w' B tO tI v' (vs++[vi]) (L++[l]):=by
 have E:vs.length=L.length:=by simpa using h.own.1
 refine⟨by simpa using s,fun i=>?_,fun i j g D=>?_⟩
 ·rw [q4Q,q4Q,E]
  split
  ·exact(h.row i).kept F fun g y d=>(h.own.apart (h.row i) q) g d y
  ·split
   ·exact(x.base I).kept F fun g y d=>(h.own.apart x q) g d y
   ·exact Own.nil _ _ _ _
 ·rw [q4Q,q4Q]
  by_cases G:i<vs.length
  ·rw [ξ G]
   by_cases o:j<vs.length
   ·rw[ξ o];exact h.sep i j g D
   ·rw[κ o]
    intro C;have:=b i g C
    split
    ·intro d;have:=(x.lt g d).1;omega
    ·simp[Value.ownBlock]
  ·rw [κ G]
   split
   ·rename_i J
    intro d;have:=(x.lt g d).1;by_cases o:j<vs.length
    ·rw[ξ o];intro M;have:=b j g M;omega
    ·rw[κ o,κ (by omega)];simp[Value.ownBlock]
   ·simp[Value.ownBlock]
theorem OGr.lt{w:World}{B:Nat}{v:Value}(h:OGr w B tO tI v vs L): ∀j g,(vs.getD j (.slice none 0 0)).ownBlock=some g->g<w.heap.size:=
 fun j g b=>((h.row j).lt g b).2
theorem OGr.put{w w':World}{B:Nat}{v:Value}{n:Nat}{row:Option Nat}(h:OGr w B tO tI v vs L)(y:tO≠tI)
  (O:v= .slice (some ⟨g,0,none⟩) n cap)(X:i<L.length)
  (s:Own w' B tI 1 vi l.length (l.map (Value.int .i64)))(S:w.grownBy w' row)(F:row=none\/row=(vs.getD i (.slice none 0 0)).ownBlock)
  (o:vi.ownBlock=row\/ ∀g,vi.ownBlock=some g->w.heap.size<=g):
  OGr (w'.setCell ⟨g,i,none⟩ vi) B tO tI v (vs.set i vi) (L.set i l):=by
 have W:vs.length=L.length:=by simpa using h.own.1
 have E:v.ownBlock=some g:=by rw[O];rfl
 have C: ∀x,row=some x->(vs.getD i (.slice none 0 0)).ownBlock=some x:=by
  intro x d;rcases F with I|I
  ·rw[I] at d;cases d
  ·rw[<-I];exact d
 have V:L.length=n:=by
  obtain⟨a,c,e⟩:=h.own.slice;rw[O] at e;cases e;rfl
 subst V;have q:Own w' B tO 1 v L.length vs:=h.own.kept S fun x d D=>(h.own.apart (h.row i) y) x d (C x D)
 have G:=q.stored O (j:=i) vi;refine⟨by simpa using G,fun j=>?_,fun a b x M=>?_⟩
 ·rw [q1w _ _ _ _ _ (by omega),q1w _ _ _ _ _ (by omega)]
  split
  ·refine s.setOther _ fun d=>?_
   exact(q.apart s y) g E d
  ·rename_i N
   refine Own.setOther ((h.row j).kept S fun x d D=>h.sep i j x (Ne.symm N) (C x D) d) _ fun d=>?_
   exact(h.own.apart (h.row j) y) g E d
 ·have fr: ∀j,j≠i-> ∀x,vi.ownBlock=some x->(vs.getD j (.slice none 0 0)).ownBlock≠some x:=by
   intro j U x d;rcases o with o|o
   ·exact h.sep i j x (Ne.symm U) (C x (o▸d))
   ·intro D
    have:=o x d;have:=h.lt j x D;omega
  rw[q1w _ _ _ _ _ (by omega),q1w _ _ _ _ _ (by omega)];by_cases J:a=i
  ·rw[ξ J,κ (by omega)]
   exact fr b (by omega) x
  ·rw [κ J]
   by_cases R:b=i
   ·rw[ξ R]
    intro d D;exact fr a J x D d
   ·rw[κ R];exact h.sep a b x M
theorem OGr.cell{w w':World}{B:Nat}{n:Nat}{row:Option Nat}(h:OGr w B tO tI (.slice ao n cap) vs L)(q:tO≠tI)(I:i<L.length)
  (C:w.grownBy w' row)(d:row=none\/row=(vs.getD i (.slice none 0 0)).ownBlock):
  ∃g,ao=some ⟨g,0,none⟩/\w.cell? ⟨g,i,none⟩=some (vs.getD i (.slice none 0 0))/\w'.cell? ⟨g,i,none⟩=some (vs.getD i (.slice none 0 0))/\w'.frozen? ⟨g,i,none⟩=false/\B<=g:=by
 have D:vs.length=L.length:=by simpa using h.own.1
 have b:Own w' B tO 1 (.slice ao n cap) L.length vs:=h.own.kept C fun x E s=>by
  rcases d with o|o
  ·rw[o] at s;cases s
  ·exact(h.own.apart (h.row i) q) x E (o▸s)
 obtain⟨g,c,e,h1,_,_⟩:=h.own.cell (j:=i) (by omega);obtain⟨G,F,e',h2,h3,h4⟩:=b.cell (j:=i) (by omega)
 cases e
 cases e';have y:vs.getD i (.slice none 0 0)=vs[i]:=by rw[δ,γ (by omega)];rfl
 exact⟨_,rfl,by rw[y];exact h1,by rw[y];exact h2,h3,h4⟩
theorem OGr.head{w:World}{B:Nat}{n:Nat}(h:OGr w B tO tI (.slice ao n cap) vs L)(C:i<L.length):
  ∃ g b d,ao=some ⟨g,0,none⟩/\w.cell? ⟨g,i,none⟩=some (.slice b (L.getD i []).length d)/\vs.getD i (.slice none 0 0)= .slice b (L.getD i []).length d/\
   Own w B tI 1 (.slice b (L.getD i []).length d) (L.getD i []).length ((L.getD i []).map (Value.int .i64))/\B<=g:=by
 have y:vs.length=L.length:=by simpa using h.own.1
 obtain⟨g,c,e,h1,_,s⟩:=h.own.cell (j:=i) (by omega)
 cases e;have x:vs.getD i (.slice none 0 0)=vs[i]:=by rw[δ,γ (by omega)];rfl
 have q:=h.row i;obtain⟨b,d,o⟩:=q.slice;refine⟨g,b,d,rfl,?_,o,by rw[<-o];exact q,s⟩;rw[h1,<-x,o]
theorem OGr.one(w:World){B:Nat}(o:B<=w.heap.size):OGr (w.alloc (.cells #[.slice none 0 0] tO)) B tO tI (.slice (some ⟨w.heap.size,0,none⟩) 1 1) [.slice none 0 0] [[]]:=by
 have e: ∀i:Nat,([.slice none 0 0]:List Value).getD i (.slice none 0 0)= .slice none 0 0:=by
  intro i;cases i<;>simp
 have d: ∀i:Nat,([[]]:List (List Int)).getD i []=[]:=by
  intro i;cases i<;>simp
 refine⟨Own.lit w #[.slice none 0 0] tO 1 1 o rfl (by omega),fun i=>?_,fun i j g _ b=>?_⟩
 ·rw[e,d];exact Own.nil _ _ _ _
 ·rw[e] at b;cases b
theorem OGr.cut{w:World}{B:Nat}{n c:Nat}(h:OGr w B tO tI (.slice ao n cap) vs L)(x:L.length=n)(hm:m<=c)(y:m<=n)(hc:c<=cap):
  OGr w B tO tI (.slice ao m c) (vs.take m) (L.take m):=by
 subst x;have C:vs.length=L.length:=by simpa using h.own.1
 have e: ∀{α:Type} (l:List α) (d:α) (i:Nat),(l.take m).getD i d=if i<m then l.getD i d else d:=by
  intro α l d i;simp only[δ,List.getElem?_take]
  split<;>rfl
 have o:(L.take m).length=m:=by simp;omega
 refine⟨by rw[o];simpa using h.own.cut hm rfl y hc,fun i=>?_,fun i j g b=>?_⟩
 ·rw[e,e]
  split
  ·exact h.row i
  ·exact Own.nil _ _ _ _
 ·rw [e,e]
  by_cases q:i<m
  ·rw[ξ q]
   by_cases s:j<m
   ·rw[ξ s];exact h.sep i j g b
   ·rw[κ s];intro _;simp[Value.ownBlock]
  ·rw[κ q];intro D;simp[Value.ownBlock] at D
theorem OGr.grid{w:World}{B:Nat}{v:Value}(h:OGr w B tO tI v vs L): ∃ao cap,v= .slice ao L.length cap/\Grid w ao L.length cap L:=by
 have C:vs.length=L.length:=by simpa using h.own.1
 obtain⟨ao,cap,y,h1,h2,h3,h4⟩:=h.own.rd;refine⟨ao,cap,y,rfl,h1,h2,h3,fun i x=>?_⟩;obtain⟨b,off,e,hc⟩:=h4.at (j:=i) (by omega);have d:=h.row i;rw[δ,γ (by omega),δ,γ x] at d;obtain⟨q,s,he,o⟩:=q2H d;simp only[Option.getD_some] at he o;exact⟨b,off,q,s,e,by rw[hc,he],o⟩
def y5R(tO tI:TypeId)(w:World)(L:List (List Int))(e:Ending)(w':World):Prop:=
 ∃v vs,e= .returned v/\OGr w' w.heap.size tO tI v vs L/\Ext w w'
def RetGE(tO tI:TypeId)(w:World)(r:List (List Int)×Int)(e:Ending)(w':World):Prop:=
 ∃v vs,e= .returned (.tuple #[v,.int .i64 r.2])/\OGr w' w.heap.size tO tI v vs r.1/\Ext w w'
def RetIE(t:TypeId)(w:World)(r:List Int×Int)(e:Ending)(w':World):Prop:=
 ∃v,e= .returned (.tuple #[v,.int .i64 r.2])/\Own w' w.heap.size t 1 v r.1.length (r.1.map (Value.int .i64))/\Ext w w'
theorem RetGE.mk{w w':World}{M:List (List Int)}{v:Value}(b:r=(M,c))(h:OGr w' w.heap.size tO tI v vs M)(he:Ext w w'):
  RetGE tO tI w r (.returned (.tuple #[v,.int .i64 c])) w':=by subst b;exact⟨v,vs,rfl,h,he⟩
theorem RetGE.err{w w':World}(b:r=([],c))(he:Ext w w'):
  RetGE tO tI w r (.returned (.tuple #[.slice none 0 0,.int .i64 c])) w':=RetGE.mk b (OGr.nil _ _ _ _) he
theorem RetIE.mk{w w':World}{r:List Int×Int}{M:List Int}{v:Value}(b:r=(M,c))(h:Own w' w.heap.size t 1 v M.length (M.map (Value.int .i64)))(he:Ext w w'):
  RetIE t w r (.returned (.tuple #[v,.int .i64 c])) w':=by subst b;exact⟨v,rfl,h,he⟩
theorem RetIE.err{w w':World}{r:List Int×Int}(b:r=([],c))(he:Ext w w'):
  RetIE t w r (.returned (.tuple #[.slice none 0 0,.int .i64 c])) w':=RetIE.mk b (Own.nil _ _ _ _) he
def y3x :Value->Nat| .slice _ n _=>n|_=>0
def y4y(t:TypeId)(w:World)(xs:List Int)(e:Ending)(w':World):Prop:=
 ∃v,e= .returned v/\Own w' w.heap.size t 1 v xs.length (xs.map (Value.int .i64))/\Ext w w'
theorem q2E(L:List (List α))(k:Nat):(L.take k).flatten.length<=L.flatten.length:=by
 conv=>rhs;rw[<-List.take_append_drop k L,List.flatten_append,θ]
 omega
theorem q2y(L:List (List α))(k:Nat)(h:k<L.length):(L.take (k+1)).flatten=(L.take k).flatten++L.getD k []:=by
 rw[q0W L [] k h];simp
structure ExtOf(w:World) where
 w':World
 h:Ext w w'
instance (w :World):Nonempty (ExtOf w):=⟨⟨w,Ext.refl w⟩⟩
theorem q0E{id:Nat}{a:Act}{w:World}{l:List Oper}(hm:P.follows .mixedOrders=true)(d:Region.lexB .any l.toArray=true)
  (h:wpQuiet P l.toArray (fun w'=> ∃x:ExtOf w,w'=x.w') (fun b=> ∀w',Ext w w'->Q .normal b w') l a):(Code.region id l.toArray true).wp P Q a w:=by
 refine wp_region_quiet (C:=fun w'=> ∃x:ExtOf w,w'=x.w') hm d ⟨⟨w.drew,(Ext.refl w).drew⟩,rfl⟩ ?_;have e:(fun b=> ∀w',Ext w w'->Q .normal b w')=(fun b=> ∀w',(∃x:ExtOf w,w'=x.w')->Q .normal b w'):=by
  funext b
  exact propext ⟨fun h w' ⟨x,q⟩=>q▸h _ x.h,fun h w' o=>h w' ⟨⟨w',o⟩,rfl⟩⟩
 rw[<-e]
 simpa using h
theorem Calls.quiet_ext{f:FuncId}{args:Array Value}{w:World}{x:ExtOf w}{v:Value}
  (h:Calls P f args x.w' fun e w'=>e= .returned v/\Ext x.w' w'):Calls P f args x.w' fun e b=>e= .returned v/\ ∃y:ExtOf w,b=y.w':=
 h.mono fun _ w' ⟨he,hm⟩=>⟨he,⟨w',x.h.trans hm⟩,rfl⟩
theorem q0D{w:World}{a:Addr}(hc:w.cell? a=some u)(x:ExtOf w):x.w'.cell? a=some u:=q0A x.h hc
end
section
def be :Nat->Nat->List UInt8
 |0,_=>[]
 |k+1,x=>UInt8.ofNat (x/256^k)::be k x
def q1N(l:List UInt8):Nat:=l.foldl (fun a b=>a*256+b.toNat) 0
theorem q0F(k x:Nat):(be k x).length=k:=by
 induction k with
 |zero=>rfl
 |succ k ih=>simp[be,ih]
theorem z7E(l:List UInt8): ∀a,l.foldl (fun a b=>a*256+b.toNat) a=a*256^l.length+q1N l:=by
 induction l with
 |nil=>intro a;simp[q1N]
 | cons b l ih=>
  intro a;have h2:q1N (b::l)=(0*256+b.toNat)*256^l.length+q1N l:=by
   unfold q1N;rw[List.foldl_cons];exact ih _
  rw[List.foldl_cons,ih,h2,χ,Nat.pow_succ,Nat.add_mul,Nat.zero_mul,Nat.zero_add,Nat.mul_assoc,Nat.mul_comm 256,Nat.add_assoc]
theorem q9g(b:UInt8)(l:List UInt8):q1N (b::l)=b.toNat*256^l.length+q1N l:=by
 unfold q1N;rw[List.foldl_cons,z7E];simp[q1N]
theorem z9j(l:List UInt8)(b:UInt8):q1N (l++[b])=q1N l*256+b.toNat:=by
 unfold q1N;rw[List.foldl_append];rfl
theorem q1t(l:List UInt8):q1N l<256^l.length:=by
 induction l with
 |nil=>simp[q1N]
 | cons b l ih=>
  rw[q9g,χ,Nat.pow_succ];have:=b.toNat_lt;have h:b.toNat*256^l.length<=255*256^l.length:=Nat.mul_le_mul_right _ (by omega);omega
theorem q4K(k x:Nat):q1N (be k x)=x % 256^k:=by
 induction k with
 |zero=>simp[be,q1N,Nat.mod_one]
 | succ k ih=>
  rw[be,q9g,q0F,ih,Nat.pow_succ,Nat.mod_mul];simp only[UInt8.toNat_ofNat'];rw[Nat.mul_comm (256^k),Nat.add_comm]
theorem q5t(l:List UInt8):be l.length (q1N l)=l:=by
 induction l with
 |nil=>rfl
 | cons b l ih=>
  have h:=q1t l;have y:0<256^l.length:=Nat.pow_pos (by decide);rw[χ,be,q9g];have o:(b.toNat*256^l.length+q1N l)/256^l.length=b.toNat:=by
   rw[Nat.add_comm,Nat.add_mul_div_right _ _ y,Nat.div_eq_of_lt h];omega
  have q : ∀k,k<=l.length->be k (b.toNat*256^l.length+q1N l)=be k (q1N l):=by
   intro k
   induction k with
   |zero=>intro _;rfl
   | succ k ih2=>
    intro C;rw[be,be,ih2 (by omega)]
    congr 1
    have s:256^l.length=256^k*(256*256^(l.length-k-1)):=by
     rw[<-Nat.mul_assoc,<-Nat.pow_succ,<-Nat.pow_add];congr 1;omega
    have d:0<256^k:=Nat.pow_pos (by decide);have x:(b.toNat*256^l.length+q1N l)/256^k=b.toNat*256^(l.length-k-1)*256+q1N l/256^k:=by
     rw [s,show b.toNat*(256^k*(256*256^(l.length-k-1)))+q1N l=q1N l+256^k*(b.toNat*256^(l.length-k-1)*256) from by
      rw[Nat.add_comm];congr 1;rw[Nat.mul_left_comm,Nat.mul_comm 256 (256^_),<-Nat.mul_assoc b.toNat],
      Nat.add_mul_div_left _ _ d,Nat.add_comm]
    rw[x];apply UInt8.toNat_inj.1;simp only[UInt8.toNat_ofNat'];omega
  rw[o,q _ (ι _),ih]
  congr 1
  apply UInt8.toNat_inj.1;simp
theorem y3G(n:Nat)(L:List Value)(z v:Value):(List.replicate (n+1) z++L).set n v=List.replicate n z++v::L:=by
 rw[List.replicate_succ',List.append_assoc,List.set_append];simp
theorem y1J(X k:Nat):((X:Int)/2^(8*k) % 256)=((UInt8.ofNat (X/256^k)).toNat:Int):=by
 have:(2:Nat)^(8*k)=256^k:=by rw[Nat.pow_mul]
 rw[UInt8.toNat_ofNat'];rw[<-this];simp
theorem z4g(Z:Int)(b:UInt8)(o:0<=Z)(h1:Z<72057594037927936):bits .or .u64 (Z*256) (IntKind.u64.wrap (b.toNat:Int))=Z*256+(b.toNat:Int):=by
 have q:=b.toNat_lt;have d:IntKind.u64.wrap (b.toNat:Int)=(b.toNat:Int):=by rw[Go.IntKind.wrap_u64];omega
 rw[d];exact bits_join .u64 64 (by decide) wraps_u64 8 _ _ (by omega) (by omega) (by omega) (by omega) (by omega) (by omega)
def crcPoly :BitVec 32:=0xedb88320#32
def q4W(s:BitVec 32):BitVec 32:=(s>>>1)^^^(crcPoly&&& -(s&&&1#32))
def q5w :Nat->BitVec 32->BitVec 32
 |0,s=>s
 |k+1,s=>q4W (q5w k s)
def q2C(s:BitVec 32)(c:UInt8):BitVec 32:=q5w 8 (s^^^BitVec.ofNat 32 c.toNat)
def q0u(l:List UInt8):BitVec 32:= ~~~(l.foldl q2C (~~~0#32))
theorem y2G(s:BitVec 32):s&&&1#32=if s.getLsbD 0 then 1#32 else 0#32:=by
 apply BitVec.eq_of_getLsbD_eq;intro i b;rw[BitVec.getLsbD_and];have h1:(1#32).getLsbD i=decide (i=0):=by
  rw[BitVec.getLsbD_one];simp
 rw[h1];by_cases h:i=0
 ·subst h
  cases hb:s.getLsbD 0<;>simp
 ·simp only[h,decide_false,Bool.and_false]
  cases s.getLsbD 0
  ·simp
  ·simp[h]
theorem q5y(s:BitVec 32):q4W s=if s.getLsbD 0 then(s>>>1)^^^crcPoly else s>>>1:=by
 unfold q4W;rw[y2G]
 cases s.getLsbD 0
 ·simp
 ·have:crcPoly&&&4294967295#32=crcPoly:=by decide
  simp[this]
theorem z2T{s t:BitVec 32}(h:q4W s=q4W t):s=t:=by
 have b: ∀s:BitVec 32,(q4W s).getLsbD 31=s.getLsbD 0:=by
  intro s;rw[q5y]
  cases hb:s.getLsbD 0
  ·simp
  ·have:crcPoly.getLsbD 31=true:=by decide
   simp[this]
 have d:s.getLsbD 0=t.getLsbD 0:=by rw[<-b s,<-b t,h]
 have h1:s>>>1=t>>>1:=by
  rw[q5y,q5y,d] at h
  cases hb:t.getLsbD 0
  ·rw[hb] at h
   simp only[Bool.false_eq_true,if_false] at h;exact h
  ·rw[hb] at h
   simp only[if_true] at h;have h2:(s>>>1^^^crcPoly)^^^crcPoly=(t>>>1^^^crcPoly)^^^crcPoly:=by rw[h]
   simpa [BitVec.xor_assoc] using h2
 apply BitVec.eq_of_getLsbD_eq;intro i o
 cases i with
 |zero=>exact d
 | succ i=>
  have:=congrArg (fun x=>x.getLsbD i) h1;simp only[BitVec.getLsbD_ushiftRight] at this
  rwa [Nat.add_comm] at this
theorem q5x{s t:BitVec 32}: ∀k,q5w k s=q5w k t->s=t
 |0,h=>h
 |k+1,h=>q5x k (z2T h)
theorem q7I{s t:BitVec 32}{c:UInt8}(h:q2C s c=q2C t c):s=t:=by
 have h1:=q5x 8 h;have h2:(s^^^BitVec.ofNat 32 c.toNat)^^^BitVec.ofNat 32 c.toNat=(t^^^BitVec.ofNat 32 c.toNat)^^^BitVec.ofNat 32 c.toNat:=by rw[h1]
 simpa [BitVec.xor_assoc] using h2
theorem q7w{s:BitVec 32}{c d:UInt8}(h:q2C s c=q2C s d):c=d:=by
 have h1:=q5x 8 h;have h2:s^^^(s^^^BitVec.ofNat 32 c.toNat)=s^^^(s^^^BitVec.ofNat 32 d.toNat):=by rw[h1]
 have h3:BitVec.ofNat 32 c.toNat=BitVec.ofNat 32 d.toNat:=by simpa [<-BitVec.xor_assoc] using h2
 have h4:=congrArg BitVec.toNat h3;simp only[BitVec.toNat_ofNat] at h4;have:=c.toNat_lt;have:=d.toNat_lt;apply UInt8.toNat_inj.1;omega
theorem z3r{s t:BitVec 32}: ∀l:List UInt8,l.foldl q2C s=l.foldl q2C t->s=t:=by
 intro l
 induction l generalizing s t with
 |nil=>intro h;exact h
 |cons c l ih=>intro h;exact q7I (ih h)
theorem z3s(a b:List UInt8)(c d:UInt8)(h:q0u (a++c::b)=q0u (a++d::b)):c=d:=by
 unfold q0u at h;have h1:(a++c::b).foldl q2C (~~~0#32)=(a++d::b).foldl q2C (~~~0#32):=by
  have:=congrArg (fun x=> ~~~x) h
  simpa using this
 rw[List.foldl_append,List.foldl_append,List.foldl_cons,List.foldl_cons] at h1;exact q7w (z3r b h1)
theorem q4g(s:BitVec 32):BitVec.ofInt 32 (s.toNat:Int)=s:=by
 rw[BitVec.ofInt_natCast];simp
theorem z9n(s:BitVec 32):IntKind.u32.wrap (s.toNat:Int)=(s.toNat:Int):=by
 have:=s.isLt;rw[IntKind.wrap_u32];omega
theorem q5u(s t:BitVec 32):bits .xor .u32 (s.toNat:Int) (t.toNat:Int)=((s^^^t).toNat:Int):=by
 show IntKind.u32.wrap ((BitVec.ofInt 32 (s.toNat:Int)^^^BitVec.ofInt 32 (t.toNat:Int)).toNat:Int)=_;rw[q4g,q4g,z9n]
theorem q8Y(s t:BitVec 32):bits .and .u32 (s.toNat:Int) (t.toNat:Int)=((s&&&t).toNat:Int):=by
 show IntKind.u32.wrap ((BitVec.ofInt 32 (s.toNat:Int)&&&BitVec.ofInt 32 (t.toNat:Int)).toNat:Int)=_;rw[q4g,q4g,z9n]
theorem y4f(s:BitVec 32):((s.toNat:Nat):Int)/(2:Int)=((s>>>1).toNat:Int):=by
 rw[BitVec.toNat_ushiftRight,Nat.shiftRight_eq_div_pow];simp
theorem y4L(s:BitVec 32): -(s.toNat:Int) % 4294967296=((-s).toNat:Int):=by
 have:=s.isLt;rw[BitVec.toNat_neg];omega
theorem y4R(s:BitVec 32):bits .xor .u32 IntKind.u32.max (s.toNat:Int)=((~~~s).toNat:Int):=by
 have h:IntKind.u32.max=((BitVec.allOnes 32).toNat:Int):=by decide
 rw[h,q5u]
 congr 2
theorem y3L(s:BitVec 32):bits .xor .u32 ((s.toNat:Int)/2) (bits .and .u32 3988292384 (-bits .and .u32 (s.toNat:Int) 1 % 4294967296))=((q4W s).toNat:Int):=by
 have h1:(1:Int)=((1#32).toNat:Int):=rfl;have h2:(3988292384:Int)=(crcPoly.toNat:Int):=rfl;rw[h1,q8Y,y4L,h2,q8Y,y4f,q5u]
 rfl
theorem y2O(c:UInt8):((BitVec.ofNat 32 c.toNat).toNat:Int)=(c.toNat:Int):=by
 have:=c.toNat_lt;rw[BitVec.toNat_ofNat];omega
def q1M(L:List (List Int)):Nat->Nat
 |0=>0
 |n+1=>if L.getD n []=[] then q1M L n else n+1
def q0N(L:List (List Int)):List (List Int):=L.take (q1M L L.length)
theorem q2p(L:List (List Int))(n:Nat):q1M L n<=n:=by
 induction n with
 |zero=>exact ι _
 |succ n ih=>rw[q1M];split<;>omega
theorem q6I(L:List (List Int))(n:Nat)(h:L.getD n []=[]):q1M L (n+1)=q1M L n:=by rw[q1M,ξ h]
theorem q4T(L:List (List Int))(n:Nat)(h:L.getD n []≠[]):q1M L (n+1)=n+1:=by rw[q1M,κ h]
theorem q9d(L M:List (List Int))(n:Nat)(h: ∀i,i<n->L.getD i []=M.getD i []):q1M L n=q1M M n:=by
 induction n with
 |zero=>rfl
 | succ n ih=>
  rw[q1M,q1M,h n (by omega),ih (fun i b=>h i (by omega))]
theorem q4D(L:List α)(d:α)(m i:Nat)(h:i<m):(L.take m).getD i d=L.getD i d:=by
 simp only[δ,List.getElem?_take,h,if_true]
theorem q4G(L:List α)(d:α)(i:Nat)(h:L.length<=i):L.getD i d=d:=by
 rw[δ,List.getElem?_eq_none h];rfl
def q4U(L:List (List Int)):List (List Int):=L++List.replicate (5-L.length) []
theorem q2c(L:List (List Int))(h:L.length<=5):(q4U L).length=5:=by simp[q4U];omega
theorem q5e(L:List (List Int))(i:Nat):(q4U L).getD i []=L.getD i []:=by
 unfold q4U;simp only[δ,List.getElem?_append]
 split
 ·rfl
 ·rw[List.getElem?_eq_none (l:=L) (by omega)]
  rcases Nat.lt_or_ge (i-L.length) (List.replicate (5-L.length) ([]:List Int)).length with h|h
  ·rw[γ h];simp
  ·rw[List.getElem?_eq_none h]
theorem z0l(L:List (List Int))(n k:Nat)(h: ∀i,n<=i->i<n+k->L.getD i []=[]):q1M L (n+k)=q1M L n:=by
 induction k with
 |zero=>rfl
 | succ k ih=>
  rw[<-Nat.add_assoc,q6I L (n+k) (h _ (by omega) (by omega)),ih (fun i h1 h2=>h i h1 (by omega))]
theorem z5L(L M:List α)(d:α)(b:L.length=M.length)(h: ∀i,i<L.length->L.getD i d=M.getD i d):L=M:=by
 apply List.ext_getElem b;intro i h1 h2;have:=h i h1;rw[δ,δ,γ h1,γ h2] at this;exact this
theorem q9c(L M:List (List Int))(h: ∀i,L.getD i []=M.getD i []):q0N L=q0N M:=by
 have s:q1M L L.length=q1M M M.length:=by
  rcases Nat.le_total L.length M.length with b|b
  ·obtain⟨k,d⟩:=Nat.exists_eq_add_of_le b
   rw[d,<-q9d L M _ (fun i _=>h i),z0l L L.length k (fun i h1 _=>q4G L [] i h1)]
  ·obtain⟨k,d⟩:=Nat.exists_eq_add_of_le b
   rw[d,q9d L M _ (fun i _=>h i),z0l M M.length k (fun i h1 _=>q4G M [] i h1)]
 unfold q0N;have q:(L.take (q1M L L.length)).length=q1M L L.length:=by have:=q2p L L.length;simp;omega
 have x:(M.take (q1M M M.length)).length=q1M M M.length:=by have:=q2p M M.length;simp;omega
 refine z5L _ _ [] (by rw[q,x,s]) fun i o=>?_
 rw[q] at o;rw[q4D _ _ _ _ o,q4D _ _ _ _ (by omega),h]
theorem q1X(L:List (List Int))(i:Nat):(q0N L).getD i []=L.getD i []:=by
 unfold q0N;rcases Nat.lt_or_ge i (q1M L L.length) with h|h
 ·exact q4D _ _ _ _ h
 ·rw [q4G _ _ _ (by simp;omega)]
  have : ∀ n,q1M L n<=i->i<n->L.getD i []=[]:=by
   intro n
   induction n with
   |zero=>intro _ h2;omega
   | succ n ih=>
    intro h1 h2;rw[q1M] at h1
    split at h1
    ·rename_i he
     rcases Nat.lt_or_ge i n with h3|h3
     ·exact ih h1 h3
     ·have:i=n:=by omega
      subst this;exact he
    ·omega
  rcases Nat.lt_or_ge i L.length with h2|h2
  ·exact(this _ h h2).symm
  ·exact(q4G _ _ _ h2).symm
theorem q1b(L:List (List Int)):(q0N L).length=q1M L L.length:=by have:=q2p L L.length;simp[q0N];omega
def q0e(L:List (List Int)):Bool:=decide (L.length<=5/\L.flatten.length<=40/\(∀x∈L.flatten,0<=x)/\L.flatten.Nodup)
theorem q3a(xs:List Int)(k:Nat)(h:k<xs.length):xs.getD k 0∈xs:=by
 rw[δ,γ h];exact List.getElem_mem h
theorem z4j(L:List (List Int))(h:5<L.length):q0e L=false:=by unfold q0e;rw[decide_eq_false_iff_not];rintro⟨h1,_⟩;omega
theorem z3X(L:List (List Int))(h:40<L.flatten.length):q0e L=false:=by unfold q0e;rw[decide_eq_false_iff_not];rintro⟨_,h1,_⟩;omega
theorem z7J(L:List (List Int))(k:Nat)(b:k<L.flatten.length)(h:L.flatten.getD k 0<0):q0e L=false:=by
 unfold q0e;rw[decide_eq_false_iff_not];rintro⟨_,_,h1,_⟩;have:=h1 _ (q3a _ k b);omega
theorem z7H(L:List (List Int))(k:Nat)(b:k<L.flatten.length)(h:L.flatten.getD k 0∈L.flatten.take k):q0e L=false:=by
 unfold q0e;rw[decide_eq_false_iff_not];rintro⟨_,_,_,h1⟩;have h2:=h1.sublist (List.take_sublist (k+1) _);rw[q0W _ 0 k b] at h2;have:=(List.nodup_append.1 h2).2.2 _ h _ (List.mem_singleton.2 rfl);exact this rfl
theorem q7A(L:List (List Int))(h1:L.length<=5)(h2:L.flatten.length<=40)(h3: ∀x∈L.flatten,0<=x)(h4:L.flatten.Nodup):q0e L=true:=by
 unfold q0e;exact ζ ⟨h1,h2,h3,h4⟩
theorem q8A(xs:List Int)(k:Nat)(d:k<xs.length)(b: ∀x∈xs.take k,0<=x)(h1:¬xs.getD k 0<0): ∀x∈xs.take (k+1),0<=x:=by
 rw[q0W _ 0 k d];intro x o;rcases List.mem_append.1 o with h|h
 ·exact b x h
 ·rw[List.mem_singleton.1 h];omega
theorem q9I(xs:List Int)(k:Nat)(s:k<xs.length)(d:(xs.take k).Nodup)(h1:xs.getD k 0∉xs.take k):(xs.take (k+1)).Nodup:=by
 rw[q0W _ 0 k s,List.nodup_append];refine⟨d,by simp,fun a o b q=>?_⟩;rw[List.mem_singleton.1 q];intro e;exact h1 (e▸o)
theorem z1Q(xs:List Int)(k:Nat)(b:k<xs.length)(x:Int):(x∈xs.take (k+1))↔(x∈xs.take k\/x=xs.getD k 0):=by
 rw[q0W _ 0 k b,List.mem_append,Γ]
theorem q3H(L:List (List Int))(i:Nat):(L.getD i []).length<=L.flatten.length:=by
 rcases Nat.lt_or_ge i L.length with h|h
 ·have h1:=q2y L i h
  have h2:=q2E L (i+1);rw[h1,θ] at h2;omega
 ·rw[q4G _ _ _ h];simp
theorem z7I(L:List (List Int))(h:q0e L=true):L.length<=5/\L.flatten.length<=40:=by
 unfold q0e at h;have:=of_decide_eq_true h;exact⟨this.1,this.2.1⟩
def q5j(L:List (List Int))(x:Int):List (List Int):=(if q0N L=[] then [[]] else q0N L).set 0 (L.getD 0 []++[x])
def addS(L:List (List Int))(x:Int):List (List Int)×Int:=
 if q0e L=false\/x<0\/x∈L.flatten then([],2) else if 40<=L.flatten.length then([],60) else(q5j L x,0)
def q1E(L:List (List Int))(level:Int):List Int×Int:=
 if q0e L=false\/level<0\/5<=level then([],2) else if L.getD level.toNat []=[] then([],4) else(L.getD level.toNat [],0)
def z3a(L:List (List Int))(level:Nat)(x:Int):List (List Int):=
 q0N ((((q4U L).set level []).set (min (level+1) 4)) ((((q4U L).set level []).getD (min (level+1) 4) [])++[x]))
def q0U(L:List (List Int))(level x:Int):List (List Int)×Int:=
 if (q1E L level).2≠0 then([],(q1E L level).2) else if x<0\/x∈L.flatten then([],2) else(z3a L level.toNat x,0)
theorem z4p(L:List (List Int))(x:Int)(h:q0e L=false\/x<0\/x∈L.flatten):addS L x=([],2):=by rw[addS,ξ h]
theorem z2D(L:List (List Int))(x:Int)(h:¬(q0e L=false\/x<0\/x∈L.flatten))(h2:40<=L.flatten.length):addS L x=([],60):=by rw[addS,κ h,ξ h2]
theorem z7Q(L:List (List Int))(x:Int)(h:¬(q0e L=false\/x<0\/x∈L.flatten))(h2:¬40<=L.flatten.length):addS L x=(q5j L x,0):=by rw[addS,κ h,κ h2]
theorem z4o(L :List (List Int))(x:Int)(h:L.length<=5):q0N ((q4U L).set 0 ((q4U L).getD 0 []++[x]))=q5j L x:=by
 have F:=q2c L h;have s:(L.getD 0 []++[x])≠[]:=by simp
 have y : q0N (q5j L x)=q5j L x:=by
  unfold q0N;have: ∀n,n<=(q5j L x).length->(∀i,n<=i->i<(q5j L x).length->False)->n=(q5j L x).length:=by
   intro n h1 h2;rcases Nat.lt_or_ge n (q5j L x).length with h3|h3
   ·exact(h2 n (ι _) h3).elim
   ·omega
  have d :q1M (q5j L x) (q5j L x).length=(q5j L x).length:=by
   have E:(q5j L x).length=max 1 (q0N L).length:=by
    unfold q5j;split
    ·rename_i he;simp[he]
    ·rename_i he
     have:=List.length_pos_iff.2 he;simp;omega
   rcases Nat.lt_or_ge 1 (q0N L).length with h1|h1
   ·obtain⟨m,hm⟩: ∃m,(q0N L).length=m+1:=⟨(q0N L).length-1,by omega⟩
    have:(q5j L x).length=m+1:=by omega
    rw[this,q4T];have he:(q5j L x).getD m []=L.getD m []:=by
     unfold q5j;have b:q0N L≠[]:=by intro o;rw[o] at hm;simp at hm
     rw[κ b,q1w _ _ _ _ _ (by omega),κ (by omega),q1X]
    rw[he];intro o;rw[q1b] at hm;have : ∀n,q1M L n=m+1->L.getD m []=[]->False:=by
     intro n
     induction n with
     |zero=>intro h3;simp[q1M] at h3
     | succ n ih=>
      intro h3 h4;rw[q1M] at h3
      split at h3
      ·exact ih h3 h4
      ·rename_i C
       have:n=m:=by omega
       subst this;exact C h4
    exact this _ hm o
   ·have :(q5j L x).length=0+1:=by omega
    rw[this,q4T];have he:(q5j L x).getD 0 []=L.getD 0 []++[x]:=by
     unfold q5j
     split
     ·rfl
     ·rename_i b
      have:=List.length_pos_iff.2 b;rw[q1w _ _ _ _ _ (by omega),ξ rfl]
    rw[he];exact s
  rw[d,List.take_length]
 rw[<-y];refine q9c _ _ fun i=>?_
 rw[q1w _ _ _ _ _ (by omega),q5e,q5e];unfold q5j
 split
 ·rename_i q
  subst q
  split
  ·rfl
  ·rename_i b
   have:=List.length_pos_iff.2 b;rw[q1w _ _ _ _ _ (by omega),ξ rfl]
 ·rename_i q
  split
  ·rename_i b
   have D:L.getD i []=[]:=by rw[<-q1X,b];rfl
   rw[D,q4G _ _ _ (by simp;omega)]
  ·rename_i b
   have:=List.length_pos_iff.2 b;rw[q1w _ _ _ _ _ (by omega),κ q,q1X]
theorem z3P(T:List (List Int))(h:T=[]\/T.getD (T.length-1) []≠[]):q0N T=T:=by
 rcases h with rfl|h
 ·rfl
 ·have d:0<T.length:=by
   rcases Nat.eq_zero_or_pos T.length with b|b
   ·have:T=[]:=List.eq_nil_of_length_eq_zero b
    subst this;simp at h
   ·exact b
  obtain⟨m,hm⟩: ∃m,T.length=m+1:=⟨T.length-1,by omega⟩
  unfold q0N;rw[hm] at h⊢;rw[q4T T m (by simpa using h),<-hm,List.take_length]
theorem z7D(L:List (List Int)): ∀n m,q1M L n=m+1->L.getD m []≠[]:=by
 intro n
 induction n with
 |zero=>intro m h;simp[q1M] at h
 | succ n ih=>
  intro m h;rw[q1M] at h
  split at h
  ·exact ih m h
  ·rename_i b
   have:n=m:=by omega
   subst this;exact b
theorem z0k(L:List (List Int))(m:Nat)(h:(q0N L).length=m+1):(q0N L).getD m []≠[]:=by
 rw[q1X];rw[q1b] at h;exact z7D L _ m h
theorem z5c(L:List (List Int))(i:Nat)(h:L.getD i []≠[]):i<(q0N L).length:=by
 rcases Nat.lt_or_ge i (q0N L).length with h1|h1
 ·exact h1
 ·exact(h (by rw[<-q1X,q4G _ _ _ h1])).elim
def y3V(L:List (List Int))(level:Nat)(x:Int):List (List Int):=
 let M1:=(q0N L).set level []
 let into:=min (level+1) 4
 let M2:=if M1.length<=into then M1++[[]] else M1
 M2.set into (M2.getD into []++[x])
theorem y3D(L:List (List Int))(b:Nat)(x:Int)(U:L.length<=5)(X:b<5)(I:L.getD b []≠[]):y3V L b x=z3a L b x:=by
 have G:=z5c L b I;have V:(q0N L).length<=5:=by have:=q2p L L.length;rw[q1b];omega
 have Y:=q2c L U;have E:((q0N L).set b []).length=(q0N L).length:=by simp
 have M: ∀i,((q0N L).set b []).getD i []=if i=b then [] else L.getD i []:=by
  intro i;rw[q1w _ _ _ _ _ G,q1X]
 obtain⟨d,o⟩: ∃d,d=if ((q0N L).set b []).length<=min (b+1) 4 then(q0N L).set b []++[[]] else(q0N L).set b []:=⟨_,rfl⟩
 have s:min (b+1) 4<d.length:=by
  rw[o];split
  ·rename_i h;simp at h⊢;omega
  ·rename_i h;omega
 have D: ∀i,d.getD i []=if i=b then [] else L.getD i []:=by
  intro i;rw[o];split
  ·rw [q4Q]
   split
   ·exact M i
   ·rename_i h
    have:(if i=((q0N L).set b []).length then([]:List Int) else [])=[]:=by split<;>rfl
    rw[this];have h3:(q0N L).getD i []=[]:=q4G _ _ _ (by rw[E] at h;omega);rw[q1X] at h3;rw[h3];split<;>rfl
  ·exact M i
 have R:y3V L b x=d.set (min (b+1) 4) (d.getD (min (b+1) 4) []++[x]):=by rw[o];rfl
 have N: ∀i,(y3V L b x).getD i []=if i=min (b+1) 4 then d.getD i []++[x] else d.getD i []:=by
  intro i;rw[R,q1w _ _ _ _ _ s]
  split
  ·rename_i h;rw[h]
  ·rfl
 have C:q0N (y3V L b x)=y3V L b x:=by
  refine z3P _ (.inr ?_);have F:(y3V L b x).length=d.length:=by rw[R];simp
  rw[F,N]
  split
  ·simp
  ·rename_i W
   rw[D];have q:min (b+1) 4+1<d.length:=by omega
   have y:d=(q0N L).set b []:=by
    rw[o];split
    ·rename_i h
     rw[o,ξ h] at q;simp at q h;omega
    ·rfl
   have S:d.length=(q0N L).length:=by rw[y];simp
   rw[κ (by omega)];have:=z0k L (d.length-1) (by omega)
   rwa [q1X] at this
 rw[<-C];unfold z3a;refine q9c _ _ fun i=>?_
 have J:min (b+1) 4<((q4U L).set b []).length:=by simp;omega
 rw[N,q1w _ _ _ _ _ J];have O: ∀i,((q4U L).set b []).getD i []=if i=b then [] else L.getD i []:=by
  intro i;rw[q1w _ _ _ _ _ (by omega),q5e]
 split
 ·rename_i h;rw[O,D,h]
 ·rw[O,D]
theorem z2v(L:List (List Int))(k:Int)(h:q0e L=false\/k<0\/5<=k):q1E L k=([],2):=by rw[q1E,ξ h]
theorem z0b(L:List (List Int))(k:Int)(h:¬(q0e L=false\/k<0\/5<=k))(h2:L.getD k.toNat []=[]):q1E L k=([],4):=by rw[q1E,κ h,ξ h2]
theorem y1H(L:List (List Int))(k:Int)(h:¬(q0e L=false\/k<0\/5<=k))(h2:¬L.getD k.toNat []=[]):q1E L k=(L.getD k.toNat [],0):=by rw[q1E,κ h,κ h2]
theorem z3H(L:List (List Int))(k x:Int)(h:(q1E L k).2≠0):q0U L k x=([],(q1E L k).2):=by rw[q0U,ξ h]
theorem z3G(L:List (List Int))(k x:Int)(h:¬(q1E L k).2≠0)(h2:x<0\/x∈L.flatten):q0U L k x=([],2):=by rw[q0U,κ h,ξ h2]
theorem z4Y(L:List (List Int))(k x:Int)(h:¬(q1E L k).2≠0)(h2:¬(x<0\/x∈L.flatten)):q0U L k x=(z3a L k.toNat x,0):=by rw[q0U,κ h,κ h2]
theorem z6v(L:List (List Int))(k:Int)(h:¬(q1E L k).2≠0):q0e L=true/\0<=k/\k<5/\L.getD k.toNat []≠[]:=by
 by_cases h1:q0e L=false\/k<0\/5<=k
 ·rw[z2v L k h1] at h;exact(h (by decide)).elim
 ·by_cases h2:L.getD k.toNat []=[]
  ·rw[z0b L k h1 h2] at h;exact(h (by decide)).elim
  ·refine⟨?_,?_,?_,h2⟩
   ·rcases hb:q0e L with _|_
    ·exact(h1 (.inl hb)).elim
    ·rfl
   ·rcases Int.lt_or_le k 0 with h3|h3
    ·exact(h1 (.inr (.inl h3))).elim
    ·exact h3
   ·rcases Int.lt_or_le k 5 with h3|h3
    ·exact h3
    ·exact(h1 (.inr (.inr h3))).elim
theorem z1I(L:List (List Int)): ∀(i:Nat) (r:List Int),i<L.length->((L.set i r).flatten++L.getD i []).Perm (L.flatten++r):=by
 induction L with
 |nil=>intro i r h;simp at h
 | cons a T ih=>
  intro i r h
  cases i with
  | zero=>
   rw[List.perm_iff_count];intro x;simp only[ψ,List.flatten_cons,List.getD_cons_zero,List.count_append];omega
  | succ i=>
   have:=ih i r (by simpa using h);rw[List.perm_iff_count] at this⊢;intro x;have:=this x;simp only[ω,List.flatten_cons,List.getD_cons_succ,List.count_append] at this⊢;omega
theorem q8t(L:List (List Int))(k:Nat):(L++List.replicate k []).flatten=L.flatten:=by simp
theorem z1J(L M:List (List Int))(b:L.length<=M.length)(h: ∀i,L.getD i []=M.getD i []):L.flatten=M.flatten:=by
 rw[<-q8t L (M.length-L.length)]
 congr 1
 refine z5L _ _ [] (by simp;omega) fun i d=>?_
 rw[<-h i];simp only[δ,List.getElem?_append]
 split
 ·rfl
 ·rw[<-δ,List.getElem?_eq_none (l:=L) (by omega)]
  simp only[δ,List.getElem?_replicate]
  split<;>rfl
theorem q1a(L:List (List Int)):(q0N L).flatten=L.flatten:=
 z1J _ _ (by have:=q2p L L.length;rw[q1b];omega) (q1X L)
theorem q7B(L:List (List Int)):(q4U L).flatten=L.flatten:=q8t _ _
theorem q7R{a b c:List Int}(h:(a++c).Perm (b++c)):a.Perm b:=by
 rw[List.perm_iff_count] at h⊢;intro x;have:=h x;simp only[List.count_append] at this;omega
theorem z2C(L:List (List Int))(x:Int)(h:L.length<=5):(q5j L x).flatten.Perm (L.flatten++[x]):=by
 rw[<-z4o L x h,q1a];have b:=q2c L h;have h1:=z1I (q4U L) 0 ((q4U L).getD 0 []++[x]) (by omega);rw[q7B] at h1;refine q7R (h1.trans ?_);rw[List.perm_iff_count];intro y;simp only[List.count_append];omega
theorem z3F(L:List (List Int))(k:Nat)(x:Int)(h:L.length<=5)(b:k<5):((z3a L k x).flatten++L.getD k []).Perm (L.flatten++[x]):=by
 unfold z3a;rw[q1a];have d:=q2c L h;have h1:=z1I (q4U L) k [] (by omega);rw[q7B,q5e] at h1;have h2:=z1I ((q4U L).set k []) (min (k+1) 4) (((q4U L).set k []).getD (min (k+1) 4) []++[x]) (by simp;omega);rw[List.perm_iff_count] at h1 h2⊢;intro y;have:=h1 y;have:=h2 y;simp only[List.count_append,List.count_nil] at*;omega
def GrowI(L:List (List Int))(i:Nat):Prop:=q0e L=true/\ ∀x∈L.flatten,0<=x/\x<i
theorem q2b(h:q0e L=true):L.length<=5/\L.flatten.length<=40/\(∀x∈L.flatten,0<=x)/\L.flatten.Nodup:=by
 unfold q0e at h;exact of_decide_eq_true h
theorem GrowI.notMem(h:GrowI L i):(i:Int)∉L.flatten:=fun b=>by have:=h.2 _ b;omega
theorem z3e(L:List (List Int))(x:Int)(h:L.length<=5):(q5j L x).length<=5:=by
 rw[<-z4o L x h,q1b];have h1:=q2p ((q4U L).set 0 ((q4U L).getD 0 []++[x])) ((q4U L).set 0 ((q4U L).getD 0 []++[x])).length;have h2:=q2c L h;simp only[List.length_set] at h1⊢;omega
theorem z4X(L:List (List Int))(k:Nat)(x:Int)(h:L.length<=5):(z3a L k x).length<=5:=by
 unfold z3a;rw[q1b];have h2:=q2c L h;refine Ω (q2p _ _) ?_;simp only[List.length_set];omega
theorem GrowI.add(h:GrowI L i)(s:L.flatten.length<40):GrowI (q5j L i) (i+1)/\(q5j L i).flatten.length=L.flatten.length+1:=by
 obtain⟨h1,h2,h3,h4⟩:=q2b h.1;have o:=z2C L i h1;have q:=o.length_eq;simp only[θ,χ,List.length_nil] at q;refine⟨⟨q7A _ (z3e L i h1) (by omega) ?_ ?_,?_⟩,q⟩
 ·intro x d
  rcases List.mem_append.1 (o.mem_iff.1 d) with d|d
  ·exact h3 x d
  ·rw[List.mem_singleton.1 d];omega
 ·rw[o.nodup_iff,List.nodup_append]
  refine⟨h4,by simp,fun a y b C=>?_⟩;rw[List.mem_singleton.1 C];intro e;exact h.notMem (e▸y)
 ·intro x d
  rcases List.mem_append.1 (o.mem_iff.1 d) with d|d
  ·have:=h.2 x d;omega
  ·rw[List.mem_singleton.1 d];omega
theorem GrowI.rep{k:Nat}(h:GrowI L i)(I:k<5)(y:L.getD k []≠[]):
  GrowI (z3a L k i) (i+1)/\(z3a L k i).flatten.length+(L.getD k []).length=L.flatten.length+1:=by
 obtain⟨h1,h2,h3,h4⟩:=q2b h.1;have C:=z3F L k i h1 I;have D:=C.length_eq;simp only[θ,χ,List.length_nil] at D;have E:=List.length_pos_iff.2 y;have q:(L.flatten++[(i:Int)]).Nodup:=by
  rw[List.nodup_append];refine⟨h4,by simp,fun a F b G=>?_⟩;rw[List.mem_singleton.1 G];intro e;exact h.notMem (e▸F)
 have s:=(C.nodup_iff.2 q)
 have o: ∀x∈(z3a L k i).flatten,x∈L.flatten\/x=i:=by
  intro x d;rcases List.mem_append.1 (C.mem_iff.1 (List.mem_append.2 (.inl d))) with d|d
  ·exact .inl d
  ·exact .inr (List.mem_singleton.1 d)
 refine⟨⟨q7A _ (z4X L k i h1) (by omega) ?_ (List.nodup_append.1 s).1,?_⟩,D⟩
 ·intro x d
  rcases o x d with d|d
  ·exact h3 x d
  ·omega
 ·intro x d
  rcases o x d with d|d
  ·have:=h.2 x d;omega
  ·omega
theorem GrowI.addS(h:GrowI L i):addS L i=if 40<=L.flatten.length then([],60) else(q5j L i,0):=by
 have:¬(q0e L=false\/(i:Int)<0\/(i:Int)∈L.flatten):=by
  rintro(h1|h1|h1)
  ·rw[h.1] at h1;cases h1
  ·omega
  ·exact h.notMem h1
 unfold Go.Proofs.YteabhdclmodefaaGreatDoor.addS;rw[κ this]
end
section
open Go.RowKit
end
end Go.Proofs.YteabhdclmodefaaGreatDoor
