/- Small laws of no program. -/
import Derived.Test.YtfiibpgoplcgkaaGreatDoorG0SA
import Derived.WalkKit
import Derived.WalkSmall
import Derived.Lib.Hide
import Derived.Deep.QuietTactic
import Derived.BigQuiet
import Derived.Deep.DeepFit
import Derived.Deep.DeepCutAuto
import Derived.Laws.AppendOwnNone
import Derived.Lib.AppendZeros
import Derived.Lib.EndianBits
import Derived.Test.YtfiibpgoplcgkaaGreatDoorChecked
set_option linter.unusedVariables false
set_option linter.unusedSimpArgs false
set_option maxRecDepth 100000
set_option maxHeartbeats 800000
namespace Go.Proofs.YtfiibpgoplcgkaaGreatDoor
variable {a:World}{u v':Value}{ao:Option Addr}{j cap g:Nat}{xs:List Int}{L:List (List Int)}{α:Type}{P:Program}{Q:Exit->Act->World->Prop}{tO tI:TypeId}{vs:List Value}
section
open Go.RowKit
abbrev Ext(w w':World):Prop:=Below w.heap.size w w'
theorem Ext.trans{b c:World}(h:Ext a b)(k:Ext b c):Ext a c:=Below.trans h (Below.mono k h.size)
theorem Ext.refl(w:World):Ext w w:=Below.refl _ _
theorem Ext.drew{w:World}(h:Ext a w):Ext a w.drew:=Below.drew h
theorem Ext.drewN{w:World}(h:Ext a w)(n:Nat):Ext a (w.drewN n):=below_drewN h n
theorem Ext.alloc{w:World}(h:Ext a w)(o:Obj):Ext a (w.alloc o):=Below.alloc h h.size o
theorem q0B(w:World)(o:Obj):Ext w (w.alloc o):=(Ext.refl w).alloc o
theorem q5q(w:World)(o p:Obj):Ext w ((w.alloc o).alloc p):=(q0B w o).alloc p
theorem q7g(w:World)(o p q:Obj):Ext w (((w.alloc o).alloc p).alloc q):=(q5q w o p).alloc q
def Rd(w:World)(ao:Option Addr)(cs:List Value):Prop:=
 ∀j u,cs[j]? =some u-> ∃b off,ao=some ⟨b,off,none⟩/\w.cell? ⟨b,off+j,none⟩=some u
theorem Rd.nil(w:World)(ao:Option Addr):Rd w ao []:=fun j u h=>by simp at h
theorem q0A{w w':World}(h:Ext w w'){a:Addr}(hc:w.cell? a=some u):w'.cell? a=some u:=
 (h.cell (World.block_lt_of_cell? (h:=hc))).trans hc
theorem Rd.ext{w w':World}{cs:List Value}(h:Rd w ao cs)(k:Ext w w'):Rd w' ao cs:=
 fun j u d=>let ⟨b,off,e,hc⟩:=h j u d;⟨b,off,e,q0A k hc⟩
theorem Rd.at{w:World}{cs:List Value}(h:Rd w ao cs)(d:j<cs.length):
  ∃b off,ao=some ⟨b,off,none⟩/\w.cell? ⟨b,off+j,none⟩=some cs[j]:=h j _ (γ d)
theorem Rd.take{w:World}{cs:List Value}(h:Rd w ao cs)(n:Nat):Rd w ao (cs.take n):=by
 intro j u b;refine h j u ?_;rw[List.getElem?_take] at b
 split at b
 ·exact b
 ·cases b
theorem Rd.drop{w:World}{b off:Nat}{cs:List Value}(h:Rd w (some ⟨b,off,none⟩) cs)(n:Nat):Rd w (some ⟨b,off+n,none⟩) (cs.drop n):=by
 intro j u d;rw[List.getElem?_drop] at d;obtain⟨l,i,e,hc⟩:=h _ u d
 cases e;exact⟨b,off+n,rfl,by rw[Nat.add_assoc];exact hc⟩
structure Ints(w:World)(ao:Option Addr)(n cap:Nat)(xs:List Int):Prop where
 len:xs.length=n
 fits:n<=cap
 bound:cap<=9223372036854775807
 nil:ao=none->cap=0
 rd:Rd w ao (xs.map (Value.int .i64))
theorem Ints.ext{w w':World}{n:Nat}(h:Ints w ao n cap xs)(k:Ext w w'):Ints w' ao n cap xs:=
 ⟨h.len,h.fits,h.bound,h.nil,h.rd.ext k⟩
theorem Ints.at{w:World}{n:Nat}(h:Ints w ao n cap xs)(d:j<n):
  ∃b off,ao=some ⟨b,off,none⟩/\w.cell? ⟨b,off+j,none⟩=some (.int .i64 (xs.getD j 0)):=by
 have i:=h.len;obtain⟨b,off,e,hc⟩:=h.rd.at (j:=j) (by simp;omega);refine⟨b,off,e,?_⟩;rw[hc,List.getElem_map,δ,γ (by omega)]
 rfl
structure Grid(w:World)(ao:Option Addr)(n cap:Nat)(L:List (List Int)):Prop where
 len:L.length=n
 fits:n<=cap
 bound:cap<=9223372036854775807
 nil:ao=none->cap=0
 rd: ∀i (h:i<L.length),∃b off ai ci,ao=some ⟨b,off,none⟩/\w.cell? ⟨b,off+i,none⟩=some (.slice ai L[i].length ci)/\Ints w ai L[i].length ci L[i]
theorem Grid.ext{w w':World}{n:Nat}(h:Grid w ao n cap L)(k:Ext w w'):Grid w' ao n cap L:=
 ⟨h.len,h.fits,h.bound,h.nil,fun i d=>let ⟨b,off,ai,ci,e,hc,hr⟩:=h.rd i d;⟨b,off,ai,ci,e,q0A k hc,hr.ext k⟩⟩
theorem Grid.at{w:World}{n:Nat}(h:Grid w ao n cap L){i:Nat}(r:i<n):
  ∃b off d m l,ao=some ⟨b,off,none⟩/\w.cell? ⟨b,off+i,none⟩=some (.slice d m l)/\Ints w d m l (L.getD i []):=by
 have s:=h.len;obtain⟨b,off,d,l,e,hc,q⟩:=h.rd i (by omega);have o:L.getD i []=L[i]:=by rw[δ,γ (by omega)];rfl
 exact⟨b,off,d,_,l,e,hc,by rw[o];exact q⟩
theorem Grid.empty(w:World):Grid w none 0 0 []:=⟨rfl,ι _,by omega,fun _=>rfl,fun i h=>by simp at h⟩
theorem q0Z(xs:List α)(d:α)(k:Nat)(h:k<xs.length):xs.take (k+1)=xs.take k++[xs.getD k d]:=by
 rw[List.take_succ_eq_append_getElem h,δ,γ h];rfl
theorem rb{b c:Bool}(h:c=b):Ending.returned (.bool b)=Ending.returned (.bool c):=by rw[h]
theorem rn{k:IntKind}{b c:Int}(h:c=b):Ending.returned (.int k b)=Ending.returned (.int k c):=by rw[h]
def Own(w:World)(B:Nat)(e:TypeId)(size:Nat)(v:Value)(n:Nat)(cs:List Value):Prop:=
 cs.length=n*size/\
 ((v= .slice none 0 0/\n=0)\/
  ∃g cap cur,v= .slice (some ⟨g,0,none⟩) n cap/\B<=g/\w.heap[g]? =some (.cells cur e (0,0))/\n<=cap/\cap<=9223372036854775807/\cap*size<=cur.size/\cur.toList.take (n*size)=cs)
section own
variable {w w':World}{B B':Nat}{e:TypeId}{size:Nat}{v:Value}{n:Nat}{cs:List Value}
theorem Own.of_row(h:w.ownsRow B e size v n cs):Own w B e size v n cs:=by
 refine⟨h.1,?_⟩;rcases h.2 with l|⟨g,cap,b,rfl,m,o,q,hm,d,i⟩
 ·exact .inl l
 ·exact .inr ⟨g,cap,b,rfl,m,o,q,hm,Nat.le_of_eq d.symm,i⟩
theorem Own.nil(w:World)(B:Nat)(e:TypeId)(size:Nat):Own w B e size (.slice none 0 0) 0 []:=⟨by simp,.inl ⟨rfl,rfl⟩⟩
theorem Own.rd(h:Own w B e size v n cs):
  ∃ao cap,v= .slice ao n cap/\n<=cap/\cap<=9223372036854775807/\(ao=none->cap=0)/\Rd w ao cs:=by
 have r:=h.1;rcases h.2 with⟨rfl,rfl⟩|⟨g,cap,d,rfl,x,o,s,hm,m,l⟩
 ·obtain rfl:cs=[]:=List.eq_nil_of_length_eq_zero (by simpa using r)
  exact⟨none,0,rfl,ι _,by omega,fun _=>rfl,Rd.nil _ _⟩
 ·refine⟨some ⟨g,0,none⟩,cap,rfl,s,hm,(fun q=>by cases q),?_⟩
  intro j u b;refine⟨g,0,rfl,?_⟩;rw[<-l] at b;have i:d.toList[j]? =some u:=by
   rw[List.getElem?_take] at b
   split at b
   ·exact b
   ·cases b
  simp only[World.cell?,o,Nat.zero_add]
  simpa using i
theorem Own.slice(h:Own w B e size v n cs): ∃ao cap,v= .slice ao n cap:=by
 obtain⟨ao,cap,e,_⟩:=h.rd;exact⟨ao,cap,e⟩
theorem Own.lt(h:Own w B e size v n cs): ∀k,v.ownBlock=some k->B<=k/\k<w.heap.size:=by
 intro k b;rcases h.2 with⟨rfl,_⟩|⟨g,cap,d,rfl,i,l,_⟩
 ·cases b
 ·cases b
  exact⟨i,(Array.getElem?_eq_some_iff.1 l).1⟩
theorem Own.base(h:Own w B e size v n cs)(k:B'<=B):Own w B' e size v n cs:=by
 refine⟨h.1,?_⟩;rcases h.2 with d|⟨g,cap,b,rfl,i,r⟩
 ·exact Or.inl d
 ·exact Or.inr ⟨g,cap,b,rfl,Ω k i,r⟩
theorem Own.same(h:Own w B e size v n cs)(k: ∀g,v.ownBlock=some g->w'.heap[g]? =w.heap[g]?):Own w' B e size v n cs:=by
 refine⟨h.1,?_⟩;rcases h.2 with d|⟨g,cap,b,rfl,i,l,r⟩
 ·exact Or.inl d
 ·exact Or.inr ⟨g,cap,b,rfl,i,by rw[k g rfl];exact l,r⟩
theorem Own.ext(h:Own w B e size v n cs)(k:Ext w w'):Own w' B e size v n cs:=h.same fun g b=>k.block g (h.lt g b).2
theorem Own.kept{row:Option Nat}(h:Own w B e size v n cs)(i:w.grownBy w' row)(b: ∀g,v.ownBlock=some g->row≠some g):Own w' B e size v n cs:=
 h.same fun g d=>i.block g (h.lt g d).2 fun e=>b g d e.symm
theorem Own.setOther(h:Own w B e size v n cs){a:Addr}(u:Value)(b:v.ownBlock≠some a.block):Own (w.setCell a u) B e size v n cs:=
 h.same fun _ d=>Below.heap_setCell _ _ _ _ fun e=>b (e▸d)
theorem Own.etype(h:Own w B e size v n cs)(d:v.ownBlock=some g): ∃b,w.heap[g]? =some (.cells b e (0,0)):=by
 rcases h.2 with⟨rfl,_⟩|⟨l,cap,b,rfl,m,i,_⟩
 ·cases d
 ·cases d
  exact⟨b,i⟩
theorem Own.apart{e':TypeId}{b:Nat}{r:Nat}{i:List Value}(h:Own w B e size v n cs)(o:Own w B' e' b v' r i)(m:e≠e'):
  ∀g,v.ownBlock=some g->v'.ownBlock≠some g:=by
 intro g q l;obtain⟨c,hc⟩:=h.etype q;obtain⟨s,d⟩:=o.etype l;rw[hc] at d
 cases d;exact m rfl
theorem Own.cut(h:Own w B e size v n cs){m c:Nat}(hm:m<=c)(d:v= .slice ao n cap)(x:m<=n)(hc:c<=cap):Own w B e size (.slice ao m c) m (cs.take (m*size)):=by
 subst d;have s:=h.1;have b:=Nat.mul_le_mul_right size x;refine⟨by rw[Θ,s,Nat.min_eq_left b],?_⟩;rcases h.2 with⟨d,rfl⟩|⟨g,cap,i,d,o,r,y,C,D,l⟩
 ·cases d
  have:m=0:=by omega
  have:c=0:=by omega
  subst m c;exact .inl ⟨rfl,rfl⟩
 ·cases d
  have q:=Nat.mul_le_mul_right size hc;refine .inr ⟨g,c,i,rfl,o,r,hm,by omega,by omega,?_⟩;rw[<-l,List.take_take,Nat.min_eq_left b]
theorem Own.cell(h:Own w B e size v n cs)(s:j<cs.length): ∃g cap,v= .slice (some ⟨g,0,none⟩) n cap/\w.cell? ⟨g,j,none⟩=some cs[j]/\w.frozen? ⟨g,j,none⟩=false/\B<=g:=by
 have D:=h.1;obtain⟨ao,cap,i,x,y,C,o⟩:=h.rd;obtain⟨b,off,he,hc⟩:=o.at s;rcases h.2 with⟨rfl,rfl⟩|⟨g,l,m,d,q,r,_⟩
 ·cases i;cases he
 ·rw[d] at i
  cases i
  cases he;refine⟨_,_,d,by simpa using hc,by simp[World.frozen?,r],q⟩
theorem Own.cellE(h:Own w B e 1 v n cs)(m:j<n): ∃g cap u,v= .slice (some ⟨g,0,none⟩) n cap/\w.cell? ⟨g,j,none⟩=some u/\w.frozen? ⟨g,j,none⟩=false/\B<=g:=by
 have o:=h.1;obtain⟨g,cap,b,d,i,l⟩:=h.cell (j:=j) (by omega);exact⟨g,cap,_,b,d,i,l⟩
theorem Own.stored(h:Own w B e 1 v n cs)(i:v= .slice (some ⟨g,0,none⟩) n cap)(u:Value):Own (w.setCell ⟨g,j,none⟩ u) B e 1 v n (cs.set j u):=by
 have x:=h.1;refine⟨by simpa using x,?_⟩;rcases h.2 with⟨rfl,_⟩|⟨y,d,b,rfl,r,s,l,m,o,q⟩
 ·cases i
 ·cases i
  refine .inr ⟨g,cap,b.setIfInBounds j u,rfl,r,?_,l,m,by simpa using o,?_⟩
  ·simp only[World.setCell,Array.getElem?_modify,if_true,s,Option.map_some]
   rfl
  ·rw[Array.toList_setIfInBounds,<-q,List.take_set]
theorem Rd.lit(w:World)(c:Array Value)(e:TypeId):Rd (w.alloc (.cells c e)) (some ⟨w.heap.size,0,none⟩) c.toList:=by
 intro j u b;exact⟨_,_,rfl,by simpa using b⟩
end own
theorem q0p{w:World}{ops:Array Oper}{rest:List Oper}{o:Oper}{a:Act}(J:o.guard=none)(s x:Operand)(t:TypeId)
  (ho:o.op= .call {callee:= .builtin .append,args:=#[s,x],argTypes:=#[t,t]})
  (base:Nat)(e:TypeId)(z:Value)(size C:Nat)(ht:P.underlying t=some (.slice e))(V:(P.info? e).map (fun i=>(i.zero,i.size,i.bytes))=some (some z,size,C))
  (g0:z.cells.size=size)(W:0<size)
  (v:Value)(n:Nat)(xs:List Value)(hs:a.eval s=v)(l:Own w base e size v n xs)
  (ao:Option Addr)(m c:Nat)(d:List Value)(hx:a.eval x= .slice ao m c)(Y:d.length=m*size)(e0:ao=none->c=0)(M:Rd w ao d)(X: ∀u∈d,u.oneCell'=true)
  (G:(n+m)*C<=140737488355328)(j0:n+m<=9223372036854775807)(I:base<=w.heap.size)
  (h: ∀v' w',Own w' base e size v' (n+m) (xs++d)->w.grownBy w' v.ownBlock->(v'.ownBlock=v.ownBlock\/ ∀g,v'.ownBlock=some g->w.heap.size<=g)->wpList P ops Q rest (a.put o.dst v') w'):wpList P ops Q (o::rest) a w:=by
 obtain⟨i,hi,hz,q,a0⟩:=info_parts V
 cases ao with
 | some ad =>
  have D: ∀j u,d[j]? =some u->w.cell? (ad.add j)=some u:=by
   intro j u hj;obtain⟨b,off,e,hc⟩:=M j u hj
   cases e;rw[Addr.add_lit];exact hc
  have O:=l.1;rcases l.2 with⟨rfl,rfl⟩|⟨g,cap,S,rfl,Z,U,d0,b0,h0,N⟩
  ·obtain rfl:xs=[]:=List.eq_nil_of_length_eq_zero (by simpa using O)
   exact wpList_append_own w J s x t ho w.heap.size e i z size C ht hi hz q a0 g0 W _ 0 [] hs (World.ownsRow_nil _ _ _ _) ad m c d hx Y D X (by unfold maxLen;omega) G (ι _) (fun v' w' X h2 _=>h v' w' ((Own.of_row X).base I) h2 (.inr fun g U=>((Own.of_row X).lt g U).1))
  ·by_cases E:n+m<=cap
   ·have c0:=Nat.mul_le_mul_right size E
    rw[Nat.add_mul] at c0;have hr:=run_append_room (P:=P) w t o.type e i ht hi g n cap S U ad m c d (by rw[q];exact Y) D X E (by rw[q];omega);rw[q] at hr;refine Lib.wpList_append_run w J s x t t ho _ _ hs hx _ _ hr (h _ _ ⟨by simp[O,Y,Nat.add_mul],.inr ⟨g,cap,_,rfl,Z,setRow_heap w g S _ e _ U,E,b0,?_,?_⟩⟩ ⟨rfl,rfl,rfl,by simp,fun k _ hk=>setRow_other w g k _ (fun e=>hk (by simp[Value.ownBlock,e]))⟩ (.inl rfl))
    ·simp only[List.size_toArray,θ,Θ,List.length_drop,Array.length_toList]
     omega
    ·rw[N,show(n+m)*size=(xs++d).length from by simp[O,Y,Nat.add_mul]]
     exact List.take_left
   ·refine wpList_append_grows w J s x t ho e i z size C ht hi hz q a0 g0 W (some ⟨g,0,none⟩) n cap xs hs (fun hh=>by cases hh) O ?_ ad m c d hx Y D X (by omega) (by unfold maxLen;omega) G ?_
    ·intro b hb j u hj
     cases hb;obtain⟨_,_,_,_,_,_,k0⟩:=l.rd;have: ∃ao F,(Value.slice (some ⟨g,0,none⟩) n cap)= .slice ao n F/\Rd w ao xs:=by
      obtain⟨ao,F,e1,_,_,_,r⟩:=l.rd;exact⟨ao,F,e1,r⟩
     obtain⟨ao,F,e1,r⟩:=this
     cases e1;obtain⟨b,off,e2,hc⟩:=r j u hj
     cases e2;rw[Addr.add_lit];exact hc
    ·intro v' w' r1 r2
     exact h v' w' ((Own.of_row r1).base I) ⟨r2.os,r2.tape,r2.output,r2.size,fun k hk _=>r2.block k hk (by simp)⟩ (.inr fun g U=>((Own.of_row r1).lt g U).1)
 | none =>
  have i0:d=[]:=by
   cases d with
   |nil=>rfl
   |cons y ys=>obtain⟨b,off,e,_⟩:=M 0 y rfl;cases e
  subst i0;have hm:m=0:=by
   rcases Nat.eq_zero_or_pos m with h|h
   ·exact h
   ·have:=Nat.mul_pos h W;simp at Y;omega
  subst hm;obtain rfl:=e0 rfl;have O:=l.1;have R:wpList P ops Q rest (a.put o.dst v) w:=by
   have:=h v w (by simpa using l) (World.grownBy.refl w _) (.inl rfl);exact this
  rcases l.2 with⟨rfl,rfl⟩|⟨g,cap,S,rfl,Z,U,d0,b0,h0,N⟩
  ·exact wpList_append_own_none J s x t ho base e i size ht hi _ 0 [] hs (World.ownsRow_nil _ _ _ _) hx R
  ·have f0:(Builtin.append_ #[t,t] o.type #[.slice (some ⟨g,0,none⟩) n cap,.slice none 0 0]).run P w= .ok (.slice (some ⟨g,0,none⟩) n cap) w:=by
    simp[Builtin.append_,run_underlying ht,sizeOf,typeInfo,hi,Builtin.lenOf,d0,Builtin.firstCells,storeCells]
   exact Lib.wpList_append_run w J s x t t ho _ _ hs hx _ _ f0 R
theorem q1d{B:Nat}{e:TypeId}{size:Nat}{v:Value}{n:Nat}{xs:List Value}{w0 w w':World}(h:Below B w0 w)(b:Own w B e size v n xs)(i:w.grownBy w' v.ownBlock)(d:B<=w.heap.size):Below B w0 w':=
 h.grown i d fun k l=>(b.lt k l).1
theorem q3I{w:World}{B:Nat}{e:TypeId}{v:Value}{n:Nat}(h:Own w B e 1 v n (xs.map (Value.int .i64))):
  ∃ao cap,v= .slice ao n cap/\Ints w ao n cap xs:=by
 have m:=h.1;obtain⟨ao,cap,rfl,b,d,i,l⟩:=h.rd;exact⟨ao,cap,rfl,by simpa using m,b,d,i,l⟩
theorem Ints.lit(w:World)(xs:List Int)(t:TypeId)(n:Nat)(d:xs.length=n)(b:n<=9223372036854775807):Ints (w.alloc (.cells (xs.map (Value.int .i64)).toArray t)) (some ⟨w.heap.size,0,none⟩) n n xs:=by
 refine⟨d,ι _,b,(fun h=>by cases h),?_⟩;have:=Rd.lit w (xs.map (Value.int .i64)).toArray t
 simpa using this
structure OGr(w:World)(B:Nat)(tO tI:TypeId)(v:Value)(vs:List Value)(L:List (List Int)):Prop where
 own:Own w B tO 1 v L.length vs
 row: ∀i,Own w B tI 1 (vs.getD i (.slice none 0 0)) (L.getD i []).length ((L.getD i []).map (Value.int .i64))
 sep: ∀i j g,i≠j->(vs.getD i (.slice none 0 0)).ownBlock=some g->(vs.getD j (.slice none 0 0)).ownBlock≠some g
theorem OGr.nil(w:World)(B:Nat)(tO tI:TypeId):OGr w B tO tI (.slice none 0 0) [] []:=
 ⟨Own.nil _ _ _ _,fun i=>by simpa using Own.nil _ _ _ _,fun i j g _ h=>by simp[Value.ownBlock] at h⟩
theorem OGr.ext{w w':World}{B:Nat}{v:Value}(h:OGr w B tO tI v vs L)(k:Ext w w'):OGr w' B tO tI v vs L:=
 ⟨h.own.ext k,fun i=>(h.row i).ext k,h.sep⟩
theorem OGr.base{w:World}{B B':Nat}{v:Value}(h:OGr w B tO tI v vs L)(k:B'<=B):OGr w B' tO tI v vs L:=
 ⟨h.own.base k,fun i=>(h.row i).base k,h.sep⟩
theorem q5t(l:List α)(x d:α)(i:Nat):(l++[x]).getD i d=if i<l.length then l.getD i d else if i=l.length then x else d:=by
 simp only[δ,List.getElem?_append];by_cases h:i<l.length
 ·simp[h]
 ·by_cases b:i=l.length
  ·simp[b]
  ·simp only[h,b,if_false]
   rw[List.getElem?_eq_none (by simp;omega)]
   rfl
theorem OGr.push{w w':World}{B B':Nat}{v D:Value}{l:List Int}(h:OGr w B tO tI v vs L)(o:tO≠tI)
  (r:Own w B' tI 1 D l.length (l.map (Value.int .i64)))(G:B<=B')(b: ∀j g,(vs.getD j (.slice none 0 0)).ownBlock=some g->g<B')
  (q:Own w' B tO 1 v' (L.length+1) (vs++[D]))(E:w.grownBy w' v.ownBlock):OGr w' B tO tI v' (vs++[D]) (L++[l]):=by
 have C:vs.length=L.length:=by simpa using h.own.1
 refine⟨by simpa using q,fun i=>?_,fun i j g y=>?_⟩
 ·rw [q5t,q5t,C]
  split
  ·exact(h.row i).kept E fun g s d=>(h.own.apart (h.row i) o) g d s
  ·split
   ·exact(r.base G).kept E fun g s d=>(h.own.apart r o) g d s
   ·exact Own.nil _ _ _ _
 ·rw [q5t,q5t]
  by_cases F:i<vs.length
  ·rw [ξ F]
   by_cases m:j<vs.length
   ·rw[ξ m];exact h.sep i j g y
   ·rw[κ m]
    intro x;have:=b i g x
    split
    ·intro d;have:=(r.lt g d).1;omega
    ·simp[Value.ownBlock]
  ·rw [κ F]
   split
   ·rename_i I
    intro d;have:=(r.lt g d).1;by_cases m:j<vs.length
    ·rw[ξ m];intro J;have:=b j g J;omega
    ·rw[κ m,κ (by omega)];simp[Value.ownBlock]
   ·simp[Value.ownBlock]
theorem OGr.lt{w:World}{B:Nat}{v:Value}(h:OGr w B tO tI v vs L): ∀j g,(vs.getD j (.slice none 0 0)).ownBlock=some g->g<w.heap.size:=
 fun j g b=>((h.row j).lt g b).2
theorem OGr.grid{w:World}{B:Nat}{v:Value}(h:OGr w B tO tI v vs L): ∃ao cap,v= .slice ao L.length cap/\Grid w ao L.length cap L:=by
 have D:vs.length=L.length:=by simpa using h.own.1
 obtain⟨ao,cap,C,q,r,s,x⟩:=h.own.rd;refine⟨ao,cap,C,rfl,q,r,s,fun i y=>?_⟩;obtain⟨b,off,e,hc⟩:=x.at (j:=i) (by omega);have d:=h.row i;rw[δ,γ (by omega),δ,γ y] at d;obtain⟨m,o,he,l⟩:=q3I d;simp only[Option.getD_some] at he l;exact⟨b,off,m,o,e,by rw[hc,he],l⟩
def y3N :Value->Nat| .slice _ n _=>n|_=>0
def y3C(t:TypeId)(w:World)(xs:List Int)(e:Ending)(w':World):Prop:=
 ∃v,e= .returned v/\Own w' w.heap.size t 1 v xs.length (xs.map (Value.int .i64))/\Ext w w'
theorem q2U(L:List (List α))(k:Nat):(L.take k).flatten.length<=L.flatten.length:=by
 conv=>rhs;rw[<-List.take_append_drop k L,List.flatten_append,θ]
 omega
theorem q2e(L:List (List α))(k:Nat)(h:k<L.length):(L.take (k+1)).flatten=(L.take k).flatten++L.getD k []:=by
 rw[q0Z L [] k h];simp
structure ExtOf(w:World) where
 w':World
 h:Ext w w'
instance (w :World):Nonempty (ExtOf w):=⟨⟨w,Ext.refl w⟩⟩
theorem q0E{id:Nat}{a:Act}{w:World}{l:List Oper}(hm:P.follows .mixedOrders=true)(d:Region.lexB .any l.toArray=true)
  (h:wpQuiet P l.toArray (fun w'=> ∃x:ExtOf w,w'=x.w') (fun b=> ∀w',Ext w w'->Q .normal b w') l a):(Code.region id l.toArray true).wp P Q a w:=by
 refine wp_region_quiet (C:=fun w'=> ∃x:ExtOf w,w'=x.w') hm d ⟨⟨w.drew,(Ext.refl w).drew⟩,rfl⟩ ?_;have e:(fun b=> ∀w',Ext w w'->Q .normal b w')=(fun b=> ∀w',(∃x:ExtOf w,w'=x.w')->Q .normal b w'):=by
  funext b
  exact propext ⟨fun h w' ⟨x,m⟩=>m▸h _ x.h,fun h w' i=>h w' ⟨⟨w',i⟩,rfl⟩⟩
 rw[<-e]
 simpa using h
theorem Calls.quiet_ext{f:FuncId}{args:Array Value}{w:World}{x:ExtOf w}{v:Value}
  (h:Calls P f args x.w' fun e w'=>e= .returned v/\Ext x.w' w'):Calls P f args x.w' fun e b=>e= .returned v/\ ∃y:ExtOf w,b=y.w':=
 h.mono fun _ w' ⟨he,hm⟩=>⟨he,⟨w',x.h.trans hm⟩,rfl⟩
theorem q0D{w:World}{a:Addr}(hc:w.cell? a=some u)(x:ExtOf w):x.w'.cell? a=some u:=q0A x.h hc
end
section
def be :Nat->Nat->List UInt8
 |0,_=>[]
 |k+1,x=>UInt8.ofNat (x/256^k)::be k x
def q1O(l:List UInt8):Nat:=l.foldl (fun a b=>a*256+b.toNat) 0
theorem q0H(k x:Nat):(be k x).length=k:=by
 induction k with
 |zero=>rfl
 |succ k ih=>simp[be,ih]
theorem z5a(l:List UInt8): ∀a,l.foldl (fun a b=>a*256+b.toNat) a=a*256^l.length+q1O l:=by
 induction l with
 |nil=>intro a;simp[q1O]
 | cons b l ih=>
  intro a;have d:q1O (b::l)=(0*256+b.toNat)*256^l.length+q1O l:=by
   unfold q1O;rw[List.foldl_cons];exact ih _
  rw[List.foldl_cons,ih,d,χ,Nat.pow_succ,Nat.add_mul,Nat.zero_mul,Nat.zero_add,Nat.mul_assoc,Nat.mul_comm 256,Nat.add_assoc]
theorem q8J(b:UInt8)(l:List UInt8):q1O (b::l)=b.toNat*256^l.length+q1O l:=by
 unfold q1O;rw[List.foldl_cons,z5a];simp[q1O]
theorem z7z(l:List UInt8)(b:UInt8):q1O (l++[b])=q1O l*256+b.toNat:=by
 unfold q1O;rw[List.foldl_append];rfl
theorem q2O(l:List UInt8):q1O l<256^l.length:=by
 induction l with
 |nil=>simp[q1O]
 | cons b l ih=>
  rw[q8J,χ,Nat.pow_succ];have:=b.toNat_lt;have h:b.toNat*256^l.length<=255*256^l.length:=Nat.mul_le_mul_right _ (by omega);omega
theorem q4q(k x:Nat):q1O (be k x)=x % 256^k:=by
 induction k with
 |zero=>simp[be,q1O,Nat.mod_one]
 | succ k ih=>
  rw[be,q8J,q0H,ih,Nat.pow_succ,Nat.mod_mul];simp only[UInt8.toNat_ofNat'];rw[Nat.mul_comm (256^k),Nat.add_comm]
theorem q9R(l:List UInt8):be l.length (q1O l)=l:=by
 induction l with
 |nil=>rfl
 | cons b l ih=>
  have h:=q2O l;have r:0<256^l.length:=Nat.pow_pos (by decide);rw[χ,be,q8J];have i:(b.toNat*256^l.length+q1O l)/256^l.length=b.toNat:=by
   rw[Nat.add_comm,Nat.add_mul_div_right _ _ r,Nat.div_eq_of_lt h];omega
  have m : ∀k,k<=l.length->be k (b.toNat*256^l.length+q1O l)=be k (q1O l):=by
   intro k
   induction k with
   |zero=>intro _;rfl
   | succ k ih2=>
    intro s;rw[be,be,ih2 (by omega)]
    congr 1
    have o:256^l.length=256^k*(256*256^(l.length-k-1)):=by
     rw[<-Nat.mul_assoc,<-Nat.pow_succ,<-Nat.pow_add];congr 1;omega
    have d:0<256^k:=Nat.pow_pos (by decide);have q:(b.toNat*256^l.length+q1O l)/256^k=b.toNat*256^(l.length-k-1)*256+q1O l/256^k:=by
     rw [o,show b.toNat*(256^k*(256*256^(l.length-k-1)))+q1O l=q1O l+256^k*(b.toNat*256^(l.length-k-1)*256) from by
      rw[Nat.add_comm];congr 1;rw[Nat.mul_left_comm,Nat.mul_comm 256 (256^_),<-Nat.mul_assoc b.toNat],
      Nat.add_mul_div_left _ _ d,Nat.add_comm]
    rw[q];apply UInt8.toNat_inj.1;simp only[UInt8.toNat_ofNat'];omega
  rw[i,m _ (ι _),ih]
  congr 1
  apply UInt8.toNat_inj.1;simp
theorem y1R(n:Nat)(L:List Value)(z v:Value):(List.replicate (n+1) z++L).set n v=List.replicate n z++v::L:=by
 rw[List.replicate_succ',List.append_assoc,List.set_append];simp
theorem z9W(X k:Nat):((X:Int)/2^(8*k) % 256)=((UInt8.ofNat (X/256^k)).toNat:Int):=by
 have:(2:Nat)^(8*k)=256^k:=by rw[Nat.pow_mul]
 rw[UInt8.toNat_ofNat'];rw[<-this];simp
theorem z3D(Z:Int)(b:UInt8)(i:0<=Z)(l:Z<72057594037927936):bits .or .u64 (Z*256) (IntKind.u64.wrap (b.toNat:Int))=Z*256+(b.toNat:Int):=by
 have m:=b.toNat_lt;have d:IntKind.u64.wrap (b.toNat:Int)=(b.toNat:Int):=by rw[Go.IntKind.wrap_u64];omega
 rw[d];exact bits_join .u64 64 (by decide) wraps_u64 8 _ _ (by omega) (by omega) (by omega) (by omega) (by omega) (by omega)
def crcPoly :BitVec 32:=0xedb88320#32
def z3S(s:BitVec 32):BitVec 32:=(s>>>1)^^^(crcPoly&&& -(s&&&1#32))
def q7Y :Nat->BitVec 32->BitVec 32
 |0,s=>s
 |k+1,s=>z3S (q7Y k s)
def q4B(s:BitVec 32)(c:UInt8):BitVec 32:=q7Y 8 (s^^^BitVec.ofNat 32 c.toNat)
def q1o(l:List UInt8):BitVec 32:= ~~~(l.foldl q4B (~~~0#32))
theorem q4L(s:BitVec 32):BitVec.ofInt 32 (s.toNat:Int)=s:=by
 rw[BitVec.ofInt_natCast];simp
theorem z8G(s:BitVec 32):IntKind.u32.wrap (s.toNat:Int)=(s.toNat:Int):=by
 have:=s.isLt;rw[IntKind.wrap_u32];omega
theorem q5R(s t:BitVec 32):bits .xor .u32 (s.toNat:Int) (t.toNat:Int)=((s^^^t).toNat:Int):=by
 show IntKind.u32.wrap ((BitVec.ofInt 32 (s.toNat:Int)^^^BitVec.ofInt 32 (t.toNat:Int)).toNat:Int)=_;rw[q4L,q4L,z8G]
theorem q7O(s t:BitVec 32):bits .and .u32 (s.toNat:Int) (t.toNat:Int)=((s&&&t).toNat:Int):=by
 show IntKind.u32.wrap ((BitVec.ofInt 32 (s.toNat:Int)&&&BitVec.ofInt 32 (t.toNat:Int)).toNat:Int)=_;rw[q4L,q4L,z8G]
theorem y2m(s:BitVec 32):((s.toNat:Nat):Int)/(2:Int)=((s>>>1).toNat:Int):=by
 rw[BitVec.toNat_ushiftRight,Nat.shiftRight_eq_div_pow];simp
theorem y2V(s:BitVec 32): -(s.toNat:Int) % 4294967296=((-s).toNat:Int):=by
 have:=s.isLt;rw[BitVec.toNat_neg];omega
theorem y2a(s:BitVec 32):bits .xor .u32 IntKind.u32.max (s.toNat:Int)=((~~~s).toNat:Int):=by
 have h:IntKind.u32.max=((BitVec.allOnes 32).toNat:Int):=by decide
 rw[h,q5R]
 congr 2
theorem y1X(s:BitVec 32):bits .xor .u32 ((s.toNat:Int)/2) (bits .and .u32 3988292384 (-bits .and .u32 (s.toNat:Int) 1 % 4294967296))=((z3S s).toNat:Int):=by
 have b:(1:Int)=((1#32).toNat:Int):=rfl;have d:(3988292384:Int)=(crcPoly.toNat:Int):=rfl;rw[b,q7O,y2V,d,q7O,y2m,q5R]
 rfl
theorem y0X(c:UInt8):((BitVec.ofNat 32 c.toNat).toNat:Int)=(c.toNat:Int):=by
 have:=c.toNat_lt;rw[BitVec.toNat_ofNat];omega
end
section
open Go.RowKit
theorem Tryz.infoInt :(Tryz.prog.info? 3).map (fun i=>(i.zero,i.size,i.bytes))=some (some (.int .i64 0),1,8):=by kernel_rfl
theorem Tryz.infoInts :(Tryz.prog.info? 37).map (fun i=>(i.zero,i.size,i.bytes))=some (some (.slice none 0 0),1,24):=by kernel_rfl
theorem y2E(n:Nat)(w:World)(E:n<=17592186044416):
  Calls Tryz.prog 109 #[.slice none 0 0,.int .i64 n] w (y3C 3 w []):=by
 by_cases y:n=0
 ·subst y
  go_enter Tryz.func109,Tryz.ntmps109;go_wp2_with fail;go_ret;exact⟨_,rfl,Own.nil _ _ _ _,Ext.refl _⟩
 ·have C:0<n:=by omega
  obtain⟨i,q,s,b,d⟩:=info_parts Tryz.infoInt;have r:=Lib.run_append_nil_zeros (P:=Tryz.prog) w 37 3 37 3 i (.int .i64 0) .i64 .i64 Tryz.underlying37 Tryz.underlying3 q s n C (by omega) (by omega) (by rw[d];omega);have x:=η r;clear r;have l:=η (grownCap_ge w n 0 3);have m:=η (grownCap_le_maxLen w n 0 3 (by unfold maxLen;omega));have D:=η b;clear q s b d;go_enter Tryz.func109,Tryz.ntmps109
  go_wp2_with (at_builtin;refine Lib.wpList_append_run _ rfl _ _ _ _ rfl _ _ rfl rfl _ _ x.o ?_)
  go_ret;refine⟨_,rfl,Own.of_row ⟨rfl,.inr ⟨w.heap.size,grownCap w n 0 3,_,rfl,ι _,heap_alloc_new w.drew _,υ _,m.o,?_,rfl⟩⟩,(Ext.refl w).drew.alloc _⟩;have:=l.o;simp[size_zeroCells];omega
theorem z8W(ao:Option Addr)(n cap:Nat)(L:List (List Int))(w:World)(S:Grid w ao n cap L)(b0:L.flatten.length<=17592186044416):
  Calls Tryz.prog 60 #[.slice ao n cap] w (y3C 3 w L.flatten):=by
 have I:=η S;have b1:=S.fits;have b2:=S.bound;clear S;go_enter Tryz.func60,Tryz.ntmps60;go_wp2_with fail
 go_loopw [3,11] (fun s i w'=> ∃k:Nat,k<=n/\i= .int .i64 k/\s= .int .i64 (L.take k).flatten.length/\Ext w w') (fun _ i _=>n-(intOf i).toNat)
 case atStart=>exact⟨0,υ _,rfl,rfl,Ext.refl _⟩
 case round=>
  obtain⟨k,hk,rfl,rfl,N⟩:=hrel;have r:=η N;clear N;by_cases C:k<n
  ·obtain⟨b,off,ai,U,ci,rfl,c1,O⟩:=(I.o.ext r.o).at C
   have R1:=η O;clear O;have E:k<L.length:=by rw[I.o.len];exact C
   have J:=q2e L k E;have G:=q2U L (k+1);have d:(L.take k).flatten.length+U=(L.take (k+1)).flatten.length:=by rw[J,θ,R1.o.len]
   have M:=η d;have g1:(L.take k).flatten.length+U<=17592186044416:=by omega
   clear J G d;generalize (L.take k).flatten.length=F at*;go_wp2_with fail
   go_roundw
   case rel=>exact⟨k+1,by omega,by go_num,by rw[<-M.o];go_num,r.o⟩
   case measure=>simp[intOf];omega
  ·have q:L.take k=L:=Δ (by have:=I.o.len;omega)
   have Y:=η q;have hF:(L.take k).flatten.length=L.flatten.length:=by rw[q]
   rw[hF];clear q hF;generalize hF:L.flatten.length=F at*;have HF:=η hF;clear hF
   go_wp2_with (go_at_call 109;(with_reducible refine(y2E F _ (by omega)).mono ?_);rintro e w1 ⟨v1,rfl,l,y⟩)
   have X:=η (r.o.trans y);have D:Own w1 w.heap.size 3 1 v1 0 []:=l.base r.o.size;have R:=η D;clear l D y r
   go_loopw [6,27] (fun v i w'=> ∃k:Nat,k<=n/\i= .int .i64 k/\Own w' w.heap.size 3 1 v (L.take k).flatten.length ((L.take k).flatten.map (Value.int .i64))/\Ext w w') (fun _ i _=>n-(intOf i).toNat)
   case atStart=>exact⟨0,υ _,rfl,R.o,X.o⟩
   case round=>
    clear R X;obtain⟨k,hk,rfl,l,N⟩:=hrel;have r:=η N;clear N;have x:=η l;clear l;by_cases C:k<n
    ·obtain⟨b,off,ai,U,ci,rfl,c1,O⟩:=(I.o.ext r.o).at C
     have R1:=η O;clear O;have E:k<L.length:=by rw[I.o.len];exact C
     have J:=q2e L k E;have G:=q2U L (k+1);have d:(L.take k).flatten.length+U=(L.take (k+1)).flatten.length:=by rw[J,θ,R1.o.len]
     have HS:=η J;clear J;have M:=η d;clear d;have W:=HF.o;have a0:(L.take (k+1)).flatten.length<=F:=by omega
     clear W G
     go_wp2_with (at_builtin;refine q0p rfl _ _ 37 rfl w.heap.size 3 _ 1 8 Tryz.underlying37 Tryz.infoInt rfl (by decide) _ _ _ rfl x.o _ _ _ ((L.getD k []).map (Value.int .i64)) rfl (by rw[List.length_map,R1.o.len];omega) R1.o.nil R1.o.rd (ints_oneCell _ _) (by have:=M.o;omega) (by have:=M.o;omega) r.o.size ?_;intro v' w2 m Z _)
     have y:=q1d r.o x.o Z r.o.size;have V:=η y;clear y;rw[<-List.map_append,<-HS.o,M.o] at m;have R:=η m;clear m Z;go_wp2_with fail
     go_roundw
     case rel=>exact⟨k+1,by omega,by go_num,R.o,V.o⟩
     case measure=>simp[intOf];omega
    ·have q:L.take k=L:=Δ (by have:=I.o.len;omega)
     have Y:=η q;clear q;go_wp2_with fail;go_ret;exact⟨_,rfl,by have:=x.o;rw[Y.o] at this;exact this,r.o⟩
theorem z4U(ao:Option Addr)(n cap:Nat)(L:List (List Int))(w:World)(i:Grid w ao n cap L)(b:L.flatten.length<=17592186044416):
  Calls Tryz.prog 15 #[.slice ao n cap] w (y3C 3 w L.flatten):=by
 have l:=η i;clear i;go_enter Tryz.func15,Tryz.ntmps15
 go_wp2_with (go_at_call 60;(with_reducible refine(z8W _ _ _ L _ l.o b).mono ?_);rintro e w1 ⟨q,rfl,d,m⟩)
 go_ret;exact⟨_,rfl,by assumption,by assumption⟩
end
section
def q2I(L:List (List Int)):Nat->Nat
 |0=>0
 |n+1=>if L.getD n []=[] then q2I L n else n+1
def q1A(L:List (List Int)):List (List Int):=L.take (q2I L L.length)
theorem q6F(L:List (List Int))(n:Nat):q2I L n<=n:=by
 induction n with
 |zero=>exact ι _
 |succ n ih=>rw[q2I];split<;>omega
theorem z3A(L:List (List Int))(n:Nat)(h:L.getD n []=[]):q2I L (n+1)=q2I L n:=by rw[q2I,ξ h]
theorem q9J(L:List (List Int))(n:Nat)(h:L.getD n []≠[]):q2I L (n+1)=n+1:=by rw[q2I,κ h]
theorem z1A(L:List α)(d:α)(m i:Nat)(h:i<m):(L.take m).getD i d=L.getD i d:=by
 simp only[δ,List.getElem?_take,h,if_true]
theorem q9j(L:List α)(d:α)(i:Nat)(h:L.length<=i):L.getD i d=d:=by
 rw[δ,List.getElem?_eq_none h];rfl
theorem z8q(L M:List α)(d:α)(l:L.length=M.length)(h: ∀i,i<L.length->L.getD i d=M.getD i d):L=M:=by
 apply List.ext_getElem l;intro i b m;have:=h i b;rw[δ,δ,γ b,γ m] at this;exact this
theorem q6d(L:List (List Int))(i:Nat):(q1A L).getD i []=L.getD i []:=by
 unfold q1A;rcases Nat.lt_or_ge i (q2I L L.length) with h|h
 ·exact z1A _ _ _ _ h
 ·rw [q9j _ _ _ (by simp;omega)]
  have : ∀ n,q2I L n<=i->i<n->L.getD i []=[]:=by
   intro n
   induction n with
   |zero=>intro _ b;omega
   | succ n ih=>
    intro d b;rw[q2I] at d
    split at d
    ·rename_i he
     rcases Nat.lt_or_ge i n with l|l
     ·exact ih d l
     ·have:i=n:=by omega
      subst this;exact he
    ·omega
  rcases Nat.lt_or_ge i L.length with b|b
  ·exact(this _ h b).symm
  ·exact(q9j _ _ _ b).symm
theorem q3h(L:List (List Int)):(q1A L).length=q2I L L.length:=by have:=q6F L L.length;simp[q1A];omega
def q1x(L:List (List Int)):Bool:=decide (L.length<=5/\L.flatten.length<=40/\(∀x∈L.flatten,0<=x)/\L.flatten.Nodup)
theorem q4J(xs:List Int)(k:Nat)(h:k<xs.length):xs.getD k 0∈xs:=by
 rw[δ,γ h];exact List.getElem_mem h
theorem z3G(L:List (List Int))(h:5<L.length):q1x L=false:=by unfold q1x;rw[decide_eq_false_iff_not];rintro⟨b,_⟩;omega
theorem z1k(L:List (List Int))(h:40<L.flatten.length):q1x L=false:=by unfold q1x;rw[decide_eq_false_iff_not];rintro⟨_,b,_⟩;omega
theorem z5e(L:List (List Int))(k:Nat)(d:k<L.flatten.length)(h:L.flatten.getD k 0<0):q1x L=false:=by
 unfold q1x;rw[decide_eq_false_iff_not];rintro⟨_,_,b,_⟩;have:=b _ (q4J _ k d);omega
theorem z5d(L:List (List Int))(k:Nat)(i:k<L.flatten.length)(h:L.flatten.getD k 0∈L.flatten.take k):q1x L=false:=by
 unfold q1x;rw[decide_eq_false_iff_not];rintro⟨_,_,_,d⟩;have b:=d.sublist (List.take_sublist (k+1) _);rw[q0Z _ 0 k i] at b;have:=(List.nodup_append.1 b).2.2 _ h _ (List.mem_singleton.2 rfl);exact this rfl
theorem z1l(L:List (List Int))(b:L.length<=5)(d:L.flatten.length<=40)(i: ∀x∈L.flatten,0<=x)(l:L.flatten.Nodup):q1x L=true:=by
 unfold q1x;exact ζ ⟨b,d,i,l⟩
theorem q7A(xs:List Int)(k:Nat)(d:k<xs.length)(b: ∀x∈xs.take k,0<=x)(l:¬xs.getD k 0<0): ∀x∈xs.take (k+1),0<=x:=by
 rw[q0Z _ 0 k d];intro x i;rcases List.mem_append.1 i with h|h
 ·exact b x h
 ·rw[List.mem_singleton.1 h];omega
theorem q7v(xs:List Int)(k:Nat)(o:k<xs.length)(d:(xs.take k).Nodup)(i:xs.getD k 0∉xs.take k):(xs.take (k+1)).Nodup:=by
 rw[q0Z _ 0 k o,List.nodup_append];refine⟨d,by simp,fun a l b m=>?_⟩;rw[List.mem_singleton.1 m];intro e;exact i (e▸l)
theorem q9t(xs:List Int)(k:Nat)(b:k<xs.length)(x:Int):(x∈xs.take (k+1))↔(x∈xs.take k\/x=xs.getD k 0):=by
 rw[q0Z _ 0 k b,List.mem_append,Γ]
theorem q8a(L:List (List Int))(i:Nat):(L.getD i []).length<=L.flatten.length:=by
 rcases Nat.lt_or_ge i L.length with h|h
 ·have b:=q2e L i h
  have d:=q2U L (i+1);rw[b,θ] at d;omega
 ·rw[q9j _ _ _ h];simp
theorem z7w(T:List (List Int))(h:T=[]\/T.getD (T.length-1) []≠[]):q1A T=T:=by
 rcases h with rfl|h
 ·rfl
 ·have d:0<T.length:=by
   rcases Nat.eq_zero_or_pos T.length with b|b
   ·have:T=[]:=List.eq_nil_of_length_eq_zero b
    subst this;simp at h
   ·exact b
  obtain⟨m,hm⟩: ∃m,T.length=m+1:=⟨T.length-1,by omega⟩
  unfold q1A;rw[hm] at h⊢;rw[q9J T m (by simpa using h),<-hm,List.take_length]
theorem z5Z(L:List (List Int)): ∀n m,q2I L n=m+1->L.getD m []≠[]:=by
 intro n
 induction n with
 |zero=>intro m h;simp[q2I] at h
 | succ n ih=>
  intro m h;rw[q2I] at h
  split at h
  ·exact ih m h
  ·rename_i b
   have:n=m:=by omega
   subst this;exact b
theorem z5Y(L:List (List Int))(m:Nat)(h:(q1A L).length=m+1):(q1A L).getD m []≠[]:=by
 rw[q6d];rw[q3h] at h;exact z5Z L _ m h
end
section
open Go.RowKit
theorem q9O(p:α->Bool)(d:α)(L:List α)(k:Nat)(h:k<L.length)(b:(L.take k).any p=false)(i:p (L.getD k d)=false):(L.take (k+1)).any p=false:=by
 rw[q0Z L d k h,List.any_append,b];simp only[List.any_cons,List.any_nil,i,Bool.or_self]
theorem z1u(p:α->Bool)(d:α)(L:List α)(k:Nat)(h:k<L.length)(b:p (L.getD k d)=true):L.any p=true:=by
 rw[List.any_eq_true];refine⟨L[k],List.getElem_mem h,?_⟩;rw[δ,γ h] at b;exact b
theorem z1v(p:α->Bool)(L:List α)(n k:Nat)(i:L.length=n)(d:n<=k)(b:(L.take k).any p=false):L.any p=false:=by
 rwa [Δ (by omega)] at b
theorem q6W(xs:List Int)(x:Int)(k:Nat)(h:k<xs.length)(d:x∉xs.take k)(i:xs.getD k 0≠x):x∉xs.take (k+1):=by
 rw[q0Z xs 0 k h,List.mem_append];rintro(b|b)
 ·exact d b
 ·exact i (List.mem_singleton.1 b).symm
theorem z2T(xs:List Int)(x:Int)(k:Nat)(h:k<xs.length)(b:xs.getD k 0=x):x∈xs:=by
 rw[<-b,δ,γ h];exact List.getElem_mem h
theorem q7w(xs:List Int)(x:Int)(n k:Nat)(i:xs.length=n)(d:n<=k)(b:x∉xs.take k):x∉xs:=by
 rwa [Δ (by omega)] at b
def y0n(xs:List Int)(x:Int):Int:=if x∈xs then(xs.idxOf x:Int) else-1
theorem z9C(xs:List Int)(x:Int)(k:Nat)(h:k<xs.length)(i:x∉xs.take k)(b:xs.getD k 0=x):y0n xs x=k:=by
 have hm:=z2T xs x k h b;rw[y0n,ξ hm];have e:xs=xs.take k++xs.drop k:=(List.take_append_drop k xs).symm;have d:xs.drop k=x::xs.drop (k+1):=by
  rw[List.drop_eq_getElem_cons h];rw[δ,γ h] at b;simp at b;rw[b]
 have:xs.idxOf x=k:=by
  rw[e,d,List.idxOf_append,κ i,List.idxOf_cons_self];simp;omega
 omega
theorem z6m(xs:List Int)(x:Int)(h:x∉xs):y0n xs x= -1:=by rw[y0n,κ h]
theorem z9D(xs:List Int)(x:Int):decide (0<=y0n xs x)=decide (x∈xs):=by
 unfold y0n;by_cases h:x∈xs
 ·simp[h]
 ·simp[h]
theorem y0p(ao:Option Addr)(n cap:Nat)(xs:List Int)(x:Int)(w:World)(y:Ints w ao n cap xs):
  Calls Tryz.prog 282 #[.slice ao n cap,.int .i64 x] w fun e w'=>e= .returned (.int .i64 (y0n xs x))/\Ext w w':=by
 have s:=η y;have b1:=y.fits;have b2:=y.bound;clear y;go_enter Tryz.func282,Tryz.ntmps282;go_wp2_with fail
 go_loopw [8] (fun i w'=> ∃k:Nat,k<=n/\i= .int .i64 k/\x∉xs.take k/\Ext w w') (fun i _=>n-(intOf i).toNat)
 case atStart=>exact⟨0,υ _,rfl,by simp,Ext.refl _⟩
 case round=>
  obtain⟨k,J,rfl,q,G⟩:=hrel;have d:=η q;clear q;have r:=η G;clear G;by_cases l:k<n
  ·obtain⟨b,off,rfl,I⟩:=(s.o.ext r.o).at l
   generalize F:xs.getD k 0=X at*;have E:=η F;clear F;by_cases m:X=x
   ·have D:(x==X)=true:=by simpa using m.symm
    have C:=η m;clear m;go_wp2_with fail;go_ret;exact⟨rn (z9C xs x k (by rw[s.o.len];exact l) d.o (E.o.trans C.o)),r.o⟩
   ·have D:(x==X)=false:=by simpa using(Ne.symm m)
    have C:=η m;clear m;go_wp2_with fail
    go_roundw
    case rel=>exact⟨k+1,by omega,by go_num,q6W xs x k (by rw[s.o.len];exact l) d.o (by rw[E.o];exact C.o),r.o⟩
    case measure=>simp[intOf];omega
  ·go_wp2_with fail
   go_ret;exact⟨rn (z6m xs x (q7w xs x n k s.o.len (by omega) d.o)),r.o⟩
theorem z4j(ao:Option Addr)(n cap:Nat)(xs:List Int)(x:Int)(w:World)(b:Ints w ao n cap xs):
  Calls Tryz.prog 230 #[.slice ao n cap,.int .i64 x] w fun e w'=>e= .returned (.bool (decide (x∈xs)))/\Ext w w':=by
 have d:=η b;clear b;go_enter Tryz.func230,Tryz.ntmps230
 go_wp2_with (go_at_call 282;(with_reducible refine(y0p _ _ _ xs x _ d.o).mono ?_);rintro e w' ⟨rfl,i⟩)
 go_ret;exact⟨rb (by rw[<-z9D]),by assumption⟩
end
section
theorem z2L(L:List (List Int))(k:Nat):(L++List.replicate k []).flatten=L.flatten:=by simp
theorem q9i(L M:List (List Int))(b:L.length<=M.length)(h: ∀i,L.getD i []=M.getD i []):L.flatten=M.flatten:=by
 rw[<-z2L L (M.length-L.length)]
 congr 1
 refine z8q _ _ [] (by simp;omega) fun i d=>?_
 rw[<-h i];simp only[δ,List.getElem?_append]
 split
 ·rfl
 ·rw[<-δ,List.getElem?_eq_none (l:=L) (by omega)]
  simp only[δ,List.getElem?_replicate]
  split<;>rfl
theorem q2B(L:List (List Int)):(q1A L).flatten=L.flatten:=
 q9i _ _ (by have:=q6F L L.length;rw[q3h];omega) (q6d L)
theorem q6u(h:q1x L=true):L.length<=5/\L.flatten.length<=40/\(∀x∈L.flatten,0<=x)/\L.flatten.Nodup:=by
 unfold q1x at h;exact of_decide_eq_true h
end
section
open Go.RowKit
end
end Go.Proofs.YtfiibpgoplcgkaaGreatDoor
