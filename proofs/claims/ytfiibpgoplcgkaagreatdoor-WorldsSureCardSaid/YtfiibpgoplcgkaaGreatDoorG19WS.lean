/- A row of bytes that came of a string. -/
import Derived.Test.YtfiibpgoplcgkaaGreatDoorG1WS
import Derived.Lib.FrozenHead
import Derived.Lib.ConvBytes
set_option linter.unusedVariables false
set_option linter.unusedSimpArgs false
set_option maxRecDepth 100000
set_option maxHeartbeats 200000
namespace Go.Proofs.YtfiibpgoplcgkaaGreatDoor
variable {e:TypeId}{v:Value}{n:Nat}{xs:List Value}
open Go.RowKit Go.Lib
def RowN(w:World)(base:Nat)(e:TypeId)(v:Value)(n:Nat)(xs:List Value):Prop:=
 xs.length=n/\ ∃g cap cur fz,v= .slice (some ⟨g,0,none⟩) n cap/\base<=g/\w.heap[g]? =some (.cells cur e fz)/\(∀j,n<=j->j<cur.size->¬(fz.1<=j/\j<fz.2))/\n<=cap/\cap<=maxLen/\cur.size=cap/\cur.toList.take n=xs
theorem RowN.kept{w w':World}{base:Nat}(h:RowN w base e v n xs)(k:Ext w w'):RowN w' base e v n xs:=by
 obtain⟨i,g,cap,b,d,h1,h2,h3,h4⟩:=h;refine⟨i,g,cap,b,d,h1,h2,?_,h4⟩;rw[k.block g (Array.getElem?_eq_some_iff.1 h3).1];exact h3
theorem RowN.cells{w:World}{base:Nat}(h:RowN w base e v n xs): ∃g cap,v= .slice (some ⟨g,0,none⟩) n cap/\base<=g/\g<w.heap.size/\ ∀j u,xs[j]? =some u->w.cell? ((⟨g,0,none⟩:Addr).add j)=some u:=by
 obtain⟨o,g,cap,i,l,h1,h2,h3,_,_,_,_,m⟩:=h;refine⟨g,cap,h1,h2,(Array.getElem?_eq_some_iff.1 h3).1,fun j u d=>?_⟩;have b:(⟨g,0,none⟩:Addr).add j=⟨g,j,none⟩:=by unfold Addr.add;split<;>simp_all
 rw[b,cell_of_row w g j i e l h3];rw[<-m,List.getElem?_take] at d
 split at d
 ·simpa using d
 ·cases d
theorem RowN.of_string(w:World)(e:TypeId)(s:List UInt8)(m:s.length<=1048576):RowN (Lib.bytesWorld w e ⟨s.toArray⟩) w.heap.size e (.slice (some ⟨w.heap.size,0,none⟩) s.length (grownCap w s.length 0 e)) s.length (strCells ⟨s.toArray⟩):=by
 have b:=grownCap_ge w s.length 0 e;have d:=grownCap_le_maxLen w s.length 0 e (by unfold maxLen;omega);have i:(Lib.bytesCells w e ⟨s.toArray⟩).size=grownCap w s.length 0 e:=by
  unfold Lib.bytesCells;have l:(⟨s.toArray⟩:ByteArray).size=s.length:=rfl;rw[l];simp;omega
 refine⟨by rw[strCells_length];rfl,w.heap.size,_,_,_,rfl,ι _,Lib.bytesWorld_at_new w e _,?_,b,d,i,?_⟩
 ·intro j _ h2 h3
  simp only at h3;omega
 ·unfold Lib.bytesCells strCells
  simp
theorem q9G(w:World)(e:TypeId)(s:ByteArray):Ext w (Lib.bytesWorld w e s):=by
 refine⟨?_,?_,?_,?_,fun k b=>Lib.bytesWorld_at_old w e s k b⟩
 ·unfold Lib.bytesWorld World.freeze;split<;>rfl
 ·unfold Lib.bytesWorld World.freeze;split<;>rfl
 ·unfold Lib.bytesWorld World.freeze;split<;>rfl
 ·rw[Lib.bytesWorld_size];omega
theorem y1B(P:Program)(g o:Nat)(t:TypeId)(b:Nat×Nat): ∀(vs:List Value) (i:Nat) (cur:Array Value) (w:World),w.heap[g]? =some (.cells cur t b)->(∀j,o+i<=j->j<cur.size->¬(b.1<=j/\j<b.2))->o+i+vs.length<=cur.size->(∀v∈vs,v.oneCell'=true)->
  (storeCells ⟨g,o,none⟩ vs i).run P w= .ok () (w.setRow g (cur.toList.take (o+i)++vs++cur.toList.drop (o+i+vs.length)).toArray)
 | [],i,cur,w,hg,_,_,_=>by
  simp only[storeCells,List.append_nil,List.length_nil,Nat.add_zero,List.take_append_drop,Array.toArray_toList];rw[setRow_self w g cur t b hg]
  rfl
 | v ::rest,i,cur,w,hg,hfz,hl,h1=>by
  have r:o+i<cur.size:=by simp at hl;omega
  have l:(⟨g,o,none⟩:Addr).add i=⟨g,o+i,none⟩:=by unfold Addr.add;split<;>simp_all
  have d:w.cell? ⟨g,o+i,none⟩=some cur[o+i]:=by simp[World.cell?,hg,r]
  have m:w.frozen? ⟨g,o+i,none⟩=false:=by
   have hq:=hfz (o+i) (ι _) r;obtain⟨B,s⟩:=b;simp only[World.frozen?,hg,Bool.and_eq_false_iff,decide_eq_false_iff_not];simp only at hq;omega
  have q:(store ((⟨g,o,none⟩:Addr).add i) v).run P w= .ok () (w.setRow g (cur.setIfInBounds (o+i) v)):=by
   rw[l,run_store P w _ v _ (h1 v (by simp)),d];simp[m,setCell_eq_setRow w g (o+i) cur t b v hg]
  have y:=y1B P g o t b rest (i+1) (cur.setIfInBounds (o+i) v) (w.setRow g (cur.setIfInBounds (o+i) v)) (setRow_heap w g cur _ t _ hg) (fun j h1 h2=>hfz j (by omega) (by simpa using h2)) (by simp at hl⊢;omega) (fun x u=>h1 x (by simp[u]));simp only[storeCells,Sem.run_bind,q,Result.andThen_ok,y,setRow_setRow]
  congr 3
  have e:=list_seg_step cur.toList (o+i) v rest (by simp at hl⊢;omega)
  simpa [Array.toList_setIfInBounds,Nat.add_assoc] using e
section
variable {P :Program}(w:World)
theorem z1P(t u ty e:TypeId)(i:TypeInfo)(E:P.underlying t=some (.slice e))(F:P.underlying u=some .string)(D:P.info? e=some i)(y:i.size=1)
  (g b l:Nat)(d:Array Value)(r:Nat×Nat)(C:w.heap[g]? =some (.cells d e r))(x: ∀j,b<=j->j<d.size->¬(r.1<=j/\j<r.2))(s:ByteArray)
  (m:b+s.size<=l)(o:b+s.size<=d.size):
  (Builtin.append_ #[t,u] ty #[.slice (some ⟨g,0,none⟩) b l,.string s]).run P w=
   .ok (.slice (some ⟨g,0,none⟩) (b+s.size) l) (w.setRow g (d.toList.take b++strCells s++d.toList.drop (b+s.size)).toArray):=by
 have B:=Lib.run_firstCells_string (P:=P) w 1 s;have q:=y1B P g b e r (strCells s) 0 d w C (by simpa using x) (by simpa [strCells_length] using o) (Lib.strCells_oneCell s);simp only[Nat.add_zero,strCells_length] at q;simp[Builtin.append_,run_underlying E,run_underlying F,sizeOf,typeInfo,D,y,Builtin.lenOf,m,B,Addr.add_lit,q]
theorem z2n(base:Nat)(t u ty e:TypeId)(i:TypeInfo)(Y:P.underlying t=some (.slice e))(Z:P.underlying u=some .string)(X:P.info? e=some i)(hz:i.zero=some (.int .u8 0))
  (l:i.size=1)(M:i.bytes=1)
  (v:Value)(n:Nat)(xs:List Value)(F:RowN w base e v n xs)(s:ByteArray)
  (B:n+s.size<=maxLen)(G:n+s.size<=140737488355328)(r:base<=w.heap.size):
  ∃v' w',(Builtin.append_ #[t,u] ty #[v,.string s]).run P w= .ok v' w'/\RowN w' base e v' (n+s.size) (xs++strCells s)/\w.grownBy w' v.ownBlock:=by
 obtain⟨o,g,cap,q,J,rfl,C,O,x,S,D,N,m⟩:=F;have I:n+s.size<=9223372036854775807:=by simp only[maxLen] at B;omega
 have b:(xs++strCells s).length=n+s.size:=by rw[θ,o,strCells_length]
 by_cases d:n+s.size<=cap
 ·have U:=z1P (P:=P) w t u ty e i Y Z X l g n cap q J O x s d (by omega)
  refine⟨_,_,U,⟨b,g,cap,_,J,rfl,C,setRow_heap w g q _ e _ O,?_,d,D,?_,?_⟩,⟨rfl,rfl,rfl,by simp,fun k _ R=>setRow_other w g k _ (fun e=>R (by simp[Value.ownBlock,e]))⟩⟩
  ·intro j h1 h2
   refine x j (by omega) ?_;simp only[List.size_toArray,θ,Θ,List.length_drop,Array.length_toList,strCells_length] at h2;omega
  ·simp only[List.size_toArray,θ,Θ,List.length_drop,Array.length_toList,strCells_length]
   omega
  ·rw[m,<-b]
   exact List.take_left
 ·have y: ∀j u,xs[j]? =some u->w.cell? ((⟨g,0,none⟩:Addr).add j)=some u:=by
   obtain⟨g',W,he,_,_,hc⟩:=RowN.cells (w:=w) (base:=base) (e:=e) (v:= .slice (some ⟨g,0,none⟩) n cap) (n:=n) (xs:=xs) ⟨o,g,cap,q,J,rfl,C,O,x,S,D,N,m⟩
   cases he;exact hc
  have U:=Lib.run_append_grow_string (P:=P) w t u ty e i (.int .u8 0) Y Z X hz ⟨g,0,none⟩ n cap xs (by rw[l,Nat.mul_one];exact o) y s (by omega) (by omega) (by rw[M];exact growslice_fits (by omega) (by omega));have Q:=grownCap_ge w (n+s.size) cap e;have E:grownCap w (n+s.size) cap e<=maxLen:=grownCap_le_maxLen w (n+s.size) cap e B;refine⟨_,_,U,⟨b,w.heap.size,_,_,(0,0),rfl,r,heap_alloc_new w.drew _,fun j _ _ h=>by simp at h,Q,E,?_,?_⟩,⟨rfl,rfl,rfl,by simp,fun k R _=>Lib.alloc_old w.drew _ k R⟩⟩
  ·have V:(Value.int IntKind.u8 0).cells.size=1:=rfl
   simp only[Array.size_append,List.size_toArray,size_zeroCells,V,o,strCells_length];omega
  ·simp only[Array.toList_append,List.append_assoc]
   rw[<-List.append_assoc,<-b];exact List.take_left
theorem q6g{ops:Array Oper}{rest:List Oper}{o:Oper}{a:Act}{Q:Exit->Act->World->Prop}(B:o.guard=none)(C x:Operand)(t u:TypeId)
  (E:o.op= .call {callee:= .builtin .append,args:=#[C,x],argTypes:=#[t,u]})
  (base:Nat)(e:TypeId)(I:P.underlying t=some (.slice e))(J:P.underlying u=some .string)(j:(P.info? e).map (fun i=>(i.zero,i.size,i.bytes))=some (some (.int .u8 0),1,1))
  (v:Value)(n:Nat)(xs:List Value)(G:a.eval C=v)(m:RowN w base e v n xs)(s:ByteArray)(M:a.eval x= .string s)
  (r:n+s.size<=maxLen)(b:n+s.size<=140737488355328)(d:base<=w.heap.size)
  (h: ∀q w',RowN w' base e q (n+s.size) (xs++strCells s)->w.grownBy w' v.ownBlock->wpList P ops Q rest (a.put o.dst q) w'):wpList P ops Q (o::rest) a w:=by
 refine wpList_plain B fun K hK=>?_
 obtain⟨i,D,N,l,y⟩:=info_parts j;obtain⟨q,w',F,h2,h3⟩:=z2n (P:=P) w base t u o.type e i I J D N l y v n xs m s r b d;unfold Oper.wp execOp;simp only[E,resolve,invoke,builtin,Sem.run_bind,Sem.run_pure,Result.andThen_ok,List.map_toArray,List.map_cons,List.map_nil,G,M,F];exact hK _ _ (h q w' h2 h3)
end
theorem y4T{P:Program}(w:World)(d b e base:TypeId)(v:Value)(l:List UInt8)(o:P.underlying d=some (.slice e))(he:P.underlying e=some (.int .u8))(i:P.underlying b=some .string)(h:RowN w base e v l.length (strCells ⟨l.toArray⟩)):
  (convert d b v).run P w= .ok (.string ⟨l.toArray⟩) w:=by
 obtain⟨g,cap,rfl,_,_,hc⟩:=h.cells;refine run_convert_bytes_back w d b e _ cap l o he i fun j m=>hc j _ ?_
 simp[strCells,m]
theorem z2N(a b:List UInt8):strCells ⟨a.toArray⟩++strCells ⟨b.toArray⟩=strCells ⟨(a++b).toArray⟩:=by simp[strCells]
end Go.Proofs.YtfiibpgoplcgkaaGreatDoor
