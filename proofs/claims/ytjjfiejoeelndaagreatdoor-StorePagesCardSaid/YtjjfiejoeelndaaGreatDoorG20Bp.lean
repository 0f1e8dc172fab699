/- A row of bytes that came of a string. -/
import Derived.Test.YtjjfiejoeelndaaGreatDoorG1Bp
import Derived.Lib.FrozenHead
import Derived.Lib.ConvBytes
set_option linter.unusedVariables false
set_option linter.unusedSimpArgs false
set_option maxRecDepth 100000
set_option maxHeartbeats 200000
namespace Go.Proofs.YtjjfiejoeelndaaGreatDoor
open Go.RowKit Go.Lib
def RowN (w:World) (base:Nat) (e:TypeId) (v:Value) (n:Nat) (xs:List Value):Prop:=
 xs.length=n∧ ∃g cap cur fz,v= .slice (some ⟨g,0,none⟩) n cap∧base≤g∧w.heap[g]? =some (.cells cur e fz)∧(∀j,n≤j→j<cur.size→¬(fz.1≤j∧j<fz.2))∧n≤cap∧cap≤maxLen∧cur.size=cap∧cur.toList.take n=xs
theorem RowN.kept {w w':World} {base:Nat} {e:TypeId} {v:Value} {n:Nat} {xs:List Value} (h:RowN w base e v n xs) (k:Ext w w'):RowN w' base e v n xs:=by
 obtain ⟨h0,g,cap,cur,fz,h1,h2,h3,h4⟩:=h;refine ⟨h0,g,cap,cur,fz,h1,h2,?_,h4⟩;rw[k.block g (Array.getElem?_eq_some_iff.1 h3).1];exact h3
theorem RowN.cells {w:World} {base:Nat} {e:TypeId} {v:Value} {n:Nat} {xs:List Value} (h:RowN w base e v n xs): ∃g cap,v= .slice (some ⟨g,0,none⟩) n cap∧base≤g∧g<w.heap.size∧ ∀j u,xs[j]? =some u→w.cell? ((⟨g,0,none⟩:Addr).add j)=some u:=by
 obtain ⟨h0,g,cap,cur,fz,h1,h2,h3,_,_,_,_,h8⟩:=h;refine ⟨g,cap,h1,h2,(Array.getElem?_eq_some_iff.1 h3).1,fun j u hu=>?_⟩;have hadd:(⟨g,0,none⟩:Addr).add j=⟨g,j,none⟩:=by unfold Addr.add;split<;>simp_all
 rw[hadd,cell_of_row w g j cur e fz h3];rw[←h8,List.getElem?_take] at hu
 split at hu
 ·simpa using hu
 ·cases hu
theorem RowN.of_string (w:World) (e:TypeId) (s:List UInt8) (hs:s.length≤1048576):RowN (Lib.bytesWorld w e ⟨s.toArray⟩) w.heap.size e (.slice (some ⟨w.heap.size,0,none⟩) s.length (grownCap w s.length 0 e)) s.length (strCells ⟨s.toArray⟩):=by
 have hge:=grownCap_ge w s.length 0 e;have hle:=grownCap_le_maxLen w s.length 0 e (by unfold maxLen;omega);have hsz:(Lib.bytesCells w e ⟨s.toArray⟩).size=grownCap w s.length 0 e:=by
  unfold Lib.bytesCells;have e1:(⟨s.toArray⟩:ByteArray).size=s.length:=rfl;rw[e1];simp;omega
 refine ⟨by rw[strCells_length];rfl,w.heap.size,_,_,_,rfl,Nat.le_refl _,Lib.bytesWorld_at_new w e _,?_,hge,hle,hsz,?_⟩
 ·intro j _ h2 h3
  simp only at h3;omega
 ·unfold Lib.bytesCells strCells
  simp
theorem q9a (w:World) (e:TypeId) (s:ByteArray):Ext w (Lib.bytesWorld w e s):=by
 refine ⟨?_,?_,?_,?_,fun k hk=>Lib.bytesWorld_at_old w e s k hk⟩
 ·unfold Lib.bytesWorld World.freeze;split<;>rfl
 ·unfold Lib.bytesWorld World.freeze;split<;>rfl
 ·unfold Lib.bytesWorld World.freeze;split<;>rfl
 ·rw[Lib.bytesWorld_size];omega
theorem y0n (P:Program) (g o:Nat) (t:TypeId) (fz:Nat×Nat): ∀(vs:List Value) (i:Nat) (cur:Array Value) (w:World),w.heap[g]? =some (.cells cur t fz)→(∀j,o+i≤j→j<cur.size→¬(fz.1≤j∧j<fz.2))→o+i+vs.length≤cur.size→(∀v∈vs,v.oneCell'=true)→
  (storeCells ⟨g,o,none⟩ vs i).run P w= .ok () (w.setRow g (cur.toList.take (o+i)++vs++cur.toList.drop (o+i+vs.length)).toArray)
 | [],i,cur,w,hg,_,_,_=>by
  simp only[storeCells,List.append_nil,List.length_nil,Nat.add_zero,List.take_append_drop,Array.toArray_toList];rw[setRow_self w g cur t fz hg]
  rfl
 | v ::rest,i,cur,w,hg,hfz,hl,h1=>by
  have hi:o+i<cur.size:=by simp at hl;omega
  have hadd:(⟨g,o,none⟩:Addr).add i=⟨g,o+i,none⟩:=by unfold Addr.add;split<;>simp_all
  have hcell:w.cell? ⟨g,o+i,none⟩=some cur[o+i]:=by simp[World.cell?,hg,hi]
  have hfro:w.frozen? ⟨g,o+i,none⟩=false:=by
   have hq:=hfz (o+i) (Nat.le_refl _) hi;obtain ⟨lo,hi'⟩:=fz;simp only[World.frozen?,hg,Bool.and_eq_false_iff,decide_eq_false_iff_not];simp only at hq;omega
  have hst:(store ((⟨g,o,none⟩:Addr).add i) v).run P w= .ok () (w.setRow g (cur.setIfInBounds (o+i) v)):=by
   rw[hadd,run_store P w _ v _ (h1 v (by simp)),hcell];simp[hfro,setCell_eq_setRow w g (o+i) cur t fz v hg]
  have ih:=y0n P g o t fz rest (i+1) (cur.setIfInBounds (o+i) v) (w.setRow g (cur.setIfInBounds (o+i) v)) (setRow_heap w g cur _ t _ hg) (fun j h1 h2=>hfz j (by omega) (by simpa using h2)) (by simp at hl⊢;omega) (fun x hx=>h1 x (by simp[hx]));simp only[storeCells,Sem.run_bind,hst,Result.andThen_ok,ih,setRow_setRow]
  congr 3
  have e:=list_seg_step cur.toList (o+i) v rest (by simp at hl⊢;omega)
  simpa [Array.toList_setIfInBounds,Nat.add_assoc] using e
section
variable {P :Program} (w:World)
theorem z1c (t u ty e:TypeId) (i:TypeInfo) (ht:P.underlying t=some (.slice e)) (hu:P.underlying u=some .string) (hi:P.info? e=some i) (hs1:i.size=1)
  (g sLen sCap:Nat) (cur:Array Value) (fz:Nat×Nat) (hg:w.heap[g]? =some (.cells cur e fz)) (hfz: ∀j,sLen≤j→j<cur.size→¬(fz.1≤j∧j<fz.2)) (s:ByteArray)
  (hroom:sLen+s.size≤sCap) (hfit:sLen+s.size≤cur.size):
  (Builtin.append_ #[t,u] ty #[.slice (some ⟨g,0,none⟩) sLen sCap,.string s]).run P w=
   .ok (.slice (some ⟨g,0,none⟩) (sLen+s.size) sCap) (w.setRow g (cur.toList.take sLen++strCells s++cur.toList.drop (sLen+s.size)).toArray):=by
 have hf:=Lib.run_firstCells_string (P:=P) w 1 s;have hst:=y0n P g sLen e fz (strCells s) 0 cur w hg (by simpa using hfz) (by simpa [strCells_length] using hfit) (Lib.strCells_oneCell s);simp only[Nat.add_zero,strCells_length] at hst;simp[Builtin.append_,run_underlying ht,run_underlying hu,sizeOf,typeInfo,hi,hs1,Builtin.lenOf,hroom,hf,Addr.add_lit,hst]
theorem z3k (base:Nat) (t u ty e:TypeId) (i:TypeInfo) (ht:P.underlying t=some (.slice e)) (hu:P.underlying u=some .string) (hi:P.info? e=some i) (hz:i.zero=some (.int .u8 0))
  (hsize:i.size=1) (hby:i.bytes=1)
  (v:Value) (n:Nat) (xs:List Value) (hown:RowN w base e v n xs) (s:ByteArray)
  (h63:n+s.size≤maxLen) (hbytes:n+s.size≤140737488355328) (hbase:base≤w.heap.size):
  ∃v' w',(Builtin.append_ #[t,u] ty #[v,.string s]).run P w= .ok v' w'∧RowN w' base e v' (n+s.size) (xs++strCells s)∧w.grownBy w' v.ownBlock:=by
 obtain ⟨hxl,g,cap,cur,fz,rfl,hbg,hg,hfz,hnc,hcm,hcs,htake⟩:=hown;have hsmall:n+s.size≤9223372036854775807:=by simp only[maxLen] at h63;omega
 have hlen:(xs++strCells s).length=n+s.size:=by rw[List.length_append,hxl,strCells_length]
 by_cases hroom:n+s.size≤cap
 ·have hr:=z1c (P:=P) w t u ty e i ht hu hi hsize g n cap cur fz hg hfz s hroom (by omega)
  refine ⟨_,_,hr,⟨hlen,g,cap,_,fz,rfl,hbg,setRow_heap w g cur _ e _ hg,?_,hroom,hcm,?_,?_⟩,⟨rfl,rfl,rfl,by simp,fun k _ hk=>setRow_other w g k _ (fun e=>hk (by simp[Value.ownBlock,e]))⟩⟩
  ·intro j h1 h2
   refine hfz j (by omega) ?_;simp only[List.size_toArray,List.length_append,List.length_take,List.length_drop,Array.length_toList,strCells_length] at h2;omega
  ·simp only[List.size_toArray,List.length_append,List.length_take,List.length_drop,Array.length_toList,strCells_length]
   omega
  ·rw[htake,←hlen]
   exact List.take_left
 ·have holds: ∀j u,xs[j]? =some u→w.cell? ((⟨g,0,none⟩:Addr).add j)=some u:=by
   obtain ⟨g',cap',he,_,_,hc⟩:=RowN.cells (w:=w) (base:=base) (e:=e) (v:= .slice (some ⟨g,0,none⟩) n cap) (n:=n) (xs:=xs) ⟨hxl,g,cap,cur,fz,rfl,hbg,hg,hfz,hnc,hcm,hcs,htake⟩
   cases he;exact hc
  have hr:=Lib.run_append_grow_string (P:=P) w t u ty e i (.int .u8 0) ht hu hi hz ⟨g,0,none⟩ n cap xs (by rw[hsize,Nat.mul_one];exact hxl) holds s (by omega) (by omega) (by rw[hby];exact growslice_fits (by omega) (by omega));have hge:=grownCap_ge w (n+s.size) cap e;have hcm2:grownCap w (n+s.size) cap e≤maxLen:=grownCap_le_maxLen w (n+s.size) cap e h63;refine ⟨_,_,hr,⟨hlen,w.heap.size,_,_,(0,0),rfl,hbase,heap_alloc_new w.drew _,fun j _ _ h=>by simp at h,hge,hcm2,?_,?_⟩,⟨rfl,rfl,rfl,by simp,fun k hk _=>Lib.alloc_old w.drew _ k hk⟩⟩
  ·have hz1:(Value.int IntKind.u8 0).cells.size=1:=rfl
   simp only[Array.size_append,List.size_toArray,size_zeroCells,hz1,hxl,strCells_length];omega
  ·simp only[Array.toList_append,List.append_assoc]
   rw[←List.append_assoc,←hlen];exact List.take_left
theorem q6M {ops:Array Oper} {rest:List Oper} {o:Oper} {a:Act} {Q:Exit→Act→World→Prop} (hgd:o.guard=none) (sl x:Operand) (t u:TypeId)
  (ho:o.op= .call {callee:= .builtin .append,args:=#[sl,x],argTypes:=#[t,u]})
  (base:Nat) (e:TypeId) (ht:P.underlying t=some (.slice e)) (hu:P.underlying u=some .string) (hinfo:(P.info? e).map (fun i=>(i.zero,i.size,i.bytes))=some (some (.int .u8 0),1,1))
  (v:Value) (n:Nat) (xs:List Value) (hs:a.eval sl=v) (hown:RowN w base e v n xs) (s:ByteArray) (hx:a.eval x= .string s)
  (h63:n+s.size≤maxLen) (hbytes:n+s.size≤140737488355328) (hbase:base≤w.heap.size)
  (h: ∀v' w',RowN w' base e v' (n+s.size) (xs++strCells s)→w.grownBy w' v.ownBlock→wpList P ops Q rest (a.put o.dst v') w'):wpList P ops Q (o::rest) a w:=by
 refine wpList_plain hgd fun K hK=>?_
 obtain ⟨i,hi,hz,hsize,hby⟩:=info_parts hinfo;obtain ⟨v',w',hr,h2,h3⟩:=z3k (P:=P) w base t u o.type e i ht hu hi hz hsize hby v n xs hown s h63 hbytes hbase;unfold Oper.wp execOp;simp only[ho,resolve,invoke,builtin,Sem.run_bind,Sem.run_pure,Result.andThen_ok,List.map_toArray,List.map_cons,List.map_nil,hs,hx,hr];exact hK _ _ (h v' w' h2 h3)
end
theorem y4L {P:Program} (w:World) (src dst e base:TypeId) (v:Value) (l:List UInt8) (hs:P.underlying src=some (.slice e)) (he:P.underlying e=some (.int .u8)) (hd:P.underlying dst=some .string) (h:RowN w base e v l.length (strCells ⟨l.toArray⟩)):
  (convert src dst v).run P w= .ok (.string ⟨l.toArray⟩) w:=by
 obtain ⟨g,cap,rfl,_,_,hc⟩:=h.cells;refine run_convert_bytes_back w src dst e _ cap l hs he hd fun j hj=>hc j _ ?_
 simp[strCells,hj]
theorem z2W (a b:List UInt8):strCells ⟨a.toArray⟩++strCells ⟨b.toArray⟩=strCells ⟨(a++b).toArray⟩:=by simp[strCells]
end Go.Proofs.YtjjfiejoeelndaaGreatDoor
