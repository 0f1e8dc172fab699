/- Small laws of no program. -/
import Derived.WalkKit
import Derived.WalkSmall
import Derived.Lib.Hide
import Derived.Deep.QuietTactic
import Derived.BigQuiet
import Derived.Deep.DeepFit
import Derived.Deep.DeepCutAuto
import Derived.Laws.AppendOwnNone
import Derived.Lib.AppendZeros
import Derived.Lib.EndianBits
set_option linter.unusedVariables false
set_option linter.unusedSimpArgs false
set_option maxRecDepth 100000
set_option maxHeartbeats 200000
namespace Go.Proofs.YtjjfiejoeelndaaGreatDoor
section
open Go.RowKit
abbrev Ext (w w':World):Prop:=Below w.heap.size w w'
theorem Ext.trans {a b c:World} (h:Ext a b) (k:Ext b c):Ext a c:=Below.trans h (Below.mono k h.size)
theorem Ext.refl (w:World):Ext w w:=Below.refl _ _
theorem Ext.drew {a w:World} (h:Ext a w):Ext a w.drew:=Below.drew h
theorem Ext.drewN {a w:World} (h:Ext a w) (n:Nat):Ext a (w.drewN n):=below_drewN h n
theorem Ext.alloc {a w:World} (h:Ext a w) (o:Obj):Ext a (w.alloc o):=Below.alloc h h.size o
theorem q0D (w:World) (o:Obj):Ext w (w.alloc o):=(Ext.refl w).alloc o
theorem q7K (w:World) (o p:Obj):Ext w ((w.alloc o).alloc p):=(q0D w o).alloc p
theorem z0C (w:World) (o p q:Obj):Ext w (((w.alloc o).alloc p).alloc q):=(q7K w o p).alloc q
def Rd (w:World) (ao:Option Addr) (cs:List Value):Prop:=
 ∀j u,cs[j]? =some u→ ∃b off,ao=some ⟨b,off,none⟩∧w.cell? ⟨b,off+j,none⟩=some u
theorem Rd.nil (w:World) (ao:Option Addr):Rd w ao []:=fun j u h=>by simp at h
theorem q0A {w w':World} (h:Ext w w') {a:Addr} {u:Value} (hc:w.cell? a=some u):w'.cell? a=some u:=
 (h.cell (World.block_lt_of_cell? (h:=hc))).trans hc
theorem Rd.ext {w w':World} {ao:Option Addr} {cs:List Value} (h:Rd w ao cs) (k:Ext w w'):Rd w' ao cs:=
 fun j u hj=>let ⟨b,off,e,hc⟩:=h j u hj;⟨b,off,e,q0A k hc⟩
theorem Rd.at {w:World} {ao:Option Addr} {cs:List Value} (h:Rd w ao cs) {j:Nat} (hj:j<cs.length):
  ∃b off,ao=some ⟨b,off,none⟩∧w.cell? ⟨b,off+j,none⟩=some cs[j]:=h j _ (List.getElem?_eq_getElem hj)
theorem Rd.take {w:World} {ao:Option Addr} {cs:List Value} (h:Rd w ao cs) (n:Nat):Rd w ao (cs.take n):=by
 intro j u hj;refine h j u ?_;rw[List.getElem?_take] at hj
 split at hj
 ·exact hj
 ·cases hj
theorem Rd.drop {w:World} {b off:Nat} {cs:List Value} (h:Rd w (some ⟨b,off,none⟩) cs) (n:Nat):Rd w (some ⟨b,off+n,none⟩) (cs.drop n):=by
 intro j u hj;rw[List.getElem?_drop] at hj;obtain ⟨b',off',e,hc⟩:=h _ u hj
 cases e;exact ⟨b,off+n,rfl,by rw[Nat.add_assoc];exact hc⟩
structure Ints (w:World) (ao:Option Addr) (n cap:Nat) (xs:List Int):Prop where
 len:xs.length=n
 fits:n≤cap
 bound:cap≤9223372036854775807
 nil:ao=none→cap=0
 rd:Rd w ao (xs.map (Value.int .i64))
theorem Ints.ext {w w':World} {ao:Option Addr} {n cap:Nat} {xs:List Int} (h:Ints w ao n cap xs) (k:Ext w w'):Ints w' ao n cap xs:=
 ⟨h.len,h.fits,h.bound,h.nil,h.rd.ext k⟩
theorem Ints.at {w:World} {ao:Option Addr} {n cap:Nat} {xs:List Int} (h:Ints w ao n cap xs) {j:Nat} (hj:j<n):
  ∃b off,ao=some ⟨b,off,none⟩∧w.cell? ⟨b,off+j,none⟩=some (.int .i64 (xs.getD j 0)):=by
 have hl:=h.len;obtain ⟨b,off,e,hc⟩:=h.rd.at (j:=j) (by simp;omega);refine ⟨b,off,e,?_⟩;rw[hc,List.getElem_map,List.getD_eq_getElem?_getD,List.getElem?_eq_getElem (by omega)]
 rfl
structure Grid (w:World) (ao:Option Addr) (n cap:Nat) (L:List (List Int)):Prop where
 len:L.length=n
 fits:n≤cap
 bound:cap≤9223372036854775807
 nil:ao=none→cap=0
 rd: ∀i (h:i<L.length),∃b off ai ci,ao=some ⟨b,off,none⟩∧w.cell? ⟨b,off+i,none⟩=some (.slice ai L[i].length ci)∧Ints w ai L[i].length ci L[i]
theorem Grid.ext {w w':World} {ao:Option Addr} {n cap:Nat} {L:List (List Int)} (h:Grid w ao n cap L) (k:Ext w w'):Grid w' ao n cap L:=
 ⟨h.len,h.fits,h.bound,h.nil,fun i hi=>let ⟨b,off,ai,ci,e,hc,hr⟩:=h.rd i hi;⟨b,off,ai,ci,e,q0A k hc,hr.ext k⟩⟩
theorem Grid.at {w:World} {ao:Option Addr} {n cap:Nat} {L:List (List Int)} (h:Grid w ao n cap L) {i:Nat} (hi:i<n):
  ∃b off ai ni ci,ao=some ⟨b,off,none⟩∧w.cell? ⟨b,off+i,none⟩=some (.slice ai ni ci)∧Ints w ai ni ci (L.getD i []):=by
 have hl:=h.len;obtain ⟨b,off,ai,ci,e,hc,hr⟩:=h.rd i (by omega);have e2:L.getD i []=L[i]:=by rw[List.getD_eq_getElem?_getD,List.getElem?_eq_getElem (by omega)];rfl
 exact ⟨b,off,ai,_,ci,e,hc,by rw[e2];exact hr⟩
theorem Grid.empty (w:World):Grid w none 0 0 []:=⟨rfl,Nat.le_refl _,by omega,fun _=>rfl,fun i h=>by simp at h⟩
theorem q0U {α:Type} (xs:List α) (d:α) (k:Nat) (h:k<xs.length):xs.take (k+1)=xs.take k++[xs.getD k d]:=by
 rw[List.take_succ_eq_append_getElem h,List.getD_eq_getElem?_getD,List.getElem?_eq_getElem h];rfl
theorem rb {b c:Bool} (h:c=b):Ending.returned (.bool b)=Ending.returned (.bool c):=by rw[h]
theorem rn {k:IntKind} {b c:Int} (h:c=b):Ending.returned (.int k b)=Ending.returned (.int k c):=by rw[h]
def Own (w:World) (B:Nat) (e:TypeId) (size:Nat) (v:Value) (n:Nat) (cs:List Value):Prop:=
 cs.length=n*size∧
 ((v= .slice none 0 0∧n=0)∨
  ∃g cap cur,v= .slice (some ⟨g,0,none⟩) n cap∧B≤g∧w.heap[g]? =some (.cells cur e (0,0))∧n≤cap∧cap≤9223372036854775807∧cap*size≤cur.size∧cur.toList.take (n*size)=cs)
section own
variable {w w':World} {B B':Nat} {e:TypeId} {size:Nat} {v:Value} {n:Nat} {cs:List Value}
theorem Own.of_row (h:w.ownsRow B e size v n cs):Own w B e size v n cs:=by
 refine ⟨h.1,?_⟩;rcases h.2 with h2|⟨g,cap,cur,rfl,hb,hg,hn,hm,hcs,htk⟩
 ·exact .inl h2
 ·exact .inr ⟨g,cap,cur,rfl,hb,hg,hn,hm,Nat.le_of_eq hcs.symm,htk⟩
theorem Own.nil (w:World) (B:Nat) (e:TypeId) (size:Nat):Own w B e size (.slice none 0 0) 0 []:=⟨by simp,.inl ⟨rfl,rfl⟩⟩
theorem Own.rd (h:Own w B e size v n cs):
  ∃ao cap,v= .slice ao n cap∧n≤cap∧cap≤9223372036854775807∧(ao=none→cap=0)∧Rd w ao cs:=by
 have hl:=h.1;rcases h.2 with ⟨rfl,rfl⟩|⟨g,cap,cur,rfl,hb,hg,hn,hm,hcs,htk⟩
 ·obtain rfl:cs=[]:=List.eq_nil_of_length_eq_zero (by simpa using hl)
  exact ⟨none,0,rfl,Nat.le_refl _,by omega,fun _=>rfl,Rd.nil _ _⟩
 ·refine ⟨some ⟨g,0,none⟩,cap,rfl,hn,hm,(fun hh=>by cases hh),?_⟩
  intro j u hj;refine ⟨g,0,rfl,?_⟩;rw[←htk] at hj;have hj2:cur.toList[j]? =some u:=by
   rw[List.getElem?_take] at hj
   split at hj
   ·exact hj
   ·cases hj
  simp only[World.cell?,hg,Nat.zero_add]
  simpa using hj2
theorem Own.slice (h:Own w B e size v n cs): ∃ao cap,v= .slice ao n cap:=by
 obtain ⟨ao,cap,e,_⟩:=h.rd;exact ⟨ao,cap,e⟩
theorem Own.lt (h:Own w B e size v n cs): ∀k,v.ownBlock=some k→B≤k∧k<w.heap.size:=by
 intro k hk;rcases h.2 with ⟨rfl,_⟩|⟨g,cap,cur,rfl,hb,hg,_⟩
 ·cases hk
 ·cases hk
  exact ⟨hb,(Array.getElem?_eq_some_iff.1 hg).1⟩
theorem Own.base (h:Own w B e size v n cs) (k:B'≤B):Own w B' e size v n cs:=by
 refine ⟨h.1,?_⟩;rcases h.2 with h2|⟨g,cap,cur,rfl,hb,r⟩
 ·exact Or.inl h2
 ·exact Or.inr ⟨g,cap,cur,rfl,Nat.le_trans k hb,r⟩
theorem Own.same (h:Own w B e size v n cs) (k: ∀g,v.ownBlock=some g→w'.heap[g]? =w.heap[g]?):Own w' B e size v n cs:=by
 refine ⟨h.1,?_⟩;rcases h.2 with h2|⟨g,cap,cur,rfl,hb,hg,r⟩
 ·exact Or.inl h2
 ·exact Or.inr ⟨g,cap,cur,rfl,hb,by rw[k g rfl];exact hg,r⟩
theorem Own.ext (h:Own w B e size v n cs) (k:Ext w w'):Own w' B e size v n cs:=h.same fun g hg=>k.block g (h.lt g hg).2
theorem Own.kept {row:Option Nat} (h:Own w B e size v n cs) (hg:w.grownBy w' row) (hne: ∀g,v.ownBlock=some g→row≠some g):Own w' B e size v n cs:=
 h.same fun g hb=>hg.block g (h.lt g hb).2 fun e=>hne g hb e.symm
theorem Own.setOther (h:Own w B e size v n cs) {a:Addr} (u:Value) (hne:v.ownBlock≠some a.block):Own (w.setCell a u) B e size v n cs:=
 h.same fun _ hb=>Below.heap_setCell _ _ _ _ fun e=>hne (e▸hb)
theorem Own.etype (h:Own w B e size v n cs) {g:Nat} (hg:v.ownBlock=some g): ∃cur,w.heap[g]? =some (.cells cur e (0,0)):=by
 rcases h.2 with ⟨rfl,_⟩|⟨g',cap,cur,rfl,hb,hh,_⟩
 ·cases hg
 ·cases hg
  exact ⟨cur,hh⟩
theorem Own.apart {e':TypeId} {size':Nat} {v':Value} {n':Nat} {cs':List Value} (h:Own w B e size v n cs) (h':Own w B' e' size' v' n' cs') (hne:e≠e'):
  ∀g,v.ownBlock=some g→v'.ownBlock≠some g:=by
 intro g hg hg';obtain ⟨c,hc⟩:=h.etype hg;obtain ⟨c',hc'⟩:=h'.etype hg';rw[hc] at hc'
 cases hc';exact hne rfl
theorem Own.lit (w:World) (c:Array Value) (e:TypeId) (size k:Nat) (hb:B≤w.heap.size) (hs:c.size=k*size) (hk:k≤9223372036854775807):
  Own (w.alloc (.cells c e)) B e size (.slice (some ⟨w.heap.size,0,none⟩) k k) k c.toList:=by
 refine ⟨by simpa using hs,.inr ⟨w.heap.size,k,c,rfl,hb,heap_alloc_new _ _,Nat.le_refl _,hk,by omega,?_⟩⟩;rw[List.take_of_length_le (by simp;omega)]
theorem Own.cut (h:Own w B e size v n cs) {m c:Nat} (hm:m≤c) {ao:Option Addr} {cap:Nat} (hv:v= .slice ao n cap) (hn:m≤n) (hc:c≤cap):Own w B e size (.slice ao m c) m (cs.take (m*size)):=by
 subst hv;have hl:=h.1;have hmn:=Nat.mul_le_mul_right size hn;refine ⟨by rw[List.length_take,hl,Nat.min_eq_left hmn],?_⟩;rcases h.2 with ⟨hv,rfl⟩|⟨g,cap,cur,hv,hb,hg,h1,h2,h3,h4⟩
 ·cases hv
  have:m=0:=by omega
  have:c=0:=by omega
  subst m c;exact .inl ⟨rfl,rfl⟩
 ·cases hv
  have hcc:=Nat.mul_le_mul_right size hc;refine .inr ⟨g,c,cur,rfl,hb,hg,hm,by omega,by omega,?_⟩;rw[←h4,List.take_take,Nat.min_eq_left hmn]
theorem Own.cell (h:Own w B e size v n cs) {j:Nat} (hj:j<cs.length): ∃g cap,v= .slice (some ⟨g,0,none⟩) n cap∧w.cell? ⟨g,j,none⟩=some cs[j]∧w.frozen? ⟨g,j,none⟩=false∧B≤g:=by
 have hl:=h.1;obtain ⟨ao,cap,hv,h1,h2,h3,h4⟩:=h.rd;obtain ⟨b,off,he,hc⟩:=h4.at hj;rcases h.2 with ⟨rfl,rfl⟩|⟨g,cap',cur,hv',hb,hg,_⟩
 ·cases hv;cases he
 ·rw[hv'] at hv
  cases hv
  cases he;refine ⟨_,_,hv',by simpa using hc,by simp[World.frozen?,hg],hb⟩
theorem Own.cellE (h:Own w B e 1 v n cs) {j:Nat} (hj:j<n): ∃g cap u,v= .slice (some ⟨g,0,none⟩) n cap∧w.cell? ⟨g,j,none⟩=some u∧w.frozen? ⟨g,j,none⟩=false∧B≤g:=by
 have hl:=h.1;obtain ⟨g,cap,h1,h2,h3,h4⟩:=h.cell (j:=j) (by omega);exact ⟨g,cap,_,h1,h2,h3,h4⟩
theorem Own.stored (h:Own w B e 1 v n cs) {g cap:Nat} (hv:v= .slice (some ⟨g,0,none⟩) n cap) {j:Nat} (u:Value):Own (w.setCell ⟨g,j,none⟩ u) B e 1 v n (cs.set j u):=by
 have hl:=h.1;refine ⟨by simpa using hl,?_⟩;rcases h.2 with ⟨rfl,_⟩|⟨g',cap',cur,rfl,hb,hg,h1,h2,h3,h4⟩
 ·cases hv
 ·cases hv
  refine .inr ⟨g,cap,cur.setIfInBounds j u,rfl,hb,?_,h1,h2,by simpa using h3,?_⟩
  ·simp only[World.setCell,Array.getElem?_modify,if_true,hg,Option.map_some]
   rfl
  ·rw[Array.toList_setIfInBounds,←h4,List.take_set]
theorem Rd.lit (w:World) (c:Array Value) (e:TypeId):Rd (w.alloc (.cells c e)) (some ⟨w.heap.size,0,none⟩) c.toList:=by
 intro j u hj;exact ⟨_,_,rfl,by simpa using hj⟩
end own
theorem q0R {P:Program} {w:World} {ops:Array Oper} {rest:List Oper} {o:Oper} {a:Act} {Q:Exit→Act→World→Prop} (hgd:o.guard=none) (s x:Operand) (t:TypeId)
  (ho:o.op= .call {callee:= .builtin .append,args:=#[s,x],argTypes:=#[t,t]})
  (base:Nat) (e:TypeId) (z:Value) (size bytes:Nat) (ht:P.underlying t=some (.slice e)) (hinfo:(P.info? e).map (fun i=>(i.zero,i.size,i.bytes))=some (some z,size,bytes))
  (hzs:z.cells.size=size) (hsz:0<size)
  (v:Value) (n:Nat) (xs:List Value) (hs:a.eval s=v) (hown:Own w base e size v n xs)
  (ao:Option Addr) (m c:Nat) (news:List Value) (hx:a.eval x= .slice ao m c) (hl:news.length=m*size) (hnil:ao=none→c=0) (hnews:Rd w ao news) (h1: ∀u∈news,u.oneCell'=true)
  (hbytes:(n+m)*bytes≤140737488355328) (h63:n+m≤9223372036854775807) (hbase:base≤w.heap.size)
  (h: ∀v' w',Own w' base e size v' (n+m) (xs++news)→w.grownBy w' v.ownBlock→(v'.ownBlock=v.ownBlock∨ ∀g,v'.ownBlock=some g→w.heap.size≤g)→wpList P ops Q rest (a.put o.dst v') w'):wpList P ops Q (o::rest) a w:=by
 obtain ⟨i,hi,hz,hsize,hby⟩:=info_parts hinfo
 cases ao with
 | some ad =>
  have hnews': ∀j u,news[j]? =some u→w.cell? (ad.add j)=some u:=by
   intro j u hj;obtain ⟨b,off,e,hc⟩:=hnews j u hj
   cases e;rw[Addr.add_lit];exact hc
  have hxl:=hown.1;rcases hown.2 with ⟨rfl,rfl⟩|⟨g,cap,cur,rfl,hbg,hg,hnc,hcm,hcs,htake⟩
  ·obtain rfl:xs=[]:=List.eq_nil_of_length_eq_zero (by simpa using hxl)
   exact wpList_append_own w hgd s x t ho w.heap.size e i z size bytes ht hi hz hsize hby hzs hsz _ 0 [] hs (World.ownsRow_nil _ _ _ _) ad m c news hx hl hnews' h1 (by unfold maxLen;omega) hbytes (Nat.le_refl _) (fun v' w' h1 h2 _=>h v' w' ((Own.of_row h1).base hbase) h2 (.inr fun g hg=>((Own.of_row h1).lt g hg).1))
  ·by_cases hroom:n+m≤cap
   ·have hmul:=Nat.mul_le_mul_right size hroom
    rw[Nat.add_mul] at hmul;have hr:=run_append_room (P:=P) w t o.type e i ht hi g n cap cur hg ad m c news (by rw[hsize];exact hl) hnews' h1 hroom (by rw[hsize];omega);rw[hsize] at hr;refine Lib.wpList_append_run w hgd s x t t ho _ _ hs hx _ _ hr (h _ _ ⟨by simp[hxl,hl,Nat.add_mul],.inr ⟨g,cap,_,rfl,hbg,setRow_heap w g cur _ e _ hg,hroom,hcm,?_,?_⟩⟩ ⟨rfl,rfl,rfl,by simp,fun k _ hk=>setRow_other w g k _ (fun e=>hk (by simp[Value.ownBlock,e]))⟩ (.inl rfl))
    ·simp only[List.size_toArray,List.length_append,List.length_take,List.length_drop,Array.length_toList]
     omega
    ·rw[htake,show (n+m)*size=(xs++news).length from by simp[hxl,hl,Nat.add_mul]]
     exact List.take_left
   ·refine wpList_append_grows w hgd s x t ho e i z size bytes ht hi hz hsize hby hzs hsz (some ⟨g,0,none⟩) n cap xs hs (fun hh=>by cases hh) hxl ?_ ad m c news hx hl hnews' h1 (by omega) (by unfold maxLen;omega) hbytes ?_
    ·intro b hb j u hj
     cases hb;obtain ⟨_,_,_,_,_,_,hrd⟩:=hown.rd;have: ∃ao cap',(Value.slice (some ⟨g,0,none⟩) n cap)= .slice ao n cap'∧Rd w ao xs:=by
      obtain ⟨ao,cap',e1,_,_,_,r⟩:=hown.rd;exact ⟨ao,cap',e1,r⟩
     obtain ⟨ao,cap',e1,r⟩:=this
     cases e1;obtain ⟨b,off,e2,hc⟩:=r j u hj
     cases e2;rw[Addr.add_lit];exact hc
    ·intro v' w' r1 r2
     exact h v' w' ((Own.of_row r1).base hbase) ⟨r2.os,r2.tape,r2.output,r2.size,fun k hk _=>r2.block k hk (by simp)⟩ (.inr fun g hg=>((Own.of_row r1).lt g hg).1)
 | none =>
  have hn0:news=[]:=by
   cases news with
   |nil=>rfl
   |cons y ys=>obtain ⟨b,off,e,_⟩:=hnews 0 y rfl;cases e
  subst hn0;have hm:m=0:=by
   rcases Nat.eq_zero_or_pos m with h|h
   ·exact h
   ·have:=Nat.mul_pos h hsz;simp at hl;omega
  subst hm;obtain rfl:=hnil rfl;have hxl:=hown.1;have hend:wpList P ops Q rest (a.put o.dst v) w:=by
   have:=h v w (by simpa using hown) (World.grownBy.refl w _) (.inl rfl);exact this
  rcases hown.2 with ⟨rfl,rfl⟩|⟨g,cap,cur,rfl,hbg,hg,hnc,hcm,hcs,htake⟩
  ·exact wpList_append_own_none hgd s x t ho base e i size ht hi _ 0 [] hs (World.ownsRow_nil _ _ _ _) hx hend
  ·have hrun:(Builtin.append_ #[t,t] o.type #[.slice (some ⟨g,0,none⟩) n cap,.slice none 0 0]).run P w= .ok (.slice (some ⟨g,0,none⟩) n cap) w:=by
    simp[Builtin.append_,run_underlying ht,sizeOf,typeInfo,hi,Builtin.lenOf,hnc,Builtin.firstCells,storeCells]
   exact Lib.wpList_append_run w hgd s x t t ho _ _ hs hx _ _ hrun hend
theorem q0p {B:Nat} {e:TypeId} {size:Nat} {v:Value} {n:Nat} {xs:List Value} {w0 w w':World} (h:Below B w0 w) (hown:Own w B e size v n xs) (hg:w.grownBy w' v.ownBlock) (hB:B≤w.heap.size):Below B w0 w':=
 h.grown hg hB fun k hk=>(hown.lt k hk).1
theorem q1z {w:World} {B:Nat} {e:TypeId} {v:Value} {n:Nat} {xs:List Int} (h:Own w B e 1 v n (xs.map (Value.int .i64))):
  ∃ao cap,v= .slice ao n cap∧Ints w ao n cap xs:=by
 have hl:=h.1;obtain ⟨ao,cap,rfl,h1,h2,h3,h4⟩:=h.rd;exact ⟨ao,cap,rfl,by simpa using hl,h1,h2,h3,h4⟩
structure OGr (w:World) (B:Nat) (tO tI:TypeId) (v:Value) (vs:List Value) (L:List (List Int)):Prop where
 own:Own w B tO 1 v L.length vs
 row: ∀i,Own w B tI 1 (vs.getD i (.slice none 0 0)) (L.getD i []).length ((L.getD i []).map (Value.int .i64))
 sep: ∀i j g,i≠j→(vs.getD i (.slice none 0 0)).ownBlock=some g→(vs.getD j (.slice none 0 0)).ownBlock≠some g
theorem OGr.nil (w:World) (B:Nat) (tO tI:TypeId):OGr w B tO tI (.slice none 0 0) [] []:=
 ⟨Own.nil _ _ _ _,fun i=>by simpa using Own.nil _ _ _ _,fun i j g _ h=>by simp[Value.ownBlock] at h⟩
theorem OGr.ext {w w':World} {B:Nat} {tO tI:TypeId} {v:Value} {vs:List Value} {L:List (List Int)} (h:OGr w B tO tI v vs L) (k:Ext w w'):OGr w' B tO tI v vs L:=
 ⟨h.own.ext k,fun i=>(h.row i).ext k,h.sep⟩
theorem OGr.base {w:World} {B B':Nat} {tO tI:TypeId} {v:Value} {vs:List Value} {L:List (List Int)} (h:OGr w B tO tI v vs L) (k:B'≤B):OGr w B' tO tI v vs L:=
 ⟨h.own.base k,fun i=>(h.row i).base k,h.sep⟩
theorem q4H {α:Type} (l:List α) (x d:α) (i:Nat):(l++[x]).getD i d=if i<l.length then l.getD i d else if i=l.length then x else d:=by
 simp only[List.getD_eq_getElem?_getD,List.getElem?_append];by_cases h:i<l.length
 ·simp[h]
 ·by_cases h2:i=l.length
  ·simp[h2]
  ·simp only[h,h2,if_false]
   rw[List.getElem?_eq_none (by simp;omega)]
   rfl
theorem q1k {α:Type} (l:List α) (x d:α) (i j:Nat) (hi:i<l.length):(l.set i x).getD j d=if j=i then x else l.getD j d:=by
 simp only[List.getD_eq_getElem?_getD,List.getElem?_set];by_cases h:i=j
 ·subst h;simp[hi]
 ·simp[h,Ne.symm h]
theorem OGr.push {w w':World} {B B':Nat} {tO tI:TypeId} {v vi v':Value} {vs:List Value} {L:List (List Int)} {l:List Int} (h:OGr w B tO tI v vs L) (hne:tO≠tI)
  (hv:Own w B' tI 1 vi l.length (l.map (Value.int .i64))) (hB:B≤B') (hfresh: ∀j g,(vs.getD j (.slice none 0 0)).ownBlock=some g→g<B')
  (own':Own w' B tO 1 v' (L.length+1) (vs++[vi])) (hg:w.grownBy w' v.ownBlock):OGr w' B tO tI v' (vs++[vi]) (L++[l]):=by
 have hvl:vs.length=L.length:=by simpa using h.own.1
 refine ⟨by simpa using own',fun i=>?_,fun i j g hij=>?_⟩
 ·rw [q4H,q4H,hvl]
  split
  ·exact (h.row i).kept hg fun g hb hx=>(h.own.apart (h.row i) hne) g hx hb
  ·split
   ·exact (hv.base hB).kept hg fun g hb hx=>(h.own.apart hv hne) g hx hb
   ·exact Own.nil _ _ _ _
 ·rw [q4H,q4H]
  by_cases hi:i<vs.length
  ·rw [if_pos hi]
   by_cases hj:j<vs.length
   ·rw[if_pos hj];exact h.sep i j g hij
   ·rw[if_neg hj]
    intro hi2;have:=hfresh i g hi2
    split
    ·intro hx;have:=(hv.lt g hx).1;omega
    ·simp[Value.ownBlock]
  ·rw [if_neg hi]
   split
   ·rename_i hie
    intro hx;have:=(hv.lt g hx).1;by_cases hj:j<vs.length
    ·rw[if_pos hj];intro hy;have:=hfresh j g hy;omega
    ·rw[if_neg hj,if_neg (by omega)];simp[Value.ownBlock]
   ·simp[Value.ownBlock]
theorem OGr.lt {w:World} {B:Nat} {tO tI:TypeId} {v:Value} {vs:List Value} {L:List (List Int)} (h:OGr w B tO tI v vs L): ∀j g,(vs.getD j (.slice none 0 0)).ownBlock=some g→g<w.heap.size:=
 fun j g hg=>((h.row j).lt g hg).2
theorem OGr.put {w w':World} {B:Nat} {tO tI:TypeId} {v vi:Value} {vs:List Value} {L:List (List Int)} {l:List Int} {i g n cap:Nat} {row:Option Nat} (h:OGr w B tO tI v vs L) (hne:tO≠tI)
  (hv:v= .slice (some ⟨g,0,none⟩) n cap) (hi:i<L.length)
  (own':Own w' B tI 1 vi l.length (l.map (Value.int .i64))) (hg:w.grownBy w' row) (hrow:row=none∨row=(vs.getD i (.slice none 0 0)).ownBlock)
  (hfr:vi.ownBlock=row∨ ∀g,vi.ownBlock=some g→w.heap.size≤g):
  OGr (w'.setCell ⟨g,i,none⟩ vi) B tO tI v (vs.set i vi) (L.set i l):=by
 have hvl:vs.length=L.length:=by simpa using h.own.1
 have hgb:v.ownBlock=some g:=by rw[hv];rfl
 have hrw: ∀x,row=some x→(vs.getD i (.slice none 0 0)).ownBlock=some x:=by
  intro x hx;rcases hrow with h0|h0
  ·rw[h0] at hx;cases hx
  ·rw[←h0];exact hx
 have hn:L.length=n:=by
  obtain ⟨a,c,e⟩:=h.own.slice;rw[hv] at e;cases e;rfl
 subst hn;have hown1:Own w' B tO 1 v L.length vs:=h.own.kept hg fun x hx hy=>(h.own.apart (h.row i) hne) x hx (hrw x hy)
 have hset:=hown1.stored hv (j:=i) vi;refine ⟨by simpa using hset,fun j=>?_,fun a b x hab=>?_⟩
 ·rw [q1k _ _ _ _ _ (by omega),q1k _ _ _ _ _ (by omega)]
  split
  ·refine own'.setOther _ fun hx=>?_
   exact (hown1.apart own' hne) g hgb hx
  ·rename_i hji
   refine Own.setOther ((h.row j).kept hg fun x hx hy=>h.sep i j x (Ne.symm hji) (hrw x hy) hx) _ fun hx=>?_
   exact (h.own.apart (h.row j) hne) g hgb hx
 ·have fr: ∀j,j≠i→ ∀x,vi.ownBlock=some x→(vs.getD j (.slice none 0 0)).ownBlock≠some x:=by
   intro j hj x hx;rcases hfr with hfr|hfr
   ·exact h.sep i j x (Ne.symm hj) (hrw x (hfr▸hx))
   ·intro hy
    have:=hfr x hx;have:=h.lt j x hy;omega
  rw[q1k _ _ _ _ _ (by omega),q1k _ _ _ _ _ (by omega)];by_cases ha:a=i
  ·rw[if_pos ha,if_neg (by omega)]
   exact fr b (by omega) x
  ·rw [if_neg ha]
   by_cases hb:b=i
   ·rw[if_pos hb]
    intro hx hy;exact fr a ha x hy hx
   ·rw[if_neg hb];exact h.sep a b x hab
theorem OGr.cell {w w':World} {B:Nat} {tO tI:TypeId} {vs:List Value} {L:List (List Int)} {i n cap:Nat} {ao:Option Addr} {row:Option Nat} (h:OGr w B tO tI (.slice ao n cap) vs L) (hne:tO≠tI) (hi:i<L.length)
  (hg:w.grownBy w' row) (hrow:row=none∨row=(vs.getD i (.slice none 0 0)).ownBlock):
  ∃g,ao=some ⟨g,0,none⟩∧w.cell? ⟨g,i,none⟩=some (vs.getD i (.slice none 0 0))∧w'.cell? ⟨g,i,none⟩=some (vs.getD i (.slice none 0 0))∧w'.frozen? ⟨g,i,none⟩=false∧B≤g:=by
 have hvl:vs.length=L.length:=by simpa using h.own.1
 have hown1:Own w' B tO 1 (.slice ao n cap) L.length vs:=h.own.kept hg fun x hx hy=>by
  rcases hrow with h0|h0
  ·rw[h0] at hy;cases hy
  ·exact (h.own.apart (h.row i) hne) x hx (h0▸hy)
 obtain ⟨g,c,e,h1,_,_⟩:=h.own.cell (j:=i) (by omega);obtain ⟨g',c',e',h2,h3,h4⟩:=hown1.cell (j:=i) (by omega)
 cases e
 cases e';have hd:vs.getD i (.slice none 0 0)=vs[i]:=by rw[List.getD_eq_getElem?_getD,List.getElem?_eq_getElem (by omega)];rfl
 exact ⟨_,rfl,by rw[hd];exact h1,by rw[hd];exact h2,h3,h4⟩
theorem OGr.head {w:World} {B:Nat} {tO tI:TypeId} {vs:List Value} {L:List (List Int)} {i n cap:Nat} {ao:Option Addr} (h:OGr w B tO tI (.slice ao n cap) vs L) (hi:i<L.length):
  ∃ g ai ci,ao=some ⟨g,0,none⟩∧w.cell? ⟨g,i,none⟩=some (.slice ai (L.getD i []).length ci)∧vs.getD i (.slice none 0 0)= .slice ai (L.getD i []).length ci∧
   Own w B tI 1 (.slice ai (L.getD i []).length ci) (L.getD i []).length ((L.getD i []).map (Value.int .i64))∧B≤g:=by
 have hvl:vs.length=L.length:=by simpa using h.own.1
 obtain ⟨g,c,e,h1,_,hb⟩:=h.own.cell (j:=i) (by omega)
 cases e;have hd:vs.getD i (.slice none 0 0)=vs[i]:=by rw[List.getD_eq_getElem?_getD,List.getElem?_eq_getElem (by omega)];rfl
 have hr:=h.row i;obtain ⟨ai,ci,e2⟩:=hr.slice;refine ⟨g,ai,ci,rfl,?_,e2,by rw[←e2];exact hr,hb⟩;rw[h1,←hd,e2]
theorem OGr.one (w:World) {B:Nat} {tO tI:TypeId} (hB:B≤w.heap.size):OGr (w.alloc (.cells #[.slice none 0 0] tO)) B tO tI (.slice (some ⟨w.heap.size,0,none⟩) 1 1) [.slice none 0 0] [[]]:=by
 have e: ∀i:Nat,([.slice none 0 0]:List Value).getD i (.slice none 0 0)= .slice none 0 0:=by
  intro i;cases i<;>simp
 have e2: ∀i:Nat,([[]]:List (List Int)).getD i []=[]:=by
  intro i;cases i<;>simp
 refine ⟨Own.lit w #[.slice none 0 0] tO 1 1 hB rfl (by omega),fun i=>?_,fun i j g _ hg=>?_⟩
 ·rw[e,e2];exact Own.nil _ _ _ _
 ·rw[e] at hg;cases hg
theorem OGr.cut {w:World} {B:Nat} {tO tI:TypeId} {vs:List Value} {L:List (List Int)} {ao:Option Addr} {n cap m c:Nat} (h:OGr w B tO tI (.slice ao n cap) vs L) (hl:L.length=n) (hm:m≤c) (hn:m≤n) (hc:c≤cap):
  OGr w B tO tI (.slice ao m c) (vs.take m) (L.take m):=by
 subst hl;have hvl:vs.length=L.length:=by simpa using h.own.1
 have e: ∀{α:Type} (l:List α) (d:α) (i:Nat),(l.take m).getD i d=if i<m then l.getD i d else d:=by
  intro α l d i;simp only[List.getD_eq_getElem?_getD,List.getElem?_take]
  split<;>rfl
 have hmm:(L.take m).length=m:=by simp;omega
 refine ⟨by rw[hmm];simpa using h.own.cut hm rfl hn hc,fun i=>?_,fun i j g hij=>?_⟩
 ·rw[e,e]
  split
  ·exact h.row i
  ·exact Own.nil _ _ _ _
 ·rw [e,e]
  by_cases hi:i<m
  ·rw[if_pos hi]
   by_cases hj:j<m
   ·rw[if_pos hj];exact h.sep i j g hij
   ·rw[if_neg hj];intro _;simp[Value.ownBlock]
  ·rw[if_neg hi];intro hx;simp[Value.ownBlock] at hx
theorem OGr.grid {w:World} {B:Nat} {tO tI:TypeId} {v:Value} {vs:List Value} {L:List (List Int)} (h:OGr w B tO tI v vs L): ∃ao cap,v= .slice ao L.length cap∧Grid w ao L.length cap L:=by
 have hvl:vs.length=L.length:=by simpa using h.own.1
 obtain ⟨ao,cap,hv,h1,h2,h3,h4⟩:=h.own.rd;refine ⟨ao,cap,hv,rfl,h1,h2,h3,fun i hi=>?_⟩;obtain ⟨b,off,e,hc⟩:=h4.at (j:=i) (by omega);have hrow:=h.row i;rw[List.getD_eq_getElem?_getD,List.getElem?_eq_getElem (by omega),List.getD_eq_getElem?_getD,List.getElem?_eq_getElem hi] at hrow;obtain ⟨ai,ci,he,hr⟩:=q1z hrow;simp only[Option.getD_some] at he hr;exact ⟨b,off,ai,ci,e,by rw[hc,he],hr⟩
def y4U (tO tI:TypeId) (w:World) (L:List (List Int)) (e:Ending) (w':World):Prop:=
 ∃v vs,e= .returned v∧OGr w' w.heap.size tO tI v vs L∧Ext w w'
def RetGE (tO tI:TypeId) (w:World) (r:List (List Int)×Int) (e:Ending) (w':World):Prop:=
 ∃v vs,e= .returned (.tuple #[v,.int .i64 r.2])∧OGr w' w.heap.size tO tI v vs r.1∧Ext w w'
def RetIE (t:TypeId) (w:World) (r:List Int×Int) (e:Ending) (w':World):Prop:=
 ∃v,e= .returned (.tuple #[v,.int .i64 r.2])∧Own w' w.heap.size t 1 v r.1.length (r.1.map (Value.int .i64))∧Ext w w'
theorem RetGE.mk {tO tI:TypeId} {w w':World} {r:List (List Int)×Int} {M:List (List Int)} {c:Int} {v:Value} {vs:List Value} (hr:r=(M,c)) (h:OGr w' w.heap.size tO tI v vs M) (he:Ext w w'):
  RetGE tO tI w r (.returned (.tuple #[v,.int .i64 c])) w':=by subst hr;exact ⟨v,vs,rfl,h,he⟩
theorem RetGE.err {tO tI:TypeId} {w w':World} {r:List (List Int)×Int} {c:Int} (hr:r=([],c)) (he:Ext w w'):
  RetGE tO tI w r (.returned (.tuple #[.slice none 0 0,.int .i64 c])) w':=RetGE.mk hr (OGr.nil _ _ _ _) he
theorem RetIE.mk {t:TypeId} {w w':World} {r:List Int×Int} {M:List Int} {c:Int} {v:Value} (hr:r=(M,c)) (h:Own w' w.heap.size t 1 v M.length (M.map (Value.int .i64))) (he:Ext w w'):
  RetIE t w r (.returned (.tuple #[v,.int .i64 c])) w':=by subst hr;exact ⟨v,rfl,h,he⟩
theorem RetIE.err {t:TypeId} {w w':World} {r:List Int×Int} {c:Int} (hr:r=([],c)) (he:Ext w w'):
  RetIE t w r (.returned (.tuple #[.slice none 0 0,.int .i64 c])) w':=RetIE.mk hr (Own.nil _ _ _ _) he
def y3b :Value→Nat| .slice _ n _=>n|_=>0
def y3w (t:TypeId) (w:World) (xs:List Int) (e:Ending) (w':World):Prop:=
 ∃v,e= .returned v∧Own w' w.heap.size t 1 v xs.length (xs.map (Value.int .i64))∧Ext w w'
theorem q1r {α:Type} (L:List (List α)) (k:Nat):(L.take k).flatten.length≤L.flatten.length:=by
 conv=>rhs;rw[←List.take_append_drop k L,List.flatten_append,List.length_append]
 omega
theorem q2i {α:Type} (L:List (List α)) (k:Nat) (h:k<L.length):(L.take (k+1)).flatten=(L.take k).flatten++L.getD k []:=by
 rw[q0U L [] k h];simp
structure ExtOf (w:World) where
 w':World
 h:Ext w w'
instance (w :World):Nonempty (ExtOf w):=⟨⟨w,Ext.refl w⟩⟩
theorem q0F {P:Program} {id:Nat} {Q:Exit→Act→World→Prop} {a:Act} {w:World} {l:List Oper} (hm:P.follows .mixedOrders=true) (hB:Region.lexB .any l.toArray=true)
  (h:wpQuiet P l.toArray (fun w'=> ∃x:ExtOf w,w'=x.w') (fun a'=> ∀w',Ext w w'→Q .normal a' w') l a):(Code.region id l.toArray true).wp P Q a w:=by
 refine wp_region_quiet (C:=fun w'=> ∃x:ExtOf w,w'=x.w') hm hB ⟨⟨w.drew,(Ext.refl w).drew⟩,rfl⟩ ?_;have e:(fun a'=> ∀w',Ext w w'→Q .normal a' w')=(fun a'=> ∀w',(∃x:ExtOf w,w'=x.w')→Q .normal a' w'):=by
  funext a'
  exact propext ⟨fun h w' ⟨x,hx⟩=>hx▸h _ x.h,fun h w' hw=>h w' ⟨⟨w',hw⟩,rfl⟩⟩
 rw[←e]
 simpa using h
theorem Calls.quiet_ext {P:Program} {f:FuncId} {args:Array Value} {w:World} {x:ExtOf w} {v:Value}
  (h:Calls P f args x.w' fun e w'=>e= .returned v∧Ext x.w' w'):Calls P f args x.w' fun e w''=>e= .returned v∧ ∃y:ExtOf w,w''=y.w':=
 h.mono fun _ w' ⟨he,hm⟩=>⟨he,⟨w',x.h.trans hm⟩,rfl⟩
theorem q0E {w:World} {a:Addr} {u:Value} (hc:w.cell? a=some u) (x:ExtOf w):x.w'.cell? a=some u:=q0A x.h hc
end
section
def be :Nat→Nat→List UInt8
 |0,_=>[]
 |k+1,x=>UInt8.ofNat (x/256^k)::be k x
def q1Q (l:List UInt8):Nat:=l.foldl (fun a b=>a*256+b.toNat) 0
theorem q0I (k x:Nat):(be k x).length=k:=by
 induction k with
 |zero=>rfl
 |succ k ih=>simp[be,ih]
theorem z6H (l:List UInt8): ∀a,l.foldl (fun a b=>a*256+b.toNat) a=a*256^l.length+q1Q l:=by
 induction l with
 |nil=>intro a;simp[q1Q]
 | cons b l ih=>
  intro a;have h2:q1Q (b::l)=(0*256+b.toNat)*256^l.length+q1Q l:=by
   unfold q1Q;rw[List.foldl_cons];exact ih _
  rw[List.foldl_cons,ih,h2,List.length_cons,Nat.pow_succ,Nat.add_mul,Nat.zero_mul,Nat.zero_add,Nat.mul_assoc,Nat.mul_comm 256,Nat.add_assoc]
theorem q8A (b:UInt8) (l:List UInt8):q1Q (b::l)=b.toNat*256^l.length+q1Q l:=by
 unfold q1Q;rw[List.foldl_cons,z6H];simp[q1Q]
theorem z6f (l:List UInt8) (b:UInt8):q1Q (l++[b])=q1Q l*256+b.toNat:=by
 unfold q1Q;rw[List.foldl_append];rfl
theorem q2J (l:List UInt8):q1Q l<256^l.length:=by
 induction l with
 |nil=>simp[q1Q]
 | cons b l ih=>
  rw[q8A,List.length_cons,Nat.pow_succ];have:=b.toNat_lt;have h:b.toNat*256^l.length≤255*256^l.length:=Nat.mul_le_mul_right _ (by omega);omega
theorem q5q (k x:Nat):q1Q (be k x)=x % 256^k:=by
 induction k with
 |zero=>simp[be,q1Q,Nat.mod_one]
 | succ k ih=>
  rw[be,q8A,q0I,ih,Nat.pow_succ,Nat.mod_mul];simp only[UInt8.toNat_ofNat'];rw[Nat.mul_comm (256^k),Nat.add_comm]
theorem z0x (l:List UInt8):be l.length (q1Q l)=l:=by
 induction l with
 |nil=>rfl
 | cons b l ih=>
  have h:=q2J l;have hp:0<256^l.length:=Nat.pow_pos (by decide);rw[List.length_cons,be,q8A];have e1:(b.toNat*256^l.length+q1Q l)/256^l.length=b.toNat:=by
   rw[Nat.add_comm,Nat.add_mul_div_right _ _ hp,Nat.div_eq_of_lt h];omega
  have e2 : ∀k,k≤l.length→be k (b.toNat*256^l.length+q1Q l)=be k (q1Q l):=by
   intro k
   induction k with
   |zero=>intro _;rfl
   | succ k ih2=>
    intro hk;rw[be,be,ih2 (by omega)]
    congr 1
    have e3:256^l.length=256^k*(256*256^(l.length-k-1)):=by
     rw[←Nat.mul_assoc,←Nat.pow_succ,←Nat.pow_add];congr 1;omega
    have hk0:0<256^k:=Nat.pow_pos (by decide);have e4:(b.toNat*256^l.length+q1Q l)/256^k=b.toNat*256^(l.length-k-1)*256+q1Q l/256^k:=by
     rw [e3,show b.toNat*(256^k*(256*256^(l.length-k-1)))+q1Q l=q1Q l+256^k*(b.toNat*256^(l.length-k-1)*256) from by
      rw[Nat.add_comm];congr 1;rw[Nat.mul_left_comm,Nat.mul_comm 256 (256^_),←Nat.mul_assoc b.toNat],
      Nat.add_mul_div_left _ _ hk0,Nat.add_comm]
    rw[e4];apply UInt8.toNat_inj.1;simp only[UInt8.toNat_ofNat'];omega
  rw[e1,e2 _ (Nat.le_refl _),ih]
  congr 1
  apply UInt8.toNat_inj.1;simp
theorem y1S (n:Nat) (L:List Value) (z v:Value):(List.replicate (n+1) z++L).set n v=List.replicate n z++v::L:=by
 rw[List.replicate_succ',List.append_assoc,List.set_append];simp
theorem z9O (X k:Nat):((X:Int)/2^(8*k) % 256)=((UInt8.ofNat (X/256^k)).toNat:Int):=by
 have:(2:Nat)^(8*k)=256^k:=by rw[Nat.pow_mul]
 rw[UInt8.toNat_ofNat'];rw[←this];simp
theorem z3P (Z:Int) (b:UInt8) (h0:0≤Z) (h1:Z<72057594037927936):bits .or .u64 (Z*256) (IntKind.u64.wrap (b.toNat:Int))=Z*256+(b.toNat:Int):=by
 have hb:=b.toNat_lt;have hw:IntKind.u64.wrap (b.toNat:Int)=(b.toNat:Int):=by rw[Go.IntKind.wrap_u64];omega
 rw[hw];exact bits_join .u64 64 (by decide) wraps_u64 8 _ _ (by omega) (by omega) (by omega) (by omega) (by omega) (by omega)
end
section
def crcPoly :BitVec 32:=0xedb88320#32
def z5N (s:BitVec 32):BitVec 32:=(s>>>1)^^^(crcPoly&&& -(s&&&1#32))
def q8o :Nat→BitVec 32→BitVec 32
 |0,s=>s
 |k+1,s=>z5N (q8o k s)
def q4S (s:BitVec 32) (c:UInt8):BitVec 32:=q8o 8 (s^^^BitVec.ofNat 32 c.toNat)
def q1l (l:List UInt8):BitVec 32:= ~~~(l.foldl q4S (~~~0#32))
theorem q4a (s:BitVec 32):BitVec.ofInt 32 (s.toNat:Int)=s:=by
 rw[BitVec.ofInt_natCast];simp
theorem z8D (s:BitVec 32):IntKind.u32.wrap (s.toNat:Int)=(s.toNat:Int):=by
 have:=s.isLt;rw[IntKind.wrap_u32];omega
theorem q5j (s t:BitVec 32):bits .xor .u32 (s.toNat:Int) (t.toNat:Int)=((s^^^t).toNat:Int):=by
 show IntKind.u32.wrap ((BitVec.ofInt 32 (s.toNat:Int)^^^BitVec.ofInt 32 (t.toNat:Int)).toNat:Int)=_;rw[q4a,q4a,z8D]
theorem q8G (s t:BitVec 32):bits .and .u32 (s.toNat:Int) (t.toNat:Int)=((s&&&t).toNat:Int):=by
 show IntKind.u32.wrap ((BitVec.ofInt 32 (s.toNat:Int)&&&BitVec.ofInt 32 (t.toNat:Int)).toNat:Int)=_;rw[q4a,q4a,z8D]
theorem y2s (s:BitVec 32):((s.toNat:Nat):Int)/(2:Int)=((s>>>1).toNat:Int):=by
 rw[BitVec.toNat_ushiftRight,Nat.shiftRight_eq_div_pow];simp
theorem y3X (s:BitVec 32): -(s.toNat:Int) % 4294967296=((-s).toNat:Int):=by
 have:=s.isLt;rw[BitVec.toNat_neg];omega
theorem y3E (s:BitVec 32):bits .xor .u32 IntKind.u32.max (s.toNat:Int)=((~~~s).toNat:Int):=by
 have h:IntKind.u32.max=((BitVec.allOnes 32).toNat:Int):=by decide
 rw[h,q5j]
 congr 2
theorem y1n (s:BitVec 32):bits .xor .u32 ((s.toNat:Int)/2) (bits .and .u32 3988292384 (-bits .and .u32 (s.toNat:Int) 1 % 4294967296))=((z5N s).toNat:Int):=by
 have h1:(1:Int)=((1#32).toNat:Int):=rfl;have h2:(3988292384:Int)=(crcPoly.toNat:Int):=rfl;rw[h1,q8G,y3X,h2,q8G,y2s,q5j]
 rfl
theorem y1w (c:UInt8):((BitVec.ofNat 32 c.toNat).toNat:Int)=(c.toNat:Int):=by
 have:=c.toNat_lt;rw[BitVec.toNat_ofNat];omega
end
section
def q1H (L:List (List Int)):Nat→Nat
 |0=>0
 |n+1=>if L.getD n []=[] then q1H L n else n+1
def q0O (L:List (List Int)):List (List Int):=L.take (q1H L L.length)
theorem q2Y (L:List (List Int)) (n:Nat):q1H L n≤n:=by
 induction n with
 |zero=>exact Nat.le_refl _
 |succ n ih=>rw[q1H];split<;>omega
theorem q5m (L:List (List Int)) (n:Nat) (h:L.getD n []=[]):q1H L (n+1)=q1H L n:=by rw[q1H,if_pos h]
theorem q4O (L:List (List Int)) (n:Nat) (h:L.getD n []≠[]):q1H L (n+1)=n+1:=by rw[q1H,if_neg h]
theorem q8O (L M:List (List Int)) (n:Nat) (h: ∀i,i<n→L.getD i []=M.getD i []):q1H L n=q1H M n:=by
 induction n with
 |zero=>rfl
 | succ n ih=>
  rw[q1H,q1H,h n (by omega),ih (fun i hi=>h i (by omega))]
theorem q3y {α:Type} (L:List α) (d:α) (m i:Nat) (h:i<m):(L.take m).getD i d=L.getD i d:=by
 simp only[List.getD_eq_getElem?_getD,List.getElem?_take,h,if_true]
theorem q4C {α:Type} (L:List α) (d:α) (i:Nat) (h:L.length≤i):L.getD i d=d:=by
 rw[List.getD_eq_getElem?_getD,List.getElem?_eq_none h];rfl
def q4L (L:List (List Int)):List (List Int):=L++List.replicate (5-L.length) []
theorem q2L (L:List (List Int)) (h:L.length≤5):(q4L L).length=5:=by simp[q4L];omega
theorem q5P (L:List (List Int)) (i:Nat):(q4L L).getD i []=L.getD i []:=by
 unfold q4L;simp only[List.getD_eq_getElem?_getD,List.getElem?_append]
 split
 ·rfl
 ·rw[List.getElem?_eq_none (l:=L) (by omega)]
  rcases Nat.lt_or_ge (i-L.length) (List.replicate (5-L.length) ([]:List Int)).length with h|h
  ·rw[List.getElem?_eq_getElem h];simp
  ·rw[List.getElem?_eq_none h]
theorem z0G (L:List (List Int)) (n k:Nat) (h: ∀i,n≤i→i<n+k→L.getD i []=[]):q1H L (n+k)=q1H L n:=by
 induction k with
 |zero=>rfl
 | succ k ih=>
  rw[←Nat.add_assoc,q5m L (n+k) (h _ (by omega) (by omega)),ih (fun i h1 h2=>h i h1 (by omega))]
theorem z5G {α:Type} (L M:List α) (d:α) (h0:L.length=M.length) (h: ∀i,i<L.length→L.getD i d=M.getD i d):L=M:=by
 apply List.ext_getElem h0;intro i h1 h2;have:=h i h1;rw[List.getD_eq_getElem?_getD,List.getD_eq_getElem?_getD,List.getElem?_eq_getElem h1,List.getElem?_eq_getElem h2] at this;exact this
theorem q8p (L M:List (List Int)) (h: ∀i,L.getD i []=M.getD i []):q0O L=q0O M:=by
 have hN:q1H L L.length=q1H M M.length:=by
  rcases Nat.le_total L.length M.length with hle|hle
  ·obtain ⟨k,hk⟩:=Nat.exists_eq_add_of_le hle
   rw[hk,←q8O L M _ (fun i _=>h i),z0G L L.length k (fun i h1 _=>q4C L [] i h1)]
  ·obtain ⟨k,hk⟩:=Nat.exists_eq_add_of_le hle
   rw[hk,q8O L M _ (fun i _=>h i),z0G M M.length k (fun i h1 _=>q4C M [] i h1)]
 unfold q0O;have l1:(L.take (q1H L L.length)).length=q1H L L.length:=by have:=q2Y L L.length;simp;omega
 have l2:(M.take (q1H M M.length)).length=q1H M M.length:=by have:=q2Y M M.length;simp;omega
 refine z5G _ _ [] (by rw[l1,l2,hN]) fun i hi=>?_
 rw[l1] at hi;rw[q3y _ _ _ _ hi,q3y _ _ _ _ (by omega),h]
theorem q1R (L:List (List Int)) (i:Nat):(q0O L).getD i []=L.getD i []:=by
 unfold q0O;rcases Nat.lt_or_ge i (q1H L L.length) with h|h
 ·exact q3y _ _ _ _ h
 ·rw [q4C _ _ _ (by simp;omega)]
  have : ∀ n,q1H L n≤i→i<n→L.getD i []=[]:=by
   intro n
   induction n with
   |zero=>intro _ h2;omega
   | succ n ih=>
    intro h1 h2;rw[q1H] at h1
    split at h1
    ·rename_i he
     rcases Nat.lt_or_ge i n with h3|h3
     ·exact ih h1 h3
     ·have:i=n:=by omega
      subst this;exact he
    ·omega
  rcases Nat.lt_or_ge i L.length with h2|h2
  ·exact (this _ h h2).symm
  ·exact (q4C _ _ _ h2).symm
theorem q1V (L:List (List Int)):(q0O L).length=q1H L L.length:=by have:=q2Y L L.length;simp[q0O];omega
def q0a (L:List (List Int)):Bool:=decide (L.length≤5∧L.flatten.length≤40∧(∀x∈L.flatten,0≤x)∧L.flatten.Nodup)
theorem q3R (xs:List Int) (k:Nat) (h:k<xs.length):xs.getD k 0∈xs:=by
 rw[List.getD_eq_getElem?_getD,List.getElem?_eq_getElem h];exact List.getElem_mem h
theorem z3V (L:List (List Int)) (h:5<L.length):q0a L=false:=by unfold q0a;rw[decide_eq_false_iff_not];rintro ⟨h1,_⟩;omega
theorem z2M (L:List (List Int)) (h:40<L.flatten.length):q0a L=false:=by unfold q0a;rw[decide_eq_false_iff_not];rintro ⟨_,h1,_⟩;omega
theorem z5g (L:List (List Int)) (k:Nat) (hk:k<L.flatten.length) (h:L.flatten.getD k 0<0):q0a L=false:=by
 unfold q0a;rw[decide_eq_false_iff_not];rintro ⟨_,_,h1,_⟩;have:=h1 _ (q3R _ k hk);omega
theorem z5a (L:List (List Int)) (k:Nat) (hk:k<L.flatten.length) (h:L.flatten.getD k 0∈L.flatten.take k):q0a L=false:=by
 unfold q0a;rw[decide_eq_false_iff_not];rintro ⟨_,_,_,h1⟩;have h2:=h1.sublist (List.take_sublist (k+1) _);rw[q0U _ 0 k hk] at h2;have:=(List.nodup_append.1 h2).2.2 _ h _ (List.mem_singleton.2 rfl);exact this rfl
theorem q6L (L:List (List Int)) (h1:L.length≤5) (h2:L.flatten.length≤40) (h3: ∀x∈L.flatten,0≤x) (h4:L.flatten.Nodup):q0a L=true:=by
 unfold q0a;exact decide_eq_true ⟨h1,h2,h3,h4⟩
theorem q7d (xs:List Int) (k:Nat) (hk:k<xs.length) (h0: ∀x∈xs.take k,0≤x) (h1:¬xs.getD k 0<0): ∀x∈xs.take (k+1),0≤x:=by
 rw[q0U _ 0 k hk];intro x hx;rcases List.mem_append.1 hx with h|h
 ·exact h0 x h
 ·rw[List.mem_singleton.1 h];omega
theorem q8W (xs:List Int) (k:Nat) (hk:k<xs.length) (h0:(xs.take k).Nodup) (h1:xs.getD k 0∉xs.take k):(xs.take (k+1)).Nodup:=by
 rw[q0U _ 0 k hk,List.nodup_append];refine ⟨h0,by simp,fun a ha b hb=>?_⟩;rw[List.mem_singleton.1 hb];intro e;exact h1 (e▸ha)
theorem z1M (xs:List Int) (k:Nat) (hk:k<xs.length) (x:Int):(x∈xs.take (k+1))↔(x∈xs.take k∨x=xs.getD k 0):=by
 rw[q0U _ 0 k hk,List.mem_append,List.mem_singleton]
theorem q2s (L:List (List Int)) (i:Nat):(L.getD i []).length≤L.flatten.length:=by
 rcases Nat.lt_or_ge i L.length with h|h
 ·have h1:=q2i L i h
  have h2:=q1r L (i+1);rw[h1,List.length_append] at h2;omega
 ·rw[q4C _ _ _ h];simp
theorem z5b (L:List (List Int)) (h:q0a L=true):L.length≤5∧L.flatten.length≤40:=by
 unfold q0a at h;have:=of_decide_eq_true h;exact ⟨this.1,this.2.1⟩
def q5a (L:List (List Int)) (x:Int):List (List Int):=(if q0O L=[] then [[]] else q0O L).set 0 (L.getD 0 []++[x])
def addS (L:List (List Int)) (x:Int):List (List Int)×Int:=
 if q0a L=false∨x<0∨x∈L.flatten then ([],2) else if 40≤L.flatten.length then ([],60) else (q5a L x,0)
def q0y (L:List (List Int)) (level:Int):List Int×Int:=
 if q0a L=false∨level<0∨5≤level then ([],2) else if L.getD level.toNat []=[] then ([],4) else (L.getD level.toNat [],0)
def z2x (L:List (List Int)) (level:Nat) (x:Int):List (List Int):=
 q0O ((((q4L L).set level []).set (min (level+1) 4)) ((((q4L L).set level []).getD (min (level+1) 4) [])++[x]))
def q0T (L:List (List Int)) (level x:Int):List (List Int)×Int:=
 if (q0y L level).2≠0 then ([],(q0y L level).2) else if x<0∨x∈L.flatten then ([],2) else (z2x L level.toNat x,0)
theorem z4R (L:List (List Int)) (x:Int) (h:q0a L=false∨x<0∨x∈L.flatten):addS L x=([],2):=by rw[addS,if_pos h]
theorem z2V (L:List (List Int)) (x:Int) (h:¬(q0a L=false∨x<0∨x∈L.flatten)) (h2:40≤L.flatten.length):addS L x=([],60):=by rw[addS,if_neg h,if_pos h2]
theorem z7p (L:List (List Int)) (x:Int) (h:¬(q0a L=false∨x<0∨x∈L.flatten)) (h2:¬40≤L.flatten.length):addS L x=(q5a L x,0):=by rw[addS,if_neg h,if_neg h2]
theorem z4u (L :List (List Int)) (x:Int) (h:L.length≤5):q0O ((q4L L).set 0 ((q4L L).getD 0 []++[x]))=q5a L x:=by
 have hw:=q2L L h;have hne:(L.getD 0 []++[x])≠[]:=by simp
 have e1 : q0O (q5a L x)=q5a L x:=by
  unfold q0O;have: ∀n,n≤(q5a L x).length→(∀i,n≤i→i<(q5a L x).length→False)→n=(q5a L x).length:=by
   intro n h1 h2;rcases Nat.lt_or_ge n (q5a L x).length with h3|h3
   ·exact (h2 n (Nat.le_refl _) h3).elim
   ·omega
  have hlast :q1H (q5a L x) (q5a L x).length=(q5a L x).length:=by
   have hl:(q5a L x).length=max 1 (q0O L).length:=by
    unfold q5a;split
    ·rename_i he;simp[he]
    ·rename_i he
     have:=List.length_pos_iff.2 he;simp;omega
   rcases Nat.lt_or_ge 1 (q0O L).length with h1|h1
   ·obtain ⟨m,hm⟩: ∃m,(q0O L).length=m+1:=⟨(q0O L).length-1,by omega⟩
    have:(q5a L x).length=m+1:=by omega
    rw[this,q4O];have he:(q5a L x).getD m []=L.getD m []:=by
     unfold q5a;have hnil:q0O L≠[]:=by intro h0;rw[h0] at hm;simp at hm
     rw[if_neg hnil,q1k _ _ _ _ _ (by omega),if_neg (by omega),q1R]
    rw[he];intro h0;rw[q1V] at hm;have : ∀n,q1H L n=m+1→L.getD m []=[]→False:=by
     intro n
     induction n with
     |zero=>intro h3;simp[q1H] at h3
     | succ n ih=>
      intro h3 h4;rw[q1H] at h3
      split at h3
      ·exact ih h3 h4
      ·rename_i h5
       have:n=m:=by omega
       subst this;exact h5 h4
    exact this _ hm h0
   ·have :(q5a L x).length=0+1:=by omega
    rw[this,q4O];have he:(q5a L x).getD 0 []=L.getD 0 []++[x]:=by
     unfold q5a
     split
     ·rfl
     ·rename_i hnil
      have:=List.length_pos_iff.2 hnil;rw[q1k _ _ _ _ _ (by omega),if_pos rfl]
    rw[he];exact hne
  rw[hlast,List.take_length]
 rw[←e1];refine q8p _ _ fun i=>?_
 rw[q1k _ _ _ _ _ (by omega),q5P,q5P];unfold q5a
 split
 ·rename_i hi
  subst hi
  split
  ·rfl
  ·rename_i hnil
   have:=List.length_pos_iff.2 hnil;rw[q1k _ _ _ _ _ (by omega),if_pos rfl]
 ·rename_i hi
  split
  ·rename_i hnil
   have hz:L.getD i []=[]:=by rw[←q1R,hnil];rfl
   rw[hz,q4C _ _ _ (by simp;omega)]
  ·rename_i hnil
   have:=List.length_pos_iff.2 hnil;rw[q1k _ _ _ _ _ (by omega),if_neg hi,q1R]
theorem z2r (T:List (List Int)) (h:T=[]∨T.getD (T.length-1) []≠[]):q0O T=T:=by
 rcases h with rfl|h
 ·rfl
 ·have hp:0<T.length:=by
   rcases Nat.eq_zero_or_pos T.length with h0|h0
   ·have:T=[]:=List.eq_nil_of_length_eq_zero h0
    subst this;simp at h
   ·exact h0
  obtain ⟨m,hm⟩: ∃m,T.length=m+1:=⟨T.length-1,by omega⟩
  unfold q0O;rw[hm] at h⊢;rw[q4O T m (by simpa using h),←hm,List.take_length]
theorem z5c (L:List (List Int)): ∀n m,q1H L n=m+1→L.getD m []≠[]:=by
 intro n
 induction n with
 |zero=>intro m h;simp[q1H] at h
 | succ n ih=>
  intro m h;rw[q1H] at h
  split at h
  ·exact ih m h
  ·rename_i h5
   have:n=m:=by omega
   subst this;exact h5
theorem z0R (L:List (List Int)) (m:Nat) (h:(q0O L).length=m+1):(q0O L).getD m []≠[]:=by
 rw[q1R];rw[q1V] at h;exact z5c L _ m h
theorem z5M (L:List (List Int)) (i:Nat) (h:L.getD i []≠[]):i<(q0O L).length:=by
 rcases Nat.lt_or_ge i (q0O L).length with h1|h1
 ·exact h1
 ·exact (h (by rw[←q1R,q4C _ _ _ h1])).elim
def y2c (L:List (List Int)) (level:Nat) (x:Int):List (List Int):=
 let M1:=(q0O L).set level []
 let into:=min (level+1) 4
 let M2:=if M1.length≤into then M1++[[]] else M1
 M2.set into (M2.getD into []++[x])
theorem y1O (L:List (List Int)) (level:Nat) (x:Int) (h5:L.length≤5) (hl:level<5) (hne:L.getD level []≠[]):y2c L level x=z2x L level x:=by
 have hlt:=z5M L level hne;have hT5:(q0O L).length≤5:=by have:=q2Y L L.length;rw[q1V];omega
 have hw:=q2L L h5;have hM1:((q0O L).set level []).length=(q0O L).length:=by simp
 have g1: ∀i,((q0O L).set level []).getD i []=if i=level then [] else L.getD i []:=by
  intro i;rw[q1k _ _ _ _ _ hlt,q1R]
 obtain ⟨M2,hM2⟩: ∃M2,M2=if ((q0O L).set level []).length≤min (level+1) 4 then (q0O L).set level []++[[]] else (q0O L).set level []:=⟨_,rfl⟩
 have hlen2:min (level+1) 4<M2.length:=by
  rw[hM2];split
  ·rename_i h;simp at h⊢;omega
  ·rename_i h;omega
 have g2: ∀i,M2.getD i []=if i=level then [] else L.getD i []:=by
  intro i;rw[hM2];split
  ·rw [q4H]
   split
   ·exact g1 i
   ·rename_i h
    have:(if i=((q0O L).set level []).length then ([]:List Int) else [])=[]:=by split<;>rfl
    rw[this];have h3:(q0O L).getD i []=[]:=q4C _ _ _ (by rw[hM1] at h;omega);rw[q1R] at h3;rw[h3];split<;>rfl
  ·exact g1 i
 have hP:y2c L level x=M2.set (min (level+1) 4) (M2.getD (min (level+1) 4) []++[x]):=by rw[hM2];rfl
 have g3: ∀i,(y2c L level x).getD i []=if i=min (level+1) 4 then M2.getD i []++[x] else M2.getD i []:=by
  intro i;rw[hP,q1k _ _ _ _ _ hlen2]
  split
  ·rename_i h;rw[h]
  ·rfl
 have hfix:q0O (y2c L level x)=y2c L level x:=by
  refine z2r _ (.inr ?_);have hl3:(y2c L level x).length=M2.length:=by rw[hP];simp
  rw[hl3,g3]
  split
  ·simp
  ·rename_i hi
   rw[g2];have hbig:min (level+1) 4+1<M2.length:=by omega
   have hM2e:M2=(q0O L).set level []:=by
    rw[hM2];split
    ·rename_i h
     rw[hM2,if_pos h] at hbig;simp at hbig h;omega
    ·rfl
   have hlen:M2.length=(q0O L).length:=by rw[hM2e];simp
   rw[if_neg (by omega)];have:=z0R L (M2.length-1) (by omega)
   rwa [q1R] at this
 rw[←hfix];unfold z2x;refine q8p _ _ fun i=>?_
 have hws:min (level+1) 4<((q4L L).set level []).length:=by simp;omega
 rw[g3,q1k _ _ _ _ _ hws];have g4: ∀i,((q4L L).set level []).getD i []=if i=level then [] else L.getD i []:=by
  intro i;rw[q1k _ _ _ _ _ (by omega),q5P]
 split
 ·rename_i h;rw[g4,g2,h]
 ·rw[g4,g2]
theorem z1s (L:List (List Int)) (k:Int) (h:q0a L=false∨k<0∨5≤k):q0y L k=([],2):=by rw[q0y,if_pos h]
theorem q9m (L:List (List Int)) (k:Int) (h:¬(q0a L=false∨k<0∨5≤k)) (h2:L.getD k.toNat []=[]):q0y L k=([],4):=by rw[q0y,if_neg h,if_pos h2]
theorem y0e (L:List (List Int)) (k:Int) (h:¬(q0a L=false∨k<0∨5≤k)) (h2:¬L.getD k.toNat []=[]):q0y L k=(L.getD k.toNat [],0):=by rw[q0y,if_neg h,if_neg h2]
theorem z2T (L:List (List Int)) (k x:Int) (h:(q0y L k).2≠0):q0T L k x=([],(q0y L k).2):=by rw[q0T,if_pos h]
theorem z2c (L:List (List Int)) (k x:Int) (h:¬(q0y L k).2≠0) (h2:x<0∨x∈L.flatten):q0T L k x=([],2):=by rw[q0T,if_neg h,if_pos h2]
theorem z4A (L:List (List Int)) (k x:Int) (h:¬(q0y L k).2≠0) (h2:¬(x<0∨x∈L.flatten)):q0T L k x=(z2x L k.toNat x,0):=by rw[q0T,if_neg h,if_neg h2]
theorem z6L (L:List (List Int)) (k:Int) (h:¬(q0y L k).2≠0):q0a L=true∧0≤k∧k<5∧L.getD k.toNat []≠[]:=by
 by_cases h1:q0a L=false∨k<0∨5≤k
 ·rw[z1s L k h1] at h;exact (h (by decide)).elim
 ·by_cases h2:L.getD k.toNat []=[]
  ·rw[q9m L k h1 h2] at h;exact (h (by decide)).elim
  ·refine ⟨?_,?_,?_,h2⟩
   ·rcases hb:q0a L with _|_
    ·exact (h1 (.inl hb)).elim
    ·rfl
   ·rcases Int.lt_or_le k 0 with h3|h3
    ·exact (h1 (.inr (.inl h3))).elim
    ·exact h3
   ·rcases Int.lt_or_le k 5 with h3|h3
    ·exact h3
    ·exact (h1 (.inr (.inr h3))).elim
end
section
theorem z0e (L:List (List Int)): ∀(i:Nat) (r:List Int),i<L.length→((L.set i r).flatten++L.getD i []).Perm (L.flatten++r):=by
 induction L with
 |nil=>intro i r h;simp at h
 | cons a T ih=>
  intro i r h
  cases i with
  | zero=>
   rw[List.perm_iff_count];intro x;simp only[List.set_cons_zero,List.flatten_cons,List.getD_cons_zero,List.count_append];omega
  | succ i=>
   have:=ih i r (by simpa using h);rw[List.perm_iff_count] at this⊢;intro x;have:=this x;simp only[List.set_cons_succ,List.flatten_cons,List.getD_cons_succ,List.count_append] at this⊢;omega
theorem q8h (L:List (List Int)) (k:Nat):(L++List.replicate k []).flatten=L.flatten:=by simp
theorem z0f (L M:List (List Int)) (hle:L.length≤M.length) (h: ∀i,L.getD i []=M.getD i []):L.flatten=M.flatten:=by
 rw[←q8h L (M.length-L.length)]
 congr 1
 refine z5G _ _ [] (by simp;omega) fun i hi=>?_
 rw[←h i];simp only[List.getD_eq_getElem?_getD,List.getElem?_append]
 split
 ·rfl
 ·rw[←List.getD_eq_getElem?_getD,List.getElem?_eq_none (l:=L) (by omega)]
  simp only[List.getD_eq_getElem?_getD,List.getElem?_replicate]
  split<;>rfl
theorem q1W (L:List (List Int)):(q0O L).flatten=L.flatten:=
 z0f _ _ (by have:=q2Y L L.length;rw[q1V];omega) (q1R L)
theorem q6Q (L:List (List Int)):(q4L L).flatten=L.flatten:=q8h _ _
theorem q6u {a b c:List Int} (h:(a++c).Perm (b++c)):a.Perm b:=by
 rw[List.perm_iff_count] at h⊢;intro x;have:=h x;simp only[List.count_append] at this;omega
theorem z2A (L:List (List Int)) (x:Int) (h:L.length≤5):(q5a L x).flatten.Perm (L.flatten++[x]):=by
 rw[←z4u L x h,q1W];have hw:=q2L L h;have h1:=z0e (q4L L) 0 ((q4L L).getD 0 []++[x]) (by omega);rw[q6Q] at h1;refine q6u (h1.trans ?_);rw[List.perm_iff_count];intro y;simp only[List.count_append];omega
theorem z2u (L:List (List Int)) (k:Nat) (x:Int) (h:L.length≤5) (hk:k<5):((z2x L k x).flatten++L.getD k []).Perm (L.flatten++[x]):=by
 unfold z2x;rw[q1W];have hw:=q2L L h;have h1:=z0e (q4L L) k [] (by omega);rw[q6Q,q5P] at h1;have h2:=z0e ((q4L L).set k []) (min (k+1) 4) (((q4L L).set k []).getD (min (k+1) 4) []++[x]) (by simp;omega);rw[List.perm_iff_count] at h1 h2⊢;intro y;have:=h1 y;have:=h2 y;simp only[List.count_append,List.count_nil] at*;omega
def GrowI (L:List (List Int)) (i:Nat):Prop:=q0a L=true∧ ∀x∈L.flatten,0≤x∧x<i
theorem q2P {L:List (List Int)} (h:q0a L=true):L.length≤5∧L.flatten.length≤40∧(∀x∈L.flatten,0≤x)∧L.flatten.Nodup:=by
 unfold q0a at h;exact of_decide_eq_true h
theorem GrowI.notMem {L:List (List Int)} {i:Nat} (h:GrowI L i):(i:Int)∉L.flatten:=fun hx=>by have:=h.2 _ hx;omega
theorem z3y (L:List (List Int)) (x:Int) (h:L.length≤5):(q5a L x).length≤5:=by
 rw[←z4u L x h,q1V];have h1:=q2Y ((q4L L).set 0 ((q4L L).getD 0 []++[x])) ((q4L L).set 0 ((q4L L).getD 0 []++[x])).length;have h2:=q2L L h;simp only[List.length_set] at h1⊢;omega
theorem z3l (L:List (List Int)) (k:Nat) (x:Int) (h:L.length≤5):(z2x L k x).length≤5:=by
 unfold z2x;rw[q1V];have h2:=q2L L h;refine Nat.le_trans (q2Y _ _) ?_;simp only[List.length_set];omega
theorem GrowI.add {L:List (List Int)} {i:Nat} (h:GrowI L i) (h40:L.flatten.length<40):GrowI (q5a L i) (i+1)∧(q5a L i).flatten.length=L.flatten.length+1:=by
 obtain ⟨h1,h2,h3,h4⟩:=q2P h.1;have hp:=z2A L i h1;have hl:=hp.length_eq;simp only[List.length_append,List.length_cons,List.length_nil] at hl;refine ⟨⟨q6L _ (z3y L i h1) (by omega) ?_ ?_,?_⟩,hl⟩
 ·intro x hx
  rcases List.mem_append.1 (hp.mem_iff.1 hx) with hx|hx
  ·exact h3 x hx
  ·rw[List.mem_singleton.1 hx];omega
 ·rw[hp.nodup_iff,List.nodup_append]
  refine ⟨h4,by simp,fun a ha b hb=>?_⟩;rw[List.mem_singleton.1 hb];intro e;exact h.notMem (e▸ha)
 ·intro x hx
  rcases List.mem_append.1 (hp.mem_iff.1 hx) with hx|hx
  ·have:=h.2 x hx;omega
  ·rw[List.mem_singleton.1 hx];omega
theorem GrowI.rep {L:List (List Int)} {i k:Nat} (h:GrowI L i) (hk:k<5) (hne:L.getD k []≠[]):
  GrowI (z2x L k i) (i+1)∧(z2x L k i).flatten.length+(L.getD k []).length=L.flatten.length+1:=by
 obtain ⟨h1,h2,h3,h4⟩:=q2P h.1;have hp:=z2u L k i h1 hk;have hl:=hp.length_eq;simp only[List.length_append,List.length_cons,List.length_nil] at hl;have hpos:=List.length_pos_iff.2 hne;have hall:(L.flatten++[(i:Int)]).Nodup:=by
  rw[List.nodup_append];refine ⟨h4,by simp,fun a ha b hb=>?_⟩;rw[List.mem_singleton.1 hb];intro e;exact h.notMem (e▸ha)
 have hnd:=(hp.nodup_iff.2 hall)
 have hmem: ∀x∈(z2x L k i).flatten,x∈L.flatten∨x=i:=by
  intro x hx;rcases List.mem_append.1 (hp.mem_iff.1 (List.mem_append.2 (.inl hx))) with hx|hx
  ·exact .inl hx
  ·exact .inr (List.mem_singleton.1 hx)
 refine ⟨⟨q6L _ (z3l L k i h1) (by omega) ?_ (List.nodup_append.1 hnd).1,?_⟩,hl⟩
 ·intro x hx
  rcases hmem x hx with hx|hx
  ·exact h3 x hx
  ·omega
 ·intro x hx
  rcases hmem x hx with hx|hx
  ·have:=h.2 x hx;omega
  ·omega
theorem GrowI.addS {L:List (List Int)} {i:Nat} (h:GrowI L i):addS L i=if 40≤L.flatten.length then ([],60) else (q5a L i,0):=by
 have:¬(q0a L=false∨(i:Int)<0∨(i:Int)∈L.flatten):=by
  rintro (h1|h1|h1)
  ·rw[h.1] at h1;cases h1
  ·omega
  ·exact h.notMem h1
 unfold Go.Proofs.YtjjfiejoeelndaaGreatDoor.addS;rw[if_neg this]
end
end Go.Proofs.YtjjfiejoeelndaaGreatDoor
