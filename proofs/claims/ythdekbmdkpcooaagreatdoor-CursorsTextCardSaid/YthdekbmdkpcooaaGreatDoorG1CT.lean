/- Small laws of no program. -/
import Derived.WalkKit
import Derived.WalkSmall
import Derived.Lib.Hide
import Derived.Deep.QuietTactic
import Derived.BigQuiet
import Derived.Deep.DeepFit
import Derived.Deep.DeepCutAuto
import Derived.Laws.AppendOwnNone
import Derived.Lib.AppendZeros
import Derived.Lib.EndianBits
set_option linter.unusedVariables false
set_option linter.unusedSimpArgs false
set_option maxRecDepth 100000
set_option maxHeartbeats 200000
namespace Go.Proofs.YthdekbmdkpcooaaGreatDoor
section
open Go.RowKit
abbrev Ext (w w':World):Prop:=Below w.heap.size w w'
theorem Ext.trans {a b c:World} (h:Ext a b) (k:Ext b c):Ext a c:=Below.trans h (Below.mono k h.size)
theorem Ext.refl (w:World):Ext w w:=Below.refl _ _
theorem Ext.drew {a w:World} (h:Ext a w):Ext a w.drew:=Below.drew h
theorem Ext.drewN {a w:World} (h:Ext a w) (n:Nat):Ext a (w.drewN n):=below_drewN h n
theorem Ext.alloc {a w:World} (h:Ext a w) (o:Obj):Ext a (w.alloc o):=Below.alloc h h.size o
theorem q0B (w:World) (o:Obj):Ext w (w.alloc o):=(Ext.refl w).alloc o
theorem q2I (w:World) (o p:Obj):Ext w ((w.alloc o).alloc p):=(q0B w o).alloc p
theorem q9b (w:World) (o p q:Obj):Ext w (((w.alloc o).alloc p).alloc q):=(q2I w o p).alloc q
def Rd (w:World) (ao:Option Addr) (cs:List Value):Prop:=
 ∀j u,cs[j]? =some u→ ∃b off,ao=some ⟨b,off,none⟩∧w.cell? ⟨b,off+j,none⟩=some u
theorem Rd.nil (w:World) (ao:Option Addr):Rd w ao []:=fun j u h=>by simp at h
theorem q0A {w w':World} (h:Ext w w') {a:Addr} {u:Value} (hc:w.cell? a=some u):w'.cell? a=some u:=
 (h.cell (World.block_lt_of_cell? (h:=hc))).trans hc
theorem Rd.ext {w w':World} {ao:Option Addr} {cs:List Value} (h:Rd w ao cs) (k:Ext w w'):Rd w' ao cs:=
 fun j u hj=>let ⟨b,off,e,hc⟩:=h j u hj;⟨b,off,e,q0A k hc⟩
theorem Rd.at {w:World} {ao:Option Addr} {cs:List Value} (h:Rd w ao cs) {j:Nat} (hj:j<cs.length):
  ∃b off,ao=some ⟨b,off,none⟩∧w.cell? ⟨b,off+j,none⟩=some cs[j]:=h j _ (List.getElem?_eq_getElem hj)
theorem Rd.take {w:World} {ao:Option Addr} {cs:List Value} (h:Rd w ao cs) (n:Nat):Rd w ao (cs.take n):=by
 intro j u hj;refine h j u ?_;rw[List.getElem?_take] at hj
 split at hj
 ·exact hj
 ·cases hj
theorem Rd.drop {w:World} {b off:Nat} {cs:List Value} (h:Rd w (some ⟨b,off,none⟩) cs) (n:Nat):Rd w (some ⟨b,off+n,none⟩) (cs.drop n):=by
 intro j u hj;rw[List.getElem?_drop] at hj;obtain ⟨b',off',e,hc⟩:=h _ u hj
 cases e;exact ⟨b,off+n,rfl,by rw[Nat.add_assoc];exact hc⟩
structure Ints (w:World) (ao:Option Addr) (n cap:Nat) (xs:List Int):Prop where
 len:xs.length=n
 fits:n≤cap
 bound:cap≤9223372036854775807
 nil:ao=none→cap=0
 rd:Rd w ao (xs.map (Value.int .i64))
theorem Ints.ext {w w':World} {ao:Option Addr} {n cap:Nat} {xs:List Int} (h:Ints w ao n cap xs) (k:Ext w w'):Ints w' ao n cap xs:=
 ⟨h.len,h.fits,h.bound,h.nil,h.rd.ext k⟩
theorem Ints.at {w:World} {ao:Option Addr} {n cap:Nat} {xs:List Int} (h:Ints w ao n cap xs) {j:Nat} (hj:j<n):
  ∃b off,ao=some ⟨b,off,none⟩∧w.cell? ⟨b,off+j,none⟩=some (.int .i64 (xs.getD j 0)):=by
 have hl:=h.len;obtain ⟨b,off,e,hc⟩:=h.rd.at (j:=j) (by simp;omega);refine ⟨b,off,e,?_⟩;rw[hc,List.getElem_map,List.getD_eq_getElem?_getD,List.getElem?_eq_getElem (by omega)]
 rfl
structure Grid (w:World) (ao:Option Addr) (n cap:Nat) (L:List (List Int)):Prop where
 len:L.length=n
 fits:n≤cap
 bound:cap≤9223372036854775807
 nil:ao=none→cap=0
 rd: ∀i (h:i<L.length),∃b off ai ci,ao=some ⟨b,off,none⟩∧w.cell? ⟨b,off+i,none⟩=some (.slice ai L[i].length ci)∧Ints w ai L[i].length ci L[i]
theorem Grid.ext {w w':World} {ao:Option Addr} {n cap:Nat} {L:List (List Int)} (h:Grid w ao n cap L) (k:Ext w w'):Grid w' ao n cap L:=
 ⟨h.len,h.fits,h.bound,h.nil,fun i hi=>let ⟨b,off,ai,ci,e,hc,hr⟩:=h.rd i hi;⟨b,off,ai,ci,e,q0A k hc,hr.ext k⟩⟩
theorem Grid.at {w:World} {ao:Option Addr} {n cap:Nat} {L:List (List Int)} (h:Grid w ao n cap L) {i:Nat} (hi:i<n):
  ∃b off ai ni ci,ao=some ⟨b,off,none⟩∧w.cell? ⟨b,off+i,none⟩=some (.slice ai ni ci)∧Ints w ai ni ci (L.getD i []):=by
 have hl:=h.len;obtain ⟨b,off,ai,ci,e,hc,hr⟩:=h.rd i (by omega);have e2:L.getD i []=L[i]:=by rw[List.getD_eq_getElem?_getD,List.getElem?_eq_getElem (by omega)];rfl
 exact ⟨b,off,ai,_,ci,e,hc,by rw[e2];exact hr⟩
theorem Grid.empty (w:World):Grid w none 0 0 []:=⟨rfl,Nat.le_refl _,by omega,fun _=>rfl,fun i h=>by simp at h⟩
theorem q0T {α:Type} (xs:List α) (d:α) (k:Nat) (h:k<xs.length):xs.take (k+1)=xs.take k++[xs.getD k d]:=by
 rw[List.take_succ_eq_append_getElem h,List.getD_eq_getElem?_getD,List.getElem?_eq_getElem h];rfl
theorem rb {b c:Bool} (h:c=b):Ending.returned (.bool b)=Ending.returned (.bool c):=by rw[h]
theorem rn {k:IntKind} {b c:Int} (h:c=b):Ending.returned (.int k b)=Ending.returned (.int k c):=by rw[h]
def Own (w:World) (B:Nat) (e:TypeId) (size:Nat) (v:Value) (n:Nat) (cs:List Value):Prop:=
 cs.length=n*size∧
 ((v= .slice none 0 0∧n=0)∨
  ∃g cap cur,v= .slice (some ⟨g,0,none⟩) n cap∧B≤g∧w.heap[g]? =some (.cells cur e (0,0))∧n≤cap∧cap≤9223372036854775807∧cap*size≤cur.size∧cur.toList.take (n*size)=cs)
section own
variable {w w':World} {B B':Nat} {e:TypeId} {size:Nat} {v:Value} {n:Nat} {cs:List Value}
theorem Own.of_row (h:w.ownsRow B e size v n cs):Own w B e size v n cs:=by
 refine ⟨h.1,?_⟩;rcases h.2 with h2|⟨g,cap,cur,rfl,hb,hg,hn,hm,hcs,htk⟩
 ·exact .inl h2
 ·exact .inr ⟨g,cap,cur,rfl,hb,hg,hn,hm,Nat.le_of_eq hcs.symm,htk⟩
theorem Own.nil (w:World) (B:Nat) (e:TypeId) (size:Nat):Own w B e size (.slice none 0 0) 0 []:=⟨by simp,.inl ⟨rfl,rfl⟩⟩
theorem Own.rd (h:Own w B e size v n cs):
  ∃ao cap,v= .slice ao n cap∧n≤cap∧cap≤9223372036854775807∧(ao=none→cap=0)∧Rd w ao cs:=by
 have hl:=h.1;rcases h.2 with ⟨rfl,rfl⟩|⟨g,cap,cur,rfl,hb,hg,hn,hm,hcs,htk⟩
 ·obtain rfl:cs=[]:=List.eq_nil_of_length_eq_zero (by simpa using hl)
  exact ⟨none,0,rfl,Nat.le_refl _,by omega,fun _=>rfl,Rd.nil _ _⟩
 ·refine ⟨some ⟨g,0,none⟩,cap,rfl,hn,hm,(fun hh=>by cases hh),?_⟩
  intro j u hj;refine ⟨g,0,rfl,?_⟩;rw[←htk] at hj;have hj2:cur.toList[j]? =some u:=by
   rw[List.getElem?_take] at hj
   split at hj
   ·exact hj
   ·cases hj
  simp only[World.cell?,hg,Nat.zero_add]
  simpa using hj2
theorem Own.slice (h:Own w B e size v n cs): ∃ao cap,v= .slice ao n cap:=by
 obtain ⟨ao,cap,e,_⟩:=h.rd;exact ⟨ao,cap,e⟩
theorem Own.lt (h:Own w B e size v n cs): ∀k,v.ownBlock=some k→B≤k∧k<w.heap.size:=by
 intro k hk;rcases h.2 with ⟨rfl,_⟩|⟨g,cap,cur,rfl,hb,hg,_⟩
 ·cases hk
 ·cases hk
  exact ⟨hb,(Array.getElem?_eq_some_iff.1 hg).1⟩
theorem Own.base (h:Own w B e size v n cs) (k:B'≤B):Own w B' e size v n cs:=by
 refine ⟨h.1,?_⟩;rcases h.2 with h2|⟨g,cap,cur,rfl,hb,r⟩
 ·exact Or.inl h2
 ·exact Or.inr ⟨g,cap,cur,rfl,Nat.le_trans k hb,r⟩
theorem Own.same (h:Own w B e size v n cs) (k: ∀g,v.ownBlock=some g→w'.heap[g]? =w.heap[g]?):Own w' B e size v n cs:=by
 refine ⟨h.1,?_⟩;rcases h.2 with h2|⟨g,cap,cur,rfl,hb,hg,r⟩
 ·exact Or.inl h2
 ·exact Or.inr ⟨g,cap,cur,rfl,hb,by rw[k g rfl];exact hg,r⟩
theorem Own.ext (h:Own w B e size v n cs) (k:Ext w w'):Own w' B e size v n cs:=h.same fun g hg=>k.block g (h.lt g hg).2
theorem Own.kept {row:Option Nat} (h:Own w B e size v n cs) (hg:w.grownBy w' row) (hne: ∀g,v.ownBlock=some g→row≠some g):Own w' B e size v n cs:=
 h.same fun g hb=>hg.block g (h.lt g hb).2 fun e=>hne g hb e.symm
theorem Own.setOther (h:Own w B e size v n cs) {a:Addr} (u:Value) (hne:v.ownBlock≠some a.block):Own (w.setCell a u) B e size v n cs:=
 h.same fun _ hb=>Below.heap_setCell _ _ _ _ fun e=>hne (e▸hb)
theorem Own.etype (h:Own w B e size v n cs) {g:Nat} (hg:v.ownBlock=some g): ∃cur,w.heap[g]? =some (.cells cur e (0,0)):=by
 rcases h.2 with ⟨rfl,_⟩|⟨g',cap,cur,rfl,hb,hh,_⟩
 ·cases hg
 ·cases hg
  exact ⟨cur,hh⟩
theorem Own.apart {e':TypeId} {size':Nat} {v':Value} {n':Nat} {cs':List Value} (h:Own w B e size v n cs) (h':Own w B' e' size' v' n' cs') (hne:e≠e'):
  ∀g,v.ownBlock=some g→v'.ownBlock≠some g:=by
 intro g hg hg';obtain ⟨c,hc⟩:=h.etype hg;obtain ⟨c',hc'⟩:=h'.etype hg';rw[hc] at hc'
 cases hc';exact hne rfl
theorem Own.cut (h:Own w B e size v n cs) {m c:Nat} (hm:m≤c) {ao:Option Addr} {cap:Nat} (hv:v= .slice ao n cap) (hn:m≤n) (hc:c≤cap):Own w B e size (.slice ao m c) m (cs.take (m*size)):=by
 subst hv;have hl:=h.1;have hmn:=Nat.mul_le_mul_right size hn;refine ⟨by rw[List.length_take,hl,Nat.min_eq_left hmn],?_⟩;rcases h.2 with ⟨hv,rfl⟩|⟨g,cap,cur,hv,hb,hg,h1,h2,h3,h4⟩
 ·cases hv
  have:m=0:=by omega
  have:c=0:=by omega
  subst m c;exact .inl ⟨rfl,rfl⟩
 ·cases hv
  have hcc:=Nat.mul_le_mul_right size hc;refine .inr ⟨g,c,cur,rfl,hb,hg,hm,by omega,by omega,?_⟩;rw[←h4,List.take_take,Nat.min_eq_left hmn]
theorem Own.cell (h:Own w B e size v n cs) {j:Nat} (hj:j<cs.length): ∃g cap,v= .slice (some ⟨g,0,none⟩) n cap∧w.cell? ⟨g,j,none⟩=some cs[j]∧w.frozen? ⟨g,j,none⟩=false∧B≤g:=by
 have hl:=h.1;obtain ⟨ao,cap,hv,h1,h2,h3,h4⟩:=h.rd;obtain ⟨b,off,he,hc⟩:=h4.at hj;rcases h.2 with ⟨rfl,rfl⟩|⟨g,cap',cur,hv',hb,hg,_⟩
 ·cases hv;cases he
 ·rw[hv'] at hv
  cases hv
  cases he;refine ⟨_,_,hv',by simpa using hc,by simp[World.frozen?,hg],hb⟩
theorem Own.cellE (h:Own w B e 1 v n cs) {j:Nat} (hj:j<n): ∃g cap u,v= .slice (some ⟨g,0,none⟩) n cap∧w.cell? ⟨g,j,none⟩=some u∧w.frozen? ⟨g,j,none⟩=false∧B≤g:=by
 have hl:=h.1;obtain ⟨g,cap,h1,h2,h3,h4⟩:=h.cell (j:=j) (by omega);exact ⟨g,cap,_,h1,h2,h3,h4⟩
theorem Own.stored (h:Own w B e 1 v n cs) {g cap:Nat} (hv:v= .slice (some ⟨g,0,none⟩) n cap) {j:Nat} (u:Value):Own (w.setCell ⟨g,j,none⟩ u) B e 1 v n (cs.set j u):=by
 have hl:=h.1;refine ⟨by simpa using hl,?_⟩;rcases h.2 with ⟨rfl,_⟩|⟨g',cap',cur,rfl,hb,hg,h1,h2,h3,h4⟩
 ·cases hv
 ·cases hv
  refine .inr ⟨g,cap,cur.setIfInBounds j u,rfl,hb,?_,h1,h2,by simpa using h3,?_⟩
  ·simp only[World.setCell,Array.getElem?_modify,if_true,hg,Option.map_some]
   rfl
  ·rw[Array.toList_setIfInBounds,←h4,List.take_set]
theorem Rd.lit (w:World) (c:Array Value) (e:TypeId):Rd (w.alloc (.cells c e)) (some ⟨w.heap.size,0,none⟩) c.toList:=by
 intro j u hj;exact ⟨_,_,rfl,by simpa using hj⟩
end own
theorem q0g {P:Program} {w:World} {ops:Array Oper} {rest:List Oper} {o:Oper} {a:Act} {Q:Exit→Act→World→Prop} (hgd:o.guard=none) (s x:Operand) (t:TypeId)
  (ho:o.op= .call {callee:= .builtin .append,args:=#[s,x],argTypes:=#[t,t]})
  (base:Nat) (e:TypeId) (z:Value) (size bytes:Nat) (ht:P.underlying t=some (.slice e)) (hinfo:(P.info? e).map (fun i=>(i.zero,i.size,i.bytes))=some (some z,size,bytes))
  (hzs:z.cells.size=size) (hsz:0<size)
  (v:Value) (n:Nat) (xs:List Value) (hs:a.eval s=v) (hown:Own w base e size v n xs)
  (ao:Option Addr) (m c:Nat) (news:List Value) (hx:a.eval x= .slice ao m c) (hl:news.length=m*size) (hnil:ao=none→c=0) (hnews:Rd w ao news) (h1: ∀u∈news,u.oneCell'=true)
  (hbytes:(n+m)*bytes≤140737488355328) (h63:n+m≤9223372036854775807) (hbase:base≤w.heap.size)
  (h: ∀v' w',Own w' base e size v' (n+m) (xs++news)→w.grownBy w' v.ownBlock→(v'.ownBlock=v.ownBlock∨ ∀g,v'.ownBlock=some g→w.heap.size≤g)→wpList P ops Q rest (a.put o.dst v') w'):wpList P ops Q (o::rest) a w:=by
 obtain ⟨i,hi,hz,hsize,hby⟩:=info_parts hinfo
 cases ao with
 | some ad =>
  have hnews': ∀j u,news[j]? =some u→w.cell? (ad.add j)=some u:=by
   intro j u hj;obtain ⟨b,off,e,hc⟩:=hnews j u hj
   cases e;rw[Addr.add_lit];exact hc
  have hxl:=hown.1;rcases hown.2 with ⟨rfl,rfl⟩|⟨g,cap,cur,rfl,hbg,hg,hnc,hcm,hcs,htake⟩
  ·obtain rfl:xs=[]:=List.eq_nil_of_length_eq_zero (by simpa using hxl)
   exact wpList_append_own w hgd s x t ho w.heap.size e i z size bytes ht hi hz hsize hby hzs hsz _ 0 [] hs (World.ownsRow_nil _ _ _ _) ad m c news hx hl hnews' h1 (by unfold maxLen;omega) hbytes (Nat.le_refl _) (fun v' w' h1 h2 _=>h v' w' ((Own.of_row h1).base hbase) h2 (.inr fun g hg=>((Own.of_row h1).lt g hg).1))
  ·by_cases hroom:n+m≤cap
   ·have hmul:=Nat.mul_le_mul_right size hroom
    rw[Nat.add_mul] at hmul;have hr:=run_append_room (P:=P) w t o.type e i ht hi g n cap cur hg ad m c news (by rw[hsize];exact hl) hnews' h1 hroom (by rw[hsize];omega);rw[hsize] at hr;refine Lib.wpList_append_run w hgd s x t t ho _ _ hs hx _ _ hr (h _ _ ⟨by simp[hxl,hl,Nat.add_mul],.inr ⟨g,cap,_,rfl,hbg,setRow_heap w g cur _ e _ hg,hroom,hcm,?_,?_⟩⟩ ⟨rfl,rfl,rfl,by simp,fun k _ hk=>setRow_other w g k _ (fun e=>hk (by simp[Value.ownBlock,e]))⟩ (.inl rfl))
    ·simp only[List.size_toArray,List.length_append,List.length_take,List.length_drop,Array.length_toList]
     omega
    ·rw[htake,show (n+m)*size=(xs++news).length from by simp[hxl,hl,Nat.add_mul]]
     exact List.take_left
   ·refine wpList_append_grows w hgd s x t ho e i z size bytes ht hi hz hsize hby hzs hsz (some ⟨g,0,none⟩) n cap xs hs (fun hh=>by cases hh) hxl ?_ ad m c news hx hl hnews' h1 (by omega) (by unfold maxLen;omega) hbytes ?_
    ·intro b hb j u hj
     cases hb;obtain ⟨_,_,_,_,_,_,hrd⟩:=hown.rd;have: ∃ao cap',(Value.slice (some ⟨g,0,none⟩) n cap)= .slice ao n cap'∧Rd w ao xs:=by
      obtain ⟨ao,cap',e1,_,_,_,r⟩:=hown.rd;exact ⟨ao,cap',e1,r⟩
     obtain ⟨ao,cap',e1,r⟩:=this
     cases e1;obtain ⟨b,off,e2,hc⟩:=r j u hj
     cases e2;rw[Addr.add_lit];exact hc
    ·intro v' w' r1 r2
     exact h v' w' ((Own.of_row r1).base hbase) ⟨r2.os,r2.tape,r2.output,r2.size,fun k hk _=>r2.block k hk (by simp)⟩ (.inr fun g hg=>((Own.of_row r1).lt g hg).1)
 | none =>
  have hn0:news=[]:=by
   cases news with
   |nil=>rfl
   |cons y ys=>obtain ⟨b,off,e,_⟩:=hnews 0 y rfl;cases e
  subst hn0;have hm:m=0:=by
   rcases Nat.eq_zero_or_pos m with h|h
   ·exact h
   ·have:=Nat.mul_pos h hsz;simp at hl;omega
  subst hm;obtain rfl:=hnil rfl;have hxl:=hown.1;have hend:wpList P ops Q rest (a.put o.dst v) w:=by
   have:=h v w (by simpa using hown) (World.grownBy.refl w _) (.inl rfl);exact this
  rcases hown.2 with ⟨rfl,rfl⟩|⟨g,cap,cur,rfl,hbg,hg,hnc,hcm,hcs,htake⟩
  ·exact wpList_append_own_none hgd s x t ho base e i size ht hi _ 0 [] hs (World.ownsRow_nil _ _ _ _) hx hend
  ·have hrun:(Builtin.append_ #[t,t] o.type #[.slice (some ⟨g,0,none⟩) n cap,.slice none 0 0]).run P w= .ok (.slice (some ⟨g,0,none⟩) n cap) w:=by
    simp[Builtin.append_,run_underlying ht,sizeOf,typeInfo,hi,Builtin.lenOf,hnc,Builtin.firstCells,storeCells]
   exact Lib.wpList_append_run w hgd s x t t ho _ _ hs hx _ _ hrun hend
theorem q1U {B:Nat} {e:TypeId} {size:Nat} {v:Value} {n:Nat} {xs:List Value} {w0 w w':World} (h:Below B w0 w) (hown:Own w B e size v n xs) (hg:w.grownBy w' v.ownBlock) (hB:B≤w.heap.size):Below B w0 w':=
 h.grown hg hB fun k hk=>(hown.lt k hk).1
theorem q2l {w:World} {B:Nat} {e:TypeId} {v:Value} {n:Nat} {xs:List Int} (h:Own w B e 1 v n (xs.map (Value.int .i64))):
  ∃ao cap,v= .slice ao n cap∧Ints w ao n cap xs:=by
 have hl:=h.1;obtain ⟨ao,cap,rfl,h1,h2,h3,h4⟩:=h.rd;exact ⟨ao,cap,rfl,by simpa using hl,h1,h2,h3,h4⟩
structure OGr (w:World) (B:Nat) (tO tI:TypeId) (v:Value) (vs:List Value) (L:List (List Int)):Prop where
 own:Own w B tO 1 v L.length vs
 row: ∀i,Own w B tI 1 (vs.getD i (.slice none 0 0)) (L.getD i []).length ((L.getD i []).map (Value.int .i64))
 sep: ∀i j g,i≠j→(vs.getD i (.slice none 0 0)).ownBlock=some g→(vs.getD j (.slice none 0 0)).ownBlock≠some g
theorem OGr.nil (w:World) (B:Nat) (tO tI:TypeId):OGr w B tO tI (.slice none 0 0) [] []:=
 ⟨Own.nil _ _ _ _,fun i=>by simpa using Own.nil _ _ _ _,fun i j g _ h=>by simp[Value.ownBlock] at h⟩
theorem OGr.ext {w w':World} {B:Nat} {tO tI:TypeId} {v:Value} {vs:List Value} {L:List (List Int)} (h:OGr w B tO tI v vs L) (k:Ext w w'):OGr w' B tO tI v vs L:=
 ⟨h.own.ext k,fun i=>(h.row i).ext k,h.sep⟩
theorem OGr.base {w:World} {B B':Nat} {tO tI:TypeId} {v:Value} {vs:List Value} {L:List (List Int)} (h:OGr w B tO tI v vs L) (k:B'≤B):OGr w B' tO tI v vs L:=
 ⟨h.own.base k,fun i=>(h.row i).base k,h.sep⟩
theorem q5G {α:Type} (l:List α) (x d:α) (i:Nat):(l++[x]).getD i d=if i<l.length then l.getD i d else if i=l.length then x else d:=by
 simp only[List.getD_eq_getElem?_getD,List.getElem?_append];by_cases h:i<l.length
 ·simp[h]
 ·by_cases h2:i=l.length
  ·simp[h2]
  ·simp only[h,h2,if_false]
   rw[List.getElem?_eq_none (by simp;omega)]
   rfl
theorem OGr.push {w w':World} {B B':Nat} {tO tI:TypeId} {v vi v':Value} {vs:List Value} {L:List (List Int)} {l:List Int} (h:OGr w B tO tI v vs L) (hne:tO≠tI)
  (hv:Own w B' tI 1 vi l.length (l.map (Value.int .i64))) (hB:B≤B') (hfresh: ∀j g,(vs.getD j (.slice none 0 0)).ownBlock=some g→g<B')
  (own':Own w' B tO 1 v' (L.length+1) (vs++[vi])) (hg:w.grownBy w' v.ownBlock):OGr w' B tO tI v' (vs++[vi]) (L++[l]):=by
 have hvl:vs.length=L.length:=by simpa using h.own.1
 refine ⟨by simpa using own',fun i=>?_,fun i j g hij=>?_⟩
 ·rw [q5G,q5G,hvl]
  split
  ·exact (h.row i).kept hg fun g hb hx=>(h.own.apart (h.row i) hne) g hx hb
  ·split
   ·exact (hv.base hB).kept hg fun g hb hx=>(h.own.apart hv hne) g hx hb
   ·exact Own.nil _ _ _ _
 ·rw [q5G,q5G]
  by_cases hi:i<vs.length
  ·rw [if_pos hi]
   by_cases hj:j<vs.length
   ·rw[if_pos hj];exact h.sep i j g hij
   ·rw[if_neg hj]
    intro hi2;have:=hfresh i g hi2
    split
    ·intro hx;have:=(hv.lt g hx).1;omega
    ·simp[Value.ownBlock]
  ·rw [if_neg hi]
   split
   ·rename_i hie
    intro hx;have:=(hv.lt g hx).1;by_cases hj:j<vs.length
    ·rw[if_pos hj];intro hy;have:=hfresh j g hy;omega
    ·rw[if_neg hj,if_neg (by omega)];simp[Value.ownBlock]
   ·simp[Value.ownBlock]
theorem OGr.lt {w:World} {B:Nat} {tO tI:TypeId} {v:Value} {vs:List Value} {L:List (List Int)} (h:OGr w B tO tI v vs L): ∀j g,(vs.getD j (.slice none 0 0)).ownBlock=some g→g<w.heap.size:=
 fun j g hg=>((h.row j).lt g hg).2
theorem OGr.grid {w:World} {B:Nat} {tO tI:TypeId} {v:Value} {vs:List Value} {L:List (List Int)} (h:OGr w B tO tI v vs L): ∃ao cap,v= .slice ao L.length cap∧Grid w ao L.length cap L:=by
 have hvl:vs.length=L.length:=by simpa using h.own.1
 obtain ⟨ao,cap,hv,h1,h2,h3,h4⟩:=h.own.rd;refine ⟨ao,cap,hv,rfl,h1,h2,h3,fun i hi=>?_⟩;obtain ⟨b,off,e,hc⟩:=h4.at (j:=i) (by omega);have hrow:=h.row i;rw[List.getD_eq_getElem?_getD,List.getElem?_eq_getElem (by omega),List.getD_eq_getElem?_getD,List.getElem?_eq_getElem hi] at hrow;obtain ⟨ai,ci,he,hr⟩:=q2l hrow;simp only[Option.getD_some] at he hr;exact ⟨b,off,ai,ci,e,by rw[hc,he],hr⟩
def y1g :Value→Nat| .slice _ n _=>n|_=>0
def y1i (t:TypeId) (w:World) (xs:List Int) (e:Ending) (w':World):Prop:=
 ∃v,e= .returned v∧Own w' w.heap.size t 1 v xs.length (xs.map (Value.int .i64))∧Ext w w'
theorem q2A {α:Type} (L:List (List α)) (k:Nat):(L.take k).flatten.length≤L.flatten.length:=by
 conv=>rhs;rw[←List.take_append_drop k L,List.flatten_append,List.length_append]
 omega
theorem q2L {α:Type} (L:List (List α)) (k:Nat) (h:k<L.length):(L.take (k+1)).flatten=(L.take k).flatten++L.getD k []:=by
 rw[q0T L [] k h];simp
structure ExtOf (w:World) where
 w':World
 h:Ext w w'
instance (w :World):Nonempty (ExtOf w):=⟨⟨w,Ext.refl w⟩⟩
theorem q0E {P:Program} {id:Nat} {Q:Exit→Act→World→Prop} {a:Act} {w:World} {l:List Oper} (hm:P.follows .mixedOrders=true) (hB:Region.lexB .any l.toArray=true)
  (h:wpQuiet P l.toArray (fun w'=> ∃x:ExtOf w,w'=x.w') (fun a'=> ∀w',Ext w w'→Q .normal a' w') l a):(Code.region id l.toArray true).wp P Q a w:=by
 refine wp_region_quiet (C:=fun w'=> ∃x:ExtOf w,w'=x.w') hm hB ⟨⟨w.drew,(Ext.refl w).drew⟩,rfl⟩ ?_;have e:(fun a'=> ∀w',Ext w w'→Q .normal a' w')=(fun a'=> ∀w',(∃x:ExtOf w,w'=x.w')→Q .normal a' w'):=by
  funext a'
  exact propext ⟨fun h w' ⟨x,hx⟩=>hx▸h _ x.h,fun h w' hw=>h w' ⟨⟨w',hw⟩,rfl⟩⟩
 rw[←e]
 simpa using h
theorem Calls.quiet_ext {P:Program} {f:FuncId} {args:Array Value} {w:World} {x:ExtOf w} {v:Value}
  (h:Calls P f args x.w' fun e w'=>e= .returned v∧Ext x.w' w'):Calls P f args x.w' fun e w''=>e= .returned v∧ ∃y:ExtOf w,w''=y.w':=
 h.mono fun _ w' ⟨he,hm⟩=>⟨he,⟨w',x.h.trans hm⟩,rfl⟩
theorem q0F {w:World} {a:Addr} {u:Value} (hc:w.cell? a=some u) (x:ExtOf w):x.w'.cell? a=some u:=q0A x.h hc
end
section
def be :Nat→Nat→List UInt8
 |0,_=>[]
 |k+1,x=>UInt8.ofNat (x/256^k)::be k x
def q1F (l:List UInt8):Nat:=l.foldl (fun a b=>a*256+b.toNat) 0
theorem q0I (k x:Nat):(be k x).length=k:=by
 induction k with
 |zero=>rfl
 |succ k ih=>simp[be,ih]
theorem z4E (l:List UInt8): ∀a,l.foldl (fun a b=>a*256+b.toNat) a=a*256^l.length+q1F l:=by
 induction l with
 |nil=>intro a;simp[q1F]
 | cons b l ih=>
  intro a;have h2:q1F (b::l)=(0*256+b.toNat)*256^l.length+q1F l:=by
   unfold q1F;rw[List.foldl_cons];exact ih _
  rw[List.foldl_cons,ih,h2,List.length_cons,Nat.pow_succ,Nat.add_mul,Nat.zero_mul,Nat.zero_add,Nat.mul_assoc,Nat.mul_comm 256,Nat.add_assoc]
theorem q7A (b:UInt8) (l:List UInt8):q1F (b::l)=b.toNat*256^l.length+q1F l:=by
 unfold q1F;rw[List.foldl_cons,z4E];simp[q1F]
theorem z5O (l:List UInt8) (b:UInt8):q1F (l++[b])=q1F l*256+b.toNat:=by
 unfold q1F;rw[List.foldl_append];rfl
theorem q1p (l:List UInt8):q1F l<256^l.length:=by
 induction l with
 |nil=>simp[q1F]
 | cons b l ih=>
  rw[q7A,List.length_cons,Nat.pow_succ];have:=b.toNat_lt;have h:b.toNat*256^l.length≤255*256^l.length:=Nat.mul_le_mul_right _ (by omega);omega
theorem q4x (k x:Nat):q1F (be k x)=x % 256^k:=by
 induction k with
 |zero=>simp[be,q1F,Nat.mod_one]
 | succ k ih=>
  rw[be,q7A,q0I,ih,Nat.pow_succ,Nat.mod_mul];simp only[UInt8.toNat_ofNat'];rw[Nat.mul_comm (256^k),Nat.add_comm]
theorem q8p (l:List UInt8):be l.length (q1F l)=l:=by
 induction l with
 |nil=>rfl
 | cons b l ih=>
  have h:=q1p l;have hp:0<256^l.length:=Nat.pow_pos (by decide);rw[List.length_cons,be,q7A];have e1:(b.toNat*256^l.length+q1F l)/256^l.length=b.toNat:=by
   rw[Nat.add_comm,Nat.add_mul_div_right _ _ hp,Nat.div_eq_of_lt h];omega
  have e2 : ∀k,k≤l.length→be k (b.toNat*256^l.length+q1F l)=be k (q1F l):=by
   intro k
   induction k with
   |zero=>intro _;rfl
   | succ k ih2=>
    intro hk;rw[be,be,ih2 (by omega)]
    congr 1
    have e3:256^l.length=256^k*(256*256^(l.length-k-1)):=by
     rw[←Nat.mul_assoc,←Nat.pow_succ,←Nat.pow_add];congr 1;omega
    have hk0:0<256^k:=Nat.pow_pos (by decide);have e4:(b.toNat*256^l.length+q1F l)/256^k=b.toNat*256^(l.length-k-1)*256+q1F l/256^k:=by
     rw [e3,show b.toNat*(256^k*(256*256^(l.length-k-1)))+q1F l=q1F l+256^k*(b.toNat*256^(l.length-k-1)*256) from by
      rw[Nat.add_comm];congr 1;rw[Nat.mul_left_comm,Nat.mul_comm 256 (256^_),←Nat.mul_assoc b.toNat],
      Nat.add_mul_div_left _ _ hk0,Nat.add_comm]
    rw[e4];apply UInt8.toNat_inj.1;simp only[UInt8.toNat_ofNat'];omega
  rw[e1,e2 _ (Nat.le_refl _),ih]
  congr 1
  apply UInt8.toNat_inj.1;simp
theorem z8o (n:Nat) (L:List Value) (z v:Value):(List.replicate (n+1) z++L).set n v=List.replicate n z++v::L:=by
 rw[List.replicate_succ',List.append_assoc,List.set_append];simp
theorem z7u (X k:Nat):((X:Int)/2^(8*k) % 256)=((UInt8.ofNat (X/256^k)).toNat:Int):=by
 have:(2:Nat)^(8*k)=256^k:=by rw[Nat.pow_mul]
 rw[UInt8.toNat_ofNat'];rw[←this];simp
theorem z1h (Z:Int) (b:UInt8) (h0:0≤Z) (h1:Z<72057594037927936):bits .or .u64 (Z*256) (IntKind.u64.wrap (b.toNat:Int))=Z*256+(b.toNat:Int):=by
 have hb:=b.toNat_lt;have hw:IntKind.u64.wrap (b.toNat:Int)=(b.toNat:Int):=by rw[Go.IntKind.wrap_u64];omega
 rw[hw];exact bits_join .u64 64 (by decide) wraps_u64 8 _ _ (by omega) (by omega) (by omega) (by omega) (by omega) (by omega)
end
section
def crcPoly :BitVec 32:=0xedb88320#32
def z2r (s:BitVec 32):BitVec 32:=(s>>>1)^^^(crcPoly&&& -(s&&&1#32))
def q6i :Nat→BitVec 32→BitVec 32
 |0,s=>s
 |k+1,s=>z2r (q6i k s)
def q3n (s:BitVec 32) (c:UInt8):BitVec 32:=q6i 8 (s^^^BitVec.ofNat 32 c.toNat)
def q1Y (l:List UInt8):BitVec 32:= ~~~(l.foldl q3n (~~~0#32))
theorem q3i (s:BitVec 32):BitVec.ofInt 32 (s.toNat:Int)=s:=by
 rw[BitVec.ofInt_natCast];simp
theorem z5M (s:BitVec 32):IntKind.u32.wrap (s.toNat:Int)=(s.toNat:Int):=by
 have:=s.isLt;rw[IntKind.wrap_u32];omega
theorem q4v (s t:BitVec 32):bits .xor .u32 (s.toNat:Int) (t.toNat:Int)=((s^^^t).toNat:Int):=by
 show IntKind.u32.wrap ((BitVec.ofInt 32 (s.toNat:Int)^^^BitVec.ofInt 32 (t.toNat:Int)).toNat:Int)=_;rw[q3i,q3i,z5M]
theorem q6h (s t:BitVec 32):bits .and .u32 (s.toNat:Int) (t.toNat:Int)=((s&&&t).toNat:Int):=by
 show IntKind.u32.wrap ((BitVec.ofInt 32 (s.toNat:Int)&&&BitVec.ofInt 32 (t.toNat:Int)).toNat:Int)=_;rw[q3i,q3i,z5M]
theorem y1A (s:BitVec 32):((s.toNat:Nat):Int)/(2:Int)=((s>>>1).toNat:Int):=by
 rw[BitVec.toNat_ushiftRight,Nat.shiftRight_eq_div_pow];simp
theorem y1C (s:BitVec 32): -(s.toNat:Int) % 4294967296=((-s).toNat:Int):=by
 have:=s.isLt;rw[BitVec.toNat_neg];omega
theorem y0o (s:BitVec 32):bits .xor .u32 IntKind.u32.max (s.toNat:Int)=((~~~s).toNat:Int):=by
 have h:IntKind.u32.max=((BitVec.allOnes 32).toNat:Int):=by decide
 rw[h,q4v]
 congr 2
theorem z9n (s:BitVec 32):bits .xor .u32 ((s.toNat:Int)/2) (bits .and .u32 3988292384 (-bits .and .u32 (s.toNat:Int) 1 % 4294967296))=((z2r s).toNat:Int):=by
 have h1:(1:Int)=((1#32).toNat:Int):=rfl;have h2:(3988292384:Int)=(crcPoly.toNat:Int):=rfl;rw[h1,q6h,y1C,h2,q6h,y1A,q4v]
 rfl
theorem y0A (c:UInt8):((BitVec.ofNat 32 c.toNat).toNat:Int)=(c.toNat:Int):=by
 have:=c.toNat_lt;rw[BitVec.toNat_ofNat];omega
end
section
def q1n (L:List (List Int)):Nat→Nat
 |0=>0
 |n+1=>if L.getD n []=[] then q1n L n else n+1
def q0p (L:List (List Int)):List (List Int):=L.take (q1n L L.length)
theorem q5N (L:List (List Int)) (n:Nat):q1n L n≤n:=by
 induction n with
 |zero=>exact Nat.le_refl _
 |succ n ih=>rw[q1n];split<;>omega
theorem z1f (L:List (List Int)) (n:Nat) (h:L.getD n []=[]):q1n L (n+1)=q1n L n:=by rw[q1n,if_pos h]
theorem q8C (L:List (List Int)) (n:Nat) (h:L.getD n []≠[]):q1n L (n+1)=n+1:=by rw[q1n,if_neg h]
theorem z0e {α:Type} (L:List α) (d:α) (m i:Nat) (h:i<m):(L.take m).getD i d=L.getD i d:=by
 simp only[List.getD_eq_getElem?_getD,List.getElem?_take,h,if_true]
theorem q8h {α:Type} (L:List α) (d:α) (i:Nat) (h:L.length≤i):L.getD i d=d:=by
 rw[List.getD_eq_getElem?_getD,List.getElem?_eq_none h];rfl
theorem z7O {α:Type} (L M:List α) (d:α) (h0:L.length=M.length) (h: ∀i,i<L.length→L.getD i d=M.getD i d):L=M:=by
 apply List.ext_getElem h0;intro i h1 h2;have:=h i h1;rw[List.getD_eq_getElem?_getD,List.getD_eq_getElem?_getD,List.getElem?_eq_getElem h1,List.getElem?_eq_getElem h2] at this;exact this
theorem q5j (L:List (List Int)) (i:Nat):(q0p L).getD i []=L.getD i []:=by
 unfold q0p;rcases Nat.lt_or_ge i (q1n L L.length) with h|h
 ·exact z0e _ _ _ _ h
 ·rw [q8h _ _ _ (by simp;omega)]
  have : ∀ n,q1n L n≤i→i<n→L.getD i []=[]:=by
   intro n
   induction n with
   |zero=>intro _ h2;omega
   | succ n ih=>
    intro h1 h2;rw[q1n] at h1
    split at h1
    ·rename_i he
     rcases Nat.lt_or_ge i n with h3|h3
     ·exact ih h1 h3
     ·have:i=n:=by omega
      subst this;exact he
    ·omega
  rcases Nat.lt_or_ge i L.length with h2|h2
  ·exact (this _ h h2).symm
  ·exact (q8h _ _ _ h2).symm
theorem q3L (L:List (List Int)):(q0p L).length=q1n L L.length:=by have:=q5N L L.length;simp[q0p];omega
def q1c (L:List (List Int)):Bool:=decide (L.length≤5∧L.flatten.length≤40∧(∀x∈L.flatten,0≤x)∧L.flatten.Nodup)
theorem q3j (xs:List Int) (k:Nat) (h:k<xs.length):xs.getD k 0∈xs:=by
 rw[List.getD_eq_getElem?_getD,List.getElem?_eq_getElem h];exact List.getElem_mem h
theorem z1I (L:List (List Int)) (h:5<L.length):q1c L=false:=by unfold q1c;rw[decide_eq_false_iff_not];rintro ⟨h1,_⟩;omega
theorem z0X (L:List (List Int)) (h:40<L.flatten.length):q1c L=false:=by unfold q1c;rw[decide_eq_false_iff_not];rintro ⟨_,h1,_⟩;omega
theorem z4C (L:List (List Int)) (k:Nat) (hk:k<L.flatten.length) (h:L.flatten.getD k 0<0):q1c L=false:=by
 unfold q1c;rw[decide_eq_false_iff_not];rintro ⟨_,_,h1,_⟩;have:=h1 _ (q3j _ k hk);omega
theorem z3t (L:List (List Int)) (k:Nat) (hk:k<L.flatten.length) (h:L.flatten.getD k 0∈L.flatten.take k):q1c L=false:=by
 unfold q1c;rw[decide_eq_false_iff_not];rintro ⟨_,_,_,h1⟩;have h2:=h1.sublist (List.take_sublist (k+1) _);rw[q0T _ 0 k hk] at h2;have:=(List.nodup_append.1 h2).2.2 _ h _ (List.mem_singleton.2 rfl);exact this rfl
theorem q9s (L:List (List Int)) (h1:L.length≤5) (h2:L.flatten.length≤40) (h3: ∀x∈L.flatten,0≤x) (h4:L.flatten.Nodup):q1c L=true:=by
 unfold q1c;exact decide_eq_true ⟨h1,h2,h3,h4⟩
theorem q6H (xs:List Int) (k:Nat) (hk:k<xs.length) (h0: ∀x∈xs.take k,0≤x) (h1:¬xs.getD k 0<0): ∀x∈xs.take (k+1),0≤x:=by
 rw[q0T _ 0 k hk];intro x hx;rcases List.mem_append.1 hx with h|h
 ·exact h0 x h
 ·rw[List.mem_singleton.1 h];omega
theorem q6p (xs:List Int) (k:Nat) (hk:k<xs.length) (h0:(xs.take k).Nodup) (h1:xs.getD k 0∉xs.take k):(xs.take (k+1)).Nodup:=by
 rw[q0T _ 0 k hk,List.nodup_append];refine ⟨h0,by simp,fun a ha b hb=>?_⟩;rw[List.mem_singleton.1 hb];intro e;exact h1 (e▸ha)
theorem q8n (xs:List Int) (k:Nat) (hk:k<xs.length) (x:Int):(x∈xs.take (k+1))↔(x∈xs.take k∨x=xs.getD k 0):=by
 rw[q0T _ 0 k hk,List.mem_append,List.mem_singleton]
theorem q7e (L:List (List Int)) (i:Nat):(L.getD i []).length≤L.flatten.length:=by
 rcases Nat.lt_or_ge i L.length with h|h
 ·have h1:=q2L L i h
  have h2:=q2A L (i+1);rw[h1,List.length_append] at h2;omega
 ·rw[q8h _ _ _ h];simp
theorem z5q (T:List (List Int)) (h:T=[]∨T.getD (T.length-1) []≠[]):q0p T=T:=by
 rcases h with rfl|h
 ·rfl
 ·have hp:0<T.length:=by
   rcases Nat.eq_zero_or_pos T.length with h0|h0
   ·have:T=[]:=List.eq_nil_of_length_eq_zero h0
    subst this;simp at h
   ·exact h0
  obtain ⟨m,hm⟩: ∃m,T.length=m+1:=⟨T.length-1,by omega⟩
  unfold q0p;rw[hm] at h⊢;rw[q8C T m (by simpa using h),←hm,List.take_length]
theorem z3R (L:List (List Int)): ∀n m,q1n L n=m+1→L.getD m []≠[]:=by
 intro n
 induction n with
 |zero=>intro m h;simp[q1n] at h
 | succ n ih=>
  intro m h;rw[q1n] at h
  split at h
  ·exact ih m h
  ·rename_i h5
   have:n=m:=by omega
   subst this;exact h5
theorem z3d (L:List (List Int)) (m:Nat) (h:(q0p L).length=m+1):(q0p L).getD m []≠[]:=by
 rw[q5j];rw[q3L] at h;exact z3R L _ m h
end
section
theorem z1n (L:List (List Int)) (k:Nat):(L++List.replicate k []).flatten=L.flatten:=by simp
theorem q8f (L M:List (List Int)) (hle:L.length≤M.length) (h: ∀i,L.getD i []=M.getD i []):L.flatten=M.flatten:=by
 rw[←z1n L (M.length-L.length)]
 congr 1
 refine z7O _ _ [] (by simp;omega) fun i hi=>?_
 rw[←h i];simp only[List.getD_eq_getElem?_getD,List.getElem?_append]
 split
 ·rfl
 ·rw[←List.getD_eq_getElem?_getD,List.getElem?_eq_none (l:=L) (by omega)]
  simp only[List.getD_eq_getElem?_getD,List.getElem?_replicate]
  split<;>rfl
theorem q1h (L:List (List Int)):(q0p L).flatten=L.flatten:=
 q8f _ _ (by have:=q5N L L.length;rw[q3L];omega) (q5j L)
theorem q5y {L:List (List Int)} (h:q1c L=true):L.length≤5∧L.flatten.length≤40∧(∀x∈L.flatten,0≤x)∧L.flatten.Nodup:=by
 unfold q1c at h;exact of_decide_eq_true h
end
end Go.Proofs.YthdekbmdkpcooaaGreatDoor
