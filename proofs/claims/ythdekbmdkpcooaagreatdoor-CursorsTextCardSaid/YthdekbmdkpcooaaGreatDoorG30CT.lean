/- How a log lies in memory, beside its disk. -/
import Derived.Test.YthdekbmdkpcooaaGreatDoorG25CT
import Derived.Test.YthdekbmdkpcooaaGreatDoorG13CT
set_option linter.unusedVariables false
set_option linter.unusedSimpArgs false
set_option maxRecDepth 100000
set_option maxHeartbeats 1600000
namespace Go.Proofs.YthdekbmdkpcooaaGreatDoor
section
open Go.RowKit
theorem y0c (c:Int):Pl (z6b c) c 0 []:=⟨rfl,rfl,rfl,rfl,rfl⟩
theorem z9u (c:Int):Lgd noO (z6b c) c 0 []:=⟨by have:=y0c c;simpa [q2G,noO,q2M,q5d,q3D,q3v] using this,okC.nil,okOth.no⟩
theorem z3V {w:World} {B:Nat} {e:TypeId} {v:Value} {n:Nat} {cs:List Value} (h:w.ownsRow B e 1 v n cs) {g cap:Nat} (hv:v= .slice (some ⟨g,0,none⟩) n cap) {j:Nat} (u:Value):(w.setCell ⟨g,j,none⟩ u).ownsRow B e 1 v n (cs.set j u):=by
 have hl:=h.1;refine ⟨by simpa using hl,?_⟩;rcases h.2 with ⟨rfl,_⟩|⟨g',cap',cur,rfl,hb,hg,h1,h2,h3,h4⟩
 ·cases hv
 ·cases hv
  refine .inr ⟨g,cap,cur.setIfInBounds j u,rfl,hb,?_,h1,h2,by simpa using h3,?_⟩
  ·simp only[World.setCell,Array.getElem?_modify,if_true,hg,Option.map_some]
   rfl
  ·rw[Array.toList_setIfInBounds,←h4,List.take_set]
def q7t (gl:Nat) (v:Value) (i:Nat):Prop:=i=gl∨v.ownBlock=some i
structure LogM (w:World) (gl g:Nat) (s:Int) (v:Value) (xs:List Int) (sure:Int):Prop where
 blk:Blk w gl 141 #[.pointer (some ⟨g,0,none⟩),.int .i64 s,.bool false,v,.int .i64 sure]
 row:w.ownsRow 0 3 1 v xs.length (xs.map (Value.int .i64))
section
variable {E :Oth} {w w':World} {gl g:Nat} {s sure:Int} {v:Value} {xs:List Int}
theorem LogM.lt (h:LogM w gl g s v xs sure) {i:Nat} (hi:q7t gl v i):i<w.heap.size:=by
 rcases hi with rfl|hi
 ·exact h.blk.lt
 ·exact (q0c h.row i hi).2
theorem LogM.same (h:LogM w gl g s v xs sure) (k: ∀i,q7t gl v i→w'.heap[i]? =w.heap[i]?):LogM w' gl g s v xs sure:=
 ⟨h.blk.same (k gl (.inl rfl)),q1O h.row fun i hi=>k i (.inr hi)⟩
theorem LogM.ext (h:LogM w gl g s v xs sure) (k:Ext w w'):LogM w' gl g s v xs sure:=h.same fun i hi=>k.block i (h.lt hi)
theorem LogM.c0 (h:LogM w gl g s v xs sure):w.cell? ⟨gl,0,none⟩=some (.pointer (some ⟨g,0,none⟩)):=h.blk.cell 0
theorem LogM.c1 (h:LogM w gl g s v xs sure):w.cell? ⟨gl,1,none⟩=some (.int .i64 s):=h.blk.cell 1
theorem LogM.c2 (h:LogM w gl g s v xs sure):w.cell? ⟨gl,2,none⟩=some (.bool false):=h.blk.cell 2
theorem LogM.c3 (h:LogM w gl g s v xs sure):w.cell? ⟨gl,3,none⟩=some v:=h.blk.cell 3
theorem LogM.c4 (h:LogM w gl g s v xs sure):w.cell? ⟨gl,4,none⟩=some (.int .i64 sure):=h.blk.cell 4
theorem LogM.slice (h:LogM w gl g s v xs sure): ∃a c,v= .slice a xs.length c∧Ints w a xs.length c xs:=q2l (Own.of_row h.row)
theorem LogM.apart (h:LogM w gl g s v xs sure):v.ownBlock≠some gl:=fun hh=>by
 obtain ⟨cur,hc⟩:=q5a h.row hh;exact Blk.ne h.blk (ds:=cur) hc (by decide) rfl
end
def DkK (E:Oth) (w0 w:World) (g:Nat) (c s:Int) (C:Cks) (K:Nat→Prop):Prop:= ∃F σ,DkF w0 w g F σ K∧Lgd E σ c s C
structure LgF (w0 w:World) (g gl:Nat) (F:Nat→Prop) (v:Value) (σ:DM) (s:Int) (xs:List Int) (sure:Int) (K:Nat→Prop):Prop where
 d:Dk w g F σ
 l:LogM w gl g s v xs sure
 ap: ∀i,F i→¬q7t gl v i
 bF: ∀i,F i→w0.heap.size≤i
 bG: ∀i,q7t gl v i→w0.heap.size≤i
 ext:Ext w0 w
 k: ∀i,K i→i<w.heap.size∧¬F i∧¬q7t gl v i
def LgK (E:Oth) (w0 w:World) (g gl:Nat) (c s:Int) (C:Cks) (sure:Int) (K:Nat→Prop):Prop:= ∃F v σ,LgF w0 w g gl F v σ s (q0M C) sure K∧Lgd E σ c s C
section
variable {E :Oth} {w0 w w1 w2:World} {g gl:Nat} {F K K':Nat→Prop} {v:Value} {σ σ1:DM} {c s sure:Int} {xs:List Int} {C:Cks}
theorem LgF.kExt (h:LgF w0 w g gl F v σ s xs sure K) (k:Ext w w1):Stay K w w1:=fun i hi=>k.block i (h.k i hi).1
theorem LgF.grow (h:LgF w0 w g gl F v σ s xs sure K) (k:Ext w w1):LgF w0 w1 g gl F v σ s xs sure K:=
 ⟨h.d.ext k,h.l.ext k,h.ap,h.bF,h.bG,h.ext.trans k,fun i hi=>⟨Nat.lt_of_lt_of_le (h.k i hi).1 k.size,(h.k i hi).2⟩⟩
theorem LgF.disk (h:LgF w0 w g gl F v σ s xs sure K) (k:DkS w g F σ1 w1):LgF w0 w1 g gl (Gr F w w1) v σ1 s xs sure K∧Stay K w w1:=by
 have hs:=k.off.size;refine ⟨⟨k.dk,h.l.same fun i hi=>k.off.block i (h.l.lt hi) fun hf=>h.ap i hf hi,?_,fun i hi=>Gr.ge h.bF h.ext.size hi,h.bG,k.off.ext h.ext h.bF,fun i hi=>?_⟩,fun i hi=>?_⟩
 ·rintro i (hf|⟨h1,_⟩) hg
  ·exact h.ap i hf hg
  ·have:=h.l.lt hg;omega
 ·obtain ⟨a,b,d⟩:=h.k i hi
  exact ⟨by omega,Gr.not b a,d⟩
 ·obtain ⟨a,b,d⟩:=h.k i hi
  exact k.off.block i a b
theorem LgF.log {v1:Value} {xs1:List Int} {sure1:Int} (h:LgF w0 w g gl F v σ s xs sure K) (hl:LogM w1 gl g s v1 xs1 sure1) (off:OffS (q7t gl v) w w1) (hv: ∀i,v1.ownBlock=some i→v.ownBlock=some i∨w.heap.size≤i):
  LgF w0 w1 g gl F v1 σ s xs1 sure1 K∧Stay K w w1:=by
 have hs:=off.size;have hF: ∀i,F i→w1.heap[i]? =w.heap[i]? :=fun i hi=>off.block i (by obtain ⟨_,_,_,_,_,_,h⟩:=h.d;exact h i hi) (h.ap i hi)
 have hlt: ∀i,F i→i<w.heap.size:=by obtain ⟨_,_,_,_,_,_,h⟩:=h.d;exact h
 refine ⟨⟨h.d.held hs hF,hl,fun i hi hg=>?_,h.bF,fun i hi=>?_,off.ext h.ext h.bG,fun i hi=>?_⟩,fun i hi=>?_⟩
 ·rcases hg with rfl|hg
  ·exact h.ap _ hi (.inl rfl)
  ·rcases hv i hg with h1|h1
   ·exact h.ap i hi (.inr h1)
   ·have:=hlt i hi;omega
 ·rcases hi with rfl|hg
  ·exact h.bG _ (.inl rfl)
  ·rcases hv i hg with h1|h1
   ·exact h.bG i (.inr h1)
   ·have:=h.ext.size;omega
 ·obtain ⟨a,b,d⟩:=h.k i hi
  refine ⟨by omega,b,?_⟩;rintro (rfl|hg)
  ·exact d (.inl rfl)
  ·rcases hv i hg with h1|h1
   ·exact d (.inr h1)
   ·omega
 ·obtain ⟨a,b,d⟩:=h.k i hi
  exact off.block i a d
theorem LgF.beside (h:LgF w0 w g gl F v σ s xs sure K) (k: ∀i,K' i→K i):LgF w0 w g gl F v σ s xs sure K':=
 ⟨h.d,h.l,h.ap,h.bF,h.bG,h.ext,fun i hi=>h.k i (k i hi)⟩
theorem LgK.grow (h:LgK E w0 w g gl c s C sure K) (k:Ext w w1):LgK E w0 w1 g gl c s C sure K:=by
 obtain ⟨F,v,σ,h1,h2⟩:=h;exact ⟨F,v,σ,h1.grow k,h2⟩
theorem LgK.kExt (h:LgK E w0 w g gl c s C sure K) (k:Ext w w1):Stay K w w1:=by
 obtain ⟨F,v,σ,h1,h2⟩:=h;exact h1.kExt k
theorem LgK.more (h:LgK E w0 w g gl c s C sure K) (k:Ext w w1) (hK: ∀i,K' i→K i∨(w.heap.size≤i∧i<w1.heap.size)):LgK E w0 w1 g gl c s C sure K':=by
 obtain ⟨F,v,σ,h1,h2⟩:=h;have h3:=h1.grow k;refine ⟨F,v,σ,⟨h3.d,h3.l,h3.ap,h3.bF,h3.bG,h3.ext,fun i hi=>?_⟩,h2⟩;have hlt: ∀i,F i→i<w.heap.size:=by obtain ⟨_,_,_,_,_,_,h⟩:=h1.d;exact h
 rcases hK i hi with h4|⟨h4,h5⟩
 ·exact h3.k i h4
 ·refine ⟨h5,fun hf=>?_,fun hg=>?_⟩
  ·have:=hlt i hf;omega
  ·have:=h1.l.lt hg;omega
end
end
section
open Go.RowKit
theorem z3C {f:FuncId} {args:Array Value} {w:World} {v:Value} (h:Calls Tryz.prog f args w fun e w'=>e= .returned v∧w=w'):Calls Tryz.prog f args w fun e w'=>e= .returned v∧Ext w w':=
 h.mono fun _ w' ⟨e,h⟩=>⟨e,h▸Ext.refl _⟩
theorem z9d {w:World} {gl g:Nat} {s sure:Int} {v:Value} {C:Cks} (h:LogM w gl g s v (q0M C) sure) (hC:okC C):
  Calls Tryz.prog 113 #[.pointer (some ⟨gl,0,none⟩)] w fun e w'=>e= .returned (.int .i64 (q4r C))∧w=w':=by
 obtain ⟨a,k,rfl,hx⟩:=h.slice;have c3:=h.c3;clear h;rcases List.eq_nil_or_concat C with rfl|⟨D,ps,rfl⟩
 ·clear hx
  go_enter Tryz.func113,Tryz.ntmps113;have e0:(q0M []).length=0:=rfl;go_wp2_with fail;go_ret;exact ⟨rfl,rfl⟩
 rw[List.concat_eq_append] at*;have hn:(q0M (D++[ps])).length=D.length+1:=by simp[q0M]
 have h200:D.length+1≤200:=by have:=hC.few;simpa using this
 have hs:q0K ps≤4096:=hC.size ps (by simp);obtain ⟨b,off,rfl,hc⟩:=hx.at (j:=D.length) (by omega);have hv:(q0M (D++[ps])).getD D.length 0=(q0K ps:Int):=q7L D ps;rw[hv] at hc;rw[hn] at c3 hx;rw[q2T];clear hx hC hn hv;generalize D.length=n at*;obtain ⟨z,hz⟩: ∃z:Int,(q0K ps:Int)=z:=⟨_,rfl⟩
 have z0:0≤z:=by omega
 have z1:z≤4096:=by omega
 rw[hz] at hc⊢;clear hz hs;go_enter Tryz.func113,Tryz.ntmps113;go_wp2_with fail;go_ret;exact ⟨rn (by go_num),rfl⟩
section
variable {w0 w:World} {g gl:Nat} {F K:Nat→Prop} {v:Value} {σ:DM} {c s sure:Int} {xs:List Int} {C:Cks}
theorem z2M (h:LgF w0 w g gl F v σ s xs sure K) (hf:z1A σ=c) (h0:0≤c) (h1:c≤1048576) (n:Int) (n0:0≤n) (n1:n≤1048576):
  Calls Tryz.prog 122 #[.pointer (some ⟨gl,0,none⟩),.int .i64 n] w fun e w'=>e= .returned (.bool (decide (6000≤c-n)))∧Ext w w':=by
 have c0:=h.l.c0;have HF:=Lib.hid (y1K h.d);rw[hf] at HF;clear h hf;go_enter Tryz.func122,Tryz.ntmps122;go_wp2_with fail;refine HF.out.mono ?_;rintro e w1 ⟨rfl,hb⟩;have HB:=Lib.hid hb;clear hb;go_wp2_with fail;go_ret;exact ⟨rfl,HB.out⟩
theorem z1t (h:LgF w0 w g gl F v σ s xs sure K) (hup:σ.down=false) (hs:σ.starts=s):
  Calls Tryz.prog 72 #[.pointer (some ⟨gl,0,none⟩)] w fun e w'=>e= .returned (.int .i64 0)∧Ext w w':=by
 have c0:=h.l.c0;have c1:=h.l.c1;have c2:=h.l.c2;have u0:=q0F c0;have u1:=q0F c1;have u2:=q0F c2;have HU:=Lib.hid (fun x:ExtOf w=>z3C (y1q (h.d.ext x.h)));have HS:=Lib.hid (fun x:ExtOf w=>z3C (z2H (h.d.ext x.h)));rw[hup] at HU;rw[hs] at HS;clear h hup hs;go_enter Tryz.func72,Tryz.ntmps72;go_wp2_with fail;refine q0E (by kernel_rfl) (by kernel_rfl) ?_
 repeat (go_big_quiet_step (first|(go_at_call 107;exact Calls.quiet_ext (HU.out _))|(go_at_call 111;exact Calls.quiet_ext (HS.out _))))
 refine wpQuiet_nil ?_;intro w1 hw1;have HB:=Lib.hid hw1;clear hw1;go_wp2_with fail;go_ret;exact ⟨rfl,HB.out⟩
end
end
end Go.Proofs.YthdekbmdkpcooaaGreatDoor
