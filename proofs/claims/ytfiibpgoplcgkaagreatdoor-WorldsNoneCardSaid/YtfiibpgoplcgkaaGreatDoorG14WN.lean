/- How a log lies in memory, beside its disk. -/
import Derived.Test.YtfiibpgoplcgkaaGreatDoorG10WN
import Derived.Test.YtfiibpgoplcgkaaGreatDoorG13WN
set_option linter.unusedVariables false
set_option linter.unusedSimpArgs false
set_option maxRecDepth 100000
set_option maxHeartbeats 1600000
namespace Go.Proofs.YtfiibpgoplcgkaaGreatDoor
section
open Go.RowKit
theorem y1V(c:Int):Pl (z7H c) c 0 []:=⟨rfl,rfl,rfl,rfl,rfl⟩
theorem z9i(c:Int):Lgd noO (z7H c) c 0 [] 0:=⟨by have:=y1V c;simpa [q1R,noO,q1T,q4u,q2V,q3G] using this,okC.nil,okOth.no,(fun f b=>by cases b),Int.le_refl _⟩
theorem z4d{w:World}{B:Nat}{e:TypeId}{v:Value}{n:Nat}{cs:List Value}(h:w.ownsRow B e 1 v n cs){g cap:Nat}(i:v= .slice (some ⟨g,0,none⟩) n cap){j:Nat}(u:Value):(w.setCell ⟨g,j,none⟩ u).ownsRow B e 1 v n (cs.set j u):=by
 have o:=h.1;refine⟨by simpa using o,?_⟩;rcases h.2 with⟨rfl,_⟩|⟨q,d,b,rfl,l,m,h1,h2,h3,h4⟩
 ·cases i
 ·cases i
  refine .inr ⟨g,cap,b.setIfInBounds j u,rfl,l,?_,h1,h2,by simpa using h3,?_⟩
  ·simp only[World.setCell,Array.getElem?_modify,if_true,m,Option.map_some]
   rfl
  ·rw[Array.toList_setIfInBounds,<-h4,List.take_set]
def q7u(gl:Nat)(v:Value)(i:Nat):Prop:=i=gl\/v.ownBlock=some i
structure LogM(w:World)(gl g:Nat)(s:Int)(v:Value)(xs:List Int)(sure:Int):Prop where
 blk:Blk w gl 226 #[.pointer (some ⟨g,0,none⟩),.int .i64 s,.bool false,v,.int .i64 sure]
 row:w.ownsRow 0 3 1 v xs.length (xs.map (Value.int .i64))
section
variable {E :Oth}{w w':World}{gl g:Nat}{s sure:Int}{v:Value}{xs:List Int}
theorem LogM.lt(h:LogM w gl g s v xs sure){i:Nat}(b:q7u gl v i):i<w.heap.size:=by
 rcases b with rfl|b
 ·exact h.blk.lt
 ·exact(q0i h.row i b).2
theorem LogM.same(h:LogM w gl g s v xs sure)(k: ∀i,q7u gl v i->w'.heap[i]? =w.heap[i]?):LogM w' gl g s v xs sure:=
 ⟨h.blk.same (k gl (.inl rfl)),q1X h.row fun i b=>k i (.inr b)⟩
theorem LogM.ext(h:LogM w gl g s v xs sure)(k:Ext w w'):LogM w' gl g s v xs sure:=h.same fun i b=>k.block i (h.lt b)
theorem LogM.c0(h:LogM w gl g s v xs sure):w.cell? ⟨gl,0,none⟩=some (.pointer (some ⟨g,0,none⟩)):=h.blk.cell 0
theorem LogM.c1(h:LogM w gl g s v xs sure):w.cell? ⟨gl,1,none⟩=some (.int .i64 s):=h.blk.cell 1
theorem LogM.c2(h:LogM w gl g s v xs sure):w.cell? ⟨gl,2,none⟩=some (.bool false):=h.blk.cell 2
theorem LogM.c3(h:LogM w gl g s v xs sure):w.cell? ⟨gl,3,none⟩=some v:=h.blk.cell 3
theorem LogM.c4(h:LogM w gl g s v xs sure):w.cell? ⟨gl,4,none⟩=some (.int .i64 sure):=h.blk.cell 4
theorem LogM.slice(h:LogM w gl g s v xs sure): ∃a c,v= .slice a xs.length c/\Ints w a xs.length c xs:=q2z (Own.of_row h.row)
theorem LogM.apart(h:LogM w gl g s v xs sure):v.ownBlock≠some gl:=fun d=>by
 obtain⟨b,hc⟩:=q5k h.row d;exact Blk.ne h.blk (ds:=b) hc (by decide) rfl
end
def DkK(E:Oth)(w0 w:World)(g:Nat)(c s:Int)(C:Cks)(K:Nat->Prop):Prop:= ∃F σ,DkF w0 w g F σ K/\Lgd E σ c s C 0
structure LgF(w0 w:World)(g gl:Nat)(F:Nat->Prop)(v:Value)(σ:DM)(s:Int)(xs:List Int)(sure:Int)(K:Nat->Prop):Prop where
 d:Dk w g F σ
 l:LogM w gl g s v xs sure
 ap: ∀i,F i->¬q7u gl v i
 bF: ∀i,F i->w0.heap.size<=i
 bG: ∀i,q7u gl v i->w0.heap.size<=i
 ext:Ext w0 w
 k: ∀i,K i->i<w.heap.size/\¬F i/\¬q7u gl v i
def LgK(E:Oth)(w0 w:World)(g gl:Nat)(c s:Int)(C:Cks)(sure:Int)(K:Nat->Prop):Prop:= ∃F v σ,LgF w0 w g gl F v σ s (q0M C) sure K/\Lgd E σ c s C sure
section
variable {E :Oth}{w0 w w1 w2:World}{g gl:Nat}{F K K':Nat->Prop}{v:Value}{σ σ1:DM}{c s sure:Int}{xs:List Int}{C:Cks}
theorem LgF.kExt(h:LgF w0 w g gl F v σ s xs sure K)(k:Ext w w1):Stay K w w1:=fun i b=>k.block i (h.k i b).1
theorem LgF.grow(h:LgF w0 w g gl F v σ s xs sure K)(k:Ext w w1):LgF w0 w1 g gl F v σ s xs sure K:=
 ⟨h.d.ext k,h.l.ext k,h.ap,h.bF,h.bG,h.ext.trans k,fun i b=>⟨Ψ (h.k i b).1 k.size,(h.k i b).2⟩⟩
theorem LgF.disk(h:LgF w0 w g gl F v σ s xs sure K)(k:DkS w g F σ1 w1):LgF w0 w1 g gl (Gr F w w1) v σ1 s xs sure K/\Stay K w w1:=by
 have q:=k.off.size;refine⟨⟨k.dk,h.l.same fun i j=>k.off.block i (h.l.lt j) fun m=>h.ap i m j,?_,fun i j=>Gr.ge h.bF h.ext.size j,h.bG,k.off.ext h.ext h.bF,fun i j=>?_⟩,fun i j=>?_⟩
 ·rintro i (m|⟨h1,_⟩) o
  ·exact h.ap i m o
  ·have:=h.l.lt o;omega
 ·obtain⟨a,b,d⟩:=h.k i j
  exact⟨by omega,Gr.not b a,d⟩
 ·obtain⟨a,b,d⟩:=h.k i j
  exact k.off.block i a b
theorem LgF.log{u:Value}{o:List Int}{l:Int}(h:LgF w0 w g gl F v σ s xs sure K)(x:LogM w1 gl g s u o l)(off:OffS (q7u gl v) w w1)(r: ∀i,u.ownBlock=some i->v.ownBlock=some i\/w.heap.size<=i):
  LgF w0 w1 g gl F u σ s o l K/\Stay K w w1:=by
 have y:=off.size;have hF: ∀i,F i->w1.heap[i]? =w.heap[i]? :=fun i j=>off.block i (by obtain⟨_,_,_,_,_,_,h⟩:=h.d;exact h i j) (h.ap i j)
 have q: ∀i,F i->i<w.heap.size:=by obtain⟨_,_,_,_,_,_,h⟩:=h.d;exact h
 refine⟨⟨h.d.held y hF,x,fun i j m=>?_,h.bF,fun i j=>?_,off.ext h.ext h.bG,fun i j=>?_⟩,fun i j=>?_⟩
 ·rcases m with rfl|m
  ·exact h.ap _ j (.inl rfl)
  ·rcases r i m with h1|h1
   ·exact h.ap i j (.inr h1)
   ·have:=q i j;omega
 ·rcases j with rfl|m
  ·exact h.bG _ (.inl rfl)
  ·rcases r i m with h1|h1
   ·exact h.bG i (.inr h1)
   ·have:=h.ext.size;omega
 ·obtain⟨a,b,d⟩:=h.k i j
  refine⟨by omega,b,?_⟩;rintro(rfl|m)
  ·exact d (.inl rfl)
  ·rcases r i m with h1|h1
   ·exact d (.inr h1)
   ·omega
 ·obtain⟨a,b,d⟩:=h.k i j
  exact off.block i a d
theorem LgF.beside(h:LgF w0 w g gl F v σ s xs sure K)(k: ∀i,K' i->K i):LgF w0 w g gl F v σ s xs sure K':=
 ⟨h.d,h.l,h.ap,h.bF,h.bG,h.ext,fun i b=>h.k i (k i b)⟩
theorem LgK.grow(h:LgK E w0 w g gl c s C sure K)(k:Ext w w1):LgK E w0 w1 g gl c s C sure K:=by
 obtain⟨F,v,σ,h1,h2⟩:=h;exact⟨F,v,σ,h1.grow k,h2⟩
theorem LgK.kExt(h:LgK E w0 w g gl c s C sure K)(k:Ext w w1):Stay K w w1:=by
 obtain⟨F,v,σ,h1,h2⟩:=h;exact h1.kExt k
theorem LgK.more(h:LgK E w0 w g gl c s C sure K)(k:Ext w w1)(hK: ∀i,K' i->K i\/(w.heap.size<=i/\i<w1.heap.size)):LgK E w0 w1 g gl c s C sure K':=by
 obtain⟨F,v,σ,h1,h2⟩:=h;have h3:=h1.grow k;refine⟨F,v,σ,⟨h3.d,h3.l,h3.ap,h3.bF,h3.bG,h3.ext,fun i q=>?_⟩,h2⟩;have b: ∀i,F i->i<w.heap.size:=by obtain⟨_,_,_,_,_,_,h⟩:=h1.d;exact h
 rcases hK i q with h4|⟨h4,j⟩
 ·exact h3.k i h4
 ·refine⟨j,fun m=>?_,fun o=>?_⟩
  ·have:=b i m;omega
  ·have:=h1.l.lt o;omega
end
theorem z3T{f:FuncId}{args:Array Value}{w:World}{v:Value}(h:Calls Tryz.prog f args w fun e w'=>e= .returned v/\w=w'):Calls Tryz.prog f args w fun e w'=>e= .returned v/\Ext w w':=
 h.mono fun _ w' ⟨e,h⟩=>⟨e,h▸Ext.refl _⟩
theorem z7n{w:World}{gl g:Nat}{s sure:Int}{v:Value}{C:Cks}(h:LogM w gl g s v (q0M C) sure)(i:okC C):
  Calls Tryz.prog 140 #[.pointer (some ⟨gl,0,none⟩)] w fun e w'=>e= .returned (.int .i64 (q2g C))/\w=w':=by
 obtain⟨a,k,rfl,d⟩:=h.slice;have r:=h.c3;clear h;rcases List.eq_nil_or_concat C with rfl|⟨D,ps,rfl⟩
 ·clear d
  go_enter Tryz.func140,Tryz.ntmps140;have x:(q0M []).length=0:=rfl;go_wp2_with fail;go_ret;exact⟨rfl,rfl⟩
 rw[List.concat_eq_append] at*;have m:(q0M (D++[ps])).length=D.length+1:=by simp[q0M]
 have l:D.length+1<=200:=by have:=i.few;simpa using this
 have u:q0H ps<=4096:=i.size ps (by simp);obtain⟨b,off,rfl,hc⟩:=d.at (j:=D.length) (by omega);have o:(q0M (D++[ps])).getD D.length 0=(q0H ps:Int):=q7d D ps;rw[o] at hc;rw[m] at r d;rw[q0y];clear d i m o;generalize D.length=n at*;obtain⟨z,q⟩: ∃z:Int,(q0H ps:Int)=z:=⟨_,rfl⟩
 have y:0<=z:=by omega
 have B:z<=4096:=by omega
 rw[q] at hc⊢;clear q u;go_enter Tryz.func140,Tryz.ntmps140;go_wp2_with fail;go_ret;exact⟨rn (by go_num),rfl⟩
section
variable {w0 w:World}{g gl:Nat}{F K:Nat->Prop}{v:Value}{σ:DM}{c s sure:Int}{xs:List Int}{C:Cks}
theorem z3S(h:LgF w0 w g gl F v σ s xs sure K)(j:z1d σ=c)(r:0<=c)(h1:c<=1048576)(n:Int)(u:0<=n)(x:n<=1048576):
  Calls Tryz.prog 207 #[.pointer (some ⟨gl,0,none⟩),.int .i64 n] w fun e w'=>e= .returned (.bool (decide (6000<=c-n)))/\Ext w w':=by
 have q:=h.l.c0;have b:=η (y0t h.d);rw[j] at b;clear h j;go_enter Tryz.func207,Tryz.ntmps207;go_wp2_with fail;refine b.o.mono ?_;rintro e w1 ⟨rfl,i⟩;have m:=η i;clear i;go_wp2_with fail;go_ret;exact⟨rfl,m.o⟩
theorem z2D(h:LgF w0 w g gl F v σ s xs sure K)(b:σ.down=false)(q:σ.starts=s):
  Calls Tryz.prog 146 #[.pointer (some ⟨gl,0,none⟩)] w fun e w'=>e= .returned (.int .i64 0)/\Ext w w':=by
 have u:=h.l.c0;have y:=h.l.c1;have B:=h.l.c2;have D:=q0D u;have G:=q0D y;have I:=q0D B;have m:=η (fun x:ExtOf w=>z3T (y0b (h.d.ext x.h)));have j:=η (fun x:ExtOf w=>z3T (q9g (h.d.ext x.h)));rw[b] at m;rw[q] at j;clear h b q;go_enter Tryz.func146,Tryz.ntmps146;go_wp2_with fail;refine q0F (by kernel_rfl) (by kernel_rfl) ?_
 repeat (go_big_quiet_step (first|(go_at_call 76;exact Calls.quiet_ext (m.o _))|(go_at_call 138;exact Calls.quiet_ext (j.o _))))
 refine wpQuiet_nil ?_;intro w1 i;have r:=η i;clear i;go_wp2_with fail;go_ret;exact⟨rfl,r.o⟩
end
end
end Go.Proofs.YtfiibpgoplcgkaaGreatDoor
