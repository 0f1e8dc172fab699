/- How a log lies in memory, beside its disk. -/
import Derived.Test.YtjigghjfcbbkiaaGreatDoorG11SN
import Derived.Test.YtjigghjfcbbkiaaGreatDoorG14SN
set_option linter.unusedVariables false
set_option linter.unusedSimpArgs false
set_option maxRecDepth 100000
set_option maxHeartbeats 1600000
namespace Go.Proofs.YtjigghjfcbbkiaaGreatDoor
section
open Go.RowKit
theorem y0p(c:Int):Pl (z6Y c) c 0 []:=⟨rfl,rfl,rfl,rfl,rfl⟩
theorem z9H(c:Int):Lgd noO (z6Y c) c 0 []:=⟨by have:=y0p c;simpa [q2G,noO,q2Q,q5X,q3E,q3n] using this,okC.nil,okOth.no⟩
theorem z3y{w:World}{B:Nat}{e:TypeId}{v:Value}{n:Nat}{cs:List Value}(h:w.ownsRow B e 1 v n cs){g cap:Nat}(i:v= .slice (some ⟨g,0,none⟩) n cap){j:Nat}(u:Value):(w.setCell ⟨g,j,none⟩ u).ownsRow B e 1 v n (cs.set j u):=by
 have y:=h.1;refine⟨by simpa using y,?_⟩;rcases h.2 with⟨rfl,_⟩|⟨D,d,b,rfl,r,x,l,m,o,q⟩
 ·cases i
 ·cases i
  refine .inr ⟨g,cap,b.setIfInBounds j u,rfl,r,?_,l,m,by simpa using o,?_⟩
  ·simp only[World.setCell,Array.getElem?_modify,if_true,x,Option.map_some]
   rfl
  ·rw[Array.toList_setIfInBounds,<-q,List.take_set]
def q7i(gl:Nat)(v:Value)(i:Nat):Prop:=i=gl\/v.ownBlock=some i
structure LogM(w:World)(gl g:Nat)(s:Int)(v:Value)(xs:List Int)(sure:Int):Prop where
 blk:Blk w gl 182 #[.pointer (some ⟨g,0,none⟩),.int .i64 s,.bool false,v,.int .i64 sure]
 row:w.ownsRow 0 3 1 v xs.length (xs.map (Value.int .i64))
section
variable {E :Oth}{w w':World}{gl g:Nat}{s sure:Int}{v:Value}{xs:List Int}
theorem LogM.lt(h:LogM w gl g s v xs sure){i:Nat}(b:q7i gl v i):i<w.heap.size:=by
 rcases b with rfl|b
 ·exact h.blk.lt
 ·exact(q0X h.row i b).2
theorem LogM.same(h:LogM w gl g s v xs sure)(k: ∀i,q7i gl v i->w'.heap[i]? =w.heap[i]?):LogM w' gl g s v xs sure:=
 ⟨h.blk.same (k gl (.inl rfl)),q1A h.row fun i b=>k i (.inr b)⟩
theorem LogM.ext(h:LogM w gl g s v xs sure)(k:Ext w w'):LogM w' gl g s v xs sure:=h.same fun i b=>k.block i (h.lt b)
theorem LogM.c0(h:LogM w gl g s v xs sure):w.cell? ⟨gl,0,none⟩=some (.pointer (some ⟨g,0,none⟩)):=h.blk.cell 0
theorem LogM.c1(h:LogM w gl g s v xs sure):w.cell? ⟨gl,1,none⟩=some (.int .i64 s):=h.blk.cell 1
theorem LogM.c2(h:LogM w gl g s v xs sure):w.cell? ⟨gl,2,none⟩=some (.bool false):=h.blk.cell 2
theorem LogM.c3(h:LogM w gl g s v xs sure):w.cell? ⟨gl,3,none⟩=some v:=h.blk.cell 3
theorem LogM.c4(h:LogM w gl g s v xs sure):w.cell? ⟨gl,4,none⟩=some (.int .i64 sure):=h.blk.cell 4
theorem LogM.slice(h:LogM w gl g s v xs sure): ∃a c,v= .slice a xs.length c/\Ints w a xs.length c xs:=q2r (Own.of_row h.row)
theorem LogM.apart(h:LogM w gl g s v xs sure):v.ownBlock≠some gl:=fun d=>by
 obtain⟨b,hc⟩:=q5R h.row d;exact Blk.ne h.blk (ds:=b) hc (by decide) rfl
end
def DkK(E:Oth)(w0 w:World)(g:Nat)(c s:Int)(C:Cks)(K:Nat->Prop):Prop:= ∃F σ,DkF w0 w g F σ K/\Lgd E σ c s C
structure LgF(w0 w:World)(g gl:Nat)(F:Nat->Prop)(v:Value)(σ:DM)(s:Int)(xs:List Int)(sure:Int)(K:Nat->Prop):Prop where
 d:Dk w g F σ
 l:LogM w gl g s v xs sure
 ap: ∀i,F i->¬q7i gl v i
 bF: ∀i,F i->w0.heap.size<=i
 bG: ∀i,q7i gl v i->w0.heap.size<=i
 ext:Ext w0 w
 k: ∀i,K i->i<w.heap.size/\¬F i/\¬q7i gl v i
def LgK(E:Oth)(w0 w:World)(g gl:Nat)(c s:Int)(C:Cks)(sure:Int)(K:Nat->Prop):Prop:= ∃F v σ,LgF w0 w g gl F v σ s (q0L C) sure K/\Lgd E σ c s C
section
variable {E :Oth}{w0 w w1 w2:World}{g gl:Nat}{F K K':Nat->Prop}{v:Value}{σ σ1:DM}{c s sure:Int}{xs:List Int}{C:Cks}
theorem LgF.kExt(h:LgF w0 w g gl F v σ s xs sure K)(k:Ext w w1):Stay K w w1:=fun i b=>k.block i (h.k i b).1
theorem LgF.grow(h:LgF w0 w g gl F v σ s xs sure K)(k:Ext w w1):LgF w0 w1 g gl F v σ s xs sure K:=
 ⟨h.d.ext k,h.l.ext k,h.ap,h.bF,h.bG,h.ext.trans k,fun i b=>⟨Ψ (h.k i b).1 k.size,(h.k i b).2⟩⟩
theorem LgF.disk(h:LgF w0 w g gl F v σ s xs sure K)(k:DkS w g F σ1 w1):LgF w0 w1 g gl (Gr F w w1) v σ1 s xs sure K/\Stay K w w1:=by
 have r:=k.off.size;refine⟨⟨k.dk,h.l.same fun i j=>k.off.block i (h.l.lt j) fun m=>h.ap i m j,?_,fun i j=>Gr.ge h.bF h.ext.size j,h.bG,k.off.ext h.ext h.bF,fun i j=>?_⟩,fun i j=>?_⟩
 ·rintro i (m|⟨q,_⟩) o
  ·exact h.ap i m o
  ·have:=h.l.lt o;omega
 ·obtain⟨a,b,d⟩:=h.k i j
  exact⟨by omega,Gr.not b a,d⟩
 ·obtain⟨a,b,d⟩:=h.k i j
  exact k.off.block i a b
theorem LgF.log{x:Value}{q:List Int}{l:Int}(h:LgF w0 w g gl F v σ s xs sure K)(y:LogM w1 gl g s x q l)(off:OffS (q7i gl v) w w1)(u: ∀i,x.ownBlock=some i->v.ownBlock=some i\/w.heap.size<=i):
  LgF w0 w1 g gl F x σ s q l K/\Stay K w w1:=by
 have B:=off.size;have hF: ∀i,F i->w1.heap[i]? =w.heap[i]? :=fun i j=>off.block i (by obtain⟨_,_,_,_,_,_,h⟩:=h.d;exact h i j) (h.ap i j)
 have r: ∀i,F i->i<w.heap.size:=by obtain⟨_,_,_,_,_,_,h⟩:=h.d;exact h
 refine⟨⟨h.d.held B hF,y,fun i j o=>?_,h.bF,fun i j=>?_,off.ext h.ext h.bG,fun i j=>?_⟩,fun i j=>?_⟩
 ·rcases o with rfl|o
  ·exact h.ap _ j (.inl rfl)
  ·rcases u i o with m|m
   ·exact h.ap i j (.inr m)
   ·have:=r i j;omega
 ·rcases j with rfl|o
  ·exact h.bG _ (.inl rfl)
  ·rcases u i o with m|m
   ·exact h.bG i (.inr m)
   ·have:=h.ext.size;omega
 ·obtain⟨a,b,d⟩:=h.k i j
  refine⟨by omega,b,?_⟩;rintro(rfl|o)
  ·exact d (.inl rfl)
  ·rcases u i o with m|m
   ·exact d (.inr m)
   ·omega
 ·obtain⟨a,b,d⟩:=h.k i j
  exact off.block i a d
theorem LgF.beside(h:LgF w0 w g gl F v σ s xs sure K)(k: ∀i,K' i->K i):LgF w0 w g gl F v σ s xs sure K':=
 ⟨h.d,h.l,h.ap,h.bF,h.bG,h.ext,fun i b=>h.k i (k i b)⟩
theorem LgK.grow(h:LgK E w0 w g gl c s C sure K)(k:Ext w w1):LgK E w0 w1 g gl c s C sure K:=by
 obtain⟨F,v,σ,b,d⟩:=h;exact⟨F,v,σ,b.grow k,d⟩
theorem LgK.kExt(h:LgK E w0 w g gl c s C sure K)(k:Ext w w1):Stay K w w1:=by
 obtain⟨F,v,σ,b,d⟩:=h;exact b.kExt k
theorem LgK.more(h:LgK E w0 w g gl c s C sure K)(k:Ext w w1)(hK: ∀i,K' i->K i\/(w.heap.size<=i/\i<w1.heap.size)):LgK E w0 w1 g gl c s C sure K':=by
 obtain⟨F,v,σ,j,q⟩:=h;have b:=j.grow k;refine⟨F,v,σ,⟨b.d,b.l,b.ap,b.bF,b.bG,b.ext,fun i y=>?_⟩,q⟩;have m: ∀i,F i->i<w.heap.size:=by obtain⟨_,_,_,_,_,_,h⟩:=j.d;exact h
 rcases hK i y with o|⟨o,r⟩
 ·exact b.k i o
 ·refine⟨r,fun u=>?_,fun x=>?_⟩
  ·have:=m i u;omega
  ·have:=j.l.lt x;omega
end
theorem z2u{f:FuncId}{args:Array Value}{w:World}{v:Value}(h:Calls Tryz.prog f args w fun e w'=>e= .returned v/\w=w'):Calls Tryz.prog f args w fun e w'=>e= .returned v/\Ext w w':=
 h.mono fun _ w' ⟨e,h⟩=>⟨e,h▸Ext.refl _⟩
theorem z8t{w:World}{gl g:Nat}{s sure:Int}{v:Value}{C:Cks}(h:LogM w gl g s v (q0L C) sure)(i:okC C):
  Calls Tryz.prog 112 #[.pointer (some ⟨gl,0,none⟩)] w fun e w'=>e= .returned (.int .i64 (q4h C))/\w=w':=by
 obtain⟨a,k,rfl,d⟩:=h.slice;have r:=h.c3;clear h;rcases List.eq_nil_or_concat C with rfl|⟨D,ps,rfl⟩
 ·clear d
  go_enter Tryz.func112,Tryz.ntmps112;have x:(q0L []).length=0:=rfl;go_wp2_with fail;go_ret;exact⟨rfl,rfl⟩
 rw[List.concat_eq_append] at*;have m:(q0L (D++[ps])).length=D.length+1:=by simp[q0L]
 have l:D.length+1<=200:=by have:=i.few;simpa using this
 have u:q0I ps<=4096:=i.size ps (by simp);obtain⟨b,off,rfl,hc⟩:=d.at (j:=D.length) (by omega);have o:(q0L (D++[ps])).getD D.length 0=(q0I ps:Int):=q7I D ps;rw[o] at hc;rw[m] at r d;rw[q2T];clear d i m o;generalize D.length=n at*;obtain⟨z,q⟩: ∃z:Int,(q0I ps:Int)=z:=⟨_,rfl⟩
 have y:0<=z:=by omega
 have B:z<=4096:=by omega
 rw[q] at hc⊢;clear q u;go_enter Tryz.func112,Tryz.ntmps112;go_wp2_with fail;go_ret;exact⟨rn (by go_num),rfl⟩
section
variable {w0 w:World}{g gl:Nat}{F K:Nat->Prop}{v:Value}{σ:DM}{c s sure:Int}{xs:List Int}{C:Cks}
theorem z2t(h:LgF w0 w g gl F v σ s xs sure K)(j:z0y σ=c)(r:0<=c)(u:c<=1048576)(n:Int)(x:0<=n)(y:n<=1048576):
  Calls Tryz.prog 189 #[.pointer (some ⟨gl,0,none⟩),.int .i64 n] w fun e w'=>e= .returned (.bool (decide (6000<=c-n)))/\Ext w w':=by
 have q:=h.l.c0;have b:=η (y0K h.d);rw[j] at b;clear h j;go_enter Tryz.func189,Tryz.ntmps189;go_wp2_with fail;refine b.o.mono ?_;rintro e w1 ⟨rfl,i⟩;have m:=η i;clear i;go_wp2_with fail;go_ret;exact⟨rfl,m.o⟩
theorem z1a(h:LgF w0 w g gl F v σ s xs sure K)(b:σ.down=false)(q:σ.starts=s):
  Calls Tryz.prog 133 #[.pointer (some ⟨gl,0,none⟩)] w fun e w'=>e= .returned (.int .i64 0)/\Ext w w':=by
 have u:=h.l.c0;have y:=h.l.c1;have B:=h.l.c2;have D:=q0C u;have G:=q0C y;have I:=q0C B;have m:=η (fun x:ExtOf w=>z2u (y1p (h.d.ext x.h)));have j:=η (fun x:ExtOf w=>z2u (z2y (h.d.ext x.h)));rw[b] at m;rw[q] at j;clear h b q;go_enter Tryz.func133,Tryz.ntmps133;go_wp2_with fail;refine q0D (by kernel_rfl) (by kernel_rfl) ?_
 repeat (go_big_quiet_step (first|(go_at_call 18;exact Calls.quiet_ext (m.o _))|(go_at_call 110;exact Calls.quiet_ext (j.o _))))
 refine wpQuiet_nil ?_;intro w1 i;have r:=η i;clear i;go_wp2_with fail;go_ret;exact⟨rfl,r.o⟩
end
end
end Go.Proofs.YtjigghjfcbbkiaaGreatDoor
