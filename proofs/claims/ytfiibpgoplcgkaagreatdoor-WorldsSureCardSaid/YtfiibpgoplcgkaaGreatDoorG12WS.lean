/- How a log lies in memory, beside its disk. -/
import Derived.Test.YtfiibpgoplcgkaaGreatDoorG9WS
import Derived.Test.YtfiibpgoplcgkaaGreatDoorG10WS
import Derived.Test.YtfiibpgoplcgkaaGreatDoorG11WS
set_option linter.unusedVariables false
set_option linter.unusedSimpArgs false
set_option maxRecDepth 100000
set_option maxHeartbeats 3200000
namespace Go.Proofs.YtfiibpgoplcgkaaGreatDoor
variable {n bl bn br a:Nat}{k pos fr:Int}{D:Cks}{ps:List (List UInt8)}{p:List UInt8}{r:Nat×List UInt8}{w3:World}{A:List (Nat×List UInt8)}
section
open Go.RowKit
theorem y3l(c:Int):Pl (z9C c) c 0 []:=⟨rfl,rfl,rfl,rfl,rfl⟩
theorem y1p(c:Int):Lgd noO (z9C c) c 0 [] 0:=⟨by have:=y3l c;simpa [q1b,noO,q1R,q5Q,q2i,q3e] using this,okC.nil,okOth.no,(fun f b=>by cases b),Int.le_refl _⟩
theorem z6E{w:World}{B:Nat}{e:TypeId}{v:Value}{cs:List Value}(h:w.ownsRow B e 1 v n cs){g cap:Nat}(i:v= .slice (some ⟨g,0,none⟩) n cap){j:Nat}(u:Value):(w.setCell ⟨g,j,none⟩ u).ownsRow B e 1 v n (cs.set j u):=by
 have q:=h.1;refine⟨by simpa using q,?_⟩;rcases h.2 with⟨rfl,_⟩|⟨y,d,b,rfl,m,o,h1,h2,h3,h4⟩
 ·cases i
 ·cases i
  refine .inr ⟨g,cap,b.setIfInBounds j u,rfl,m,?_,h1,h2,by simpa using h3,?_⟩
  ·simp only[World.setCell,Array.getElem?_modify,if_true,o,Option.map_some]
   rfl
  ·rw[Array.toList_setIfInBounds,<-h4,List.take_set]
def q7r(gl:Nat)(v:Value)(i:Nat):Prop:=i=gl\/v.ownBlock=some i
structure LogM(w:World)(gl g:Nat)(s:Int)(v:Value)(xs:List Int)(sure:Int):Prop where
 blk:Blk w gl 226 #[.pointer (some ⟨g,0,none⟩),.int .i64 s,.bool false,v,.int .i64 sure]
 row:w.ownsRow 0 3 1 v xs.length (xs.map (Value.int .i64))
section
variable {E :Oth}{w w':World}{gl g:Nat}{s sure:Int}{v:Value}{xs:List Int}
theorem LogM.lt(h:LogM w gl g s v xs sure){i:Nat}(b:q7r gl v i):i<w.heap.size:=by
 rcases b with rfl|b
 ·exact h.blk.lt
 ·exact(q0p h.row i b).2
theorem LogM.same(h:LogM w gl g s v xs sure)(k: ∀i,q7r gl v i->w'.heap[i]? =w.heap[i]?):LogM w' gl g s v xs sure:=
 ⟨h.blk.same (k gl (.inl rfl)),q1X h.row fun i b=>k i (.inr b)⟩
theorem LogM.ext(h:LogM w gl g s v xs sure)(k:Ext w w'):LogM w' gl g s v xs sure:=h.same fun i b=>k.block i (h.lt b)
theorem LogM.c0(h:LogM w gl g s v xs sure):w.cell? ⟨gl,0,none⟩=some (.pointer (some ⟨g,0,none⟩)):=h.blk.cell 0
theorem LogM.c1(h:LogM w gl g s v xs sure):w.cell? ⟨gl,1,none⟩=some (.int .i64 s):=h.blk.cell 1
theorem LogM.c2(h:LogM w gl g s v xs sure):w.cell? ⟨gl,2,none⟩=some (.bool false):=h.blk.cell 2
theorem LogM.c3(h:LogM w gl g s v xs sure):w.cell? ⟨gl,3,none⟩=some v:=h.blk.cell 3
theorem LogM.c4(h:LogM w gl g s v xs sure):w.cell? ⟨gl,4,none⟩=some (.int .i64 sure):=h.blk.cell 4
theorem LogM.slice(h:LogM w gl g s v xs sure): ∃a c,v= .slice a xs.length c/\Ints w a xs.length c xs:=q2d (Own.of_row h.row)
theorem LogM.apart(h:LogM w gl g s v xs sure):v.ownBlock≠some gl:=fun d=>by
 obtain⟨b,hc⟩:=q5E h.row d;exact Blk.ne h.blk (ds:=b) hc (by decide) rfl
end
def DkK(E:Oth)(w0 w:World)(g:Nat)(c s:Int)(C:Cks)(K:Nat->Prop):Prop:= ∃F σ,DkF w0 w g F σ K/\Lgd E σ c s C 0
structure LgF(w0 w:World)(g gl:Nat)(F:Nat->Prop)(v:Value)(σ:DM)(s:Int)(xs:List Int)(sure:Int)(K:Nat->Prop):Prop where
 d:Dk w g F σ
 l:LogM w gl g s v xs sure
 ap: ∀i,F i->¬q7r gl v i
 bF: ∀i,F i->w0.heap.size<=i
 bG: ∀i,q7r gl v i->w0.heap.size<=i
 ext:Ext w0 w
 k: ∀i,K i->i<w.heap.size/\¬F i/\¬q7r gl v i
def LgK(E:Oth)(w0 w:World)(g gl:Nat)(c s:Int)(C:Cks)(sure:Int)(K:Nat->Prop):Prop:= ∃F v σ,LgF w0 w g gl F v σ s (q0O C) sure K/\Lgd E σ c s C sure
section
variable {E :Oth}{w0 w w1 w2:World}{g gl:Nat}{F K K':Nat->Prop}{v:Value}{σ σ1:DM}{c s sure:Int}{xs:List Int}{C:Cks}
theorem LgF.kExt(h:LgF w0 w g gl F v σ s xs sure K)(k:Ext w w1):Stay K w w1:=fun i b=>k.block i (h.k i b).1
theorem LgF.grow(h:LgF w0 w g gl F v σ s xs sure K)(k:Ext w w1):LgF w0 w1 g gl F v σ s xs sure K:=
 ⟨h.d.ext k,h.l.ext k,h.ap,h.bF,h.bG,h.ext.trans k,fun i b=>⟨Ψ (h.k i b).1 k.size,(h.k i b).2⟩⟩
theorem LgF.disk(h:LgF w0 w g gl F v σ s xs sure K)(k:DkS w g F σ1 w1):LgF w0 w1 g gl (Gr F w w1) v σ1 s xs sure K/\Stay K w w1:=by
 have q:=k.off.size;refine⟨⟨k.dk,h.l.same fun i j=>k.off.block i (h.l.lt j) fun m=>h.ap i m j,?_,fun i j=>Gr.ge h.bF h.ext.size j,h.bG,k.off.ext h.ext h.bF,fun i j=>?_⟩,fun i j=>?_⟩
 ·rintro i (m|⟨h1,_⟩) o
  ·exact h.ap i m o
  ·have:=h.l.lt o;omega
 ·obtain⟨a,b,d⟩:=h.k i j
  exact⟨by omega,Gr.not b a,d⟩
 ·obtain⟨a,b,d⟩:=h.k i j
  exact k.off.block i a b
theorem LgF.log{B:Value}{q:List Int}{m:Int}(h:LgF w0 w g gl F v σ s xs sure K)(G:LogM w1 gl g s B q m)(off:OffS (q7r gl v) w w1)(y: ∀i,B.ownBlock=some i->v.ownBlock=some i\/w.heap.size<=i):
  LgF w0 w1 g gl F B σ s q m K/\Stay K w w1:=by
 have I:=off.size;have hF: ∀i,F i->w1.heap[i]? =w.heap[i]? :=fun i j=>off.block i (by obtain⟨_,_,_,_,_,_,h⟩:=h.d;exact h i j) (h.ap i j)
 have u: ∀i,F i->i<w.heap.size:=by obtain⟨_,_,_,_,_,_,h⟩:=h.d;exact h
 refine⟨⟨h.d.held I hF,G,fun i j o=>?_,h.bF,fun i j=>?_,off.ext h.ext h.bG,fun i j=>?_⟩,fun i j=>?_⟩
 ·rcases o with rfl|o
  ·exact h.ap _ j (.inl rfl)
  ·rcases y i o with h1|h1
   ·exact h.ap i j (.inr h1)
   ·have:=u i j;omega
 ·rcases j with rfl|o
  ·exact h.bG _ (.inl rfl)
  ·rcases y i o with h1|h1
   ·exact h.bG i (.inr h1)
   ·have:=h.ext.size;omega
 ·obtain⟨a,b,d⟩:=h.k i j
  refine⟨by omega,b,?_⟩;rintro(rfl|o)
  ·exact d (.inl rfl)
  ·rcases y i o with h1|h1
   ·exact d (.inr h1)
   ·omega
 ·obtain⟨a,b,d⟩:=h.k i j
  exact off.block i a d
theorem LgF.beside(h:LgF w0 w g gl F v σ s xs sure K)(k: ∀i,K' i->K i):LgF w0 w g gl F v σ s xs sure K':=
 ⟨h.d,h.l,h.ap,h.bF,h.bG,h.ext,fun i b=>h.k i (k i b)⟩
theorem LgK.grow(h:LgK E w0 w g gl c s C sure K)(k:Ext w w1):LgK E w0 w1 g gl c s C sure K:=by
 obtain⟨F,v,σ,h1,h2⟩:=h;exact⟨F,v,σ,h1.grow k,h2⟩
theorem LgK.kExt(h:LgK E w0 w g gl c s C sure K)(k:Ext w w1):Stay K w w1:=by
 obtain⟨F,v,σ,h1,h2⟩:=h;exact h1.kExt k
theorem LgK.more(h:LgK E w0 w g gl c s C sure K)(k:Ext w w1)(hK: ∀i,K' i->K i\/(w.heap.size<=i/\i<w1.heap.size)):LgK E w0 w1 g gl c s C sure K':=by
 obtain⟨F,v,σ,h1,h2⟩:=h;have h3:=h1.grow k;refine⟨F,v,σ,⟨h3.d,h3.l,h3.ap,h3.bF,h3.bG,h3.ext,fun i q=>?_⟩,h2⟩;have b: ∀i,F i->i<w.heap.size:=by obtain⟨_,_,_,_,_,_,h⟩:=h1.d;exact h
 rcases hK i q with h4|⟨h4,j⟩
 ·exact h3.k i h4
 ·refine⟨j,fun m=>?_,fun o=>?_⟩
  ·have:=b i m;omega
  ·have:=h1.l.lt o;omega
end
theorem z4y{f:FuncId}{args:Array Value}{w:World}{v:Value}(h:Calls Tryz.prog f args w fun e w'=>e= .returned v/\w=w'):Calls Tryz.prog f args w fun e w'=>e= .returned v/\Ext w w':=
 h.mono fun _ w' ⟨e,h⟩=>⟨e,h▸Ext.refl _⟩
theorem z7O{w:World}{gl g:Nat}{s sure:Int}{v:Value}{C:Cks}(h:LogM w gl g s v (q0O C) sure)(i:okC C):
  Calls Tryz.prog 140 #[.pointer (some ⟨gl,0,none⟩)] w fun e w'=>e= .returned (.int .i64 (q1u C))/\w=w':=by
 obtain⟨a,k,rfl,d⟩:=h.slice;have y:=h.c3;clear h;rcases List.eq_nil_or_concat C with rfl|⟨D,ps,rfl⟩
 ·clear d
  go_enter Tryz.func140,Tryz.ntmps140;have e0:(q0O []).length=0:=rfl;go_wp2_with fail;go_ret;exact⟨rfl,rfl⟩
 rw[List.concat_eq_append] at*;have o:(q0O (D++[ps])).length=D.length+1:=by simp[q0O]
 have m:D.length+1<=200:=by have:=i.few;simpa using this
 have B:q0I ps<=4096:=i.size ps (by simp);obtain⟨b,off,rfl,hc⟩:=d.at (j:=D.length) (by omega);have q:(q0O (D++[ps])).getD D.length 0=(q0I ps:Int):=q8g D ps;rw[q] at hc;rw[o] at y d;rw[q1J];clear d i o q;generalize D.length=n at*;obtain⟨z,u⟩: ∃z:Int,(q0I ps:Int)=z:=⟨_,rfl⟩
 have G:0<=z:=by omega
 have I:z<=4096:=by omega
 rw[u] at hc⊢;clear u B;go_enter Tryz.func140,Tryz.ntmps140;go_wp2_with fail;go_ret;exact⟨rn (by go_num),rfl⟩
section
variable {w0 w:World}{g gl:Nat}{F K:Nat->Prop}{v:Value}{σ:DM}{c s sure:Int}{xs:List Int}{C:Cks}
theorem z4x(h:LgF w0 w g gl F v σ s xs sure K)(j:q4J σ=c)(u:0<=c)(h1:c<=1048576)(n:Int)(y:0<=n)(B:n<=1048576):
  Calls Tryz.prog 207 #[.pointer (some ⟨gl,0,none⟩),.int .i64 n] w fun e w'=>e= .returned (.bool (decide (6000<=c-n)))/\Ext w w':=by
 have q:=h.l.c0;have b:=η (z7Z h.d);rw[j] at b;clear h j;go_enter Tryz.func207,Tryz.ntmps207;go_wp2_with fail;refine b.o.mono ?_;rintro e w1 ⟨rfl,i⟩;have m:=η i;clear i;go_wp2_with fail;go_ret;exact⟨rfl,m.o⟩
theorem z0n(h:LgF w0 w g gl F v σ s xs sure K)(b:σ.down=false)(q:σ.starts=s):
  Calls Tryz.prog 146 #[.pointer (some ⟨gl,0,none⟩)] w fun e w'=>e= .returned (.int .i64 0)/\Ext w w':=by
 have y:=h.l.c0;have B:=h.l.c1;have G:=h.l.c2;have I:=q0D y;have J:=q0D B;have M:=q0D G;have m:=η (fun x:ExtOf w=>z4y (y2l (h.d.ext x.h)));have j:=η (fun x:ExtOf w=>z4y (z0u (h.d.ext x.h)));rw[b] at m;rw[q] at j;clear h b q;go_enter Tryz.func146,Tryz.ntmps146;go_wp2_with fail;refine q0E (by kernel_rfl) (by kernel_rfl) ?_
 repeat (go_big_quiet_step (first|(go_at_call 76;exact Calls.quiet_ext (m.o _))|(go_at_call 138;exact Calls.quiet_ext (j.o _))))
 refine wpQuiet_nil ?_;intro w1 i;have u:=η i;clear i;go_wp2_with fail;go_ret;exact⟨rfl,u.o⟩
theorem y3i(h:LgF w0 w g gl F v σ s xs sure K):
  Calls Tryz.prog 162 #[.pointer (some ⟨gl,0,none⟩),.int .i64 0] w fun e w'=>e= .returned (.int .i64 0)/\LgF w0 w' g gl F v σ s xs sure K/\Stay K w w':=by
 have j:=h.l.c2;have m:=h.l.blk.free 2;have H:=η h
 have b:Hd (LgF w0 (w.setCell ⟨gl,2,none⟩ (.bool false)) g gl F v σ s xs sure K/\Stay K w (w.setCell ⟨gl,2,none⟩ (.bool false))):=η (by
  refine h.log ⟨h.l.blk.set 2 (.bool false),q0d h.l.row _ h.l.apart⟩ (OffS.set w (.inl rfl) 2 _) fun i d=> .inl d)
 clear h;go_enter Tryz.func162,Tryz.ntmps162;go_wp2_with fail;go_ret;exact⟨rfl,b.o⟩
end
section
variable {E :Oth}{w0 w:World}{g gl:Nat}{F K:Nat->Prop}{v:Value}{σ:DM}{c s sure:Int}{C:Cks}
theorem LgF.setSure{xs:List Int}{sure:Int}(h:LgF w0 w g gl F v σ s xs sure K)(z:Int):LgF w0 (w.setCell ⟨gl,4,none⟩ (.int .i64 z)) g gl F v σ s xs z K/\Stay K w (w.setCell ⟨gl,4,none⟩ (.int .i64 z)):=
 h.log ⟨h.l.blk.set 4 (.int .i64 z),q0d h.l.row _ h.l.apart⟩ (OffS.set w (.inl rfl) 4 _) fun i b=> .inl b
theorem z0E{C:Cks}(h:C≠[]): ∃D ps,C=D++[ps]:=by
 rcases List.eq_nil_or_concat C with h1|⟨D,ps,h1⟩
 ·exact absurd h1 h
 ·exact⟨D,ps,by rw[h1,List.concat_eq_append]⟩
theorem z0D(D:Cks)(ps:List (List UInt8)):(D++[ps])[D.length]? =some ps:=by simp
def q0Q(C:Cks)(sure:Int):Int:=if C=[] then sure else q1u C
theorem Lgd.allS{E:Oth}{σ:DM}{c s sure:Int}{C:Cks}(h:Lgd E σ c s C (q0Q C sure))(b:okD σ):AllS σ.L:=by
 unfold q0Q at h
 split at h
 ·rename_i e;subst e;exact h.sr.all0
 ·exact h.all b
theorem q8k{E:Oth}{σ:DM}{c s sure:Int}{C:Cks}(h:Lgd E σ c s C sure):q0Q C sure<=q1u C:=by
 unfold q0Q
 split
 ·exact h.le
 ·exact Int.le_refl _
def LgV(E:Oth)(w0 w:World)(g gl:Nat)(v:Value)(c s:Int)(C:Cks)(sure:Int)(K:Nat->Prop):Prop:= ∃F σ,LgF w0 w g gl F v σ s (q0O C) sure K/\Lgd E σ c s C sure
theorem LgV.toK(h:LgV E w0 w g gl v c s C sure K):LgK E w0 w g gl c s C sure K:=by obtain⟨F,σ,h1,h2⟩:=h;exact⟨F,v,σ,h1,h2⟩
theorem LgK.toV(h:LgK E w0 w g gl c s C sure K): ∃v,LgV E w0 w g gl v c s C sure K:=by obtain⟨F,v,σ,h1,h2⟩:=h;exact⟨v,F,σ,h1,h2⟩
theorem z4a(h:LgF w0 w g gl F v σ s (q0O C) sure K)(b:Lgd E σ c s C sure):
  Calls Tryz.prog 168 #[.pointer (some ⟨gl,0,none⟩)] w fun e w'=>e= .returned (.int .i64 0)/\LgV E w0 w' g gl v c s C (q0Q C sure) K/\Stay K w w':=by
 have c0:=h.l.c0;have c3:=h.l.c3;obtain⟨a,k,rfl,hx⟩:=h.l.slice;by_cases i:C=[]
 ·subst i
  have HK:Hd (LgV E w0 w g gl (.slice a (q0O []).length k) c s [] (q0Q [] sure) K):=η ⟨F,σ,h,b⟩;have e0:(q0O []).length=0:=rfl;clear h b hx;go_enter Tryz.func168,Tryz.ntmps168;go_wp2_with fail;go_ret;exact⟨rfl,HK.o,Stay.refl _ _⟩
 have Q:Hd (q0Q C sure=q1u C):=η (by unfold q0Q;rw[κ i]);have b0:1<=C.length:=by cases C with|nil=>exact absurd rfl i|cons=>simp
 obtain⟨D,ps,I⟩:=z0E i;have hn:(q0O C).length=C.length:=q0f C;have u:=b.ok.few;rw[hn] at c3;obtain⟨σ',hm,G⟩:=b.pl.sync (q3d b.oth u (by rw[I];exact z0D D ps));have B:AllS σ'.L:=z5C hm b.sr fun j hj=>by
  have:j=D.length:=by rw[I,θ,List.length_singleton] at hj;omega
  rw[this]
 have Z:=q2u (D.length:Int)
 have V:=η (fun (N:World) (k:Ext w N)=>show Calls Tryz.prog 228 #[.pointer (some ⟨g,0,none⟩),.string ⟨(q0B 99 (D.length:Int)).toArray⟩] N fun e w'=>e= .returned (.int .i64 0)/\DkS N g F σ' w' by
  have:=z2O (h.d.ext k) (q0B 99 (D.length:Int)) Z;rw[hm] at this
  exact this)
 have hM:IntKind.i64.wrap ((C.length:Int)-1)=(D.length:Int):=by
  have:C.length=D.length+1:=by rw[I];simp
  rw[ν];omega
 have q:=η (fun W=>q4B (D.length:Int) W);generalize q0B 99 (D.length:Int)=nm at*;obtain⟨M,y⟩: ∃M:Int,(D.length:Int)=M:=⟨_,rfl⟩
 rw[y] at hM q;have HH:=η h;have R:=η b;have HP:=η (And.intro G B);have X:=η (q8k b);clear B;have J:Ext w w.drew:=(Ext.refl w).drew;have HW:=η J;have d0:=q0A J c0;have d3:=q0A J c3;have a0:((C.length:Int)==0)=false:=by simpa using i
 clear h b G hm hx I y i hn J;go_enter Tryz.func168,Tryz.ntmps168;go_wp2_with fail
 go_region_held3 (fun W=>W.cell? ⟨gl,0,none⟩=some (.pointer (some ⟨g,0,none⟩))/\W.cell? ⟨gl,3,none⟩=some (.slice a C.length k))
  (first|exact U.o|exact S.o|exact⟨d0,d3⟩)
  (first
   |(go_at_call 161;refine(q.o _).mono ?_;rintro e N ⟨rfl,h1⟩;have O:=η (HW.o.trans h1);have S:=η (And.intro (q0A h1 d0) (q0A h1 d3));clear h1)
   |(go_at_call 228;refine(V.o _ O.o).mono ?_;rintro e wb ⟨rfl,h2⟩;have h3:=(HH.o.grow O.o).disk h2;have m:=η h3;have U:=η (And.intro h3.1.l.c0 (q0f C▸h3.1.l.c3));clear h2 h3))
 all_goals
  have HE:=η (z7O m.o.1.l R.o.ok);have e4:=m.o.1.l.c4;have z4:=m.o.1.l.blk.free 4;have h4:=m.o.1.setSure (q1u C);have HF:=η (show LgV E w0 (wb.setCell ⟨gl,4,none⟩ (.int .i64 (q1u C))) g gl _ c s C (q0Q C sure) K from⟨_,σ',by rw[Q.o];exact h4.1,⟨HP.o.1,R.o.ok,R.o.oth,HP.o.2.sur _ _,X.o⟩⟩);have Y:=η ((HH.o.kExt O.o).trans (m.o.2.trans h4.2));clear h4;go_wp2_with fail;refine HE.o.mono ?_;rintro e w' ⟨rfl,rfl⟩;go_wp2_with fail;go_ret;exact⟨rfl,HF.o,Y.o⟩
theorem y1r(h:LgF w0 w g gl F v σ s (q0O C) sure K)(b:Lgd E σ c s C sure):
  Calls Tryz.prog 168 #[.pointer (some ⟨gl,0,none⟩)] w fun e w'=>e= .returned (.int .i64 0)/\LgK E w0 w' g gl c s C (q0Q C sure) K/\Stay K w w':=
 (z4a h b).mono fun _ _ ⟨h1,h2,h3⟩=>⟨h1,h2.toK,h3⟩
end
section
variable {E :Oth}{w0 w:World}{g gl:Nat}{F K:Nat->Prop}{v:Value}{σ:DM}{c s sure:Int}{C:Cks}
theorem Lgd.free(h:Lgd E σ c s C k):q4J σ=c-(q0q C:Int):=by rw[h.pl.free,q7y];push_cast;omega
theorem Dk.okD{F:Nat->Prop}(h:Dk w g F σ):okD σ:=by obtain⟨h1,_⟩:=h;exact h1
theorem LgF.room0{xs:List Int}(h:LgF w0 w g gl F v σ s xs sure K)(i:Lgd E σ c s C k):0<=c-(q0q C:Int)/\c-(q0q C:Int)<=1048576:=by
 have b:=h.d.okD;have h1:=i.free;have h2:=b.used;have h3:=b.cap1;unfold q4J at h1;omega
theorem LgF.setRow{xs:List Int}(h:LgF w0 w g gl F v σ s xs sure K){b k:Nat}(o:v= .slice (some ⟨b,0,none⟩) xs.length k)(j:Nat)(z:Int):LgF w0 (w.setCell ⟨b,j,none⟩ (.int .i64 z)) g gl F v σ s (xs.set j z) sure K/\Stay K w (w.setCell ⟨b,j,none⟩ (.int .i64 z)):=by
 have m:v.ownBlock=some b:=by rw[o];rfl
 have d:¬gl=b:=fun e=>h.l.apart (by rw[m,e])
 refine h.log ⟨(OffS.set (F:=fun i=>i=b) w rfl j (.int .i64 z)).blk h.l.blk d,?_⟩ (OffS.set w (.inr m) j _) fun i q=> .inl q
 have:=z6E h.l.row o (j:=j) (.int .i64 z);rw[List.length_set,List.map_set];exact this
theorem LgF.last(h:LgF w0 w g gl F v σ s (q0O (D++[ps])) sure K):
  ∃b k,v= .slice (some ⟨b,0,none⟩) (D.length+1) k/\w.cell? ⟨b,D.length,none⟩=some (.int .i64 (q0I ps:Int))/\w.frozen? ⟨b,D.length,none⟩=false:=by
 have d:(q0O (D++[ps])).length=D.length+1:=by rw[q0f];simp
 obtain⟨b,k,h1,h2,h3,_⟩:=(Own.of_row h.l.row).cell (j:=D.length) (by rw[List.length_map,d];omega);have i:((q0O (D++[ps])).map (Value.int .i64))[D.length]'(by rw[List.length_map,d];omega)= .int .i64 (q0I ps:Int):=by
  rw[List.getElem_map]
  congr 1
  have:=q8g D ps;rw[δ,γ (by rw[d];omega)] at this;exact this
 rw[i] at h2;rw[d] at h1;exact⟨b,k,h1,h2,h3⟩
theorem z6f(h:LgF w0 w g gl F v σ s (q0O C) sure K)(b:Lgd E σ c s C sure)(n:Int)(R:List UInt8)(B:R.length<=2012)(y:c-(q0q C:Int)-(R.length:Int)<6000):
  Calls Tryz.prog 149 #[.pointer (some ⟨gl,0,none⟩),.int .i64 n,.string ⟨R.toArray⟩] w fun e w'=>e= .returned (.tuple #[.int .i64 0,.int .i64 60])/\Ext w w':=by
 obtain⟨m,q⟩:=h.room0 b;have d:=η (z4x h b.free m q (R.length:Int) (by omega) (by omega));have j:decide ((6000:Int)<=c-(q0q C:Int)-(R.length:Int))=false:=by simp;omega
 rw[j] at d;clear h b j m q y;go_enter Tryz.func149,Tryz.ntmps149;go_wp2_with fail;refine d.o.mono ?_;rintro e w1 ⟨rfl,i⟩;have u:=η i;clear i;go_wp2_with fail;go_ret2;exact⟨rfl,u.o⟩
theorem z9N(h:LgF w0 w g gl F v σ s (q0O (D++[ps])) sure K)(i:Lgd E σ c s (D++[ps]) sure)(hp:p.length<=2000)(hs:q0I ps+(p.length+12)<=4096)
  (hr:6000<=c-(q0q (D++[ps]):Int)-((p.length:Int)+12)):
  Calls Tryz.prog 149 #[.pointer (some ⟨gl,0,none⟩),.int .i64 (D.length:Int),.string ⟨(q2N p).toArray⟩] w fun e w'=>
   e= .returned (.tuple #[.int .i64 ((D.length:Int)*4096+(q0I ps:Int)),.int .i64 0])/\LgK E w0 w' g gl c s (D++[ps++[p]]) sure K/\Stay K w w':=by
 obtain⟨r0,r1⟩:=h.room0 i;have j:=i.ok.few;have q:D.length+1<=200:=by simpa using j
 have e0:=q0n p;have HR:=η (z4x h i.free r0 r1 ((q2N p).length:Int) (by omega) (by omega));have hd:decide ((6000:Int)<=c-(q0q (D++[ps]):Int)-((q2N p).length:Int))=true:=by simp;omega
 rw[hd] at HR;obtain⟨σ',hm,u⟩:=i.pl.append (t:=q2N p) (q3d i.oth j (z0D D ps)) (by rw[q7y];push_cast;omega);rw[z6k i.oth p (by omega)] at u;have m:=i.le;have f0:Sur σ'.L (D.length+1) sure:=z5K hm (by have:=i.sr;rwa [θ,List.length_singleton] at this) rfl fun f hf e=>by
  rw[i.lastLen h.d.okD hf e];rw[q1J] at m;exact m
 have HP:Hd (Lgd E σ' c s (D++[ps++[p]]) sure):=η ⟨u,i.ok.grow hp hs,i.oth,by rwa [θ,List.length_singleton],by rw[q1J] at m⊢;rw[q2W];omega⟩;clear m f0;have J:=q2u (D.length:Int)
 have S:=η (fun (O:World) (k:Ext w O)=>show Calls Tryz.prog 208 #[.pointer (some ⟨g,0,none⟩),.string ⟨(q0B 99 (D.length:Int)).toArray⟩,.string ⟨(q2N p).toArray⟩] O fun e w'=>e= .returned (.int .i64 0)/\DkS O g F σ' w' by
  have:=q6E (h.d.ext k) (q0B 99 (D.length:Int)) (q2N p) J (by omega);rw[hm] at this
  exact this)
 have V:=η (fun W=>q4B (D.length:Int) W);have c0:=h.l.c0;have y:=η c0;have HH:=η h
 have b0:Hd ((q0O (D++[ps])).set D.length ((q0I ps:Int)+((q2N p).length:Int))=q0O (D++[ps++[p]])):=η (by
  rw[<-z6G D ps (ps++[p]),q2W,q0n];congr 1)
 have B:=η (fun (W:World) (F':Nat->Prop) (τ:DM) (hW:LgF w0 W g gl F' v τ s (q0O (D++[ps])) sure K)=>hW.last);have M:(q0O (D++[ps])).length=D.length+1:=by rw[q0f];simp
 have Z:=η M;have z0:(0:Int)<=(q0I ps:Int):=by omega
 have z1:(q0I ps:Int)<=4096:=by omega
 have g0:(q2N p).length<=2012:=by omega
 have h0:D.length<=199:=by omega
 generalize q0B 99 (D.length:Int)=nm at*;generalize q2N p=R at*;generalize (q0I ps:Int)=z at*;generalize D.length=n at*;clear h i u hm hd r0 r1 hr hs e0 j q hp J M;go_enter Tryz.func149,Tryz.ntmps149;go_wp2_with fail;refine HR.o.mono ?_;rintro e w1 ⟨rfl,I⟩;have HB:=η I;have d0:=q0A I y.o;have G:=q0A (I.drew) y.o;have U:=η I.drew;clear I c0;go_wp2_with fail
 go_region_held3 (fun W=>W.cell? ⟨gl,0,none⟩=some (.pointer (some ⟨g,0,none⟩)))
  (first|exact Y.o|exact X.o|exact G)
  (first
   |(go_at_call 161;refine(V.o _).mono ?_;rintro e O ⟨rfl,h1⟩;have Q:=η (U.o.trans h1);have X:=η (q0A h1 G);clear h1)
   |(go_at_call 208;refine(S.o _ Q.o).mono ?_;rintro e wb ⟨rfl,h2⟩;have h3:=(HH.o.grow Q.o).disk h2;have N:=η h3;have Y:=η h3.1.l.c0;clear h2 h3))
 all_goals
  obtain⟨b,k,rfl,e2,z2⟩:=B.o _ _ _ N.o.1;have e3:=N.o.1.l.c3;have h4:=N.o.1.setRow (by rw[Z.o]) n (z+(R.length:Int));rw[b0.o] at h4;have HF:=η (show LgK E w0 (wb.setCell ⟨b,n,none⟩ (.int .i64 (z+(R.length:Int)))) g gl c s (D++[ps++[p]]) sure K from⟨_,_,σ',h4.1,HP.o⟩);have a0:=η ((HH.o.kExt Q.o).trans (N.o.2.trans h4.2));clear h4;go_wp2_with fail;go_ret2;exact⟨rfl,HF.o,a0.o⟩
end
def LgP(E:Oth)(w0 w:World)(g gl:Nat)(c s:Int)(l:List (List UInt8×List UInt8))(xs:List Int)(sure:Int)(Q:List FM->Prop)(K:Nat->Prop):Prop:= ∃F v σ,LgF w0 w g gl F v σ s xs sure K/\okOth E/\Pl σ (c+(q1b E:Int)) s l/\Q σ.L
theorem z1T{w w':World}{b:Nat}(h:w'.heap[b]? =w.heap[b]?)(o:Nat):w'.cell? ⟨b,o,none⟩=w.cell? ⟨b,o,none⟩:=by simp only[World.cell?,h]
theorem q0g{K:Nat->Prop}{w w':World}(h:Stay K w w'){b o:Nat}(hK:K b){u:Value}(hc:w.cell? ⟨b,o,none⟩=some u):w'.cell? ⟨b,o,none⟩=some u:=(z1T (h b hK) o).trans hc
section
variable {E :Oth}{w0 w:World}{g gl:Nat}{F K:Nat->Prop}{v:Value}{σ:DM}{c s sure:Int}{C:Cks}{xs:List Int}
theorem z9K(h:LgP E w0 w g gl c s (q2i E C) xs sure AllS K)(hC:C.length<200)(kl:K bl)(kn:K bn)(q:w.cell? ⟨bl,0,none⟩=some (.pointer (some ⟨gl,0,none⟩)))(u:w.cell? ⟨bn,0,none⟩=some (.int .i64 (C.length:Int))):
  Calls Tryz.prog 210 #[.pointer (some ⟨bl,0,none⟩),.pointer (some ⟨bn,0,none⟩)] w fun e w'=>e= .returned (.int .i64 0)/\LgP E w0 w' g gl c s (z5Y E C) xs sure AllS K/\Stay K w w':=by
 obtain⟨F,v,σ,h,j,Z,Y⟩:=h;have S:=h.l.c0;have B:q1t (q0B 99 (C.length:Int))=true:=by rw[q0R (by omega)];simp[q1t,q0b]
 obtain⟨σ',hm,i⟩:=Z.create (z6l j (by omega) (ι _) (by omega)) B (by rw[q7x];have:=j.few;omega);rw[z9O j (by omega)] at i;have m:=q9P hm Y;have y:=q2u (C.length:Int)
 have N:=η (fun (I:World) (k:Ext w I)=>show Calls Tryz.prog 211 #[.pointer (some ⟨g,0,none⟩),.string ⟨(q0B 99 (C.length:Int)).toArray⟩] I fun e w'=>e= .returned (.int .i64 0)/\DkS I g F σ' w' by
  have:=q7d (h.d.ext k) (q0B 99 (C.length:Int)) y;rw[hm] at this
  exact this)
 have M:=η (fun W=>q4B (C.length:Int) W);have HP:=η (And.intro j (And.intro i m));have R:=η h;have G:Ext w w.drew:=(Ext.refl w).drew;have HW:=η G;have U:=q0A G S;have V:=q0A G q;have X:=q0A G u;generalize q0B 99 (C.length:Int)=nm at*;generalize C.length=n at*;clear h Z i j hm B y G S q u Y m;go_enter Tryz.func210,Tryz.ntmps210;go_wp2_with fail
 go_region_held3 (fun W=>W.cell? ⟨gl,0,none⟩=some (.pointer (some ⟨g,0,none⟩))/\W.cell? ⟨bl,0,none⟩=some (.pointer (some ⟨gl,0,none⟩))/\W.cell? ⟨bn,0,none⟩=some (.int .i64 (n:Int)))
  (first|exact O.o|exact b.o|exact⟨U,V,X⟩)
  (first
   |(go_at_call 161;refine(M.o _).mono ?_;rintro e I ⟨rfl,h1⟩;have J:=η (HW.o.trans h1);have b:=η (And.intro (q0A h1 U) (And.intro (q0A h1 V) (q0A h1 X)));clear h1)
   |(go_at_call 211;refine(N.o _ J.o).mono ?_;rintro e wb ⟨rfl,h2⟩;have h3:=(R.o.grow J.o).disk h2;have Q:=η h3;have O:=η (And.intro h3.1.l.c0 (And.intro (q0g h3.2 kl b.o.2.1) (q0g h3.2 kn b.o.2.2)));clear h2 h3))
 all_goals
  go_wp2_with fail;go_ret;exact⟨rfl,⟨_,_,σ',Q.o.1,HP.o⟩,(R.o.kExt J.o).trans Q.o.2⟩
theorem z9L(h:LgP E w0 w g gl c s (z5Y E C) xs sure AllS K)(hC:C.length<200)(hp:p.length<=2000)(hr:(p.length:Int)+24<=c-(q0q C:Int))(kl:K bl)(kn:K bn)(kr:K br)
  (B:w.cell? ⟨bl,0,none⟩=some (.pointer (some ⟨gl,0,none⟩)))(G:w.cell? ⟨bn,0,none⟩=some (.int .i64 (C.length:Int)))(I:w.cell? ⟨br,0,none⟩=some (.string ⟨(q2N p).toArray⟩)):
  Calls Tryz.prog 212 #[.pointer (some ⟨bl,0,none⟩),.pointer (some ⟨bn,0,none⟩),.pointer (some ⟨br,0,none⟩)] w fun e w'=>e= .returned (.int .i64 0)/\LgP E w0 w' g gl c s (q2i E (C++[[p]])) xs sure (fun L=>Sur L (C.length+1) ((C.length:Int)*4096)) K/\Stay K w w':=by
 obtain⟨F,v,σ,h,N,M,hQ⟩:=h;have c0:=h.l.c0;have hf:q0F Prod.fst (q0B 99 (C.length:Int)) (z5Y E C)=some (q0B 99 (C.length:Int),[]):=by
  exact z6n N (by omega)
 have y:=q0n p;have q:=q1f C.length
 obtain⟨σ',hm,j⟩:=M.append (t:=q1e C.length++q2N p) hf (by
  rw[z6o,θ,y,q]
  push_cast
  omega)
 rw[z5V N p (by omega)] at j;have u:=z5J hm hQ rfl;have J:=q2u (C.length:Int)
 have S:=η (fun (O:World) (k:Ext w O)=>show Calls Tryz.prog 208 #[.pointer (some ⟨g,0,none⟩),.string ⟨(q0B 99 (C.length:Int)).toArray⟩,.string (⟨(q1e C.length).toArray⟩++⟨(q2N p).toArray⟩)] O fun e w'=>e= .returned (.int .i64 0)/\DkS O g F σ' w' by
  have:=q6E (h.d.ext k) (q0B 99 (C.length:Int)) (q1e C.length++q2N p) J (by rw[θ];omega);rw[hm] at this;rw[q3c]
  exact this)
 have U:=η (fun W=>q4B (C.length:Int) W);have V:=η (fun W=>q9z C.length W hC);have HP:=η (And.intro N (And.intro j u));have Z:=η h;have m:Ext w w.drew:=(Ext.refl w).drew;have HW:=η m;have d0:=q0A m c0;have d1:=q0A m B;have d2:=q0A m G;have d3:=q0A m I;have a0:¬(9223372036854775807<(q1e C.length).length+(q2N p).length):=by omega
 clear h M N j hm hf J m c0 B G I y q hr hp hQ u;generalize q2N p=R at*;generalize q1e C.length=Hd at*;generalize q0B 99 (C.length:Int)=nm at*;generalize C.length=n at*;go_enter Tryz.func212,Tryz.ntmps212;go_wp2_with fail
 go_region_held3 (fun W=>W.cell? ⟨gl,0,none⟩=some (.pointer (some ⟨g,0,none⟩))/\W.cell? ⟨bl,0,none⟩=some (.pointer (some ⟨gl,0,none⟩))/\W.cell? ⟨bn,0,none⟩=some (.int .i64 (n:Int))/\W.cell? ⟨br,0,none⟩=some (.string ⟨R.toArray⟩))
  (first|exact X.o|exact i.o|exact b.o|exact⟨d0,d1,d2,d3⟩)
  (first
   |(go_at_call 161;refine(U.o _).mono ?_;rintro e O ⟨rfl,h1⟩;have H1:=η (HW.o.trans h1);have b:=η (And.intro (q0A h1 d0) (And.intro (q0A h1 d1) (And.intro (q0A h1 d2) (q0A h1 d3))));clear h1)
   |(go_at_call 213;refine(V.o _).mono ?_;rintro e wc ⟨rfl,h1⟩;have Q:=η (H1.o.trans h1);have i:=η (And.intro (q0A h1 b.o.1) (And.intro (q0A h1 b.o.2.1) (And.intro (q0A h1 b.o.2.2.1) (q0A h1 b.o.2.2.2))));clear h1)
   |(go_at_call 208;refine(S.o _ Q.o).mono ?_;rintro e wb ⟨rfl,h2⟩;have h3:=(Z.o.grow Q.o).disk h2;have Y:=η h3;have X:=η (And.intro h3.1.l.c0 (And.intro (q0g h3.2 kl i.o.2.1) (And.intro (q0g h3.2 kn i.o.2.2.1) (q0g h3.2 kr i.o.2.2.2))));clear h2 h3))
 all_goals
  go_wp2_with fail;go_ret;exact⟨rfl,⟨_,_,σ',Y.o.1,HP.o⟩,(Z.o.kExt Q.o).trans Y.o.2⟩
end
section
variable {E :Oth}{w0 w:World}{g gl:Nat}{F K:Nat->Prop}{v:Value}{σ:DM}{c s sure:Int}{C:Cks}{xs:List Int}
theorem LgK.toP(h:LgK E w0 w g gl c s C (q0Q C sure) K):LgP E w0 w g gl c s (q2i E C) (q0O C) (q0Q C sure) AllS K:=by
 obtain⟨F,v,σ,h1,h2⟩:=h;exact⟨F,v,σ,h1,h2.oth,h2.pl,h2.allS h1.d.okD⟩
theorem LgK.le(h:LgK E w0 w g gl c s C sure K):okC C/\sure<=q1u C:=by
 obtain⟨F,v,σ,h1,h2⟩:=h;exact⟨h2.ok,h2.le⟩
theorem LgP.grow{l:List (List UInt8×List UInt8)}{Q:List FM->Prop}(h:LgP E w0 w g gl c s l xs sure Q K){w1:World}(k:Ext w w1):LgP E w0 w1 g gl c s l xs sure Q K:=by
 obtain⟨F,v,σ,h1,h2⟩:=h;exact⟨F,v,σ,h1.grow k,h2⟩
def z3t(E:Oth)(w0:World)(g gl:Nat)(c s:Int)(C:Cks)(p:List UInt8)(sure:Int)(K:Nat->Prop):Nat->World->Prop
 |0,W=>LgK E w0 W g gl c s C sure K
 |1,W=>LgP E w0 W g gl c s (q2i E C) (q0O C) (q0Q C sure) AllS K
 |2,W=>LgP E w0 W g gl c s (z5Y E C) (q0O C) (q0Q C sure) AllS K
 |_,W=>LgP E w0 W g gl c s (q2i E (C++[[p]])) (q0O C) (q0Q C sure) (fun L=>Sur L (C.length+1) ((C.length:Int)*4096)) K
theorem y2t(h:LgK E w0 w g gl c s C sure K)(Z:C.length<200)(hp:p.length<=2000)(hr:(p.length:Int)+24<=c-(q0q C:Int)){b:Nat}(S:K b)(kl:K bl)(kn:K bn)(X:K br)
  (I:w.cell? ⟨b,0,none⟩=some (.func (.func 168) #[.pointer (some ⟨gl,0,none⟩)] #[]))
  (J:w.cell? ⟨b,1,none⟩=some (.func (.func 210) #[] #[.pointer (some ⟨bl,0,none⟩),.pointer (some ⟨bn,0,none⟩)]))
  (M:w.cell? ⟨b,2,none⟩=some (.func (.func 212) #[] #[.pointer (some ⟨bl,0,none⟩),.pointer (some ⟨bn,0,none⟩),.pointer (some ⟨br,0,none⟩)]))
  (N:w.cell? ⟨bl,0,none⟩=some (.pointer (some ⟨gl,0,none⟩)))(O:w.cell? ⟨bn,0,none⟩=some (.int .i64 (C.length:Int)))(Q:w.cell? ⟨br,0,none⟩=some (.string ⟨(q2N p).toArray⟩)):
  Calls Tryz.prog 209 #[.slice (some ⟨b,0,none⟩) 3 3] w fun e w'=>e= .returned (.int .i64 0)/\LgP E w0 w' g gl c s (q2i E (C++[[p]])) (q0O C) (q0Q C sure) (fun L=>Sur L (C.length+1) ((C.length:Int)*4096)) K/\Stay K w w':=by
 have H:=η h;have HB:=η (show∀W,Stay K w W->W.cell? ⟨b,0,none⟩=_/\W.cell? ⟨b,1,none⟩=_/\W.cell? ⟨b,2,none⟩=_ from fun W k=>⟨q0g k S I,q0g k S J,q0g k S M⟩);have HL:=η (show∀W,Stay K w W->W.cell? ⟨bl,0,none⟩=_/\W.cell? ⟨bn,0,none⟩=_/\W.cell? ⟨br,0,none⟩=_ from fun W k=>⟨q0g k kl N,q0g k kn O,q0g k X Q⟩);have y:=η kl;have B:=η kn;have U:=η X;have Y:=η Z;have V:=η hp;have HR:=η hr;clear h S kl kn X I J M N O Q Z hp hr;go_enter Tryz.func209,Tryz.ntmps209;go_wp2_with fail
 go_loopw [8] (fun i W=> ∃k:Nat,k<=3/\i= .int .i64 (k:Int)/\z3t E w0 g gl c s C p sure K k W/\Stay K w W) (fun i _=>3-(intOf i).toNat)
 case atStart=>exact⟨0,by omega,rfl,H.o,Stay.refl _ _⟩
 case round=>
  obtain⟨k,hk,rfl,hs,m⟩:=hrel;have R:=η hs;have j:=η m;obtain⟨q0,q1,q2⟩:=HB.o wr m;have d:=η (HL.o wr m);clear hs m;obtain rfl|rfl|rfl|rfl:k=0\/k=1\/k=2\/k=3:=by omega
  ·have G:Hd (Calls Tryz.prog 168 #[.pointer (some ⟨gl,0,none⟩)] wr fun e w'=>e= .returned (.int .i64 0)/\LgK E w0 w' g gl c s C (q0Q C sure) K/\Stay K wr w'):=η (by
    obtain⟨F,v,σ,h1,h2⟩:=R.o
    exact y1r h1 h2)
   go_wp2_with fail;refine G.o.mono ?_;rintro e w1 ⟨rfl,h1,h2⟩;have q:=η (show z3t E w0 g gl c s C p sure K 1 w1 from h1.toP);have u:=η (j.o.trans h2);clear h1 h2;go_wp2_with fail
   go_roundw
   case rel=>exact⟨1,by omega,by go_num,q.o,u.o⟩
   case measure=>simp[intOf]
  ·have G:=η (z9K R.o Y.o y.o B.o d.o.1 d.o.2.1)
   go_wp2_with fail;refine G.o.mono ?_;rintro e w1 ⟨rfl,h1,h2⟩;have q:=η (show z3t E w0 g gl c s C p sure K 2 w1 from h1);have u:=η (j.o.trans h2);clear h1 h2;go_wp2_with fail
   go_roundw
   case rel=>exact⟨2,by omega,by go_num,q.o,u.o⟩
   case measure=>simp[intOf]
  ·have G:=η (z9L R.o Y.o V.o HR.o y.o B.o U.o d.o.1 d.o.2.1 d.o.2.2)
   go_wp2_with fail;refine G.o.mono ?_;rintro e w1 ⟨rfl,h1,h2⟩;have q:=η (show z3t E w0 g gl c s C p sure K 3 w1 from h1);have u:=η (j.o.trans h2);clear h1 h2;go_wp2_with fail
   go_roundw
   case rel=>exact⟨3,by omega,by go_num,q.o,u.o⟩
   case measure=>simp[intOf]
  ·go_wp2_with fail
   go_ret;exact⟨rfl,R.o,j.o⟩
end
theorem z9w{s:List UInt8}(h:a+q4M s a+12<=s.length):q5d ((s.drop a).take (q4M s a+12)) 0=(q5d s a).map fun r=>(r.1,r.2-a):=by
 obtain⟨n,i⟩: ∃n,q4M s a=n:=⟨_,rfl⟩
 rw[i] at h⊢;have j:((s.drop a).take (n+12)).take 4=(s.drop a).take 4:=by rw[List.take_take,Nat.min_eq_left (by omega)]
 have d:((s.drop a).take (n+12)).length=n+12:=by simp;omega
 have b:q4M ((s.drop a).take (n+12)) 0=n:=by
  unfold q4M;rw[List.drop_zero,j,<-i];first|done|rfl
 have q:isR ((s.drop a).take (n+12)) 0=isR s a:=by
  unfold isR;rw[b,d,i,List.drop_zero,j];have m:((s.drop a).take (n+12)).take (n+8)=(s.drop a).take (n+8):=by rw[List.take_take,Nat.min_eq_left (by omega)]
  have o:(((s.drop a).take (n+12)).drop (0+n+8)).take 4=(s.drop (a+n+8)).take 4:=by
   rw[List.drop_take,List.drop_drop,List.take_take]
   congr 1
   ·omega
   ·congr 1;omega
  rw[m,o,ζ (p:=0+12<=n+12) (by omega),ζ (p:=0+n+12<=n+12) (by omega),ζ (p:=a+12<=s.length) (by omega),ζ (p:=a+n+12<=s.length) h]
 unfold q5d;rw[q,b,i]
 split
 ·simp only[Option.map_some]
  congr 2
  ·rw[List.drop_take,List.drop_drop,List.take_take]
   congr 1
   ·omega
  ·omega
 ·rfl
section
variable {E :Oth}{w0 w:World}{g gl:Nat}{F K:Nat->Prop}{v:Value}{σ:DM}{c s sure:Int}{C:Cks}{xs:List Int}{l:List (List UInt8×List UInt8)}{nm:List UInt8}{x:List UInt8×List UInt8}
theorem z1Z(h:LgF w0 w g gl F v σ s xs sure K)(i:Pl σ c s l)(o:q0F Prod.fst nm l=some x)(b:nm.length<=9223372036854775807)(a n:Int)(m:0<=a)(u:0<=n)(q:a+n<=(x.2.length:Int))(G:(x.2.length:Int)<=1048576):
  Calls Tryz.prog 160 #[.pointer (some ⟨g,0,none⟩),.string ⟨nm.toArray⟩,.int .i64 a,.int .i64 n] w fun e w'=>
   e= .returned (.tuple #[.string ⟨((x.2.drop a.toNat).take n.toNat).toArray⟩,.int .i64 0])/\(∃j σ',LgF w0 w' g gl j v σ' s xs sure K/\Pl σ' c s l/\σ'.L=σ.L)/\Stay K w w':=by
 have h1:=z4o h.d nm a n b (by omega) (by omega) (by omega) (by omega);rw[i.read o a n m u q] at h1;refine h1.mono ?_;rintro e w' ⟨rfl,k⟩;obtain⟨y,B⟩:=h.disk k;exact⟨rfl,⟨_,_,y,i.tell,rfl⟩,B⟩
theorem q6k(h:LgF w0 w g gl F v σ s xs sure K)(b:Lgd E σ c s C sure)(o:q0F Prod.fst nm (q2i E C)=some x)(j:nm.length<=9223372036854775807)(a n:Int)(m:0<=a)(q:0<=n)(i:a+n<=(x.2.length:Int))(u:(x.2.length:Int)<=1048576):
  Calls Tryz.prog 160 #[.pointer (some ⟨g,0,none⟩),.string ⟨nm.toArray⟩,.int .i64 a,.int .i64 n] w fun e w'=>
   e= .returned (.tuple #[.string ⟨((x.2.drop a.toNat).take n.toNat).toArray⟩,.int .i64 0])/\(∃d σ',LgF w0 w' g gl d v σ' s xs sure K/\Lgd E σ' c s C sure)/\Stay K w w':=by
 refine(z1Z h b.pl o j a n m q i u).mono ?_;rintro e w' ⟨rfl,⟨d,σ',h1,h2,h3⟩,h4⟩;exact⟨rfl,⟨d,σ',h1,h2,b.ok,b.oth,by rw[h3];exact b.sr,b.le⟩,h4⟩
theorem LgF.cellAt(h:LgF w0 w g gl F v σ s (q0O C) sure K)(i:C[n]? =some ps):
  ∃b k,v= .slice (some ⟨b,0,none⟩) C.length k/\w.cell? ⟨b,n,none⟩=some (.int .i64 (q0I ps:Int))/\w.frozen? ⟨b,n,none⟩=false:=by
 have d:(q0O C).length=C.length:=q0f C;have o:n<C.length:=(List.getElem?_eq_some_iff.1 i).1;obtain⟨b,k,h1,h2,h3,_⟩:=(Own.of_row h.l.row).cell (j:=n) (by rw[List.length_map,d];omega);have m:((q0O C).map (Value.int .i64))[n]'(by rw[List.length_map,d];omega)= .int .i64 (q0I ps:Int):=by
  rw[List.getElem_map]
  congr 1
  have:=z3e C n i;rw[δ,γ (by rw[d];omega)] at this;exact this
 rw[m] at h2;rw[d] at h1;exact⟨b,k,h1,h2,h3⟩
theorem z8T(h:pos<0):q6X C pos=([],4):=by unfold q6X;rw[ξ h]
theorem z4n(d:pos=(n:Int)*4096+(a:Int))(i:a<4096):q6X C pos=match C[n]? with
  |none=>([],4)
  | some ps=>match (if 12<=a then q5d (q0N n ps) a else none) with
   |none=>([],4)
   |some (p,_)=>(p,0):=by
 have h1:(pos/4096).toNat=n:=by omega
 have h2:(pos % 4096).toNat=a:=by omega
 unfold q6X;rw[κ (by omega),h1,h2]
 cases C[n]? with
 |none=>rfl
 | some ps=>
  by_cases b:12<=a
  ·simp only[ξ b,ξ (show 12<=pos % 4096 by omega)]
   cases q5d (q0N n ps) a with
   |none=>rfl
   |some r=>rfl
  ·simp only[κ b,κ (show ¬12<=pos % 4096 by omega)]
def ReadR(E:Oth)(w0 w:World)(g gl:Nat)(c s:Int)(C:Cks)(sure:Int)(K:Nat->Prop)(r:List UInt8×Int)(e:Ending)(w':World):Prop:=
 e= .returned (.tuple #[.string ⟨r.1.toArray⟩,.int .i64 r.2])/\LgK E w0 w' g gl c s C sure K/\Stay K w w'
theorem ReadR.no{w':World}{r:List UInt8×Int}(h:LgK E w0 w g gl c s C sure K)(k:Ext w w')(b:r=([],4)):ReadR E w0 w g gl c s C sure K r (.returned (.tuple #[.string ⟨#[]⟩,.int .i64 4])) w':=by
 subst b;exact⟨rfl,h.grow k,h.kExt k⟩
theorem y3q(h:LgK E w0 w g gl c s C sure K)(pos:Int)(p0: -9223372036854775808<=pos)(p1:pos<=9223372036854775807):
  Calls Tryz.prog 181 #[.pointer (some ⟨gl,0,none⟩),.int .i64 pos] w (ReadR E w0 w g gl c s C sure K (q6X C pos)):=by
 have HK:=η h;obtain⟨F,v,σ,h1,h2⟩:=h;have Q:=η (z0n h1 h2.pl.up h2.pl.st);by_cases m0:pos<0
 ·have HA:=η (z8T (C:=C) m0)
  have hd:decide (pos<0)=true:=by simpa using m0
  clear h1 h2;go_enter Tryz.func181,Tryz.ntmps181;go_wp2_with fail;refine Q.o.mono ?_;rintro e w1 ⟨rfl,d⟩;have V:=η d;clear d;go_wp2_with fail;go_ret2;exact ReadR.no HK.o V.o HA.o
 obtain⟨n,hn⟩: ∃n:Nat,pos/4096=(n:Int):=⟨(pos/4096).toNat,by omega⟩
 obtain⟨a,ha⟩: ∃a:Nat,pos % 4096=(a:Int):=⟨(pos % 4096).toNat,by omega⟩
 have s0:pos=(n:Int)*4096+(a:Int):=by omega
 have E0:a<4096:=by omega
 have P0:(n:Int)<=2251799813685248:=by omega
 have hq:pos.tdiv 4096=(n:Int):=by rw[Int.tdiv_eq_ediv_of_nonneg (by omega)];exact hn
 have hm:pos.tmod 4096=(a:Int):=by rw[Int.tmod_eq_emod_of_nonneg (by omega)];exact ha
 have f0:=η (z4n (C:=C) s0 E0);have Q0:decide (pos<0)=false:=by simpa using m0
 have J0:=q0f C;obtain⟨sa,sk,C0⟩:=q0H h1.l.row;rw[J0] at C0;subst C0;have I:=h1.l.c3;have O:=η I;clear s0;by_cases I0:C.length<=n
 ·have HA:Hd (q6X C pos=([],4)):=η (by rw[f0.o,List.getElem?_eq_none I0])
  have hd:decide ((C.length:Int)<=(n:Int))=true:=by simp;omega
  have hx:=O.o;clear h1 h2 I;go_enter Tryz.func181,Tryz.ntmps181;go_wp2_with fail;refine Q.o.mono ?_;rintro e w1 ⟨rfl,d⟩;have V:=η d;have I:=q0A d O.o;clear d;go_wp2_with fail;go_ret2;exact ReadR.no HK.o V.o HA.o
 have B0:n<C.length:=by omega
 obtain⟨ps,M⟩: ∃ps,C[n]? =some ps:=⟨C[n],γ B0⟩
 have H0:n<200:=by have:=h2.ok.few;omega
 obtain⟨b,T0,hv,g0,_⟩:=h1.cellAt M
 cases hv;have S0:q0I ps<=4096:=h2.ok.size ps (List.mem_of_getElem? M);have y:=q0a n ps;have u:=q3d h2.oth h2.ok.few M;rw[M] at f0;have O0:decide ((C.length:Int)<=(n:Int))=false:=by simp;omega
 have e0:=η g0;obtain⟨z,hz⟩: ∃z:Int,(q0I ps:Int)=z:=⟨_,rfl⟩
 rw[hz] at e0;have z0:0<=z:=by omega
 have z1:z<=4096:=by omega
 have a0:(0:Int)<=(a:Int):=by omega
 have a1:(a:Int)<=4095:=by omega
 by_cases h0:a<12\/q0I ps<a+12
 ·have HA:Hd (q6X C pos=([],4)):=η (by
   rw[f0.o];rcases h0 with h|h
   ·simp only[κ (show ¬12<=a by omega)]
   ·by_cases Z:12<=a
    ·simp only[ξ Z,z0X (q0N n ps) a (by omega)]
    ·simp only[κ Z])
  by_cases Z:a<12
  ·have y0:decide ((a:Int)<12)=true:=by simp;omega
   clear h1 h2 I g0 u y M h0 hz;go_enter Tryz.func181,Tryz.ntmps181;go_wp2_with fail;refine Q.o.mono ?_;rintro e w1 ⟨rfl,d⟩;have V:=η d;have I:=q0A d O.o;clear d;go_wp2_with fail;go_ret2;exact ReadR.no HK.o V.o HA.o
  ·have y0:decide ((a:Int)<12)=false:=by simp;omega
   have F0:decide (z-12<(a:Int))=true:=by simp;omega
   clear h1 h2 I g0 u y M h0 hz;go_enter Tryz.func181,Tryz.ntmps181;go_wp2_with fail;refine Q.o.mono ?_;rintro e w1 ⟨rfl,d⟩;have V:=η d;have I:=q0A d O.o;have cz:=q0A d e0.o;clear d;go_wp2_with fail;go_ret2;exact ReadR.no HK.o V.o HA.o
 have Z:12<=a:=by omega
 have R0:a+12<=q0I ps:=by omega
 have y0:decide ((a:Int)<12)=false:=by simp;omega
 have F0:decide (z-12<(a:Int))=false:=by simp;omega
 obtain⟨S,hS⟩: ∃S,q0N n ps=S:=⟨_,rfl⟩
 rw[hS] at y u;obtain⟨N,b0⟩: ∃N,q4M S a=N:=⟨_,rfl⟩
 have U:q1W (((S.drop a).take 4).take 8)=N:=by rw[Δ (by simp;omega),<-b0];rfl
 have L0:N<4294967296:=by
  rw[<-U];have:=q2R (((S.drop a).take 4).take 8);have h4:(((S.drop a).take 4).take 8).length=4:=by simp;omega
  rw[h4] at this;exact this
 have n0:=q2u (n:Int);have q0:=η (fun W=>q4B (n:Int) W);have k0:=η (fun (W:World) (k:Ext w W)=>q6k (h1.grow k) h2 u n0 (a:Int) 4 a0 (by decide) (by rw[y];omega) (by rw[y];omega));have HG:=η (fun W=>z0S ((S.drop a).take 4) W (by simp;omega));rw[U] at HG;have e4:(4:Int).toNat=4:=rfl;simp only[Int.toNat_natCast,e4] at k0;have HH:=η h1;have HL:=η h2;have M0:a+12<=S.length:=by omega
 have HZ:=η hz;have x0:=η y;have o0:=η h1.l.c0;have d0:Hd (∀(W:World) (F':Nat->Prop) (τ:DM),LgF w0 W g gl F' (.slice (some ⟨b,0,none⟩) C.length sk) τ s (q0O C) sure K->W.cell? ⟨gl,0,none⟩=some (.pointer (some ⟨g,0,none⟩))/\W.cell? ⟨gl,3,none⟩=some (.slice (some ⟨b,0,none⟩) C.length sk)/\W.cell? ⟨b,n,none⟩=some (.int .i64 z)):=η fun W F' τ hW=>by
  obtain⟨b2,k2,e1,e2,_⟩:=hW.cellAt M
  cases e1;rw[hz] at e2;exact⟨hW.l.c0,hW.l.c3,e2⟩
 by_cases R:2000<N\/S.length<a+N+12
 ·have HA:Hd (q6X C pos=([],4)):=η (by
   rw[f0.o];have:q5d S a=none:=by
    unfold q5d isR;rw[b0];rcases R with h|h
    ·rw[ε (p:=N<=2000) (by omega)];simp
    ·rw[ε (p:=a+N+12<=S.length) (by omega)];simp
   simp only[ξ Z,hS,this])
  clear h1 h2 I g0 u y M h0 hz b0 U hS n0;by_cases i:2000<N
  ·have A0:decide ((2000:Int)<(N:Int))=true:=by simp;omega
   clear R;go_enter Tryz.func181,Tryz.ntmps181;go_wp2_with fail;refine Q.o.mono ?_;rintro e w1 ⟨rfl,d⟩;have V:=η d;have I:=q0A d O.o;have cz:=q0A d e0.o;clear d;go_wp2_with fail;refine(q0.o _).mono ?_;rintro e wa ⟨rfl,d⟩;have G:=η (V.o.trans d);clear d I cz;have c0:=q0A G.o o0.o;go_wp2_with fail;refine(k0.o _ G.o).mono ?_;rintro e wb ⟨rfl,⟨F',σ',j,i⟩,m⟩;have B:=η j;have X:=η i;have Y:=η ((HK.o.kExt G.o).trans m);clear j i m c0;go_wp2_with fail;refine(HG.o _).mono ?_;rintro e wc ⟨rfl,d⟩;have J:=η d;obtain⟨c0,I,cz⟩:=d0.o _ _ _ (B.o.grow d);clear d;go_wp2_with fail;go_ret2;exact⟨by rw[HA.o];rfl,⟨_,_,σ',B.o.grow J.o,X.o⟩,Y.o.trans (B.o.kExt J.o)⟩
  ·have A0:decide ((2000:Int)<(N:Int))=false:=by simp;omega
   have G0:decide (z-12-(a:Int)<(N:Int))=true:=by have:=HZ.o;have:=x0.o;simp;omega
   clear R;go_enter Tryz.func181,Tryz.ntmps181;go_wp2_with fail;refine Q.o.mono ?_;rintro e w1 ⟨rfl,d⟩;have V:=η d;have I:=q0A d O.o;have cz:=q0A d e0.o;clear d;go_wp2_with fail;refine(q0.o _).mono ?_;rintro e wa ⟨rfl,d⟩;have G:=η (V.o.trans d);clear d I cz;have c0:=q0A G.o o0.o;go_wp2_with fail;refine(k0.o _ G.o).mono ?_;rintro e wb ⟨rfl,⟨F',σ',j,i⟩,m⟩;have B:=η j;have X:=η i;have Y:=η ((HK.o.kExt G.o).trans m);clear j i m c0;go_wp2_with fail;refine(HG.o _).mono ?_;rintro e wc ⟨rfl,d⟩;have J:=η d;obtain⟨c0,I,cz⟩:=d0.o _ _ _ (B.o.grow d);clear d;go_wp2_with fail;go_ret2;exact⟨by rw[HA.o];rfl,⟨_,_,σ',B.o.grow J.o,X.o⟩,Y.o.trans (B.o.kExt J.o)⟩
 have A0:decide ((2000:Int)<(N:Int))=false:=by simp;omega
 have G0:decide (z-12-(a:Int)<(N:Int))=false:=by simp;omega
 have K0:(N:Int)<=2000:=by omega
 have D0:((N:Int)+12).toNat=N+12:=by omega
 have r0:=η (fun (W:World) (F':Nat->Prop) (τ:DM) (hW:LgF w0 W g gl F' (.slice (some ⟨b,0,none⟩) C.length sk) τ s (q0O C) sure K) (hp:Lgd E τ c s C sure)=>q6k hW hp u n0 (a:Int) ((N:Int)+12) a0 (by omega) (by rw[y];omega) (by rw[y];omega));simp only[Int.toNat_natCast,D0] at r0;obtain⟨T,hT⟩: ∃T,(S.drop a).take (N+12)=T:=⟨_,rfl⟩
 have N0:T.length=N+12:=by rw[<-hT];simp;omega
 rw[hT] at r0;have j0:=η (fun W=>z0U T 0 W (by omega) (by omega));have hcut:q5d T 0=(q5d S a).map fun r=>(r.1,r.2-a):=by
  have:=z9w (s:=S) (a:=a) (by rw[b0];omega);rw[b0,hT] at this;exact this
 rw[Int.natCast_zero] at j0
 cases hg:q5d S a with
 | none=>
  have HA:Hd (q6X C pos=([],4)):=η (by rw[f0.o];simp only[ξ Z,hS,hg]);have l0:z1n T 0= .tuple #[.string ⟨#[]⟩,.int .i64 0,.bool false]:=by unfold z1n;rw[hcut,hg];rfl
  rw[l0] at j0;clear h1 h2 I g0 u y M h0 hz b0 U hS n0 R hT hcut hg l0;go_enter Tryz.func181,Tryz.ntmps181;go_wp2_with fail;refine Q.o.mono ?_;rintro e w1 ⟨rfl,d⟩;have V:=η d;have I:=q0A d O.o;have cz:=q0A d e0.o;clear d;go_wp2_with fail;refine(q0.o _).mono ?_;rintro e wa ⟨rfl,d⟩;have G:=η (V.o.trans d);clear d I cz;have c0:=q0A G.o o0.o;go_wp2_with fail;refine(k0.o _ G.o).mono ?_;rintro e wb ⟨rfl,⟨F',σ',j,i⟩,m⟩;have B:=η j;have X:=η i;have Y:=η ((HK.o.kExt G.o).trans m);clear j i m c0;go_wp2_with fail;refine(HG.o _).mono ?_;rintro e wc ⟨rfl,d⟩;have J:=η d;obtain⟨c0,I,cz⟩:=d0.o _ _ _ (B.o.grow d);clear d;go_wp2_with fail;refine(r0.o _ _ _ (B.o.grow J.o) X.o).mono ?_;rintro e wd ⟨rfl,⟨F2,v0,j,i⟩,m⟩;have i0:=η j;have t0:=η i;have u0:=η ((Y.o.trans (B.o.kExt J.o)).trans m);clear j i m c0 I cz;go_wp2_with fail;refine(j0.o _).mono ?_;rintro e we ⟨rfl,d⟩;have HE:=η d;clear d;go_wp2_with fail;go_ret2;exact⟨by rw[HA.o];rfl,⟨_,_,v0,i0.o.grow HE.o,t0.o⟩,u0.o.trans (i0.o.kExt HE.o)⟩
 | some r=>
  obtain⟨q,e⟩:=r;have HA:Hd (q6X C pos=(q,0)):=η (by rw[f0.o];simp only[ξ Z,hS,hg]);have l0:z1n T 0= .tuple #[.string ⟨q.toArray⟩,.int .i64 ((e-a:Nat):Int),.bool true]:=by unfold z1n;rw[hcut,hg];rfl
  rw[l0] at j0;generalize ((e-a:Nat):Int)=ea at*;clear h1 h2 I g0 u y M h0 hz b0 U hS n0 R hT hcut hg l0;go_enter Tryz.func181,Tryz.ntmps181;go_wp2_with fail;refine Q.o.mono ?_;rintro e w1 ⟨rfl,d⟩;have V:=η d;have I:=q0A d O.o;have cz:=q0A d e0.o;clear d;go_wp2_with fail;refine(q0.o _).mono ?_;rintro e wa ⟨rfl,d⟩;have G:=η (V.o.trans d);clear d I cz;have c0:=q0A G.o o0.o;go_wp2_with fail;refine(k0.o _ G.o).mono ?_;rintro e wb ⟨rfl,⟨F',σ',j,i⟩,m⟩;have B:=η j;have X:=η i;have Y:=η ((HK.o.kExt G.o).trans m);clear j i m c0;go_wp2_with fail;refine(HG.o _).mono ?_;rintro e wc ⟨rfl,d⟩;have J:=η d;obtain⟨c0,I,cz⟩:=d0.o _ _ _ (B.o.grow d);clear d;go_wp2_with fail;refine(r0.o _ _ _ (B.o.grow J.o) X.o).mono ?_;rintro e wd ⟨rfl,⟨F2,v0,j,i⟩,m⟩;have i0:=η j;have t0:=η i;have u0:=η ((Y.o.trans (B.o.kExt J.o)).trans m);clear j i m c0 I cz;go_wp2_with fail;refine(j0.o _).mono ?_;rintro e we ⟨rfl,d⟩;have HE:=η d;clear d;go_wp2_with fail;go_ret2;exact⟨by rw[HA.o];rfl,⟨_,_,v0,i0.o.grow HE.o,t0.o⟩,u0.o.trans (i0.o.kExt HE.o)⟩
end
section
variable {E :Oth}{w0 w:World}{g gl:Nat}{F K:Nat->Prop}{v:Value}{σ:DM}{c s sure:Int}{C:Cks}{xs:List Int}
theorem LgF.push{y w':World}(h:LgF w0 w3 g gl F v σ s xs sure K)(u:Ext w3 y){z:Int}{d:Value}(m:w'.ownsRow 0 3 1 d (xs.length+1) (xs.map (Value.int .i64)++[.int .i64 z]))(b:y.grownBy w' v.ownBlock)
  (j:d.ownBlock=v.ownBlock\/d.ownBlock=some y.heap.size):
  LgF w0 (w'.setCell ⟨gl,3,none⟩ d) g gl F d σ s (xs++[z]) sure K/\Stay K w3 (w'.setCell ⟨gl,3,none⟩ d):=by
 have G:=h.l.blk.lt;have I:=u.size;have q:d.ownBlock≠some gl:=fun e=>by
  rcases j with h1|h1
  ·exact h.l.apart (h1.symm.trans e)
  ·rw[h1] at e;cases e;omega
 have B:Blk w' gl 226 #[.pointer (some ⟨g,0,none⟩),.int .i64 s,.bool false,v,.int .i64 sure]:=(h.l.blk.ext u).same (b.block gl (by omega) fun e=>h.l.apart e.symm);refine h.log ⟨B.set 3 d,?_⟩ (((OffS.of_ext u).trans (OffS.grown b fun i e=> .inr e)).trans (OffS.set w' (.inl rfl) 3 d)) fun i o=>?_
 ·rw[θ,List.map_append]
  exact q0d m d q
 ·rcases j with h1|h1
  ·exact .inl (h1.symm.trans o)
  ·right;rw[h1] at o;cases o;exact I
theorem LgF.pushed{m w':World}(h:LgF w0 w3 g gl F v σ s xs sure K)(d:Ext w3 m)(b:m.grownBy w' v.ownBlock):Stay K w3 w'/\w'.cell? ⟨gl,3,none⟩=some v/\w'.frozen? ⟨gl,3,none⟩=false:=by
 have q:=h.l.blk.lt;have u:=d.size;have j:Blk w' gl 226 #[.pointer (some ⟨g,0,none⟩),.int .i64 s,.bool false,v,.int .i64 sure]:=(h.l.blk.ext d).same (b.block gl (by omega) fun e=>h.l.apart e.symm);refine⟨fun i o=>?_,j.cell 3,j.free 3⟩;obtain⟨h1,_,h2⟩:=h.k i o;exact(b.block i (by omega) fun e=>h2 (.inr e.symm)).trans (d.block i h1)
theorem z9M(h:LgF w0 w g gl F v σ s (q0O C) sure K)(d:Lgd E σ c s C sure)(R:List UInt8)(I:R.length<=2012)(y:200<=C.length\/c-(q0q C:Int)-((R.length:Int)+12)<6000):
  Calls Tryz.prog 150 #[.pointer (some ⟨gl,0,none⟩),.int .i64 (C.length:Int),.string ⟨R.toArray⟩] w fun e w'=>e= .returned (.tuple #[.int .i64 0,.int .i64 60])/\Ext w w':=by
 obtain⟨j,m⟩:=h.room0 d;have q:=d.ok.few;have i:=η (fun (W:World) (k:Ext w W)=>z4x (h.grow k) d.free j m (12+(R.length:Int)) (by omega) (by omega));by_cases J:200<=C.length
 ·have G:decide ((200:Int)<=(C.length:Int))=true:=by simp;omega
  clear h d i j m y;go_enter Tryz.func150,Tryz.ntmps150;go_wp2_with fail;go_ret2;exact⟨rfl,q8M w _ _ _⟩
 ·have G:decide ((200:Int)<=(C.length:Int))=false:=by simp;omega
  have b:decide ((6000:Int)<=c-(q0q C:Int)-(12+(R.length:Int)))=false:=by simp;omega
  rw[b] at i;clear h d j m y b;go_enter Tryz.func150,Tryz.ntmps150;go_wp2_with fail;refine(i.o _ (q8M w _ _ _)).mono ?_;rintro e w1 ⟨rfl,u⟩;have B:=η ((q8M w _ _ _).trans u);clear u;go_wp2_with fail;go_ret2;exact⟨rfl,B.o⟩
theorem y1O(h:LgF w0 w g gl F v σ s (q0O C) sure K)(hl:Lgd E σ c s C sure)(hp:p.length<=2000)(hn:C.length<200)(y0: ∀ps∈C,ps≠[])(hr:6000<=c-(q0q C:Int)-((p.length:Int)+24)):
  Calls Tryz.prog 150 #[.pointer (some ⟨gl,0,none⟩),.int .i64 (C.length:Int),.string ⟨(q2N p).toArray⟩] w fun e w'=>
   e= .returned (.tuple #[.int .i64 ((C.length:Int)*4096+12),.int .i64 0])/\LgK E w0 w' g gl c s (C++[[p]]) (q0Q C sure) K/\Stay K w w':=by
 obtain⟨r0,r1⟩:=h.room0 hl;have p0:=q0n p;have HR:=η (fun (W:World) (k:Ext w W)=>z4x (h.grow k) hl.free r0 r1 (12+((q2N p).length:Int)) (by omega) (by omega));have hd:decide ((200:Int)<=(C.length:Int))=false:=by simp;omega
 have x0:decide ((6000:Int)<=c-(q0q C:Int)-(12+((q2N p).length:Int)))=true:=by simp;omega
 rw[x0] at HR;obtain⟨W0,y⟩: ∃W0,((w.alloc (.cells #[.pointer (some ⟨gl,0,none⟩)] 128)).alloc (.cells #[.int .i64 (C.length:Int)] 3)).alloc (.cells #[.string ⟨(q2N p).toArray⟩] 9)=W0:=⟨_,rfl⟩
 have c0:Hd (Ext w W0):=η (by rw[<-y];exact q8M w _ _ _);have J:Hd (∀W,Ext W0 W->W.cell? ⟨w.heap.size,0,none⟩=some (.pointer (some ⟨gl,0,none⟩))/\W.cell? ⟨w.heap.size+1,0,none⟩=some (.int .i64 (C.length:Int))/\W.cell? ⟨w.heap.size+1+1,0,none⟩=some (.string ⟨(q2N p).toArray⟩)):=η fun W hW=>by
  rw[<-y] at hW;have b1:=(((Blk.new w 128 #[.pointer (some ⟨gl,0,none⟩)]).ext (q1x _ (.cells #[.int .i64 (C.length:Int)] 3) (.cells #[.string ⟨(q2N p).toArray⟩] 9))).ext hW).cell 0;have b2:=(((Blk.new (w.alloc (.cells #[.pointer (some ⟨gl,0,none⟩)] 128)) 3 #[.int .i64 (C.length:Int)]).ext (q0C _ (.cells #[.string ⟨(q2N p).toArray⟩] 9))).ext hW).cell 0;have b3:=((Blk.new ((w.alloc (.cells #[.pointer (some ⟨gl,0,none⟩)] 128)).alloc (.cells #[.int .i64 (C.length:Int)] 3)) 9 #[.string ⟨(q2N p).toArray⟩]).ext hW).cell 0;rw[ρ] at b2;rw[ρ,ρ] at b3;exact⟨b1,b2,b3⟩
 have N0:Hd (W0.heap.size=w.heap.size+1+1+1):=η (by rw[<-y];simp);have HK:=η (show LgK E w0 w g gl c s C sure K from⟨F,v,σ,h,hl⟩);have I0:=η y0
 have i0:Hd (q0Q C sure<=(C.length:Int)*4096/\q0Q C sure<=q1u (C++[[p]])):=η (by
  have h1:=q8k hl;have h2:=z3A hl.ok;rw[q1J]
  omega)
 clear y0;have h0:=η hp;have g0:=η hn;have H0:=η hr;have l0:=η p0;have T0: ∀(fn:Fn) (first cap:Array Value) (w:World),(Instr.makeFunc fn first cap).run Tryz.prog w= .ok (.func fn first cap) w:=fun _ _ _ _=>rfl
 have s0:(q2N p).length<=2012:=by omega
 clear h hl r0 r1 hr x0 hp p0;obtain⟨R,hR⟩: ∃R,q2N p=R:=⟨_,rfl⟩
 rw[hR] at HR y J l0 s0⊢;have k0:=η hR;clear hR;go_enter Tryz.func150,Tryz.ntmps150;obtain⟨a0,a1,a2⟩:=J.o W0 (Ext.refl _);go_wp2_with fail
 try rw[y]
 clear y a0 a1 a2;refine(HR.o _ c0.o).mono ?_;rintro e w1 ⟨rfl,hb⟩;obtain⟨q0,q1,q2⟩:=J.o _ hb;have HB:=η hb;clear hb;go_wp2_with fail
 obtain⟨cs, G⟩: ∃cs:Array Value,#[Value.func (Fn.func 168) #[Value.pointer (some ⟨gl,0,none⟩)] #[],Value.func (Fn.func 210) #[] #[Value.pointer (some ⟨w.heap.size,0,none⟩),Value.pointer (some ⟨w.heap.size+1,0,none⟩)],
       Value.func (Fn.func 212) #[] #[Value.pointer (some ⟨w.heap.size,0,none⟩),Value.pointer (some ⟨w.heap.size+1,0,none⟩),Value.pointer (some ⟨w.heap.size+1+1,0,none⟩)]]=cs:=⟨_,rfl⟩
 rw[G];obtain⟨Q,B⟩: ∃Q,w1.alloc (.cells cs 90)=Q:=⟨_,rfl⟩
 have Y:Ext w1 Q:=by rw[<-B];exact q0C _ _
 have Q0:Q.heap.size=w1.heap.size+1:=by rw[<-B];simp
 have C0:=HB.o.size;rw[N0.o] at C0;have N:Blk Q w1.heap.size 90 cs:=by rw[<-B];exact Blk.new _ _ _
 rw[B];have d0:=η ((c0.o.trans HB.o).trans Y);have hK':=HK.o.more (K':=fun i=>K i\/(w.heap.size<=i/\i<Q.heap.size)) d0.o (fun i X=>X);have O0:=η (HK.o.kExt d0.o);obtain⟨r0,r1,r2⟩:=J.o _ (HB.o.trans Y);rw[<-k0.o] at r2;have t0:=y2t hK' g0.o h0.o (by have:=H0.o;omega) (b:=w1.heap.size) (bl:=w.heap.size) (bn:=w.heap.size+1) (br:=w.heap.size+1+1) (.inr ⟨by omega,by omega⟩) (.inr ⟨by omega,by omega⟩) (.inr ⟨by omega,by omega⟩) (.inr ⟨by omega,by omega⟩)
  (by rw[N.cell 0,<-G];rfl) (by rw[N.cell 1,<-G];rfl) (by rw[N.cell 2,<-G];rfl) r0 r1 r2
 have q:Hd (w.heap.size<Q.heap.size/\w.heap.size+1+1<Q.heap.size):=η ⟨by omega,by omega⟩;have V:=r2;rw[k0.o] at V;have M0:=η V;have K0:=η r0;have L0:=η r1;clear G B N Y Q0 C0 r0 r1 r2 hK' q0 q1 q2 V;refine t0.mono ?_;rintro e w3 ⟨rfl,h3,d⟩;clear t0;obtain⟨F3,v3,S0,h3,o0,A0,B0⟩:=h3;have e0:=q0g d (.inr ⟨ι _,q.o.1⟩) K0.o;have e2:=q0g d (.inr ⟨by omega,q.o.2⟩) M0.o;have e1:=η (q0g d (.inr ⟨by omega,by have:=q.o.2;omega⟩) L0.o);have m:=h3.l.row;obtain⟨a,k,rfl⟩:=q0H m;have e3:=h3.l.c3;have z3:=h3.l.blk.free 3;have b0:=q0f C;rw[b0] at m e3 h3;have R0:IntKind.i64.wrap (12+(R.length:Int))=(q0I [p]:Int):=by
  rw[q5H,<-l0.o,ν];omega
 obtain⟨z,hz⟩: ∃z:Int,(q0I [p]:Int)=z:=⟨_,rfl⟩
 rw[hz] at R0;obtain⟨wl,D0⟩: ∃wl,(w3.alloc (.cells #[.int .i64 z] 3)).drew=wl:=⟨_,rfl⟩
 have u:Hd (Ext w3 wl):=η (by rw[<-D0];exact(q0C w3 _).drew);have j0:Hd (Rd wl (some ⟨w3.heap.size,0,none⟩) [.int .i64 z]):=η (by rw[<-D0];exact Rd.lit w3 #[.int .i64 z] 3);have m0:Hd (wl.ownsRow 0 3 1 (.slice a C.length k) C.length ((q0O C).map (Value.int .i64))):=η (q0J m u.o);have HZ:=η hz;have H3:=η h3;have S:=η (And.intro o0 (And.intro A0 B0));have n0:=η d;have F0:=η b0;have P0:=g0.o;have f0:=q0A u.o e0;have f2:=q0A u.o e2;have f3:=q0A u.o e3;clear hz h3 o0 A0 B0 d b0 m hd;generalize z0:C.length=n at*;have HN:=η z0;clear z0
 have U:Hd (∀(w':World) (M:Option Addr) (k':Nat),w'.ownsRow 0 3 1 (.slice M (n+1) k') (n+1) ((q0O C).map (Value.int .i64)++[.int .i64 z])->wl.grownBy w' (Value.slice a n k).ownBlock->((Value.slice M (n+1) k').ownBlock=(Value.slice a n k).ownBlock\/(Value.slice M (n+1) k').ownBlock=some wl.heap.size)->
   LgK E w0 (w'.setCell ⟨gl,3,none⟩ (.slice M (n+1) k')) g gl c s (C++[[p]]) (q0Q C sure) K/\Stay K w (w'.setCell ⟨gl,3,none⟩ (.slice M (n+1) k'))/\(w'.setCell ⟨gl,3,none⟩ (.slice M (n+1) k')).cell? ⟨w.heap.size+1,0,none⟩=some (.int .i64 (n:Int))):=η fun w' M k' h1 h2 h3=>by
  have hp:=H3.o.push u.o (by rw[F0.o];exact h1) h2 h3;refine⟨⟨F3,.slice M (n+1) k',S0,?_,⟨S.o.2.1,HK.o.le.1.more h0.o (by rw[HN.o];exact P0) I0.o,S.o.1,by rw[θ,List.length_singleton,HN.o];exact Sur.less S.o.2.2 i0.o.1,i0.o.2⟩⟩,O0.o.trans (Stay.trans (K:=K) (fun i X=>n0.o i (.inl X)) fun i X=>hp.2 i (.inl X)),q0g hp.2 (.inr ⟨by omega,by have:=q.o.2;omega⟩) e1.o⟩;rw[q2E,HZ.o];exact hp.1.beside fun i X=> .inl X
 go_wp2_with fail
 go_region_law
  (refine q2F rfl (.tmp 33) (.tmp 37) 37 rfl 0 3 _ 1 8 Tryz.underlying37 Tryz.infoI (by decide) (by decide) (.slice a n k) n ((q0O C).map (Value.int .i64)) rfl m0.o (some ⟨w3.heap.size,0,none⟩) 1 1 [.int .i64 z] rfl rfl (fun h=>by cases h) j0.o (by simp[Value.oneCell']) (by unfold maxLen;omega) (by omega) (υ _) ?_;intro v' w' I j v0;have J0:=η I;have G0:=η j;have E0:=η v0;obtain⟨q1,q2,q3⟩:=H3.o.pushed u.o j;have u0:=q0g q1 (.inr ⟨ι _,q.o.1⟩) e0;have u2:=q0g q1 (.inr ⟨by omega,q.o.2⟩) e2;obtain⟨M,k',rfl⟩:=q0H I;clear I j v0 q1)
 all_goals
  have Z:=U.o _ _ _ J0.o G0.o E0.o;have O:=η Z;have u1:=Z.2.2;clear Z;go_wp2_with fail;go_ret2;exact⟨by rw[HN.o];rfl,O.o.1,O.o.2.1⟩
end
section
variable {E :Oth}{w0 w:World}{g gl:Nat}{F K:Nat->Prop}{v:Value}{σ:DM}{c s sure:Int}{C:Cks}{xs:List Int}
def AppR(E:Oth)(w0 w:World)(g gl:Nat)(c s:Int)(C:Cks)(sure:Int)(K:Nat->Prop)(p:List UInt8)(e:Ending)(w':World):Prop:=
 e= .returned (.tuple #[.int .i64 (q1O (c-(q0q C:Int)) C p).1,.int .i64 (q1O (c-(q0q C:Int)) C p).2.1])/\
 LgK E w0 w' g gl c s (q1O (c-(q0q C:Int)) C p).2.2 (q4T (c-(q0q C:Int)) sure C p) K/\Stay K w w'
theorem AppR.same{w':World}{r:Int}(h:LgK E w0 w g gl c s C sure K)(k:Ext w w')(d:q1O (c-(q0q C:Int)) C p=(0,r,C))(b:r≠0):AppR E w0 w g gl c s C sure K p (.returned (.tuple #[.int .i64 0,.int .i64 r])) w':=by
 unfold AppR q4T;rw[d,κ (fun h=>b h.1)];exact⟨rfl,h.grow k,h.kExt k⟩
theorem AppR.pre{w1 w':World}{e:Ending}(h:LgK E w0 w g gl c s C sure K)(k:Ext w w1)(h1:AppR E w0 w1 g gl c s C sure K p e w'):AppR E w0 w g gl c s C sure K p e w':=
 ⟨h1.1,h1.2.1,(h.kExt k).trans h1.2.2⟩
theorem z1N(h:2000<p.length):q1O fr C p=(0,3,C):=by unfold q1O;rw[ξ h]
theorem q6C(h:p.length<=2000)(b:q4a C p=true)(d:fr-((p.length:Int)+12)<6000):q1O fr C p=(0,60,C):=by
 unfold q1O;rw[κ (by omega),ξ b,ξ d]
theorem q7u(h:p.length<=2000)(b:q4a (D++[ps]) p=true)(d:6000<=fr-((p.length:Int)+12)):q1O fr (D++[ps]) p=((D.length:Int)*4096+(q0I ps:Int),0,D++[ps++[p]]):=by
 unfold q1O;rw[κ (by omega),ξ b,κ (by omega),q1J];simp
theorem q6D(h:p.length<=2000)(b:q4a C p=false)(d:200<=C.length\/fr-((p.length:Int)+24)<6000):q1O fr C p=(0,60,C):=by
 unfold q1O;rw[κ (by omega),κ (by rw[b];decide),ξ d]
theorem q7t(h:p.length<=2000)(b:q4a C p=false)(d:¬(200<=C.length\/fr-((p.length:Int)+24)<6000)):q1O fr C p=((C.length:Int)*4096+12,0,C++[[p]]):=by
 unfold q1O;rw[κ (by omega),κ (by rw[b];decide),κ d]
theorem q9U(D:Cks)(ps:List (List UInt8))(p:List UInt8):q4a (D++[ps]) p=decide (q0I ps+(p.length+12)<=4096):=by unfold q4a;simp
theorem y2w(h:LgK E w0 w g gl c s C sure K)(m:p.length<=2000)(d:q4a C p=false):
  Calls Tryz.prog 150 #[.pointer (some ⟨gl,0,none⟩),.int .i64 (C.length:Int),.string ⟨(q2N p).toArray⟩] w (AppR E w0 w g gl c s C sure K p):=by
 obtain⟨F,v,σ,h1,h2⟩:=h;by_cases u:200<=C.length\/c-(q0q C:Int)-((p.length:Int)+24)<6000
 ·refine(z9M h1 h2 (q2N p) (by rw[q0n];omega) (by rw[q0n];omega)).mono ?_
  rintro e w' ⟨rfl,k⟩;exact AppR.same ⟨F,v,σ,h1,h2⟩ k (q6D m d u) (by decide)
 ·refine(y1O h1 h2 m (by omega) (fun ps b e=>?_) (by omega)).mono ?_
  ·subst e
   rcases List.eq_nil_or_concat C with i|⟨D,G,i⟩
   ·rw[i] at b;cases b
   ·rw [List.concat_eq_append] at i
    subst i;rcases List.mem_append.1 b with h3|h3
    ·exact h2.ok.full [] (by simpa using h3) rfl
    ·have h4:=List.mem_singleton.1 h3
     subst h4;unfold q4a at d;simp[q0I] at d;omega
  rintro e w' ⟨rfl,y,B⟩;have q:=q7t m d u;have o:q4T (c-(q0q C:Int)) sure C p=q0Q C sure:=by
   unfold q4T q0Q;rw[q];by_cases j:C=[]
   ·rw[ξ j,κ (fun h=>h.2.2 j)]
   ·rw[κ j,ξ ⟨rfl,d,j⟩]
  unfold AppR;rw[o,q];exact⟨rfl,y,B⟩
theorem y1P(h:LgK E w0 w g gl c s (D++[ps]) sure K)(d:p.length<=2000)(b:q4a (D++[ps]) p=true):
  Calls Tryz.prog 149 #[.pointer (some ⟨gl,0,none⟩),.int .i64 (D.length:Int),.string ⟨(q2N p).toArray⟩] w (AppR E w0 w g gl c s (D++[ps]) sure K p):=by
 obtain⟨F,v,σ,h1,h2⟩:=h;by_cases j:c-(q0q (D++[ps]):Int)-((p.length:Int)+12)<6000
 ·refine(z6f h1 h2 (D.length:Int) (q2N p) (by rw[q0n];omega) (by rw[q0n];omega)).mono ?_
  rintro e w' ⟨rfl,k⟩;exact AppR.same ⟨F,v,σ,h1,h2⟩ k (q6C d b j) (by decide)
 ·have m:q0I ps+(p.length+12)<=4096:=by rw[q9U] at b;exact of_decide_eq_true b
  refine(z9N h1 h2 d m (by omega)).mono ?_;rintro e w' ⟨rfl,o,q⟩;have i:=q7u (fr:=c-(q0q (D++[ps]):Int)) d b (by omega);unfold AppR q4T;rw[i,κ (fun h=>by rw[b] at h;exact absurd h.2.1 (by decide))];exact⟨rfl,o,q⟩
theorem z9I(h:LgK E w0 w g gl c s C sure K)(p:List UInt8)(b0:p.length<=9223372036854775807):
  Calls Tryz.prog 88 #[.pointer (some ⟨gl,0,none⟩),.string ⟨p.toArray⟩] w (AppR E w0 w g gl c s C sure K p):=by
 have HK:=η h;obtain⟨F,v,σ,h1,h2⟩:=h;have G:=η (z0n h1 h2.pl.up h2.pl.st);by_cases hp:2000<p.length
 ·have q:=η (fun W=>z8O p W hp b0)
  have HA:=η (z1N (C:=C) (fr:=c-(q0q C:Int)) hp);clear h1 h2 hp;go_enter Tryz.func88,Tryz.ntmps88;go_wp2_with fail;refine G.o.mono ?_;rintro e w1 ⟨rfl,i⟩;have O:=η i;clear i;go_wp2_with fail;refine(q.o _).mono ?_;rintro e w2 ⟨rfl,rfl⟩;go_wp2_with fail;go_ret2;exact AppR.same HK.o O.o HA.o (by decide)
 have I:p.length<=2000:=by omega
 have q:=η (fun W=>y0V p W I);have J:=h2.ok.few;have m:=η (fun (W:World) (k:Ext w W) (y:q4a C p=false)=>(y2w (HK.o.grow k) I y).mono fun e w' h=>AppR.pre HK.o k h);by_cases hC:C=[]
 ·subst hC
  have j:=η (fun (W:World) (k:Ext w W)=>m.o W k rfl);have Y:=h1.l.c3;obtain⟨a,k,rfl⟩:=q0H h1.l.row;have e0:(q0O ([]:Cks)).length=0:=rfl;have B:=η Y;clear m h1 h2 hp Y;generalize U:q2N p=R at*;clear U;unfold AppR at j⊢;generalize (q1O (c-(q0q []:Int)) [] p)=X at*;go_enter Tryz.func88,Tryz.ntmps88;go_wp2_with fail;refine G.o.mono ?_;rintro e w1 ⟨rfl,i⟩;have O:=η i;clear i;go_wp2_with fail;refine(q.o _).mono ?_;rintro e w2 ⟨rfl,i⟩;have d:=η (O.o.trans i);clear i;have Y:=q0A d.o B.o;rw[e0] at Y;go_wp2_with fail;refine(j.o _ d.o).mono ?_;rintro e w3 ⟨rfl,h3⟩;have Z:=η h3;clear h3;go_wp2_with fail;go_ret2;exact⟨rfl,Z.o⟩
 obtain⟨D,ps,rfl⟩:=z0E hC;clear hC;obtain⟨b,k,rfl,V,_⟩:=h1.last;have c0:q0I ps<=4096:=h2.ok.size ps (by simp);have S:D.length+1<=200:=by simpa using J
 obtain⟨z,hz⟩: ∃z:Int,(q0I ps:Int)=z:=⟨_,rfl⟩
 rw[hz] at V;have z0:0<=z:=by omega
 have z1:z<=4096:=by omega
 have B:=η h1.l.c3;have a0:=η V;have HF:=η (fun W=>y3E z p W z0 z1 I);have M:decide ((p.length:Int)+12<=4096-z)=q4a (D++[ps]) p:=by rw[q9U,decide_eq_decide];omega
 rw[M] at HF;have Q:=η (fun (W:World) (k:Ext w W) (y:q4a (D++[ps]) p=true)=>(y1P (HK.o.grow k) I y).mono fun e w' h=>AppR.pre HK.o k h);have N:(D++[ps]).length=D.length+1:=by simp
 rw[N] at m;have d0:(D.length:Int)<=199:=by omega
 have u:(((D.length+1:Nat)):Int)=(D.length:Int)+1:=by omega
 rw[u] at m;generalize U:q2N p=R at*;clear U h1 h2 hp hz c0 M V J S N u;generalize (q1O (c-(q0q (D++[ps]):Int)) (D++[ps]) p)=X at*
 cases y:q4a (D++[ps]) p with
 | true=>
  rw[y] at HF;have j:=η (fun (W:World) (k:Ext w W)=>Q.o W k y);clear m Q y;unfold AppR at j⊢;go_enter Tryz.func88,Tryz.ntmps88;go_wp2_with fail;refine G.o.mono ?_;rintro e w1 ⟨rfl,i⟩;have O:=η i;clear i;go_wp2_with fail;refine(q.o _).mono ?_;rintro e w2 ⟨rfl,i⟩;have d:=η (O.o.trans i);clear i;have Y:=q0A d.o B.o;have cz:=q0A d.o a0.o;go_wp2_with fail;refine(HF.o _).mono ?_;rintro e w3 ⟨rfl,rfl⟩;go_wp2_with fail;refine(j.o _ d.o).mono ?_;rintro e w3 ⟨rfl,h3⟩;have Z:=η h3;clear h3;go_wp2_with fail;go_ret2;exact⟨rfl,Z.o⟩
 | false=>
  rw[y] at HF;have j:=η (fun (W:World) (k:Ext w W)=>m.o W k y);clear m Q y;unfold AppR at j⊢;go_enter Tryz.func88,Tryz.ntmps88;go_wp2_with fail;refine G.o.mono ?_;rintro e w1 ⟨rfl,i⟩;have O:=η i;clear i;go_wp2_with fail;refine(q.o _).mono ?_;rintro e w2 ⟨rfl,i⟩;have d:=η (O.o.trans i);clear i;have Y:=q0A d.o B.o;have cz:=q0A d.o a0.o;go_wp2_with fail;refine(HF.o _).mono ?_;rintro e w3 ⟨rfl,rfl⟩;go_wp2_with fail;refine(j.o _ d.o).mono ?_;rintro e w3 ⟨rfl,h3⟩;have Z:=η h3;clear h3;go_wp2_with fail;go_ret2;exact⟨rfl,Z.o⟩
theorem z4R(h:LgV E w0 w g gl v c s C sure K):
  Calls Tryz.prog 105 #[.pointer (some ⟨gl,0,none⟩)] w fun e w'=>e= .returned (.int .i64 0)/\LgV E w0 w' g gl v c s C (q0Q C sure) K/\Stay K w w':=by
 have M:=η h.toK;obtain⟨F,σ,h1,h2⟩:=h;have b:=η (z0n h1 h2.pl.up h2.pl.st);have O:=η (fun (W:World) (k:Ext w W)=>z4a (h1.grow k) h2);clear h1 h2;go_enter Tryz.func105,Tryz.ntmps105;go_wp2_with fail;refine b.o.mono ?_;rintro e w1 ⟨rfl,y⟩;have i:=η y;clear y;go_wp2_with fail;refine(O.o _ i.o).mono ?_;rintro e w2 ⟨rfl,h3,h4⟩;have B:=η ((M.o.kExt i.o).trans h4);obtain⟨Q,d,j,m⟩:=h3;have G:=η m;have N:=η (y3i j);clear h4 j m;go_wp2_with fail;refine N.o.mono ?_;rintro e w3 ⟨rfl,q,u⟩;have I:=η q;have J:=η u;clear q u;go_wp2_with fail;go_ret;exact⟨rfl,⟨_,d,I.o,G.o⟩,B.o.trans J.o⟩
theorem y1d(h:LgK E w0 w g gl c s C sure K):
  Calls Tryz.prog 105 #[.pointer (some ⟨gl,0,none⟩)] w fun e w'=>e= .returned (.int .i64 0)/\LgK E w0 w' g gl c s C (q0Q C sure) K/\Stay K w w':=by
 obtain⟨v,b⟩:=h.toV;exact(z4R b).mono fun _ _ ⟨h1,h2,h3⟩=>⟨h1,h2.toK,h3⟩
end
theorem q6y : ∀(ps:List (List UInt8)) (a:Nat) (p:List UInt8),q2D a (ps++[p])=q2D a ps++[(a+(ps.map fun p=>p.length+12).sum,p)]
 |[],a,p=>by simp[q2D]
 | q::t,a,p=>by
  rw[List.cons_append,q2D,q6y t,q2D,List.cons_append,List.map_cons,List.sum_cons]
  congr 4;omega
theorem q1n(D:Cks)(ps:List (List UInt8)):q0k 0 (D++[ps])=q0k 0 D++q2D (4096*D.length+12) ps:=by
 rw[z2I,Nat.zero_add];simp[q0k]
theorem z2m{x:Int}{C b:Cks}(q: ∀ps∈C,q0I ps<=4096)(m:p.length<=2000)(h:q1O fr C p=(x,0,b)):
  ∃pos:Nat,x=(pos:Int)/\q0k 0 b=q0k 0 C++[(pos,p)]/\q1u b=(pos:Int)+(p.length:Int)+12/\q1u C<=(pos:Int)/\q0q b<=q0q C+(p.length+24)/\b.length<=C.length+1/\pos<=4096*C.length+12:=by
 by_cases j:q4a C p=true
 ·by_cases d:C=[]
  ·subst d;cases j
  ·obtain⟨D,ps,rfl⟩:=z0E d
   by_cases o:fr-((p.length:Int)+12)<6000
   ·rw[q6C m j o] at h;cases h
   ·rw [q7u m j (by omega)] at h
    cases h;refine⟨4096*D.length+q0I ps,by omega,?_,?_,?_,?_,by simp,by have:=q ps (by simp);rw[θ];simp only[χ,List.length_nil];omega⟩
    ·rw[q1n,q1n,q6y,List.append_assoc]
     congr 4
     unfold q0I;omega
    ·rw[q1J,q2W];omega
    ·rw[q1J];omega
    ·have h1:q0q (D++[ps++[p]])=q0q D+q0I (ps++[p]):=by simp[q0q,List.sum_append]
     have h2:q0q (D++[ps])=q0q D+q0I ps:=by simp[q0q,List.sum_append]
     rw[h1,h2,q2W];omega
 ·have i:q4a C p=false:=by simpa using j
  by_cases o:200<=C.length\/fr-((p.length:Int)+24)<6000
  ·rw[q6D m i o] at h;cases h
  ·rw [q7t m i o] at h
   cases h;refine⟨4096*C.length+12,by omega,?_,?_,?_,?_,by simp,ι _⟩
   ·rw[q1n];rfl
   ·rw[q1J,q5H];omega
   ·by_cases d:C=[]
    ·subst d;show(0:Int)<=_;omega
    ·obtain⟨D,ps,rfl⟩:=z0E d
     have:=q ps (by simp);rw[q1J,θ];simp only[χ,List.length_nil];omega
   ·have h1:q0q (C++[[p]])=q0q C+q0I [p]:=by simp[q0q,List.sum_append]
    rw[h1,q5H];omega
def z6X(x y:Nat×List UInt8):Prop:=x.1+x.2.length+12<=y.1
theorem z4r : ∀(ps:List (List UInt8)) (a:Nat),(q2D a ps).Pairwise z6X
 |[],_=>List.Pairwise.nil
 |p::t,a=>List.pairwise_cons.2 ⟨fun r b=>(q4j t _ r b).1,z4r t _⟩
theorem q6Z : ∀(C:Cks) (b:Nat),(∀ps∈C,q0I ps<=4096)->(q0k b C).Pairwise z6X
 |[],_,_=>List.Pairwise.nil
 | ps::t,b,hs=>by
  rw[q0k,List.pairwise_append];refine⟨z4r ps _,q6Z t _ fun q hq=>hs q (List.mem_cons_of_mem _ hq),fun x d y i=>?_⟩;have h1:=q4j ps _ x d;have h2:=q6Y t _ (fun q hq=>hs q (List.mem_cons_of_mem _ hq)) y i;have h3:=hs ps (List.mem_cons_self);unfold q0I at h3;unfold z6X;omega
def z5g(A:List (Nat×List UInt8)):Nat:=match A.getLast? with|none=>0|some r=>r.1+r.2.length+12
theorem q6o(A:List (Nat×List UInt8))(r:Nat×List UInt8):z5g (A++[r])=r.1+r.2.length+12:=by unfold z5g;simp
theorem z9k(h:A.Pairwise z6X): ∀r∈A,r.1<z5g A:=fun r b=>by
 rcases List.eq_nil_or_concat A with rfl|⟨D,q,rfl⟩
 ·cases b
 ·rw [List.concat_eq_append] at*
  rw[q6o];rcases List.mem_append.1 b with h1|h1
  ·have:=(List.pairwise_append.1 h).2.2 r h1 q (by simp)
   unfold z6X at this;omega
  ·obtain rfl:=List.mem_singleton.1 h1;omega
theorem z9j(h:A.Pairwise z6X): ∀r∈A,r.1+r.2.length+12<=z5g A:=fun r b=>by
 rcases List.eq_nil_or_concat A with rfl|⟨D,q,rfl⟩
 ·cases b
 ·rw [List.concat_eq_append] at*
  rw[q6o];rcases List.mem_append.1 b with h1|h1
  ·have:=(List.pairwise_append.1 h).2.2 r h1 q (by simp)
   unfold z6X at this;omega
  ·obtain rfl:=List.mem_singleton.1 h1;omega
theorem q9S{C:Cks}(b: ∀ps∈C,ps≠[]):(z5g (q0k 0 C):Int)=q1u C:=by
 rcases List.eq_nil_or_concat C with rfl|⟨D,ps,rfl⟩
 ·rfl
 ·rw [List.concat_eq_append] at*
  have b:=b ps (by simp);rcases List.eq_nil_or_concat ps with rfl|⟨d,p,rfl⟩
  ·exact absurd rfl b
  ·rw[List.concat_eq_append] at*
   rw[q1n,q6y,<-List.append_assoc,q6o,q1J,q2W];unfold q0I;show((4096*D.length+12+(d.map fun p=>p.length+12).sum+p.length+12:Nat):Int)=_;omega
theorem z1c{C:Cks}(h:okC C):(z5g (q0k 0 C):Int)<=q1u C:=by
 rcases List.eq_nil_or_concat C with rfl|⟨D,ps,rfl⟩
 ·exact Int.le_refl _
 ·rw [List.concat_eq_append] at*
  have i: ∀b∈D,b≠[]:=fun b hq=>h.full b (by simpa using hq)
  rcases List.eq_nil_or_concat ps with rfl|⟨b,p,rfl⟩
  ·have h1:=q9S i
   have h2:q1u D<=(D.length:Int)*4096:=by
    rcases List.eq_nil_or_concat D with rfl|⟨E,b,rfl⟩
    ·exact Int.le_refl _
    ·rw[List.concat_eq_append] at*
     have:=h.size b (by simp);rw[q1J,θ,List.length_singleton];omega
   rw[q1n,show q2D (4096*D.length+12) []=[] from rfl,List.append_nil,q1J];omega
  ·rw[List.concat_eq_append] at*
   refine Int.le_of_eq (q9S fun j d=>?_);rcases List.mem_append.1 d with d|d
   ·exact i j d
   ·rw[List.mem_singleton.1 d];simp
theorem z2H : ∀(ps:List (List UInt8)) (a:Nat) (r:Nat×List UInt8),r∈q2D a ps-> ∃k,ps[k]? =some r.2/\r.1=a+((ps.take k).map fun p=>p.length+12).sum
 |[],_,r,h=>by cases h
 | p ::t,a,r,h=>by
  rw[q2D] at h;rcases List.mem_cons.1 h with rfl|h
  ·exact⟨0,rfl,by simp⟩
  ·obtain⟨k,h1,h2⟩:=z2H t _ r h
   exact⟨k+1,by rw[List.getElem?_cons_succ];exact h1,by rw[h2,List.take_succ_cons,List.map_cons,List.sum_cons];omega⟩
theorem z2J : ∀(C:Cks) (b:Nat) (r:Nat×List UInt8),r∈q0k b C-> ∃(n:Nat) (ps:List (List UInt8)) (k:Nat),C[n]? =some ps/\ps[k]? =some r.2/\r.1=b+4096*n+q0I (ps.take k)
 |[],_,r,h=>by cases h
 | ps ::t,b,r,h=>by
  rw[q0k] at h;rcases List.mem_append.1 h with h|h
  ·obtain⟨k,h1,h2⟩:=z2H ps _ r h
   exact⟨0,ps,k,rfl,h1,by rw[h2];unfold q0I;omega⟩
  ·obtain⟨n,d,k,h1,h2,h3⟩:=z2J t _ r h
   exact⟨n+1,d,k,by rw[List.getElem?_cons_succ];exact h1,h2,by rw[h3];omega⟩
theorem z8S{C:Cks}(h:okC C)(m:r∈q0k 0 C):q6X C (r.1:Int)=(r.2,0):=by
 obtain⟨n,ps,k,h1,h2,h3⟩:=z2J C 0 r m;have b:=List.mem_of_getElem? h1;have j:=h.pay ps b r.2 (List.mem_of_getElem? h2);have i:k<ps.length:=(List.getElem?_eq_some_iff.1 h2).1;have o:=h.size ps b;have h4:q0I (ps.take (k+1))<=q0I ps:=by
  unfold q0I
  conv=>rhs;rw[<-List.take_append_drop (k+1) ps,List.map_append,List.sum_append]
  omega
 have d:ps.take (k+1)=ps.take k++[r.2]:=by
  obtain⟨_,he⟩:=List.getElem?_eq_some_iff.1 h2;rw[List.take_succ_eq_append_getElem i,he]
 rw[d,q2W] at h4;rw[z4n (n:=n) (a:=q0I (ps.take k)) (by omega) (by omega),h1];show(match (if 12<=q0I (ps.take k) then q5d (q0N n ps) (q0I (ps.take k)) else none) with|none=>([],4)|some (p,_)=>(p,0))=(r.2,(0:Int));rw[ξ (by unfold q0I;omega),y0t n ps k r.2 h2 j]
theorem z4s{C:Cks}(h:okC C)(b:r∈q0k 0 C):r.1<=819200:=by
 have:=q6Y C 0 h.size r b;have:=h.few;omega
end
end Go.Proofs.YtfiibpgoplcgkaaGreatDoor
