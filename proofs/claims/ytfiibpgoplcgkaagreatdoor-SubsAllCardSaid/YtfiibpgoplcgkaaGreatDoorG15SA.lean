/- How a log lies in memory, beside its disk. -/
import Derived.Test.YtfiibpgoplcgkaaGreatDoorG11SA
import Derived.Test.YtfiibpgoplcgkaaGreatDoorG14SA
import Derived.Test.YtfiibpgoplcgkaaGreatDoorG3SA
set_option linter.unusedVariables false
set_option linter.unusedSimpArgs false
set_option maxRecDepth 100000
set_option maxHeartbeats 3200000
namespace Go.Proofs.YtfiibpgoplcgkaaGreatDoor
variable {n a bl bn br:Nat}{ps:List (List UInt8)}{pos k fr:Int}{r:Nat×List UInt8}{D:Cks}{p:List UInt8}{w3:World}{A:List (Nat×List UInt8)}
section
open Go.RowKit
theorem y2g(c:Int):Pl (z8H c) c 0 []:=⟨rfl,rfl,rfl,rfl,rfl⟩
theorem y0u(c:Int):Lgd noO (z8H c) c 0 [] 0:=⟨by have:=y2g c;simpa [q1V,noO,q1X,q5I,q2a,q3P] using this,okC.nil,okOth.no,(fun f b=>by cases b),Int.le_refl _⟩
theorem z5Q{w:World}{B:Nat}{e:TypeId}{v:Value}{cs:List Value}(h:w.ownsRow B e 1 v n cs){g cap:Nat}(i:v= .slice (some ⟨g,0,none⟩) n cap){j:Nat}(u:Value):(w.setCell ⟨g,j,none⟩ u).ownsRow B e 1 v n (cs.set j u):=by
 have J:=h.1;refine⟨by simpa using J,?_⟩;rcases h.2 with⟨rfl,_⟩|⟨M,d,b,rfl,G,I,m,o,q,y⟩
 ·cases i
 ·cases i
  refine .inr ⟨g,cap,b.setIfInBounds j u,rfl,G,?_,m,o,by simpa using q,?_⟩
  ·simp only[World.setCell,Array.getElem?_modify,if_true,I,Option.map_some]
   rfl
  ·rw[Array.toList_setIfInBounds,<-y,List.take_set]
def q8V(gl:Nat)(v:Value)(i:Nat):Prop:=i=gl\/v.ownBlock=some i
structure LogM(w:World)(gl g:Nat)(s:Int)(v:Value)(xs:List Int)(sure:Int):Prop where
 blk:Blk w gl 226 #[.pointer (some ⟨g,0,none⟩),.int .i64 s,.bool false,v,.int .i64 sure]
 row:w.ownsRow 0 3 1 v xs.length (xs.map (Value.int .i64))
section
variable {E :Oth}{w w':World}{gl g:Nat}{s sure:Int}{v:Value}{xs:List Int}
theorem LogM.lt(h:LogM w gl g s v xs sure){i:Nat}(b:q8V gl v i):i<w.heap.size:=by
 rcases b with rfl|b
 ·exact h.blk.lt
 ·exact(q0l h.row i b).2
theorem LogM.same(h:LogM w gl g s v xs sure)(k: ∀i,q8V gl v i->w'.heap[i]? =w.heap[i]?):LogM w' gl g s v xs sure:=
 ⟨h.blk.same (k gl (.inl rfl)),q0z h.row fun i b=>k i (.inr b)⟩
theorem LogM.ext(h:LogM w gl g s v xs sure)(k:Ext w w'):LogM w' gl g s v xs sure:=h.same fun i b=>k.block i (h.lt b)
theorem LogM.c0(h:LogM w gl g s v xs sure):w.cell? ⟨gl,0,none⟩=some (.pointer (some ⟨g,0,none⟩)):=h.blk.cell 0
theorem LogM.c1(h:LogM w gl g s v xs sure):w.cell? ⟨gl,1,none⟩=some (.int .i64 s):=h.blk.cell 1
theorem LogM.c2(h:LogM w gl g s v xs sure):w.cell? ⟨gl,2,none⟩=some (.bool false):=h.blk.cell 2
theorem LogM.c3(h:LogM w gl g s v xs sure):w.cell? ⟨gl,3,none⟩=some v:=h.blk.cell 3
theorem LogM.c4(h:LogM w gl g s v xs sure):w.cell? ⟨gl,4,none⟩=some (.int .i64 sure):=h.blk.cell 4
theorem LogM.slice(h:LogM w gl g s v xs sure): ∃a c,v= .slice a xs.length c/\Ints w a xs.length c xs:=q3I (Own.of_row h.row)
theorem LogM.apart(h:LogM w gl g s v xs sure):v.ownBlock≠some gl:=fun d=>by
 obtain⟨b,hc⟩:=q6C h.row d;exact Blk.ne h.blk (ds:=b) hc (by decide) rfl
end
def DkK(E:Oth)(w0 w:World)(g:Nat)(c s:Int)(C:Cks)(K:Nat->Prop):Prop:= ∃F σ,DkF w0 w g F σ K/\Lgd E σ c s C 0
structure LgF(w0 w:World)(g gl:Nat)(F:Nat->Prop)(v:Value)(σ:DM)(s:Int)(xs:List Int)(sure:Int)(K:Nat->Prop):Prop where
 d:Dk w g F σ
 l:LogM w gl g s v xs sure
 ap: ∀i,F i->¬q8V gl v i
 bF: ∀i,F i->w0.heap.size<=i
 bG: ∀i,q8V gl v i->w0.heap.size<=i
 ext:Ext w0 w
 k: ∀i,K i->i<w.heap.size/\¬F i/\¬q8V gl v i
def LgK(E:Oth)(w0 w:World)(g gl:Nat)(c s:Int)(C:Cks)(sure:Int)(K:Nat->Prop):Prop:= ∃F v σ,LgF w0 w g gl F v σ s (q0M C) sure K/\Lgd E σ c s C sure
section
variable {E :Oth}{w0 w w1 w2:World}{g gl:Nat}{F K K':Nat->Prop}{v:Value}{σ σ1:DM}{c s sure:Int}{xs:List Int}{C:Cks}
theorem LgF.kExt(h:LgF w0 w g gl F v σ s xs sure K)(k:Ext w w1):Stay K w w1:=fun i b=>k.block i (h.k i b).1
theorem LgF.grow(h:LgF w0 w g gl F v σ s xs sure K)(k:Ext w w1):LgF w0 w1 g gl F v σ s xs sure K:=
 ⟨h.d.ext k,h.l.ext k,h.ap,h.bF,h.bG,h.ext.trans k,fun i b=>⟨Ψ (h.k i b).1 k.size,(h.k i b).2⟩⟩
theorem LgF.disk(h:LgF w0 w g gl F v σ s xs sure K)(k:DkS w g F σ1 w1):LgF w0 w1 g gl (Gr F w w1) v σ1 s xs sure K/\Stay K w w1:=by
 have u:=k.off.size;refine⟨⟨k.dk,h.l.same fun i j=>k.off.block i (h.l.lt j) fun m=>h.ap i m j,?_,fun i j=>Gr.ge h.bF h.ext.size j,h.bG,k.off.ext h.ext h.bF,fun i j=>?_⟩,fun i j=>?_⟩
 ·rintro i (m|⟨q,_⟩) o
  ·exact h.ap i m o
  ·have:=h.l.lt o;omega
 ·obtain⟨a,b,d⟩:=h.k i j
  exact⟨by omega,Gr.not b a,d⟩
 ·obtain⟨a,b,d⟩:=h.k i j
  exact k.off.block i a b
theorem LgF.log{G:Value}{u:List Int}{m:Int}(h:LgF w0 w g gl F v σ s xs sure K)(I:LogM w1 gl g s G u m)(off:OffS (q8V gl v) w w1)(B: ∀i,G.ownBlock=some i->v.ownBlock=some i\/w.heap.size<=i):
  LgF w0 w1 g gl F G σ s u m K/\Stay K w w1:=by
 have J:=off.size;have hF: ∀i,F i->w1.heap[i]? =w.heap[i]? :=fun i j=>off.block i (by obtain⟨_,_,_,_,_,_,h⟩:=h.d;exact h i j) (h.ap i j)
 have y: ∀i,F i->i<w.heap.size:=by obtain⟨_,_,_,_,_,_,h⟩:=h.d;exact h
 refine⟨⟨h.d.held J hF,I,fun i j q=>?_,h.bF,fun i j=>?_,off.ext h.ext h.bG,fun i j=>?_⟩,fun i j=>?_⟩
 ·rcases q with rfl|q
  ·exact h.ap _ j (.inl rfl)
  ·rcases B i q with o|o
   ·exact h.ap i j (.inr o)
   ·have:=y i j;omega
 ·rcases j with rfl|q
  ·exact h.bG _ (.inl rfl)
  ·rcases B i q with o|o
   ·exact h.bG i (.inr o)
   ·have:=h.ext.size;omega
 ·obtain⟨a,b,d⟩:=h.k i j
  refine⟨by omega,b,?_⟩;rintro(rfl|q)
  ·exact d (.inl rfl)
  ·rcases B i q with o|o
   ·exact d (.inr o)
   ·omega
 ·obtain⟨a,b,d⟩:=h.k i j
  exact off.block i a d
theorem LgF.beside(h:LgF w0 w g gl F v σ s xs sure K)(k: ∀i,K' i->K i):LgF w0 w g gl F v σ s xs sure K':=
 ⟨h.d,h.l,h.ap,h.bF,h.bG,h.ext,fun i b=>h.k i (k i b)⟩
theorem LgK.grow(h:LgK E w0 w g gl c s C sure K)(k:Ext w w1):LgK E w0 w1 g gl c s C sure K:=by
 obtain⟨F,v,σ,b,d⟩:=h;exact⟨F,v,σ,b.grow k,d⟩
theorem LgK.kExt(h:LgK E w0 w g gl c s C sure K)(k:Ext w w1):Stay K w w1:=by
 obtain⟨F,v,σ,b,d⟩:=h;exact b.kExt k
theorem LgK.more(h:LgK E w0 w g gl c s C sure K)(k:Ext w w1)(hK: ∀i,K' i->K i\/(w.heap.size<=i/\i<w1.heap.size)):LgK E w0 w1 g gl c s C sure K':=by
 obtain⟨F,v,σ,j,q⟩:=h;have b:=j.grow k;refine⟨F,v,σ,⟨b.d,b.l,b.ap,b.bF,b.bG,b.ext,fun i G=>?_⟩,q⟩;have m: ∀i,F i->i<w.heap.size:=by obtain⟨_,_,_,_,_,_,h⟩:=j.d;exact h
 rcases hK i G with o|⟨o,u⟩
 ·exact b.k i o
 ·refine⟨u,fun y=>?_,fun B=>?_⟩
  ·have:=m i y;omega
  ·have:=j.l.lt B;omega
end
theorem z4G{f:FuncId}{args:Array Value}{w:World}{v:Value}(h:Calls Tryz.prog f args w fun e w'=>e= .returned v/\w=w'):Calls Tryz.prog f args w fun e w'=>e= .returned v/\Ext w w':=
 h.mono fun _ w' ⟨e,h⟩=>⟨e,h▸Ext.refl _⟩
theorem z8m{w:World}{gl g:Nat}{s sure:Int}{v:Value}{C:Cks}(h:LogM w gl g s v (q0M C) sure)(i:okC C):
  Calls Tryz.prog 140 #[.pointer (some ⟨gl,0,none⟩)] w fun e w'=>e= .returned (.int .i64 (q2d C))/\w=w':=by
 obtain⟨a,k,rfl,d⟩:=h.slice;have y:=h.c3;clear h;rcases List.eq_nil_or_concat C with rfl|⟨D,ps,rfl⟩
 ·clear d
  go_enter Tryz.func140,Tryz.ntmps140;have G:(q0M []).length=0:=rfl;go_wp2_with fail;go_ret;exact⟨rfl,rfl⟩
 rw[List.concat_eq_append] at*;have o:(q0M (D++[ps])).length=D.length+1:=by simp[q0M]
 have m:D.length+1<=200:=by have:=i.few;simpa using this
 have B:q0I ps<=4096:=i.size ps (by simp);obtain⟨b,off,rfl,hc⟩:=d.at (j:=D.length) (by omega);have q:(q0M (D++[ps])).getD D.length 0=(q0I ps:Int):=q8C D ps;rw[q] at hc;rw[o] at y d;rw[q1C];clear d i o q;generalize D.length=n at*;obtain⟨z,u⟩: ∃z:Int,(q0I ps:Int)=z:=⟨_,rfl⟩
 have I:0<=z:=by omega
 have J:z<=4096:=by omega
 rw[u] at hc⊢;clear u B;go_enter Tryz.func140,Tryz.ntmps140;go_wp2_with fail;go_ret;exact⟨rn (by go_num),rfl⟩
section
variable {w0 w:World}{g gl:Nat}{F K:Nat->Prop}{v:Value}{σ:DM}{c s sure:Int}{xs:List Int}{C:Cks}
theorem z4F(h:LgF w0 w g gl F v σ s xs sure K)(j:z2M σ=c)(u:0<=c)(y:c<=1048576)(n:Int)(n0:0<=n)(n1:n<=1048576):
  Calls Tryz.prog 207 #[.pointer (some ⟨gl,0,none⟩),.int .i64 n] w fun e w'=>e= .returned (.bool (decide (6000<=c-n)))/\Ext w w':=by
 have q:=h.l.c0;have b:=η (y2D h.d);rw[j] at b;clear h j;go_enter Tryz.func207,Tryz.ntmps207;go_wp2_with fail;refine b.o.mono ?_;rintro e w1 ⟨rfl,i⟩;have m:=η i;clear i;go_wp2_with fail;go_ret;exact⟨rfl,m.o⟩
theorem z0D(h:LgF w0 w g gl F v σ s xs sure K)(b:σ.down=false)(q:σ.starts=s):
  Calls Tryz.prog 146 #[.pointer (some ⟨gl,0,none⟩)] w fun e w'=>e= .returned (.int .i64 0)/\Ext w w':=by
 have y:=h.l.c0;have B:=h.l.c1;have G:=h.l.c2;have I:=q0D y;have J:=q0D B;have M:=q0D G;have m:=η (fun x:ExtOf w=>z4G (y3Z (h.d.ext x.h)));have j:=η (fun x:ExtOf w=>z4G (z0M (h.d.ext x.h)));rw[b] at m;rw[q] at j;clear h b q;go_enter Tryz.func146,Tryz.ntmps146;go_wp2_with fail;refine q0E (by kernel_rfl) (by kernel_rfl) ?_
 repeat (go_big_quiet_step (first|(go_at_call 76;exact Calls.quiet_ext (m.o _))|(go_at_call 138;exact Calls.quiet_ext (j.o _))))
 refine wpQuiet_nil ?_;intro w1 i;have u:=η i;clear i;go_wp2_with fail;go_ret;exact⟨rfl,u.o⟩
theorem y2b(h:LgF w0 w g gl F v σ s xs sure K):
  Calls Tryz.prog 162 #[.pointer (some ⟨gl,0,none⟩),.int .i64 0] w fun e w'=>e= .returned (.int .i64 0)/\LgF w0 w' g gl F v σ s xs sure K/\Stay K w w':=by
 have j:=h.l.c2;have m:=h.l.blk.free 2;have H:=η h
 have b:Hd (LgF w0 (w.setCell ⟨gl,2,none⟩ (.bool false)) g gl F v σ s xs sure K/\Stay K w (w.setCell ⟨gl,2,none⟩ (.bool false))):=η (by
  refine h.log ⟨h.l.blk.set 2 (.bool false),q1D h.l.row _ h.l.apart⟩ (OffS.set w (.inl rfl) 2 _) fun i d=> .inl d)
 clear h;go_enter Tryz.func162,Tryz.ntmps162;go_wp2_with fail;go_ret;exact⟨rfl,b.o⟩
end
section
variable {E :Oth}{w0 w:World}{g gl:Nat}{F K:Nat->Prop}{v:Value}{σ:DM}{c s sure:Int}{C:Cks}
theorem LgF.setSure{xs:List Int}{sure:Int}(h:LgF w0 w g gl F v σ s xs sure K)(z:Int):LgF w0 (w.setCell ⟨gl,4,none⟩ (.int .i64 z)) g gl F v σ s xs z K/\Stay K w (w.setCell ⟨gl,4,none⟩ (.int .i64 z)):=
 h.log ⟨h.l.blk.set 4 (.int .i64 z),q1D h.l.row _ h.l.apart⟩ (OffS.set w (.inl rfl) 4 _) fun i b=> .inl b
theorem q9X{C:Cks}(h:C≠[]): ∃D ps,C=D++[ps]:=by
 rcases List.eq_nil_or_concat C with b|⟨D,ps,b⟩
 ·exact absurd b h
 ·exact⟨D,ps,by rw[b,List.concat_eq_append]⟩
theorem q9W(D:Cks)(ps:List (List UInt8)):(D++[ps])[D.length]? =some ps:=by simp
def q0X(C:Cks)(sure:Int):Int:=if C=[] then sure else q2d C
theorem Lgd.allS{E:Oth}{σ:DM}{c s sure:Int}{C:Cks}(h:Lgd E σ c s C (q0X C sure))(b:okD σ):AllS σ.L:=by
 unfold q0X at h
 split at h
 ·rename_i e;subst e;exact h.sr.all0
 ·exact h.all b
theorem q8F{E:Oth}{σ:DM}{c s sure:Int}{C:Cks}(h:Lgd E σ c s C sure):q0X C sure<=q2d C:=by
 unfold q0X
 split
 ·exact h.le
 ·exact Int.le_refl _
def LgV(E:Oth)(w0 w:World)(g gl:Nat)(v:Value)(c s:Int)(C:Cks)(sure:Int)(K:Nat->Prop):Prop:= ∃F σ,LgF w0 w g gl F v σ s (q0M C) sure K/\Lgd E σ c s C sure
theorem LgV.toK(h:LgV E w0 w g gl v c s C sure K):LgK E w0 w g gl c s C sure K:=by obtain⟨F,σ,b,d⟩:=h;exact⟨F,v,σ,b,d⟩
theorem LgK.toV(h:LgK E w0 w g gl c s C sure K): ∃v,LgV E w0 w g gl v c s C sure K:=by obtain⟨F,v,σ,b,d⟩:=h;exact⟨v,F,σ,b,d⟩
theorem z3n(h:LgF w0 w g gl F v σ s (q0M C) sure K)(b:Lgd E σ c s C sure):
  Calls Tryz.prog 168 #[.pointer (some ⟨gl,0,none⟩)] w fun e w'=>e= .returned (.int .i64 0)/\LgV E w0 w' g gl v c s C (q0X C sure) K/\Stay K w w':=by
 have c0:=h.l.c0;have c3:=h.l.c3;obtain⟨a,k,rfl,hx⟩:=h.l.slice;by_cases i:C=[]
 ·subst i
  have HK:Hd (LgV E w0 w g gl (.slice a (q0M []).length k) c s [] (q0X [] sure) K):=η ⟨F,σ,h,b⟩;have e0:(q0M []).length=0:=rfl;clear h b hx;go_enter Tryz.func168,Tryz.ntmps168;go_wp2_with fail;go_ret;exact⟨rfl,HK.o,Stay.refl _ _⟩
 have S:Hd (q0X C sure=q2d C):=η (by unfold q0X;rw[κ i]);have g0:1<=C.length:=by cases C with|nil=>exact absurd rfl i|cons=>simp
 obtain⟨D,ps,N⟩:=q9X i;have hn:(q0M C).length=C.length:=q0a C;have u:=b.ok.few;rw[hn] at c3;obtain⟨σ',hm,G⟩:=b.pl.sync (q3O b.oth u (by rw[N];exact q9W D ps));have B:AllS σ'.L:=z4M hm b.sr fun j hj=>by
  have:j=D.length:=by rw[N,θ,List.length_singleton] at hj;omega
  rw[this]
 have b0:=q2l (D.length:Int)
 have Y:=η (fun (Q:World) (k:Ext w Q)=>show Calls Tryz.prog 228 #[.pointer (some ⟨g,0,none⟩),.string ⟨(q0C 99 (D.length:Int)).toArray⟩] Q fun e w'=>e= .returned (.int .i64 0)/\DkS Q g F σ' w' by
  have:=z7m (h.d.ext k) (q0C 99 (D.length:Int)) b0;rw[hm] at this
  exact this)
 have hM:IntKind.i64.wrap ((C.length:Int)-1)=(D.length:Int):=by
  have:C.length=D.length+1:=by rw[N];simp
  rw[ν];omega
 have q:=η (fun W=>q3j (D.length:Int) W);generalize q0C 99 (D.length:Int)=nm at*;obtain⟨M,y⟩: ∃M:Int,(D.length:Int)=M:=⟨_,rfl⟩
 rw[y] at hM q;have HH:=η h;have U:=η b;have HP:=η (And.intro G B);have Z:=η (q8F b);clear B;have O:Ext w w.drew:=(Ext.refl w).drew;have HW:=η O;have d0:=q0A O c0;have d3:=q0A O c3;have f0:((C.length:Int)==0)=false:=by simpa using i
 clear h b G hm hx N y i hn O;go_enter Tryz.func168,Tryz.ntmps168;go_wp2_with fail
 go_region_held3 (fun W=>W.cell? ⟨gl,0,none⟩=some (.pointer (some ⟨g,0,none⟩))/\W.cell? ⟨gl,3,none⟩=some (.slice a C.length k))
  (first|exact X.o|exact V.o|exact⟨d0,d3⟩)
  (first
   |(go_at_call 161;refine(q.o _).mono ?_;rintro e Q ⟨rfl,I⟩;have R:=η (HW.o.trans I);have V:=η (And.intro (q0A I d0) (q0A I d3));clear I)
   |(go_at_call 228;refine(Y.o _ R.o).mono ?_;rintro e wb ⟨rfl,h2⟩;have J:=(HH.o.grow R.o).disk h2;have m:=η J;have X:=η (And.intro J.1.l.c0 (q0a C▸J.1.l.c3));clear h2 J))
 all_goals
  have HE:=η (z8m m.o.1.l U.o.ok);have e4:=m.o.1.l.c4;have z4:=m.o.1.l.blk.free 4;have h4:=m.o.1.setSure (q2d C);have HF:=η (show LgV E w0 (wb.setCell ⟨gl,4,none⟩ (.int .i64 (q2d C))) g gl _ c s C (q0X C sure) K from⟨_,σ',by rw[S.o];exact h4.1,⟨HP.o.1,U.o.ok,U.o.oth,HP.o.2.sur _ _,Z.o⟩⟩);have a0:=η ((HH.o.kExt R.o).trans (m.o.2.trans h4.2));clear h4;go_wp2_with fail;refine HE.o.mono ?_;rintro e w' ⟨rfl,rfl⟩;go_wp2_with fail;go_ret;exact⟨rfl,HF.o,a0.o⟩
theorem y0w(h:LgF w0 w g gl F v σ s (q0M C) sure K)(j:Lgd E σ c s C sure):
  Calls Tryz.prog 168 #[.pointer (some ⟨gl,0,none⟩)] w fun e w'=>e= .returned (.int .i64 0)/\LgK E w0 w' g gl c s C (q0X C sure) K/\Stay K w w':=
 (z3n h j).mono fun _ _ ⟨b,d,i⟩=>⟨b,d.toK,i⟩
end
theorem z8x{s:List UInt8}(h:a+q3t s a+12<=s.length):q5P ((s.drop a).take (q3t s a+12)) 0=(q5P s a).map fun r=>(r.1,r.2-a):=by
 obtain⟨n,i⟩: ∃n,q3t s a=n:=⟨_,rfl⟩
 rw[i] at h⊢;have j:((s.drop a).take (n+12)).take 4=(s.drop a).take 4:=by rw[List.take_take,Nat.min_eq_left (by omega)]
 have d:((s.drop a).take (n+12)).length=n+12:=by simp;omega
 have b:q3t ((s.drop a).take (n+12)) 0=n:=by
  unfold q3t;rw[List.drop_zero,j,<-i];first|done|rfl
 have q:isR ((s.drop a).take (n+12)) 0=isR s a:=by
  unfold isR;rw[b,d,i,List.drop_zero,j];have m:((s.drop a).take (n+12)).take (n+8)=(s.drop a).take (n+8):=by rw[List.take_take,Nat.min_eq_left (by omega)]
  have o:(((s.drop a).take (n+12)).drop (0+n+8)).take 4=(s.drop (a+n+8)).take 4:=by
   rw[List.drop_take,List.drop_drop,List.take_take]
   congr 1
   ·omega
   ·congr 1;omega
  rw[m,o,ζ (p:=0+12<=n+12) (by omega),ζ (p:=0+n+12<=n+12) (by omega),ζ (p:=a+12<=s.length) (by omega),ζ (p:=a+n+12<=s.length) h]
 unfold q5P;rw[q,b,i]
 split
 ·simp only[Option.map_some]
  congr 2
  ·rw[List.drop_take,List.drop_drop,List.take_take]
   congr 1
   ·omega
  ·omega
 ·rfl
section
variable {E :Oth}{w0 w:World}{g gl:Nat}{F K:Nat->Prop}{v:Value}{σ:DM}{c s sure:Int}{C:Cks}{xs:List Int}{l:List (List UInt8×List UInt8)}{nm:List UInt8}{x:List UInt8×List UInt8}
theorem z0o(h:LgF w0 w g gl F v σ s xs sure K)(j:Pl σ c s l)(q:q0F Prod.fst nm l=some x)(b:nm.length<=9223372036854775807)(a n:Int)(o:0<=a)(y:0<=n)(u:a+n<=(x.2.length:Int))(G:(x.2.length:Int)<=1048576):
  Calls Tryz.prog 160 #[.pointer (some ⟨g,0,none⟩),.string ⟨nm.toArray⟩,.int .i64 a,.int .i64 n] w fun e w'=>
   e= .returned (.tuple #[.string ⟨((x.2.drop a.toNat).take n.toNat).toArray⟩,.int .i64 0])/\(∃m σ',LgF w0 w' g gl m v σ' s xs sure K/\Pl σ' c s l/\σ'.L=σ.L)/\Stay K w w':=by
 have i:=z3y h.d nm a n b (by omega) (by omega) (by omega) (by omega);rw[j.read q a n o y u] at i;refine i.mono ?_;rintro e w' ⟨rfl,k⟩;obtain⟨k1,B⟩:=h.disk k;exact⟨rfl,⟨_,_,k1,j.tell,rfl⟩,B⟩
theorem q6O(h:LgF w0 w g gl F v σ s xs sure K)(b:Lgd E σ c s C sure)(B:q0F Prod.fst nm (q2a E C)=some x)(j:nm.length<=9223372036854775807)(a n:Int)(y:0<=a)(G:0<=n)(i:a+n<=(x.2.length:Int))(I:(x.2.length:Int)<=1048576):
  Calls Tryz.prog 160 #[.pointer (some ⟨g,0,none⟩),.string ⟨nm.toArray⟩,.int .i64 a,.int .i64 n] w fun e w'=>
   e= .returned (.tuple #[.string ⟨((x.2.drop a.toNat).take n.toNat).toArray⟩,.int .i64 0])/\(∃d σ',LgF w0 w' g gl d v σ' s xs sure K/\Lgd E σ' c s C sure)/\Stay K w w':=by
 refine(z0o h b.pl B j a n y G i I).mono ?_;rintro e w' ⟨rfl,⟨d,σ',m,o,q⟩,u⟩;exact⟨rfl,⟨d,σ',m,o,b.ok,b.oth,by rw[q];exact b.sr,b.le⟩,u⟩
theorem LgF.cellAt(h:LgF w0 w g gl F v σ s (q0M C) sure K)(i:C[n]? =some ps):
  ∃b k,v= .slice (some ⟨b,0,none⟩) C.length k/\w.cell? ⟨b,n,none⟩=some (.int .i64 (q0I ps:Int))/\w.frozen? ⟨b,n,none⟩=false:=by
 have d:(q0M C).length=C.length:=q0a C;have y:n<C.length:=(List.getElem?_eq_some_iff.1 i).1;obtain⟨b,k,o,q,u,_⟩:=(Own.of_row h.l.row).cell (j:=n) (by rw[List.length_map,d];omega);have m:((q0M C).map (Value.int .i64))[n]'(by rw[List.length_map,d];omega)= .int .i64 (q0I ps:Int):=by
  rw[List.getElem_map]
  congr 1
  have:=z2p C n i;rw[δ,γ (by rw[d];omega)] at this;exact this
 rw[m] at q;rw[d] at o;exact⟨b,k,o,q,u⟩
theorem z7X(h:pos<0):q5y C pos=([],4):=by unfold q5y;rw[ξ h]
theorem z3x(d:pos=(n:Int)*4096+(a:Int))(m:a<4096):q5y C pos=match C[n]? with
  |none=>([],4)
  | some ps=>match (if 12<=a then q5P (q0L n ps) a else none) with
   |none=>([],4)
   |some (p,_)=>(p,0):=by
 have i:(pos/4096).toNat=n:=by omega
 have j:(pos % 4096).toNat=a:=by omega
 unfold q5y;rw[κ (by omega),i,j]
 cases C[n]? with
 |none=>rfl
 | some ps=>
  by_cases b:12<=a
  ·simp only[ξ b,ξ (show 12<=pos % 4096 by omega)]
   cases q5P (q0L n ps) a with
   |none=>rfl
   |some r=>rfl
  ·simp only[κ b,κ (show ¬12<=pos % 4096 by omega)]
def ReadR(E:Oth)(w0 w:World)(g gl:Nat)(c s:Int)(C:Cks)(sure:Int)(K:Nat->Prop)(r:List UInt8×Int)(e:Ending)(w':World):Prop:=
 e= .returned (.tuple #[.string ⟨r.1.toArray⟩,.int .i64 r.2])/\LgK E w0 w' g gl c s C sure K/\Stay K w w'
theorem ReadR.no{w':World}{r:List UInt8×Int}(h:LgK E w0 w g gl c s C sure K)(k:Ext w w')(b:r=([],4)):ReadR E w0 w g gl c s C sure K r (.returned (.tuple #[.string ⟨#[]⟩,.int .i64 4])) w':=by
 subst b;exact⟨rfl,h.grow k,h.kExt k⟩
theorem y2k(h:LgK E w0 w g gl c s C sure K)(pos:Int)(p0: -9223372036854775808<=pos)(p1:pos<=9223372036854775807):
  Calls Tryz.prog 181 #[.pointer (some ⟨gl,0,none⟩),.int .i64 pos] w (ReadR E w0 w g gl c s C sure K (q5y C pos)):=by
 have HK:=η h;obtain⟨F,v,σ,h1,h2⟩:=h;have Q:=η (z0D h1 h2.pl.up h2.pl.st);by_cases m0:pos<0
 ·have HA:=η (z7X (C:=C) m0)
  have hd:decide (pos<0)=true:=by simpa using m0
  clear h1 h2;go_enter Tryz.func181,Tryz.ntmps181;go_wp2_with fail;refine Q.o.mono ?_;rintro e w1 ⟨rfl,d⟩;have V:=η d;clear d;go_wp2_with fail;go_ret2;exact ReadR.no HK.o V.o HA.o
 obtain⟨n,hn⟩: ∃n:Nat,pos/4096=(n:Int):=⟨(pos/4096).toNat,by omega⟩
 obtain⟨a,ha⟩: ∃a:Nat,pos % 4096=(a:Int):=⟨(pos % 4096).toNat,by omega⟩
 have s0:pos=(n:Int)*4096+(a:Int):=by omega
 have E0:a<4096:=by omega
 have P0:(n:Int)<=2251799813685248:=by omega
 have hq:pos.tdiv 4096=(n:Int):=by rw[Int.tdiv_eq_ediv_of_nonneg (by omega)];exact hn
 have hm:pos.tmod 4096=(a:Int):=by rw[Int.tmod_eq_emod_of_nonneg (by omega)];exact ha
 have f0:=η (z3x (C:=C) s0 E0);have Q0:decide (pos<0)=false:=by simpa using m0
 have J0:=q0a C;obtain⟨sa,sk,C0⟩:=q0G h1.l.row;rw[J0] at C0;subst C0;have I:=h1.l.c3;have O:=η I;clear s0;by_cases I0:C.length<=n
 ·have HA:Hd (q5y C pos=([],4)):=η (by rw[f0.o,List.getElem?_eq_none I0])
  have hd:decide ((C.length:Int)<=(n:Int))=true:=by simp;omega
  have hx:=O.o;clear h1 h2 I;go_enter Tryz.func181,Tryz.ntmps181;go_wp2_with fail;refine Q.o.mono ?_;rintro e w1 ⟨rfl,d⟩;have V:=η d;have I:=q0A d O.o;clear d;go_wp2_with fail;go_ret2;exact ReadR.no HK.o V.o HA.o
 have B0:n<C.length:=by omega
 obtain⟨ps,M⟩: ∃ps,C[n]? =some ps:=⟨C[n],γ B0⟩
 have H0:n<200:=by have:=h2.ok.few;omega
 obtain⟨b,T0,hv,g0,_⟩:=h1.cellAt M
 cases hv;have S0:q0I ps<=4096:=h2.ok.size ps (List.mem_of_getElem? M);have y:=q0V n ps;have u:=q3O h2.oth h2.ok.few M;rw[M] at f0;have O0:decide ((C.length:Int)<=(n:Int))=false:=by simp;omega
 have e0:=η g0;obtain⟨z,hz⟩: ∃z:Int,(q0I ps:Int)=z:=⟨_,rfl⟩
 rw[hz] at e0;have z0:0<=z:=by omega
 have z1:z<=4096:=by omega
 have a0:(0:Int)<=(a:Int):=by omega
 have a1:(a:Int)<=4095:=by omega
 by_cases h0:a<12\/q0I ps<a+12
 ·have HA:Hd (q5y C pos=([],4)):=η (by
   rw[f0.o];rcases h0 with h|h
   ·simp only[κ (show ¬12<=a by omega)]
   ·by_cases Z:12<=a
    ·simp only[ξ Z,q9q (q0L n ps) a (by omega)]
    ·simp only[κ Z])
  by_cases Z:a<12
  ·have y0:decide ((a:Int)<12)=true:=by simp;omega
   clear h1 h2 I g0 u y M h0 hz;go_enter Tryz.func181,Tryz.ntmps181;go_wp2_with fail;refine Q.o.mono ?_;rintro e w1 ⟨rfl,d⟩;have V:=η d;have I:=q0A d O.o;clear d;go_wp2_with fail;go_ret2;exact ReadR.no HK.o V.o HA.o
  ·have y0:decide ((a:Int)<12)=false:=by simp;omega
   have F0:decide (z-12<(a:Int))=true:=by simp;omega
   clear h1 h2 I g0 u y M h0 hz;go_enter Tryz.func181,Tryz.ntmps181;go_wp2_with fail;refine Q.o.mono ?_;rintro e w1 ⟨rfl,d⟩;have V:=η d;have I:=q0A d O.o;have cz:=q0A d e0.o;clear d;go_wp2_with fail;go_ret2;exact ReadR.no HK.o V.o HA.o
 have Z:12<=a:=by omega
 have R0:a+12<=q0I ps:=by omega
 have y0:decide ((a:Int)<12)=false:=by simp;omega
 have F0:decide (z-12<(a:Int))=false:=by simp;omega
 obtain⟨S,hS⟩: ∃S,q0L n ps=S:=⟨_,rfl⟩
 rw[hS] at y u;obtain⟨N,b0⟩: ∃N,q3t S a=N:=⟨_,rfl⟩
 have U:q1O (((S.drop a).take 4).take 8)=N:=by rw[Δ (by simp;omega),<-b0];rfl
 have L0:N<4294967296:=by
  rw[<-U];have:=q2O (((S.drop a).take 4).take 8);have h4:(((S.drop a).take 4).take 8).length=4:=by simp;omega
  rw[h4] at this;exact this
 have n0:=q2l (n:Int);have q0:=η (fun W=>q3j (n:Int) W);have k0:=η (fun (W:World) (k:Ext w W)=>q6O (h1.grow k) h2 u n0 (a:Int) 4 a0 (by decide) (by rw[y];omega) (by rw[y];omega));have HG:=η (fun W=>q9l ((S.drop a).take 4) W (by simp;omega));rw[U] at HG;have e4:(4:Int).toNat=4:=rfl;simp only[Int.toNat_natCast,e4] at k0;have HH:=η h1;have HL:=η h2;have M0:a+12<=S.length:=by omega
 have HZ:=η hz;have x0:=η y;have o0:=η h1.l.c0;have d0:Hd (∀(W:World) (F':Nat->Prop) (τ:DM),LgF w0 W g gl F' (.slice (some ⟨b,0,none⟩) C.length sk) τ s (q0M C) sure K->W.cell? ⟨gl,0,none⟩=some (.pointer (some ⟨g,0,none⟩))/\W.cell? ⟨gl,3,none⟩=some (.slice (some ⟨b,0,none⟩) C.length sk)/\W.cell? ⟨b,n,none⟩=some (.int .i64 z)):=η fun W F' τ hW=>by
  obtain⟨b2,k2,e1,e2,_⟩:=hW.cellAt M
  cases e1;rw[hz] at e2;exact⟨hW.l.c0,hW.l.c3,e2⟩
 by_cases R:2000<N\/S.length<a+N+12
 ·have HA:Hd (q5y C pos=([],4)):=η (by
   rw[f0.o];have:q5P S a=none:=by
    unfold q5P isR;rw[b0];rcases R with h|h
    ·rw[ε (p:=N<=2000) (by omega)];simp
    ·rw[ε (p:=a+N+12<=S.length) (by omega)];simp
   simp only[ξ Z,hS,this])
  clear h1 h2 I g0 u y M h0 hz b0 U hS n0;by_cases i:2000<N
  ·have A0:decide ((2000:Int)<(N:Int))=true:=by simp;omega
   clear R;go_enter Tryz.func181,Tryz.ntmps181;go_wp2_with fail;refine Q.o.mono ?_;rintro e w1 ⟨rfl,d⟩;have V:=η d;have I:=q0A d O.o;have cz:=q0A d e0.o;clear d;go_wp2_with fail;refine(q0.o _).mono ?_;rintro e wa ⟨rfl,d⟩;have G:=η (V.o.trans d);clear d I cz;have c0:=q0A G.o o0.o;go_wp2_with fail;refine(k0.o _ G.o).mono ?_;rintro e wb ⟨rfl,⟨F',σ',j,i⟩,m⟩;have B:=η j;have X:=η i;have Y:=η ((HK.o.kExt G.o).trans m);clear j i m c0;go_wp2_with fail;refine(HG.o _).mono ?_;rintro e wc ⟨rfl,d⟩;have J:=η d;obtain⟨c0,I,cz⟩:=d0.o _ _ _ (B.o.grow d);clear d;go_wp2_with fail;go_ret2;exact⟨by rw[HA.o];rfl,⟨_,_,σ',B.o.grow J.o,X.o⟩,Y.o.trans (B.o.kExt J.o)⟩
  ·have A0:decide ((2000:Int)<(N:Int))=false:=by simp;omega
   have G0:decide (z-12-(a:Int)<(N:Int))=true:=by have:=HZ.o;have:=x0.o;simp;omega
   clear R;go_enter Tryz.func181,Tryz.ntmps181;go_wp2_with fail;refine Q.o.mono ?_;rintro e w1 ⟨rfl,d⟩;have V:=η d;have I:=q0A d O.o;have cz:=q0A d e0.o;clear d;go_wp2_with fail;refine(q0.o _).mono ?_;rintro e wa ⟨rfl,d⟩;have G:=η (V.o.trans d);clear d I cz;have c0:=q0A G.o o0.o;go_wp2_with fail;refine(k0.o _ G.o).mono ?_;rintro e wb ⟨rfl,⟨F',σ',j,i⟩,m⟩;have B:=η j;have X:=η i;have Y:=η ((HK.o.kExt G.o).trans m);clear j i m c0;go_wp2_with fail;refine(HG.o _).mono ?_;rintro e wc ⟨rfl,d⟩;have J:=η d;obtain⟨c0,I,cz⟩:=d0.o _ _ _ (B.o.grow d);clear d;go_wp2_with fail;go_ret2;exact⟨by rw[HA.o];rfl,⟨_,_,σ',B.o.grow J.o,X.o⟩,Y.o.trans (B.o.kExt J.o)⟩
 have A0:decide ((2000:Int)<(N:Int))=false:=by simp;omega
 have G0:decide (z-12-(a:Int)<(N:Int))=false:=by simp;omega
 have K0:(N:Int)<=2000:=by omega
 have D0:((N:Int)+12).toNat=N+12:=by omega
 have r0:=η (fun (W:World) (F':Nat->Prop) (τ:DM) (hW:LgF w0 W g gl F' (.slice (some ⟨b,0,none⟩) C.length sk) τ s (q0M C) sure K) (hp:Lgd E τ c s C sure)=>q6O hW hp u n0 (a:Int) ((N:Int)+12) a0 (by omega) (by rw[y];omega) (by rw[y];omega));simp only[Int.toNat_natCast,D0] at r0;obtain⟨T,hT⟩: ∃T,(S.drop a).take (N+12)=T:=⟨_,rfl⟩
 have N0:T.length=N+12:=by rw[<-hT];simp;omega
 rw[hT] at r0;have j0:=η (fun W=>q9n T 0 W (by omega) (by omega));have hcut:q5P T 0=(q5P S a).map fun r=>(r.1,r.2-a):=by
  have:=z8x (s:=S) (a:=a) (by rw[b0];omega);rw[b0,hT] at this;exact this
 rw[Int.natCast_zero] at j0
 cases hg:q5P S a with
 | none=>
  have HA:Hd (q5y C pos=([],4)):=η (by rw[f0.o];simp only[ξ Z,hS,hg]);have l0:z1C T 0= .tuple #[.string ⟨#[]⟩,.int .i64 0,.bool false]:=by unfold z1C;rw[hcut,hg];rfl
  rw[l0] at j0;clear h1 h2 I g0 u y M h0 hz b0 U hS n0 R hT hcut hg l0;go_enter Tryz.func181,Tryz.ntmps181;go_wp2_with fail;refine Q.o.mono ?_;rintro e w1 ⟨rfl,d⟩;have V:=η d;have I:=q0A d O.o;have cz:=q0A d e0.o;clear d;go_wp2_with fail;refine(q0.o _).mono ?_;rintro e wa ⟨rfl,d⟩;have G:=η (V.o.trans d);clear d I cz;have c0:=q0A G.o o0.o;go_wp2_with fail;refine(k0.o _ G.o).mono ?_;rintro e wb ⟨rfl,⟨F',σ',j,i⟩,m⟩;have B:=η j;have X:=η i;have Y:=η ((HK.o.kExt G.o).trans m);clear j i m c0;go_wp2_with fail;refine(HG.o _).mono ?_;rintro e wc ⟨rfl,d⟩;have J:=η d;obtain⟨c0,I,cz⟩:=d0.o _ _ _ (B.o.grow d);clear d;go_wp2_with fail;refine(r0.o _ _ _ (B.o.grow J.o) X.o).mono ?_;rintro e wd ⟨rfl,⟨F2,v0,j,i⟩,m⟩;have i0:=η j;have t0:=η i;have u0:=η ((Y.o.trans (B.o.kExt J.o)).trans m);clear j i m c0 I cz;go_wp2_with fail;refine(j0.o _).mono ?_;rintro e we ⟨rfl,d⟩;have HE:=η d;clear d;go_wp2_with fail;go_ret2;exact⟨by rw[HA.o];rfl,⟨_,_,v0,i0.o.grow HE.o,t0.o⟩,u0.o.trans (i0.o.kExt HE.o)⟩
 | some r=>
  obtain⟨q,e⟩:=r;have HA:Hd (q5y C pos=(q,0)):=η (by rw[f0.o];simp only[ξ Z,hS,hg]);have l0:z1C T 0= .tuple #[.string ⟨q.toArray⟩,.int .i64 ((e-a:Nat):Int),.bool true]:=by unfold z1C;rw[hcut,hg];rfl
  rw[l0] at j0;generalize ((e-a:Nat):Int)=ea at*;clear h1 h2 I g0 u y M h0 hz b0 U hS n0 R hT hcut hg l0;go_enter Tryz.func181,Tryz.ntmps181;go_wp2_with fail;refine Q.o.mono ?_;rintro e w1 ⟨rfl,d⟩;have V:=η d;have I:=q0A d O.o;have cz:=q0A d e0.o;clear d;go_wp2_with fail;refine(q0.o _).mono ?_;rintro e wa ⟨rfl,d⟩;have G:=η (V.o.trans d);clear d I cz;have c0:=q0A G.o o0.o;go_wp2_with fail;refine(k0.o _ G.o).mono ?_;rintro e wb ⟨rfl,⟨F',σ',j,i⟩,m⟩;have B:=η j;have X:=η i;have Y:=η ((HK.o.kExt G.o).trans m);clear j i m c0;go_wp2_with fail;refine(HG.o _).mono ?_;rintro e wc ⟨rfl,d⟩;have J:=η d;obtain⟨c0,I,cz⟩:=d0.o _ _ _ (B.o.grow d);clear d;go_wp2_with fail;refine(r0.o _ _ _ (B.o.grow J.o) X.o).mono ?_;rintro e wd ⟨rfl,⟨F2,v0,j,i⟩,m⟩;have i0:=η j;have t0:=η i;have u0:=η ((Y.o.trans (B.o.kExt J.o)).trans m);clear j i m c0 I cz;go_wp2_with fail;refine(j0.o _).mono ?_;rintro e we ⟨rfl,d⟩;have HE:=η d;clear d;go_wp2_with fail;go_ret2;exact⟨by rw[HA.o];rfl,⟨_,_,v0,i0.o.grow HE.o,t0.o⟩,u0.o.trans (i0.o.kExt HE.o)⟩
end
section
variable {E :Oth}{w0 w:World}{g gl:Nat}{F K:Nat->Prop}{v:Value}{σ:DM}{c s sure:Int}{C:Cks}
theorem Lgd.free(h:Lgd E σ c s C k):z2M σ=c-(q0j C:Int):=by rw[h.pl.free,q7R];push_cast;omega
theorem Dk.okD{F:Nat->Prop}(h:Dk w g F σ):okD σ:=by obtain⟨b,_⟩:=h;exact b
theorem LgF.room0{xs:List Int}(h:LgF w0 w g gl F v σ s xs sure K)(j:Lgd E σ c s C k):0<=c-(q0j C:Int)/\c-(q0j C:Int)<=1048576:=by
 have b:=h.d.okD;have i:=j.free;have m:=b.used;have o:=b.cap1;unfold z2M at i;omega
theorem LgF.setRow{xs:List Int}(h:LgF w0 w g gl F v σ s xs sure K){b k:Nat}(o:v= .slice (some ⟨b,0,none⟩) xs.length k)(j:Nat)(z:Int):LgF w0 (w.setCell ⟨b,j,none⟩ (.int .i64 z)) g gl F v σ s (xs.set j z) sure K/\Stay K w (w.setCell ⟨b,j,none⟩ (.int .i64 z)):=by
 have m:v.ownBlock=some b:=by rw[o];rfl
 have d:¬gl=b:=fun e=>h.l.apart (by rw[m,e])
 refine h.log ⟨(OffS.set (F:=fun i=>i=b) w rfl j (.int .i64 z)).blk h.l.blk d,?_⟩ (OffS.set w (.inr m) j _) fun i q=> .inl q
 have:=z5Q h.l.row o (j:=j) (.int .i64 z);rw[List.length_set,List.map_set];exact this
theorem LgF.last(h:LgF w0 w g gl F v σ s (q0M (D++[ps])) sure K):
  ∃b k,v= .slice (some ⟨b,0,none⟩) (D.length+1) k/\w.cell? ⟨b,D.length,none⟩=some (.int .i64 (q0I ps:Int))/\w.frozen? ⟨b,D.length,none⟩=false:=by
 have d:(q0M (D++[ps])).length=D.length+1:=by rw[q0a];simp
 obtain⟨b,k,m,o,q,_⟩:=(Own.of_row h.l.row).cell (j:=D.length) (by rw[List.length_map,d];omega);have i:((q0M (D++[ps])).map (Value.int .i64))[D.length]'(by rw[List.length_map,d];omega)= .int .i64 (q0I ps:Int):=by
  rw[List.getElem_map]
  congr 1
  have:=q8C D ps;rw[δ,γ (by rw[d];omega)] at this;exact this
 rw[i] at o;rw[d] at m;exact⟨b,k,m,o,q⟩
theorem z5s(h:LgF w0 w g gl F v σ s (q0M C) sure K)(b:Lgd E σ c s C sure)(n:Int)(R:List UInt8)(B:R.length<=2012)(y:c-(q0j C:Int)-(R.length:Int)<6000):
  Calls Tryz.prog 149 #[.pointer (some ⟨gl,0,none⟩),.int .i64 n,.string ⟨R.toArray⟩] w fun e w'=>e= .returned (.tuple #[.int .i64 0,.int .i64 60])/\Ext w w':=by
 obtain⟨m,q⟩:=h.room0 b;have d:=η (z4F h b.free m q (R.length:Int) (by omega) (by omega));have j:decide ((6000:Int)<=c-(q0j C:Int)-(R.length:Int))=false:=by simp;omega
 rw[j] at d;clear h b j m q y;go_enter Tryz.func149,Tryz.ntmps149;go_wp2_with fail;refine d.o.mono ?_;rintro e w1 ⟨rfl,i⟩;have u:=η i;clear i;go_wp2_with fail;go_ret2;exact⟨rfl,u.o⟩
theorem z8P(h:LgF w0 w g gl F v σ s (q0M (D++[ps])) sure K)(i:Lgd E σ c s (D++[ps]) sure)(hp:p.length<=2000)(hs:q0I ps+(p.length+12)<=4096)
  (hr:6000<=c-(q0j (D++[ps]):Int)-((p.length:Int)+12)):
  Calls Tryz.prog 149 #[.pointer (some ⟨gl,0,none⟩),.int .i64 (D.length:Int),.string ⟨(q2F p).toArray⟩] w fun e w'=>
   e= .returned (.tuple #[.int .i64 ((D.length:Int)*4096+(q0I ps:Int)),.int .i64 0])/\LgK E w0 w' g gl c s (D++[ps++[p]]) sure K/\Stay K w w':=by
 obtain⟨r0,r1⟩:=h.room0 i;have j:=i.ok.few;have q:D.length+1<=200:=by simpa using j
 have f0:=q0g p;have HR:=η (z4F h i.free r0 r1 ((q2F p).length:Int) (by omega) (by omega));have hd:decide ((6000:Int)<=c-(q0j (D++[ps]):Int)-((q2F p).length:Int))=true:=by simp;omega
 rw[hd] at HR;obtain⟨σ',hm,u⟩:=i.pl.append (t:=q2F p) (q3O i.oth j (q9W D ps)) (by rw[q7R];push_cast;omega);rw[z5w i.oth p (by omega)] at u;have m:=i.le;have g0:Sur σ'.L (D.length+1) sure:=z4X hm (by have:=i.sr;rwa [θ,List.length_singleton] at this) rfl fun f hf e=>by
  rw[i.lastLen h.d.okD hf e];rw[q1C] at m;exact m
 have HP:Hd (Lgd E σ' c s (D++[ps++[p]]) sure):=η ⟨u,i.ok.grow hp hs,i.oth,by rwa [θ,List.length_singleton],by rw[q1C] at m⊢;rw[q2P];omega⟩;clear m g0;have J:=q2l (D.length:Int)
 have U:=η (fun (Q:World) (k:Ext w Q)=>show Calls Tryz.prog 208 #[.pointer (some ⟨g,0,none⟩),.string ⟨(q0C 99 (D.length:Int)).toArray⟩,.string ⟨(q2F p).toArray⟩] Q fun e w'=>e= .returned (.int .i64 0)/\DkS Q g F σ' w' by
  have:=q9P (h.d.ext k) (q0C 99 (D.length:Int)) (q2F p) J (by omega);rw[hm] at this
  exact this)
 have X:=η (fun W=>q3j (D.length:Int) W);have c0:=h.l.c0;have y:=η c0;have HH:=η h
 have e0:Hd ((q0M (D++[ps])).set D.length ((q0I ps:Int)+((q2F p).length:Int))=q0M (D++[ps++[p]])):=η (by
  rw[<-z5T D ps (ps++[p]),q2P,q0g];congr 1)
 have B:=η (fun (W:World) (F':Nat->Prop) (τ:DM) (hW:LgF w0 W g gl F' v τ s (q0M (D++[ps])) sure K)=>hW.last);have M:(q0M (D++[ps])).length=D.length+1:=by rw[q0a];simp
 have a0:=η M;have z0:(0:Int)<=(q0I ps:Int):=by omega
 have z1:(q0I ps:Int)<=4096:=by omega
 have h0:(q2F p).length<=2012:=by omega
 have i0:D.length<=199:=by omega
 generalize q0C 99 (D.length:Int)=nm at*;generalize q2F p=R at*;generalize (q0I ps:Int)=z at*;generalize D.length=n at*;clear h i u hm hd r0 r1 hr hs f0 j q hp J M;go_enter Tryz.func149,Tryz.ntmps149;go_wp2_with fail;refine HR.o.mono ?_;rintro e w1 ⟨rfl,I⟩;have HB:=η I;have d0:=q0A I y.o;have G:=q0A (I.drew) y.o;have V:=η I.drew;clear I c0;go_wp2_with fail
 go_region_held3 (fun W=>W.cell? ⟨gl,0,none⟩=some (.pointer (some ⟨g,0,none⟩)))
  (first|exact Z.o|exact Y.o|exact G)
  (first
   |(go_at_call 161;refine(X.o _).mono ?_;rintro e Q ⟨rfl,h1⟩;have S:=η (V.o.trans h1);have Y:=η (q0A h1 G);clear h1)
   |(go_at_call 208;refine(U.o _ S.o).mono ?_;rintro e wb ⟨rfl,h2⟩;have h3:=(HH.o.grow S.o).disk h2;have N:=η h3;have Z:=η h3.1.l.c0;clear h2 h3))
 all_goals
  obtain⟨b,k,rfl,e2,z2⟩:=B.o _ _ _ N.o.1;have e3:=N.o.1.l.c3;have O:=N.o.1.setRow (by rw[a0.o]) n (z+(R.length:Int));rw[e0.o] at O;have HF:=η (show LgK E w0 (wb.setCell ⟨b,n,none⟩ (.int .i64 (z+(R.length:Int)))) g gl c s (D++[ps++[p]]) sure K from⟨_,_,σ',O.1,HP.o⟩);have b0:=η ((HH.o.kExt S.o).trans (N.o.2.trans O.2));clear O;go_wp2_with fail;go_ret2;exact⟨rfl,HF.o,b0.o⟩
end
def LgP(E:Oth)(w0 w:World)(g gl:Nat)(c s:Int)(l:List (List UInt8×List UInt8))(xs:List Int)(sure:Int)(Q:List FM->Prop)(K:Nat->Prop):Prop:= ∃F v σ,LgF w0 w g gl F v σ s xs sure K/\okOth E/\Pl σ (c+(q1V E:Int)) s l/\Q σ.L
theorem z5v{w w':World}{b:Nat}(h:w'.heap[b]? =w.heap[b]?)(o:Nat):w'.cell? ⟨b,o,none⟩=w.cell? ⟨b,o,none⟩:=by simp only[World.cell?,h]
theorem q0b{K:Nat->Prop}{w w':World}(h:Stay K w w'){b o:Nat}(hK:K b){u:Value}(hc:w.cell? ⟨b,o,none⟩=some u):w'.cell? ⟨b,o,none⟩=some u:=(z5v (h b hK) o).trans hc
section
variable {E :Oth}{w0 w:World}{g gl:Nat}{F K:Nat->Prop}{v:Value}{σ:DM}{c s sure:Int}{C:Cks}{xs:List Int}
theorem z8M(h:LgP E w0 w g gl c s (q2a E C) xs sure AllS K)(hC:C.length<200)(kl:K bl)(kn:K bn)(y:w.cell? ⟨bl,0,none⟩=some (.pointer (some ⟨gl,0,none⟩)))(B:w.cell? ⟨bn,0,none⟩=some (.int .i64 (C.length:Int))):
  Calls Tryz.prog 210 #[.pointer (some ⟨bl,0,none⟩),.pointer (some ⟨bn,0,none⟩)] w fun e w'=>e= .returned (.int .i64 0)/\LgP E w0 w' g gl c s (z4i E C) xs sure AllS K/\Stay K w w':=by
 obtain⟨F,v,σ,h,q,hp,hQ⟩:=h;have V:=h.l.c0;have I:q2G (q0C 99 (C.length:Int))=true:=by rw[q0U (by omega)];simp[q2G,q0Y]
 obtain⟨σ',hm,i⟩:=hp.create (z5x q (by omega) (ι _) (by omega)) I (by rw[q7Q];have:=q.few;omega);rw[z8R q (by omega)] at i;have u:=q8g hm hQ;have G:=q2l (C.length:Int)
 have Q:=η (fun (M:World) (k:Ext w M)=>show Calls Tryz.prog 211 #[.pointer (some ⟨g,0,none⟩),.string ⟨(q0C 99 (C.length:Int)).toArray⟩] M fun e w'=>e= .returned (.int .i64 0)/\DkS M g F σ' w' by
  have:=z3T (h.d.ext k) (q0C 99 (C.length:Int)) G;rw[hm] at this
  exact this)
 have O:=η (fun W=>q3j (C.length:Int) W);have HP:=η (And.intro q (And.intro i u));have U:=η h;have J:Ext w w.drew:=(Ext.refl w).drew;have HW:=η J;have X:=q0A J V;have Y:=q0A J y;have Z:=q0A J B;generalize q0C 99 (C.length:Int)=nm at*;generalize C.length=n at*;clear h hp i q hm I G J V y B hQ u;go_enter Tryz.func210,Tryz.ntmps210;go_wp2_with fail
 go_region_held3 (fun W=>W.cell? ⟨gl,0,none⟩=some (.pointer (some ⟨g,0,none⟩))/\W.cell? ⟨bl,0,none⟩=some (.pointer (some ⟨gl,0,none⟩))/\W.cell? ⟨bn,0,none⟩=some (.int .i64 (n:Int)))
  (first|exact R.o|exact b.o|exact⟨X,Y,Z⟩)
  (first
   |(go_at_call 161;refine(O.o _).mono ?_;rintro e M ⟨rfl,j⟩;have N:=η (HW.o.trans j);have b:=η (And.intro (q0A j X) (And.intro (q0A j Y) (q0A j Z)));clear j)
   |(go_at_call 211;refine(Q.o _ N.o).mono ?_;rintro e wb ⟨rfl,h2⟩;have m:=(U.o.grow N.o).disk h2;have S:=η m;have R:=η (And.intro m.1.l.c0 (And.intro (q0b m.2 kl b.o.2.1) (q0b m.2 kn b.o.2.2)));clear h2 m))
 all_goals
  go_wp2_with fail;go_ret;exact⟨rfl,⟨_,_,σ',S.o.1,HP.o⟩,(U.o.kExt N.o).trans S.o.2⟩
theorem z8N(h:LgP E w0 w g gl c s (z4i E C) xs sure AllS K)(hC:C.length<200)(hp:p.length<=2000)(hr:(p.length:Int)+24<=c-(q0j C:Int))(kl:K bl)(kn:K bn)(kr:K br)
  (I:w.cell? ⟨bl,0,none⟩=some (.pointer (some ⟨gl,0,none⟩)))(J:w.cell? ⟨bn,0,none⟩=some (.int .i64 (C.length:Int)))(M:w.cell? ⟨br,0,none⟩=some (.string ⟨(q2F p).toArray⟩)):
  Calls Tryz.prog 212 #[.pointer (some ⟨bl,0,none⟩),.pointer (some ⟨bn,0,none⟩),.pointer (some ⟨br,0,none⟩)] w fun e w'=>e= .returned (.int .i64 0)/\LgP E w0 w' g gl c s (q2a E (C++[[p]])) xs sure (fun L=>Sur L (C.length+1) ((C.length:Int)*4096)) K/\Stay K w w':=by
 obtain⟨F,v,σ,h,Q,O,hQ⟩:=h;have c0:=h.l.c0;have hf:q0F Prod.fst (q0C 99 (C.length:Int)) (z4i E C)=some (q0C 99 (C.length:Int),[]):=by
  exact z5z Q (by omega)
 have G:=q0g p;have y:=q1b C.length
 obtain⟨σ',hm,m⟩:=O.append (t:=q1Y C.length++q2F p) hf (by
  rw[z6A,θ,G,y]
  push_cast
  omega)
 rw[z4f Q p (by omega)] at m;have B:=z4W hm hQ rfl;have N:=q2l (C.length:Int)
 have V:=η (fun (S:World) (k:Ext w S)=>show Calls Tryz.prog 208 #[.pointer (some ⟨g,0,none⟩),.string ⟨(q0C 99 (C.length:Int)).toArray⟩,.string (⟨(q1Y C.length).toArray⟩++⟨(q2F p).toArray⟩)] S fun e w'=>e= .returned (.int .i64 0)/\DkS S g F σ' w' by
  have:=q9P (h.d.ext k) (q0C 99 (C.length:Int)) (q1Y C.length++q2F p) N (by rw[θ];omega);rw[hm] at this;rw[q3d]
  exact this)
 have X:=η (fun W=>q3j (C.length:Int) W);have Y:=η (fun W=>q9S C.length W hC);have HP:=η (And.intro Q (And.intro m B));have HH:=η h;have u:Ext w w.drew:=(Ext.refl w).drew;have HW:=η u;have d0:=q0A u c0;have d1:=q0A u I;have d2:=q0A u J;have d3:=q0A u M;have a0:¬(9223372036854775807<(q1Y C.length).length+(q2F p).length):=by omega
 clear h O Q m hm hf N u c0 I J M G y hr hp hQ B;generalize q2F p=R at*;generalize q1Y C.length=Hd at*;generalize q0C 99 (C.length:Int)=nm at*;generalize C.length=n at*;go_enter Tryz.func212,Tryz.ntmps212;go_wp2_with fail
 go_region_held3 (fun W=>W.cell? ⟨gl,0,none⟩=some (.pointer (some ⟨g,0,none⟩))/\W.cell? ⟨bl,0,none⟩=some (.pointer (some ⟨gl,0,none⟩))/\W.cell? ⟨bn,0,none⟩=some (.int .i64 (n:Int))/\W.cell? ⟨br,0,none⟩=some (.string ⟨R.toArray⟩))
  (first|exact Z.o|exact j.o|exact i.o|exact⟨d0,d1,d2,d3⟩)
  (first
   |(go_at_call 161;refine(X.o _).mono ?_;rintro e S ⟨rfl,b⟩;have H1:=η (HW.o.trans b);have i:=η (And.intro (q0A b d0) (And.intro (q0A b d1) (And.intro (q0A b d2) (q0A b d3))));clear b)
   |(go_at_call 213;refine(Y.o _).mono ?_;rintro e wc ⟨rfl,b⟩;have U:=η (H1.o.trans b);have j:=η (And.intro (q0A b i.o.1) (And.intro (q0A b i.o.2.1) (And.intro (q0A b i.o.2.2.1) (q0A b i.o.2.2.2))));clear b)
   |(go_at_call 208;refine(V.o _ U.o).mono ?_;rintro e wb ⟨rfl,h2⟩;have q:=(HH.o.grow U.o).disk h2;have H3:=η q;have Z:=η (And.intro q.1.l.c0 (And.intro (q0b q.2 kl j.o.2.1) (And.intro (q0b q.2 kn j.o.2.2.1) (q0b q.2 kr j.o.2.2.2))));clear h2 q))
 all_goals
  go_wp2_with fail;go_ret;exact⟨rfl,⟨_,_,σ',H3.o.1,HP.o⟩,(HH.o.kExt U.o).trans H3.o.2⟩
end
section
variable {E :Oth}{w0 w:World}{g gl:Nat}{F K:Nat->Prop}{v:Value}{σ:DM}{c s sure:Int}{C:Cks}{xs:List Int}
theorem LgK.toP(h:LgK E w0 w g gl c s C (q0X C sure) K):LgP E w0 w g gl c s (q2a E C) (q0M C) (q0X C sure) AllS K:=by
 obtain⟨F,v,σ,i,b⟩:=h;exact⟨F,v,σ,i,b.oth,b.pl,b.allS i.d.okD⟩
theorem LgK.le(h:LgK E w0 w g gl c s C sure K):okC C/\sure<=q2d C:=by
 obtain⟨F,v,σ,d,b⟩:=h;exact⟨b.ok,b.le⟩
theorem LgP.grow{l:List (List UInt8×List UInt8)}{Q:List FM->Prop}(h:LgP E w0 w g gl c s l xs sure Q K){w1:World}(k:Ext w w1):LgP E w0 w1 g gl c s l xs sure Q K:=by
 obtain⟨F,v,σ,b,d⟩:=h;exact⟨F,v,σ,b.grow k,d⟩
def z3I(E:Oth)(w0:World)(g gl:Nat)(c s:Int)(C:Cks)(p:List UInt8)(sure:Int)(K:Nat->Prop):Nat->World->Prop
 |0,W=>LgK E w0 W g gl c s C sure K
 |1,W=>LgP E w0 W g gl c s (q2a E C) (q0M C) (q0X C sure) AllS K
 |2,W=>LgP E w0 W g gl c s (z4i E C) (q0M C) (q0X C sure) AllS K
 |_,W=>LgP E w0 W g gl c s (q2a E (C++[[p]])) (q0M C) (q0X C sure) (fun L=>Sur L (C.length+1) ((C.length:Int)*4096)) K
theorem y1q(h:LgK E w0 w g gl c s C sure K)(hC:C.length<200)(hp:p.length<=2000)(hr:(p.length:Int)+24<=c-(q0j C:Int)){b:Nat}(V:K b)(kl:K bl)(kn:K bn)(Z:K br)
  (M:w.cell? ⟨b,0,none⟩=some (.func (.func 168) #[.pointer (some ⟨gl,0,none⟩)] #[]))
  (N:w.cell? ⟨b,1,none⟩=some (.func (.func 210) #[] #[.pointer (some ⟨bl,0,none⟩),.pointer (some ⟨bn,0,none⟩)]))
  (O:w.cell? ⟨b,2,none⟩=some (.func (.func 212) #[] #[.pointer (some ⟨bl,0,none⟩),.pointer (some ⟨bn,0,none⟩),.pointer (some ⟨br,0,none⟩)]))
  (Q:w.cell? ⟨bl,0,none⟩=some (.pointer (some ⟨gl,0,none⟩)))(R:w.cell? ⟨bn,0,none⟩=some (.int .i64 (C.length:Int)))(S:w.cell? ⟨br,0,none⟩=some (.string ⟨(q2F p).toArray⟩)):
  Calls Tryz.prog 209 #[.slice (some ⟨b,0,none⟩) 3 3] w fun e w'=>e= .returned (.int .i64 0)/\LgP E w0 w' g gl c s (q2a E (C++[[p]])) (q0M C) (q0X C sure) (fun L=>Sur L (C.length+1) ((C.length:Int)*4096)) K/\Stay K w w':=by
 have H:=η h;have HB:=η (show∀W,Stay K w W->W.cell? ⟨b,0,none⟩=_/\W.cell? ⟨b,1,none⟩=_/\W.cell? ⟨b,2,none⟩=_ from fun W k=>⟨q0b k V M,q0b k V N,q0b k V O⟩);have HL:=η (show∀W,Stay K w W->W.cell? ⟨bl,0,none⟩=_/\W.cell? ⟨bn,0,none⟩=_/\W.cell? ⟨br,0,none⟩=_ from fun W k=>⟨q0b k kl Q,q0b k kn R,q0b k Z S⟩);have G:=η kl;have I:=η kn;have X:=η Z;have HC:=η hC;have Y:=η hp;have HR:=η hr;clear h V kl kn Z M N O Q R S hC hp hr;go_enter Tryz.func209,Tryz.ntmps209;go_wp2_with fail
 go_loopw [8] (fun i W=> ∃k:Nat,k<=3/\i= .int .i64 (k:Int)/\z3I E w0 g gl c s C p sure K k W/\Stay K w W) (fun i _=>3-(intOf i).toNat)
 case atStart=>exact⟨0,by omega,rfl,H.o,Stay.refl _ _⟩
 case round=>
  obtain⟨k,hk,rfl,hs,u⟩:=hrel;have U:=η hs;have q:=η u;obtain⟨q0,q1,q2⟩:=HB.o wr u;have d:=η (HL.o wr u);clear hs u;obtain rfl|rfl|rfl|rfl:k=0\/k=1\/k=2\/k=3:=by omega
  ·have J:Hd (Calls Tryz.prog 168 #[.pointer (some ⟨gl,0,none⟩)] wr fun e w'=>e= .returned (.int .i64 0)/\LgK E w0 w' g gl c s C (q0X C sure) K/\Stay K wr w'):=η (by
    obtain⟨F,v,σ,j,m⟩:=U.o
    exact y0w j m)
   go_wp2_with fail;refine J.o.mono ?_;rintro e w1 ⟨rfl,j,m⟩;have y:=η (show z3I E w0 g gl c s C p sure K 1 w1 from j.toP);have B:=η (q.o.trans m);clear j m;go_wp2_with fail
   go_roundw
   case rel=>exact⟨1,by omega,by go_num,y.o,B.o⟩
   case measure=>simp[intOf]
  ·have J:=η (z8M U.o HC.o G.o I.o d.o.1 d.o.2.1)
   go_wp2_with fail;refine J.o.mono ?_;rintro e w1 ⟨rfl,j,m⟩;have y:=η (show z3I E w0 g gl c s C p sure K 2 w1 from j);have B:=η (q.o.trans m);clear j m;go_wp2_with fail
   go_roundw
   case rel=>exact⟨2,by omega,by go_num,y.o,B.o⟩
   case measure=>simp[intOf]
  ·have J:=η (z8N U.o HC.o Y.o HR.o G.o I.o X.o d.o.1 d.o.2.1 d.o.2.2)
   go_wp2_with fail;refine J.o.mono ?_;rintro e w1 ⟨rfl,j,m⟩;have y:=η (show z3I E w0 g gl c s C p sure K 3 w1 from j);have B:=η (q.o.trans m);clear j m;go_wp2_with fail
   go_roundw
   case rel=>exact⟨3,by omega,by go_num,y.o,B.o⟩
   case measure=>simp[intOf]
  ·go_wp2_with fail
   go_ret;exact⟨rfl,U.o,q.o⟩
end
section
variable {E :Oth}{w0 w:World}{g gl:Nat}{F K:Nat->Prop}{v:Value}{σ:DM}{c s sure:Int}{C:Cks}{xs:List Int}
theorem LgF.push{B w':World}(h:LgF w0 w3 g gl F v σ s xs sure K)(y:Ext w3 B){z:Int}{d:Value}(o:w'.ownsRow 0 3 1 d (xs.length+1) (xs.map (Value.int .i64)++[.int .i64 z]))(b:B.grownBy w' v.ownBlock)
  (m:d.ownBlock=v.ownBlock\/d.ownBlock=some B.heap.size):
  LgF w0 (w'.setCell ⟨gl,3,none⟩ d) g gl F d σ s (xs++[z]) sure K/\Stay K w3 (w'.setCell ⟨gl,3,none⟩ d):=by
 have I:=h.l.blk.lt;have J:=y.size;have u:d.ownBlock≠some gl:=fun e=>by
  rcases m with j|j
  ·exact h.l.apart (j.symm.trans e)
  ·rw[j] at e;cases e;omega
 have G:Blk w' gl 226 #[.pointer (some ⟨g,0,none⟩),.int .i64 s,.bool false,v,.int .i64 sure]:=(h.l.blk.ext y).same (b.block gl (by omega) fun e=>h.l.apart e.symm);refine h.log ⟨G.set 3 d,?_⟩ (((OffS.of_ext y).trans (OffS.grown b fun i e=> .inr e)).trans (OffS.set w' (.inl rfl) 3 d)) fun i q=>?_
 ·rw[θ,List.map_append]
  exact q1D o d u
 ·rcases m with j|j
  ·exact .inl (j.symm.trans q)
  ·right;rw[j] at q;cases q;exact J
theorem LgF.pushed{m w':World}(h:LgF w0 w3 g gl F v σ s xs sure K)(d:Ext w3 m)(b:m.grownBy w' v.ownBlock):Stay K w3 w'/\w'.cell? ⟨gl,3,none⟩=some v/\w'.frozen? ⟨gl,3,none⟩=false:=by
 have y:=h.l.blk.lt;have B:=d.size;have j:Blk w' gl 226 #[.pointer (some ⟨g,0,none⟩),.int .i64 s,.bool false,v,.int .i64 sure]:=(h.l.blk.ext d).same (b.block gl (by omega) fun e=>h.l.apart e.symm);refine⟨fun i u=>?_,j.cell 3,j.free 3⟩;obtain⟨o,_,q⟩:=h.k i u;exact(b.block i (by omega) fun e=>q (.inr e.symm)).trans (d.block i o)
theorem z8O(h:LgF w0 w g gl F v σ s (q0M C) sure K)(d:Lgd E σ c s C sure)(R:List UInt8)(I:R.length<=2012)(y:200<=C.length\/c-(q0j C:Int)-((R.length:Int)+12)<6000):
  Calls Tryz.prog 150 #[.pointer (some ⟨gl,0,none⟩),.int .i64 (C.length:Int),.string ⟨R.toArray⟩] w fun e w'=>e= .returned (.tuple #[.int .i64 0,.int .i64 60])/\Ext w w':=by
 obtain⟨j,m⟩:=h.room0 d;have q:=d.ok.few;have i:=η (fun (W:World) (k:Ext w W)=>z4F (h.grow k) d.free j m (12+(R.length:Int)) (by omega) (by omega));by_cases J:200<=C.length
 ·have G:decide ((200:Int)<=(C.length:Int))=true:=by simp;omega
  clear h d i j m y;go_enter Tryz.func150,Tryz.ntmps150;go_wp2_with fail;go_ret2;exact⟨rfl,q7g w _ _ _⟩
 ·have G:decide ((200:Int)<=(C.length:Int))=false:=by simp;omega
  have b:decide ((6000:Int)<=c-(q0j C:Int)-(12+(R.length:Int)))=false:=by simp;omega
  rw[b] at i;clear h d j m y b;go_enter Tryz.func150,Tryz.ntmps150;go_wp2_with fail;refine(i.o _ (q7g w _ _ _)).mono ?_;rintro e w1 ⟨rfl,u⟩;have B:=η ((q7g w _ _ _).trans u);clear u;go_wp2_with fail;go_ret2;exact⟨rfl,B.o⟩
theorem y0S(h:LgF w0 w g gl F v σ s (q0M C) sure K)(hl:Lgd E σ c s C sure)(hp:p.length<=2000)(hn:C.length<200)(z0: ∀ps∈C,ps≠[])(hr:6000<=c-(q0j C:Int)-((p.length:Int)+24)):
  Calls Tryz.prog 150 #[.pointer (some ⟨gl,0,none⟩),.int .i64 (C.length:Int),.string ⟨(q2F p).toArray⟩] w fun e w'=>
   e= .returned (.tuple #[.int .i64 ((C.length:Int)*4096+12),.int .i64 0])/\LgK E w0 w' g gl c s (C++[[p]]) (q0X C sure) K/\Stay K w w':=by
 obtain⟨r0,r1⟩:=h.room0 hl;have s0:=q0g p;have HR:=η (fun (W:World) (k:Ext w W)=>z4F (h.grow k) hl.free r0 r1 (12+((q2F p).length:Int)) (by omega) (by omega));have hd:decide ((200:Int)<=(C.length:Int))=false:=by simp;omega
 have y0:decide ((6000:Int)<=c-(q0j C:Int)-(12+((q2F p).length:Int)))=true:=by simp;omega
 rw[y0] at HR;obtain⟨W0,y⟩: ∃W0,((w.alloc (.cells #[.pointer (some ⟨gl,0,none⟩)] 128)).alloc (.cells #[.int .i64 (C.length:Int)] 3)).alloc (.cells #[.string ⟨(q2F p).toArray⟩] 9)=W0:=⟨_,rfl⟩
 have d0:Hd (Ext w W0):=η (by rw[<-y];exact q7g w _ _ _);have M:Hd (∀W,Ext W0 W->W.cell? ⟨w.heap.size,0,none⟩=some (.pointer (some ⟨gl,0,none⟩))/\W.cell? ⟨w.heap.size+1,0,none⟩=some (.int .i64 (C.length:Int))/\W.cell? ⟨w.heap.size+1+1,0,none⟩=some (.string ⟨(q2F p).toArray⟩)):=η fun W hW=>by
  rw[<-y] at hW;have b1:=(((Blk.new w 128 #[.pointer (some ⟨gl,0,none⟩)]).ext (q5q _ (.cells #[.int .i64 (C.length:Int)] 3) (.cells #[.string ⟨(q2F p).toArray⟩] 9))).ext hW).cell 0;have b2:=(((Blk.new (w.alloc (.cells #[.pointer (some ⟨gl,0,none⟩)] 128)) 3 #[.int .i64 (C.length:Int)]).ext (q0B _ (.cells #[.string ⟨(q2F p).toArray⟩] 9))).ext hW).cell 0;have b3:=((Blk.new ((w.alloc (.cells #[.pointer (some ⟨gl,0,none⟩)] 128)).alloc (.cells #[.int .i64 (C.length:Int)] 3)) 9 #[.string ⟨(q2F p).toArray⟩]).ext hW).cell 0;rw[ρ] at b2;rw[ρ,ρ] at b3;exact⟨b1,b2,b3⟩
 have O0:Hd (W0.heap.size=w.heap.size+1+1+1):=η (by rw[<-y];simp);have HK:=η (show LgK E w0 w g gl c s C sure K from⟨F,v,σ,h,hl⟩);have J0:=η z0
 have j0:Hd (q0X C sure<=(C.length:Int)*4096/\q0X C sure<=q2d (C++[[p]])):=η (by
  have h1:=q8F hl;have h2:=z2H hl.ok;rw[q1C]
  omega)
 clear z0;have i0:=η hp;have h0:=η hn;have I0:=η hr;have m0:=η s0;have U0: ∀(fn:Fn) (first cap:Array Value) (w:World),(Instr.makeFunc fn first cap).run Tryz.prog w= .ok (.func fn first cap) w:=fun _ _ _ _=>rfl
 have t0:(q2F p).length<=2012:=by omega
 clear h hl r0 r1 hr y0 hp s0;obtain⟨R,hR⟩: ∃R,q2F p=R:=⟨_,rfl⟩
 rw[hR] at HR y M m0 t0⊢;have l0:=η hR;clear hR;go_enter Tryz.func150,Tryz.ntmps150;obtain⟨a0,a1,a2⟩:=M.o W0 (Ext.refl _);go_wp2_with fail
 try rw[y]
 clear y a0 a1 a2;refine(HR.o _ d0.o).mono ?_;rintro e w1 ⟨rfl,hb⟩;obtain⟨q0,q1,q2⟩:=M.o _ hb;have HB:=η hb;clear hb;go_wp2_with fail
 obtain⟨cs, G⟩: ∃cs:Array Value,#[Value.func (Fn.func 168) #[Value.pointer (some ⟨gl,0,none⟩)] #[],Value.func (Fn.func 210) #[] #[Value.pointer (some ⟨w.heap.size,0,none⟩),Value.pointer (some ⟨w.heap.size+1,0,none⟩)],
       Value.func (Fn.func 212) #[] #[Value.pointer (some ⟨w.heap.size,0,none⟩),Value.pointer (some ⟨w.heap.size+1,0,none⟩),Value.pointer (some ⟨w.heap.size+1+1,0,none⟩)]]=cs:=⟨_,rfl⟩
 rw[G];obtain⟨S,B⟩: ∃S,w1.alloc (.cells cs 90)=S:=⟨_,rfl⟩
 have Z:Ext w1 S:=by rw[<-B];exact q0B _ _
 have R0:S.heap.size=w1.heap.size+1:=by rw[<-B];simp
 have D0:=HB.o.size;rw[O0.o] at D0;have O:Blk S w1.heap.size 90 cs:=by rw[<-B];exact Blk.new _ _ _
 rw[B];have g0:=η ((d0.o.trans HB.o).trans Z);have hK':=HK.o.more (K':=fun i=>K i\/(w.heap.size<=i/\i<S.heap.size)) g0.o (fun i Y=>Y);have P0:=η (HK.o.kExt g0.o);obtain⟨r0,r1,r2⟩:=M.o _ (HB.o.trans Z);rw[<-l0.o] at r2;have v0:=y1q hK' h0.o i0.o (by have:=I0.o;omega) (b:=w1.heap.size) (bl:=w.heap.size) (bn:=w.heap.size+1) (br:=w.heap.size+1+1) (.inr ⟨by omega,by omega⟩) (.inr ⟨by omega,by omega⟩) (.inr ⟨by omega,by omega⟩) (.inr ⟨by omega,by omega⟩)
  (by rw[O.cell 0,<-G];rfl) (by rw[O.cell 1,<-G];rfl) (by rw[O.cell 2,<-G];rfl) r0 r1 r2
 have q:Hd (w.heap.size<S.heap.size/\w.heap.size+1+1<S.heap.size):=η ⟨by omega,by omega⟩;have X:=r2;rw[l0.o] at X;have N0:=η X;have L0:=η r0;have M0:=η r1;clear G B O Z R0 D0 r0 r1 r2 hK' q0 q1 q2 X;refine v0.mono ?_;rintro e w3 ⟨rfl,J,d⟩;clear v0;obtain⟨F3,v3,T0,J,p0,B0,C0⟩:=J;have e0:=q0b d (.inr ⟨ι _,q.o.1⟩) L0.o;have e2:=q0b d (.inr ⟨by omega,q.o.2⟩) N0.o;have e1:=η (q0b d (.inr ⟨by omega,by have:=q.o.2;omega⟩) M0.o);have m:=J.l.row;obtain⟨a,k,rfl⟩:=q0G m;have e3:=J.l.c3;have z3:=J.l.blk.free 3;have c0:=q0a C;rw[c0] at m e3 J;have S0:IntKind.i64.wrap (12+(R.length:Int))=(q0I [p]:Int):=by
  rw[q4n,<-m0.o,ν];omega
 obtain⟨z,hz⟩: ∃z:Int,(q0I [p]:Int)=z:=⟨_,rfl⟩
 rw[hz] at S0;obtain⟨wl,E0⟩: ∃wl,(w3.alloc (.cells #[.int .i64 z] 3)).drew=wl:=⟨_,rfl⟩
 have u:Hd (Ext w3 wl):=η (by rw[<-E0];exact(q0B w3 _).drew);have k0:Hd (Rd wl (some ⟨w3.heap.size,0,none⟩) [.int .i64 z]):=η (by rw[<-E0];exact Rd.lit w3 #[.int .i64 z] 3);have n0:Hd (wl.ownsRow 0 3 1 (.slice a C.length k) C.length ((q0M C).map (Value.int .i64))):=η (q0O m u.o);have HZ:=η hz;have H3:=η J;have U:=η (And.intro p0 (And.intro B0 C0));have o0:=η d;have G0:=η c0;have Q0:=h0.o;have f0:=q0A u.o e0;have f2:=q0A u.o e2;have f3:=q0A u.o e3;clear hz J p0 B0 C0 d c0 m hd;generalize A0:C.length=n at*;have HN:=η A0;clear A0
 have V:Hd (∀(w':World) (N:Option Addr) (k':Nat),w'.ownsRow 0 3 1 (.slice N (n+1) k') (n+1) ((q0M C).map (Value.int .i64)++[.int .i64 z])->wl.grownBy w' (Value.slice a n k).ownBlock->((Value.slice N (n+1) k').ownBlock=(Value.slice a n k).ownBlock\/(Value.slice N (n+1) k').ownBlock=some wl.heap.size)->
   LgK E w0 (w'.setCell ⟨gl,3,none⟩ (.slice N (n+1) k')) g gl c s (C++[[p]]) (q0X C sure) K/\Stay K w (w'.setCell ⟨gl,3,none⟩ (.slice N (n+1) k'))/\(w'.setCell ⟨gl,3,none⟩ (.slice N (n+1) k')).cell? ⟨w.heap.size+1,0,none⟩=some (.int .i64 (n:Int))):=η fun w' N k' h1 h2 J=>by
  have hp:=H3.o.push u.o (by rw[G0.o];exact h1) h2 J;refine⟨⟨F3,.slice N (n+1) k',T0,?_,⟨U.o.2.1,HK.o.le.1.more i0.o (by rw[HN.o];exact Q0) J0.o,U.o.1,by rw[θ,List.length_singleton,HN.o];exact Sur.less U.o.2.2 j0.o.1,j0.o.2⟩⟩,P0.o.trans (Stay.trans (K:=K) (fun i Y=>o0.o i (.inl Y)) fun i Y=>hp.2 i (.inl Y)),q0b hp.2 (.inr ⟨by omega,by have:=q.o.2;omega⟩) e1.o⟩;rw[q1v,HZ.o];exact hp.1.beside fun i Y=> .inl Y
 go_wp2_with fail
 go_region_law
  (refine q1w rfl (.tmp 33) (.tmp 37) 37 rfl 0 3 _ 1 8 Tryz.underlying37 Tryz.infoI (by decide) (by decide) (.slice a n k) n ((q0M C).map (Value.int .i64)) rfl n0.o (some ⟨w3.heap.size,0,none⟩) 1 1 [.int .i64 z] rfl rfl (fun h=>by cases h) k0.o (by simp[Value.oneCell']) (by unfold maxLen;omega) (by omega) (υ _) ?_;intro v' w' I j x0;have K0:=η I;have H0:=η j;have F0:=η x0;obtain⟨q1,q2,q3⟩:=H3.o.pushed u.o j;have u0:=q0b q1 (.inr ⟨ι _,q.o.1⟩) e0;have u2:=q0b q1 (.inr ⟨by omega,q.o.2⟩) e2;obtain⟨N,k',rfl⟩:=q0G I;clear I j x0 q1)
 all_goals
  have b0:=V.o _ _ _ K0.o H0.o F0.o;have Q:=η b0;have u1:=b0.2.2;clear b0;go_wp2_with fail;go_ret2;exact⟨by rw[HN.o];rfl,Q.o.1,Q.o.2.1⟩
end
section
variable {E :Oth}{w0 w:World}{g gl:Nat}{F K:Nat->Prop}{v:Value}{σ:DM}{c s sure:Int}{C:Cks}{xs:List Int}
def AppR(E:Oth)(w0 w:World)(g gl:Nat)(c s:Int)(C:Cks)(sure:Int)(K:Nat->Prop)(p:List UInt8)(e:Ending)(w':World):Prop:=
 e= .returned (.tuple #[.int .i64 (q1H (c-(q0j C:Int)) C p).1,.int .i64 (q1H (c-(q0j C:Int)) C p).2.1])/\
 LgK E w0 w' g gl c s (q1H (c-(q0j C:Int)) C p).2.2 (q3z (c-(q0j C:Int)) sure C p) K/\Stay K w w'
theorem AppR.same{w':World}{r:Int}(h:LgK E w0 w g gl c s C sure K)(k:Ext w w')(d:q1H (c-(q0j C:Int)) C p=(0,r,C))(b:r≠0):AppR E w0 w g gl c s C sure K p (.returned (.tuple #[.int .i64 0,.int .i64 r])) w':=by
 unfold AppR q3z;rw[d,κ (fun h=>b h.1)];exact⟨rfl,h.grow k,h.kExt k⟩
theorem AppR.pre{w1 w':World}{e:Ending}(h:LgK E w0 w g gl c s C sure K)(k:Ext w w1)(b:AppR E w0 w1 g gl c s C sure K p e w'):AppR E w0 w g gl c s C sure K p e w':=
 ⟨b.1,b.2.1,(h.kExt k).trans b.2.2⟩
theorem z0d(h:2000<p.length):q1H fr C p=(0,3,C):=by unfold q1H;rw[ξ h]
theorem q5e(h:p.length<=2000)(b:q4H C p=true)(d:fr-((p.length:Int)+12)<6000):q1H fr C p=(0,60,C):=by
 unfold q1H;rw[κ (by omega),ξ b,ξ d]
theorem q7M(h:p.length<=2000)(b:q4H (D++[ps]) p=true)(d:6000<=fr-((p.length:Int)+12)):q1H fr (D++[ps]) p=((D.length:Int)*4096+(q0I ps:Int),0,D++[ps++[p]]):=by
 unfold q1H;rw[κ (by omega),ξ b,κ (by omega),q1C];simp
theorem q5f(h:p.length<=2000)(b:q4H C p=false)(d:200<=C.length\/fr-((p.length:Int)+24)<6000):q1H fr C p=(0,60,C):=by
 unfold q1H;rw[κ (by omega),κ (by rw[b];decide),ξ d]
theorem q7L(h:p.length<=2000)(b:q4H C p=false)(d:¬(200<=C.length\/fr-((p.length:Int)+24)<6000)):q1H fr C p=((C.length:Int)*4096+12,0,C++[[p]]):=by
 unfold q1H;rw[κ (by omega),κ (by rw[b];decide),κ d]
theorem q8l(D:Cks)(ps:List (List UInt8))(p:List UInt8):q4H (D++[ps]) p=decide (q0I ps+(p.length+12)<=4096):=by unfold q4H;simp
theorem y1u(h:LgK E w0 w g gl c s C sure K)(u:p.length<=2000)(d:q4H C p=false):
  Calls Tryz.prog 150 #[.pointer (some ⟨gl,0,none⟩),.int .i64 (C.length:Int),.string ⟨(q2F p).toArray⟩] w (AppR E w0 w g gl c s C sure K p):=by
 obtain⟨F,v,σ,o,j⟩:=h;by_cases G:200<=C.length\/c-(q0j C:Int)-((p.length:Int)+24)<6000
 ·refine(z8O o j (q2F p) (by rw[q0g];omega) (by rw[q0g];omega)).mono ?_
  rintro e w' ⟨rfl,k⟩;exact AppR.same ⟨F,v,σ,o,j⟩ k (q5f u d G) (by decide)
 ·refine(y0S o j u (by omega) (fun ps b e=>?_) (by omega)).mono ?_
  ·subst e
   rcases List.eq_nil_or_concat C with i|⟨D,M,i⟩
   ·rw[i] at b;cases b
   ·rw [List.concat_eq_append] at i
    subst i;rcases List.mem_append.1 b with q|q
    ·exact j.ok.full [] (by simpa using q) rfl
    ·have I:=List.mem_singleton.1 q
     subst I;unfold q4H at d;simp[q0I] at d;omega
  rintro e w' ⟨rfl,k1,J⟩;have B:=q7L u d G;have y:q3z (c-(q0j C:Int)) sure C p=q0X C sure:=by
   unfold q3z q0X;rw[B];by_cases m:C=[]
   ·rw[ξ m,κ (fun h=>h.2.2 m)]
   ·rw[κ m,ξ ⟨rfl,d,m⟩]
  unfold AppR;rw[y,B];exact⟨rfl,k1,J⟩
theorem y0T(h:LgK E w0 w g gl c s (D++[ps]) sure K)(j:p.length<=2000)(b:q4H (D++[ps]) p=true):
  Calls Tryz.prog 149 #[.pointer (some ⟨gl,0,none⟩),.int .i64 (D.length:Int),.string ⟨(q2F p).toArray⟩] w (AppR E w0 w g gl c s (D++[ps]) sure K p):=by
 obtain⟨F,v,σ,d,i⟩:=h;by_cases o:c-(q0j (D++[ps]):Int)-((p.length:Int)+12)<6000
 ·refine(z5s d i (D.length:Int) (q2F p) (by rw[q0g];omega) (by rw[q0g];omega)).mono ?_
  rintro e w' ⟨rfl,k⟩;exact AppR.same ⟨F,v,σ,d,i⟩ k (q5e j b o) (by decide)
 ·have q:q0I ps+(p.length+12)<=4096:=by rw[q8l] at b;exact of_decide_eq_true b
  refine(z8P d i j q (by omega)).mono ?_;rintro e w' ⟨rfl,k1,u⟩;have m:=q7M (fr:=c-(q0j (D++[ps]):Int)) j b (by omega);unfold AppR q3z;rw[m,κ (fun h=>by rw[b] at h;exact absurd h.2.1 (by decide))];exact⟨rfl,k1,u⟩
theorem z8L(h:LgK E w0 w g gl c s C sure K)(p:List UInt8)(c0:p.length<=9223372036854775807):
  Calls Tryz.prog 88 #[.pointer (some ⟨gl,0,none⟩),.string ⟨p.toArray⟩] w (AppR E w0 w g gl c s C sure K p):=by
 have HK:=η h;obtain⟨F,v,σ,J,V⟩:=h;have G:=η (z0D J V.pl.up V.pl.st);by_cases hp:2000<p.length
 ·have q:=η (fun W=>z7S p W hp c0)
  have HA:=η (z0d (C:=C) (fr:=c-(q0j C:Int)) hp);clear J V hp;go_enter Tryz.func88,Tryz.ntmps88;go_wp2_with fail;refine G.o.mono ?_;rintro e w1 ⟨rfl,i⟩;have S:=η i;clear i;go_wp2_with fail;refine(q.o _).mono ?_;rintro e w2 ⟨rfl,rfl⟩;go_wp2_with fail;go_ret2;exact AppR.same HK.o S.o HA.o (by decide)
 have I:p.length<=2000:=by omega
 have q:=η (fun W=>z9Y p W I);have M:=V.ok.few;have m:=η (fun (W:World) (k:Ext w W) (y:q4H C p=false)=>(y1u (HK.o.grow k) I y).mono fun e w' h=>AppR.pre HK.o k h);by_cases hC:C=[]
 ·subst hC
  have j:=η (fun (W:World) (k:Ext w W)=>m.o W k rfl);have c3:=J.l.c3;obtain⟨a,k,rfl⟩:=q0G J.l.row;have e0:(q0M ([]:Cks)).length=0:=rfl;have B:=η c3;clear m J V hp c3;generalize Z:q2F p=R at*;clear Z;unfold AppR at j⊢;generalize (q1H (c-(q0j []:Int)) [] p)=X at*;go_enter Tryz.func88,Tryz.ntmps88;go_wp2_with fail;refine G.o.mono ?_;rintro e w1 ⟨rfl,i⟩;have S:=η i;clear i;go_wp2_with fail;refine(q.o _).mono ?_;rintro e w2 ⟨rfl,i⟩;have d:=η (S.o.trans i);clear i;have c3:=q0A d.o B.o;rw[e0] at c3;go_wp2_with fail;refine(j.o _ d.o).mono ?_;rintro e w3 ⟨rfl,N⟩;have H3:=η N;clear N;go_wp2_with fail;go_ret2;exact⟨rfl,H3.o⟩
 obtain⟨D,ps,rfl⟩:=q9X hC;clear hC;obtain⟨b,k,rfl,a0,_⟩:=J.last;have d0:q0I ps<=4096:=V.ok.size ps (by simp);have Y:D.length+1<=200:=by simpa using M
 obtain⟨z,hz⟩: ∃z:Int,(q0I ps:Int)=z:=⟨_,rfl⟩
 rw[hz] at a0;have z0:0<=z:=by omega
 have z1:z<=4096:=by omega
 have B:=η J.l.c3;have b0:=η a0;have HF:=η (fun W=>y2C z p W z0 z1 I);have O:decide ((p.length:Int)+12<=4096-z)=q4H (D++[ps]) p:=by rw[q8l,decide_eq_decide];omega
 rw[O] at HF;have U:=η (fun (W:World) (k:Ext w W) (y:q4H (D++[ps]) p=true)=>(y0T (HK.o.grow k) I y).mono fun e w' h=>AppR.pre HK.o k h);have Q:(D++[ps]).length=D.length+1:=by simp
 rw[Q] at m;have f0:(D.length:Int)<=199:=by omega
 have u:(((D.length+1:Nat)):Int)=(D.length:Int)+1:=by omega
 rw[u] at m;generalize Z:q2F p=R at*;clear Z J V hp hz d0 O a0 M Y Q u;generalize (q1H (c-(q0j (D++[ps]):Int)) (D++[ps]) p)=X at*
 cases y:q4H (D++[ps]) p with
 | true=>
  rw[y] at HF;have j:=η (fun (W:World) (k:Ext w W)=>U.o W k y);clear m U y;unfold AppR at j⊢;go_enter Tryz.func88,Tryz.ntmps88;go_wp2_with fail;refine G.o.mono ?_;rintro e w1 ⟨rfl,i⟩;have S:=η i;clear i;go_wp2_with fail;refine(q.o _).mono ?_;rintro e w2 ⟨rfl,i⟩;have d:=η (S.o.trans i);clear i;have c3:=q0A d.o B.o;have cz:=q0A d.o b0.o;go_wp2_with fail;refine(HF.o _).mono ?_;rintro e w3 ⟨rfl,rfl⟩;go_wp2_with fail;refine(j.o _ d.o).mono ?_;rintro e w3 ⟨rfl,N⟩;have H3:=η N;clear N;go_wp2_with fail;go_ret2;exact⟨rfl,H3.o⟩
 | false=>
  rw[y] at HF;have j:=η (fun (W:World) (k:Ext w W)=>m.o W k y);clear m U y;unfold AppR at j⊢;go_enter Tryz.func88,Tryz.ntmps88;go_wp2_with fail;refine G.o.mono ?_;rintro e w1 ⟨rfl,i⟩;have S:=η i;clear i;go_wp2_with fail;refine(q.o _).mono ?_;rintro e w2 ⟨rfl,i⟩;have d:=η (S.o.trans i);clear i;have c3:=q0A d.o B.o;have cz:=q0A d.o b0.o;go_wp2_with fail;refine(HF.o _).mono ?_;rintro e w3 ⟨rfl,rfl⟩;go_wp2_with fail;refine(j.o _ d.o).mono ?_;rintro e w3 ⟨rfl,N⟩;have H3:=η N;clear N;go_wp2_with fail;go_ret2;exact⟨rfl,H3.o⟩
theorem z8u(h:LgV E w0 w g gl v c s C sure K):
  Calls Tryz.prog 105 #[.pointer (some ⟨gl,0,none⟩)] w fun e w'=>e= .returned (.int .i64 0)/\LgV E w0 w' g gl v c s C (q0X C sure) K/\Stay K w w':=by
 have Q:=η h.toK;obtain⟨F,σ,i,b⟩:=h;have d:=η (z0D i b.pl.up b.pl.st);have S:=η (fun (W:World) (k:Ext w W)=>z3n (i.grow k) b);clear i b;go_enter Tryz.func105,Tryz.ntmps105;go_wp2_with fail;refine d.o.mono ?_;rintro e w1 ⟨rfl,I⟩;have m:=η I;clear I;go_wp2_with fail;refine(S.o _ m.o).mono ?_;rintro e w2 ⟨rfl,U,q⟩;have J:=η ((Q.o.kExt m.o).trans q);obtain⟨V,j,u,y⟩:=U;have M:=η y;have R:=η (y2b u);clear q u y;go_wp2_with fail;refine R.o.mono ?_;rintro e w3 ⟨rfl,B,G⟩;have N:=η B;have O:=η G;clear B G;go_wp2_with fail;go_ret;exact⟨rfl,⟨_,j,N.o,M.o⟩,J.o.trans O.o⟩
theorem y0i(h:LgK E w0 w g gl c s C sure K):
  Calls Tryz.prog 105 #[.pointer (some ⟨gl,0,none⟩)] w fun e w'=>e= .returned (.int .i64 0)/\LgK E w0 w' g gl c s C (q0X C sure) K/\Stay K w w':=by
 obtain⟨v,j⟩:=h.toV;exact(z8u j).mono fun _ _ ⟨b,d,i⟩=>⟨b,d.toK,i⟩
end
theorem q6a : ∀(ps:List (List UInt8)) (a:Nat) (p:List UInt8),q1u a (ps++[p])=q1u a ps++[(a+(ps.map fun p=>p.length+12).sum,p)]
 |[],a,p=>by simp[q1u]
 | q::t,a,p=>by
  rw[List.cons_append,q1u,q6a t,q1u,List.cons_append,List.map_cons,List.sum_cons]
  congr 4;omega
theorem q1i(D:Cks)(ps:List (List UInt8)):q0f 0 (D++[ps])=q0f 0 D++q1u (4096*D.length+12) ps:=by
 rw[z1X,Nat.zero_add];simp[q0f]
theorem z1x{x:Int}{C b:Cks}(u: ∀ps∈C,q0I ps<=4096)(m:p.length<=2000)(h:q1H fr C p=(x,0,b)):
  ∃pos:Nat,x=(pos:Int)/\q0f 0 b=q0f 0 C++[(pos,p)]/\q2d b=(pos:Int)+(p.length:Int)+12/\q2d C<=(pos:Int)/\q0j b<=q0j C+(p.length+24)/\b.length<=C.length+1/\pos<=4096*C.length+12:=by
 by_cases j:q4H C p=true
 ·by_cases d:C=[]
  ·subst d;cases j
  ·obtain⟨D,ps,rfl⟩:=q9X d
   by_cases o:fr-((p.length:Int)+12)<6000
   ·rw[q5e m j o] at h;cases h
   ·rw [q7M m j (by omega)] at h
    cases h;refine⟨4096*D.length+q0I ps,by omega,?_,?_,?_,?_,by simp,by have:=u ps (by simp);rw[θ];simp only[χ,List.length_nil];omega⟩
    ·rw[q1i,q1i,q6a,List.append_assoc]
     congr 4
     unfold q0I;omega
    ·rw[q1C,q2P];omega
    ·rw[q1C];omega
    ·have q:q0j (D++[ps++[p]])=q0j D+q0I (ps++[p]):=by simp[q0j,List.sum_append]
     have y:q0j (D++[ps])=q0j D+q0I ps:=by simp[q0j,List.sum_append]
     rw[q,y,q2P];omega
 ·have i:q4H C p=false:=by simpa using j
  by_cases o:200<=C.length\/fr-((p.length:Int)+24)<6000
  ·rw[q5f m i o] at h;cases h
  ·rw [q7L m i o] at h
   cases h;refine⟨4096*C.length+12,by omega,?_,?_,?_,?_,by simp,ι _⟩
   ·rw[q1i];rfl
   ·rw[q1C,q4n];omega
   ·by_cases d:C=[]
    ·subst d;show(0:Int)<=_;omega
    ·obtain⟨D,ps,rfl⟩:=q9X d
     have:=u ps (by simp);rw[q1C,θ];simp only[χ,List.length_nil];omega
   ·have q:q0j (C++[[p]])=q0j C+q0I [p]:=by simp[q0j,List.sum_append]
    rw[q,q4n];omega
def z5i(x y:Nat×List UInt8):Prop:=x.1+x.2.length+12<=y.1
theorem z4B : ∀(ps:List (List UInt8)) (a:Nat),(q1u a ps).Pairwise z5i
 |[],_=>List.Pairwise.nil
 |p::t,a=>List.pairwise_cons.2 ⟨fun r b=>(q4O t _ r b).1,z4B t _⟩
theorem q6A : ∀(C:Cks) (b:Nat),(∀ps∈C,q0I ps<=4096)->(q0f b C).Pairwise z5i
 |[],_,_=>List.Pairwise.nil
 | ps::t,b,hs=>by
  rw[q0f,List.pairwise_append];refine⟨z4B ps _,q6A t _ fun q hq=>hs q (List.mem_cons_of_mem _ hq),fun x i y j=>?_⟩;have m:=q4O ps _ x i;have o:=q5z t _ (fun q hq=>hs q (List.mem_cons_of_mem _ hq)) y j;have d:=hs ps (List.mem_cons_self);unfold q0I at d;unfold z5i;omega
def z4q(A:List (Nat×List UInt8)):Nat:=match A.getLast? with|none=>0|some r=>r.1+r.2.length+12
theorem q6S(A:List (Nat×List UInt8))(r:Nat×List UInt8):z4q (A++[r])=r.1+r.2.length+12:=by unfold z4q;simp
theorem z8l(h:A.Pairwise z5i): ∀r∈A,r.1<z4q A:=fun r d=>by
 rcases List.eq_nil_or_concat A with rfl|⟨D,q,rfl⟩
 ·cases d
 ·rw [List.concat_eq_append] at*
  rw[q6S];rcases List.mem_append.1 d with b|b
  ·have:=(List.pairwise_append.1 h).2.2 r b q (by simp)
   unfold z5i at this;omega
  ·obtain rfl:=List.mem_singleton.1 b;omega
theorem z8k(h:A.Pairwise z5i): ∀r∈A,r.1+r.2.length+12<=z4q A:=fun r d=>by
 rcases List.eq_nil_or_concat A with rfl|⟨D,q,rfl⟩
 ·cases d
 ·rw [List.concat_eq_append] at*
  rw[q6S];rcases List.mem_append.1 d with b|b
  ·have:=(List.pairwise_append.1 h).2.2 r b q (by simp)
   unfold z5i at this;omega
  ·obtain rfl:=List.mem_singleton.1 b;omega
theorem q8j{C:Cks}(b: ∀ps∈C,ps≠[]):(z4q (q0f 0 C):Int)=q2d C:=by
 rcases List.eq_nil_or_concat C with rfl|⟨D,ps,rfl⟩
 ·rfl
 ·rw [List.concat_eq_append] at*
  have b:=b ps (by simp);rcases List.eq_nil_or_concat ps with rfl|⟨d,p,rfl⟩
  ·exact absurd rfl b
  ·rw[List.concat_eq_append] at*
   rw[q1i,q6a,<-List.append_assoc,q6S,q1C,q2P];unfold q0I;show((4096*D.length+12+(d.map fun p=>p.length+12).sum+p.length+12:Nat):Int)=_;omega
theorem z0q{C:Cks}(h:okC C):(z4q (q0f 0 C):Int)<=q2d C:=by
 rcases List.eq_nil_or_concat C with rfl|⟨D,ps,rfl⟩
 ·exact Int.le_refl _
 ·rw [List.concat_eq_append] at*
  have i: ∀b∈D,b≠[]:=fun b hq=>h.full b (by simpa using hq)
  rcases List.eq_nil_or_concat ps with rfl|⟨b,p,rfl⟩
  ·have m:=q8j i
   have o:q2d D<=(D.length:Int)*4096:=by
    rcases List.eq_nil_or_concat D with rfl|⟨E,b,rfl⟩
    ·exact Int.le_refl _
    ·rw[List.concat_eq_append] at*
     have:=h.size b (by simp);rw[q1C,θ,List.length_singleton];omega
   rw[q1i,show q1u (4096*D.length+12) []=[] from rfl,List.append_nil,q1C];omega
  ·rw[List.concat_eq_append] at*
   refine Int.le_of_eq (q8j fun j d=>?_);rcases List.mem_append.1 d with d|d
   ·exact i j d
   ·rw[List.mem_singleton.1 d];simp
theorem z1W : ∀(ps:List (List UInt8)) (a:Nat) (r:Nat×List UInt8),r∈q1u a ps-> ∃k,ps[k]? =some r.2/\r.1=a+((ps.take k).map fun p=>p.length+12).sum
 |[],_,r,h=>by cases h
 | p ::t,a,r,h=>by
  rw[q1u] at h;rcases List.mem_cons.1 h with rfl|h
  ·exact⟨0,rfl,by simp⟩
  ·obtain⟨k,b,d⟩:=z1W t _ r h
   exact⟨k+1,by rw[List.getElem?_cons_succ];exact b,by rw[d,List.take_succ_cons,List.map_cons,List.sum_cons];omega⟩
theorem z1Y : ∀(C:Cks) (b:Nat) (r:Nat×List UInt8),r∈q0f b C-> ∃(n:Nat) (ps:List (List UInt8)) (k:Nat),C[n]? =some ps/\ps[k]? =some r.2/\r.1=b+4096*n+q0I (ps.take k)
 |[],_,r,h=>by cases h
 | ps ::t,b,r,h=>by
  rw[q0f] at h;rcases List.mem_append.1 h with h|h
  ·obtain⟨k,d,i⟩:=z1W ps _ r h
   exact⟨0,ps,k,rfl,d,by rw[i];unfold q0I;omega⟩
  ·obtain⟨n,m,k,d,i,j⟩:=z1Y t _ r h
   exact⟨n+1,m,k,by rw[List.getElem?_cons_succ];exact d,i,by rw[j];omega⟩
theorem z7W{C:Cks}(h:okC C)(u:r∈q0f 0 C):q5y C (r.1:Int)=(r.2,0):=by
 obtain⟨n,ps,k,i,d,B⟩:=z1Y C 0 r u;have b:=List.mem_of_getElem? i;have q:=h.pay ps b r.2 (List.mem_of_getElem? d);have o:k<ps.length:=(List.getElem?_eq_some_iff.1 d).1;have y:=h.size ps b;have j:q0I (ps.take (k+1))<=q0I ps:=by
  unfold q0I
  conv=>rhs;rw[<-List.take_append_drop (k+1) ps,List.map_append,List.sum_append]
  omega
 have m:ps.take (k+1)=ps.take k++[r.2]:=by
  obtain⟨_,he⟩:=List.getElem?_eq_some_iff.1 d;rw[List.take_succ_eq_append_getElem o,he]
 rw[m,q2P] at j;rw[z3x (n:=n) (a:=q0I (ps.take k)) (by omega) (by omega),i];show(match (if 12<=q0I (ps.take k) then q5P (q0L n ps) (q0I (ps.take k)) else none) with|none=>([],4)|some (p,_)=>(p,0))=(r.2,(0:Int));rw[ξ (by unfold q0I;omega),y0B n ps k r.2 d q]
theorem z9a{C:Cks}(h:okC C)(b:r∈q0f 0 C):r.1<=819200:=by
 have:=q5z C 0 h.size r b;have:=h.few;omega
end
end Go.Proofs.YtfiibpgoplcgkaaGreatDoor
