/- How a log lies in memory, beside its disk. -/
import Derived.Test.YteabhdclmodefaaGreatDoorG20CT
import Derived.Test.YteabhdclmodefaaGreatDoorG9CT
import Derived.Test.YteabhdclmodefaaGreatDoorG21CT
set_option linter.unusedVariables false
set_option linter.unusedSimpArgs false
set_option maxRecDepth 100000
set_option maxHeartbeats 3200000
namespace Go.Proofs.YteabhdclmodefaaGreatDoor
variable {n bl bn br a:Nat}{D:Cks}{ps:List (List UInt8)}{p:List UInt8}{w3:World}{r:Nat×List UInt8}{fr pos:Int}
section
open Go.RowKit
theorem y4V(c:Int):Pl (z9r c) c 0 []:=⟨rfl,rfl,rfl,rfl,rfl⟩
theorem y2l(c:Int):Lgd noO (z9r c) c 0 []:=⟨by have:=y4V c;simpa [q2s,noO,q1u,q5r,q3y,q4p] using this,okC.nil,okOth.no⟩
theorem z6y{w:World}{B:Nat}{e:TypeId}{v:Value}{cs:List Value}(h:w.ownsRow B e 1 v n cs){g cap:Nat}(i:v= .slice (some ⟨g,0,none⟩) n cap){j:Nat}(u:Value):(w.setCell ⟨g,j,none⟩ u).ownsRow B e 1 v n (cs.set j u):=by
 have q:=h.1;refine⟨by simpa using q,?_⟩;rcases h.2 with⟨rfl,_⟩|⟨y,d,b,rfl,m,o,h1,h2,h3,h4⟩
 ·cases i
 ·cases i
  refine .inr ⟨g,cap,b.setIfInBounds j u,rfl,m,?_,h1,h2,by simpa using h3,?_⟩
  ·simp only[World.setCell,Array.getElem?_modify,if_true,o,Option.map_some]
   rfl
  ·rw[Array.toList_setIfInBounds,<-h4,List.take_set]
def q8T(gl:Nat)(v:Value)(i:Nat):Prop:=i=gl\/v.ownBlock=some i
structure LogM(w:World)(gl g:Nat)(s:Int)(v:Value)(xs:List Int)(sure:Int):Prop where
 blk:Blk w gl 156 #[.pointer (some ⟨g,0,none⟩),.int .i64 s,.bool false,v,.int .i64 sure]
 row:w.ownsRow 0 3 1 v xs.length (xs.map (Value.int .i64))
section
variable {E :Oth}{w w':World}{gl g:Nat}{s sure:Int}{v:Value}{xs:List Int}
theorem LogM.lt(h:LogM w gl g s v xs sure){i:Nat}(b:q8T gl v i):i<w.heap.size:=by
 rcases b with rfl|b
 ·exact h.blk.lt
 ·exact(q0a h.row i b).2
theorem LogM.same(h:LogM w gl g s v xs sure)(k: ∀i,q8T gl v i->w'.heap[i]? =w.heap[i]?):LogM w' gl g s v xs sure:=
 ⟨h.blk.same (k gl (.inl rfl)),q0t h.row fun i b=>k i (.inr b)⟩
theorem LogM.ext(h:LogM w gl g s v xs sure)(k:Ext w w'):LogM w' gl g s v xs sure:=h.same fun i b=>k.block i (h.lt b)
theorem LogM.c0(h:LogM w gl g s v xs sure):w.cell? ⟨gl,0,none⟩=some (.pointer (some ⟨g,0,none⟩)):=h.blk.cell 0
theorem LogM.c1(h:LogM w gl g s v xs sure):w.cell? ⟨gl,1,none⟩=some (.int .i64 s):=h.blk.cell 1
theorem LogM.c2(h:LogM w gl g s v xs sure):w.cell? ⟨gl,2,none⟩=some (.bool false):=h.blk.cell 2
theorem LogM.c3(h:LogM w gl g s v xs sure):w.cell? ⟨gl,3,none⟩=some v:=h.blk.cell 3
theorem LogM.c4(h:LogM w gl g s v xs sure):w.cell? ⟨gl,4,none⟩=some (.int .i64 sure):=h.blk.cell 4
theorem LogM.slice(h:LogM w gl g s v xs sure): ∃a c,v= .slice a xs.length c/\Ints w a xs.length c xs:=q2H (Own.of_row h.row)
theorem LogM.apart(h:LogM w gl g s v xs sure):v.ownBlock≠some gl:=fun d=>by
 obtain⟨b,hc⟩:=q3u h.row d;exact Blk.ne h.blk (ds:=b) hc (by decide) rfl
end
def DkK(E:Oth)(w0 w:World)(g:Nat)(c s:Int)(C:Cks)(K:Nat->Prop):Prop:= ∃F σ,DkF w0 w g F σ K/\Lgd E σ c s C
structure LgF(w0 w:World)(g gl:Nat)(F:Nat->Prop)(v:Value)(σ:DM)(s:Int)(xs:List Int)(sure:Int)(K:Nat->Prop):Prop where
 d:Dk w g F σ
 l:LogM w gl g s v xs sure
 ap: ∀i,F i->¬q8T gl v i
 bF: ∀i,F i->w0.heap.size<=i
 bG: ∀i,q8T gl v i->w0.heap.size<=i
 ext:Ext w0 w
 k: ∀i,K i->i<w.heap.size/\¬F i/\¬q8T gl v i
def LgK(E:Oth)(w0 w:World)(g gl:Nat)(c s:Int)(C:Cks)(sure:Int)(K:Nat->Prop):Prop:= ∃F v σ,LgF w0 w g gl F v σ s (q0O C) sure K/\Lgd E σ c s C
section
variable {E :Oth}{w0 w w1 w2:World}{g gl:Nat}{F K K':Nat->Prop}{v:Value}{σ σ1:DM}{c s sure:Int}{xs:List Int}{C:Cks}
theorem LgF.kExt(h:LgF w0 w g gl F v σ s xs sure K)(k:Ext w w1):Stay K w w1:=fun i b=>k.block i (h.k i b).1
theorem LgF.grow(h:LgF w0 w g gl F v σ s xs sure K)(k:Ext w w1):LgF w0 w1 g gl F v σ s xs sure K:=
 ⟨h.d.ext k,h.l.ext k,h.ap,h.bF,h.bG,h.ext.trans k,fun i b=>⟨Ψ (h.k i b).1 k.size,(h.k i b).2⟩⟩
theorem LgF.disk(h:LgF w0 w g gl F v σ s xs sure K)(k:DkS w g F σ1 w1):LgF w0 w1 g gl (Gr F w w1) v σ1 s xs sure K/\Stay K w w1:=by
 have q:=k.off.size;refine⟨⟨k.dk,h.l.same fun i j=>k.off.block i (h.l.lt j) fun m=>h.ap i m j,?_,fun i j=>Gr.ge h.bF h.ext.size j,h.bG,k.off.ext h.ext h.bF,fun i j=>?_⟩,fun i j=>?_⟩
 ·rintro i (m|⟨h1,_⟩) o
  ·exact h.ap i m o
  ·have:=h.l.lt o;omega
 ·obtain⟨a,b,d⟩:=h.k i j
  exact⟨by omega,Gr.not b a,d⟩
 ·obtain⟨a,b,d⟩:=h.k i j
  exact k.off.block i a b
theorem LgF.log{B:Value}{q:List Int}{m:Int}(h:LgF w0 w g gl F v σ s xs sure K)(G:LogM w1 gl g s B q m)(off:OffS (q8T gl v) w w1)(y: ∀i,B.ownBlock=some i->v.ownBlock=some i\/w.heap.size<=i):
  LgF w0 w1 g gl F B σ s q m K/\Stay K w w1:=by
 have I:=off.size;have hF: ∀i,F i->w1.heap[i]? =w.heap[i]? :=fun i j=>off.block i (by obtain⟨_,_,_,_,_,_,h⟩:=h.d;exact h i j) (h.ap i j)
 have u: ∀i,F i->i<w.heap.size:=by obtain⟨_,_,_,_,_,_,h⟩:=h.d;exact h
 refine⟨⟨h.d.held I hF,G,fun i j o=>?_,h.bF,fun i j=>?_,off.ext h.ext h.bG,fun i j=>?_⟩,fun i j=>?_⟩
 ·rcases o with rfl|o
  ·exact h.ap _ j (.inl rfl)
  ·rcases y i o with h1|h1
   ·exact h.ap i j (.inr h1)
   ·have:=u i j;omega
 ·rcases j with rfl|o
  ·exact h.bG _ (.inl rfl)
  ·rcases y i o with h1|h1
   ·exact h.bG i (.inr h1)
   ·have:=h.ext.size;omega
 ·obtain⟨a,b,d⟩:=h.k i j
  refine⟨by omega,b,?_⟩;rintro(rfl|o)
  ·exact d (.inl rfl)
  ·rcases y i o with h1|h1
   ·exact d (.inr h1)
   ·omega
 ·obtain⟨a,b,d⟩:=h.k i j
  exact off.block i a d
theorem LgF.beside(h:LgF w0 w g gl F v σ s xs sure K)(k: ∀i,K' i->K i):LgF w0 w g gl F v σ s xs sure K':=
 ⟨h.d,h.l,h.ap,h.bF,h.bG,h.ext,fun i b=>h.k i (k i b)⟩
theorem LgK.grow(h:LgK E w0 w g gl c s C sure K)(k:Ext w w1):LgK E w0 w1 g gl c s C sure K:=by
 obtain⟨F,v,σ,h1,h2⟩:=h;exact⟨F,v,σ,h1.grow k,h2⟩
theorem LgK.kExt(h:LgK E w0 w g gl c s C sure K)(k:Ext w w1):Stay K w w1:=by
 obtain⟨F,v,σ,h1,h2⟩:=h;exact h1.kExt k
theorem LgK.more(h:LgK E w0 w g gl c s C sure K)(k:Ext w w1)(hK: ∀i,K' i->K i\/(w.heap.size<=i/\i<w1.heap.size)):LgK E w0 w1 g gl c s C sure K':=by
 obtain⟨F,v,σ,h1,h2⟩:=h;have h3:=h1.grow k;refine⟨F,v,σ,⟨h3.d,h3.l,h3.ap,h3.bF,h3.bG,h3.ext,fun i q=>?_⟩,h2⟩;have b: ∀i,F i->i<w.heap.size:=by obtain⟨_,_,_,_,_,_,h⟩:=h1.d;exact h
 rcases hK i q with h4|⟨h4,j⟩
 ·exact h3.k i h4
 ·refine⟨j,fun m=>?_,fun o=>?_⟩
  ·have:=b i m;omega
  ·have:=h1.l.lt o;omega
end
theorem z5y{f:FuncId}{args:Array Value}{w:World}{v:Value}(h:Calls Tryz.prog f args w fun e w'=>e= .returned v/\w=w'):Calls Tryz.prog f args w fun e w'=>e= .returned v/\Ext w w':=
 h.mono fun _ w' ⟨e,h⟩=>⟨e,h▸Ext.refl _⟩
theorem y0a{w:World}{gl g:Nat}{s sure:Int}{v:Value}{C:Cks}(h:LogM w gl g s v (q0O C) sure)(i:okC C):
  Calls Tryz.prog 111 #[.pointer (some ⟨gl,0,none⟩)] w fun e w'=>e= .returned (.int .i64 (q4O C))/\w=w':=by
 obtain⟨a,k,rfl,d⟩:=h.slice;have y:=h.c3;clear h;rcases List.eq_nil_or_concat C with rfl|⟨D,ps,rfl⟩
 ·clear d
  go_enter Tryz.func111,Tryz.ntmps111;have e0:(q0O []).length=0:=rfl;go_wp2_with fail;go_ret;exact⟨rfl,rfl⟩
 rw[List.concat_eq_append] at*;have o:(q0O (D++[ps])).length=D.length+1:=by simp[q0O]
 have m:D.length+1<=200:=by have:=i.few;simpa using this
 have B:q0L ps<=4096:=i.size ps (by simp);obtain⟨b,off,rfl,hc⟩:=d.at (j:=D.length) (by omega);have q:(q0O (D++[ps])).getD D.length 0=(q0L ps:Int):=q9T D ps;rw[q] at hc;rw[o] at y d;rw[q3J];clear d i o q;generalize D.length=n at*;obtain⟨z,u⟩: ∃z:Int,(q0L ps:Int)=z:=⟨_,rfl⟩
 have G:0<=z:=by omega
 have I:z<=4096:=by omega
 rw[u] at hc⊢;clear u B;go_enter Tryz.func111,Tryz.ntmps111;go_wp2_with fail;go_ret;exact⟨rn (by go_num),rfl⟩
section
variable {w0 w:World}{g gl:Nat}{F K:Nat->Prop}{v:Value}{σ:DM}{c s sure:Int}{xs:List Int}{C:Cks}
theorem z5x(h:LgF w0 w g gl F v σ s xs sure K)(j:q4d σ=c)(u:0<=c)(h1:c<=1048576)(n:Int)(y:0<=n)(B:n<=1048576):
  Calls Tryz.prog 172 #[.pointer (some ⟨gl,0,none⟩),.int .i64 n] w fun e w'=>e= .returned (.bool (decide (6000<=c-n)))/\Ext w w':=by
 have q:=h.l.c0;have b:=η (z8T h.d);rw[j] at b;clear h j;go_enter Tryz.func172,Tryz.ntmps172;go_wp2_with fail;refine b.o.mono ?_;rintro e w1 ⟨rfl,i⟩;have m:=η i;clear i;go_wp2_with fail;go_ret;exact⟨rfl,m.o⟩
theorem z1e(h:LgF w0 w g gl F v σ s xs sure K)(b:σ.down=false)(q:σ.starts=s):
  Calls Tryz.prog 90 #[.pointer (some ⟨gl,0,none⟩)] w fun e w'=>e= .returned (.int .i64 0)/\Ext w w':=by
 have y:=h.l.c0;have B:=h.l.c1;have G:=h.l.c2;have I:=q0D y;have J:=q0D B;have M:=q0D G;have m:=η (fun x:ExtOf w=>z5y (y5X (h.d.ext x.h)));have j:=η (fun x:ExtOf w=>z5y (z6C (h.d.ext x.h)));rw[b] at m;rw[q] at j;clear h b q;go_enter Tryz.func90,Tryz.ntmps90;go_wp2_with fail;refine q0E (by kernel_rfl) (by kernel_rfl) ?_
 repeat (go_big_quiet_step (first|(go_at_call 105;exact Calls.quiet_ext (m.o _))|(go_at_call 109;exact Calls.quiet_ext (j.o _))))
 refine wpQuiet_nil ?_;intro w1 i;have u:=η i;clear i;go_wp2_with fail;go_ret;exact⟨rfl,u.o⟩
theorem y4S(h:LgF w0 w g gl F v σ s xs sure K):
  Calls Tryz.prog 93 #[.pointer (some ⟨gl,0,none⟩),.int .i64 0] w fun e w'=>e= .returned (.int .i64 0)/\LgF w0 w' g gl F v σ s xs sure K/\Stay K w w':=by
 have j:=h.l.c2;have m:=h.l.blk.free 2;have H:=η h
 have b:Hd (LgF w0 (w.setCell ⟨gl,2,none⟩ (.bool false)) g gl F v σ s xs sure K/\Stay K w (w.setCell ⟨gl,2,none⟩ (.bool false))):=η (by
  refine h.log ⟨h.l.blk.set 2 (.bool false),q0i h.l.row _ h.l.apart⟩ (OffS.set w (.inl rfl) 2 _) fun i d=> .inl d)
 clear h;go_enter Tryz.func93,Tryz.ntmps93;go_wp2_with fail;go_ret;exact⟨rfl,b.o⟩
end
section
variable {E :Oth}{w0 w:World}{g gl:Nat}{F K:Nat->Prop}{v:Value}{σ:DM}{c s sure:Int}{C:Cks}
theorem LgF.setSure{xs:List Int}{sure:Int}(h:LgF w0 w g gl F v σ s xs sure K)(z:Int):LgF w0 (w.setCell ⟨gl,4,none⟩ (.int .i64 z)) g gl F v σ s xs z K/\Stay K w (w.setCell ⟨gl,4,none⟩ (.int .i64 z)):=
 h.log ⟨h.l.blk.set 4 (.int .i64 z),q0i h.l.row _ h.l.apart⟩ (OffS.set w (.inl rfl) 4 _) fun i b=> .inl b
theorem z1B{C:Cks}(h:C≠[]): ∃D ps,C=D++[ps]:=by
 rcases List.eq_nil_or_concat C with h1|⟨D,ps,h1⟩
 ·exact absurd h1 h
 ·exact⟨D,ps,by rw[h1,List.concat_eq_append]⟩
theorem z1A(D:Cks)(ps:List (List UInt8)):(D++[ps])[D.length]? =some ps:=by simp
def q0p(C:Cks)(sure:Int):Int:=if C=[] then sure else q4O C
def LgV(E:Oth)(w0 w:World)(g gl:Nat)(v:Value)(c s:Int)(C:Cks)(sure:Int)(K:Nat->Prop):Prop:= ∃F σ,LgF w0 w g gl F v σ s (q0O C) sure K/\Lgd E σ c s C
theorem LgV.toK(h:LgV E w0 w g gl v c s C sure K):LgK E w0 w g gl c s C sure K:=by obtain⟨F,σ,h1,h2⟩:=h;exact⟨F,v,σ,h1,h2⟩
theorem LgK.toV(h:LgK E w0 w g gl c s C sure K): ∃v,LgV E w0 w g gl v c s C sure K:=by obtain⟨F,v,σ,h1,h2⟩:=h;exact⟨v,F,σ,h1,h2⟩
theorem z5b(h:LgF w0 w g gl F v σ s (q0O C) sure K)(b:Lgd E σ c s C):
  Calls Tryz.prog 132 #[.pointer (some ⟨gl,0,none⟩)] w fun e w'=>e= .returned (.int .i64 0)/\LgV E w0 w' g gl v c s C (q0p C sure) K/\Stay K w w':=by
 have c0:=h.l.c0;have Y:=h.l.c3;obtain⟨a,k,rfl,hx⟩:=h.l.slice;by_cases i:C=[]
 ·subst i
  have HK:Hd (LgV E w0 w g gl (.slice a (q0O []).length k) c s [] (q0p [] sure) K):=η ⟨F,σ,h,b⟩;have e0:(q0O []).length=0:=rfl;clear h b hx;go_enter Tryz.func132,Tryz.ntmps132;go_wp2_with fail;go_ret;exact⟨rfl,HK.o,Stay.refl _ _⟩
 have J:Hd (q0p C sure=q4O C):=η (by unfold q0p;rw[κ i]);have b0:1<=C.length:=by cases C with|nil=>exact absurd rfl i|cons=>simp
 obtain⟨D,ps,U⟩:=z1B i;have hn:(q0O C).length=C.length:=q0r C;have q:=b.ok.few;rw[hn] at Y;obtain⟨σ',hm,y⟩:=b.pl.sync (q4M b.oth q (by rw[U];exact z1A D ps));have V:=q3Z (D.length:Int)
 have R:=η (fun (G:World) (k:Ext w G)=>show Calls Tryz.prog 184 #[.pointer (some ⟨g,0,none⟩),.string ⟨(q0C 99 (D.length:Int)).toArray⟩] G fun e w'=>e= .returned (.int .i64 0)/\DkS G g F σ' w' by
  have:=z6D (h.d.ext k) (q0C 99 (D.length:Int)) V;rw[hm] at this
  exact this)
 have hM:IntKind.i64.wrap ((C.length:Int)-1)=(D.length:Int):=by
  have:C.length=D.length+1:=by rw[U];simp
  rw[ν];omega
 have m:=η (fun W=>q4z (D.length:Int) W);generalize q0C 99 (D.length:Int)=nm at*;obtain⟨M,u⟩: ∃M:Int,(D.length:Int)=M:=⟨_,rfl⟩
 rw[u] at hM m;have X:=η h;have N:=η b;have HP:=η y;have B:Ext w w.drew:=(Ext.refl w).drew;have HW:=η B;have Z:=q0A B c0;have d3:=q0A B Y;have a0:((C.length:Int)==0)=false:=by simpa using i
 clear h b y hm hx U u i hn B;go_enter Tryz.func132,Tryz.ntmps132;go_wp2_with fail
 go_region_held3 (fun W=>W.cell? ⟨gl,0,none⟩=some (.pointer (some ⟨g,0,none⟩))/\W.cell? ⟨gl,3,none⟩=some (.slice a C.length k))
  (first|exact Q.o|exact O.o|exact⟨Z,d3⟩)
  (first
   |(go_at_call 92;refine(m.o _).mono ?_;rintro e G ⟨rfl,h1⟩;have I:=η (HW.o.trans h1);have O:=η (And.intro (q0A h1 Z) (q0A h1 d3));clear h1)
   |(go_at_call 184;refine(R.o _ I.o).mono ?_;rintro e wb ⟨rfl,h2⟩;have h3:=(X.o.grow I.o).disk h2;have j:=η h3;have Q:=η (And.intro h3.1.l.c0 (q0r C▸h3.1.l.c3));clear h2 h3))
 all_goals
  have HE:=η (y0a j.o.1.l N.o.ok);have e4:=j.o.1.l.c4;have z4:=j.o.1.l.blk.free 4;have h4:=j.o.1.setSure (q4O C);have HF:=η (show LgV E w0 (wb.setCell ⟨gl,4,none⟩ (.int .i64 (q4O C))) g gl _ c s C (q0p C sure) K from⟨_,σ',by rw[J.o];exact h4.1,⟨HP.o,N.o.ok,N.o.oth⟩⟩);have S:=η ((X.o.kExt I.o).trans (j.o.2.trans h4.2));clear h4;go_wp2_with fail;refine HE.o.mono ?_;rintro e w' ⟨rfl,rfl⟩;go_wp2_with fail;go_ret;exact⟨rfl,HF.o,S.o⟩
theorem y2n(h:LgF w0 w g gl F v σ s (q0O C) sure K)(b:Lgd E σ c s C):
  Calls Tryz.prog 132 #[.pointer (some ⟨gl,0,none⟩)] w fun e w'=>e= .returned (.int .i64 0)/\LgK E w0 w' g gl c s C (q0p C sure) K/\Stay K w w':=
 (z5b h b).mono fun _ _ ⟨h1,h2,h3⟩=>⟨h1,h2.toK,h3⟩
end
section
variable {E :Oth}{w0 w:World}{g gl:Nat}{F K:Nat->Prop}{v:Value}{σ:DM}{c s sure:Int}{C:Cks}
theorem Lgd.free(h:Lgd E σ c s C):q4d σ=c-(q1A C:Int):=by rw[h.pl.free,q8c];push_cast;omega
theorem Dk.okD{F:Nat->Prop}(h:Dk w g F σ):okD σ:=by obtain⟨h1,_⟩:=h;exact h1
theorem LgF.room0{xs:List Int}(h:LgF w0 w g gl F v σ s xs sure K)(i:Lgd E σ c s C):0<=c-(q1A C:Int)/\c-(q1A C:Int)<=1048576:=by
 have b:=h.d.okD;have h1:=i.free;have h2:=b.used;have h3:=b.cap1;unfold q4d at h1;omega
theorem LgF.setRow{xs:List Int}(h:LgF w0 w g gl F v σ s xs sure K){b k:Nat}(o:v= .slice (some ⟨b,0,none⟩) xs.length k)(j:Nat)(z:Int):LgF w0 (w.setCell ⟨b,j,none⟩ (.int .i64 z)) g gl F v σ s (xs.set j z) sure K/\Stay K w (w.setCell ⟨b,j,none⟩ (.int .i64 z)):=by
 have m:v.ownBlock=some b:=by rw[o];rfl
 have d:¬gl=b:=fun e=>h.l.apart (by rw[m,e])
 refine h.log ⟨(OffS.set (F:=fun i=>i=b) w rfl j (.int .i64 z)).blk h.l.blk d,?_⟩ (OffS.set w (.inr m) j _) fun i q=> .inl q
 have:=z6y h.l.row o (j:=j) (.int .i64 z);rw[List.length_set,List.map_set];exact this
theorem LgF.last(h:LgF w0 w g gl F v σ s (q0O (D++[ps])) sure K):
  ∃b k,v= .slice (some ⟨b,0,none⟩) (D.length+1) k/\w.cell? ⟨b,D.length,none⟩=some (.int .i64 (q0L ps:Int))/\w.frozen? ⟨b,D.length,none⟩=false:=by
 have d:(q0O (D++[ps])).length=D.length+1:=by rw[q0r];simp
 obtain⟨b,k,h1,h2,h3,_⟩:=(Own.of_row h.l.row).cell (j:=D.length) (by rw[List.length_map,d];omega);have i:((q0O (D++[ps])).map (Value.int .i64))[D.length]'(by rw[List.length_map,d];omega)= .int .i64 (q0L ps:Int):=by
  rw[List.getElem_map]
  congr 1
  have:=q9T D ps;rw[δ,γ (by rw[d];omega)] at this;exact this
 rw[i] at h2;rw[d] at h1;exact⟨b,k,h1,h2,h3⟩
theorem z7U(h:LgF w0 w g gl F v σ s (q0O C) sure K)(b:Lgd E σ c s C)(n:Int)(R:List UInt8)(B:R.length<=2012)(y:c-(q1A C:Int)-(R.length:Int)<6000):
  Calls Tryz.prog 121 #[.pointer (some ⟨gl,0,none⟩),.int .i64 n,.string ⟨R.toArray⟩] w fun e w'=>e= .returned (.tuple #[.int .i64 0,.int .i64 60])/\Ext w w':=by
 obtain⟨m,q⟩:=h.room0 b;have d:=η (z5x h b.free m q (R.length:Int) (by omega) (by omega));have j:decide ((6000:Int)<=c-(q1A C:Int)-(R.length:Int))=false:=by simp;omega
 rw[j] at d;clear h b j m q y;go_enter Tryz.func121,Tryz.ntmps121;go_wp2_with fail;refine d.o.mono ?_;rintro e w1 ⟨rfl,i⟩;have u:=η i;clear i;go_wp2_with fail;go_ret2;exact⟨rfl,u.o⟩
theorem z9z(h:LgF w0 w g gl F v σ s (q0O (D++[ps])) sure K)(j:Lgd E σ c s (D++[ps]))(hp:p.length<=2000)(hs:q0L ps+(p.length+12)<=4096)
  (hr:6000<=c-(q1A (D++[ps]):Int)-((p.length:Int)+12)):
  Calls Tryz.prog 121 #[.pointer (some ⟨gl,0,none⟩),.int .i64 (D.length:Int),.string ⟨(q2u p).toArray⟩] w fun e w'=>
   e= .returned (.tuple #[.int .i64 ((D.length:Int)*4096+(q0L ps:Int)),.int .i64 0])/\LgK E w0 w' g gl c s (D++[ps++[p]]) sure K/\Stay K w w':=by
 obtain⟨r0,r1⟩:=h.room0 j;have i:=j.ok.few;have m:D.length+1<=200:=by simpa using i
 have b0:=q1T p;have HR:=η (z5x h j.free r0 r1 ((q2u p).length:Int) (by omega) (by omega));have hd:decide ((6000:Int)<=c-(q1A (D++[ps]):Int)-((q2u p).length:Int))=true:=by simp;omega
 rw[hd] at HR;obtain⟨σ',hm,q⟩:=j.pl.append (t:=q2u p) (q4M j.oth i (z1A D ps)) (by rw[q8c];push_cast;omega);rw[z7e j.oth p (by omega)] at q;have HP:Hd (Lgd E σ' c s (D++[ps++[p]])):=η ⟨q,j.ok.grow hp hs,j.oth⟩;have I:=q3Z (D.length:Int)
 have Q:=η (fun (N:World) (k:Ext w N)=>show Calls Tryz.prog 173 #[.pointer (some ⟨g,0,none⟩),.string ⟨(q0C 99 (D.length:Int)).toArray⟩,.string ⟨(q2u p).toArray⟩] N fun e w'=>e= .returned (.int .i64 0)/\DkS N g F σ' w' by
  have:=q8D (h.d.ext k) (q0C 99 (D.length:Int)) (q2u p) I (by omega);rw[hm] at this
  exact this)
 have U:=η (fun W=>q4z (D.length:Int) W);have c0:=h.l.c0;have u:=η c0;have HH:=η h
 have a0:Hd ((q0O (D++[ps])).set D.length ((q0L ps:Int)+((q2u p).length:Int))=q0O (D++[ps++[p]])):=η (by
  rw[<-z7A D ps (ps++[p]),q3C,q1T];congr 1)
 have y:=η (fun (W:World) (F':Nat->Prop) (τ:DM) (hW:LgF w0 W g gl F' v τ s (q0O (D++[ps])) sure K)=>hW.last);have J:(q0O (D++[ps])).length=D.length+1:=by rw[q0r];simp
 have Y:=η J;have z0:(0:Int)<=(q0L ps:Int):=by omega
 have z1:(q0L ps:Int)<=4096:=by omega
 have e0:(q2u p).length<=2012:=by omega
 have f0:D.length<=199:=by omega
 generalize q0C 99 (D.length:Int)=nm at*;generalize q2u p=R at*;generalize (q0L ps:Int)=z at*;generalize D.length=n at*;clear h j q hm hd r0 r1 hr hs b0 i m hp I J;go_enter Tryz.func121,Tryz.ntmps121;go_wp2_with fail;refine HR.o.mono ?_;rintro e w1 ⟨rfl,G⟩;have HB:=η G;have d0:=q0A G u.o;have B:=q0A (G.drew) u.o;have S:=η G.drew;clear G c0;go_wp2_with fail
 go_region_held3 (fun W=>W.cell? ⟨gl,0,none⟩=some (.pointer (some ⟨g,0,none⟩)))
  (first|exact X.o|exact V.o|exact B)
  (first
   |(go_at_call 92;refine(U.o _).mono ?_;rintro e N ⟨rfl,h1⟩;have O:=η (S.o.trans h1);have V:=η (q0A h1 B);clear h1)
   |(go_at_call 173;refine(Q.o _ O.o).mono ?_;rintro e wb ⟨rfl,h2⟩;have h3:=(HH.o.grow O.o).disk h2;have M:=η h3;have X:=η h3.1.l.c0;clear h2 h3))
 all_goals
  obtain⟨b,k,rfl,e2,z2⟩:=y.o _ _ _ M.o.1;have e3:=M.o.1.l.c3;have h4:=M.o.1.setRow (by rw[Y.o]) n (z+(R.length:Int));rw[a0.o] at h4;have HF:=η (show LgK E w0 (wb.setCell ⟨b,n,none⟩ (.int .i64 (z+(R.length:Int)))) g gl c s (D++[ps++[p]]) sure K from⟨_,_,σ',h4.1,HP.o⟩);have Z:=η ((HH.o.kExt O.o).trans (M.o.2.trans h4.2));clear h4;go_wp2_with fail;go_ret2;exact⟨rfl,HF.o,Z.o⟩
end
def LgP(E:Oth)(w0 w:World)(g gl:Nat)(c s:Int)(l:List (List UInt8×List UInt8))(xs:List Int)(sure:Int)(K:Nat->Prop):Prop:= ∃F v σ,LgF w0 w g gl F v σ s xs sure K/\okOth E/\Pl σ (c+(q2s E:Int)) s l
theorem z7a{w w':World}{b:Nat}(h:w'.heap[b]? =w.heap[b]?)(o:Nat):w'.cell? ⟨b,o,none⟩=w.cell? ⟨b,o,none⟩:=by simp only[World.cell?,h]
theorem q1I{K:Nat->Prop}{w w':World}(h:Stay K w w'){b o:Nat}(hK:K b){u:Value}(hc:w.cell? ⟨b,o,none⟩=some u):w'.cell? ⟨b,o,none⟩=some u:=(z7a (h b hK) o).trans hc
section
variable {E :Oth}{w0 w:World}{g gl:Nat}{F K:Nat->Prop}{v:Value}{σ:DM}{c s sure:Int}{C:Cks}{xs:List Int}
theorem z9w(h:LgP E w0 w g gl c s (q3y E C) xs sure K)(hC:C.length<200)(kl:K bl)(kn:K bn)(m:w.cell? ⟨bl,0,none⟩=some (.pointer (some ⟨gl,0,none⟩)))(q:w.cell? ⟨bn,0,none⟩=some (.int .i64 (C.length:Int))):
  Calls Tryz.prog 175 #[.pointer (some ⟨bl,0,none⟩),.pointer (some ⟨bn,0,none⟩)] w fun e w'=>e= .returned (.int .i64 0)/\LgP E w0 w' g gl c s (z6U E C) xs sure K/\Stay K w w':=by
 obtain⟨F,v,σ,h,j,X⟩:=h;have R:=h.l.c0;have y:q2j (q0C 99 (C.length:Int))=true:=by rw[q0X (by omega)];simp[q2j,q0l]
 obtain⟨σ',hm,i⟩:=X.create (z7f j (by omega) (ι _) (by omega)) y (by rw[q8b];have:=j.few;omega);rw[y0E j (by omega)] at i;have u:=q3Z (C.length:Int)
 have M:=η (fun (G:World) (k:Ext w G)=>show Calls Tryz.prog 176 #[.pointer (some ⟨g,0,none⟩),.string ⟨(q0C 99 (C.length:Int)).toArray⟩] G fun e w'=>e= .returned (.int .i64 0)/\DkS G g F σ' w' by
  have:=z1C (h.d.ext k) (q0C 99 (C.length:Int)) u;rw[hm] at this
  exact this)
 have J:=η (fun W=>q4z (C.length:Int) W);have Y:=η (And.intro j i);have Q:=η h;have B:Ext w w.drew:=(Ext.refl w).drew;have Z:=η B;have S:=q0A B R;have U:=q0A B m;have V:=q0A B q;generalize q0C 99 (C.length:Int)=nm at*;generalize C.length=n at*;clear h X i j hm y u B R m q;go_enter Tryz.func175,Tryz.ntmps175;go_wp2_with fail
 go_region_held3 (fun W=>W.cell? ⟨gl,0,none⟩=some (.pointer (some ⟨g,0,none⟩))/\W.cell? ⟨bl,0,none⟩=some (.pointer (some ⟨gl,0,none⟩))/\W.cell? ⟨bn,0,none⟩=some (.int .i64 (n:Int)))
  (first|exact N.o|exact b.o|exact⟨S,U,V⟩)
  (first
   |(go_at_call 92;refine(J.o _).mono ?_;rintro e G ⟨rfl,h1⟩;have I:=η (Z.o.trans h1);have b:=η (And.intro (q0A h1 S) (And.intro (q0A h1 U) (q0A h1 V)));clear h1)
   |(go_at_call 176;refine(M.o _ I.o).mono ?_;rintro e wb ⟨rfl,h2⟩;have h3:=(Q.o.grow I.o).disk h2;have O:=η h3;have N:=η (And.intro h3.1.l.c0 (And.intro (q1I h3.2 kl b.o.2.1) (q1I h3.2 kn b.o.2.2)));clear h2 h3))
 all_goals
  go_wp2_with fail;go_ret;exact⟨rfl,⟨_,_,σ',O.o.1,Y.o⟩,(Q.o.kExt I.o).trans O.o.2⟩
theorem z9x(h:LgP E w0 w g gl c s (z6U E C) xs sure K)(hC:C.length<200)(hp:p.length<=2000)(hr:(p.length:Int)+24<=c-(q1A C:Int))(kl:K bl)(kn:K bn)(kr:K br)
  (y:w.cell? ⟨bl,0,none⟩=some (.pointer (some ⟨gl,0,none⟩)))(B:w.cell? ⟨bn,0,none⟩=some (.int .i64 (C.length:Int)))(G:w.cell? ⟨br,0,none⟩=some (.string ⟨(q2u p).toArray⟩)):
  Calls Tryz.prog 177 #[.pointer (some ⟨bl,0,none⟩),.pointer (some ⟨bn,0,none⟩),.pointer (some ⟨br,0,none⟩)] w fun e w'=>e= .returned (.int .i64 0)/\LgP E w0 w' g gl c s (q3y E (C++[[p]])) xs sure K/\Stay K w w':=by
 obtain⟨F,v,σ,h,M,J⟩:=h;have Z:=h.l.c0;have hf:q0H Prod.fst (q0C 99 (C.length:Int)) (z6U E C)=some (q0C 99 (C.length:Int),[]):=by
  exact z7h M (by omega)
 have u:=q1T p;have q:=q3Y C.length
 obtain⟨σ',hm,j⟩:=J.append (t:=q3I C.length++q2u p) hf (by
  rw[z7i,θ,u,q]
  push_cast
  omega)
 rw[z6R M p (by omega)] at j;have I:=q3Z (C.length:Int)
 have Q:=η (fun (N:World) (k:Ext w N)=>show Calls Tryz.prog 173 #[.pointer (some ⟨g,0,none⟩),.string ⟨(q0C 99 (C.length:Int)).toArray⟩,.string (⟨(q3I C.length).toArray⟩++⟨(q2u p).toArray⟩)] N fun e w'=>e= .returned (.int .i64 0)/\DkS N g F σ' w' by
  have:=q8D (h.d.ext k) (q0C 99 (C.length:Int)) (q3I C.length++q2u p) I (by rw[θ];omega);rw[hm] at this;rw[q2B]
  exact this)
 have S:=η (fun W=>q4z (C.length:Int) W);have U:=η (fun W=>z4x C.length W hC);have HP:=η (And.intro M j);have Y:=η h;have m:Ext w w.drew:=(Ext.refl w).drew;have HW:=η m;have d0:=q0A m Z;have d1:=q0A m y;have d2:=q0A m B;have d3:=q0A m G;have a0:¬(9223372036854775807<(q3I C.length).length+(q2u p).length):=by omega
 clear h J M j hm hf I m Z y B G u q hr hp;generalize q2u p=R at*;generalize q3I C.length=Hd at*;generalize q0C 99 (C.length:Int)=nm at*;generalize C.length=n at*;go_enter Tryz.func177,Tryz.ntmps177;go_wp2_with fail
 go_region_held3 (fun W=>W.cell? ⟨gl,0,none⟩=some (.pointer (some ⟨g,0,none⟩))/\W.cell? ⟨bl,0,none⟩=some (.pointer (some ⟨gl,0,none⟩))/\W.cell? ⟨bn,0,none⟩=some (.int .i64 (n:Int))/\W.cell? ⟨br,0,none⟩=some (.string ⟨R.toArray⟩))
  (first|exact V.o|exact i.o|exact b.o|exact⟨d0,d1,d2,d3⟩)
  (first
   |(go_at_call 92;refine(S.o _).mono ?_;rintro e N ⟨rfl,h1⟩;have H1:=η (HW.o.trans h1);have b:=η (And.intro (q0A h1 d0) (And.intro (q0A h1 d1) (And.intro (q0A h1 d2) (q0A h1 d3))));clear h1)
   |(go_at_call 146;refine(U.o _).mono ?_;rintro e wc ⟨rfl,h1⟩;have O:=η (H1.o.trans h1);have i:=η (And.intro (q0A h1 b.o.1) (And.intro (q0A h1 b.o.2.1) (And.intro (q0A h1 b.o.2.2.1) (q0A h1 b.o.2.2.2))));clear h1)
   |(go_at_call 173;refine(Q.o _ O.o).mono ?_;rintro e wb ⟨rfl,h2⟩;have h3:=(Y.o.grow O.o).disk h2;have X:=η h3;have V:=η (And.intro h3.1.l.c0 (And.intro (q1I h3.2 kl i.o.2.1) (And.intro (q1I h3.2 kn i.o.2.2.1) (q1I h3.2 kr i.o.2.2.2))));clear h2 h3))
 all_goals
  go_wp2_with fail;go_ret;exact⟨rfl,⟨_,_,σ',X.o.1,HP.o⟩,(Y.o.kExt O.o).trans X.o.2⟩
end
section
variable {E :Oth}{w0 w:World}{g gl:Nat}{F K:Nat->Prop}{v:Value}{σ:DM}{c s sure:Int}{C:Cks}{xs:List Int}
theorem LgK.toP(h:LgK E w0 w g gl c s C sure K):LgP E w0 w g gl c s (q3y E C) (q0O C) sure K/\okC C:=by
 obtain⟨F,v,σ,h1,h2⟩:=h;exact⟨⟨F,v,σ,h1,h2.oth,h2.pl⟩,h2.ok⟩
def z4m(E:Oth)(w0:World)(g gl:Nat)(c s:Int)(C:Cks)(p:List UInt8)(sure:Int)(K:Nat->Prop):Nat->World->Prop
 |0,W=>LgK E w0 W g gl c s C sure K
 |1,W=>LgP E w0 W g gl c s (q3y E C) (q0O C) (q0p C sure) K
 |2,W=>LgP E w0 W g gl c s (z6U E C) (q0O C) (q0p C sure) K
 |_,W=>LgP E w0 W g gl c s (q3y E (C++[[p]])) (q0O C) (q0p C sure) K
theorem y3c(h:LgK E w0 w g gl c s C sure K)(hC:C.length<200)(hp:p.length<=2000)(hr:(p.length:Int)+24<=c-(q1A C:Int)){b:Nat}(S:K b)(kl:K bl)(X:K bn)(Y:K br)
  (I:w.cell? ⟨b,0,none⟩=some (.func (.func 132) #[.pointer (some ⟨gl,0,none⟩)] #[]))
  (J:w.cell? ⟨b,1,none⟩=some (.func (.func 175) #[] #[.pointer (some ⟨bl,0,none⟩),.pointer (some ⟨bn,0,none⟩)]))
  (M:w.cell? ⟨b,2,none⟩=some (.func (.func 177) #[] #[.pointer (some ⟨bl,0,none⟩),.pointer (some ⟨bn,0,none⟩),.pointer (some ⟨br,0,none⟩)]))
  (N:w.cell? ⟨bl,0,none⟩=some (.pointer (some ⟨gl,0,none⟩)))(O:w.cell? ⟨bn,0,none⟩=some (.int .i64 (C.length:Int)))(Q:w.cell? ⟨br,0,none⟩=some (.string ⟨(q2u p).toArray⟩)):
  Calls Tryz.prog 174 #[.slice (some ⟨b,0,none⟩) 3 3] w fun e w'=>e= .returned (.int .i64 0)/\LgP E w0 w' g gl c s (q3y E (C++[[p]])) (q0O C) (q0p C sure) K/\Stay K w w':=by
 have H:=η h;have HB:=η (show∀W,Stay K w W->W.cell? ⟨b,0,none⟩=_/\W.cell? ⟨b,1,none⟩=_/\W.cell? ⟨b,2,none⟩=_ from fun W k=>⟨q1I k S I,q1I k S J,q1I k S M⟩);have HL:=η (show∀W,Stay K w W->W.cell? ⟨bl,0,none⟩=_/\W.cell? ⟨bn,0,none⟩=_/\W.cell? ⟨br,0,none⟩=_ from fun W k=>⟨q1I k kl N,q1I k X O,q1I k Y Q⟩);have y:=η kl;have B:=η X;have U:=η Y;have Z:=η hC;have V:=η hp;have HR:=η hr;clear h S kl X Y I J M N O Q hC hp hr;go_enter Tryz.func174,Tryz.ntmps174;go_wp2_with fail
 go_loopw [8] (fun i W=> ∃k:Nat,k<=3/\i= .int .i64 (k:Int)/\z4m E w0 g gl c s C p sure K k W/\Stay K w W) (fun i _=>3-(intOf i).toNat)
 case atStart=>exact⟨0,by omega,rfl,H.o,Stay.refl _ _⟩
 case round=>
  obtain⟨k,hk,rfl,hs,m⟩:=hrel;have R:=η hs;have j:=η m;obtain⟨q0,q1,q2⟩:=HB.o wr m;have d:=η (HL.o wr m);clear hs m;obtain rfl|rfl|rfl|rfl:k=0\/k=1\/k=2\/k=3:=by omega
  ·have G:Hd (Calls Tryz.prog 132 #[.pointer (some ⟨gl,0,none⟩)] wr fun e w'=>e= .returned (.int .i64 0)/\LgK E w0 w' g gl c s C (q0p C sure) K/\Stay K wr w'):=η (by
    obtain⟨F,v,σ,h1,h2⟩:=R.o
    exact y2n h1 h2)
   go_wp2_with fail;refine G.o.mono ?_;rintro e w1 ⟨rfl,h1,h2⟩;have q:=η (show z4m E w0 g gl c s C p sure K 1 w1 from h1.toP.1);have u:=η (j.o.trans h2);clear h1 h2;go_wp2_with fail
   go_roundw
   case rel=>exact⟨1,by omega,by go_num,q.o,u.o⟩
   case measure=>simp[intOf]
  ·have G:=η (z9w R.o Z.o y.o B.o d.o.1 d.o.2.1)
   go_wp2_with fail;refine G.o.mono ?_;rintro e w1 ⟨rfl,h1,h2⟩;have q:=η (show z4m E w0 g gl c s C p sure K 2 w1 from h1);have u:=η (j.o.trans h2);clear h1 h2;go_wp2_with fail
   go_roundw
   case rel=>exact⟨2,by omega,by go_num,q.o,u.o⟩
   case measure=>simp[intOf]
  ·have G:=η (z9x R.o Z.o V.o HR.o y.o B.o U.o d.o.1 d.o.2.1 d.o.2.2)
   go_wp2_with fail;refine G.o.mono ?_;rintro e w1 ⟨rfl,h1,h2⟩;have q:=η (show z4m E w0 g gl c s C p sure K 3 w1 from h1);have u:=η (j.o.trans h2);clear h1 h2;go_wp2_with fail
   go_roundw
   case rel=>exact⟨3,by omega,by go_num,q.o,u.o⟩
   case measure=>simp[intOf]
  ·go_wp2_with fail
   go_ret;exact⟨rfl,R.o,j.o⟩
end
section
variable {E :Oth}{w0 w:World}{g gl:Nat}{F K:Nat->Prop}{v:Value}{σ:DM}{c s sure:Int}{C:Cks}{xs:List Int}
theorem LgF.push{y w':World}(h:LgF w0 w3 g gl F v σ s xs sure K)(u:Ext w3 y){z:Int}{d:Value}(m:w'.ownsRow 0 3 1 d (xs.length+1) (xs.map (Value.int .i64)++[.int .i64 z]))(b:y.grownBy w' v.ownBlock)
  (j:d.ownBlock=v.ownBlock\/d.ownBlock=some y.heap.size):
  LgF w0 (w'.setCell ⟨gl,3,none⟩ d) g gl F d σ s (xs++[z]) sure K/\Stay K w3 (w'.setCell ⟨gl,3,none⟩ d):=by
 have G:=h.l.blk.lt;have I:=u.size;have q:d.ownBlock≠some gl:=fun e=>by
  rcases j with h1|h1
  ·exact h.l.apart (h1.symm.trans e)
  ·rw[h1] at e;cases e;omega
 have B:Blk w' gl 156 #[.pointer (some ⟨g,0,none⟩),.int .i64 s,.bool false,v,.int .i64 sure]:=(h.l.blk.ext u).same (b.block gl (by omega) fun e=>h.l.apart e.symm);refine h.log ⟨B.set 3 d,?_⟩ (((OffS.of_ext u).trans (OffS.grown b fun i e=> .inr e)).trans (OffS.set w' (.inl rfl) 3 d)) fun i o=>?_
 ·rw[θ,List.map_append]
  exact q0i m d q
 ·rcases j with h1|h1
  ·exact .inl (h1.symm.trans o)
  ·right;rw[h1] at o;cases o;exact I
theorem LgF.pushed{m w':World}(h:LgF w0 w3 g gl F v σ s xs sure K)(d:Ext w3 m)(b:m.grownBy w' v.ownBlock):Stay K w3 w'/\w'.cell? ⟨gl,3,none⟩=some v/\w'.frozen? ⟨gl,3,none⟩=false:=by
 have q:=h.l.blk.lt;have u:=d.size;have j:Blk w' gl 156 #[.pointer (some ⟨g,0,none⟩),.int .i64 s,.bool false,v,.int .i64 sure]:=(h.l.blk.ext d).same (b.block gl (by omega) fun e=>h.l.apart e.symm);refine⟨fun i o=>?_,j.cell 3,j.free 3⟩;obtain⟨h1,_,h2⟩:=h.k i o;exact(b.block i (by omega) fun e=>h2 (.inr e.symm)).trans (d.block i h1)
theorem z9y(h:LgF w0 w g gl F v σ s (q0O C) sure K)(d:Lgd E σ c s C)(R:List UInt8)(I:R.length<=2012)(y:200<=C.length\/c-(q1A C:Int)-((R.length:Int)+12)<6000):
  Calls Tryz.prog 122 #[.pointer (some ⟨gl,0,none⟩),.int .i64 (C.length:Int),.string ⟨R.toArray⟩] w fun e w'=>e= .returned (.tuple #[.int .i64 0,.int .i64 60])/\Ext w w':=by
 obtain⟨j,m⟩:=h.room0 d;have q:=d.ok.few;have i:=η (fun (W:World) (k:Ext w W)=>z5x (h.grow k) d.free j m (12+(R.length:Int)) (by omega) (by omega));by_cases J:200<=C.length
 ·have G:decide ((200:Int)<=(C.length:Int))=true:=by simp;omega
  clear h d i j m y;go_enter Tryz.func122,Tryz.ntmps122;go_wp2_with fail;go_ret2;exact⟨rfl,z0L w _ _ _⟩
 ·have G:decide ((200:Int)<=(C.length:Int))=false:=by simp;omega
  have b:decide ((6000:Int)<=c-(q1A C:Int)-(12+(R.length:Int)))=false:=by simp;omega
  rw[b] at i;clear h d j m y b;go_enter Tryz.func122,Tryz.ntmps122;go_wp2_with fail;refine(i.o _ (z0L w _ _ _)).mono ?_;rintro e w1 ⟨rfl,u⟩;have B:=η ((z0L w _ _ _).trans u);clear u;go_wp2_with fail;go_ret2;exact⟨rfl,B.o⟩
theorem y2K(h:LgF w0 w g gl F v σ s (q0O C) sure K)(hl:Lgd E σ c s C)(hp:p.length<=2000)(hn:C.length<200)(hr:6000<=c-(q1A C:Int)-((p.length:Int)+24)):
  Calls Tryz.prog 122 #[.pointer (some ⟨gl,0,none⟩),.int .i64 (C.length:Int),.string ⟨(q2u p).toArray⟩] w fun e w'=>
   e= .returned (.tuple #[.int .i64 ((C.length:Int)*4096+12),.int .i64 0])/\LgK E w0 w' g gl c s (C++[[p]]) (q0p C sure) K/\Stay K w w':=by
 obtain⟨r0,r1⟩:=h.room0 hl;have n0:=q1T p;have HR:=η (fun (W:World) (k:Ext w W)=>z5x (h.grow k) hl.free r0 r1 (12+((q2u p).length:Int)) (by omega) (by omega));have hd:decide ((200:Int)<=(C.length:Int))=false:=by simp;omega
 have t0:decide ((6000:Int)<=c-(q1A C:Int)-(12+((q2u p).length:Int)))=true:=by simp;omega
 rw[t0] at HR;obtain⟨W0,y⟩: ∃W0,((w.alloc (.cells #[.pointer (some ⟨gl,0,none⟩)] 113)).alloc (.cells #[.int .i64 (C.length:Int)] 3)).alloc (.cells #[.string ⟨(q2u p).toArray⟩] 9)=W0:=⟨_,rfl⟩
 have b0:Hd (Ext w W0):=η (by rw[<-y];exact z0L w _ _ _);have J:Hd (∀W,Ext W0 W->W.cell? ⟨w.heap.size,0,none⟩=some (.pointer (some ⟨gl,0,none⟩))/\W.cell? ⟨w.heap.size+1,0,none⟩=some (.int .i64 (C.length:Int))/\W.cell? ⟨w.heap.size+1+1,0,none⟩=some (.string ⟨(q2u p).toArray⟩)):=η fun W hW=>by
  rw[<-y] at hW;have b1:=(((Blk.new w 113 #[.pointer (some ⟨gl,0,none⟩)]).ext (q6f _ (.cells #[.int .i64 (C.length:Int)] 3) (.cells #[.string ⟨(q2u p).toArray⟩] 9))).ext hW).cell 0;have b2:=(((Blk.new (w.alloc (.cells #[.pointer (some ⟨gl,0,none⟩)] 113)) 3 #[.int .i64 (C.length:Int)]).ext (q0B _ (.cells #[.string ⟨(q2u p).toArray⟩] 9))).ext hW).cell 0;have b3:=((Blk.new ((w.alloc (.cells #[.pointer (some ⟨gl,0,none⟩)] 113)).alloc (.cells #[.int .i64 (C.length:Int)] 3)) 9 #[.string ⟨(q2u p).toArray⟩]).ext hW).cell 0;rw[ρ] at b2;rw[ρ,ρ] at b3;exact⟨b1,b2,b3⟩
 have I0:Hd (W0.heap.size=w.heap.size+1+1+1):=η (by rw[<-y];simp);have HK:=η (show LgK E w0 w g gl c s C sure K from⟨F,v,σ,h,hl⟩);have g0:=η hp;have d0:=η hn;have D0:=η hr;have k0:=η n0;have O0: ∀(fn:Fn) (first cap:Array Value) (w:World),(Instr.makeFunc fn first cap).run Tryz.prog w= .ok (.func fn first cap) w:=fun _ _ _ _=>rfl
 have o0:(q2u p).length<=2012:=by omega
 clear h hl r0 r1 hr t0 hp n0;obtain⟨R,hR⟩: ∃R,q2u p=R:=⟨_,rfl⟩
 rw[hR] at HR y J k0 o0⊢;have j0:=η hR;clear hR;go_enter Tryz.func122,Tryz.ntmps122;obtain⟨a0,a1,a2⟩:=J.o W0 (Ext.refl _);go_wp2_with fail
 try rw[y]
 clear y a0 a1 a2;refine(HR.o _ b0.o).mono ?_;rintro e w1 ⟨rfl,hb⟩;obtain⟨q0,q1,q2⟩:=J.o _ hb;have HB:=η hb;clear hb;go_wp2_with fail
 obtain⟨cs, G⟩: ∃cs:Array Value,#[Value.func (Fn.func 132) #[Value.pointer (some ⟨gl,0,none⟩)] #[],Value.func (Fn.func 175) #[] #[Value.pointer (some ⟨w.heap.size,0,none⟩),Value.pointer (some ⟨w.heap.size+1,0,none⟩)],
       Value.func (Fn.func 177) #[] #[Value.pointer (some ⟨w.heap.size,0,none⟩),Value.pointer (some ⟨w.heap.size+1,0,none⟩),Value.pointer (some ⟨w.heap.size+1+1,0,none⟩)]]=cs:=⟨_,rfl⟩
 rw[G];obtain⟨Q,B⟩: ∃Q,w1.alloc (.cells cs 77)=Q:=⟨_,rfl⟩
 have X:Ext w1 Q:=by rw[<-B];exact q0B _ _
 have L0:Q.heap.size=w1.heap.size+1:=by rw[<-B];simp
 have y0:=HB.o.size;rw[I0.o] at y0;have N:Blk Q w1.heap.size 77 cs:=by rw[<-B];exact Blk.new _ _ _
 rw[B];have c0:=η ((b0.o.trans HB.o).trans X);have hK':=HK.o.more (K':=fun i=>K i\/(w.heap.size<=i/\i<Q.heap.size)) c0.o (fun i V=>V);have J0:=η (HK.o.kExt c0.o);obtain⟨r0,r1,r2⟩:=J.o _ (HB.o.trans X);rw[<-j0.o] at r2;have p0:=y3c hK' d0.o g0.o (by have:=D0.o;omega) (b:=w1.heap.size) (bl:=w.heap.size) (bn:=w.heap.size+1) (br:=w.heap.size+1+1) (.inr ⟨by omega,by omega⟩) (.inr ⟨by omega,by omega⟩) (.inr ⟨by omega,by omega⟩) (.inr ⟨by omega,by omega⟩)
  (by rw[N.cell 0,<-G];rfl) (by rw[N.cell 1,<-G];rfl) (by rw[N.cell 2,<-G];rfl) r0 r1 r2
 have q:Hd (w.heap.size<Q.heap.size/\w.heap.size+1+1<Q.heap.size):=η ⟨by omega,by omega⟩;have U:=r2;rw[j0.o] at U;have H0:=η U;have F0:=η r0;have G0:=η r1;clear G B N X L0 y0 r0 r1 r2 hK' q0 q1 q2 U;refine p0.mono ?_;rintro e w3 ⟨rfl,h3,d⟩;clear p0;obtain⟨F3,v3,N0,h3,x0⟩:=h3;have e0:=q1I d (.inr ⟨ι _,q.o.1⟩) F0.o;have e2:=q1I d (.inr ⟨by omega,q.o.2⟩) H0.o;have e1:=η (q1I d (.inr ⟨by omega,by have:=q.o.2;omega⟩) G0.o);have m:=h3.l.row;obtain⟨a,k,rfl⟩:=q0G m;have e3:=h3.l.c3;have z3:=h3.l.blk.free 3;have Z:=q0r C;rw[Z] at m e3 h3;have M0:IntKind.i64.wrap (12+(R.length:Int))=(q0L [p]:Int):=by
  rw[q5N,<-k0.o,ν];omega
 obtain⟨z,hz⟩: ∃z:Int,(q0L [p]:Int)=z:=⟨_,rfl⟩
 rw[hz] at M0;obtain⟨wl,z0⟩: ∃wl,(w3.alloc (.cells #[.int .i64 z] 3)).drew=wl:=⟨_,rfl⟩
 have u:Hd (Ext w3 wl):=η (by rw[<-z0];exact(q0B w3 _).drew);have h0:Hd (Rd wl (some ⟨w3.heap.size,0,none⟩) [.int .i64 z]):=η (by rw[<-z0];exact Rd.lit w3 #[.int .i64 z] 3);have l0:Hd (wl.ownsRow 0 3 1 (.slice a C.length k) C.length ((q0O C).map (Value.int .i64))):=η (q0I m u.o);have HZ:=η hz;have H3:=η h3;have i0:=η x0;have m0:=η d;have B0:=η Z;have K0:=d0.o;have f0:=q0A u.o e0;have f2:=q0A u.o e2;have f3:=q0A u.o e3;clear hz h3 x0 d Z m hd;generalize v0:C.length=n at*;have HN:=η v0;clear v0
 have S:Hd (∀(w':World) (M:Option Addr) (k':Nat),w'.ownsRow 0 3 1 (.slice M (n+1) k') (n+1) ((q0O C).map (Value.int .i64)++[.int .i64 z])->wl.grownBy w' (Value.slice a n k).ownBlock->((Value.slice M (n+1) k').ownBlock=(Value.slice a n k).ownBlock\/(Value.slice M (n+1) k').ownBlock=some wl.heap.size)->
   LgK E w0 (w'.setCell ⟨gl,3,none⟩ (.slice M (n+1) k')) g gl c s (C++[[p]]) (q0p C sure) K/\Stay K w (w'.setCell ⟨gl,3,none⟩ (.slice M (n+1) k'))/\(w'.setCell ⟨gl,3,none⟩ (.slice M (n+1) k')).cell? ⟨w.heap.size+1,0,none⟩=some (.int .i64 (n:Int))):=η fun w' M k' h1 h2 h3=>by
  have hp:=H3.o.push u.o (by rw[B0.o];exact h1) h2 h3;refine⟨⟨F3,.slice M (n+1) k',N0,?_,⟨i0.o.2,HK.o.toP.2.more g0.o (by rw[HN.o];exact K0),i0.o.1⟩⟩,J0.o.trans (Stay.trans (K:=K) (fun i V=>m0.o i (.inl V)) fun i V=>hp.2 i (.inl V)),q1I hp.2 (.inr ⟨by omega,by have:=q.o.2;omega⟩) e1.o⟩;rw[q3D,HZ.o];exact hp.1.beside fun i V=> .inl V
 go_wp2_with fail
 go_region_law
  (refine q1U rfl (.tmp 33) (.tmp 37) 73 rfl 0 3 _ 1 8 Tryz.underlying73 Tryz.infoI (by decide) (by decide) (.slice a n k) n ((q0O C).map (Value.int .i64)) rfl l0.o (some ⟨w3.heap.size,0,none⟩) 1 1 [.int .i64 z] rfl rfl (fun h=>by cases h) h0.o (by simp[Value.oneCell']) (by unfold maxLen;omega) (by omega) (υ _) ?_;intro v' w' I j s0;have E0:=η I;have C0:=η j;have A0:=η s0;obtain⟨q1,q2,q3⟩:=H3.o.pushed u.o j;have u0:=q1I q1 (.inr ⟨ι _,q.o.1⟩) e0;have u2:=q1I q1 (.inr ⟨by omega,q.o.2⟩) e2;obtain⟨M,k',rfl⟩:=q0G I;clear I j s0 q1)
 all_goals
  have Y:=S.o _ _ _ E0.o C0.o A0.o;have O:=η Y;have u1:=Y.2.2;clear Y;go_wp2_with fail;go_ret2;exact⟨by rw[HN.o];rfl,O.o.1,O.o.2.1⟩
end
section
variable {E :Oth}{w0 w:World}{g gl:Nat}{F K:Nat->Prop}{v:Value}{σ:DM}{c s sure:Int}{C:Cks}{xs:List Int}
def AppR(E:Oth)(w0 w:World)(g gl:Nat)(c s:Int)(C:Cks)(sure:Int)(K:Nat->Prop)(p:List UInt8)(e:Ending)(w':World):Prop:=
 e= .returned (.tuple #[.int .i64 (q1P (c-(q1A C:Int)) C p).1,.int .i64 (q1P (c-(q1A C:Int)) C p).2.1])/\
 LgK E w0 w' g gl c s (q1P (c-(q1A C:Int)) C p).2.2 (q4w (c-(q1A C:Int)) sure C p) K/\Stay K w w'
theorem AppR.same{w':World}{r:Int}(h:LgK E w0 w g gl c s C sure K)(k:Ext w w')(d:q1P (c-(q1A C:Int)) C p=(0,r,C))(b:r≠0):AppR E w0 w g gl c s C sure K p (.returned (.tuple #[.int .i64 0,.int .i64 r])) w':=by
 unfold AppR q4w;rw[d,κ (fun h=>b h.1)];exact⟨rfl,h.grow k,h.kExt k⟩
theorem AppR.pre{w1 w':World}{e:Ending}(h:LgK E w0 w g gl c s C sure K)(k:Ext w w1)(h1:AppR E w0 w1 g gl c s C sure K p e w'):AppR E w0 w g gl c s C sure K p e w':=
 ⟨h1.1,h1.2.1,(h.kExt k).trans h1.2.2⟩
theorem z2G(h:2000<p.length):q1P fr C p=(0,3,C):=by unfold q1P;rw[ξ h]
theorem q6M(h:p.length<=2000)(b:q4q C p=true)(d:fr-((p.length:Int)+12)<6000):q1P fr C p=(0,60,C):=by
 unfold q1P;rw[κ (by omega),ξ b,ξ d]
theorem q8X(h:p.length<=2000)(b:q4q (D++[ps]) p=true)(d:6000<=fr-((p.length:Int)+12)):q1P fr (D++[ps]) p=((D.length:Int)*4096+(q0L ps:Int),0,D++[ps++[p]]):=by
 unfold q1P;rw[κ (by omega),ξ b,κ (by omega),q3J];simp
theorem q6N(h:p.length<=2000)(b:q4q C p=false)(d:200<=C.length\/fr-((p.length:Int)+24)<6000):q1P fr C p=(0,60,C):=by
 unfold q1P;rw[κ (by omega),κ (by rw[b];decide),ξ d]
theorem q8W(h:p.length<=2000)(b:q4q C p=false)(d:¬(200<=C.length\/fr-((p.length:Int)+24)<6000)):q1P fr C p=((C.length:Int)*4096+12,0,C++[[p]]):=by
 unfold q1P;rw[κ (by omega),κ (by rw[b];decide),κ d]
theorem z0N(D:Cks)(ps:List (List UInt8))(p:List UInt8):q4q (D++[ps]) p=decide (q0L ps+(p.length+12)<=4096):=by unfold q4q;simp
theorem y3g(h:LgK E w0 w g gl c s C sure K)(i:p.length<=2000)(d:q4q C p=false):
  Calls Tryz.prog 122 #[.pointer (some ⟨gl,0,none⟩),.int .i64 (C.length:Int),.string ⟨(q2u p).toArray⟩] w (AppR E w0 w g gl c s C sure K p):=by
 obtain⟨F,v,σ,h1,h2⟩:=h;by_cases o:200<=C.length\/c-(q1A C:Int)-((p.length:Int)+24)<6000
 ·refine(z9y h1 h2 (q2u p) (by rw[q1T];omega) (by rw[q1T];omega)).mono ?_
  rintro e w' ⟨rfl,k⟩;exact AppR.same ⟨F,v,σ,h1,h2⟩ k (q6N i d o) (by decide)
 ·refine(y2K h1 h2 i (by omega) (by omega)).mono ?_
  rintro e w' ⟨rfl,k1,q⟩;have m:=q8W i d o;have j:q4w (c-(q1A C:Int)) sure C p=q0p C sure:=by
   unfold q4w q0p;rw[m];by_cases b:C=[]
   ·rw[ξ b,κ (fun h=>h.2.2 b)]
   ·rw[κ b,ξ ⟨rfl,d,b⟩]
  unfold AppR;rw[j,m];exact⟨rfl,k1,q⟩
theorem y2L(h:LgK E w0 w g gl c s (D++[ps]) sure K)(d:p.length<=2000)(b:q4q (D++[ps]) p=true):
  Calls Tryz.prog 121 #[.pointer (some ⟨gl,0,none⟩),.int .i64 (D.length:Int),.string ⟨(q2u p).toArray⟩] w (AppR E w0 w g gl c s (D++[ps]) sure K p):=by
 obtain⟨F,v,σ,h1,h2⟩:=h;by_cases j:c-(q1A (D++[ps]):Int)-((p.length:Int)+12)<6000
 ·refine(z7U h1 h2 (D.length:Int) (q2u p) (by rw[q1T];omega) (by rw[q1T];omega)).mono ?_
  rintro e w' ⟨rfl,k⟩;exact AppR.same ⟨F,v,σ,h1,h2⟩ k (q6M d b j) (by decide)
 ·have m:q0L ps+(p.length+12)<=4096:=by rw[z0N] at b;exact of_decide_eq_true b
  refine(z9z h1 h2 d m (by omega)).mono ?_;rintro e w' ⟨rfl,k1,o⟩;have i:=q8X (fr:=c-(q1A (D++[ps]):Int)) d b (by omega);unfold AppR q4w;rw[i,κ (fun h=>by rw[b] at h;exact absurd h.2.1 (by decide))];exact⟨rfl,k1,o⟩
theorem z9v(h:LgK E w0 w g gl c s C sure K)(p:List UInt8)(b0:p.length<=9223372036854775807):
  Calls Tryz.prog 74 #[.pointer (some ⟨gl,0,none⟩),.string ⟨p.toArray⟩] w (AppR E w0 w g gl c s C sure K p):=by
 have HK:=η h;obtain⟨F,v,σ,h1,h2⟩:=h;have G:=η (z1e h1 h2.pl.up h2.pl.st);by_cases hp:2000<p.length
 ·have q:=η (fun W=>z9L p W hp b0)
  have HA:=η (z2G (C:=C) (fr:=c-(q1A C:Int)) hp);clear h1 h2 hp;go_enter Tryz.func74,Tryz.ntmps74;go_wp2_with fail;refine G.o.mono ?_;rintro e w1 ⟨rfl,i⟩;have O:=η i;clear i;go_wp2_with fail;refine(q.o _).mono ?_;rintro e w2 ⟨rfl,rfl⟩;go_wp2_with fail;go_ret2;exact AppR.same HK.o O.o HA.o (by decide)
 have I:p.length<=2000:=by omega
 have q:=η (fun W=>y1K p W I);have J:=h2.ok.few;have m:=η (fun (W:World) (k:Ext w W) (y:q4q C p=false)=>(y3g (HK.o.grow k) I y).mono fun e w' h=>AppR.pre HK.o k h);by_cases hC:C=[]
 ·subst hC
  have j:=η (fun (W:World) (k:Ext w W)=>m.o W k rfl);have Y:=h1.l.c3;obtain⟨a,k,rfl⟩:=q0G h1.l.row;have e0:(q0O ([]:Cks)).length=0:=rfl;have B:=η Y;clear m h1 h2 hp Y;generalize U:q2u p=R at*;clear U;unfold AppR at j⊢;generalize (q1P (c-(q1A []:Int)) [] p)=X at*;go_enter Tryz.func74,Tryz.ntmps74;go_wp2_with fail;refine G.o.mono ?_;rintro e w1 ⟨rfl,i⟩;have O:=η i;clear i;go_wp2_with fail;refine(q.o _).mono ?_;rintro e w2 ⟨rfl,i⟩;have d:=η (O.o.trans i);clear i;have Y:=q0A d.o B.o;rw[e0] at Y;go_wp2_with fail;refine(j.o _ d.o).mono ?_;rintro e w3 ⟨rfl,h3⟩;have Z:=η h3;clear h3;go_wp2_with fail;go_ret2;exact⟨rfl,Z.o⟩
 obtain⟨D,ps,rfl⟩:=z1B hC;clear hC;obtain⟨b,k,rfl,V,_⟩:=h1.last;have c0:q0L ps<=4096:=h2.ok.size ps (by simp);have S:D.length+1<=200:=by simpa using J
 obtain⟨z,hz⟩: ∃z:Int,(q0L ps:Int)=z:=⟨_,rfl⟩
 rw[hz] at V;have z0:0<=z:=by omega
 have z1:z<=4096:=by omega
 have B:=η h1.l.c3;have a0:=η V;have HF:=η (fun W=>y3n z p W z0 z1 I);have M:decide ((p.length:Int)+12<=4096-z)=q4q (D++[ps]) p:=by rw[z0N,decide_eq_decide];omega
 rw[M] at HF;have Q:=η (fun (W:World) (k:Ext w W) (y:q4q (D++[ps]) p=true)=>(y2L (HK.o.grow k) I y).mono fun e w' h=>AppR.pre HK.o k h);have N:(D++[ps]).length=D.length+1:=by simp
 rw[N] at m;have d0:(D.length:Int)<=199:=by omega
 have u:(((D.length+1:Nat)):Int)=(D.length:Int)+1:=by omega
 rw[u] at m;generalize U:q2u p=R at*;clear U h1 h2 hp hz c0 M V J S N u;generalize (q1P (c-(q1A (D++[ps]):Int)) (D++[ps]) p)=X at*
 cases y:q4q (D++[ps]) p with
 | true=>
  rw[y] at HF;have j:=η (fun (W:World) (k:Ext w W)=>Q.o W k y);clear m Q y;unfold AppR at j⊢;go_enter Tryz.func74,Tryz.ntmps74;go_wp2_with fail;refine G.o.mono ?_;rintro e w1 ⟨rfl,i⟩;have O:=η i;clear i;go_wp2_with fail;refine(q.o _).mono ?_;rintro e w2 ⟨rfl,i⟩;have d:=η (O.o.trans i);clear i;have Y:=q0A d.o B.o;have cz:=q0A d.o a0.o;go_wp2_with fail;refine(HF.o _).mono ?_;rintro e w3 ⟨rfl,rfl⟩;go_wp2_with fail;refine(j.o _ d.o).mono ?_;rintro e w3 ⟨rfl,h3⟩;have Z:=η h3;clear h3;go_wp2_with fail;go_ret2;exact⟨rfl,Z.o⟩
 | false=>
  rw[y] at HF;have j:=η (fun (W:World) (k:Ext w W)=>m.o W k y);clear m Q y;unfold AppR at j⊢;go_enter Tryz.func74,Tryz.ntmps74;go_wp2_with fail;refine G.o.mono ?_;rintro e w1 ⟨rfl,i⟩;have O:=η i;clear i;go_wp2_with fail;refine(q.o _).mono ?_;rintro e w2 ⟨rfl,i⟩;have d:=η (O.o.trans i);clear i;have Y:=q0A d.o B.o;have cz:=q0A d.o a0.o;go_wp2_with fail;refine(HF.o _).mono ?_;rintro e w3 ⟨rfl,rfl⟩;go_wp2_with fail;refine(j.o _ d.o).mono ?_;rintro e w3 ⟨rfl,h3⟩;have Z:=η h3;clear h3;go_wp2_with fail;go_ret2;exact⟨rfl,Z.o⟩
theorem z5Q(h:LgV E w0 w g gl v c s C sure K):
  Calls Tryz.prog 85 #[.pointer (some ⟨gl,0,none⟩)] w fun e w'=>e= .returned (.int .i64 0)/\LgV E w0 w' g gl v c s C (q0p C sure) K/\Stay K w w':=by
 have M:=η h.toK;obtain⟨F,σ,h1,h2⟩:=h;have b:=η (z1e h1 h2.pl.up h2.pl.st);have O:=η (fun (W:World) (k:Ext w W)=>z5b (h1.grow k) h2);clear h1 h2;go_enter Tryz.func85,Tryz.ntmps85;go_wp2_with fail;refine b.o.mono ?_;rintro e w1 ⟨rfl,y⟩;have i:=η y;clear y;go_wp2_with fail;refine(O.o _ i.o).mono ?_;rintro e w2 ⟨rfl,h3,h4⟩;have B:=η ((M.o.kExt i.o).trans h4);obtain⟨Q,d,j,m⟩:=h3;have G:=η m;have N:=η (y4S j);clear h4 j m;go_wp2_with fail;refine N.o.mono ?_;rintro e w3 ⟨rfl,q,u⟩;have I:=η q;have J:=η u;clear q u;go_wp2_with fail;go_ret;exact⟨rfl,⟨_,d,I.o,G.o⟩,B.o.trans J.o⟩
theorem y2Y(h:LgK E w0 w g gl c s C sure K):
  Calls Tryz.prog 85 #[.pointer (some ⟨gl,0,none⟩)] w fun e w'=>e= .returned (.int .i64 0)/\LgK E w0 w' g gl c s C (q0p C sure) K/\Stay K w w':=by
 obtain⟨v,b⟩:=h.toV;exact(z5Q b).mono fun _ _ ⟨h1,h2,h3⟩=>⟨h1,h2.toK,h3⟩
end
theorem y0i{s:List UInt8}(h:a+q4s s a+12<=s.length):q6K ((s.drop a).take (q4s s a+12)) 0=(q6K s a).map fun r=>(r.1,r.2-a):=by
 obtain⟨n,i⟩: ∃n,q4s s a=n:=⟨_,rfl⟩
 rw[i] at h⊢;have j:((s.drop a).take (n+12)).take 4=(s.drop a).take 4:=by rw[List.take_take,Nat.min_eq_left (by omega)]
 have d:((s.drop a).take (n+12)).length=n+12:=by simp;omega
 have b:q4s ((s.drop a).take (n+12)) 0=n:=by
  unfold q4s;rw[List.drop_zero,j,<-i];first|done|rfl
 have q:isR ((s.drop a).take (n+12)) 0=isR s a:=by
  unfold isR;rw[b,d,i,List.drop_zero,j];have m:((s.drop a).take (n+12)).take (n+8)=(s.drop a).take (n+8):=by rw[List.take_take,Nat.min_eq_left (by omega)]
  have o:(((s.drop a).take (n+12)).drop (0+n+8)).take 4=(s.drop (a+n+8)).take 4:=by
   rw[List.drop_take,List.drop_drop,List.take_take]
   congr 1
   ·omega
   ·congr 1;omega
  rw[m,o,ζ (p:=0+12<=n+12) (by omega),ζ (p:=0+n+12<=n+12) (by omega),ζ (p:=a+12<=s.length) (by omega),ζ (p:=a+n+12<=s.length) h]
 unfold q6K;rw[q,b,i]
 split
 ·simp only[Option.map_some]
  congr 2
  ·rw[List.drop_take,List.drop_drop,List.take_take]
   congr 1
   ·omega
  ·omega
 ·rfl
section
variable {E :Oth}{w0 w:World}{g gl:Nat}{F K:Nat->Prop}{v:Value}{σ:DM}{c s sure:Int}{C:Cks}{xs:List Int}{l:List (List UInt8×List UInt8)}{nm:List UInt8}{x:List UInt8×List UInt8}
theorem q6c(h:LgF w0 w g gl F v σ s xs sure K)(i:Pl σ c s l)(o:q0H Prod.fst nm l=some x)(b:nm.length<=9223372036854775807)(a n:Int)(m:0<=a)(u:0<=n)(q:a+n<=(x.2.length:Int))(B:(x.2.length:Int)<=1048576):
  Calls Tryz.prog 91 #[.pointer (some ⟨g,0,none⟩),.string ⟨nm.toArray⟩,.int .i64 a,.int .i64 n] w fun e w'=>
   e= .returned (.tuple #[.string ⟨((x.2.drop a.toNat).take n.toNat).toArray⟩,.int .i64 0])/\(∃j σ',LgF w0 w' g gl j v σ' s xs sure K/\Pl σ' c s l)/\Stay K w w':=by
 have h1:=z5p h.d nm a n b (by omega) (by omega) (by omega) (by omega);rw[i.read o a n m u q] at h1;refine h1.mono ?_;rintro e w' ⟨rfl,k⟩;obtain⟨k1,y⟩:=h.disk k;exact⟨rfl,⟨_,_,k1,i.tell⟩,y⟩
theorem LgF.cellAt(h:LgF w0 w g gl F v σ s (q0O C) sure K)(i:C[n]? =some ps):
  ∃b k,v= .slice (some ⟨b,0,none⟩) C.length k/\w.cell? ⟨b,n,none⟩=some (.int .i64 (q0L ps:Int))/\w.frozen? ⟨b,n,none⟩=false:=by
 have d:(q0O C).length=C.length:=q0r C;have o:n<C.length:=(List.getElem?_eq_some_iff.1 i).1;obtain⟨b,k,h1,h2,h3,_⟩:=(Own.of_row h.l.row).cell (j:=n) (by rw[List.length_map,d];omega);have m:((q0O C).map (Value.int .i64))[n]'(by rw[List.length_map,d];omega)= .int .i64 (q0L ps:Int):=by
  rw[List.getElem_map]
  congr 1
  have:=z4a C n i;rw[δ,γ (by rw[d];omega)] at this;exact this
 rw[m] at h2;rw[d] at h1;exact⟨b,k,h1,h2,h3⟩
theorem z9R(h:pos<0):q6u C pos=([],4):=by unfold q6u;rw[ξ h]
theorem z5o(d:pos=(n:Int)*4096+(a:Int))(i:a<4096):q6u C pos=match C[n]? with
  |none=>([],4)
  | some ps=>match (if 12<=a then q6K (q0Z n ps) a else none) with
   |none=>([],4)
   |some (p,_)=>(p,0):=by
 have h1:(pos/4096).toNat=n:=by omega
 have h2:(pos % 4096).toNat=a:=by omega
 unfold q6u;rw[κ (by omega),h1,h2]
 cases C[n]? with
 |none=>rfl
 | some ps=>
  by_cases b:12<=a
  ·simp only[ξ b,ξ (show 12<=pos % 4096 by omega)]
   cases q6K (q0Z n ps) a with
   |none=>rfl
   |some r=>rfl
  ·simp only[κ b,κ (show ¬12<=pos % 4096 by omega)]
def ReadR(E:Oth)(w0 w:World)(g gl:Nat)(c s:Int)(C:Cks)(sure:Int)(K:Nat->Prop)(r:List UInt8×Int)(e:Ending)(w':World):Prop:=
 e= .returned (.tuple #[.string ⟨r.1.toArray⟩,.int .i64 r.2])/\LgK E w0 w' g gl c s C sure K/\Stay K w w'
theorem ReadR.no{w':World}{r:List UInt8×Int}(h:LgK E w0 w g gl c s C sure K)(k:Ext w w')(b:r=([],4)):ReadR E w0 w g gl c s C sure K r (.returned (.tuple #[.string ⟨#[]⟩,.int .i64 4])) w':=by
 subst b;exact⟨rfl,h.grow k,h.kExt k⟩
theorem y4b(h:LgK E w0 w g gl c s C sure K)(pos:Int)(p0: -9223372036854775808<=pos)(p1:pos<=9223372036854775807):
  Calls Tryz.prog 226 #[.pointer (some ⟨gl,0,none⟩),.int .i64 pos] w (ReadR E w0 w g gl c s C sure K (q6u C pos)):=by
 have HK:=η h;obtain⟨F,v,σ,h1,h2⟩:=h;have Q:=η (z1e h1 h2.pl.up h2.pl.st);by_cases m0:pos<0
 ·have HA:=η (z9R (C:=C) m0)
  have hd:decide (pos<0)=true:=by simpa using m0
  clear h1 h2;go_enter Tryz.func226,Tryz.ntmps226;go_wp2_with fail;refine Q.o.mono ?_;rintro e w1 ⟨rfl,d⟩;have V:=η d;clear d;go_wp2_with fail;go_ret2;exact ReadR.no HK.o V.o HA.o
 obtain⟨n,hn⟩: ∃n:Nat,pos/4096=(n:Int):=⟨(pos/4096).toNat,by omega⟩
 obtain⟨a,ha⟩: ∃a:Nat,pos % 4096=(a:Int):=⟨(pos % 4096).toNat,by omega⟩
 have s0:pos=(n:Int)*4096+(a:Int):=by omega
 have E0:a<4096:=by omega
 have P0:(n:Int)<=2251799813685248:=by omega
 have hq:pos.tdiv 4096=(n:Int):=by rw[Int.tdiv_eq_ediv_of_nonneg (by omega)];exact hn
 have hm:pos.tmod 4096=(a:Int):=by rw[Int.tmod_eq_emod_of_nonneg (by omega)];exact ha
 have f0:=η (z5o (C:=C) s0 E0);have Q0:decide (pos<0)=false:=by simpa using m0
 have J0:=q0r C;obtain⟨sa,sk,C0⟩:=q0G h1.l.row;rw[J0] at C0;subst C0;have I:=h1.l.c3;have O:=η I;clear s0;by_cases I0:C.length<=n
 ·have HA:Hd (q6u C pos=([],4)):=η (by rw[f0.o,List.getElem?_eq_none I0])
  have hd:decide ((C.length:Int)<=(n:Int))=true:=by simp;omega
  have hx:=O.o;clear h1 h2 I;go_enter Tryz.func226,Tryz.ntmps226;go_wp2_with fail;refine Q.o.mono ?_;rintro e w1 ⟨rfl,d⟩;have V:=η d;have I:=q0A d O.o;clear d;go_wp2_with fail;go_ret2;exact ReadR.no HK.o V.o HA.o
 have B0:n<C.length:=by omega
 obtain⟨ps,M⟩: ∃ps,C[n]? =some ps:=⟨C[n],γ B0⟩
 have H0:n<200:=by have:=h2.ok.few;omega
 obtain⟨b,T0,hv,g0,_⟩:=h1.cellAt M
 cases hv;have S0:q0L ps<=4096:=h2.ok.size ps (List.mem_of_getElem? M);have y:=q1Z n ps;have u:=q4M h2.oth h2.ok.few M;rw[M] at f0;have O0:decide ((C.length:Int)<=(n:Int))=false:=by simp;omega
 have e0:=η g0;obtain⟨z,hz⟩: ∃z:Int,(q0L ps:Int)=z:=⟨_,rfl⟩
 rw[hz] at e0;have z0:0<=z:=by omega
 have z1:z<=4096:=by omega
 have a0:(0:Int)<=(a:Int):=by omega
 have a1:(a:Int)<=4095:=by omega
 by_cases h0:a<12\/q0L ps<a+12
 ·have HA:Hd (q6u C pos=([],4)):=η (by
   rw[f0.o];rcases h0 with h|h
   ·simp only[κ (show ¬12<=a by omega)]
   ·by_cases Z:12<=a
    ·simp only[ξ Z,z8e (q0Z n ps) a (by omega)]
    ·simp only[κ Z])
  by_cases Z:a<12
  ·have y0:decide ((a:Int)<12)=true:=by simp;omega
   clear h1 h2 I g0 u y M h0 hz;go_enter Tryz.func226,Tryz.ntmps226;go_wp2_with fail;refine Q.o.mono ?_;rintro e w1 ⟨rfl,d⟩;have V:=η d;have I:=q0A d O.o;clear d;go_wp2_with fail;go_ret2;exact ReadR.no HK.o V.o HA.o
  ·have y0:decide ((a:Int)<12)=false:=by simp;omega
   have F0:decide (z-12<(a:Int))=true:=by simp;omega
   clear h1 h2 I g0 u y M h0 hz;go_enter Tryz.func226,Tryz.ntmps226;go_wp2_with fail;refine Q.o.mono ?_;rintro e w1 ⟨rfl,d⟩;have V:=η d;have I:=q0A d O.o;have cz:=q0A d e0.o;clear d;go_wp2_with fail;go_ret2;exact ReadR.no HK.o V.o HA.o
 have Z:12<=a:=by omega
 have R0:a+12<=q0L ps:=by omega
 have y0:decide ((a:Int)<12)=false:=by simp;omega
 have F0:decide (z-12<(a:Int))=false:=by simp;omega
 obtain⟨S,hS⟩: ∃S,q0Z n ps=S:=⟨_,rfl⟩
 rw[hS] at y u;obtain⟨N,b0⟩: ∃N,q4s S a=N:=⟨_,rfl⟩
 have U:q1N (((S.drop a).take 4).take 8)=N:=by rw[Δ (by simp;omega),<-b0];rfl
 have L0:N<4294967296:=by
  rw[<-U];have:=q1t (((S.drop a).take 4).take 8);have h4:(((S.drop a).take 4).take 8).length=4:=by simp;omega
  rw[h4] at this;exact this
 have n0:=q3Z (n:Int);have q0:=η (fun W=>q4z (n:Int) W);have k0:=η (fun (W:World) (k:Ext w W)=>q6c (h1.grow k) h2.pl u n0 (a:Int) 4 a0 (by decide) (by rw[y];omega) (by rw[y];omega));have HG:=η (fun W=>q9z ((S.drop a).take 4) W (by simp;omega));rw[U] at HG;have e4:(4:Int).toNat=4:=rfl;simp only[Int.toNat_natCast,e4] at k0;have HH:=η h1;have HL:=η h2;have M0:a+12<=S.length:=by omega
 have HZ:=η hz;have x0:=η y;have o0:=η h1.l.c0;have d0:Hd (∀(W:World) (F':Nat->Prop) (τ:DM),LgF w0 W g gl F' (.slice (some ⟨b,0,none⟩) C.length sk) τ s (q0O C) sure K->W.cell? ⟨gl,0,none⟩=some (.pointer (some ⟨g,0,none⟩))/\W.cell? ⟨gl,3,none⟩=some (.slice (some ⟨b,0,none⟩) C.length sk)/\W.cell? ⟨b,n,none⟩=some (.int .i64 z)):=η fun W F' τ hW=>by
  obtain⟨b2,k2,e1,e2,_⟩:=hW.cellAt M
  cases e1;rw[hz] at e2;exact⟨hW.l.c0,hW.l.c3,e2⟩
 by_cases R:2000<N\/S.length<a+N+12
 ·have HA:Hd (q6u C pos=([],4)):=η (by
   rw[f0.o];have:q6K S a=none:=by
    unfold q6K isR;rw[b0];rcases R with h|h
    ·rw[ε (p:=N<=2000) (by omega)];simp
    ·rw[ε (p:=a+N+12<=S.length) (by omega)];simp
   simp only[ξ Z,hS,this])
  clear h1 h2 I g0 u y M h0 hz b0 U hS n0;by_cases i:2000<N
  ·have A0:decide ((2000:Int)<(N:Int))=true:=by simp;omega
   clear R;go_enter Tryz.func226,Tryz.ntmps226;go_wp2_with fail;refine Q.o.mono ?_;rintro e w1 ⟨rfl,d⟩;have V:=η d;have I:=q0A d O.o;have cz:=q0A d e0.o;clear d;go_wp2_with fail;refine(q0.o _).mono ?_;rintro e wa ⟨rfl,d⟩;have G:=η (V.o.trans d);clear d I cz;have c0:=q0A G.o o0.o;go_wp2_with fail;refine(k0.o _ G.o).mono ?_;rintro e wb ⟨rfl,⟨F',σ',j,i⟩,m⟩;have B:=η j;have X:=η i;have Y:=η ((HK.o.kExt G.o).trans m);clear j i m c0;go_wp2_with fail;refine(HG.o _).mono ?_;rintro e wc ⟨rfl,d⟩;have J:=η d;obtain⟨c0,I,cz⟩:=d0.o _ _ _ (B.o.grow d);clear d;go_wp2_with fail;go_ret2;exact⟨by rw[HA.o];rfl,⟨_,_,σ',B.o.grow J.o,⟨X.o,HL.o.ok,HL.o.oth⟩⟩,Y.o.trans (B.o.kExt J.o)⟩
  ·have A0:decide ((2000:Int)<(N:Int))=false:=by simp;omega
   have G0:decide (z-12-(a:Int)<(N:Int))=true:=by have:=HZ.o;have:=x0.o;simp;omega
   clear R;go_enter Tryz.func226,Tryz.ntmps226;go_wp2_with fail;refine Q.o.mono ?_;rintro e w1 ⟨rfl,d⟩;have V:=η d;have I:=q0A d O.o;have cz:=q0A d e0.o;clear d;go_wp2_with fail;refine(q0.o _).mono ?_;rintro e wa ⟨rfl,d⟩;have G:=η (V.o.trans d);clear d I cz;have c0:=q0A G.o o0.o;go_wp2_with fail;refine(k0.o _ G.o).mono ?_;rintro e wb ⟨rfl,⟨F',σ',j,i⟩,m⟩;have B:=η j;have X:=η i;have Y:=η ((HK.o.kExt G.o).trans m);clear j i m c0;go_wp2_with fail;refine(HG.o _).mono ?_;rintro e wc ⟨rfl,d⟩;have J:=η d;obtain⟨c0,I,cz⟩:=d0.o _ _ _ (B.o.grow d);clear d;go_wp2_with fail;go_ret2;exact⟨by rw[HA.o];rfl,⟨_,_,σ',B.o.grow J.o,⟨X.o,HL.o.ok,HL.o.oth⟩⟩,Y.o.trans (B.o.kExt J.o)⟩
 have A0:decide ((2000:Int)<(N:Int))=false:=by simp;omega
 have G0:decide (z-12-(a:Int)<(N:Int))=false:=by simp;omega
 have K0:(N:Int)<=2000:=by omega
 have D0:((N:Int)+12).toNat=N+12:=by omega
 have r0:=η (fun (W:World) (F':Nat->Prop) (τ:DM) (hW:LgF w0 W g gl F' (.slice (some ⟨b,0,none⟩) C.length sk) τ s (q0O C) sure K) (hp:Pl τ (c+(q2s E:Int)) s (q3y E C))=>q6c hW hp u n0 (a:Int) ((N:Int)+12) a0 (by omega) (by rw[y];omega) (by rw[y];omega));simp only[Int.toNat_natCast,D0] at r0;obtain⟨T,hT⟩: ∃T,(S.drop a).take (N+12)=T:=⟨_,rfl⟩
 have N0:T.length=N+12:=by rw[<-hT];simp;omega
 rw[hT] at r0;have j0:=η (fun W=>z1L T 0 W (by omega) (by omega));have hcut:q6K T 0=(q6K S a).map fun r=>(r.1,r.2-a):=by
  have:=y0i (s:=S) (a:=a) (by rw[b0];omega);rw[b0,hT] at this;exact this
 rw[Int.natCast_zero] at j0
 cases hg:q6K S a with
 | none=>
  have HA:Hd (q6u C pos=([],4)):=η (by rw[f0.o];simp only[ξ Z,hS,hg]);have l0:z2e T 0= .tuple #[.string ⟨#[]⟩,.int .i64 0,.bool false]:=by unfold z2e;rw[hcut,hg];rfl
  rw[l0] at j0;clear h1 h2 I g0 u y M h0 hz b0 U hS n0 R hT hcut hg l0;go_enter Tryz.func226,Tryz.ntmps226;go_wp2_with fail;refine Q.o.mono ?_;rintro e w1 ⟨rfl,d⟩;have V:=η d;have I:=q0A d O.o;have cz:=q0A d e0.o;clear d;go_wp2_with fail;refine(q0.o _).mono ?_;rintro e wa ⟨rfl,d⟩;have G:=η (V.o.trans d);clear d I cz;have c0:=q0A G.o o0.o;go_wp2_with fail;refine(k0.o _ G.o).mono ?_;rintro e wb ⟨rfl,⟨F',σ',j,i⟩,m⟩;have B:=η j;have X:=η i;have Y:=η ((HK.o.kExt G.o).trans m);clear j i m c0;go_wp2_with fail;refine(HG.o _).mono ?_;rintro e wc ⟨rfl,d⟩;have J:=η d;obtain⟨c0,I,cz⟩:=d0.o _ _ _ (B.o.grow d);clear d;go_wp2_with fail;refine(r0.o _ _ _ (B.o.grow J.o) X.o).mono ?_;rintro e wd ⟨rfl,⟨F2,v0,j,i⟩,m⟩;have i0:=η j;have t0:=η i;have u0:=η ((Y.o.trans (B.o.kExt J.o)).trans m);clear j i m c0 I cz;go_wp2_with fail;refine(j0.o _).mono ?_;rintro e we ⟨rfl,d⟩;have HE:=η d;clear d;go_wp2_with fail;go_ret2;exact⟨by rw[HA.o];rfl,⟨_,_,v0,i0.o.grow HE.o,⟨t0.o,HL.o.ok,HL.o.oth⟩⟩,u0.o.trans (i0.o.kExt HE.o)⟩
 | some r=>
  obtain⟨q,e⟩:=r;have HA:Hd (q6u C pos=(q,0)):=η (by rw[f0.o];simp only[ξ Z,hS,hg]);have l0:z2e T 0= .tuple #[.string ⟨q.toArray⟩,.int .i64 ((e-a:Nat):Int),.bool true]:=by unfold z2e;rw[hcut,hg];rfl
  rw[l0] at j0;generalize ((e-a:Nat):Int)=ea at*;clear h1 h2 I g0 u y M h0 hz b0 U hS n0 R hT hcut hg l0;go_enter Tryz.func226,Tryz.ntmps226;go_wp2_with fail;refine Q.o.mono ?_;rintro e w1 ⟨rfl,d⟩;have V:=η d;have I:=q0A d O.o;have cz:=q0A d e0.o;clear d;go_wp2_with fail;refine(q0.o _).mono ?_;rintro e wa ⟨rfl,d⟩;have G:=η (V.o.trans d);clear d I cz;have c0:=q0A G.o o0.o;go_wp2_with fail;refine(k0.o _ G.o).mono ?_;rintro e wb ⟨rfl,⟨F',σ',j,i⟩,m⟩;have B:=η j;have X:=η i;have Y:=η ((HK.o.kExt G.o).trans m);clear j i m c0;go_wp2_with fail;refine(HG.o _).mono ?_;rintro e wc ⟨rfl,d⟩;have J:=η d;obtain⟨c0,I,cz⟩:=d0.o _ _ _ (B.o.grow d);clear d;go_wp2_with fail;refine(r0.o _ _ _ (B.o.grow J.o) X.o).mono ?_;rintro e wd ⟨rfl,⟨F2,v0,j,i⟩,m⟩;have i0:=η j;have t0:=η i;have u0:=η ((Y.o.trans (B.o.kExt J.o)).trans m);clear j i m c0 I cz;go_wp2_with fail;refine(j0.o _).mono ?_;rintro e we ⟨rfl,d⟩;have HE:=η d;clear d;go_wp2_with fail;go_ret2;exact⟨by rw[HA.o];rfl,⟨_,_,v0,i0.o.grow HE.o,⟨t0.o,HL.o.ok,HL.o.oth⟩⟩,u0.o.trans (i0.o.kExt HE.o)⟩
end
theorem q7T : ∀(ps:List (List UInt8)) (a:Nat) (p:List UInt8),q3N a (ps++[p])=q3N a ps++[(a+(ps.map fun p=>p.length+12).sum,p)]
 |[],a,p=>by simp[q3N]
 | q::t,a,p=>by
  rw[List.cons_append,q3N,q7T t,q3N,List.cons_append,List.map_cons,List.sum_cons]
  congr 4;omega
theorem q5Z(D:Cks)(ps:List (List UInt8)):q1J 0 (D++[ps])=q1J 0 D++q3N (4096*D.length+12) ps:=by
 rw[z3C,Nat.zero_add];simp[q1J]
theorem z3i{x:Int}{C b:Cks}(q: ∀ps∈C,q0L ps<=4096)(m:p.length<=2000)(h:q1P fr C p=(x,0,b)):
  ∃pos:Nat,x=(pos:Int)/\q1J 0 b=q1J 0 C++[(pos,p)]/\q4O b=(pos:Int)+(p.length:Int)+12/\q4O C<=(pos:Int)/\q1A b<=q1A C+(p.length+24)/\b.length<=C.length+1/\pos<=4096*C.length+12:=by
 by_cases j:q4q C p=true
 ·by_cases d:C=[]
  ·subst d;cases j
  ·obtain⟨D,ps,rfl⟩:=z1B d
   by_cases o:fr-((p.length:Int)+12)<6000
   ·rw[q6M m j o] at h;cases h
   ·rw [q8X m j (by omega)] at h
    cases h;refine⟨4096*D.length+q0L ps,by omega,?_,?_,?_,?_,by simp,by have:=q ps (by simp);rw[θ];simp only[χ,List.length_nil];omega⟩
    ·rw[q5Z,q5Z,q7T,List.append_assoc]
     congr 4
     unfold q0L;omega
    ·rw[q3J,q3C];omega
    ·rw[q3J];omega
    ·have h1:q1A (D++[ps++[p]])=q1A D+q0L (ps++[p]):=by simp[q1A,List.sum_append]
     have h2:q1A (D++[ps])=q1A D+q0L ps:=by simp[q1A,List.sum_append]
     rw[h1,h2,q3C];omega
 ·have i:q4q C p=false:=by simpa using j
  by_cases o:200<=C.length\/fr-((p.length:Int)+24)<6000
  ·rw[q6N m i o] at h;cases h
  ·rw [q8W m i o] at h
   cases h;refine⟨4096*C.length+12,by omega,?_,?_,?_,?_,by simp,ι _⟩
   ·rw[q5Z];rfl
   ·rw[q3J,q5N];omega
   ·by_cases d:C=[]
    ·subst d;show(0:Int)<=_;omega
    ·obtain⟨D,ps,rfl⟩:=z1B d
     have:=q ps (by simp);rw[q3J,θ];simp only[χ,List.length_nil];omega
   ·have h1:q1A (C++[[p]])=q1A C+q0L [p]:=by simp[q1A,List.sum_append]
    rw[h1,q5N];omega
def z9s(x y:Nat×List UInt8):Prop:=x.1+x.2.length+12<=y.1
theorem z5r : ∀(ps:List (List UInt8)) (a:Nat),(q3N a ps).Pairwise z9s
 |[],_=>List.Pairwise.nil
 |p::t,a=>List.pairwise_cons.2 ⟨fun r b=>(q8N t _ r b).1,z5r t _⟩
theorem q8O : ∀(C:Cks) (b:Nat),(∀ps∈C,q0L ps<=4096)->(q1J b C).Pairwise z9s
 |[],_,_=>List.Pairwise.nil
 | ps::t,b,hs=>by
  rw[q1J,List.pairwise_append];refine⟨z5r ps _,q8O t _ fun q hq=>hs q (List.mem_cons_of_mem _ hq),fun x d y i=>?_⟩;have h1:=q8N ps _ x d;have h2:=q6v t _ (fun q hq=>hs q (List.mem_cons_of_mem _ hq)) y i;have h3:=hs ps (List.mem_cons_self);unfold q0L at h3;unfold z9s;omega
def y0Y(A:List (Nat×List UInt8)):Nat:=match A.getLast? with|none=>0|some r=>r.1+r.2.length+12
theorem z0J(A:List (Nat×List UInt8))(r:Nat×List UInt8):y0Y (A++[r])=r.1+r.2.length+12:=by unfold y0Y;simp
theorem y0Z{A:List (Nat×List UInt8)}(h:A.Pairwise z9s): ∀r∈A,r.1<y0Y A:=fun r b=>by
 rcases List.eq_nil_or_concat A with rfl|⟨D,q,rfl⟩
 ·cases b
 ·rw [List.concat_eq_append] at*
  rw[z0J];rcases List.mem_append.1 b with h1|h1
  ·have:=(List.pairwise_append.1 h).2.2 r h1 q (by simp)
   unfold z9s at this;omega
  ·obtain rfl:=List.mem_singleton.1 h1;omega
theorem z6a{C:Cks}(h:okC C):(y0Y (q1J 0 C):Int)=q4O C:=by
 rcases List.eq_nil_or_concat C with rfl|⟨D,ps,rfl⟩
 ·rfl
 ·rw [List.concat_eq_append] at*
  have b:=h.full ps (by simp);rcases List.eq_nil_or_concat ps with rfl|⟨d,p,rfl⟩
  ·exact absurd rfl b
  ·rw[List.concat_eq_append] at*
   rw[q5Z,q7T,<-List.append_assoc,z0J,q3J,q3C];unfold q0L;show((4096*D.length+12+(d.map fun p=>p.length+12).sum+p.length+12:Nat):Int)=_;omega
theorem z3B : ∀(ps:List (List UInt8)) (a:Nat) (r:Nat×List UInt8),r∈q3N a ps-> ∃k,ps[k]? =some r.2/\r.1=a+((ps.take k).map fun p=>p.length+12).sum
 |[],_,r,h=>by cases h
 | p ::t,a,r,h=>by
  rw[q3N] at h;rcases List.mem_cons.1 h with rfl|h
  ·exact⟨0,rfl,by simp⟩
  ·obtain⟨k,h1,h2⟩:=z3B t _ r h
   exact⟨k+1,by rw[List.getElem?_cons_succ];exact h1,by rw[h2,List.take_succ_cons,List.map_cons,List.sum_cons];omega⟩
theorem z3D : ∀(C:Cks) (b:Nat) (r:Nat×List UInt8),r∈q1J b C-> ∃(n:Nat) (ps:List (List UInt8)) (k:Nat),C[n]? =some ps/\ps[k]? =some r.2/\r.1=b+4096*n+q0L (ps.take k)
 |[],_,r,h=>by cases h
 | ps ::t,b,r,h=>by
  rw[q1J] at h;rcases List.mem_append.1 h with h|h
  ·obtain⟨k,h1,h2⟩:=z3B ps _ r h
   exact⟨0,ps,k,rfl,h1,by rw[h2];unfold q0L;omega⟩
  ·obtain⟨n,d,k,h1,h2,h3⟩:=z3D t _ r h
   exact⟨n+1,d,k,by rw[List.getElem?_cons_succ];exact h1,h2,by rw[h3];omega⟩
theorem z9Q{C:Cks}(h:okC C)(m:r∈q1J 0 C):q6u C (r.1:Int)=(r.2,0):=by
 obtain⟨n,ps,k,h1,h2,h3⟩:=z3D C 0 r m;have b:=List.mem_of_getElem? h1;have j:=h.pay ps b r.2 (List.mem_of_getElem? h2);have i:k<ps.length:=(List.getElem?_eq_some_iff.1 h2).1;have o:=h.size ps b;have h4:q0L (ps.take (k+1))<=q0L ps:=by
  unfold q0L
  conv=>rhs;rw[<-List.take_append_drop (k+1) ps,List.map_append,List.sum_append]
  omega
 have d:ps.take (k+1)=ps.take k++[r.2]:=by
  obtain⟨_,he⟩:=List.getElem?_eq_some_iff.1 h2;rw[List.take_succ_eq_append_getElem i,he]
 rw[d,q3C] at h4;rw[z5o (n:=n) (a:=q0L (ps.take k)) (by omega) (by omega),h1];show(match (if 12<=q0L (ps.take k) then q6K (q0Z n ps) (q0L (ps.take k)) else none) with|none=>([],4)|some (p,_)=>(p,0))=(r.2,(0:Int));rw[ξ (by unfold q0L;omega),y1l n ps k r.2 h2 j]
theorem z5s{C:Cks}(h:okC C)(b:r∈q1J 0 C):r.1<=819200:=by
 have:=q6v C 0 h.size r b;have:=h.few;omega
end
end Go.Proofs.YteabhdclmodefaaGreatDoor
