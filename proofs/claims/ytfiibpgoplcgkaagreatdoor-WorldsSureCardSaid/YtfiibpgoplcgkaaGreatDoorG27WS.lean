/- Walks. -/
import Derived.Test.YtfiibpgoplcgkaaGreatDoorG26WS
import Derived.Test.YtfiibpgoplcgkaaGreatDoorG9WS
import Derived.Test.YtfiibpgoplcgkaaGreatDoorG11WS
import Derived.Test.YtfiibpgoplcgkaaGreatDoorG23WS
set_option linter.unusedVariables false
set_option linter.unusedSimpArgs false
set_option maxRecDepth 100000
set_option maxHeartbeats 6400000
namespace Go.Proofs.YtfiibpgoplcgkaaGreatDoor
variable {f:FM}{i:Nat}{acc:List En}{W W':World}{c:Int}{l:List (List UInt8×List UInt8)}
section
open Go.RowKit
def q2M(σ:DM)(nm s:List UInt8):Int×DM:=
 if (q0h σ nm).1≠0 then q0h σ nm
 else if (q0m (q0h σ nm).2 nm s).1≠0 then q0m (q0h σ nm).2 nm s
 else q3K (q0m (q0h σ nm).2 nm s).2 nm
def q0i(σ:DM)(n:Int)(L:List En)(f:List UInt8):Int×DM:=
 if ¬(0<=n/\n<=999999)\/q2f L=false then(2,σ)
 else if σ.down then(61,σ)
 else if q4J σ-((q3V L).length:Int)-(f.length:Int)<6000 then(60,σ)
 else if (q2M σ (q0B 98 n) f).1≠0 then q2M σ (q0B 98 n) f
 else q2M (q2M σ (q0B 98 n) f).2 (q0B 116 n) (q3V L)
def q8c(c:Int):Prop:=c=0\/c=4\/c=2
instance (c :Int):Decidable (q8c c):=by unfold q8c;infer_instance
def q3A(σ:DM)(n:Int):Int×DM:=
 if q8c (q0V σ (q0B 116 n)).1 then
  if q8c (q0V (q0V σ (q0B 116 n)).2 (q0B 98 n)).1 then(0,(q0V (q0V σ (q0B 116 n)).2 (q0B 98 n)).2) else q0V (q0V σ (q0B 116 n)).2 (q0B 98 n)
 else q0V σ (q0B 116 n)
def q0r(σ:DM)(nm:List UInt8):List UInt8×Int×DM:=if (q1g σ nm).2≠0 then([],(q1g σ nm).2,σ) else q1k σ nm 0 (q1g σ nm).1
def q2Y(c:Int):Int:=if c=1\/c=61 then c else 90
theorem z1B{L:List FM}(h:f∈L):f.da.length<=q0S L:=by
 induction L with
 |nil=>cases h
 | cons a r ih=>
  unfold q0S q5Q at*;rw[List.map_cons,List.sum_cons];rcases List.mem_cons.1 h with rfl|h
  ·omega
  ·have:=ih h;omega
theorem z3d{σ:DM}(h:okD σ)(nm:List UInt8):0<=(q1g σ nm).1/\(q1g σ nm).1<=1048576:=by
 have h1:=h.used;have h2:=h.cap1;unfold q1g
 split
 ·exact⟨Int.le_refl _,by show(0:Int)<=_;decide⟩
 ·split
  ·exact⟨Int.le_refl _,by show(0:Int)<=_;decide⟩
  ·rename_i f b
   have:=z1B (q0K b).1;simp only;omega
section
variable {w :World}{g:Nat}{F:Nat->Prop}{σ:DM}
theorem y2H(h:Dk w g F σ):Calls Tryz.prog 285 #[.pointer (some ⟨g,0,none⟩)] w fun e w'=>e= .returned (.int .i64 (upM σ))/\w=w':=by
 have d:=η (q6b h [] (by decide));have hc: ∃z c,q1g σ []=(z,c)/\((c=61/\upM σ=61)\/(c=4/\upM σ=0)\/(c=0/\upM σ=0)):=by
  unfold q1g upM
  split
  ·exact⟨_,_,rfl,.inl ⟨rfl,rfl⟩⟩
  ·split
   ·exact⟨_,_,rfl,.inr (.inl ⟨rfl,rfl⟩)⟩
   ·exact⟨_,_,rfl,.inr (.inr ⟨rfl,rfl⟩)⟩
 obtain⟨z,c,j,hc⟩:=hc;rw[j] at d;clear h j;rcases hc with⟨rfl,b⟩|⟨rfl,b⟩|⟨rfl,b⟩<;>rw[b]<;>clear b
 all_goals
  go_enter Tryz.func285,Tryz.ntmps285;go_wp2_with fail;refine d.o.mono ?_;rintro e w' ⟨rfl,rfl⟩;go_wp2_with fail;go_ret;exact⟨rfl,rfl⟩
theorem y3N(h:Dk w g F σ)(nm s:List UInt8)(O:nm.length<=9223372036854775807)(Z:s.length<=9223372036854775807):
  Calls Tryz.prog 287 #[.pointer (some ⟨g,0,none⟩),.string ⟨nm.toArray⟩,.string ⟨s.toArray⟩] w fun e w'=>e= .returned (.int .i64 (q2M σ nm s).1)/\DkS w g F (q2M σ nm s).2 w':=by
 have C:=η (q7d h nm O);have B:=η (fun w' (N:DkS w g F (q0h σ nm).2 w')=>q6E N.dk nm s O Z);have u:=η (fun w1 w2 (N:DkS w1 g (Gr F w w1) (q0m (q0h σ nm).2 nm s).2 w2)=>z2O N.dk nm O);have q:Hd (q2M σ nm s=if (q0h σ nm).1≠0 then q0h σ nm else if (q0m (q0h σ nm).2 nm s).1≠0 then q0m (q0h σ nm).2 nm s else q3K (q0m (q0h σ nm).2 nm s).2 nm):=η rfl;clear h;obtain⟨S,h1⟩: ∃r,q0h σ nm=r:=⟨_,rfl⟩
 rw[h1] at C B u q;obtain⟨U,h2⟩: ∃r,q0m S.2 nm s=r:=⟨_,rfl⟩
 rw[h2] at B u q;obtain⟨r3,h3⟩: ∃r,q3K U.2 nm=r:=⟨_,rfl⟩
 rw[h3] at u q;obtain⟨J,σ1⟩:=S;obtain⟨M,Q⟩:=U;obtain⟨X,R⟩:=r3;clear h1 h2 h3;by_cases E:J=0
 ·subst E
  by_cases G:M=0
  ·subst G
   have x:Hd (q2M σ nm s=(X,R)):=η (by rw[q.o,κ (fun h=>h rfl),κ (fun h=>h rfl)]);rw[x.o];clear q;go_enter Tryz.func287,Tryz.ntmps287;go_wp2_with fail;refine C.o.mono ?_;rintro e w1 ⟨rfl,b⟩;have d:=η b;clear b;go_wp2_with fail;refine(B.o _ d.o).mono ?_;rintro e w2 ⟨rfl,j⟩;have m:=η j;clear j;go_wp2_with fail;refine(u.o _ _ m.o).mono ?_;rintro e w3 ⟨rfl,y⟩;have I:=η y;clear y;go_wp2_with fail;go_ret;exact⟨rfl,d.o.trans (m.o.trans I.o)⟩
  ·have x:Hd (q2M σ nm s=(M,Q)):=η (by rw[q.o,κ (fun h=>h rfl),ξ G])
   rw[x.o];have Y:(M !=0)=true:=by simpa using G
   clear q G;go_enter Tryz.func287,Tryz.ntmps287;go_wp2_with fail;refine C.o.mono ?_;rintro e w1 ⟨rfl,b⟩;have d:=η b;clear b;go_wp2_with fail;refine(B.o _ d.o).mono ?_;rintro e w2 ⟨rfl,j⟩;have m:=η j;clear j;go_wp2_with fail;go_ret;exact⟨rfl,d.o.trans m.o⟩
 ·have x:Hd (q2M σ nm s=(J,σ1)):=η (by rw[q.o,ξ E])
  rw[x.o];have Y:(J !=0)=true:=by simpa using E
  clear q E;go_enter Tryz.func287,Tryz.ntmps287;go_wp2_with fail;refine C.o.mono ?_;rintro e w1 ⟨rfl,b⟩;have d:=η b;clear b;go_wp2_with fail;go_ret;exact⟨rfl,d.o⟩
theorem z5E(h:Dk w g F σ)(nm:List UInt8)(E:nm.length<=9223372036854775807):
  Calls Tryz.prog 235 #[.pointer (some ⟨g,0,none⟩),.string ⟨nm.toArray⟩] w fun e w'=>e= .returned (.tuple #[.string ⟨(q0r σ nm).1.toArray⟩,.int .i64 (q0r σ nm).2.1])/\DkS w g F (q0r σ nm).2.2 w':=by
 have B:=η (q6b h nm E);have q: -9223372036854775808<=(q1g σ nm).1/\(q1g σ nm).1<=9223372036854775807:=by have:=z3d h.1 nm;omega
 have j:=η (z4o h nm 0 (q1g σ nm).1 E (by decide) (by decide) q.1 q.2);have b:Hd (q0r σ nm=if (q1g σ nm).2≠0 then([],(q1g σ nm).2,σ) else q1k σ nm 0 (q1g σ nm).1):=η rfl;have u:=η (DkS.refl h);clear h q;obtain⟨I,h1⟩: ∃r,q1g σ nm=r:=⟨_,rfl⟩
 rw[h1] at B j b;obtain⟨z,c⟩:=I;obtain⟨J,h2⟩: ∃r,q1k σ nm 0 z=r:=⟨_,rfl⟩
 simp only at j b;rw[h2] at j b;obtain⟨t,G,C⟩:=J;clear h1 h2;by_cases m:c=0
 ·subst m
  have y:Hd (q0r σ nm=(t,G,C)):=η (by rw[b.o,κ (fun h=>h rfl)]);rw[y.o];clear b;go_enter Tryz.func235,Tryz.ntmps235;go_wp2_with fail;refine B.o.mono ?_;rintro e w' ⟨rfl,rfl⟩;go_wp2_with fail;refine j.o.mono ?_;rintro e w1 ⟨rfl,d⟩;have x:=η d;clear d;go_wp2_with fail;go_ret2;exact⟨rfl,x.o⟩
 ·have y:Hd (q0r σ nm=([],c,σ)):=η (by rw[b.o,ξ m])
  rw[y.o];have q:(c !=0)=true:=by simpa using m
  clear b m;go_enter Tryz.func235,Tryz.ntmps235;go_wp2_with fail;refine B.o.mono ?_;rintro e w' ⟨rfl,rfl⟩;go_wp2_with fail;go_ret2;exact⟨rfl,u.o⟩
theorem z3y(c:Int)(w:World):Calls Tryz.prog 237 #[.int .i64 c] w fun e w'=>e= .returned (.int .i64 (q2Y c))/\w=w':=by
 by_cases h1:c=1
 ·subst h1
  go_enter Tryz.func237,Tryz.ntmps237;go_wp2_with fail;go_ret;exact⟨rfl,rfl⟩
 ·by_cases h2:c=61
  ·subst h2
   go_enter Tryz.func237,Tryz.ntmps237;go_wp2_with fail;go_ret;exact⟨rfl,rfl⟩
  ·have b:Hd (q2Y c=90):=η (by unfold q2Y;rw[κ (by omega)])
   have b1:(c==1)=false:=by simpa using h1
   have b2:(c==61)=false:=by simpa using h2
   rw[b.o];clear h1 h2;go_enter Tryz.func237,Tryz.ntmps237;go_wp2_with fail;go_ret;exact⟨rfl,rfl⟩
end
section
variable {w :World}{g:Nat}{F:Nat->Prop}{σ:DM}
def z3u(w:World)(g:Nat)(F:Nat->Prop)(σ:DM)(n:Int)(L:List En)(e:Ending)(w':World):Prop:=
 ∃f:List UInt8,128<=f.length/\f.length<=64*(L.length/20+2)/\e= .returned (.int .i64 (q0i σ n L f).1)/\DkS w g F (q0i σ n L f).2 w'
theorem DkS.from{w j w':World}{g:Nat}{F:Nat->Prop}{σ m:DM}(h:Dk w g F σ)(o:Ext w j)(k:DkS j g F m w'):DkS w g F m w':=
 ((DkS.refl h).ext o).trans ⟨k.dk.mono (fun i b=>b.elim (fun h=> .inl (.inl h)) .inr) (fun i b=>by
  have d: ∀i,Gr F j w' i->i<w'.heap.size:=by obtain⟨_,_,_,_,_,_,h⟩:=k.dk;exact h
  rcases b with(h1|h1)|h1
  ·exact d i (.inl h1)
  ·have:=k.off.size;omega
  ·exact h1.2),k.off.mono fun i _ h=> .inl h⟩
theorem z1y(c:UInt8)(n:Int):(q0B c n==[])=!decide (0<=n/\n<=999999):=by
 by_cases h:0<=n/\n<=999999
 ·rw[q0R h,ζ h];rfl
 ·rw[q6T h,ε h];rfl
theorem q3m(c:UInt8)(n:Int):(q0B c n).length<=9223372036854775807:=by
 by_cases h:0<=n/\n<=999999
 ·rw[q0R h,χ,q0b];decide
 ·rw[q6T h];decide
theorem y0W(h:Dk w g F σ){ao:Option Addr}{k cap:Nat}{L:List En}(n:Int)(rate:Nat)(S:Ens w ao k cap L)(hk:k<=1000)(p0: ∀e∈L,q3Z e=true):
  Calls Tryz.prog 232 #[.pointer (some ⟨g,0,none⟩),.int .i64 n,.slice ao k cap,.float .f64 rate] w (z3u w g F σ n L):=by
 have HT:=η (fun W=>z0v n W);have HB:=η (fun W=>z2o n W);have J:=η (fun W (k:Ext w W)=>y4B W (S.ext k) hk p0);have HD:=η h;have HO:=η (fun W (k:Ext w W)=>y2H (h.ext k));have HF:=η (fun W (k:Ext w W)=>z9q rate W (S.ext k) hk);have o0:=η (fun W (k:Ext w W)=>z7Z (h.ext k));have r0:=η S.len;have u:0<=q4J σ/\q4J σ<=1048576:=by have h1:=h.1.used;have h2:=h.1.cap1;unfold q4J;omega
 have f0:=z1y 116 n;have g0:=z1y 98 n;have k0:=q3m 116 n;have l0:=q3m 98 n;have m0:=q3o L;have x:=S.len;have O:=k0;have B:=l0;by_cases d:¬(0<=n/\n<=999999)\/q2f L=false
 ·have U:Hd (∀f,q0i σ n L f=(2,σ)):=η fun f=>by unfold q0i;rw[ξ d]
  have HW:Hd (∀W,DkS w g F σ W->z3u w g F σ n L (.returned (.int .i64 2)) W):=η fun W C=>⟨List.replicate 128 0,by simp,by rw[List.length_replicate];omega,by rw[U.o],by rw[U.o];exact C⟩
  unfold z3k at J;by_cases N:0<=n/\n<=999999
  ·have Q:q2f L=false:=by rcases d with h|h;exact absurd N h;exact h
   rw[ζ N] at f0 g0;rw[Q] at J;clear Q N;generalize q0B 116 n=TN at*;generalize q0B 98 n=BN at*;clear d h S u x O B;go_enter Tryz.func232,Tryz.ntmps232;go_wp2_with fail;refine(HT.o _).mono ?_;rintro e w1 ⟨rfl,b⟩;have y:=η b;clear b;go_wp2_with fail;refine(HB.o _).mono ?_;rintro e w2 ⟨rfl,b⟩;have m:=η (y.o.trans b);clear b;go_wp2_with fail;refine(J.o _ m.o).mono ?_;rintro e w3 ⟨rfl,b⟩;have q:=η (m.o.trans b);clear b;go_wp2_with fail;go_ret;exact HW.o _ ((DkS.refl HD.o).ext q.o)
  ·rw [ε N] at f0 g0
   cases Q:q2f L
   all_goals
    rw[Q] at J;clear N Q;generalize q0B 116 n=TN at*;generalize q0B 98 n=BN at*;clear d h S u x O B;go_enter Tryz.func232,Tryz.ntmps232;go_wp2_with fail;refine(HT.o _).mono ?_;rintro e w1 ⟨rfl,b⟩;have y:=η b;clear b;go_wp2_with fail;refine(HB.o _).mono ?_;rintro e w2 ⟨rfl,b⟩;have m:=η (y.o.trans b);clear b;go_wp2_with fail;refine(J.o _ m.o).mono ?_;rintro e w3 ⟨rfl,b⟩;have q:=η (m.o.trans b);clear b;go_wp2_with fail;go_ret;exact HW.o _ ((DkS.refl HD.o).ext q.o)
 ·have N:0<=n/\n<=999999:=by by_cases h:0<=n/\n<=999999;exact h;exact absurd (.inl h) d
  have Q:q2f L=true:=by cases h:q2f L;exact absurd (.inr h) d;rfl
  rw[ζ N] at f0 g0;unfold z3k at J;rw[Q] at J
  cases hdn:σ.down with
  | true=>
   have G:upM σ=61:=by unfold upM;rw[ξ hdn]
   have U:Hd (∀f,q0i σ n L f=(61,σ)):=η fun f=>by unfold q0i;rw[κ d,ξ hdn]
   have HW:Hd (∀W,DkS w g F σ W->z3u w g F σ n L (.returned (.int .i64 61)) W):=η fun W C=>⟨List.replicate 128 0,by simp,by rw[List.length_replicate];omega,by rw[U.o],by rw[U.o];exact C⟩
   rw[G] at HO;generalize q0B 116 n=TN at*;generalize q0B 98 n=BN at*;generalize q3V L=TB at*;clear d h S u x O B N Q hdn G;go_enter Tryz.func232,Tryz.ntmps232;go_wp2_with fail;refine(HT.o _).mono ?_;rintro e w1 ⟨rfl,b⟩;have y:=η b;clear b;go_wp2_with fail;refine(HB.o _).mono ?_;rintro e w2 ⟨rfl,b⟩;have m:=η (y.o.trans b);clear b;go_wp2_with fail;refine(J.o _ m.o).mono ?_;rintro e w3 ⟨rfl,b⟩;have q:=η (m.o.trans b);clear b;go_wp2_with fail;refine(HO.o _ q.o).mono ?_;rintro e w4 ⟨rfl,rfl⟩;go_wp2_with fail;refine(HO.o _ q.o).mono ?_;rintro e w4 ⟨rfl,rfl⟩;go_wp2_with fail;go_ret;exact HW.o _ ((DkS.refl HD.o).ext q.o)
  | false=>
   have G:upM σ=0:=by unfold upM;rw[κ (by rw[hdn];decide)]
   have U:Hd (∀f,q0i σ n L f=if q4J σ-((q3V L).length:Int)-(f.length:Int)<6000 then(60,σ) else if (q2M σ (q0B 98 n) f).1≠0 then q2M σ (q0B 98 n) f else q2M (q2M σ (q0B 98 n) f).2 (q0B 116 n) (q3V L)):=η fun f=>by unfold q0i;rw[κ d,κ (by rw[hdn];decide)]
   rw[G] at HO;have HW:Hd (∀f,128<=f.length->f.length<=64*(k/20+2)-> ∀c σ',q0i σ n L f=(c,σ')-> ∀W,DkS w g F σ' W->z3u w g F σ n L (.returned (.int .i64 c)) W):=η fun f h1 h2 c σ' h3 W C=>⟨f,h1,by rw[x];exact h2,by rw[h3],by rw[h3];exact C⟩
   generalize q0B 116 n=TN at*;generalize q0B 98 n=BN at*;generalize q3V L=TB at*;clear d h S O B N Q hdn G;go_enter Tryz.func232,Tryz.ntmps232;go_wp2_with fail;refine(HT.o _).mono ?_;rintro e w1 ⟨rfl,b⟩;have y:=η b;clear b;go_wp2_with fail;refine(HB.o _).mono ?_;rintro e w2 ⟨rfl,b⟩;have m:=η (y.o.trans b);clear b;go_wp2_with fail;refine(J.o _ m.o).mono ?_;rintro e w3 ⟨rfl,b⟩;have q:=η (m.o.trans b);clear b;go_wp2_with fail;refine(HO.o _ q.o).mono ?_;rintro e w4 ⟨rfl,rfl⟩;go_wp2_with fail;refine(HF.o _ q.o).mono ?_;rintro e w4 ⟨f,rfl,d0,e0,b⟩;have h0:=η (q.o.trans b);clear b;go_wp2_with fail;refine(o0.o _ h0.o).mono ?_;rintro e w5 ⟨rfl,b⟩;have c0:=η (h0.o.trans b);clear b;have X:=η (U.o f);have b0:=η (HW.o f d0 e0);obtain⟨fr,M⟩: ∃fr,q4J σ=fr:=⟨_,rfl⟩
   rw[M] at X u;rw[M];have q1:IntKind.i64.wrap (fr-(TB.length:Int))=fr-(TB.length:Int):=by rw[ν];omega
   have q2:IntKind.i64.wrap (fr-(TB.length:Int)-(f.length:Int))=fr-(TB.length:Int)-(f.length:Int):=by rw[ν];omega
   by_cases j:fr-(TB.length:Int)-(f.length:Int)<6000
   ·have C:decide (fr-(TB.length:Int)-(f.length:Int)<6000)=true:=ζ j
    have R:Hd (q0i σ n L f=(60,σ)):=η (by rw[X.o,ξ j]);clear u x d0 e0 m0 M j;go_wp2_with fail;go_ret;exact b0.o _ _ R.o _ ((DkS.refl HD.o).ext c0.o)
   ·have C:decide (fr-(TB.length:Int)-(f.length:Int)<6000)=false:=ε j
    have R:Hd (q0i σ n L f=if (q2M σ BN f).1≠0 then q2M σ BN f else q2M (q2M σ BN f).2 TN TB):=η (by rw[X.o,κ j]);have Y:=η (y3N ((HD.o).ext c0.o) BN f l0 (by omega));have Z:=η (fun W (C:DkS w g F (q2M σ BN f).2 W)=>y3N C.dk TN TB k0 (by omega));have i0:Hd (∀τ W,DkS w5 g F τ W->DkS w g F τ W):=η fun τ W C=>DkS.from HD.o c0.o C
    obtain⟨r1,h1⟩: ∃r,q2M σ BN f=r:=⟨_,rfl⟩
    rw[h1] at Y Z R;obtain⟨r2,h2⟩: ∃r,q2M r1.2 TN TB=r:=⟨_,rfl⟩
    rw[h2] at Z R;obtain⟨c1,σ1⟩:=r1;obtain⟨c2,q0⟩:=r2;clear h1 h2;clear u x d0 e0 m0 M j;by_cases e1:c1=0
    ·subst e1
     have a0:Hd (q0i σ n L f=(c2,q0)):=η (by rw[R.o,κ (fun h=>h rfl)]);clear R;go_wp2_with fail;refine Y.o.mono ?_;rintro e w6 ⟨rfl,E⟩;have I:=η (i0.o _ _ E);clear E;go_wp2_with fail;refine(Z.o _ I.o).mono ?_;rintro e w7 ⟨rfl,j0⟩;have n0:=η j0;clear j0;go_wp2_with fail;go_ret;exact b0.o _ _ a0.o _ (I.o.trans n0.o)
    ·have a0:Hd (q0i σ n L f=(c1,σ1)):=η (by rw[R.o,ξ e1])
     have b:(c1 !=0)=true:=by simpa using e1
     clear R e1;go_wp2_with fail;refine Y.o.mono ?_;rintro e w6 ⟨rfl,E⟩;have I:=η (i0.o _ _ E);clear E;go_wp2_with fail;go_ret;exact b0.o _ _ a0.o _ I.o
end
section
variable {w :World}{g:Nat}{F:Nat->Prop}{σ:DM}
theorem z8L(h:Dk w g F σ)(n:Int):
  Calls Tryz.prog 178 #[.pointer (some ⟨g,0,none⟩),.int .i64 n] w fun e w'=>e= .returned (.int .i64 (q3A σ n).1)/\DkS w g F (q3A σ n).2 w':=by
 have HT:=η (fun W=>z0v n W);have HB:=η (fun W=>z2o n W);have HD:=η h;have d0:=q3m 116 n;have e0:=q3m 98 n
 have X:Hd (q3A σ n=if q8c (q0V σ (q0B 116 n)).1 then
  if q8c (q0V (q0V σ (q0B 116 n)).2 (q0B 98 n)).1 then(0,(q0V (q0V σ (q0B 116 n)).2 (q0B 98 n)).2) else q0V (q0V σ (q0B 116 n)).2 (q0B 98 n)
  else q0V σ (q0B 116 n)):=η rfl
 generalize q0B 116 n=TN at*;generalize q0B 98 n=BN at*;have R:=η (fun C (h:Dk C g F σ)=>q5L h TN d0);have I:=η (fun C w' (m:DkS C g F (q0V σ TN).2 w')=>q5L m.dk BN e0);obtain⟨r1,h1⟩: ∃r,q0V σ TN=r:=⟨_,rfl⟩
 rw[h1] at R I X;obtain⟨r2,h2⟩: ∃r,q0V r1.2 BN=r:=⟨_,rfl⟩
 rw[h2] at I X;obtain⟨u,σ1⟩:=r1;obtain⟨y,N⟩:=r2;have G: ∀i,F i->i<w.heap.size:=by obtain⟨_,_,_,_,_,_,h⟩:=h;exact h
 clear h1 h2 h d0 e0;go_enter Tryz.func178,Tryz.ntmps178;go_wp2_with fail;refine(HT.o _).mono ?_;rintro e w1 ⟨rfl,q⟩;have Z:=η q;clear q;go_wp2_with fail;refine(HB.o _).mono ?_;rintro e w2 ⟨rfl,q⟩;have J:=η (Z.o.trans q);clear q;go_wp2_with fail;have c0:=Blk.new w2 9 #[.string ⟨TN.toArray⟩,.string ⟨BN.toArray⟩];have a0:=η (J.o.trans (q0C w2 (.cells #[.string ⟨TN.toArray⟩,.string ⟨BN.toArray⟩] 9)));have f0:¬F w2.heap.size:=fun hf=>by have:=G _ hf;have:=J.o.size;omega
 have S:=η (HD.o.ext a0.o);generalize w2.alloc (.cells #[.string ⟨TN.toArray⟩,.string ⟨BN.toArray⟩] 9)=C at*;generalize w2.heap.size=b at*;have x:Hd (∀O W,DkS C g F O W->DkS w g F O W):=η fun O W m=>DkS.from HD.o a0.o m
 have Q:Hd (∀O W,DkS C g F O W->Blk W b 9 #[.string ⟨TN.toArray⟩,.string ⟨BN.toArray⟩]):=η fun O W m=>m.off.blk c0 f0
 clear c0 f0 G Z J
 go_loopw [14] (fun i W=>(i= .int .i64 0/\DkS C g F σ W/\W=C)\/(i= .int .i64 1/\q8c u/\DkS C g F σ1 W)\/(i= .int .i64 2/\q8c u/\q8c y/\DkS C g F N W)) (fun i _=>2-(intOf i).toNat)
 case atStart=>exact .inl ⟨rfl,DkS.refl S.o,rfl⟩
 case round=>
  rcases hrel with⟨rfl,m,rfl⟩|⟨rfl,d,m⟩|⟨rfl,g0,h0,m⟩
  ·have b0:wr.cell? ⟨b,0,none⟩=some (.string ⟨TN.toArray⟩):=(Q.o _ _ m).cell 0
   clear m;go_wp2_with fail;refine(R.o _ S.o).mono ?_;rintro e w4 ⟨rfl,B⟩;have j:=η B;clear B b0;by_cases d:q8c u
   ·have HO:=η d
    have q:(u !=0)=false\/((u !=0)=true/\((u !=4)=false\/((u !=4)=true/\(u !=2)=false))):=by
     rcases d with rfl|rfl|rfl
     ·exact .inl rfl
     ·exact .inr ⟨rfl,.inl rfl⟩
     ·exact .inr ⟨rfl,.inr ⟨rfl,rfl⟩⟩
    clear d;rcases q with q|⟨q,M|⟨M,i0⟩⟩
    all_goals
     go_wp2_with fail
     go_roundw
     case rel=>exact .inr (.inl ⟨rfl,HO.o,j.o⟩)
     case measure=>decide
   ·have U:Hd (q3A σ n=(u,σ1)):=η (by rw[X.o,κ d])
    have q1:(u !=0)=true:=by simp;intro h;exact d (.inl h)
    have q2:(u !=4)=true:=by simp;intro h;exact d (.inr (.inl h))
    have q3:(u !=2)=true:=by simp;intro h;exact d (.inr (.inr h))
    clear d;go_wp2_with fail;go_ret;rw[U.o];exact⟨rfl,x.o _ _ j.o⟩
  ·have b0:wr.cell? ⟨b,1,none⟩=some (.string ⟨BN.toArray⟩):=(Q.o _ _ m).cell 1
   have E:=η m;have Y:=η d;clear m d;go_wp2_with fail;refine(I.o _ _ E.o).mono ?_;rintro e w4 ⟨rfl,B⟩;have j:=η (E.o.trans B);clear B b0;by_cases d:q8c y
   ·have HO:=η d
    have q:(y !=0)=false\/((y !=0)=true/\((y !=4)=false\/((y !=4)=true/\(y !=2)=false))):=by
     rcases d with rfl|rfl|rfl
     ·exact .inl rfl
     ·exact .inr ⟨rfl,.inl rfl⟩
     ·exact .inr ⟨rfl,.inr ⟨rfl,rfl⟩⟩
    clear d;rcases q with q|⟨q,M|⟨M,i0⟩⟩
    all_goals
     go_wp2_with fail
     go_roundw
     case rel=>exact .inr (.inr ⟨rfl,Y.o,HO.o,j.o⟩)
     case measure=>decide
   ·have U:Hd (q3A σ n=(y,N)):=η (by rw[X.o,ξ Y.o,κ d])
    have q1:(y !=0)=true:=by simp;intro h;exact d (.inl h)
    have q2:(y !=4)=true:=by simp;intro h;exact d (.inr (.inl h))
    have q3:(y !=2)=true:=by simp;intro h;exact d (.inr (.inr h))
    clear d;go_wp2_with fail;go_ret;rw[U.o];exact⟨rfl,x.o _ _ j.o⟩
  ·have U:Hd (q3A σ n=(0,N)):=η (by rw[X.o,ξ g0,ξ h0])
   have j:=η m;clear m g0 h0;go_wp2_with fail;go_ret;rw[U.o];exact⟨rfl,x.o _ _ j.o⟩
end
def InT(t:Nat)(v mv:Value)(i:Nat):Prop:=i=t\/v.ownBlock=some i\/mv= .map (some i)
structure TbI(w:World)(t g:Nat)(n:Int)(L:List En)(v:Value)(p s:Nat)(mv:Value)(D:DataW Unit):Prop where
 blk:Blk w t 321 #[.pointer (some ⟨g,0,none⟩),.int .i64 n,.int .i64 (L.length:Int),v,.int .i64 (p:Int),.int .i64 (s:Int),mv]
 mids:w.ownsRow 0 390 4 v (q2z L).length (mcs (q2z L))
 fil:FilK w p s mv D
structure okT(L:List En):Prop where
 sort:q1G L
 ok: ∀x∈L,q3Z x=true
 len:L.length<=50000
def Tb(w:World)(t g:Nat)(n:Int)(L:List En)(may:Int->Bool)(T:Nat->Prop):Prop:=
 ∃v p s mv D,TbI w t g n L v p s mv D/\may=z7u p s D/\(∀x∈L,may x.1=true)/\okT L/\(∀i,InT t v mv i->T i)/\ ∀i,T i->i<w.heap.size
section
variable {w w':World}{t g:Nat}{n:Int}{L:List En}{v:Value}{p s:Nat}{mv:Value}{D:DataW Unit}{may:Int->Bool}{T T' F:Nat->Prop}{σ:DM}
theorem FilK.same(h:FilK w p s mv D)(k: ∀i,mv= .map (some i)->w'.heap[i]? =w.heap[i]?):FilK w' p s mv D:=by
 obtain⟨b,h1|⟨h1,h2,h3,h4,m,n,d,j⟩⟩:=h
 ·exact⟨b,.inl h1⟩
 ·exact⟨b,.inr ⟨h1,h2,h3,h4,m,n,d,q2I j (k m d)⟩⟩
theorem FilK.lt(h:FilK w p s mv D)(b:mv= .map (some i)):i<w.heap.size:=by
 obtain⟨o,⟨h1,h2⟩|⟨h1,h2,h3,h4,m,n,d,j⟩⟩:=h
 ·rw[h2] at b;cases b
 ·rw[d] at b;cases b;exact j.lt
theorem TbI.same(h:TbI w t g n L v p s mv D)(k: ∀i,InT t v mv i->w'.heap[i]? =w.heap[i]?):TbI w' t g n L v p s mv D:=
 ⟨h.blk.same (k t (.inl rfl)),q1X h.mids fun i b=>k i (.inr (.inl b)),h.fil.same fun i b=>k i (.inr (.inr b))⟩
theorem Tb.same(h:Tb w t g n L may T)(m:w.heap.size<=w'.heap.size)(k: ∀i,T i->w'.heap[i]? =w.heap[i]?):Tb w' t g n L may T:=by
 obtain⟨v,p,s,mv,D,h1,h2,h3,h4,d,j⟩:=h;exact⟨v,p,s,mv,D,h1.same fun i b=>k i (d i b),h2,h3,h4,d,fun i b=>Ψ (j i b) m⟩
theorem Tb.lt(h:Tb w t g n L may T): ∀i,T i->i<w.heap.size:=by
 obtain⟨v,p,s,mv,D,h1,h2,h3,h4,d,b⟩:=h;exact b
theorem Tb.okL(h:Tb w t g n L may T):okT L:=by
 obtain⟨v,p,s,mv,D,h1,h2,h3,h4,b,d⟩:=h;exact h4
theorem Tb.thru(h:Tb w t g n L may T): ∀x∈L,may x.1=true:=by
 obtain⟨v,p,s,mv,D,h1,h2,h3,h4,b,d⟩:=h;exact h3
theorem Tb.ext(h:Tb w t g n L may T)(k:Ext w w'):Tb w' t g n L may T:=h.same k.size fun i b=>k.block i (h.lt i b)
theorem Tb.off(h:Tb w t g n L may T)(k:OffS F w w')(d: ∀i,T i->¬F i):Tb w' t g n L may T:=h.same k.size fun i b=>k.block i (h.lt i b) (d i b)
theorem Tb.mono(h:Tb w t g n L may T)(k: ∀i,T i->T' i)(j: ∀i,T' i->i<w.heap.size):Tb w t g n L may T':=by
 obtain⟨v,p,s,mv,D,h1,h2,h3,h4,b,m⟩:=h;exact⟨v,p,s,mv,D,h1,h2,h3,h4,fun i d=>k i (b i d),j⟩
end
def q4g(σ:DM)(n:Int):Option (List En)×Int×DM:=
 if (q0r σ (q0B 116 n)).2.1≠0 then(none,q2Y (q0r σ (q0B 116 n)).2.1,(q0r σ (q0B 116 n)).2.2)
 else match q9a (q0r σ (q0B 116 n)).1 with
 |none=>(none,90,(q0r σ (q0B 116 n)).2.2)
 | some L=>if (q0r (q0r σ (q0B 116 n)).2.2 (q0B 98 n)).2.1=61 then(none,61,(q0r (q0r σ (q0B 116 n)).2.2 (q0B 98 n)).2.2)
  else(some L,0,(q0r (q0r σ (q0B 116 n)).2.2 (q0B 98 n)).2.2)
def y4O(w:World)(g:Nat)(F:Nat->Prop)(n:Int)(r:Option (List En)×Int×DM)(e:Ending)(w':World):Prop:=
 match r.1 with
 |none=>e= .returned (.tuple #[.pointer none,.int .i64 r.2.1])/\DkS w g F r.2.2 w'
 |some L=> ∃t may T w3,e= .returned (.tuple #[.pointer (some ⟨t,0,none⟩),.int .i64 0])/\DkS w g F r.2.2 w3/\Ext w3 w'/\Tb w' t g n L may T/\ ∀i,T i->w3.heap.size<=i
theorem z2a{σ:DM}(h:okD σ)(nm:List UInt8):(q0r σ nm).1.length<=1048576:=by
 have h1:=h.used;have h2:=h.cap1;unfold q0r
 split
 ·simp
 ·unfold q1k
  split
  ·simp
  ·split
   ·simp
   ·rename_i f b
    have:=z1B (q0K b).1
    split<;>simp<;>omega
theorem z5S(c:Int):q2Y c=c\/q2Y c=90:=by unfold q2Y;split;exact .inl rfl;exact .inr rfl
theorem z8M{w:World}{g:Nat}{F:Nat->Prop}{σ:DM}(h:Dk w g F σ)(n:Int):
  Calls Tryz.prog 202 #[.pointer (some ⟨g,0,none⟩),.int .i64 n] w (y4O w g F n (q4g σ n)):=by
 have HT:=η (fun W=>z0v n W);have HB:=η (fun W=>z2o n W);have HD:=η h;have t0:=q3m 116 n;have u0:=q3m 98 n;have b:=z2a h.1 (q0B 116 n)
 have C:Hd (q4g σ n=if (q0r σ (q0B 116 n)).2.1≠0 then(none,q2Y (q0r σ (q0B 116 n)).2.1,(q0r σ (q0B 116 n)).2.2)
  else match q9a (q0r σ (q0B 116 n)).1 with
  |none=>(none,90,(q0r σ (q0B 116 n)).2.2)
  | some L=>if (q0r (q0r σ (q0B 116 n)).2.2 (q0B 98 n)).2.1=61 then(none,61,(q0r (q0r σ (q0B 116 n)).2.2 (q0B 98 n)).2.2)
   else(some L,0,(q0r (q0r σ (q0B 116 n)).2.2 (q0B 98 n)).2.2)):=η rfl
 have Y:=η (fun W (k:Ext w W)=>z5E (h.ext k) (q0B 116 n) t0);have J:=η (fun W W' (R:DkS w g F (q0r σ (q0B 116 n)).2.2 W) (k:Ext W W')=>z5E (R.dk.ext k) (q0B 98 n) u0);have d:okD (q0r σ (q0B 116 n)).2.2->(q0r (q0r σ (q0B 116 n)).2.2 (q0B 98 n)).1.length<=1048576:=fun h=>z2a h (q0B 98 n)
 generalize q0B 116 n=TN at*;generalize q0B 98 n=BN at*;clear t0 u0 h;obtain⟨r1,h1⟩: ∃r,q0r σ TN=r:=⟨_,rfl⟩
 rw[h1] at Y J C b d;obtain⟨r2,h2⟩: ∃r,q0r r1.2.2 BN=r:=⟨_,rfl⟩
 rw[h2] at J C d;obtain⟨S1,c1,σ1⟩:=r1;obtain⟨S2,c2,w0⟩:=r2;clear h1 h2;simp only at Y J C b d;go_enter Tryz.func202,Tryz.ntmps202;go_wp2_with fail;refine(HT.o _).mono ?_;rintro e w1 ⟨rfl,B⟩;have m0:=η B;clear B;go_wp2_with fail;refine(Y.o _ m0.o).mono ?_;rintro e w2 ⟨rfl,R⟩;have y:=η (DkS.from HD.o m0.o R);clear R;by_cases e1:c1=0
 case neg=>
  have X:Hd (q4g σ n=(none,q2Y c1,σ1)):=η (by rw[C.o,ξ e1]);have B:(c1 !=0)=true:=by simpa using e1
  clear C e1 b d;go_wp2_with fail;refine(z3y c1 _).mono ?_;rintro e w3 ⟨rfl,rfl⟩;go_wp2_with fail;go_ret2;rw[X.o];exact⟨rfl,y.o⟩
 case pos=>
 subst e1;have q:=η (fun W=>y4A S1 W b);have x0:Hd (∀L,q9a S1=some L->okT L):=η fun L h=>⟨(q8Q h).2.1,(q8Q h).2.2.1,z9x h b⟩
 have j:=d y.o.dk.1
 cases hg:q9a S1 with
 | none=>
  have X:Hd (q4g σ n=(none,90,σ1)):=η (by rw[C.o,κ (fun h=>h rfl),hg]);rw[hg] at q;clear C b d j hg;go_wp2_with fail;refine(q.o _).mono ?_;rintro e w3 ⟨rfl,B⟩;have Z:=η B;clear B;go_wp2_with fail;go_ret2;rw[X.o];exact⟨rfl,y.o.ext Z.o⟩
 | some L=>
  rw[hg] at q;have f0:=η (x0.o L hg);have z0:=f0.o.len;go_wp2_with fail;refine(q.o _).mono ?_;rintro e w3 ⟨v,rfl,m,B⟩;have Z:=η B;have j0:=η m;obtain⟨va,vc,rfl⟩:=q0H m;clear B m q;go_wp2_with fail;refine(HB.o _).mono ?_;rintro e w4 ⟨rfl,B⟩;have n0:=η (Z.o.trans B);have I:=η (q0J j0.o B);clear B j0;go_wp2_with fail;refine(J.o _ _ y.o n0.o).mono ?_;rintro e w5 ⟨rfl,R⟩
  have r0:w5.ownsRow w2.heap.size 165 3 (.slice va L.length vc) L.length (ecs L):=q1X I.o fun i x=>R.off.block i (q0p I.o i x).2 (by
   have h1:=(q0p I.o i x).1;have y0: ∀i,Gr F w w2 i->i<w2.heap.size:=by obtain⟨_,_,_,_,_,_,h⟩:=y.o.dk;exact h
   intro hf;have:=y0 i hf
   omega)
  have U:=η (y.o.trans (DkS.from y.o.dk n0.o R));clear R;obtain⟨_,_,e0,S⟩:=Ens.of_own (Own.of_row r0)
  cases e0;have M:=η S;clear S r0 I;by_cases e2:c2=61
  ·have X:Hd (q4g σ n=(none,61,w0)):=η (by rw[C.o,κ (fun h=>h rfl),hg];simp only;rw[ξ e2])
   subst e2;clear C b d j hg;go_wp2_with fail;go_ret2;rw[X.o];exact⟨rfl,U.o⟩
  ·have X:Hd (q4g σ n=(some L,0,w0)):=η (by rw[C.o,κ (fun h=>h rfl),hg];simp only;rw[κ e2])
   have B:(c2==61)=false:=by simpa using e2
   have N:=η (y3X w5 M.o (by omega));have g0:=η (fun W=>z7Y S2 W j);clear C b d j hg e2;go_wp2_with fail;refine N.o.mono ?_;rintro e w6 ⟨vm,rfl,m,s0⟩;have o0:=η s0;have k0:=η m;obtain⟨ma,mc,rfl⟩:=q0H m;clear m s0 N;go_wp2_with fail;refine(g0.o _).mono ?_;rintro e w7 ⟨p,z,mv,D,rfl,u,G,_,a0⟩;have p0:=η (o0.o.trans a0);have O:=η (q0J k0.o a0);have h0:Hd (y4J w6.heap.size mv):=η G;have l0:=η (y2R w7 u (M.o.ext p0.o));clear a0 k0 g0 u G;go_wp2_with fail;refine l0.o.mono ?_;rintro e w8 ⟨p',z',v0,D',rfl,u,G,Q,b0⟩;have q0:=η (p0.o.trans b0);have E:=η (q0J O.o b0);have i0:=η (G _ h0.o);have d0:=η u;have c0:=η Q;clear b0 u G Q O h0 l0;go_wp2_with fail;go_ret2;rw[X.o];have A0:w.heap.size<=w5.heap.size:=U.o.off.size;refine⟨w8.heap.size,z7u p' z' D',fun i=>InT w8.heap.size (.slice ma (q2z L).length mc) v0 i,w5,rfl,U.o,q0.o.trans (q0C _ _),⟨_,p',z',v0,D',⟨Blk.new w8 _ _,q1M (q0J E.o (q0C _ _)) (υ _),d0.o.ext (q0C _ _)⟩,rfl,c0.o,f0.o,fun i x=>x,fun i x=>?_⟩,fun i x=>?_⟩
   ·rw[ρ]
    rcases x with rfl|x|x
    ·omega
    ·have:=(q0p E.o i x).2;omega
    ·have:=d0.o.lt x;omega
   ·have h8:=q0.o.size
    have h6:=o0.o.size;rcases x with rfl|x|x
    ·exact h8
    ·exact(q0p E.o i x).1
    ·have:=i0.o i x;omega
def q1Q(σ:DM)(n:Int)(i:Nat):En×Int×DM:=
 if (q1k σ (q0B 116 n) (8+24*(i:Int)) 24).2.1≠0 then(en0,q2Y (q1k σ (q0B 116 n) (8+24*(i:Int)) 24).2.1,(q1k σ (q0B 116 n) (8+24*(i:Int)) 24).2.2)
 else match z1D (q1k σ (q0B 116 n) (8+24*(i:Int)) 24).1 with
 |none=>(en0,90,(q1k σ (q0B 116 n) (8+24*(i:Int)) 24).2.2)
 |some x=>(x,0,(q1k σ (q0B 116 n) (8+24*(i:Int)) 24).2.2)
structure TbD(w:World)(t g:Nat)(n:Int)(L:List En)(may:Int->Bool)(T F:Nat->Prop)(σ:DM):Prop where
 d:Dk w g F σ
 t:Tb w t g n L may T
 ap: ∀i,T i->¬F i
section
variable {w w':World}{t g:Nat}{n:Int}{L:List En}{v:Value}{p s:Nat}{mv:Value}{D:DataW Unit}{may:Int->Bool}{T T' F:Nat->Prop}{σ σ':DM}
theorem TbD.ext(h:TbD w t g n L may T F σ)(k:Ext w w'):TbD w' t g n L may T F σ:=⟨h.d.ext k,h.t.ext k,h.ap⟩
theorem TbD.disk(h:TbD w t g n L may T F σ)(k:DkS w g F σ' w'):TbD w' t g n L may T (Gr F w w') σ':=
 ⟨k.dk,h.t.off k.off h.ap,fun i b=>Gr.not (h.ap i b) (h.t.lt i b)⟩
theorem Tb.cells(h:Tb w t g n L may T): ∃(v:Option Addr) (p:Nat×Nat) (s:Nat) (mv:Value),T t/\w.cell? ⟨t,0,none⟩=some (.pointer (some ⟨g,0,none⟩))/\w.cell? ⟨t,1,none⟩=some (.int .i64 n)/\w.cell? ⟨t,2,none⟩=some (.int .i64 (L.length:Int))/\
  w.cell? ⟨t,3,none⟩=some (.slice v (q2z L).length s)/\Mds w v (q2z L).length s (q2z L)/\
  w.cell? ⟨t,4,none⟩=some (.int .i64 (p.1:Int))/\w.cell? ⟨t,5,none⟩=some (.int .i64 (p.2:Int))/\w.cell? ⟨t,6,none⟩=some mv/\ ∃D,FilK w p.1 p.2 mv D/\may=z7u p.1 p.2 D:=by
 obtain⟨v,p,s,mv,D,h1,h2,h3,h4,b,d⟩:=h;obtain⟨ao,cap,rfl,hm⟩:=Mds.of_own (Own.of_row h1.mids);exact⟨ao,(p,s),cap,mv,b t (.inl rfl),h1.blk.cell 0,h1.blk.cell 1,h1.blk.cell 2,h1.blk.cell 3,hm,h1.blk.cell 4,h1.blk.cell 5,h1.blk.cell 6,D,h1.fil,h2⟩
theorem Dk.Flt(h:Dk w g F σ): ∀i,F i->i<w.heap.size:=by obtain⟨_,_,_,_,_,_,h⟩:=h;exact h
theorem z4C{j:Nat}{u:Value}(k:OffS F w w')(h:w.cell? ⟨i,j,none⟩=some u)(d:¬F i):w'.cell? ⟨i,j,none⟩=some u:=by
 have b:=k.block i (World.block_lt_of_cell? (h:=h)) d;simp only[World.cell?,b] at h⊢;exact h
theorem y0X(h:okD σ)(nm:List UInt8)(a m:Int):(q1k σ nm a m).1.length<=1048576:=by
 have h1:=h.used;have h2:=h.cap1;unfold q1k
 split
 ·simp
 ·split
  ·simp
  ·rename_i f b
   have:=z1B (q0K b).1
   split<;>simp<;>omega
theorem z3B(h:TbD w t g n L may T F σ)(i:Nat)(hi:i<=1000000):
  Calls Tryz.prog 227 #[.pointer (some ⟨t,0,none⟩),.int .i64 (i:Int)] w fun e w'=>e= .returned (.tuple #[enV (q1Q σ n i).1,.int .i64 (q1Q σ n i).2.1])/\DkS w g F (q1Q σ n i).2.2 w':=by
 have HD:=η h;have HT:=η (fun W=>z0v n W);have U:=η (fun W=>y4g i W hi);have f0:=q3m 116 n
 have C:Hd (q1Q σ n i=if (q1k σ (q0B 116 n) (8+24*(i:Int)) 24).2.1≠0 then(en0,q2Y (q1k σ (q0B 116 n) (8+24*(i:Int)) 24).2.1,(q1k σ (q0B 116 n) (8+24*(i:Int)) 24).2.2)
  else match z1D (q1k σ (q0B 116 n) (8+24*(i:Int)) 24).1 with
  |none=>(en0,90,(q1k σ (q0B 116 n) (8+24*(i:Int)) 24).2.2)
  |some x=>(x,0,(q1k σ (q0B 116 n) (8+24*(i:Int)) 24).2.2)):=η rfl
 have HR:=η (fun W (k:Ext w W)=>z4o (h.d.ext k) (q0B 116 n) (8+24*(i:Int)) 24 f0 (by omega) (by omega) (by decide) (by decide));have m:(q1k σ (q0B 116 n) (8+24*(i:Int)) 24).1.length<=1048576:=y0X h.d.1 _ _ _;generalize q0B 116 n=TN at*;obtain⟨A,hA⟩: ∃A:Int,8+24*(i:Int)=A:=⟨_,rfl⟩
 rw[hA] at U HR C m;obtain⟨r1,h1⟩: ∃r,q1k σ TN A 24=r:=⟨_,rfl⟩
 rw[h1] at HR C m;obtain⟨S,c,σ1⟩:=r1;simp only at HR C m;clear h1 hA f0;obtain⟨v,p,s,mv,g0,c0,c1,_⟩:=(h.ext (q0C w (.cells #[.int .u64 0,.int .i64 0,.int .i64 0] 165))).t.cells;have d0:=q0A (Ext.refl _).drew c0;have d1:=q0A (Ext.refl _).drew c1;have G:=η ((q0C w (.cells #[.int .u64 0,.int .i64 0,.int .i64 0] 165)).drew);have e0:=(Blk.new w 165 #[.int .u64 0,.int .i64 0,.int .i64 0])
 have h0:=η e0;have J:=h.d.Flt;have b0:=η (h.ap t g0);have I:=η J;clear h e0 J g0;go_enter Tryz.func227,Tryz.ntmps227;go_wp2_with fail
 go_region_held3 (fun W=>W.cell? ⟨t,0,none⟩=some (.pointer (some ⟨g,0,none⟩))/\W.cell? ⟨t,1,none⟩=some (.int .i64 n))
  (first|exact Z.o|exact E.o|exact⟨d0,d1⟩)
  (first
   |(go_at_call 236;refine(HT.o _).mono ?_;rintro e wa ⟨rfl,h1⟩;have a0:=η h1;have H1:=η (G.o.trans h1);have E:=η (And.intro (q0A h1 d0) (q0A h1 d1));clear h1)
   |(go_at_call 280;refine(U.o _).mono ?_;rintro e wz ⟨rfl,rfl⟩)
   |(go_at_call 160;refine(HR.o _ H1.o).mono ?_;rintro e wb ⟨rfl,h2⟩;have H2:=η h2;have Z:=η (And.intro (z4C h2.off E.o.1 b0.o) (z4C h2.off E.o.2 b0.o));clear h2))
 all_goals
  have M:=η (DkS.from (HD.o.d.ext G.o) a0.o H2.o);have j:Blk wb w.heap.size 165 #[.int .u64 0,.int .i64 0,.int .i64 0]:=M.o.off.blk (h0.o.ext ((Ext.refl _).drew)) (fun hf=>by have:=I.o _ hf;omega);have Y:=η j;have u:Hd (∀V W,Ext wb V->OffS (fun i=>i=w.heap.size) V W->DkS w g F σ1 W):=η fun V W h1 h2=>by
   have s1:=h2.size;have s2:=h1.size;refine DkS.box (w1:=V) G.o (M.o.ext h1) I.o s1 h2.os h2.tape h2.output fun i hi hn=>h2.block i hi fun e=>hn ?_
   subst e;exact⟨ι _,by show w.heap.size<(w.alloc _).heap.size;rw[ρ];omega⟩
  clear M G a0 H1 E H2 Z;by_cases e1:c=0
  ·subst e1
   cases hg:z1D S with
   | none=>
    have X:Hd (q1Q σ n i=(en0,90,σ1)):=η (by rw[C.o,κ (fun h=>h rfl),hg]);have q:=z0T S wb (by omega);unfold q7W at q;rw[hg] at q;have y:Hd (Calls Tryz.prog 281 #[.string ⟨S.toArray⟩] wb fun r w'=>r= .returned (.tuple #[.agg #[.int .u64 0,.int .i64 0,.int .i64 0],.bool false])/\Ext wb w'):=η q;clear q hg j C m;go_wp2_with fail;refine y.o.mono ?_;rintro e wc ⟨rfl,N⟩;have B:=η (N.alloc (.cells #[.int .u64 0,.int .i64 0,.int .i64 0] 165));have b:=Y.o.ext B.o;have r0:(wc.alloc (.cells #[.int .u64 0,.int .i64 0,.int .i64 0] 165)).cell? ⟨w.heap.size,0,none⟩=some (Value.int .u64 0):=b.cell 0;have r1:(wc.alloc (.cells #[.int .u64 0,.int .i64 0,.int .i64 0] 165)).cell? ⟨w.heap.size,1,none⟩=some (Value.int .i64 0):=b.cell 1;have r2:(wc.alloc (.cells #[.int .u64 0,.int .i64 0,.int .i64 0] 165)).cell? ⟨w.heap.size,2,none⟩=some (Value.int .i64 0):=b.cell 2;have y0:=(b).free 0;have y1:=(b).free 1;have y2:=(b).free 2;clear N b y;go_wp2_with fail
    (try simp only[Exit.inBlock,Exit.then])
    refine bodyPost_ret (v:= .tuple #[.agg #[.int .u64 (0),.int .i64 (0),.int .i64 (0)],.int .i64 (90)]) (by rw[q1D rfl];go_simp) rfl ?_;rw[X.o];refine⟨rfl,?_⟩;refine u.o _ _ ?_ (OffS.trans (OffS.trans (OffS.set _ ?_ _ _) (OffS.set _ ?_ _ _)) (OffS.set _ ?_ _ _))<;>first|rfl|exact B.o
   | some x=>
    have X:Hd (q1Q σ n i=(x,0,σ1)):=η (by rw[C.o,κ (fun h=>h rfl),hg]);have q:=z0T S wb (by omega);unfold q7W at q;rw[hg] at q;obtain⟨O,Q,R⟩:=x;have y:Hd (Calls Tryz.prog 281 #[.string ⟨S.toArray⟩] wb fun r w'=>r= .returned (.tuple #[.agg #[.int .u64 O,.int .i64 Q,.int .i64 R],.bool true])/\Ext wb w'):=η q;clear q hg j C m;go_wp2_with fail;refine y.o.mono ?_;rintro e wc ⟨rfl,N⟩;have B:=η (N.alloc (.cells #[.int .u64 O,.int .i64 Q,.int .i64 R] 165));have b:=Y.o.ext B.o;have r0:(wc.alloc (.cells #[.int .u64 O,.int .i64 Q,.int .i64 R] 165)).cell? ⟨w.heap.size,0,none⟩=some (Value.int .u64 0):=b.cell 0;have r1:(wc.alloc (.cells #[.int .u64 O,.int .i64 Q,.int .i64 R] 165)).cell? ⟨w.heap.size,1,none⟩=some (Value.int .i64 0):=b.cell 1;have r2:(wc.alloc (.cells #[.int .u64 O,.int .i64 Q,.int .i64 R] 165)).cell? ⟨w.heap.size,2,none⟩=some (Value.int .i64 0):=b.cell 2;have y0:=(b).free 0;have y1:=(b).free 1;have y2:=(b).free 2;clear N b y;go_wp2_with fail
    (try simp only[Exit.inBlock,Exit.then])
    refine bodyPost_ret (v:= .tuple #[.agg #[.int .u64 (O),.int .i64 (Q),.int .i64 (R)],.int .i64 (0)]) (by rw[q1D rfl];go_simp) rfl ?_;rw[X.o];refine⟨rfl,?_⟩;refine u.o _ _ ?_ (OffS.trans (OffS.trans (OffS.set _ ?_ _ _) (OffS.set _ ?_ _ _)) (OffS.set _ ?_ _ _))<;>first|rfl|exact B.o
  ·have X:Hd (q1Q σ n i=(en0,q2Y c,σ1)):=η (by rw[C.o,ξ e1])
   have N:(c !=0)=true:=by simpa using e1
   have i0:=η (fun W=>z3y c W);have r0:wb.cell? ⟨w.heap.size,0,none⟩=some (Value.int .u64 0):=j.cell 0;have r1:wb.cell? ⟨w.heap.size,1,none⟩=some (Value.int .i64 0):=j.cell 1;have r2:wb.cell? ⟨w.heap.size,2,none⟩=some (Value.int .i64 0):=j.cell 2;have y0:=(j).free 0;have y1:=(j).free 1;have y2:=(j).free 2;clear C e1 m j;go_wp2_with fail;refine(i0.o _).mono ?_;rintro e wc ⟨rfl,rfl⟩;go_wp2_with fail
   (try simp only[Exit.inBlock,Exit.then])
   refine bodyPost_ret (v:= .tuple #[.agg #[.int .u64 (0),.int .i64 (0),.int .i64 (0)],.int .i64 (q2Y c)]) (by rw[q1D rfl];go_simp) rfl ?_;rw[X.o];refine⟨rfl,?_⟩;refine u.o _ _ ?_ (OffS.trans (OffS.trans (OffS.set _ ?_ _ _) (OffS.set _ ?_ _ _)) (OffS.set _ ?_ _ _))<;>first|rfl|exact Ext.refl _
end
def q7V(n:Int)(x:En):Nat->DM->Nat->Nat->Nat×Int×DM
 |0,σ,lo,_=>(lo,0,σ)
 | f +1,σ,lo,hi=>if lo<hi then
   if (q1Q σ n ((lo+hi)/2)).2.1≠0 then(0,(q1Q σ n ((lo+hi)/2)).2.1,(q1Q σ n ((lo+hi)/2)).2.2)
   else if q0u (q1Q σ n ((lo+hi)/2)).1 x then q7V n x f (q1Q σ n ((lo+hi)/2)).2.2 ((lo+hi)/2+1) hi
   else q7V n x f (q1Q σ n ((lo+hi)/2)).2.2 lo ((lo+hi)/2)
  else(lo,0,σ)
def q1y(σ:DM)(n:Int)(L:List En)(x:En):Nat×Int×DM:=
 q7V n x (L.length+1) σ (q1C L.length x 0 (q2z L)).1 (q1C L.length x 0 (q2z L)).2
theorem z0c(m:Nat): ∀(i:Nat) (l:List En),i+l.length<=m-> ∀y∈q4s m i l,y.2<m
 |_,[],_=>fun y b=>by cases b
 | i, e::r,h=>fun y b=>by
  rw[χ] at h;unfold q4s at b
  split at b
  ·rcases List.mem_cons.1 b with rfl|b
   ·show i<m;omega
   ·exact z0c m (i+1) r (by omega) y b
  ·exact z0c m (i+1) r (by omega) y b
section
variable {w w':World}{t g:Nat}{n:Int}{L:List En}{may:Int->Bool}{T F:Nat->Prop}{σ:DM}
theorem z8k(h:TbD w t g n L may T F σ)(x:En):
  Calls Tryz.prog 226 #[.pointer (some ⟨t,0,none⟩),enV x] w fun e w'=>e= .returned (.tuple #[.int .i64 ((q1y σ n L x).1:Int),.int .i64 (q1y σ n L x).2.1])/\DkS w g F (q1y σ n L x).2.2 w':=by
 have j0:=h.t.okL;have X:=q8Z x j0.sort;have D0:=j0.len;obtain⟨q,u,y⟩:=x;show Calls _ _ #[_,.agg #[.int .u64 q,.int .i64 u,.int .i64 y]] _ _;have HD:=η h;have d0:=q0C w (.cells #[.int .u64 q,.int .i64 u,.int .i64 y] 165);have A0:=η d0;have Q:=Blk.new w 165 #[.int .u64 q,.int .i64 u,.int .i64 y];obtain⟨v,p,s,mv,C0,_,_,c2,c3,u0,_⟩:=(h.ext d0).t.cells;have d2:=q0D c2;have d3:=q0D c3;have e0:=q0D (show(w.alloc (.cells #[.int .u64 q,.int .i64 u,.int .i64 y] 165)).cell? ⟨w.heap.size,0,none⟩=some (.int .u64 q) from Q.cell 0);have e1:=q0D (show(w.alloc (.cells #[.int .u64 q,.int .i64 u,.int .i64 y] 165)).cell? ⟨w.heap.size,1,none⟩=some (.int .i64 u) from Q.cell 1);have e2:=q0D (show(w.alloc (.cells #[.int .u64 q,.int .i64 u,.int .i64 y] 165)).cell? ⟨w.heap.size,2,none⟩=some (.int .i64 y) from Q.cell 2);have HN:=η (fun W (k:Ext (w.alloc (.cells #[.int .u64 q,.int .i64 u,.int .i64 y] 165)) W)=>y0Q (m:=L.length) (q,u,y) W (u0.ext k) (by omega) (z0c L.length 0 L (by omega)));have i0:Hd (q1y σ n L (q,u,y)=q7V n (q,u,y) (L.length+1) σ (q1C L.length (q,u,y) 0 (q2z L)).1 (q1C L.length (q,u,y) 0 (q2z L)).2):=η rfl;obtain⟨R,hR⟩: ∃R,q1y σ n L (q,u,y)=R:=⟨_,rfl⟩
 rw[hR] at i0;rw[hR];obtain⟨z,hz⟩: ∃z,q1C L.length (q,u,y) 0 (q2z L)=z:=⟨_,rfl⟩
 rw[hz] at i0 X;have y0:=η X;generalize hQ:lbE L (q,u,y)=lb at*;obtain⟨k0,b0⟩:=z;have p0:Hd (∀W,Ext (w.alloc (.cells #[.int .u64 q,.int .i64 u,.int .i64 y] 165)) W->Calls Tryz.prog 279 #[.slice v (q2z L).length s,.int .i64 (L.length:Int),.agg #[.int .u64 q,.int .i64 u,.int .i64 y]] W fun r w'=>r= .returned (.tuple #[.int .i64 (k0:Int),.int .i64 (b0:Int)])/\Ext W w'):=η fun W k=>by
  have h1:=HN.o W k;rw[hz] at h1;exact h1
 have g0:=h.d.Flt;have n0:=η g0;generalize (q2z L).length=ml at*;have l0:=η Q;have Z:=η (h.ext d0);clear h j0 X hz HN u0 c2 c3 hR hQ d0 C0 g0 Q;go_enter Tryz.func226,Tryz.ntmps226;go_wp2_with fail;generalize w.alloc (.cells #[.int .u64 q,.int .i64 u,.int .i64 y] 165)=w1 at*;refine q0E (by kernel_rfl) (by kernel_rfl) ?_
 repeat (go_big_quiet_step (fail))
 go_big_quiet_step (exact Calls.quiet_ext (p0.o _ (ExtOf.h _)))
 repeat (go_big_quiet_step (fail))
 refine wpQuiet_nil ?_;intro w2 v0;have x0:=η ((DkS.refl Z.o.d).ext v0);have E0:Hd (∀i,T i->i<w1.heap.size/\¬F i):=η fun i C=>⟨Z.o.t.lt i C,Z.o.ap i C⟩
 have z0:Hd (∀I W,DkS w1 g F I W->TbD W t g n L may T (Gr F w1 W) I):=η fun I W N=>Z.o.disk N
 have w0:Hd (∀I W,DkS w1 g F I W->Blk W w.heap.size 165 #[.int .u64 q,.int .i64 u,.int .i64 y]):=η fun I W N=>N.off.blk l0.o fun hf=>by have:=n0.o _ hf;omega
 have f0:Hd (∀I W,DkS w1 g F I W->DkS w g F I W):=η fun I W N=>DkS.from HD.o.d A0.o N
 have X:=y0.o;have HL:=η (show k0<=b0/\b0<=L.length by omega);clear v0 e0 e1 e2 d2 d3 p0 X l0;go_wp2_with fail
 go_loopw [6,7] (fun a b W=> ∃(M C f:Nat) (I:DM),M<=C/\C<=L.length/\C-M<f/\a= .int .i64 (M:Int)/\b= .int .i64 (C:Int)/\q7V n (q,u,y) f I M C=R/\DkS w1 g F I W) (fun a b _=>(intOf b).toNat-(intOf a).toNat)
 case atStart=>exact⟨k0,b0,L.length+1,σ,HL.o.1,HL.o.2,by have:=HL.o;omega,rfl,rfl,i0.o.symm,x0.o⟩
 case round=>
  obtain⟨M,C,f,I,F0,B0,hf,rfl,rfl,j,N⟩:=hrel;have h0:=η N;obtain⟨f,rfl⟩: ∃f',f=f'+1:=⟨f-1,by omega⟩
  unfold q7V at j;clear N;by_cases t0:M<C
  ·rw [ξ t0] at j
   have N:decide ((M:Int)<(C:Int))=true:=by simp;omega
   obtain⟨m,hm⟩: ∃m,(M+C)/2=m:=⟨_,rfl⟩
   rw[hm] at j;obtain⟨S,hS⟩: ∃S:Int,(M:Int)+(C:Int)=S:=⟨_,rfl⟩
   have q1:IntKind.i64.wrap ((M:Int)+(C:Int))=S:=by rw[ν];omega
   have q2:IntKind.u64.wrap S=S:=by rw[IntKind.wrap_u64];omega
   have q3:Int.tdiv S 2=(m:Int):=by rw[Int.tdiv_eq_ediv_of_nonneg (by omega)];omega
   have q4:IntKind.u64.wrap (m:Int)=(m:Int):=by rw[IntKind.wrap_u64];omega
   have q5:IntKind.i64.wrap (m:Int)=(m:Int):=by rw[ν];omega
   have q6:IntKind.i64.wrap ((m:Int)+1)=(m:Int)+1:=by rw[ν];omega
   have G0:M<=m/\m<C:=by omega
   have E:=η (z3B (z0.o _ _ h0.o) m (by omega));have a0:Hd (∀J W,DkS wr g (Gr F w1 wr) J W->DkS w1 g F J W):=η fun J W N=>h0.o.trans N
   obtain⟨r,hr⟩: ∃r,q1Q I n m=r:=⟨_,rfl⟩
   rw[hr] at j E;obtain⟨⟨y1,y2,y3⟩,c,J⟩:=r;simp only at j;have E:Hd (Calls Tryz.prog 227 #[.pointer (some ⟨t,0,none⟩),.int .i64 (m:Int)] wr fun e w'=>e= .returned (.tuple #[.agg #[.int .u64 y1,.int .i64 y2,.int .i64 y3],.int .i64 c])/\DkS wr g (Gr F w1 wr) J w'):=E;have o0:=η (fun W=>z1r (y1,y2,y3) (q,u,y) W);clear hm hr hS;by_cases hc:c=0
   ·subst hc
    rw[κ (fun h=>h rfl)] at j;have B:=η j;clear j;go_wp2_with fail;refine E.o.mono ?_;rintro e w4 ⟨rfl,U⟩;have Y:=η (a0.o _ _ U);have s0:=w0.o _ _ Y.o;have c0:=s0.ext (q0C w4 (.cells #[.int .u64 y1,.int .i64 y2,.int .i64 y3] 165));have r0:(w4.alloc (.cells #[.int .u64 y1,.int .i64 y2,.int .i64 y3] 165)).cell? ⟨w.heap.size,0,none⟩=some (Value.int .u64 q):=c0.cell 0;have r1:(w4.alloc (.cells #[.int .u64 y1,.int .i64 y2,.int .i64 y3] 165)).cell? ⟨w.heap.size,1,none⟩=some (Value.int .i64 u):=c0.cell 1;have r2:(w4.alloc (.cells #[.int .u64 y1,.int .i64 y2,.int .i64 y3] 165)).cell? ⟨w.heap.size,2,none⟩=some (Value.int .i64 y):=c0.cell 2;clear U s0 c0 E a0;go_wp2_with fail;refine(o0.o _).mono ?_;rintro e w5 ⟨rfl,q0⟩;have m0:=η (Y.o.ext ((q0C _ _).trans q0));clear q0 o0 r0 r1 r2
    cases hlx:q0u (y1,y2,y3) (q,u,y) with
    | true=>
     have G:=B.o;rw[hlx,ξ rfl] at G;have O:=η G;clear G hlx B;go_wp2_with fail
     go_roundw
     case rel=>exact⟨m+1,C,f,J,by omega,B0,by omega,by go_num,rfl,O.o,m0.o⟩
     case measure=>simp[intOf];omega
    | false=>
     have G:=B.o;rw[hlx,κ (by decide)] at G;have O:=η G;clear G hlx B;go_wp2_with fail
     go_roundw
     case rel=>exact⟨M,m,f,J,by omega,by omega,by omega,rfl,rfl,O.o,m0.o⟩
     case measure=>simp[intOf];omega
   ·have hb:(c !=0)=true:=by simpa using hc
    rw[ξ hc] at j;have B:=η j;clear j hc;go_wp2_with fail;refine E.o.mono ?_;rintro e w4 ⟨rfl,U⟩;have Y:=η (a0.o _ _ U);clear U E a0;go_wp2_with fail;go_ret2;rw[<-B.o];exact⟨rfl,f0.o _ _ (Y.o.ext (q0C _ _))⟩
  ·rw[κ t0] at j
   have N:decide ((M:Int)<(C:Int))=false:=by simp;omega
   have B:=η j;clear j;go_wp2_with fail;go_ret2;rw[<-B.o];exact⟨rfl,f0.o _ _ h0.o⟩
end
def q4t(L:List En)(may:Int->Bool)(h:Int):Bool:=decide (0<L.length)&&may h
section
variable {w w':World}{t g:Nat}{n:Int}{L:List En}{may:Int->Bool}{T F:Nat->Prop}{σ:DM}
theorem z3i(h:Tb w t g n L may T):Calls Tryz.prog 224 #[.pointer (some ⟨t,0,none⟩)] w fun e w'=>e= .returned (.bool false)/\w=w':=by
 obtain⟨v,p,s,mv,b,d,_⟩:=h.cells;clear h;go_enter Tryz.func224,Tryz.ntmps224;go_wp2_with fail;go_ret;exact⟨rfl,rfl⟩
theorem y1C(h:Tb w t g n L may T)(x:Int):Calls Tryz.prog 225 #[.pointer (some ⟨t,0,none⟩),.int .u64 x] w fun e w'=>e= .returned (.bool (q4t L may x))/\Ext w w':=by
 have q:=η (z3i h);obtain⟨v,p,s,mv,E,G,I,J,M,_,N,O,Q,D,u,rfl⟩:=h.cells;have B:=η (y0s x w u);obtain⟨j,m⟩:=p;obtain⟨⟨R,rfl⟩,_⟩:=u;clear h;by_cases b:0<L.length
 ·have C:decide ((0:Int)<(L.length:Int))=true:=ζ (by omega)
  have d:Hd (q4t L (z7u j m D) x=z7u j m D x):=η (by unfold q4t;rw[ζ b];rfl);rw[d.o];generalize (L.length:Int)=k at*;clear b;go_enter Tryz.func225,Tryz.ntmps225;go_wp2_with fail;refine q.o.mono ?_;rintro e w1 ⟨rfl,rfl⟩;go_wp2_with fail;refine B.o.mono ?_;rintro e w2 ⟨rfl,r⟩;have y:=η r;clear r;go_wp2_with fail;go_ret;exact⟨rfl,y.o⟩
 ·have C:decide ((0:Int)<(L.length:Int))=false:=ε (by omega)
  have d:Hd (q4t L (z7u j m D) x=false):=η (by unfold q4t;rw[ε b];rfl);rw[d.o];generalize (L.length:Int)=k at*;clear b;go_enter Tryz.func225,Tryz.ntmps225;go_wp2_with fail;refine q.o.mono ?_;rintro e w1 ⟨rfl,rfl⟩;go_wp2_with fail;go_ret;exact⟨rfl,Ext.refl _⟩
end
def z0q(n:Int)(L:List En)(h b:Int):Nat->DM->Nat->List En->List En×Int×DM
 |0,σ,_,acc=>(acc,0,σ)
 | f +1,σ,i,acc=>if i<L.length then
   if (q1Q σ n i).2.1≠0 then([],(q1Q σ n i).2.1,(q1Q σ n i).2.2)
   else if inE h b (q1Q σ n i).1 then z0q n L h b f (q1Q σ n i).2.2 (i+1) (acc++[(q1Q σ n i).1])
   else(acc,0,(q1Q σ n i).2.2)
  else(acc,0,σ)
def q3P(σ:DM)(n:Int)(L:List En)(may:Int->Bool)(h a b:Int):List En×Int×DM:=
 if min b 1073741824<max a 0\/q4t L may h=false then([],0,σ)
 else if (q1y σ n L (h,max a 0,0)).2.1≠0 then([],(q1y σ n L (h,max a 0,0)).2.1,(q1y σ n L (h,max a 0,0)).2.2)
 else z0q n L h (min b 1073741824) (L.length+1) (q1y σ n L (h,max a 0,0)).2.2 (q1y σ n L (h,max a 0,0)).1 []
section
variable {w w' w1 w2:World}{t g:Nat}{n:Int}{L:List En}{may:Int->Bool}{T F V:Nat->Prop}{σ σ':DM}{row:Option Nat}
theorem Dk.grown(h:Dk w g F σ)(k:w.grownBy w' row)(d: ∀i,row=some i->¬F i):Dk w' g F σ:=
 h.held k.size fun i b=>k.block i (h.Flt i b) fun e=>d i e.symm b
structure RowV(w:World)(g:Nat)(F:Nat->Prop)(σ:DM)(W:World)(v:Value)(acc:List En):Prop where
 row:W.ownsRow w.heap.size 165 3 v acc.length (ecs acc)
 dk: ∃F',Dk W g F' σ/\(∀i,F' i->Gr F w W i)/\ ∀i,v.ownBlock=some i->¬F' i
 off:OffS F w W
theorem RowV.nil(h:DkS w g F σ w'):RowV w g F σ w' (.slice none 0 0) []:=
 ⟨World.ownsRow_nil _ _ _ _,⟨_,h.dk,fun i b=>b,fun i b=>by cases b⟩,h.off⟩
theorem RowV.ext{v:Value}(h:RowV w g F σ W v acc)(k:Ext W W'):RowV w g F σ W' v acc:=by
 obtain⟨b,h1,h2,h3⟩:=h.dk;refine⟨q0J h.row k,⟨b,h1.ext k,fun i d=>?_,h3⟩,h.off.trans (OffS.of_ext k)⟩;rcases h2 i d with h4|h4
 ·exact .inl h4
 ·exact .inr ⟨h4.1,Ψ h4.2 k.size⟩
theorem RowV.step{v:Value}{d:Nat->Prop}(h:RowV w g F σ W v acc)(m:Dk W g d σ)(h2: ∀i,d i->Gr F w W i)(h3: ∀i,v.ownBlock=some i->¬d i)(k:DkS W g d σ' W'):RowV w g F σ' W' v acc:=by
 have o:=k.off.size;refine⟨q1X h.row fun i b=>k.off.block i (q0p h.row i b).2 (h3 i b),⟨_,k.dk,fun i b=>?_,fun i b j=>?_⟩,h.off.gr (k.off.mono fun i _ b=>h2 i b)⟩
 ·rcases b with b|b
  ·rcases h2 i b with h4|h4
   ·exact .inl h4
   ·exact .inr ⟨h4.1,by omega⟩
  ·exact .inr ⟨by have:=h.off.size;omega,b.2⟩
 ·exact Gr.not (h3 i b) (q0p h.row i b).2 j
theorem RowV.grow{v j:Value}{acc':List En}(h:RowV w g F σ W v acc)(u:W'.ownsRow w.heap.size 165 3 j acc'.length (ecs acc'))(d:W.grownBy W' v.ownBlock)(m:j.ownBlock=v.ownBlock\/j.ownBlock=some W.heap.size):RowV w g F σ W' j acc':=by
 obtain⟨q,h1,h2,h3⟩:=h.dk;have x:=d.size;refine⟨u,⟨q,h1.grown d fun i b=>h3 i b,fun i b=>?_,fun i b o=>?_⟩,?_⟩
 ·rcases h2 i b with h4|h4
  ·exact .inl h4
  ·exact .inr ⟨h4.1,by omega⟩
 ·rcases m with e|e
  ·exact h3 i (e▸b) o
  ·rw[e] at b;cases b
   have:=h1.Flt _ o;omega
 ·refine⟨d.os.trans h.off.os,d.tape.trans h.off.tape,d.output.trans h.off.output,Ω h.off.size x,fun i b r=>?_⟩
  rw[d.block i (Ψ b h.off.size) fun e=>?_,h.off.block i b r];have:=(q0p h.row i e.symm).1;omega
theorem RowV.drop{v:Value}(h:RowV w g F σ W v acc):RowV w g F σ W (.slice none 0 0) []:=by
 obtain⟨b,h1,h2,h3⟩:=h.dk;exact⟨World.ownsRow_nil _ _ _ _,⟨b,h1,h2,fun i d=>by cases d⟩,h.off⟩
def y2q(w:World)(g:Nat)(F:Nat->Prop)(r:List En×Int×DM)(e:Ending)(w':World):Prop:=
 ∃v,e= .returned (.tuple #[v,.int .i64 r.2.1])/\RowV w g F r.2.2 w' v r.1
theorem y0j(h : TbD w t g n L may T F σ)(x a b:Int):
  Calls Tryz.prog 180 #[.pointer (some ⟨t,0,none⟩),.int .u64 x,.int .i64 a,.int .i64 b] w (y2q w g F (q3P σ n L may x a b)):=by
 have HD:=η h;have HN:=η (z3i h.t);have e0:=η (y1C h.t x)
 have HM:Hd (q3P σ n L may x a b=if min b 1073741824<max a 0\/q4t L may x=false then([],0,σ)
  else if (q1y σ n L (x,max a 0,0)).2.1≠0 then([],(q1y σ n L (x,max a 0,0)).2.1,(q1y σ n L (x,max a 0,0)).2.2)
  else z0q n L x (min b 1073741824) (L.length+1) (q1y σ n L (x,max a 0,0)).2.2 (q1y σ n L (x,max a 0,0)).1 []):=η rfl
 obtain⟨A,hA⟩: ∃A,max a 0=A:=⟨_,rfl⟩
 obtain⟨B,hB⟩: ∃B,min b 1073741824=B:=⟨_,rfl⟩
 rw[hA,hB] at HM;have HF:=η (fun W (k:Ext w W)=>z8k (h.ext k) (x,A,0));obtain⟨r,hr⟩: ∃r,q1y σ n L (x,A,0)=r:=⟨_,rfl⟩
 rw[hr] at HF HM;obtain⟨i0,c,σ1⟩:=r;simp only at HF HM;obtain⟨q,hq⟩: ∃q,q4t L may x=q:=⟨_,rfl⟩
 rw[hq] at e0 HM;clear h hr hq;by_cases J:B<A
 ·have hd:decide (B<A)=true:=ζ J
  have HE:Hd (q3P σ n L may x a b=([],0,σ)):=η (by rw[HM.o,ξ (.inl J)]);clear HM J;go_enter Tryz.func180,Tryz.ntmps180;go_wp2_with fail;refine HN.o.mono ?_;rintro e w1 ⟨rfl,rfl⟩;go_wp2_with fail;go_ret2;rw[HE.o];exact⟨_,rfl,RowV.nil (DkS.refl HD.o.d)⟩
 ·have hd : decide (B<A)=false:=ε J
  cases q with
  | false=>
   have HE:Hd (q3P σ n L may x a b=([],0,σ)):=η (by rw[HM.o,ξ (.inr rfl)]);clear HM J;go_enter Tryz.func180,Tryz.ntmps180;go_wp2_with fail;refine HN.o.mono ?_;rintro e w1 ⟨rfl,rfl⟩;go_wp2_with fail;refine e0.o.mono ?_;rintro e w2 ⟨rfl,hb⟩;have b0:=η hb;clear hb;go_wp2_with fail;go_ret2;rw[HE.o];exact⟨_,rfl,RowV.nil ((DkS.refl HD.o.d).ext b0.o)⟩
  | true =>
   have d0:Hd (q3P σ n L may x a b=if c≠0 then([],c,σ1) else z0q n L x B (L.length+1) σ1 i0 []):=η (by rw[HM.o,κ (by simp[J])]);clear HM J;go_enter Tryz.func180,Tryz.ntmps180;go_wp2_with fail;refine HN.o.mono ?_;rintro e w1 ⟨rfl,rfl⟩;go_wp2_with fail;refine e0.o.mono ?_;rintro e w2 ⟨rfl,hb⟩;have b0:=η hb;clear hb;go_wp2_with fail;refine(HF.o _ b0.o).mono ?_;rintro e w3 ⟨rfl,Q⟩;have m0:=η (DkS.from HD.o.d b0.o Q);clear Q;by_cases hc:c=0
   ·subst hc
    have HE:Hd (z0q n L x B (L.length+1) σ1 i0 []=q3P σ n L may x a b):=η (by rw[d0.o,κ (fun h=>h rfl)]);clear d0;have v0:Hd (∀W F',OffS F w W->(∀i,F' i->Gr F w W i)-> ∀X,Dk W g F' X->TbD W t g n L may T F' X):=η fun W F' h1 h2 X h3=>⟨h3,HD.o.t.off h1 HD.o.ap,fun i hi hf=>Gr.not (HD.o.ap i hi) (HD.o.t.lt i hi) (h2 i hf)⟩
    obtain⟨R,hR⟩: ∃R,q3P σ n L may x a b=R:=⟨_,rfl⟩
    have y0:=HD.o.t.okL.len;have x0:Hd (∀X W v acc,RowV w g F X W v acc->w.heap.size<=W.heap.size):=η fun X W v acc h=>h.off.size
    rw[hR] at HE;have l0:=η hR;clear HN e0 HF hA hB hR;go_wp2_with fail
    go_loopw [10,12] (fun i v W=> ∃(k f:Nat) (X:DM) (acc:List En),L.length-k<f/\acc.length<=k/\i= .int .i64 (k:Int)/\z0q n L x B f X k acc=R/\RowV w g F X W v acc/\(k<=L.length\/acc.length=0)) (fun i _ _=>L.length-(intOf i).toNat)
    case atStart=>exact⟨i0,L.length+1,σ1,[],by omega,υ _,rfl,HE.o,RowV.nil m0.o,.inr rfl⟩
    case round =>
     obtain⟨k,f,X,acc,hf,p0,rfl,j,S,r0⟩:=hrel;obtain⟨f,rfl⟩: ∃f',f=f'+1:=⟨f-1,by omega⟩
     have k0:=η S;obtain⟨va,vc,rfl⟩:=q0H S.row;unfold z0q at j;obtain⟨F',f0,g0,Q⟩:=S.dk;have h0:=v0.o _ F' S.off g0 X f0;obtain⟨vv,pp,ss,mv,B0,c0,c1,c2,_⟩:=h0.t.cells;have u2:=q0D c2;by_cases s0:k<L.length
     ·have hd:decide ((k:Int)<(L.length:Int))=true:=ζ (by omega)
      have q1:IntKind.i64.wrap ((k:Int)+1)=(k:Int)+1:=by rw[ν];omega
      rw[ξ s0] at j;have G:=η (z3B h0 k (by omega));have Y:Hd (∀U W',DkS wr g F' U W'->RowV w g F U W' (.slice va acc.length vc) acc):=η fun U W' h=>k0.o.step f0 g0 Q h
      obtain⟨r,hr⟩: ∃r,q1Q X n k=r:=⟨_,rfl⟩
      rw[hr] at j G;obtain⟨⟨m,u,E⟩,c,U⟩:=r;simp only at j;have G:Hd (Calls Tryz.prog 227 #[.pointer (some ⟨t,0,none⟩),.int .i64 (k:Int)] wr fun e w'=>e= .returned (.tuple #[.agg #[.int .u64 m,.int .i64 u,.int .i64 E],.int .i64 c])/\DkS wr g F' U w'):=G;have A0:=η hf;have w0:acc.length<=50000:=by omega
      obtain⟨al,N⟩: ∃al,acc.length=al:=⟨_,rfl⟩
      have j0:=η N;rw[N] at Y k0 w0 p0;rw[N];clear hr S h0 f0 g0 Q r0 N;generalize L.length=ll at*;by_cases hc:c=0
      ·subst hc
       rw[κ (fun h=>h rfl)] at j;by_cases M:m=x/\u<=B
       ·have C:inE x B (m,u,E)=true:=by unfold inE;rw[ζ M.1,ζ M.2];rfl
        rw[C,ξ rfl] at j;have I:=η j;have b1:(m !=x)=false:=by simpa using M.1
        have b2:decide (B<u)=false:=ε (by omega);clear j M C;go_wp2_with fail;refine G.o.mono ?_;rintro e w4 ⟨rfl,y⟩;have O:=η (Y.o _ _ y);clear y G Y;have z0:=x0.o _ _ _ _ O.o;have o0:=η ((O.o.ext (q0C w4 (.cells #[.int .u64 m,.int .i64 u,.int .i64 E] 165))).ext (q0C _ (.cells #[.int .u64 m,.int .i64 u,.int .i64 E] 165)))
        have n0:Hd (Rd ((w4.alloc (.cells #[.int .u64 m,.int .i64 u,.int .i64 E] 165)).alloc (.cells #[.int .u64 m,.int .i64 u,.int .i64 E] 165)) (some ⟨w4.heap.size+1,0,none⟩) (ec (m,u,E))):=η (by
         have h:=Rd.lit (w4.alloc (.cells #[.int .u64 m,.int .i64 u,.int .i64 E] 165)) #[.int .u64 m,.int .i64 u,.int .i64 E] 165;rw[ρ] at h
         exact h)
        have u0:Hd (((w4.alloc (.cells #[.int .u64 m,.int .i64 u,.int .i64 E] 165)).alloc (.cells #[.int .u64 m,.int .i64 u,.int .i64 E] 165)).ownsRow w.heap.size 165 3 (.slice va al vc) al (ecs acc)):=η (by have h:=o0.o.row;rw[j0.o] at h;exact h)
        go_wp2_with (at_builtin;refine q0P rfl (.tmp 68) (.tmp 70) 187 rfl w.heap.size 165 _ 3 24 Tryz.underlying187 Tryz.infoE (by decide) (by decide) _ al (ecs acc) rfl u0.o _ 1 1 (ec (m,u,E)) rfl rfl (fun h=>by cases h) n0.o (by unfold ec;simp[Value.oneCell']) (by unfold maxLen;omega) (by omega) (by simp;omega) ?_;intro v2 w5 a0 Z q0;obtain⟨a2,k2,rfl⟩:=q0H a0;have t0:=η (o0.o.grow (acc':=acc++[(m,u,E)]) (by rw[θ,j0.o,z4L];exact a0) Z (q0.imp id fun e=>e));clear a0 Z q0)
        go_roundw
        case rel=>exact⟨k+1,f,U,acc++[(m,u,E)],by omega,by simp;have:=j0.o;omega,by go_num,I.o,t0.o,.inl (by omega)⟩
        case measure=>simp[intOf];omega
       ·have C:inE x B (m,u,E)=false:=by
         unfold inE;by_cases e:m=x
         ·rw[ζ e,ε (fun h=>M ⟨e,h⟩)];rfl
         ·rw[ε e];rfl
        rw[C,κ (by decide)] at j;have I:=η j;have b1:(m !=x)=true\/((m !=x)=false/\decide (B<u)=true):=by
         by_cases e:m=x
         ·exact .inr ⟨by simpa using e,ζ (by have:¬u<=B:=fun h=>M ⟨e,h⟩;omega)⟩
         ·exact .inl (by simpa using e)
        clear j M C;rcases b1 with b1|⟨b1,b2⟩
        all_goals
         go_wp2_with fail;refine G.o.mono ?_;rintro e w4 ⟨rfl,y⟩;have O:=η ((Y.o _ _ y).ext (q0C w4 (.cells #[.int .u64 m,.int .i64 u,.int .i64 E] 165)));clear y;go_wp2_with fail;go_ret2;rw[l0.o,<-I.o];exact⟨_,rfl,O.o⟩
      ·rw[ξ hc] at j
       have hb:(c !=0)=true:=by simpa using hc
       have I:=η j;clear j hc;go_wp2_with fail;refine G.o.mono ?_;rintro e w4 ⟨rfl,y⟩;have O:=η ((Y.o _ _ y).ext (q0C w4 (.cells #[.int .u64 m,.int .i64 u,.int .i64 E] 165)));clear y;go_wp2_with fail;go_ret2;rw[l0.o,<-I.o];exact⟨_,rfl,O.o.drop⟩
     ·have hd:decide ((k:Int)<(L.length:Int))=false:=ε (by omega)
      rw[κ s0] at j;have I:=η j;clear j S h0 f0 g0 Q r0;go_wp2_with fail;go_ret2;rw[l0.o,<-I.o];exact⟨_,rfl,k0.o⟩
   ·have HE:Hd (q3P σ n L may x a b=([],c,σ1)):=η (by rw[d0.o,ξ hc])
    have hb:(c !=0)=true:=by simpa using hc
    clear d0 hc;go_wp2_with fail;go_ret2;rw[HE.o];exact⟨_,rfl,RowV.nil m0.o⟩
end
theorem q0X{fn:Func}{p u v:Tmp}{ty:TypeId}(h:fn.results=#[.cell p ty,.tmp u,.tmp v])(tmps:Array Value)(P:Program)(w:World):
  (results fn tmps).run P w=
   ((asAddr (tmps.getD p undef)).run P w).andThen fun a w₁=>((loadVar ty a).run P w₁).andThen fun x b=> .ok (.tuple #[x,tmps.getD u undef,tmps.getD v undef]) b:=by
 simp only[results,h];simp[Sem.run_bind,Result.andThen]
theorem z0O(n:Int)(x:En): ∀(f:Nat) (σ:DM) (lo hi:Nat),lo<=hi->(q7V n x f σ lo hi).1<=hi
 |0,σ,lo,hi,h=>h
 | f + 1,σ,lo,hi,h=>by
  unfold q7V
  split
  ·split
   ·exact υ _
   ·split
    ·exact z0O n x f _ _ _ (by omega)
    ·exact Ω (z0O n x f _ lo ((lo+hi)/2) (by omega)) (by omega)
  ·exact h
theorem z9r{L:List En}(h:q1G L)(σ:DM)(n:Int)(x:En):(q1y σ n L x).1<=L.length:=by
 have b:=q8Z x h;exact Ω (z0O n x _ σ _ _ (by omega)) b.2.2.2
def q3k(σ:DM)(n:Int)(L:List En)(may:Int->Bool)(h u:Int):En×Bool×Int×DM:=
 if min u 1073741824<0\/q4t L may h=false then(en0,false,0,σ)
 else if (q1y σ n L (h,min u 1073741824+1,0)).2.1≠0\/(q1y σ n L (h,min u 1073741824+1,0)).1=0 then(en0,false,(q1y σ n L (h,min u 1073741824+1,0)).2.1,(q1y σ n L (h,min u 1073741824+1,0)).2.2)
 else if (q1Q (q1y σ n L (h,min u 1073741824+1,0)).2.2 n ((q1y σ n L (h,min u 1073741824+1,0)).1-1)).2.1≠0\/(q1Q (q1y σ n L (h,min u 1073741824+1,0)).2.2 n ((q1y σ n L (h,min u 1073741824+1,0)).1-1)).1.1≠h
  then(en0,false,(q1Q (q1y σ n L (h,min u 1073741824+1,0)).2.2 n ((q1y σ n L (h,min u 1073741824+1,0)).1-1)).2)
 else((q1Q (q1y σ n L (h,min u 1073741824+1,0)).2.2 n ((q1y σ n L (h,min u 1073741824+1,0)).1-1)).1,true,0,(q1Q (q1y σ n L (h,min u 1073741824+1,0)).2.2 n ((q1y σ n L (h,min u 1073741824+1,0)).1-1)).2.2)
section
variable {w w' w1 w2:World}{t g:Nat}{n:Int}{L:List En}{may:Int->Bool}{T F V:Nat->Prop}{σ σ':DM}
theorem z8m(h:TbD w t g n L may T F σ)(x u:Int)(hu: -9223372036854775808<=u):
  Calls Tryz.prog 167 #[.pointer (some ⟨t,0,none⟩),.int .u64 x,.int .i64 u] w fun e w'=>e= .returned (.tuple #[enV (q3k σ n L may x u).1,.bool (q3k σ n L may x u).2.1,.int .i64 (q3k σ n L may x u).2.2.1])/\DkS w g F (q3k σ n L may x u).2.2.2 w':=by
 have X:=Blk.new w 165 #[.int .u64 0,.int .i64 0,.int .i64 0];have e0:=q0C w (.cells #[.int .u64 0,.int .i64 0,.int .i64 0] 165);have w0:=η h;have x0:=η e0;have M:=h.d.Flt;have l0:=z9r h.t.okL.sort σ n;have v0:=h.t.okL.len
 replace h:=h.ext e0
 have HD:=η h;have HN:=η (z3i h.t);have b0:=η (y1C h.t x)
 have HM:Hd (∀A,A=min u 1073741824-> ∀r,q1y σ n L (x,A+1,0)=r-> ∀y,q1Q r.2.2 n (r.1-1)=y-> ∀q,q4t L may x=q->
  q3k σ n L may x u=if A<0\/q=false then(en0,false,0,σ) else if r.2.1≠0\/r.1=0 then(en0,false,r.2.1,r.2.2) else if y.2.1≠0\/y.1.1≠x then(en0,false,y.2) else(y.1,true,0,y.2.2)):=η (by
   intro A hA r hr y hy q hq;subst hA hr hy hq
   rfl)
 obtain⟨A,hA⟩: ∃A,min u 1073741824=A:=⟨_,rfl⟩
 have y0: -9223372036854775808<=A/\A<=1073741824:=by omega
 have q1:IntKind.i64.wrap (A+1)=A+1:=by rw[ν];omega
 have HF:=η (fun W (k:Ext (w.alloc (.cells #[.int .u64 0,.int .i64 0,.int .i64 0] 165)) W)=>z8k (h.ext k) (x,A+1,0));have c0:=l0 (x,A+1,0);have j0:=η (HM.o A hA.symm);obtain⟨r,hr⟩: ∃r,q1y σ n L (x,A+1,0)=r:=⟨_,rfl⟩
 rw[hr] at HF c0;have k0:=η (j0.o r hr);obtain⟨q,hq⟩: ∃q,q4t L may x=q:=⟨_,rfl⟩
 obtain⟨i0,c,σ1⟩:=r;obtain⟨y,hy⟩: ∃y,q1Q σ1 n (i0-1)=y:=⟨_,rfl⟩
 have C:=η (k0.o y hy q hq);simp only at C c0 HF;rw[hq] at b0;have u0:=η M;have m:=η X;have h0:Hd (∀N W,DkS (w.alloc (.cells #[.int .u64 0,.int .i64 0,.int .i64 0] 165)) g F N W->Blk W w.heap.size 165 #[.int .u64 0,.int .i64 0,.int .i64 0]):=η fun N W hd=>hd.off.blk X fun hf=>by have:=M _ hf;omega
 have b:Hd (∀N V W,DkS (w.alloc (.cells #[.int .u64 0,.int .i64 0,.int .i64 0] 165)) g F N V->OffS (fun i=>i=w.heap.size) V W->DkS w g F N W):=η fun N V W h1 h2=>by
  have s1:=h2.size;refine DkS.box (w1:=V) e0 h1 M s1 h2.os h2.tape h2.output fun i hi hn=>h2.block i hi fun e=>hn ?_
  subst e;exact⟨ι _,by rw[ρ];omega⟩
 have d0:Hd (∀N W W',Ext (w.alloc (.cells #[.int .u64 0,.int .i64 0,.int .i64 0] 165)) W->DkS W g F N W'->DkS (w.alloc (.cells #[.int .u64 0,.int .i64 0,.int .i64 0] 165)) g F N W'):=η fun N W W' h1 h2=>DkS.from h.d h1 h2
 have g0:Hd (∀N W,DkS (w.alloc (.cells #[.int .u64 0,.int .i64 0,.int .i64 0] 165)) g F N W->TbD W t g n L may T (Gr F (w.alloc (.cells #[.int .u64 0,.int .i64 0,.int .i64 0] 165)) W) N):=η fun N W h1=>h.disk h1
 have HY:=η hy;clear h hr hq hy M HM j0 k0 l0;by_cases E:A<0
 ·have hd:decide (A<0)=true:=ζ E
  have Y:Hd (q3k σ n L may x u=(en0,false,0,σ)):=η (by rw[C.o,ξ (.inl E)]);have r0:(w.alloc (.cells #[.int .u64 0,.int .i64 0,.int .i64 0] 165)).cell? ⟨w.heap.size,0,none⟩=some (Value.int .u64 0):=(m.o).cell 0;have r1:(w.alloc (.cells #[.int .u64 0,.int .i64 0,.int .i64 0] 165)).cell? ⟨w.heap.size,1,none⟩=some (Value.int .i64 0):=(m.o).cell 1;have r2:(w.alloc (.cells #[.int .u64 0,.int .i64 0,.int .i64 0] 165)).cell? ⟨w.heap.size,2,none⟩=some (Value.int .i64 0):=(m.o).cell 2;have z0:=(m.o).free 0;have z1:=(m.o).free 1;have z2:=(m.o).free 2;clear C E X;go_enter Tryz.func167,Tryz.ntmps167;go_wp2_with fail;refine HN.o.mono ?_;rintro e w1 ⟨rfl,rfl⟩;go_wp2_with fail
  (try simp only[Exit.inBlock,Exit.then])
  refine bodyPost_ret (v:= .tuple #[.agg #[.int .u64 (0),.int .i64 (0),.int .i64 (0)],.bool false,.int .i64 (0)]) (by rw[q0X rfl];go_simp) rfl ?_;rw[Y.o];refine⟨rfl,?_⟩
  first|exact b.o _ _ _ (DkS.refl HD.o.d) (OffS.refl _ _)|(refine b.o _ _ _ (DkS.refl HD.o.d) (OffS.trans (OffS.trans (OffS.set _ ?_ _ _) (OffS.set _ ?_ _ _)) (OffS.set _ ?_ _ _))<;>rfl)
 ·have hd :decide (A<0)=false:=ε E
  cases q with
  | false=>
   have Y:Hd (q3k σ n L may x u=(en0,false,0,σ)):=η (by rw[C.o,ξ (.inr rfl)]);clear C E X;go_enter Tryz.func167,Tryz.ntmps167;go_wp2_with fail;refine HN.o.mono ?_;rintro e w1 ⟨rfl,rfl⟩;go_wp2_with fail;refine b0.o.mono ?_;rintro e w2 ⟨rfl,B⟩;have Q:=η B;have r0:(w2).cell? ⟨w.heap.size,0,none⟩=some (Value.int .u64 0):=(m.o.ext B).cell 0;have r1:(w2).cell? ⟨w.heap.size,1,none⟩=some (Value.int .i64 0):=(m.o.ext B).cell 1;have r2:(w2).cell? ⟨w.heap.size,2,none⟩=some (Value.int .i64 0):=(m.o.ext B).cell 2;have z0:=(m.o.ext B).free 0;have z1:=(m.o.ext B).free 1;have z2:=(m.o.ext B).free 2;clear B;go_wp2_with fail
   (try simp only[Exit.inBlock,Exit.then])
   refine bodyPost_ret (v:= .tuple #[.agg #[.int .u64 (0),.int .i64 (0),.int .i64 (0)],.bool false,.int .i64 (0)]) (by rw[q0X rfl];go_simp) rfl ?_;rw[Y.o];refine⟨rfl,?_⟩
   first|exact b.o _ _ _ ((DkS.refl HD.o.d).ext Q.o) (OffS.refl _ _)|(refine b.o _ _ _ ((DkS.refl HD.o.d).ext Q.o) (OffS.trans (OffS.trans (OffS.set _ ?_ _ _) (OffS.set _ ?_ _ _)) (OffS.set _ ?_ _ _))<;>rfl)
  | true =>
   have a0:Hd (q3k σ n L may x u=if c≠0\/i0=0 then(en0,false,c,σ1) else if y.2.1≠0\/y.1.1≠x then(en0,false,y.2) else(y.1,true,0,y.2.2)):=η (by rw[C.o,κ (by simp[E])]);clear C E X;go_enter Tryz.func167,Tryz.ntmps167;go_wp2_with fail;refine HN.o.mono ?_;rintro e w1 ⟨rfl,rfl⟩;go_wp2_with fail;refine b0.o.mono ?_;rintro e w2 ⟨rfl,B⟩;have Q:=η B;clear B;go_wp2_with fail;refine(HF.o _ Q.o).mono ?_;rintro e w3 ⟨rfl,m0⟩;have R:=η (d0.o _ _ _ Q.o m0);clear m0 HF b0 HN;by_cases G:c≠0\/i0=0
   ·have Y:Hd (q3k σ n L may x u=(en0,false,c,σ1)):=η (by rw[a0.o,ξ G])
    have J:=h0.o _ _ R.o;have r0:(w3).cell? ⟨w.heap.size,0,none⟩=some (Value.int .u64 0):=(J).cell 0;have r1:(w3).cell? ⟨w.heap.size,1,none⟩=some (Value.int .i64 0):=(J).cell 1;have r2:(w3).cell? ⟨w.heap.size,2,none⟩=some (Value.int .i64 0):=(J).cell 2;have z0:=(J).free 0;have z1:=(J).free 1;have z2:=(J).free 2;have B:(c !=0)=true\/((c !=0)=false/\((i0:Int)==0)=true):=by
     by_cases e:c=0
     ·exact .inr ⟨by simpa using e,by rcases G with h|h;exact absurd e h;rw[h];rfl⟩
     ·exact .inl (by simpa using e)
    clear a0 G J;rcases B with B|⟨B,s0⟩
    all_goals
     go_wp2_with fail
     (try simp only[Exit.inBlock,Exit.then])
     refine bodyPost_ret (v:= .tuple #[.agg #[.int .u64 (0),.int .i64 (0),.int .i64 (0)],.bool false,.int .i64 (c)]) (by rw[q0X rfl];go_simp) rfl ?_;rw[Y.o];refine⟨rfl,?_⟩
     first|exact b.o _ _ _ R.o (OffS.refl _ _)|(refine b.o _ _ _ R.o (OffS.trans (OffS.trans (OffS.set _ ?_ _ _) (OffS.set _ ?_ _ _)) (OffS.set _ ?_ _ _))<;>rfl)
   ·have t0:c=0:=by by_cases e:c=0;exact e;exact absurd (.inl e) G
    have o0:i0≠0:=fun e=>G (.inr e)
    subst t0;have b2:((i0:Int)==0)=false:=by simp;exact o0
    obtain⟨j,hj⟩: ∃j,i0-1=j:=⟨_,rfl⟩
    have q2:IntKind.i64.wrap ((i0:Int)-1)=(j:Int):=by rw[ν];omega
    have U:Hd (q3k σ n L may x u=if y.2.1≠0\/y.1.1≠x then(en0,false,y.2) else(y.1,true,0,y.2.2)):=η (by rw[a0.o,κ G]);have Z:=η (z3B (g0.o _ _ R.o) j (by omega));have p0:q1Q σ1 n j=y:=by rw[<-hj];exact HY.o
    rw[p0] at Z;obtain⟨⟨O,y2,y3⟩,cy,f0⟩:=y;have Z:Hd (Calls Tryz.prog 227 #[.pointer (some ⟨t,0,none⟩),.int .i64 (j:Int)] w3 fun e w'=>e= .returned (.tuple #[.agg #[.int .u64 O,.int .i64 y2,.int .i64 y3],.int .i64 cy])/\DkS w3 g (Gr F (w.alloc (.cells #[.int .u64 0,.int .i64 0,.int .i64 0] 165)) w3) f0 w'):=Z;simp only at U;clear a0 G o0 hj p0 HY;go_wp2_with fail;refine Z.o.mono ?_;rintro e w4 ⟨rfl,n0⟩;have q0:=η (R.o.trans n0);have S:=η (q0.o.ext (q0C w4 (.cells #[.int .u64 O,.int .i64 y2,.int .i64 y3] 165)));have J:=h0.o _ _ S.o;have r0:(w4.alloc (.cells #[.int .u64 O,.int .i64 y2,.int .i64 y3] 165)).cell? ⟨w.heap.size,0,none⟩=some (Value.int .u64 0):=(J).cell 0;have r1:(w4.alloc (.cells #[.int .u64 O,.int .i64 y2,.int .i64 y3] 165)).cell? ⟨w.heap.size,1,none⟩=some (Value.int .i64 0):=(J).cell 1;have r2:(w4.alloc (.cells #[.int .u64 O,.int .i64 y2,.int .i64 y3] 165)).cell? ⟨w.heap.size,2,none⟩=some (Value.int .i64 0):=(J).cell 2;have z0:=(J).free 0;have z1:=(J).free 1;have z2:=(J).free 2;clear n0 J;by_cases I:cy≠0\/O≠x
    ·have Y:Hd (q3k σ n L may x u=(en0,false,cy,f0)):=η (by rw[U.o,ξ I])
     have B:(cy !=0)=true\/((cy !=0)=false/\(O !=x)=true):=by
      by_cases e:cy=0
      ·exact .inr ⟨by simpa using e,by rcases I with h|h;exact absurd e h;simpa using h⟩
      ·exact .inl (by simpa using e)
     clear U I;rcases B with B|⟨B,s0⟩
     all_goals
      go_wp2_with fail
      (try simp only[Exit.inBlock,Exit.then])
      refine bodyPost_ret (v:= .tuple #[.agg #[.int .u64 (0),.int .i64 (0),.int .i64 (0)],.bool false,.int .i64 (cy)]) (by rw[q0X rfl];go_simp) rfl ?_;rw[Y.o];refine⟨rfl,?_⟩
      first|exact b.o _ _ _ S.o (OffS.refl _ _)|(refine b.o _ _ _ S.o (OffS.trans (OffS.trans (OffS.set _ ?_ _ _) (OffS.set _ ?_ _ _)) (OffS.set _ ?_ _ _))<;>rfl)
    ·have e1:cy=0:=by by_cases e:cy=0;exact e;exact absurd (.inl e) I
     have e2:O=x:=by by_cases e:O=x;exact e;exact absurd (.inr e) I
     have Y:Hd (q3k σ n L may x u=((O,y2,y3),true,0,f0)):=η (by rw[U.o,κ I]);subst e1;have b3:(O !=x)=false:=by simpa using e2
     clear U I e2;go_wp2_with fail
     (try simp only[Exit.inBlock,Exit.then])
     refine bodyPost_ret (v:= .tuple #[.agg #[.int .u64 (O),.int .i64 (y2),.int .i64 (y3)],.bool true,.int .i64 (0)]) (by rw[q0X rfl];go_simp) rfl ?_;rw[Y.o];refine⟨rfl,?_⟩
     first|exact b.o _ _ _ S.o (OffS.refl _ _)|(refine b.o _ _ _ S.o (OffS.trans (OffS.trans (OffS.set _ ?_ _ _) (OffS.set _ ?_ _ _)) (OffS.set _ ?_ _ _))<;>rfl)
end
section
variable {w w' w1 w2:World}{t g:Nat}{n:Int}{L:List En}{may:Int->Bool}{T F V:Nat->Prop}{σ σ':DM}
end
def tellN :Nat->DM->DM
 |0,σ=>σ
 |c+1,σ=>tellN c (q2h σ)
theorem q1o(c:Nat)(σ:DM):tellN (c+1) σ=tellN c (q2h σ):=rfl
theorem q3q(a b:Nat)(σ:DM):tellN a (tellN b σ)=tellN (b+a) σ:=by
 induction b generalizing σ with
 |zero=>simp[tellN]
 |succ b ih=>rw[q1o,ih,show b+1+a=(b+a)+1 by omega,q1o]
theorem z2Q(a:Nat)(σ:DM):q2h (tellN a σ)=tellN (a+1) σ:=by
 have:=q3q 1 a σ
 simpa [tellN] using this
theorem y2Y(c:Nat): ∀σ:DM,(tellN c σ).L=σ.L:=by induction c with|zero=>intro σ;rfl|succ c ih=>intro σ;rw[q1o,ih];rfl
theorem z6J(c:Nat): ∀σ:DM,(tellN c σ).down=σ.down:=by induction c with|zero=>intro σ;rfl|succ c ih=>intro σ;rw[q1o,ih];rfl
structure Wl(σ:DM)(n:Int)(L:List En):Prop where
 up:σ.down=false
 file: ∃f,q0F FM.nm (q0B 116 n) σ.L=some f/\f.da=q3V L
theorem Wl.tell{σ:DM}{n:Int}{L:List En}(h:Wl σ n L):Wl (q2h σ) n L:=⟨h.up,h.file⟩
theorem Wl.tellN{σ:DM}{n:Int}{L:List En}(h:Wl σ n L)(c:Nat):Wl (tellN c σ) n L:=⟨by rw[z6J];exact h.up,by rw[y2Y];exact h.file⟩
theorem q8K{σ:DM}{n:Int}{L:List En}(h:Wl σ n L)(q: ∀e∈L,q3Z e=true)(m:i<L.length):q1Q σ n i=(L[i],0,q2h σ):=by
 obtain⟨f,j,d⟩:=h.file;have o:=q3o L;have r:q1k σ (q0B 116 n) (8+24*(i:Int)) 24=(((q3V L).drop (8+24*i)).take 24,0,q2h σ):=by
  unfold q1k;rw[κ (by rw[h.up];decide),j];simp only;rw[d,ξ (by rw[o];omega)];have b:(8+24*(i:Int)).toNat=8+24*i:=by omega
  rw[b]
  rfl
 unfold q1Q;rw[r];simp only;rw[κ (fun h=>h rfl),y1f q m]
theorem q7f{n:Int}{L:List En}(m:q1G L)(j: ∀e∈L,q3Z e=true)(x:En): ∀(c f:Nat) (σ:DM) (lo hi:Nat),Wl σ n L->lo<=lbE L x->lbE L x<=hi->hi<=L.length->hi-lo<2^c->c<=f->
  ∃k,k<=c/\q7V n x f σ lo hi=(lbE L x,0,tellN k σ)
 | 0,f,σ,lo,hi,hw,h1,h2,h3,h4,h5=>by
  have:lo=hi:=by simp at h4;omega
  subst this;have e:lo=lbE L x:=by omega
  refine⟨0,ι _,?_⟩
  cases f with
  |zero=>rw[q7V,e];rfl
  |succ f=>rw[q7V,κ (by omega),e];rfl
 | c + 1,f,σ,lo,hi,hw,h1,h2,h3,h4,h5=>by
  obtain⟨f,rfl⟩: ∃q,f=q+1:=⟨f-1,by omega⟩
  rw[Nat.pow_succ] at h4;unfold q7V;by_cases b:lo<hi
  ·rw [ξ b]
   have hm:(lo+hi)/2<L.length:=by omega
   rw[q8K hw j hm];simp only;rw[κ (fun h=>h rfl)];have d:=q4L x m (i:=(lo+hi)/2) (γ hm);rw[d];by_cases o:(lo+hi)/2<lbE L x
   ·rw[ζ o,ξ rfl]
    obtain⟨k,r,e⟩:=q7f m j x c f (q2h σ) ((lo+hi)/2+1) hi hw.tell (by omega) h2 h3 (by omega) (by omega);exact⟨k+1,by omega,by rw[e,q1o]⟩
   ·rw[ε o,κ (by decide)]
    obtain⟨k,r,e⟩:=q7f m j x c f (q2h σ) lo ((lo+hi)/2) hw.tell h1 (by omega) (by omega) (by omega) (by omega);exact⟨k+1,by omega,by rw[e,q1o]⟩
  ·rw[κ b]
   exact⟨0,by omega,by rw[show lo=lbE L x by omega];rfl⟩
theorem z4Q{σ:DM}{n:Int}{L:List En}(h:Wl σ n L)(b:q1G L)(d: ∀e∈L,q3Z e=true)(x:En): ∃k,k<=3/\q1y σ n L x=(lbE L x,0,tellN k σ):=by
 obtain⟨h1,h2,h3,h4⟩:=q8Z x b;unfold q1y;generalize q1C L.length x 0 (q2z L)=z at*;by_cases m:L.length+1<3
 ·obtain⟨k,j,e⟩:=q7f b d x (L.length+1) (L.length+1) σ z.1 z.2 h h1 h2 h4 (by
   have:L.length+1<2^(L.length+1):=Nat.lt_two_pow_self
   omega) (ι _)
  exact⟨k,by omega,e⟩
 ·exact q7f b d x 3 (L.length+1) σ z.1 z.2 h h1 h2 h4 (by omega) (by omega)
theorem z4z{n:Int}{L:List En}(m: ∀e∈L,q3Z e=true)(h b:Int): ∀(f:Nat) (σ:DM) (i:Nat) (acc:List En),Wl σ n L->L.length-i<f->
  ∃k,k<=((L.drop i).takeWhile (inE h b)).length+1/\z0q n L h b f σ i acc=(acc++(L.drop i).takeWhile (inE h b),0,tellN k σ)
 |0,σ,i,acc,hw,hf=>by omega
 | f + 1,σ,i,acc,hw,hf=>by
  unfold z0q;by_cases j:i<L.length
  ·rw [ξ j,q8K hw m j]
   simp only;rw[κ (fun h=>h rfl),List.drop_eq_getElem_cons j,List.takeWhile_cons];by_cases d:inE h b L[i]=true
   ·rw[ξ d,ξ d]
    obtain⟨k,o,e⟩:=z4z m h b f (q2h σ) (i+1) (acc++[L[i]]) hw.tell (by omega);exact⟨k+1,by rw[χ];omega,by rw[e,q1o,List.append_assoc];rfl⟩
   ·rw[κ d,κ d]
    exact⟨1,by simp,by rw[List.append_nil];rfl⟩
  ·rw[κ j,List.drop_of_length_le (by omega)]
   exact⟨0,by simp,by rw[List.takeWhile_nil,List.append_nil];rfl⟩
theorem z7y{L:List En}{may:Int->Bool}(d: ∀x∈L,may x.1=true){h:Int}(hm:q4t L may h=false): ∀x∈L,x.1≠h:=fun x b e=>by
 unfold q4t at hm;have h1:=d x b;rw[e] at h1;rw[h1,Bool.and_true] at hm;have:0<L.length:=List.length_pos_of_mem b;rw[ζ this] at hm
 cases hm
theorem z8P{σ:DM}{n:Int}{L:List En}{may:Int->Bool}(h:Wl σ n L)(m:q1G L)(d: ∀e∈L,q3Z e=true)(q: ∀x∈L,may x.1=true)(x a b:Int):
  ∃k,k<=(q1A L x (max a 0) (min b 1073741824)).length+4/\(q4t L may x=false->k=0)/\q3P σ n L may x a b=(q1A L x (max a 0) (min b 1073741824),0,tellN k σ):=by
 unfold q3P;by_cases hc:min b 1073741824<max a 0\/q4t L may x=false
 ·rw [ξ hc]
  have e:q1A L x (max a 0) (min b 1073741824)=[]:=by
   unfold q1A;refine List.filter_eq_nil_iff.2 fun y r=>?_
   simp only[Ξ,Φ];rintro⟨⟨h1,h2⟩,h3⟩;rcases hc with hc|hc
   ·omega
   ·exact z7y q hc y r h1
  rw[e];exact⟨0,by simp,fun _=>rfl,rfl⟩
 ·rw[κ hc]
  obtain⟨k,B,e⟩:=z4Q h m d (x,max a 0,0);rw[e];simp only;rw[κ (fun h=>h rfl)];obtain⟨u,j,o⟩:=z4z d x (min b 1073741824) (L.length+1) (tellN k σ) (lbE L (x,max a 0,0)) [] (h.tellN k) (by omega);rw[o,<-q4N m d,List.nil_append,q3q];rw[<-q4N m d] at j;exact⟨k+u,by omega,fun hm=>absurd (.inr hm) hc,rfl⟩
theorem y0G{σ:DM}{n:Int}{L:List En}{may:Int->Bool}(h:Wl σ n L)(r:q1G L)(o: ∀e∈L,q3Z e=true)(C: ∀x∈L,may x.1=true)(x u:Int):
  ∃ k,k<=5/\(q4t L may x=false->k=0)/\q3k σ n L may x u=match (if u<0 then none else q3S L x (min u 1073741824)) with
   |none=>(en0,false,0,tellN k σ)
   |some y=>(y,true,0,tellN k σ):=by
 unfold q3k;by_cases hc:min u 1073741824<0\/q4t L may x=false
 ·rw [ξ hc]
  refine⟨0,by omega,fun _=>rfl,?_⟩;by_cases j:u<0
  ·rw[ξ j];rfl
  ·rw [κ j]
   have hm:q4t L may x=false:=by rcases hc with hc|hc;omega;exact hc
   have e:q3S L x (min u 1073741824)=none:=by
    unfold q3S;rw[List.filter_eq_nil_iff.2 fun y E=>?_]
    ·rfl
    ·unfold inE
     rw[ε (z7y C hm y E)];simp
   rw[e];rfl
 ·rw [κ hc]
  have j:¬u<0:=fun h=>hc (.inl (by omega))
  rw[κ j];obtain⟨k,G,e⟩:=z4Q h r o (x,min u 1073741824+1,0);have b:=z7m (l:=L) (h:=x) (t:=min u 1073741824) r o;have B:=q4z L (x,min u 1073741824+1,0);rw[e];simp only;generalize lbE L (x,min u 1073741824+1,0)=lb at*;by_cases d:lb=0
  ·rw[ξ d] at b
   rw[ξ (.inr d),b];exact⟨k,by omega,fun hm=>absurd (.inr hm) hc,rfl⟩
  ·rw [κ d] at b
   rw[κ (by simp[d])];have q:lb-1<L.length:=by omega
   rw[γ q] at b;rw[q8K (h.tellN k) o q];simp only at b⊢;by_cases m:L[lb-1].1=x
   ·rw[ξ m] at b
    rw[κ (by simp[m]),b];exact⟨k+1,by omega,fun hm=>absurd (.inr hm) hc,by simp only;rw[z2Q]⟩
   ·rw[κ m] at b
    rw[ξ (.inr m),b];exact⟨k+1,by omega,fun hm=>absurd (.inr hm) hc,by simp only;rw[z2Q]⟩
theorem z2Z{σ:DM}{nm:List UInt8}(b:σ.down=false)(d:q0F FM.nm nm σ.L=some f):q0r σ nm=(f.da,0,q2h σ):=by
 have m:q1g σ nm=((f.da.length:Int),0):=by unfold q1g;rw[κ (by rw[b];decide),d]
 unfold q0r;rw[m];simp only;rw[κ (fun h=>h rfl)];unfold q1k;rw[κ (by rw[b];decide),d];simp only;rw[ξ (by omega)];have j:((f.da.length:Int)).toNat=f.da.length:=by omega
 rw[j];simp
theorem z8y{σ:DM}{nm:List UInt8}(b:σ.down=false)(d:q0F FM.nm nm σ.L=none):q0r σ nm=([],4,σ):=by
 have j:q1g σ nm=(0,4):=by unfold q1g;rw[κ (by rw[b];decide),d]
 unfold q0r;rw[j];simp only;rw[ξ (by decide)]
theorem z8z{σ:DM}(nm:List UInt8)(b:σ.down=false): ∃s c k,q0r σ nm=(s,c,tellN k σ)/\c≠61/\k<=1:=by
 cases hf:q0F FM.nm nm σ.L with
 |none=>exact⟨_,_,0,z8y b hf,by decide,by omega⟩
 |some f=>exact⟨_,_,1,z2Z b hf,by decide,by omega⟩
theorem z4f{σ:DM}{n:Int}{L:List En}(h:Wl σ n L)(o:q1G L)(m: ∀e∈L,q3Z e=true)(j:L.length<4294967296): ∃k,k<=2/\q4g σ n=(some L,0,tellN k σ):=by
 obtain⟨f,d,b⟩:=h.file;unfold q4g;rw[z2Z h.up d];simp only;rw[κ (fun h=>h rfl),b,z9y o m j];obtain⟨s,c,k,e,hc,q⟩:=z8z (σ:=q2h σ) (q0B 98 n) h.up;rw[e];simp only;rw[κ hc];exact⟨k+1,by omega,by rw[q1o]⟩
theorem q7p{nm t:List UInt8}: ∀{l:List (List UInt8×List UInt8)},(∀y∈l,y.1≠nm)->q1T Prod.fst nm (fun x=>(x.1,x.2++t)) (q1K Prod.fst (nm,[]) l)=q1K Prod.fst (nm,t) l
 |[],_=>by simp[q1K,q1T]
 | y ::r,h=>by
  have b:(y.1==nm)=false:=by simpa using h y (by simp)
  unfold q1K
  split
  ·rw[q1T,List.map_cons,ξ (by simp)]
   have:=q2r (k:=Prod.fst) (f:=fun x:List UInt8×List UInt8=>(x.1,x.2++t)) (nm:=nm) (l:=y::r) h;rw[q1T] at this;rw[this];rfl
  ·rw[q1T,List.map_cons,κ (by rw[b];decide),<-q1T,q7p fun z d=>h z (by simp[d])]
theorem Pl.lay{σ:DM}{s:Int}{nm t:List UInt8}(h:Pl σ c s l)(r:q0F Prod.fst nm l=none)(E:q1t nm=true)(hm:l.length<400)(G:(t.length:Int)<=c-(q1R l:Int)): ∃σ',q2M σ nm t=(0,σ')/\Pl σ' c s (q1K Prod.fst (nm,t) l):=by
 obtain⟨σ1,y,J⟩:=h.create r E hm;have j:=q0U r;have b: ∃x,q0F Prod.fst nm (q1K Prod.fst (nm,[]) l)=some x:=by
  cases hh:q0F Prod.fst nm (q1K Prod.fst (nm,[]) l) with
  |some x=>exact⟨x,rfl⟩
  |none=>exact absurd rfl (q0U hh (nm,[]) (mem_insN.2 (.inl rfl)))
 obtain⟨O,m⟩:=b;have I:q1R (q1K Prod.fst (nm,([]:List UInt8)) l)=q1R l:=by
  unfold q1R q5Q;rw[((q3j (k:=Prod.fst) (nm,([]:List UInt8)) l).map _).sum_nat];simp
 obtain⟨N,B,u⟩:=J.append (t:=t) m (by rw[I];exact G);rw[q7p j] at u;have d: ∃x,q0F Prod.fst nm (q1K Prod.fst (nm,t) l)=some x:=by
  cases hh:q0F Prod.fst nm (q1K Prod.fst (nm,t) l) with
  |some x=>exact⟨x,rfl⟩
  |none=>exact absurd rfl (q0U hh (nm,t) (mem_insN.2 (.inl rfl)))
 obtain⟨Q,o⟩:=d;obtain⟨q,C,M⟩:=u.sync o;refine⟨q,?_,M⟩;unfold q2M;rw[y];simp only;rw[κ (fun h=>h rfl),B];simp only;rw[κ (fun h=>h rfl),C]
theorem q5o(n m:Int)(b:0<=n/\n<=999999)(hm:0<=m/\m<=999999):q0B 116 n≠q0B 98 m:=by
 rw[q0R b,q0R hm];intro h
 cases (List.cons.inj h).1
theorem z4e(c:UInt8){n:Int}(b:0<=n/\n<=999999):q1t (q0B c n)=true:=by rw[q0R b];simp[q1t,q0b]
theorem q3h{b:Type}{k:b->List UInt8}{x:b}: ∀{l:List b},(∀y∈l,k y≠k x)->q0F k (k x) (q1K k x l)=some x
 |[],_=>by simp[q1K,q0F]
 | y ::r,h=>by
  unfold q1K
  split
  ·simp[q0F]
  ·have d:(k y==k x)=false:=by simpa using h y (by simp)
   have:=q3h (k:=k) (x:=x) (l:=r) fun z j=>h z (by simp[j])
   unfold q0F at this⊢;rw[List.find?_cons,d,this]
theorem q3i{d:Type}{k:d->List UInt8}{x:d}{nm:List UInt8}(b:k x≠nm): ∀{l:List d},q0F k nm (q1K k x l)=q0F k nm l
 | []=>by
  have:(k x==nm)=false:=by simpa using b
  simp[q1K,q0F,this]
 | y ::r=>by
  have j:(k x==nm)=false:=by simpa using b
  unfold q1K
  split
  ·simp[q0F,j]
  ·have:=q3i (k:=k) (x:=x) (nm:=nm) b (l:=r)
   unfold q0F at this⊢;rw[List.find?_cons,List.find?_cons,this]
theorem q4R(x:List UInt8×List UInt8)(l:List (List UInt8×List UInt8)):q1R (q1K Prod.fst x l)=q1R l+x.2.length:=by
 unfold q1R q5Q;rw[((q3j (k:=Prod.fst) x l).map _).sum_nat];simp;omega
theorem Pl.write{σ:DM}{s:Int}(h:Pl σ c s l){n:Int}(b:0<=n/\n<=999999){L:List En}(o:q2f L=true){f:List UInt8}
  (h1:q0F Prod.fst (q0B 116 n) l=none)(h2:q0F Prod.fst (q0B 98 n) l=none)(hm:l.length<398)(u:6000<=c-(q1R l:Int)-((q3V L).length:Int)-(f.length:Int)):
  ∃σ',q0i σ n L f=(0,σ')/\Pl σ' c s (q1K Prod.fst (q0B 116 n,q3V L) (q1K Prod.fst (q0B 98 n,f) l)):=by
 obtain⟨σ1,j,q⟩:=h.lay (t:=f) h2 (z4e 98 b) (by omega) (by omega);obtain⟨d,m,r⟩:=q.lay (t:=q3V L) (nm:=q0B 116 n) (by rw[q3i (by exact(q5o n n b b).symm)];exact h1) (z4e 116 b) (by rw[q2n];omega) (by rw[q4R];simp only;omega);refine⟨d,?_,r⟩;unfold q0i;rw[κ (by rw[o];simp;omega),κ (by rw[h.up];decide),h.free,κ (by omega),j];simp only;rw[κ (fun h=>h rfl),m]
theorem Pl.wl{σ:DM}{s:Int}{n:Int}{L:List En}{x:List UInt8}(h:Pl σ c s l)(b:q0F Prod.fst (q0B 116 n) l=some (x,q3V L)):Wl σ n L:=by
 obtain⟨f,h1,h2⟩:=h.find_some b;refine⟨h.up,f,h1,?_⟩;have:=congrArg Prod.snd h2;exact this
end
end Go.Proofs.YtfiibpgoplcgkaaGreatDoor
