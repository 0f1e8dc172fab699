/- Walks. -/
import Derived.Test.YtjlcdfpbllobaaaGreatDoorG20CL
import Derived.Test.YtjlcdfpbllobaaaGreatDoorG22CL
import Derived.Test.YtjlcdfpbllobaaaGreatDoorG3CL
import Derived.Test.YtjlcdfpbllobaaaGreatDoorG18CL
set_option linter.unusedVariables false
set_option linter.unusedSimpArgs false
set_option maxRecDepth 100000
set_option maxHeartbeats 6400000
namespace Go.Proofs.YtjlcdfpbllobaaaGreatDoor
variable {f:FM}{i:Nat}{W W':World}{c:Int}{l:List (List UInt8×List UInt8)}
section
open Go.RowKit
def q3x(σ:DM)(nm s:List UInt8):Int×DM:=
 if (q0y σ nm).1≠0 then q0y σ nm
 else if (q1L (q0y σ nm).2 nm s).1≠0 then q1L (q0y σ nm).2 nm s
 else q4k (q1L (q0y σ nm).2 nm s).2 nm
def q0o(σ:DM)(n:Int)(L:List En)(f:List UInt8):Int×DM:=
 if ¬(0<=n/\n<=999999)\/q2k L=false then(2,σ)
 else if σ.down then(61,σ)
 else if q4c σ-((q2b L).length:Int)-(f.length:Int)<6000 then(60,σ)
 else if (q3x σ (q0C 98 n) f).1≠0 then q3x σ (q0C 98 n) f
 else q3x (q3x σ (q0C 98 n) f).2 (q0C 116 n) (q2b L)
def q9L(c:Int):Prop:=c=0\/c=4\/c=2
instance (c :Int):Decidable (q9L c):=by unfold q9L;infer_instance
def q2j(σ:DM)(n:Int):Int×DM:=
 if q9L (q0V σ (q0C 116 n)).1 then
  if q9L (q0V (q0V σ (q0C 116 n)).2 (q0C 98 n)).1 then(0,(q0V (q0V σ (q0C 116 n)).2 (q0C 98 n)).2) else q0V (q0V σ (q0C 116 n)).2 (q0C 98 n)
 else q0V σ (q0C 116 n)
def q0a(σ:DM)(nm:List UInt8):List UInt8×Int×DM:=if (q1l σ nm).2≠0 then([],(q1l σ nm).2,σ) else q1w σ nm 0 (q1l σ nm).1
def q1y(c:Int):Int:=if c=1\/c=61 then c else 90
theorem z1w{L:List FM}(h:f∈L):f.da.length<=q0R L:=by
 induction L with
 |nil=>cases h
 | cons a r ih=>
  unfold q0R q5z at*;rw[List.map_cons,List.sum_cons];rcases List.mem_cons.1 h with rfl|h
  ·omega
  ·have:=ih h;omega
theorem z4Y{σ:DM}(h:okD σ)(nm:List UInt8):0<=(q1l σ nm).1/\(q1l σ nm).1<=1048576:=by
 have d:=h.used;have j:=h.cap1;unfold q1l
 split
 ·exact⟨Int.le_refl _,by show(0:Int)<=_;decide⟩
 ·split
  ·exact⟨Int.le_refl _,by show(0:Int)<=_;decide⟩
  ·rename_i f b
   have:=z1w (q0L b).1;simp only;omega
section
variable {w :World}{g:Nat}{F:Nat->Prop}{σ:DM}
theorem y3f(h:Dk w g F σ):Calls Tryz.prog 248 #[.pointer (some ⟨g,0,none⟩)] w fun e w'=>e= .returned (.int .i64 (upM σ))/\w=w':=by
 have d:=η (q7o h [] (by decide));have hc: ∃z c,q1l σ []=(z,c)/\((c=61/\upM σ=61)\/(c=4/\upM σ=0)\/(c=0/\upM σ=0)):=by
  unfold q1l upM
  split
  ·exact⟨_,_,rfl,.inl ⟨rfl,rfl⟩⟩
  ·split
   ·exact⟨_,_,rfl,.inr (.inl ⟨rfl,rfl⟩)⟩
   ·exact⟨_,_,rfl,.inr (.inr ⟨rfl,rfl⟩)⟩
 obtain⟨z,c,j,hc⟩:=hc;rw[j] at d;clear h j;rcases hc with⟨rfl,b⟩|⟨rfl,b⟩|⟨rfl,b⟩<;>rw[b]<;>clear b
 all_goals
  go_enter Tryz.func248,Tryz.ntmps248;go_wp2_with fail;refine d.o.mono ?_;rintro e w' ⟨rfl,rfl⟩;go_wp2_with fail;go_ret;exact⟨rfl,rfl⟩
theorem y4g(h:Dk w g F σ)(nm s:List UInt8)(O:nm.length<=9223372036854775807)(hs:s.length<=9223372036854775807):
  Calls Tryz.prog 250 #[.pointer (some ⟨g,0,none⟩),.string ⟨nm.toArray⟩,.string ⟨s.toArray⟩] w fun e w'=>e= .returned (.int .i64 (q3x σ nm s).1)/\DkS w g F (q3x σ nm s).2 w':=by
 have C:=η (z1A h nm O);have B:=η (fun w' (N:DkS w g F (q0y σ nm).2 w')=>q7z N.dk nm s O hs);have u:=η (fun w1 w2 (N:DkS w1 g (Gr F w w1) (q1L (q0y σ nm).2 nm s).2 w2)=>z6F N.dk nm O);have q:Hd (q3x σ nm s=if (q0y σ nm).1≠0 then q0y σ nm else if (q1L (q0y σ nm).2 nm s).1≠0 then q1L (q0y σ nm).2 nm s else q4k (q1L (q0y σ nm).2 nm s).2 nm):=η rfl;clear h;obtain⟨Y,S⟩: ∃r,q0y σ nm=r:=⟨_,rfl⟩
 rw[S] at C B u q;obtain⟨Z,U⟩: ∃r,q1L Y.2 nm s=r:=⟨_,rfl⟩
 rw[U] at B u q;obtain⟨r3,X⟩: ∃r,q4k Z.2 nm=r:=⟨_,rfl⟩
 rw[X] at u q;obtain⟨J,σ1⟩:=Y;obtain⟨M,Q⟩:=Z;obtain⟨c3,R⟩:=r3;clear S U X;by_cases E:J=0
 ·subst E
  by_cases G:M=0
  ·subst G
   have x:Hd (q3x σ nm s=(c3,R)):=η (by rw[q.o,κ (fun h=>h rfl),κ (fun h=>h rfl)]);rw[x.o];clear q;go_enter Tryz.func250,Tryz.ntmps250;go_wp2_with fail;refine C.o.mono ?_;rintro e w1 ⟨rfl,b⟩;have d:=η b;clear b;go_wp2_with fail;refine(B.o _ d.o).mono ?_;rintro e w2 ⟨rfl,j⟩;have m:=η j;clear j;go_wp2_with fail;refine(u.o _ _ m.o).mono ?_;rintro e w3 ⟨rfl,y⟩;have I:=η y;clear y;go_wp2_with fail;go_ret;exact⟨rfl,d.o.trans (m.o.trans I.o)⟩
  ·have x:Hd (q3x σ nm s=(M,Q)):=η (by rw[q.o,κ (fun h=>h rfl),ξ G])
   rw[x.o];have hb:(M !=0)=true:=by simpa using G
   clear q G;go_enter Tryz.func250,Tryz.ntmps250;go_wp2_with fail;refine C.o.mono ?_;rintro e w1 ⟨rfl,b⟩;have d:=η b;clear b;go_wp2_with fail;refine(B.o _ d.o).mono ?_;rintro e w2 ⟨rfl,j⟩;have m:=η j;clear j;go_wp2_with fail;go_ret;exact⟨rfl,d.o.trans m.o⟩
 ·have x:Hd (q3x σ nm s=(J,σ1)):=η (by rw[q.o,ξ E])
  rw[x.o];have hb:(J !=0)=true:=by simpa using E
  clear q E;go_enter Tryz.func250,Tryz.ntmps250;go_wp2_with fail;refine C.o.mono ?_;rintro e w1 ⟨rfl,b⟩;have d:=η b;clear b;go_wp2_with fail;go_ret;exact⟨rfl,d.o⟩
theorem z1r(h:Dk w g F σ)(nm:List UInt8)(I:nm.length<=9223372036854775807):
  Calls Tryz.prog 214 #[.pointer (some ⟨g,0,none⟩),.string ⟨nm.toArray⟩] w fun e w'=>e= .returned (.tuple #[.string ⟨(q0a σ nm).1.toArray⟩,.int .i64 (q0a σ nm).2.1])/\DkS w g F (q0a σ nm).2.2 w':=by
 have B:=η (q7o h nm I);have q: -9223372036854775808<=(q1l σ nm).1/\(q1l σ nm).1<=9223372036854775807:=by have:=z4Y h.1 nm;omega
 have j:=η (z5t h nm 0 (q1l σ nm).1 I (by decide) (by decide) q.1 q.2);have b:Hd (q0a σ nm=if (q1l σ nm).2≠0 then([],(q1l σ nm).2,σ) else q1w σ nm 0 (q1l σ nm).1):=η rfl;have u:=η (DkS.refl h);clear h q;obtain⟨M,E⟩: ∃r,q1l σ nm=r:=⟨_,rfl⟩
 rw[E] at B j b;obtain⟨z,c⟩:=M;obtain⟨N,G⟩: ∃r,q1w σ nm 0 z=r:=⟨_,rfl⟩
 simp only at j b;rw[G] at j b;obtain⟨t,J,C⟩:=N;clear E G;by_cases m:c=0
 ·subst m
  have y:Hd (q0a σ nm=(t,J,C)):=η (by rw[b.o,κ (fun h=>h rfl)]);rw[y.o];clear b;go_enter Tryz.func214,Tryz.ntmps214;go_wp2_with fail;refine B.o.mono ?_;rintro e w' ⟨rfl,rfl⟩;go_wp2_with fail;refine j.o.mono ?_;rintro e w1 ⟨rfl,d⟩;have x:=η d;clear d;go_wp2_with fail;go_ret2;exact⟨rfl,x.o⟩
 ·have y:Hd (q0a σ nm=([],c,σ)):=η (by rw[b.o,ξ m])
  rw[y.o];have q:(c !=0)=true:=by simpa using m
  clear b m;go_enter Tryz.func214,Tryz.ntmps214;go_wp2_with fail;refine B.o.mono ?_;rintro e w' ⟨rfl,rfl⟩;go_wp2_with fail;go_ret2;exact⟨rfl,u.o⟩
theorem z0x(c:Int)(w:World):Calls Tryz.prog 216 #[.int .i64 c] w fun e w'=>e= .returned (.int .i64 (q1y c))/\w=w':=by
 by_cases b:c=1
 ·subst b
  go_enter Tryz.func216,Tryz.ntmps216;go_wp2_with fail;go_ret;exact⟨rfl,rfl⟩
 ·by_cases d:c=61
  ·subst d
   go_enter Tryz.func216,Tryz.ntmps216;go_wp2_with fail;go_ret;exact⟨rfl,rfl⟩
  ·have j:Hd (q1y c=90):=η (by unfold q1y;rw[κ (by omega)])
   have b1:(c==1)=false:=by simpa using b
   have b2:(c==61)=false:=by simpa using d
   rw[j.o];clear b d;go_enter Tryz.func216,Tryz.ntmps216;go_wp2_with fail;go_ret;exact⟨rfl,rfl⟩
end
section
variable {w :World}{g:Nat}{F:Nat->Prop}{σ:DM}
def z4m(w:World)(g:Nat)(F:Nat->Prop)(σ:DM)(n:Int)(L:List En)(e:Ending)(w':World):Prop:=
 ∃f:List UInt8,128<=f.length/\f.length<=64*(L.length/20+2)/\e= .returned (.int .i64 (q0o σ n L f).1)/\DkS w g F (q0o σ n L f).2 w'
theorem DkS.from{w m w':World}{g:Nat}{F:Nat->Prop}{σ o:DM}(h:Dk w g F σ)(q:Ext w m)(k:DkS m g F o w'):DkS w g F o w':=
 ((DkS.refl h).ext q).trans ⟨k.dk.mono (fun i d=>d.elim (fun h=> .inl (.inl h)) .inr) (fun i d=>by
  have j: ∀i,Gr F m w' i->i<w'.heap.size:=by obtain⟨_,_,_,_,_,_,h⟩:=k.dk;exact h
  rcases d with(b|b)|b
  ·exact j i (.inl b)
  ·have:=k.off.size;omega
  ·exact b.2),k.off.mono fun i _ h=> .inl h⟩
theorem z2r(c:UInt8)(n:Int):(q0C c n==[])=!decide (0<=n/\n<=999999):=by
 by_cases h:0<=n/\n<=999999
 ·rw[q0X h,ζ h];rfl
 ·rw[q6t h,ε h];rfl
theorem q3L(c:UInt8)(n:Int):(q0C c n).length<=9223372036854775807:=by
 by_cases h:0<=n/\n<=999999
 ·rw[q0X h,χ,q0n];decide
 ·rw[q6t h];decide
theorem y1h(h:Dk w g F σ){ao:Option Addr}{k cap:Nat}{L:List En}(n:Int)(rate:Nat)(S:Ens w ao k cap L)(hk:k<=1000)(p0: ∀e∈L,q3Q e=true):
  Calls Tryz.prog 210 #[.pointer (some ⟨g,0,none⟩),.int .i64 n,.slice ao k cap,.float .f64 rate] w (z4m w g F σ n L):=by
 have HT:=η (fun W=>q9Y n W);have HB:=η (fun W=>z3n n W);have J:=η (fun W (k:Ext w W)=>y5a W (S.ext k) hk p0);have HD:=η h;have HO:=η (fun W (k:Ext w W)=>y3f (h.ext k));have HF:=η (fun W (k:Ext w W)=>y0t rate W (S.ext k) hk);have o0:=η (fun W (k:Ext w W)=>z8R (h.ext k));have r0:=η S.len;have u:0<=q4c σ/\q4c σ<=1048576:=by have h1:=h.1.used;have h2:=h.1.cap1;unfold q4c;omega
 have f0:=z2r 116 n;have g0:=z2r 98 n;have k0:=q3L 116 n;have l0:=q3L 98 n;have m0:=q3B L;have x:=S.len;have O:=k0;have B:=l0;by_cases d:¬(0<=n/\n<=999999)\/q2k L=false
 ·have U:Hd (∀f,q0o σ n L f=(2,σ)):=η fun f=>by unfold q0o;rw[ξ d]
  have HW:Hd (∀W,DkS w g F σ W->z4m w g F σ n L (.returned (.int .i64 2)) W):=η fun W C=>⟨List.replicate 128 0,by simp,by rw[List.length_replicate];omega,by rw[U.o],by rw[U.o];exact C⟩
  unfold z4c at J;by_cases N:0<=n/\n<=999999
  ·have Q:q2k L=false:=by rcases d with h|h;exact absurd N h;exact h
   rw[ζ N] at f0 g0;rw[Q] at J;clear Q N;generalize q0C 116 n=TN at*;generalize q0C 98 n=BN at*;clear d h S u x O B;go_enter Tryz.func210,Tryz.ntmps210;go_wp2_with fail;refine(HT.o _).mono ?_;rintro e w1 ⟨rfl,b⟩;have y:=η b;clear b;go_wp2_with fail;refine(HB.o _).mono ?_;rintro e w2 ⟨rfl,b⟩;have m:=η (y.o.trans b);clear b;go_wp2_with fail;refine(J.o _ m.o).mono ?_;rintro e w3 ⟨rfl,b⟩;have q:=η (m.o.trans b);clear b;go_wp2_with fail;go_ret;exact HW.o _ ((DkS.refl HD.o).ext q.o)
  ·rw [ε N] at f0 g0
   cases Q:q2k L
   all_goals
    rw[Q] at J;clear N Q;generalize q0C 116 n=TN at*;generalize q0C 98 n=BN at*;clear d h S u x O B;go_enter Tryz.func210,Tryz.ntmps210;go_wp2_with fail;refine(HT.o _).mono ?_;rintro e w1 ⟨rfl,b⟩;have y:=η b;clear b;go_wp2_with fail;refine(HB.o _).mono ?_;rintro e w2 ⟨rfl,b⟩;have m:=η (y.o.trans b);clear b;go_wp2_with fail;refine(J.o _ m.o).mono ?_;rintro e w3 ⟨rfl,b⟩;have q:=η (m.o.trans b);clear b;go_wp2_with fail;go_ret;exact HW.o _ ((DkS.refl HD.o).ext q.o)
 ·have N:0<=n/\n<=999999:=by by_cases h:0<=n/\n<=999999;exact h;exact absurd (.inl h) d
  have Q:q2k L=true:=by cases h:q2k L;exact absurd (.inr h) d;rfl
  rw[ζ N] at f0 g0;unfold z4c at J;rw[Q] at J
  cases hdn:σ.down with
  | true=>
   have G:upM σ=61:=by unfold upM;rw[ξ hdn]
   have U:Hd (∀f,q0o σ n L f=(61,σ)):=η fun f=>by unfold q0o;rw[κ d,ξ hdn]
   have HW:Hd (∀W,DkS w g F σ W->z4m w g F σ n L (.returned (.int .i64 61)) W):=η fun W C=>⟨List.replicate 128 0,by simp,by rw[List.length_replicate];omega,by rw[U.o],by rw[U.o];exact C⟩
   rw[G] at HO;generalize q0C 116 n=TN at*;generalize q0C 98 n=BN at*;generalize q2b L=TB at*;clear d h S u x O B N Q hdn G;go_enter Tryz.func210,Tryz.ntmps210;go_wp2_with fail;refine(HT.o _).mono ?_;rintro e w1 ⟨rfl,b⟩;have y:=η b;clear b;go_wp2_with fail;refine(HB.o _).mono ?_;rintro e w2 ⟨rfl,b⟩;have m:=η (y.o.trans b);clear b;go_wp2_with fail;refine(J.o _ m.o).mono ?_;rintro e w3 ⟨rfl,b⟩;have q:=η (m.o.trans b);clear b;go_wp2_with fail;refine(HO.o _ q.o).mono ?_;rintro e w4 ⟨rfl,rfl⟩;go_wp2_with fail;refine(HO.o _ q.o).mono ?_;rintro e w4 ⟨rfl,rfl⟩;go_wp2_with fail;go_ret;exact HW.o _ ((DkS.refl HD.o).ext q.o)
  | false=>
   have G:upM σ=0:=by unfold upM;rw[κ (by rw[hdn];decide)]
   have U:Hd (∀f,q0o σ n L f=if q4c σ-((q2b L).length:Int)-(f.length:Int)<6000 then(60,σ) else if (q3x σ (q0C 98 n) f).1≠0 then q3x σ (q0C 98 n) f else q3x (q3x σ (q0C 98 n) f).2 (q0C 116 n) (q2b L)):=η fun f=>by unfold q0o;rw[κ d,κ (by rw[hdn];decide)]
   rw[G] at HO;have HW:Hd (∀f,128<=f.length->f.length<=64*(k/20+2)-> ∀c σ',q0o σ n L f=(c,σ')-> ∀W,DkS w g F σ' W->z4m w g F σ n L (.returned (.int .i64 c)) W):=η fun f h1 h2 c σ' h3 W C=>⟨f,h1,by rw[x];exact h2,by rw[h3],by rw[h3];exact C⟩
   generalize q0C 116 n=TN at*;generalize q0C 98 n=BN at*;generalize q2b L=TB at*;clear d h S O B N Q hdn G;go_enter Tryz.func210,Tryz.ntmps210;go_wp2_with fail;refine(HT.o _).mono ?_;rintro e w1 ⟨rfl,b⟩;have y:=η b;clear b;go_wp2_with fail;refine(HB.o _).mono ?_;rintro e w2 ⟨rfl,b⟩;have m:=η (y.o.trans b);clear b;go_wp2_with fail;refine(J.o _ m.o).mono ?_;rintro e w3 ⟨rfl,b⟩;have q:=η (m.o.trans b);clear b;go_wp2_with fail;refine(HO.o _ q.o).mono ?_;rintro e w4 ⟨rfl,rfl⟩;go_wp2_with fail;refine(HF.o _ q.o).mono ?_;rintro e w4 ⟨f,rfl,d0,e0,b⟩;have h0:=η (q.o.trans b);clear b;go_wp2_with fail;refine(o0.o _ h0.o).mono ?_;rintro e w5 ⟨rfl,b⟩;have c0:=η (h0.o.trans b);clear b;have X:=η (U.o f);have b0:=η (HW.o f d0 e0);obtain⟨fr,M⟩: ∃fr,q4c σ=fr:=⟨_,rfl⟩
   rw[M] at X u;rw[M];have q1:IntKind.i64.wrap (fr-(TB.length:Int))=fr-(TB.length:Int):=by rw[ν];omega
   have q2:IntKind.i64.wrap (fr-(TB.length:Int)-(f.length:Int))=fr-(TB.length:Int)-(f.length:Int):=by rw[ν];omega
   by_cases j:fr-(TB.length:Int)-(f.length:Int)<6000
   ·have C:decide (fr-(TB.length:Int)-(f.length:Int)<6000)=true:=ζ j
    have R:Hd (q0o σ n L f=(60,σ)):=η (by rw[X.o,ξ j]);clear u x d0 e0 m0 M j;go_wp2_with fail;go_ret;exact b0.o _ _ R.o _ ((DkS.refl HD.o).ext c0.o)
   ·have C:decide (fr-(TB.length:Int)-(f.length:Int)<6000)=false:=ε j
    have R:Hd (q0o σ n L f=if (q3x σ BN f).1≠0 then q3x σ BN f else q3x (q3x σ BN f).2 TN TB):=η (by rw[X.o,κ j]);have Y:=η (y4g ((HD.o).ext c0.o) BN f l0 (by omega));have Z:=η (fun W (C:DkS w g F (q3x σ BN f).2 W)=>y4g C.dk TN TB k0 (by omega));have i0:Hd (∀τ W,DkS w5 g F τ W->DkS w g F τ W):=η fun τ W C=>DkS.from HD.o c0.o C
    obtain⟨r1,h1⟩: ∃r,q3x σ BN f=r:=⟨_,rfl⟩
    rw[h1] at Y Z R;obtain⟨r2,h2⟩: ∃r,q3x r1.2 TN TB=r:=⟨_,rfl⟩
    rw[h2] at Z R;obtain⟨c1,σ1⟩:=r1;obtain⟨c2,q0⟩:=r2;clear h1 h2;clear u x d0 e0 m0 M j;by_cases e1:c1=0
    ·subst e1
     have a0:Hd (q0o σ n L f=(c2,q0)):=η (by rw[R.o,κ (fun h=>h rfl)]);clear R;go_wp2_with fail;refine Y.o.mono ?_;rintro e w6 ⟨rfl,E⟩;have I:=η (i0.o _ _ E);clear E;go_wp2_with fail;refine(Z.o _ I.o).mono ?_;rintro e w7 ⟨rfl,j0⟩;have n0:=η j0;clear j0;go_wp2_with fail;go_ret;exact b0.o _ _ a0.o _ (I.o.trans n0.o)
    ·have a0:Hd (q0o σ n L f=(c1,σ1)):=η (by rw[R.o,ξ e1])
     have b:(c1 !=0)=true:=by simpa using e1
     clear R e1;go_wp2_with fail;refine Y.o.mono ?_;rintro e w6 ⟨rfl,E⟩;have I:=η (i0.o _ _ E);clear E;go_wp2_with fail;go_ret;exact b0.o _ _ a0.o _ I.o
end
section
variable {w :World}{g:Nat}{F:Nat->Prop}{σ:DM}
theorem z4O(h:Dk w g F σ)(n:Int):
  Calls Tryz.prog 171 #[.pointer (some ⟨g,0,none⟩),.int .i64 n] w fun e w'=>e= .returned (.int .i64 (q2j σ n).1)/\DkS w g F (q2j σ n).2 w':=by
 have HT:=η (fun W=>q9Y n W);have HB:=η (fun W=>z3n n W);have HD:=η h;have d0:=q3L 116 n;have e0:=q3L 98 n
 have X:Hd (q2j σ n=if q9L (q0V σ (q0C 116 n)).1 then
  if q9L (q0V (q0V σ (q0C 116 n)).2 (q0C 98 n)).1 then(0,(q0V (q0V σ (q0C 116 n)).2 (q0C 98 n)).2) else q0V (q0V σ (q0C 116 n)).2 (q0C 98 n)
  else q0V σ (q0C 116 n)):=η rfl
 generalize q0C 116 n=TN at*;generalize q0C 98 n=BN at*;have R:=η (fun C (h:Dk C g F σ)=>q6d h TN d0);have I:=η (fun C w' (m:DkS C g F (q0V σ TN).2 w')=>q6d m.dk BN e0);obtain⟨r1,h1⟩: ∃r,q0V σ TN=r:=⟨_,rfl⟩
 rw[h1] at R I X;obtain⟨r2,h2⟩: ∃r,q0V r1.2 BN=r:=⟨_,rfl⟩
 rw[h2] at I X;obtain⟨u,σ1⟩:=r1;obtain⟨y,N⟩:=r2;have G: ∀i,F i->i<w.heap.size:=by obtain⟨_,_,_,_,_,_,h⟩:=h;exact h
 clear h1 h2 h d0 e0;go_enter Tryz.func171,Tryz.ntmps171;go_wp2_with fail;refine(HT.o _).mono ?_;rintro e w1 ⟨rfl,q⟩;have Z:=η q;clear q;go_wp2_with fail;refine(HB.o _).mono ?_;rintro e w2 ⟨rfl,q⟩;have J:=η (Z.o.trans q);clear q;go_wp2_with fail;have c0:=Blk.new w2 9 #[.string ⟨TN.toArray⟩,.string ⟨BN.toArray⟩];have a0:=η (J.o.trans (q0B w2 (.cells #[.string ⟨TN.toArray⟩,.string ⟨BN.toArray⟩] 9)));have f0:¬F w2.heap.size:=fun hf=>by have:=G _ hf;have:=J.o.size;omega
 have S:=η (HD.o.ext a0.o);generalize w2.alloc (.cells #[.string ⟨TN.toArray⟩,.string ⟨BN.toArray⟩] 9)=C at*;generalize w2.heap.size=b at*;have x:Hd (∀O W,DkS C g F O W->DkS w g F O W):=η fun O W m=>DkS.from HD.o a0.o m
 have Q:Hd (∀O W,DkS C g F O W->Blk W b 9 #[.string ⟨TN.toArray⟩,.string ⟨BN.toArray⟩]):=η fun O W m=>m.off.blk c0 f0
 clear c0 f0 G Z J
 go_loopw [14] (fun i W=>(i= .int .i64 0/\DkS C g F σ W/\W=C)\/(i= .int .i64 1/\q9L u/\DkS C g F σ1 W)\/(i= .int .i64 2/\q9L u/\q9L y/\DkS C g F N W)) (fun i _=>2-(intOf i).toNat)
 case atStart=>exact .inl ⟨rfl,DkS.refl S.o,rfl⟩
 case round=>
  rcases hrel with⟨rfl,m,rfl⟩|⟨rfl,d,m⟩|⟨rfl,g0,h0,m⟩
  ·have b0:wr.cell? ⟨b,0,none⟩=some (.string ⟨TN.toArray⟩):=(Q.o _ _ m).cell 0
   clear m;go_wp2_with fail;refine(R.o _ S.o).mono ?_;rintro e w4 ⟨rfl,B⟩;have j:=η B;clear B b0;by_cases d:q9L u
   ·have HO:=η d
    have q:(u !=0)=false\/((u !=0)=true/\((u !=4)=false\/((u !=4)=true/\(u !=2)=false))):=by
     rcases d with rfl|rfl|rfl
     ·exact .inl rfl
     ·exact .inr ⟨rfl,.inl rfl⟩
     ·exact .inr ⟨rfl,.inr ⟨rfl,rfl⟩⟩
    clear d;rcases q with q|⟨q,M|⟨M,i0⟩⟩
    all_goals
     go_wp2_with fail
     go_roundw
     case rel=>exact .inr (.inl ⟨rfl,HO.o,j.o⟩)
     case measure=>decide
   ·have U:Hd (q2j σ n=(u,σ1)):=η (by rw[X.o,κ d])
    have q1:(u !=0)=true:=by simp;intro h;exact d (.inl h)
    have q2:(u !=4)=true:=by simp;intro h;exact d (.inr (.inl h))
    have q3:(u !=2)=true:=by simp;intro h;exact d (.inr (.inr h))
    clear d;go_wp2_with fail;go_ret;rw[U.o];exact⟨rfl,x.o _ _ j.o⟩
  ·have b0:wr.cell? ⟨b,1,none⟩=some (.string ⟨BN.toArray⟩):=(Q.o _ _ m).cell 1
   have E:=η m;have Y:=η d;clear m d;go_wp2_with fail;refine(I.o _ _ E.o).mono ?_;rintro e w4 ⟨rfl,B⟩;have j:=η (E.o.trans B);clear B b0;by_cases d:q9L y
   ·have HO:=η d
    have q:(y !=0)=false\/((y !=0)=true/\((y !=4)=false\/((y !=4)=true/\(y !=2)=false))):=by
     rcases d with rfl|rfl|rfl
     ·exact .inl rfl
     ·exact .inr ⟨rfl,.inl rfl⟩
     ·exact .inr ⟨rfl,.inr ⟨rfl,rfl⟩⟩
    clear d;rcases q with q|⟨q,M|⟨M,i0⟩⟩
    all_goals
     go_wp2_with fail
     go_roundw
     case rel=>exact .inr (.inr ⟨rfl,Y.o,HO.o,j.o⟩)
     case measure=>decide
   ·have U:Hd (q2j σ n=(y,N)):=η (by rw[X.o,ξ Y.o,κ d])
    have q1:(y !=0)=true:=by simp;intro h;exact d (.inl h)
    have q2:(y !=4)=true:=by simp;intro h;exact d (.inr (.inl h))
    have q3:(y !=2)=true:=by simp;intro h;exact d (.inr (.inr h))
    clear d;go_wp2_with fail;go_ret;rw[U.o];exact⟨rfl,x.o _ _ j.o⟩
  ·have U:Hd (q2j σ n=(0,N)):=η (by rw[X.o,ξ g0,ξ h0])
   have j:=η m;clear m g0 h0;go_wp2_with fail;go_ret;rw[U.o];exact⟨rfl,x.o _ _ j.o⟩
end
def InT(t:Nat)(v mv:Value)(i:Nat):Prop:=i=t\/v.ownBlock=some i\/mv= .map (some i)
structure TbI(w:World)(t g:Nat)(n:Int)(L:List En)(v:Value)(p s:Nat)(mv:Value)(D:DataW Unit):Prop where
 blk:Blk w t 315 #[.pointer (some ⟨g,0,none⟩),.int .i64 n,.int .i64 (L.length:Int),v,.int .i64 (p:Int),.int .i64 (s:Int),mv]
 mids:w.ownsRow 0 356 4 v (q3K L).length (mcs (q3K L))
 fil:FilK w p s mv D
structure okT(L:List En):Prop where
 sort:q1E L
 ok: ∀x∈L,q3Q x=true
 len:L.length<=50000
def Tb(w:World)(t g:Nat)(n:Int)(L:List En)(may:Int->Bool)(T:Nat->Prop):Prop:=
 ∃v p s mv D,TbI w t g n L v p s mv D/\may=z8v p s D/\(∀x∈L,may x.1=true)/\okT L/\(∀i,InT t v mv i->T i)/\ ∀i,T i->i<w.heap.size
section
variable {w w':World}{t g:Nat}{n:Int}{L:List En}{v:Value}{p s:Nat}{mv:Value}{D:DataW Unit}{may:Int->Bool}{T T' F:Nat->Prop}{σ:DM}
theorem FilK.same(h:FilK w p s mv D)(k: ∀i,mv= .map (some i)->w'.heap[i]? =w.heap[i]?):FilK w' p s mv D:=by
 obtain⟨d,b|⟨b,o,q,r,m,n,j,u⟩⟩:=h
 ·exact⟨d,.inl b⟩
 ·exact⟨d,.inr ⟨b,o,q,r,m,n,j,q2H u (k m j)⟩⟩
theorem FilK.lt(h:FilK w p s mv D)(b:mv= .map (some i)):i<w.heap.size:=by
 obtain⟨r,⟨j,d⟩|⟨j,d,u,x,m,n,o,q⟩⟩:=h
 ·rw[d] at b;cases b
 ·rw[o] at b;cases b;exact q.lt
theorem TbI.same(h:TbI w t g n L v p s mv D)(k: ∀i,InT t v mv i->w'.heap[i]? =w.heap[i]?):TbI w' t g n L v p s mv D:=
 ⟨h.blk.same (k t (.inl rfl)),q0Z h.mids fun i b=>k i (.inr (.inl b)),h.fil.same fun i b=>k i (.inr (.inr b))⟩
theorem Tb.same(h:Tb w t g n L may T)(u:w.heap.size<=w'.heap.size)(k: ∀i,T i->w'.heap[i]? =w.heap[i]?):Tb w' t g n L may T:=by
 obtain⟨v,p,s,mv,D,j,m,o,q,d,r⟩:=h;exact⟨v,p,s,mv,D,j.same fun i b=>k i (d i b),m,o,q,d,fun i b=>Ψ (r i b) u⟩
theorem Tb.lt(h:Tb w t g n L may T): ∀i,T i->i<w.heap.size:=by
 obtain⟨v,p,s,mv,D,d,j,m,o,q,b⟩:=h;exact b
theorem Tb.okL(h:Tb w t g n L may T):okT L:=by
 obtain⟨v,p,s,mv,D,d,j,m,b,o,q⟩:=h;exact b
theorem Tb.thru(h:Tb w t g n L may T): ∀x∈L,may x.1=true:=by
 obtain⟨v,p,s,mv,D,d,j,b,m,o,q⟩:=h;exact b
theorem Tb.ext(h:Tb w t g n L may T)(k:Ext w w'):Tb w' t g n L may T:=h.same k.size fun i b=>k.block i (h.lt i b)
theorem Tb.off(h:Tb w t g n L may T)(k:OffS F w w')(d: ∀i,T i->¬F i):Tb w' t g n L may T:=h.same k.size fun i b=>k.block i (h.lt i b) (d i b)
theorem Tb.mono(h:Tb w t g n L may T)(k: ∀i,T i->T' i)(r: ∀i,T' i->i<w.heap.size):Tb w t g n L may T':=by
 obtain⟨v,p,s,mv,D,b,d,j,m,o,u⟩:=h;exact⟨v,p,s,mv,D,b,d,j,m,fun i q=>k i (o i q),r⟩
end
def q5O(σ:DM)(n:Int):Option (List En)×Int×DM:=
 if (q0a σ (q0C 116 n)).2.1≠0 then(none,q1y (q0a σ (q0C 116 n)).2.1,(q0a σ (q0C 116 n)).2.2)
 else match q8v (q0a σ (q0C 116 n)).1 with
 |none=>(none,90,(q0a σ (q0C 116 n)).2.2)
 | some L=>if (q0a (q0a σ (q0C 116 n)).2.2 (q0C 98 n)).2.1=61 then(none,61,(q0a (q0a σ (q0C 116 n)).2.2 (q0C 98 n)).2.2)
  else(some L,0,(q0a (q0a σ (q0C 116 n)).2.2 (q0C 98 n)).2.2)
def y5l(w:World)(g:Nat)(F:Nat->Prop)(n:Int)(r:Option (List En)×Int×DM)(e:Ending)(w':World):Prop:=
 match r.1 with
 |none=>e= .returned (.tuple #[.pointer none,.int .i64 r.2.1])/\DkS w g F r.2.2 w'
 |some L=> ∃t may T w3,e= .returned (.tuple #[.pointer (some ⟨t,0,none⟩),.int .i64 0])/\DkS w g F r.2.2 w3/\Ext w3 w'/\Tb w' t g n L may T/\ ∀i,T i->w3.heap.size<=i
theorem q9o{σ:DM}(h:okD σ)(nm:List UInt8):(q0a σ nm).1.length<=1048576:=by
 have d:=h.used;have j:=h.cap1;unfold q0a
 split
 ·simp
 ·unfold q1w
  split
  ·simp
  ·split
   ·simp
   ·rename_i f b
    have:=z1w (q0L b).1
    split<;>simp<;>omega
theorem z6R(c:Int):q1y c=c\/q1y c=90:=by unfold q1y;split;exact .inl rfl;exact .inr rfl
theorem z9S{w:World}{g:Nat}{F:Nat->Prop}{σ:DM}(h:Dk w g F σ)(n:Int):
  Calls Tryz.prog 194 #[.pointer (some ⟨g,0,none⟩),.int .i64 n] w (y5l w g F n (q5O σ n)):=by
 have HT:=η (fun W=>q9Y n W);have HB:=η (fun W=>z3n n W);have HD:=η h;have t0:=q3L 116 n;have u0:=q3L 98 n;have b:=q9o h.1 (q0C 116 n)
 have C:Hd (q5O σ n=if (q0a σ (q0C 116 n)).2.1≠0 then(none,q1y (q0a σ (q0C 116 n)).2.1,(q0a σ (q0C 116 n)).2.2)
  else match q8v (q0a σ (q0C 116 n)).1 with
  |none=>(none,90,(q0a σ (q0C 116 n)).2.2)
  | some L=>if (q0a (q0a σ (q0C 116 n)).2.2 (q0C 98 n)).2.1=61 then(none,61,(q0a (q0a σ (q0C 116 n)).2.2 (q0C 98 n)).2.2)
   else(some L,0,(q0a (q0a σ (q0C 116 n)).2.2 (q0C 98 n)).2.2)):=η rfl
 have Y:=η (fun W (k:Ext w W)=>z1r (h.ext k) (q0C 116 n) t0);have J:=η (fun W W' (R:DkS w g F (q0a σ (q0C 116 n)).2.2 W) (k:Ext W W')=>z1r (R.dk.ext k) (q0C 98 n) u0);have d:okD (q0a σ (q0C 116 n)).2.2->(q0a (q0a σ (q0C 116 n)).2.2 (q0C 98 n)).1.length<=1048576:=fun h=>q9o h (q0C 98 n)
 generalize q0C 116 n=TN at*;generalize q0C 98 n=BN at*;clear t0 u0 h;obtain⟨r1,h1⟩: ∃r,q0a σ TN=r:=⟨_,rfl⟩
 rw[h1] at Y J C b d;obtain⟨r2,h2⟩: ∃r,q0a r1.2.2 BN=r:=⟨_,rfl⟩
 rw[h2] at J C d;obtain⟨S1,c1,σ1⟩:=r1;obtain⟨S2,c2,w0⟩:=r2;clear h1 h2;simp only at Y J C b d;go_enter Tryz.func194,Tryz.ntmps194;go_wp2_with fail;refine(HT.o _).mono ?_;rintro e w1 ⟨rfl,B⟩;have m0:=η B;clear B;go_wp2_with fail;refine(Y.o _ m0.o).mono ?_;rintro e w2 ⟨rfl,R⟩;have y:=η (DkS.from HD.o m0.o R);clear R;by_cases e1:c1=0
 case neg=>
  have X:Hd (q5O σ n=(none,q1y c1,σ1)):=η (by rw[C.o,ξ e1]);have B:(c1 !=0)=true:=by simpa using e1
  clear C e1 b d;go_wp2_with fail;refine(z0x c1 _).mono ?_;rintro e w3 ⟨rfl,rfl⟩;go_wp2_with fail;go_ret2;rw[X.o];exact⟨rfl,y.o⟩
 case pos=>
 subst e1;have q:=η (fun W=>y2W S1 W b);have x0:Hd (∀L,q8v S1=some L->okT L):=η fun L h=>⟨(q8w h).2.1,(q8w h).2.2.1,y0y h b⟩
 have j:=d y.o.dk.1
 cases hg:q8v S1 with
 | none=>
  have X:Hd (q5O σ n=(none,90,σ1)):=η (by rw[C.o,κ (fun h=>h rfl),hg]);rw[hg] at q;clear C b d j hg;go_wp2_with fail;refine(q.o _).mono ?_;rintro e w3 ⟨rfl,B⟩;have Z:=η B;clear B;go_wp2_with fail;go_ret2;rw[X.o];exact⟨rfl,y.o.ext Z.o⟩
 | some L=>
  rw[hg] at q;have f0:=η (x0.o L hg);have z0:=f0.o.len;go_wp2_with fail;refine(q.o _).mono ?_;rintro e w3 ⟨v,rfl,m,B⟩;have Z:=η B;have j0:=η m;obtain⟨va,vc,rfl⟩:=q0F m;clear B m q;go_wp2_with fail;refine(HB.o _).mono ?_;rintro e w4 ⟨rfl,B⟩;have n0:=η (Z.o.trans B);have I:=η (q0I j0.o B);clear B j0;go_wp2_with fail;refine(J.o _ _ y.o n0.o).mono ?_;rintro e w5 ⟨rfl,R⟩
  have r0:w5.ownsRow w2.heap.size 128 3 (.slice va L.length vc) L.length (ecs L):=q0Z I.o fun i x=>R.off.block i (q0e I.o i x).2 (by
   have h1:=(q0e I.o i x).1;have y0: ∀i,Gr F w w2 i->i<w2.heap.size:=by obtain⟨_,_,_,_,_,_,h⟩:=y.o.dk;exact h
   intro hf;have:=y0 i hf
   omega)
  have U:=η (y.o.trans (DkS.from y.o.dk n0.o R));clear R;obtain⟨_,_,e0,S⟩:=Ens.of_own (Own.of_row r0)
  cases e0;have M:=η S;clear S r0 I;by_cases e2:c2=61
  ·have X:Hd (q5O σ n=(none,61,w0)):=η (by rw[C.o,κ (fun h=>h rfl),hg];simp only;rw[ξ e2])
   subst e2;clear C b d j hg;go_wp2_with fail;go_ret2;rw[X.o];exact⟨rfl,U.o⟩
  ·have X:Hd (q5O σ n=(some L,0,w0)):=η (by rw[C.o,κ (fun h=>h rfl),hg];simp only;rw[κ e2])
   have B:(c2==61)=false:=by simpa using e2
   have N:=η (y4q w5 M.o (by omega));have g0:=η (fun W=>z8Q S2 W j);clear C b d j hg e2;go_wp2_with fail;refine N.o.mono ?_;rintro e w6 ⟨vm,rfl,m,s0⟩;have o0:=η s0;have k0:=η m;obtain⟨ma,mc,rfl⟩:=q0F m;clear m s0 N;go_wp2_with fail;refine(g0.o _).mono ?_;rintro e w7 ⟨p,z,mv,D,rfl,u,G,_,a0⟩;have p0:=η (o0.o.trans a0);have O:=η (q0I k0.o a0);have h0:Hd (y5g w6.heap.size mv):=η G;have l0:=η (y3n w7 u (M.o.ext p0.o));clear a0 k0 g0 u G;go_wp2_with fail;refine l0.o.mono ?_;rintro e w8 ⟨p',z',v0,D',rfl,u,G,Q,b0⟩;have q0:=η (p0.o.trans b0);have E:=η (q0I O.o b0);have i0:=η (G _ h0.o);have d0:=η u;have c0:=η Q;clear b0 u G Q O h0 l0;go_wp2_with fail;go_ret2;rw[X.o];have A0:w.heap.size<=w5.heap.size:=U.o.off.size;refine⟨w8.heap.size,z8v p' z' D',fun i=>InT w8.heap.size (.slice ma (q3K L).length mc) v0 i,w5,rfl,U.o,q0.o.trans (q0B _ _),⟨_,p',z',v0,D',⟨Blk.new w8 _ _,q1I (q0I E.o (q0B _ _)) (υ _),d0.o.ext (q0B _ _)⟩,rfl,c0.o,f0.o,fun i x=>x,fun i x=>?_⟩,fun i x=>?_⟩
   ·rw[ρ]
    rcases x with rfl|x|x
    ·omega
    ·have:=(q0e E.o i x).2;omega
    ·have:=d0.o.lt x;omega
   ·have h8:=q0.o.size
    have h6:=o0.o.size;rcases x with rfl|x|x
    ·exact h8
    ·exact(q0e E.o i x).1
    ·have:=i0.o i x;omega
def q1R(σ:DM)(n:Int)(i:Nat):En×Int×DM:=
 if (q1w σ (q0C 116 n) (8+24*(i:Int)) 24).2.1≠0 then(en0,q1y (q1w σ (q0C 116 n) (8+24*(i:Int)) 24).2.1,(q1w σ (q0C 116 n) (8+24*(i:Int)) 24).2.2)
 else match z1x (q1w σ (q0C 116 n) (8+24*(i:Int)) 24).1 with
 |none=>(en0,90,(q1w σ (q0C 116 n) (8+24*(i:Int)) 24).2.2)
 |some x=>(x,0,(q1w σ (q0C 116 n) (8+24*(i:Int)) 24).2.2)
structure TbD(w:World)(t g:Nat)(n:Int)(L:List En)(may:Int->Bool)(T F:Nat->Prop)(σ:DM):Prop where
 d:Dk w g F σ
 t:Tb w t g n L may T
 ap: ∀i,T i->¬F i
section
variable {w w':World}{t g:Nat}{n:Int}{L:List En}{v:Value}{p s:Nat}{mv:Value}{D:DataW Unit}{may:Int->Bool}{T T' F:Nat->Prop}{σ σ':DM}
theorem TbD.ext(h:TbD w t g n L may T F σ)(k:Ext w w'):TbD w' t g n L may T F σ:=⟨h.d.ext k,h.t.ext k,h.ap⟩
theorem TbD.disk(h:TbD w t g n L may T F σ)(k:DkS w g F σ' w'):TbD w' t g n L may T (Gr F w w') σ':=
 ⟨k.dk,h.t.off k.off h.ap,fun i b=>Gr.not (h.ap i b) (h.t.lt i b)⟩
theorem Tb.cells(h:Tb w t g n L may T): ∃(v:Option Addr) (p:Nat×Nat) (s:Nat) (mv:Value),T t/\w.cell? ⟨t,0,none⟩=some (.pointer (some ⟨g,0,none⟩))/\w.cell? ⟨t,1,none⟩=some (.int .i64 n)/\w.cell? ⟨t,2,none⟩=some (.int .i64 (L.length:Int))/\
  w.cell? ⟨t,3,none⟩=some (.slice v (q3K L).length s)/\Mds w v (q3K L).length s (q3K L)/\
  w.cell? ⟨t,4,none⟩=some (.int .i64 (p.1:Int))/\w.cell? ⟨t,5,none⟩=some (.int .i64 (p.2:Int))/\w.cell? ⟨t,6,none⟩=some mv/\ ∃D,FilK w p.1 p.2 mv D/\may=z8v p.1 p.2 D:=by
 obtain⟨v,p,s,mv,D,b,d,m,o,j,q⟩:=h;obtain⟨ao,cap,rfl,hm⟩:=Mds.of_own (Own.of_row b.mids);exact⟨ao,(p,s),cap,mv,j t (.inl rfl),b.blk.cell 0,b.blk.cell 1,b.blk.cell 2,b.blk.cell 3,hm,b.blk.cell 4,b.blk.cell 5,b.blk.cell 6,D,b.fil,d⟩
theorem Dk.Flt(h:Dk w g F σ): ∀i,F i->i<w.heap.size:=by obtain⟨_,_,_,_,_,_,h⟩:=h;exact h
theorem q8C{j:Nat}{u:Value}(k:OffS F w w')(h:w.cell? ⟨i,j,none⟩=some u)(d:¬F i):w'.cell? ⟨i,j,none⟩=some u:=by
 have b:=k.block i (World.block_lt_of_cell? (h:=h)) d;simp only[World.cell?,b] at h⊢;exact h
theorem y1i(h:okD σ)(nm:List UInt8)(a m:Int):(q1w σ nm a m).1.length<=1048576:=by
 have d:=h.used;have j:=h.cap1;unfold q1w
 split
 ·simp
 ·split
  ·simp
  ·rename_i f b
   have:=z1w (q0L b).1
   split<;>simp<;>omega
theorem z3v(h:TbD w t g n L may T F σ)(i:Nat)(hi:i<=1000000):
  Calls Tryz.prog 179 #[.pointer (some ⟨t,0,none⟩),.int .i64 (i:Int)] w fun e w'=>e= .returned (.tuple #[enV (q1R σ n i).1,.int .i64 (q1R σ n i).2.1])/\DkS w g F (q1R σ n i).2.2 w':=by
 have HD:=η h;have HT:=η (fun W=>q9Y n W);have Y:=η (fun W=>y6D i W hi);have h0:=q3L 116 n
 have G:Hd (q1R σ n i=if (q1w σ (q0C 116 n) (8+24*(i:Int)) 24).2.1≠0 then(en0,q1y (q1w σ (q0C 116 n) (8+24*(i:Int)) 24).2.1,(q1w σ (q0C 116 n) (8+24*(i:Int)) 24).2.2)
  else match z1x (q1w σ (q0C 116 n) (8+24*(i:Int)) 24).1 with
  |none=>(en0,90,(q1w σ (q0C 116 n) (8+24*(i:Int)) 24).2.2)
  |some x=>(x,0,(q1w σ (q0C 116 n) (8+24*(i:Int)) 24).2.2)):=η rfl
 have HR:=η (fun W (k:Ext w W)=>z5t (h.d.ext k) (q0C 116 n) (8+24*(i:Int)) 24 h0 (by omega) (by omega) (by decide) (by decide));have m:(q1w σ (q0C 116 n) (8+24*(i:Int)) 24).1.length<=1048576:=y1i h.d.1 _ _ _;generalize q0C 116 n=TN at*;obtain⟨A,hA⟩: ∃A:Int,8+24*(i:Int)=A:=⟨_,rfl⟩
 rw[hA] at Y HR G m;obtain⟨r1,C⟩: ∃r,q1w σ TN A 24=r:=⟨_,rfl⟩
 rw[C] at HR G m;obtain⟨S,c,σ1⟩:=r1;simp only at HR G m;clear C hA h0;obtain⟨v,p,s,mv,i0,c0,c1,_⟩:=(h.ext (q0B w (.cells #[.int .u64 0,.int .i64 0,.int .i64 0] 128))).t.cells;have d0:=q0A (Ext.refl _).drew c0;have d1:=q0A (Ext.refl _).drew c1;have J:=η ((q0B w (.cells #[.int .u64 0,.int .i64 0,.int .i64 0] 128)).drew);have g0:=(Blk.new w 128 #[.int .u64 0,.int .i64 0,.int .i64 0])
 have j0:=η g0;have N:=h.d.Flt;have f0:=η (h.ap t i0);have M:=η N;clear h g0 N i0;go_enter Tryz.func179,Tryz.ntmps179;go_wp2_with fail
 go_region_held3 (fun W=>W.cell? ⟨t,0,none⟩=some (.pointer (some ⟨g,0,none⟩))/\W.cell? ⟨t,1,none⟩=some (.int .i64 n))
  (first|exact b0.o|exact I.o|exact⟨d0,d1⟩)
  (first
   |(go_at_call 215;refine(HT.o _).mono ?_;rintro e wa ⟨rfl,C⟩;have e0:=η C;have H1:=η (J.o.trans C);have I:=η (And.intro (q0A C d0) (q0A C d1));clear C)
   |(go_at_call 230;refine(Y.o _).mono ?_;rintro e wz ⟨rfl,rfl⟩)
   |(go_at_call 105;refine(HR.o _ H1.o).mono ?_;rintro e wb ⟨rfl,E⟩;have H2:=η E;have b0:=η (And.intro (q8C E.off I.o.1 f0.o) (q8C E.off I.o.2 f0.o));clear E))
 all_goals
  have O:=η (DkS.from (HD.o.d.ext J.o) e0.o H2.o);have j:Blk wb w.heap.size 128 #[.int .u64 0,.int .i64 0,.int .i64 0]:=O.o.off.blk (j0.o.ext ((Ext.refl _).drew)) (fun hf=>by have:=M.o _ hf;omega);have a0:=η j;have u:Hd (∀V W,Ext wb V->OffS (fun i=>i=w.heap.size) V W->DkS w g F σ1 W):=η fun V W C E=>by
   have s1:=E.size;have s2:=C.size;refine DkS.box (w1:=V) J.o (O.o.ext C) M.o s1 E.os E.tape E.output fun i hi hn=>E.block i hi fun e=>hn ?_
   subst e;exact⟨ι _,by show w.heap.size<(w.alloc _).heap.size;rw[ρ];omega⟩
  clear O J e0 H1 I H2 b0;by_cases e1:c=0
  ·subst e1
   cases hg:z1x S with
   | none=>
    have Z:Hd (q1R σ n i=(en0,90,σ1)):=η (by rw[G.o,κ (fun h=>h rfl),hg]);have q:=z1K S wb (by omega);unfold q7t at q;rw[hg] at q;have y:Hd (Calls Tryz.prog 231 #[.string ⟨S.toArray⟩] wb fun r w'=>r= .returned (.tuple #[.agg #[.int .u64 0,.int .i64 0,.int .i64 0],.bool false])/\Ext wb w'):=η q;clear q hg j G m;go_wp2_with fail;refine y.o.mono ?_;rintro e wc ⟨rfl,Q⟩;have B:=η (Q.alloc (.cells #[.int .u64 0,.int .i64 0,.int .i64 0] 128));have b:=a0.o.ext B.o;have r0:(wc.alloc (.cells #[.int .u64 0,.int .i64 0,.int .i64 0] 128)).cell? ⟨w.heap.size,0,none⟩=some (Value.int .u64 0):=b.cell 0;have r1:(wc.alloc (.cells #[.int .u64 0,.int .i64 0,.int .i64 0] 128)).cell? ⟨w.heap.size,1,none⟩=some (Value.int .i64 0):=b.cell 1;have r2:(wc.alloc (.cells #[.int .u64 0,.int .i64 0,.int .i64 0] 128)).cell? ⟨w.heap.size,2,none⟩=some (Value.int .i64 0):=b.cell 2;have y0:=(b).free 0;have y1:=(b).free 1;have y2:=(b).free 2;clear Q b y;go_wp2_with fail
    (try simp only[Exit.inBlock,Exit.then])
    refine bodyPost_ret (v:= .tuple #[.agg #[.int .u64 (0),.int .i64 (0),.int .i64 (0)],.int .i64 (90)]) (by rw[q0J rfl];go_simp) rfl ?_;rw[Z.o];refine⟨rfl,?_⟩;refine u.o _ _ ?_ (OffS.trans (OffS.trans (OffS.set _ ?_ _ _) (OffS.set _ ?_ _ _)) (OffS.set _ ?_ _ _))<;>first|rfl|exact B.o
   | some x=>
    have Z:Hd (q1R σ n i=(x,0,σ1)):=η (by rw[G.o,κ (fun h=>h rfl),hg]);have q:=z1K S wb (by omega);unfold q7t at q;rw[hg] at q;obtain⟨R,U,X⟩:=x;have y:Hd (Calls Tryz.prog 231 #[.string ⟨S.toArray⟩] wb fun r w'=>r= .returned (.tuple #[.agg #[.int .u64 R,.int .i64 U,.int .i64 X],.bool true])/\Ext wb w'):=η q;clear q hg j G m;go_wp2_with fail;refine y.o.mono ?_;rintro e wc ⟨rfl,Q⟩;have B:=η (Q.alloc (.cells #[.int .u64 R,.int .i64 U,.int .i64 X] 128));have b:=a0.o.ext B.o;have r0:(wc.alloc (.cells #[.int .u64 R,.int .i64 U,.int .i64 X] 128)).cell? ⟨w.heap.size,0,none⟩=some (Value.int .u64 0):=b.cell 0;have r1:(wc.alloc (.cells #[.int .u64 R,.int .i64 U,.int .i64 X] 128)).cell? ⟨w.heap.size,1,none⟩=some (Value.int .i64 0):=b.cell 1;have r2:(wc.alloc (.cells #[.int .u64 R,.int .i64 U,.int .i64 X] 128)).cell? ⟨w.heap.size,2,none⟩=some (Value.int .i64 0):=b.cell 2;have y0:=(b).free 0;have y1:=(b).free 1;have y2:=(b).free 2;clear Q b y;go_wp2_with fail
    (try simp only[Exit.inBlock,Exit.then])
    refine bodyPost_ret (v:= .tuple #[.agg #[.int .u64 (R),.int .i64 (U),.int .i64 (X)],.int .i64 (0)]) (by rw[q0J rfl];go_simp) rfl ?_;rw[Z.o];refine⟨rfl,?_⟩;refine u.o _ _ ?_ (OffS.trans (OffS.trans (OffS.set _ ?_ _ _) (OffS.set _ ?_ _ _)) (OffS.set _ ?_ _ _))<;>first|rfl|exact B.o
  ·have Z:Hd (q1R σ n i=(en0,q1y c,σ1)):=η (by rw[G.o,ξ e1])
   have Q:(c !=0)=true:=by simpa using e1
   have k0:=η (fun W=>z0x c W);have r0:wb.cell? ⟨w.heap.size,0,none⟩=some (Value.int .u64 0):=j.cell 0;have r1:wb.cell? ⟨w.heap.size,1,none⟩=some (Value.int .i64 0):=j.cell 1;have r2:wb.cell? ⟨w.heap.size,2,none⟩=some (Value.int .i64 0):=j.cell 2;have y0:=(j).free 0;have y1:=(j).free 1;have y2:=(j).free 2;clear G e1 m j;go_wp2_with fail;refine(k0.o _).mono ?_;rintro e wc ⟨rfl,rfl⟩;go_wp2_with fail
   (try simp only[Exit.inBlock,Exit.then])
   refine bodyPost_ret (v:= .tuple #[.agg #[.int .u64 (0),.int .i64 (0),.int .i64 (0)],.int .i64 (q1y c)]) (by rw[q0J rfl];go_simp) rfl ?_;rw[Z.o];refine⟨rfl,?_⟩;refine u.o _ _ ?_ (OffS.trans (OffS.trans (OffS.set _ ?_ _ _) (OffS.set _ ?_ _ _)) (OffS.set _ ?_ _ _))<;>first|rfl|exact Ext.refl _
end
def q7s(n:Int)(x:En):Nat->DM->Nat->Nat->Nat×Int×DM
 |0,σ,lo,_=>(lo,0,σ)
 | f +1,σ,lo,hi=>if lo<hi then
   if (q1R σ n ((lo+hi)/2)).2.1≠0 then(0,(q1R σ n ((lo+hi)/2)).2.1,(q1R σ n ((lo+hi)/2)).2.2)
   else if q0v (q1R σ n ((lo+hi)/2)).1 x then q7s n x f (q1R σ n ((lo+hi)/2)).2.2 ((lo+hi)/2+1) hi
   else q7s n x f (q1R σ n ((lo+hi)/2)).2.2 lo ((lo+hi)/2)
  else(lo,0,σ)
def q1z(σ:DM)(n:Int)(L:List En)(x:En):Nat×Int×DM:=
 q7s n x (L.length+1) σ (q1F L.length x 0 (q3K L)).1 (q1F L.length x 0 (q3K L)).2
theorem z1T(m:Nat): ∀(i:Nat) (l:List En),i+l.length<=m-> ∀y∈q4z m i l,y.2<m
 |_,[],_=>fun y b=>by cases b
 | i, e::r,h=>fun y b=>by
  rw[χ] at h;unfold q4z at b
  split at b
  ·rcases List.mem_cons.1 b with rfl|b
   ·show i<m;omega
   ·exact z1T m (i+1) r (by omega) y b
  ·exact z1T m (i+1) r (by omega) y b
section
variable {w w':World}{t g:Nat}{n:Int}{L:List En}{may:Int->Bool}{T F:Nat->Prop}{σ:DM}
theorem z9p(h:TbD w t g n L may T F σ)(x:En):
  Calls Tryz.prog 178 #[.pointer (some ⟨t,0,none⟩),enV x] w fun e w'=>e= .returned (.tuple #[.int .i64 ((q1z σ n L x).1:Int),.int .i64 (q1z σ n L x).2.1])/\DkS w g F (q1z σ n L x).2.2 w':=by
 have i0:=h.t.okL;have U:=q9H x i0.sort;have C0:=i0.len;obtain⟨q,u,y⟩:=x;show Calls _ _ #[_,.agg #[.int .u64 q,.int .i64 u,.int .i64 y]] _ _;have HD:=η h;have c0:=q0B w (.cells #[.int .u64 q,.int .i64 u,.int .i64 y] 128);have z0:=η c0;have O:=Blk.new w 128 #[.int .u64 q,.int .i64 u,.int .i64 y];obtain⟨v,p,s,mv,B0,_,_,c2,c3,t0,_⟩:=(h.ext c0).t.cells;have d2:=q0D c2;have d3:=q0D c3;have e0:=q0D (show(w.alloc (.cells #[.int .u64 q,.int .i64 u,.int .i64 y] 128)).cell? ⟨w.heap.size,0,none⟩=some (.int .u64 q) from O.cell 0);have e1:=q0D (show(w.alloc (.cells #[.int .u64 q,.int .i64 u,.int .i64 y] 128)).cell? ⟨w.heap.size,1,none⟩=some (.int .i64 u) from O.cell 1);have e2:=q0D (show(w.alloc (.cells #[.int .u64 q,.int .i64 u,.int .i64 y] 128)).cell? ⟨w.heap.size,2,none⟩=some (.int .i64 y) from O.cell 2);have HN:=η (fun W (k:Ext (w.alloc (.cells #[.int .u64 q,.int .i64 u,.int .i64 y] 128)) W)=>y1U (m:=L.length) (q,u,y) W (t0.ext k) (by omega) (z1T L.length 0 L (by omega)));have h0:Hd (q1z σ n L (q,u,y)=q7s n (q,u,y) (L.length+1) σ (q1F L.length (q,u,y) 0 (q3K L)).1 (q1F L.length (q,u,y) 0 (q3K L)).2):=η rfl;obtain⟨R,hR⟩: ∃R,q1z σ n L (q,u,y)=R:=⟨_,rfl⟩
 rw[hR] at h0;rw[hR];obtain⟨z,hz⟩: ∃z,q1F L.length (q,u,y) 0 (q3K L)=z:=⟨_,rfl⟩
 rw[hz] at h0 U;have x0:=η U;generalize hQ:lbE L (q,u,y)=lb at*;obtain⟨j0,a0⟩:=z;have o0:Hd (∀W,Ext (w.alloc (.cells #[.int .u64 q,.int .i64 u,.int .i64 y] 128)) W->Calls Tryz.prog 229 #[.slice v (q3K L).length s,.int .i64 (L.length:Int),.agg #[.int .u64 q,.int .i64 u,.int .i64 y]] W fun r w'=>r= .returned (.tuple #[.int .i64 (j0:Int),.int .i64 (a0:Int)])/\Ext W w'):=η fun W k=>by
  have h1:=HN.o W k;rw[hz] at h1;exact h1
 have f0:=h.d.Flt;have m0:=η f0;generalize (q3K L).length=ml at*;have k0:=η O;have Y:=η (h.ext c0);clear h i0 U hz HN t0 c2 c3 hR hQ c0 B0 f0 O;go_enter Tryz.func178,Tryz.ntmps178;go_wp2_with fail;generalize w.alloc (.cells #[.int .u64 q,.int .i64 u,.int .i64 y] 128)=w1 at*;refine q0E (by kernel_rfl) (by kernel_rfl) ?_
 repeat (go_big_quiet_step (fail))
 go_big_quiet_step (exact Calls.quiet_ext (o0.o _ (ExtOf.h _)))
 repeat (go_big_quiet_step (fail))
 refine wpQuiet_nil ?_;intro w2 u0;have w0:=η ((DkS.refl Y.o.d).ext u0);have D0:Hd (∀i,T i->i<w1.heap.size/\¬F i):=η fun i C=>⟨Y.o.t.lt i C,Y.o.ap i C⟩
 have y0:Hd (∀I W,DkS w1 g F I W->TbD W t g n L may T (Gr F w1 W) I):=η fun I W M=>Y.o.disk M
 have v0:Hd (∀I W,DkS w1 g F I W->Blk W w.heap.size 128 #[.int .u64 q,.int .i64 u,.int .i64 y]):=η fun I W M=>M.off.blk k0.o fun hf=>by have:=m0.o _ hf;omega
 have d0:Hd (∀I W,DkS w1 g F I W->DkS w g F I W):=η fun I W M=>DkS.from HD.o.d z0.o M
 have U:=x0.o;have HL:=η (show j0<=a0/\a0<=L.length by omega);clear u0 e0 e1 e2 d2 d3 o0 U k0;go_wp2_with fail
 go_loopw [6,7] (fun a b W=> ∃(lo C f:Nat) (I:DM),lo<=C/\C<=L.length/\C-lo<f/\a= .int .i64 (lo:Int)/\b= .int .i64 (C:Int)/\q7s n (q,u,y) f I lo C=R/\DkS w1 g F I W) (fun a b _=>(intOf b).toNat-(intOf a).toNat)
 case atStart=>exact⟨j0,a0,L.length+1,σ,HL.o.1,HL.o.2,by have:=HL.o;omega,rfl,rfl,h0.o.symm,w0.o⟩
 case round=>
  obtain⟨lo,C,f,I,E0,A0,hf,rfl,rfl,j,M⟩:=hrel;have g0:=η M;obtain⟨f,rfl⟩: ∃f',f=f'+1:=⟨f-1,by omega⟩
  unfold q7s at j;clear M;by_cases s0:lo<C
  ·rw [ξ s0] at j
   have M:decide ((lo:Int)<(C:Int))=true:=by simp;omega
   obtain⟨m,hm⟩: ∃m,(lo+C)/2=m:=⟨_,rfl⟩
   rw[hm] at j;obtain⟨S,hS⟩: ∃S:Int,(lo:Int)+(C:Int)=S:=⟨_,rfl⟩
   have q1:IntKind.i64.wrap ((lo:Int)+(C:Int))=S:=by rw[ν];omega
   have q2:IntKind.u64.wrap S=S:=by rw[IntKind.wrap_u64];omega
   have q3:Int.tdiv S 2=(m:Int):=by rw[Int.tdiv_eq_ediv_of_nonneg (by omega)];omega
   have q4:IntKind.u64.wrap (m:Int)=(m:Int):=by rw[IntKind.wrap_u64];omega
   have q5:IntKind.i64.wrap (m:Int)=(m:Int):=by rw[ν];omega
   have q6:IntKind.i64.wrap ((m:Int)+1)=(m:Int)+1:=by rw[ν];omega
   have F0:lo<=m/\m<C:=by omega
   have E:=η (z3v (y0.o _ _ g0.o) m (by omega));have Z:Hd (∀J W,DkS wr g (Gr F w1 wr) J W->DkS w1 g F J W):=η fun J W M=>g0.o.trans M
   obtain⟨r,hr⟩: ∃r,q1R I n m=r:=⟨_,rfl⟩
   rw[hr] at j E;obtain⟨⟨y1,y2,y3⟩,c,J⟩:=r;simp only at j;have E:Hd (Calls Tryz.prog 179 #[.pointer (some ⟨t,0,none⟩),.int .i64 (m:Int)] wr fun e w'=>e= .returned (.tuple #[.agg #[.int .u64 y1,.int .i64 y2,.int .i64 y3],.int .i64 c])/\DkS wr g (Gr F w1 wr) J w'):=E;have n0:=η (fun W=>z2k (y1,y2,y3) (q,u,y) W);clear hm hr hS;by_cases hc:c=0
   ·subst hc
    rw[κ (fun h=>h rfl)] at j;have B:=η j;clear j;go_wp2_with fail;refine E.o.mono ?_;rintro e w4 ⟨rfl,Q⟩;have X:=η (Z.o _ _ Q);have q0:=v0.o _ _ X.o;have b0:=q0.ext (q0B w4 (.cells #[.int .u64 y1,.int .i64 y2,.int .i64 y3] 128));have r0:(w4.alloc (.cells #[.int .u64 y1,.int .i64 y2,.int .i64 y3] 128)).cell? ⟨w.heap.size,0,none⟩=some (Value.int .u64 q):=b0.cell 0;have r1:(w4.alloc (.cells #[.int .u64 y1,.int .i64 y2,.int .i64 y3] 128)).cell? ⟨w.heap.size,1,none⟩=some (Value.int .i64 u):=b0.cell 1;have r2:(w4.alloc (.cells #[.int .u64 y1,.int .i64 y2,.int .i64 y3] 128)).cell? ⟨w.heap.size,2,none⟩=some (Value.int .i64 y):=b0.cell 2;clear Q q0 b0 E Z;go_wp2_with fail;refine(n0.o _).mono ?_;rintro e w5 ⟨rfl,p0⟩;have l0:=η (X.o.ext ((q0B _ _).trans p0));clear p0 n0 r0 r1 r2
    cases hlx:q0v (y1,y2,y3) (q,u,y) with
    | true=>
     have G:=B.o;rw[hlx,ξ rfl] at G;have N:=η G;clear G hlx B;go_wp2_with fail
     go_roundw
     case rel=>exact⟨m+1,C,f,J,by omega,A0,by omega,by go_num,rfl,N.o,l0.o⟩
     case measure=>simp[intOf];omega
    | false=>
     have G:=B.o;rw[hlx,κ (by decide)] at G;have N:=η G;clear G hlx B;go_wp2_with fail
     go_roundw
     case rel=>exact⟨lo,m,f,J,by omega,by omega,by omega,rfl,rfl,N.o,l0.o⟩
     case measure=>simp[intOf];omega
   ·have hb:(c !=0)=true:=by simpa using hc
    rw[ξ hc] at j;have B:=η j;clear j hc;go_wp2_with fail;refine E.o.mono ?_;rintro e w4 ⟨rfl,Q⟩;have X:=η (Z.o _ _ Q);clear Q E Z;go_wp2_with fail;go_ret2;rw[<-B.o];exact⟨rfl,d0.o _ _ (X.o.ext (q0B _ _))⟩
  ·rw[κ s0] at j
   have M:decide ((lo:Int)<(C:Int))=false:=by simp;omega
   have B:=η j;clear j;go_wp2_with fail;go_ret2;rw[<-B.o];exact⟨rfl,d0.o _ _ g0.o⟩
end
def q5A(L:List En)(may:Int->Bool)(h:Int):Bool:=decide (0<L.length)&&may h
section
variable {w w':World}{t g:Nat}{n:Int}{L:List En}{may:Int->Bool}{T F:Nat->Prop}{σ:DM}
theorem z1o(h:Tb w t g n L may T):Calls Tryz.prog 176 #[.pointer (some ⟨t,0,none⟩)] w fun e w'=>e= .returned (.bool false)/\w=w':=by
 obtain⟨v,p,s,mv,b,d,_⟩:=h.cells;clear h;go_enter Tryz.func176,Tryz.ntmps176;go_wp2_with fail;go_ret;exact⟨rfl,rfl⟩
theorem y2X(h:Tb w t g n L may T)(x:Int):Calls Tryz.prog 177 #[.pointer (some ⟨t,0,none⟩),.int .u64 x] w fun e w'=>e= .returned (.bool (q5A L may x))/\Ext w w':=by
 have q:=η (z1o h);obtain⟨v,p,s,mv,E,G,I,J,M,_,N,O,Q,D,u,rfl⟩:=h.cells;have B:=η (y2K x w u);obtain⟨j,m⟩:=p;obtain⟨⟨mo,rfl⟩,_⟩:=u;clear h;by_cases b:0<L.length
 ·have C:decide ((0:Int)<(L.length:Int))=true:=ζ (by omega)
  have d:Hd (q5A L (z8v j m D) x=z8v j m D x):=η (by unfold q5A;rw[ζ b];rfl);rw[d.o];generalize (L.length:Int)=k at*;clear b;go_enter Tryz.func177,Tryz.ntmps177;go_wp2_with fail;refine q.o.mono ?_;rintro e w1 ⟨rfl,rfl⟩;go_wp2_with fail;refine B.o.mono ?_;rintro e w2 ⟨rfl,r⟩;have y:=η r;clear r;go_wp2_with fail;go_ret;exact⟨rfl,y.o⟩
 ·have C:decide ((0:Int)<(L.length:Int))=false:=ε (by omega)
  have d:Hd (q5A L (z8v j m D) x=false):=η (by unfold q5A;rw[ε b];rfl);rw[d.o];generalize (L.length:Int)=k at*;clear b;go_enter Tryz.func177,Tryz.ntmps177;go_wp2_with fail;refine q.o.mono ?_;rintro e w1 ⟨rfl,rfl⟩;go_wp2_with fail;go_ret;exact⟨rfl,Ext.refl _⟩
end
def z1h(n:Int)(L:List En)(h b:Int):Nat->DM->Nat->List En->List En×Int×DM
 |0,σ,_,acc=>(acc,0,σ)
 | f +1,σ,i,acc=>if i<L.length then
   if (q1R σ n i).2.1≠0 then([],(q1R σ n i).2.1,(q1R σ n i).2.2)
   else if inE h b (q1R σ n i).1 then z1h n L h b f (q1R σ n i).2.2 (i+1) (acc++[(q1R σ n i).1])
   else(acc,0,(q1R σ n i).2.2)
  else(acc,0,σ)
def q3Y(σ:DM)(n:Int)(L:List En)(may:Int->Bool)(h a b:Int):List En×Int×DM:=
 if min b 1073741824<max a 0\/q5A L may h=false then([],0,σ)
 else if (q1z σ n L (h,max a 0,0)).2.1≠0 then([],(q1z σ n L (h,max a 0,0)).2.1,(q1z σ n L (h,max a 0,0)).2.2)
 else z1h n L h (min b 1073741824) (L.length+1) (q1z σ n L (h,max a 0,0)).2.2 (q1z σ n L (h,max a 0,0)).1 []
section
variable {w w' w1 w2:World}{t g:Nat}{n:Int}{L:List En}{may:Int->Bool}{T F V:Nat->Prop}{σ σ':DM}{row:Option Nat}
theorem Dk.grown(h:Dk w g F σ)(k:w.grownBy w' row)(d: ∀i,row=some i->¬F i):Dk w' g F σ:=
 h.held k.size fun i b=>k.block i (h.Flt i b) fun e=>d i e.symm b
structure RowV(w:World)(g:Nat)(F:Nat->Prop)(σ:DM)(W:World)(v:Value)(acc:List En):Prop where
 row:W.ownsRow w.heap.size 128 3 v acc.length (ecs acc)
 dk: ∃F',Dk W g F' σ/\(∀i,F' i->Gr F w W i)/\ ∀i,v.ownBlock=some i->¬F' i
 off:OffS F w W
theorem RowV.nil(h:DkS w g F σ w'):RowV w g F σ w' (.slice none 0 0) []:=
 ⟨World.ownsRow_nil _ _ _ _,⟨_,h.dk,fun i b=>b,fun i b=>by cases b⟩,h.off⟩
theorem RowV.ext{v:Value}{acc:List En}(h:RowV w g F σ W v acc)(k:Ext W W'):RowV w g F σ W' v acc:=by
 obtain⟨d,j,m,o⟩:=h.dk;refine⟨q0I h.row k,⟨d,j.ext k,fun i q=>?_,o⟩,h.off.trans (OffS.of_ext k)⟩;rcases m i q with b|b
 ·exact .inl b
 ·exact .inr ⟨b.1,Ψ b.2 k.size⟩
theorem RowV.step{v:Value}{acc:List En}{d:Nat->Prop}(h:RowV w g F σ W v acc)(r:Dk W g d σ)(m: ∀i,d i->Gr F w W i)(o: ∀i,v.ownBlock=some i->¬d i)(k:DkS W g d σ' W'):RowV w g F σ' W' v acc:=by
 have u:=k.off.size;refine⟨q0Z h.row fun i b=>k.off.block i (q0e h.row i b).2 (o i b),⟨_,k.dk,fun i b=>?_,fun i b q=>?_⟩,h.off.gr (k.off.mono fun i _ b=>m i b)⟩
 ·rcases b with b|b
  ·rcases m i b with j|j
   ·exact .inl j
   ·exact .inr ⟨j.1,by omega⟩
  ·exact .inr ⟨by have:=h.off.size;omega,b.2⟩
 ·exact Gr.not (o i b) (q0e h.row i b).2 q
theorem RowV.grow{v j:Value}{acc acc':List En}(h:RowV w g F σ W v acc)(C:W'.ownsRow w.heap.size 128 3 j acc'.length (ecs acc'))(d:W.grownBy W' v.ownBlock)(o:j.ownBlock=v.ownBlock\/j.ownBlock=some W.heap.size):RowV w g F σ W' j acc':=by
 obtain⟨x,q,y,r⟩:=h.dk;have E:=d.size;refine⟨C,⟨x,q.grown d fun i b=>r i b,fun i b=>?_,fun i b u=>?_⟩,?_⟩
 ·rcases y i b with m|m
  ·exact .inl m
  ·exact .inr ⟨m.1,by omega⟩
 ·rcases o with e|e
  ·exact r i (e▸b) u
  ·rw[e] at b;cases b
   have:=q.Flt _ u;omega
 ·refine⟨d.os.trans h.off.os,d.tape.trans h.off.tape,d.output.trans h.off.output,Ω h.off.size E,fun i b B=>?_⟩
  rw[d.block i (Ψ b h.off.size) fun e=>?_,h.off.block i b B];have:=(q0e h.row i e.symm).1;omega
theorem RowV.drop{v:Value}{acc:List En}(h:RowV w g F σ W v acc):RowV w g F σ W (.slice none 0 0) []:=by
 obtain⟨b,d,j,o⟩:=h.dk;exact⟨World.ownsRow_nil _ _ _ _,⟨b,d,j,fun i m=>by cases m⟩,h.off⟩
def y2F(w:World)(g:Nat)(F:Nat->Prop)(r:List En×Int×DM)(e:Ending)(w':World):Prop:=
 ∃v,e= .returned (.tuple #[v,.int .i64 r.2.1])/\RowV w g F r.2.2 w' v r.1
theorem y2B(h : TbD w t g n L may T F σ)(x a b:Int):
  Calls Tryz.prog 181 #[.pointer (some ⟨t,0,none⟩),.int .u64 x,.int .i64 a,.int .i64 b] w (y2F w g F (q3Y σ n L may x a b)):=by
 have HD:=η h;have HN:=η (z1o h.t);have e0:=η (y2X h.t x)
 have HM:Hd (q3Y σ n L may x a b=if min b 1073741824<max a 0\/q5A L may x=false then([],0,σ)
  else if (q1z σ n L (x,max a 0,0)).2.1≠0 then([],(q1z σ n L (x,max a 0,0)).2.1,(q1z σ n L (x,max a 0,0)).2.2)
  else z1h n L x (min b 1073741824) (L.length+1) (q1z σ n L (x,max a 0,0)).2.2 (q1z σ n L (x,max a 0,0)).1 []):=η rfl
 obtain⟨A,hA⟩: ∃A,max a 0=A:=⟨_,rfl⟩
 obtain⟨B,hB⟩: ∃B,min b 1073741824=B:=⟨_,rfl⟩
 rw[hA,hB] at HM;have HF:=η (fun W (k:Ext w W)=>z9p (h.ext k) (x,A,0));obtain⟨r,hr⟩: ∃r,q1z σ n L (x,A,0)=r:=⟨_,rfl⟩
 rw[hr] at HF HM;obtain⟨i0,c,σ1⟩:=r;simp only at HF HM;obtain⟨q,hq⟩: ∃q,q5A L may x=q:=⟨_,rfl⟩
 rw[hq] at e0 HM;clear h hr hq;by_cases J:B<A
 ·have hd:decide (B<A)=true:=ζ J
  have HE:Hd (q3Y σ n L may x a b=([],0,σ)):=η (by rw[HM.o,ξ (.inl J)]);clear HM J;go_enter Tryz.func181,Tryz.ntmps181;go_wp2_with fail;refine HN.o.mono ?_;rintro e w1 ⟨rfl,rfl⟩;go_wp2_with fail;go_ret2;rw[HE.o];exact⟨_,rfl,RowV.nil (DkS.refl HD.o.d)⟩
 ·have hd : decide (B<A)=false:=ε J
  cases q with
  | false=>
   have HE:Hd (q3Y σ n L may x a b=([],0,σ)):=η (by rw[HM.o,ξ (.inr rfl)]);clear HM J;go_enter Tryz.func181,Tryz.ntmps181;go_wp2_with fail;refine HN.o.mono ?_;rintro e w1 ⟨rfl,rfl⟩;go_wp2_with fail;refine e0.o.mono ?_;rintro e w2 ⟨rfl,hb⟩;have b0:=η hb;clear hb;go_wp2_with fail;go_ret2;rw[HE.o];exact⟨_,rfl,RowV.nil ((DkS.refl HD.o.d).ext b0.o)⟩
  | true =>
   have d0:Hd (q3Y σ n L may x a b=if c≠0 then([],c,σ1) else z1h n L x B (L.length+1) σ1 i0 []):=η (by rw[HM.o,κ (by simp[J])]);clear HM J;go_enter Tryz.func181,Tryz.ntmps181;go_wp2_with fail;refine HN.o.mono ?_;rintro e w1 ⟨rfl,rfl⟩;go_wp2_with fail;refine e0.o.mono ?_;rintro e w2 ⟨rfl,hb⟩;have b0:=η hb;clear hb;go_wp2_with fail;refine(HF.o _ b0.o).mono ?_;rintro e w3 ⟨rfl,Q⟩;have m0:=η (DkS.from HD.o.d b0.o Q);clear Q;by_cases hc:c=0
   ·subst hc
    have HE:Hd (z1h n L x B (L.length+1) σ1 i0 []=q3Y σ n L may x a b):=η (by rw[d0.o,κ (fun h=>h rfl)]);clear d0;have v0:Hd (∀W F',OffS F w W->(∀i,F' i->Gr F w W i)-> ∀X,Dk W g F' X->TbD W t g n L may T F' X):=η fun W F' h1 h2 X h3=>⟨h3,HD.o.t.off h1 HD.o.ap,fun i hi hf=>Gr.not (HD.o.ap i hi) (HD.o.t.lt i hi) (h2 i hf)⟩
    obtain⟨R,hR⟩: ∃R,q3Y σ n L may x a b=R:=⟨_,rfl⟩
    have y0:=HD.o.t.okL.len;have x0:Hd (∀X W v acc,RowV w g F X W v acc->w.heap.size<=W.heap.size):=η fun X W v acc h=>h.off.size
    rw[hR] at HE;have l0:=η hR;clear HN e0 HF hA hB hR;go_wp2_with fail
    go_loopw [10,12] (fun i v W=> ∃(k f:Nat) (X:DM) (acc:List En),L.length-k<f/\acc.length<=k/\i= .int .i64 (k:Int)/\z1h n L x B f X k acc=R/\RowV w g F X W v acc/\(k<=L.length\/acc.length=0)) (fun i _ _=>L.length-(intOf i).toNat)
    case atStart=>exact⟨i0,L.length+1,σ1,[],by omega,υ _,rfl,HE.o,RowV.nil m0.o,.inr rfl⟩
    case round =>
     obtain⟨k,f,X,acc,hf,p0,rfl,j,S,r0⟩:=hrel;obtain⟨f,rfl⟩: ∃f',f=f'+1:=⟨f-1,by omega⟩
     have k0:=η S;obtain⟨va,vc,rfl⟩:=q0F S.row;unfold z1h at j;obtain⟨F',f0,g0,Q⟩:=S.dk;have h0:=v0.o _ F' S.off g0 X f0;obtain⟨vv,pp,ss,mv,B0,c0,c1,c2,_⟩:=h0.t.cells;have u2:=q0D c2;by_cases s0:k<L.length
     ·have hd:decide ((k:Int)<(L.length:Int))=true:=ζ (by omega)
      have q1:IntKind.i64.wrap ((k:Int)+1)=(k:Int)+1:=by rw[ν];omega
      rw[ξ s0] at j;have G:=η (z3v h0 k (by omega));have Y:Hd (∀U W',DkS wr g F' U W'->RowV w g F U W' (.slice va acc.length vc) acc):=η fun U W' h=>k0.o.step f0 g0 Q h
      obtain⟨r,hr⟩: ∃r,q1R X n k=r:=⟨_,rfl⟩
      rw[hr] at j G;obtain⟨⟨m,u,E⟩,c,U⟩:=r;simp only at j;have G:Hd (Calls Tryz.prog 179 #[.pointer (some ⟨t,0,none⟩),.int .i64 (k:Int)] wr fun e w'=>e= .returned (.tuple #[.agg #[.int .u64 m,.int .i64 u,.int .i64 E],.int .i64 c])/\DkS wr g F' U w'):=G;have A0:=η hf;have w0:acc.length<=50000:=by omega
      obtain⟨al,N⟩: ∃al,acc.length=al:=⟨_,rfl⟩
      have j0:=η N;rw[N] at Y k0 w0 p0;rw[N];clear hr S h0 f0 g0 Q r0 N;generalize L.length=ll at*;by_cases hc:c=0
      ·subst hc
       rw[κ (fun h=>h rfl)] at j;by_cases M:m=x/\u<=B
       ·have C:inE x B (m,u,E)=true:=by unfold inE;rw[ζ M.1,ζ M.2];rfl
        rw[C,ξ rfl] at j;have I:=η j;have b1:(m !=x)=false:=by simpa using M.1
        have b2:decide (B<u)=false:=ε (by omega);clear j M C;go_wp2_with fail;refine G.o.mono ?_;rintro e w4 ⟨rfl,y⟩;have O:=η (Y.o _ _ y);clear y G Y;have z0:=x0.o _ _ _ _ O.o;have o0:=η ((O.o.ext (q0B w4 (.cells #[.int .u64 m,.int .i64 u,.int .i64 E] 128))).ext (q0B _ (.cells #[.int .u64 m,.int .i64 u,.int .i64 E] 128)))
        have n0:Hd (Rd ((w4.alloc (.cells #[.int .u64 m,.int .i64 u,.int .i64 E] 128)).alloc (.cells #[.int .u64 m,.int .i64 u,.int .i64 E] 128)) (some ⟨w4.heap.size+1,0,none⟩) (ec (m,u,E))):=η (by
         have h:=Rd.lit (w4.alloc (.cells #[.int .u64 m,.int .i64 u,.int .i64 E] 128)) #[.int .u64 m,.int .i64 u,.int .i64 E] 128;rw[ρ] at h
         exact h)
        have u0:Hd (((w4.alloc (.cells #[.int .u64 m,.int .i64 u,.int .i64 E] 128)).alloc (.cells #[.int .u64 m,.int .i64 u,.int .i64 E] 128)).ownsRow w.heap.size 128 3 (.slice va al vc) al (ecs acc)):=η (by have h:=o0.o.row;rw[j0.o] at h;exact h)
        go_wp2_with (at_builtin;refine q0K rfl (.tmp 68) (.tmp 70) 203 rfl w.heap.size 128 _ 3 24 Tryz.underlying203 Tryz.infoE (by decide) (by decide) _ al (ecs acc) rfl u0.o _ 1 1 (ec (m,u,E)) rfl rfl (fun h=>by cases h) n0.o (by unfold ec;simp[Value.oneCell']) (by unfold maxLen;omega) (by omega) (by simp;omega) ?_;intro v2 w5 a0 Z q0;obtain⟨a2,k2,rfl⟩:=q0F a0;have t0:=η (o0.o.grow (acc':=acc++[(m,u,E)]) (by rw[θ,j0.o,z5B];exact a0) Z (q0.imp id fun e=>e));clear a0 Z q0)
        go_roundw
        case rel=>exact⟨k+1,f,U,acc++[(m,u,E)],by omega,by simp;have:=j0.o;omega,by go_num,I.o,t0.o,.inl (by omega)⟩
        case measure=>simp[intOf];omega
       ·have C:inE x B (m,u,E)=false:=by
         unfold inE;by_cases e:m=x
         ·rw[ζ e,ε (fun h=>M ⟨e,h⟩)];rfl
         ·rw[ε e];rfl
        rw[C,κ (by decide)] at j;have I:=η j;have b1:(m !=x)=true\/((m !=x)=false/\decide (B<u)=true):=by
         by_cases e:m=x
         ·exact .inr ⟨by simpa using e,ζ (by have:¬u<=B:=fun h=>M ⟨e,h⟩;omega)⟩
         ·exact .inl (by simpa using e)
        clear j M C;rcases b1 with b1|⟨b1,b2⟩
        all_goals
         go_wp2_with fail;refine G.o.mono ?_;rintro e w4 ⟨rfl,y⟩;have O:=η ((Y.o _ _ y).ext (q0B w4 (.cells #[.int .u64 m,.int .i64 u,.int .i64 E] 128)));clear y;go_wp2_with fail;go_ret2;rw[l0.o,<-I.o];exact⟨_,rfl,O.o⟩
      ·rw[ξ hc] at j
       have hb:(c !=0)=true:=by simpa using hc
       have I:=η j;clear j hc;go_wp2_with fail;refine G.o.mono ?_;rintro e w4 ⟨rfl,y⟩;have O:=η ((Y.o _ _ y).ext (q0B w4 (.cells #[.int .u64 m,.int .i64 u,.int .i64 E] 128)));clear y;go_wp2_with fail;go_ret2;rw[l0.o,<-I.o];exact⟨_,rfl,O.o.drop⟩
     ·have hd:decide ((k:Int)<(L.length:Int))=false:=ε (by omega)
      rw[κ s0] at j;have I:=η j;clear j S h0 f0 g0 Q r0;go_wp2_with fail;go_ret2;rw[l0.o,<-I.o];exact⟨_,rfl,k0.o⟩
   ·have HE:Hd (q3Y σ n L may x a b=([],c,σ1)):=η (by rw[d0.o,ξ hc])
    have hb:(c !=0)=true:=by simpa using hc
    clear d0 hc;go_wp2_with fail;go_ret2;rw[HE.o];exact⟨_,rfl,RowV.nil m0.o⟩
end
theorem q0T{fn:Func}{p u v:Tmp}{ty:TypeId}(h:fn.results=#[.cell p ty,.tmp u,.tmp v])(tmps:Array Value)(P:Program)(w:World):
  (results fn tmps).run P w=
   ((asAddr (tmps.getD p undef)).run P w).andThen fun a w₁=>((loadVar ty a).run P w₁).andThen fun x b=> .ok (.tuple #[x,tmps.getD u undef,tmps.getD v undef]) b:=by
 simp only[results,h];simp[Sem.run_bind,Result.andThen]
theorem z1F(n:Int)(x:En): ∀(f:Nat) (σ:DM) (lo hi:Nat),lo<=hi->(q7s n x f σ lo hi).1<=hi
 |0,σ,lo,hi,h=>h
 | f + 1,σ,lo,hi,h=>by
  unfold q7s
  split
  ·split
   ·exact υ _
   ·split
    ·exact z1F n x f _ _ _ (by omega)
    ·exact Ω (z1F n x f _ lo ((lo+hi)/2) (by omega)) (by omega)
  ·exact h
theorem y0u{L:List En}(h:q1E L)(σ:DM)(n:Int)(x:En):(q1z σ n L x).1<=L.length:=by
 have b:=q9H x h;exact Ω (z1F n x _ σ _ _ (by omega)) b.2.2.2
def q3q(σ:DM)(n:Int)(L:List En)(may:Int->Bool)(h u:Int):En×Bool×Int×DM:=
 if min u 1073741824<0\/q5A L may h=false then(en0,false,0,σ)
 else if (q1z σ n L (h,min u 1073741824+1,0)).2.1≠0\/(q1z σ n L (h,min u 1073741824+1,0)).1=0 then(en0,false,(q1z σ n L (h,min u 1073741824+1,0)).2.1,(q1z σ n L (h,min u 1073741824+1,0)).2.2)
 else if (q1R (q1z σ n L (h,min u 1073741824+1,0)).2.2 n ((q1z σ n L (h,min u 1073741824+1,0)).1-1)).2.1≠0\/(q1R (q1z σ n L (h,min u 1073741824+1,0)).2.2 n ((q1z σ n L (h,min u 1073741824+1,0)).1-1)).1.1≠h
  then(en0,false,(q1R (q1z σ n L (h,min u 1073741824+1,0)).2.2 n ((q1z σ n L (h,min u 1073741824+1,0)).1-1)).2)
 else((q1R (q1z σ n L (h,min u 1073741824+1,0)).2.2 n ((q1z σ n L (h,min u 1073741824+1,0)).1-1)).1,true,0,(q1R (q1z σ n L (h,min u 1073741824+1,0)).2.2 n ((q1z σ n L (h,min u 1073741824+1,0)).1-1)).2.2)
section
variable {w w' w1 w2:World}{t g:Nat}{n:Int}{L:List En}{may:Int->Bool}{T F V:Nat->Prop}{σ σ':DM}
theorem z9r(h:TbD w t g n L may T F σ)(x u:Int)(hu: -9223372036854775808<=u):
  Calls Tryz.prog 118 #[.pointer (some ⟨t,0,none⟩),.int .u64 x,.int .i64 u] w fun e w'=>e= .returned (.tuple #[enV (q3q σ n L may x u).1,.bool (q3q σ n L may x u).2.1,.int .i64 (q3q σ n L may x u).2.2.1])/\DkS w g F (q3q σ n L may x u).2.2.2 w':=by
 have X:=Blk.new w 128 #[.int .u64 0,.int .i64 0,.int .i64 0];have e0:=q0B w (.cells #[.int .u64 0,.int .i64 0,.int .i64 0] 128);have w0:=η h;have x0:=η e0;have M:=h.d.Flt;have l0:=y0u h.t.okL.sort σ n;have v0:=h.t.okL.len
 replace h:=h.ext e0
 have HD:=η h;have HN:=η (z1o h.t);have b0:=η (y2X h.t x)
 have HM:Hd (∀A,A=min u 1073741824-> ∀r,q1z σ n L (x,A+1,0)=r-> ∀y,q1R r.2.2 n (r.1-1)=y-> ∀q,q5A L may x=q->
  q3q σ n L may x u=if A<0\/q=false then(en0,false,0,σ) else if r.2.1≠0\/r.1=0 then(en0,false,r.2.1,r.2.2) else if y.2.1≠0\/y.1.1≠x then(en0,false,y.2) else(y.1,true,0,y.2.2)):=η (by
   intro A hA r hr y hy q hq;subst hA hr hy hq
   rfl)
 obtain⟨A,hA⟩: ∃A,min u 1073741824=A:=⟨_,rfl⟩
 have y0: -9223372036854775808<=A/\A<=1073741824:=by omega
 have q1:IntKind.i64.wrap (A+1)=A+1:=by rw[ν];omega
 have HF:=η (fun W (k:Ext (w.alloc (.cells #[.int .u64 0,.int .i64 0,.int .i64 0] 128)) W)=>z9p (h.ext k) (x,A+1,0));have c0:=l0 (x,A+1,0);have j0:=η (HM.o A hA.symm);obtain⟨r,hr⟩: ∃r,q1z σ n L (x,A+1,0)=r:=⟨_,rfl⟩
 rw[hr] at HF c0;have k0:=η (j0.o r hr);obtain⟨q,hq⟩: ∃q,q5A L may x=q:=⟨_,rfl⟩
 obtain⟨i0,c,σ1⟩:=r;obtain⟨y,hy⟩: ∃y,q1R σ1 n (i0-1)=y:=⟨_,rfl⟩
 have C:=η (k0.o y hy q hq);simp only at C c0 HF;rw[hq] at b0;have u0:=η M;have m:=η X;have h0:Hd (∀N W,DkS (w.alloc (.cells #[.int .u64 0,.int .i64 0,.int .i64 0] 128)) g F N W->Blk W w.heap.size 128 #[.int .u64 0,.int .i64 0,.int .i64 0]):=η fun N W hd=>hd.off.blk X fun hf=>by have:=M _ hf;omega
 have b:Hd (∀N V W,DkS (w.alloc (.cells #[.int .u64 0,.int .i64 0,.int .i64 0] 128)) g F N V->OffS (fun i=>i=w.heap.size) V W->DkS w g F N W):=η fun N V W h1 h2=>by
  have s1:=h2.size;refine DkS.box (w1:=V) e0 h1 M s1 h2.os h2.tape h2.output fun i hi hn=>h2.block i hi fun e=>hn ?_
  subst e;exact⟨ι _,by rw[ρ];omega⟩
 have d0:Hd (∀N W W',Ext (w.alloc (.cells #[.int .u64 0,.int .i64 0,.int .i64 0] 128)) W->DkS W g F N W'->DkS (w.alloc (.cells #[.int .u64 0,.int .i64 0,.int .i64 0] 128)) g F N W'):=η fun N W W' h1 h2=>DkS.from h.d h1 h2
 have g0:Hd (∀N W,DkS (w.alloc (.cells #[.int .u64 0,.int .i64 0,.int .i64 0] 128)) g F N W->TbD W t g n L may T (Gr F (w.alloc (.cells #[.int .u64 0,.int .i64 0,.int .i64 0] 128)) W) N):=η fun N W h1=>h.disk h1
 have HY:=η hy;clear h hr hq hy M HM j0 k0 l0;by_cases E:A<0
 ·have hd:decide (A<0)=true:=ζ E
  have Y:Hd (q3q σ n L may x u=(en0,false,0,σ)):=η (by rw[C.o,ξ (.inl E)]);have r0:(w.alloc (.cells #[.int .u64 0,.int .i64 0,.int .i64 0] 128)).cell? ⟨w.heap.size,0,none⟩=some (Value.int .u64 0):=(m.o).cell 0;have r1:(w.alloc (.cells #[.int .u64 0,.int .i64 0,.int .i64 0] 128)).cell? ⟨w.heap.size,1,none⟩=some (Value.int .i64 0):=(m.o).cell 1;have r2:(w.alloc (.cells #[.int .u64 0,.int .i64 0,.int .i64 0] 128)).cell? ⟨w.heap.size,2,none⟩=some (Value.int .i64 0):=(m.o).cell 2;have z0:=(m.o).free 0;have z1:=(m.o).free 1;have z2:=(m.o).free 2;clear C E X;go_enter Tryz.func118,Tryz.ntmps118;go_wp2_with fail;refine HN.o.mono ?_;rintro e w1 ⟨rfl,rfl⟩;go_wp2_with fail
  (try simp only[Exit.inBlock,Exit.then])
  refine bodyPost_ret (v:= .tuple #[.agg #[.int .u64 (0),.int .i64 (0),.int .i64 (0)],.bool false,.int .i64 (0)]) (by rw[q0T rfl];go_simp) rfl ?_;rw[Y.o];refine⟨rfl,?_⟩
  first|exact b.o _ _ _ (DkS.refl HD.o.d) (OffS.refl _ _)|(refine b.o _ _ _ (DkS.refl HD.o.d) (OffS.trans (OffS.trans (OffS.set _ ?_ _ _) (OffS.set _ ?_ _ _)) (OffS.set _ ?_ _ _))<;>rfl)
 ·have hd :decide (A<0)=false:=ε E
  cases q with
  | false=>
   have Y:Hd (q3q σ n L may x u=(en0,false,0,σ)):=η (by rw[C.o,ξ (.inr rfl)]);clear C E X;go_enter Tryz.func118,Tryz.ntmps118;go_wp2_with fail;refine HN.o.mono ?_;rintro e w1 ⟨rfl,rfl⟩;go_wp2_with fail;refine b0.o.mono ?_;rintro e w2 ⟨rfl,B⟩;have Q:=η B;have r0:(w2).cell? ⟨w.heap.size,0,none⟩=some (Value.int .u64 0):=(m.o.ext B).cell 0;have r1:(w2).cell? ⟨w.heap.size,1,none⟩=some (Value.int .i64 0):=(m.o.ext B).cell 1;have r2:(w2).cell? ⟨w.heap.size,2,none⟩=some (Value.int .i64 0):=(m.o.ext B).cell 2;have z0:=(m.o.ext B).free 0;have z1:=(m.o.ext B).free 1;have z2:=(m.o.ext B).free 2;clear B;go_wp2_with fail
   (try simp only[Exit.inBlock,Exit.then])
   refine bodyPost_ret (v:= .tuple #[.agg #[.int .u64 (0),.int .i64 (0),.int .i64 (0)],.bool false,.int .i64 (0)]) (by rw[q0T rfl];go_simp) rfl ?_;rw[Y.o];refine⟨rfl,?_⟩
   first|exact b.o _ _ _ ((DkS.refl HD.o.d).ext Q.o) (OffS.refl _ _)|(refine b.o _ _ _ ((DkS.refl HD.o.d).ext Q.o) (OffS.trans (OffS.trans (OffS.set _ ?_ _ _) (OffS.set _ ?_ _ _)) (OffS.set _ ?_ _ _))<;>rfl)
  | true =>
   have a0:Hd (q3q σ n L may x u=if c≠0\/i0=0 then(en0,false,c,σ1) else if y.2.1≠0\/y.1.1≠x then(en0,false,y.2) else(y.1,true,0,y.2.2)):=η (by rw[C.o,κ (by simp[E])]);clear C E X;go_enter Tryz.func118,Tryz.ntmps118;go_wp2_with fail;refine HN.o.mono ?_;rintro e w1 ⟨rfl,rfl⟩;go_wp2_with fail;refine b0.o.mono ?_;rintro e w2 ⟨rfl,B⟩;have Q:=η B;clear B;go_wp2_with fail;refine(HF.o _ Q.o).mono ?_;rintro e w3 ⟨rfl,m0⟩;have R:=η (d0.o _ _ _ Q.o m0);clear m0 HF b0 HN;by_cases G:c≠0\/i0=0
   ·have Y:Hd (q3q σ n L may x u=(en0,false,c,σ1)):=η (by rw[a0.o,ξ G])
    have J:=h0.o _ _ R.o;have r0:(w3).cell? ⟨w.heap.size,0,none⟩=some (Value.int .u64 0):=(J).cell 0;have r1:(w3).cell? ⟨w.heap.size,1,none⟩=some (Value.int .i64 0):=(J).cell 1;have r2:(w3).cell? ⟨w.heap.size,2,none⟩=some (Value.int .i64 0):=(J).cell 2;have z0:=(J).free 0;have z1:=(J).free 1;have z2:=(J).free 2;have B:(c !=0)=true\/((c !=0)=false/\((i0:Int)==0)=true):=by
     by_cases e:c=0
     ·exact .inr ⟨by simpa using e,by rcases G with h|h;exact absurd e h;rw[h];rfl⟩
     ·exact .inl (by simpa using e)
    clear a0 G J;rcases B with B|⟨B,s0⟩
    all_goals
     go_wp2_with fail
     (try simp only[Exit.inBlock,Exit.then])
     refine bodyPost_ret (v:= .tuple #[.agg #[.int .u64 (0),.int .i64 (0),.int .i64 (0)],.bool false,.int .i64 (c)]) (by rw[q0T rfl];go_simp) rfl ?_;rw[Y.o];refine⟨rfl,?_⟩
     first|exact b.o _ _ _ R.o (OffS.refl _ _)|(refine b.o _ _ _ R.o (OffS.trans (OffS.trans (OffS.set _ ?_ _ _) (OffS.set _ ?_ _ _)) (OffS.set _ ?_ _ _))<;>rfl)
   ·have t0:c=0:=by by_cases e:c=0;exact e;exact absurd (.inl e) G
    have o0:i0≠0:=fun e=>G (.inr e)
    subst t0;have b2:((i0:Int)==0)=false:=by simp;exact o0
    obtain⟨j,hj⟩: ∃j,i0-1=j:=⟨_,rfl⟩
    have q2:IntKind.i64.wrap ((i0:Int)-1)=(j:Int):=by rw[ν];omega
    have U:Hd (q3q σ n L may x u=if y.2.1≠0\/y.1.1≠x then(en0,false,y.2) else(y.1,true,0,y.2.2)):=η (by rw[a0.o,κ G]);have Z:=η (z3v (g0.o _ _ R.o) j (by omega));have p0:q1R σ1 n j=y:=by rw[<-hj];exact HY.o
    rw[p0] at Z;obtain⟨⟨O,y2,y3⟩,cy,f0⟩:=y;have Z:Hd (Calls Tryz.prog 179 #[.pointer (some ⟨t,0,none⟩),.int .i64 (j:Int)] w3 fun e w'=>e= .returned (.tuple #[.agg #[.int .u64 O,.int .i64 y2,.int .i64 y3],.int .i64 cy])/\DkS w3 g (Gr F (w.alloc (.cells #[.int .u64 0,.int .i64 0,.int .i64 0] 128)) w3) f0 w'):=Z;simp only at U;clear a0 G o0 hj p0 HY;go_wp2_with fail;refine Z.o.mono ?_;rintro e w4 ⟨rfl,n0⟩;have q0:=η (R.o.trans n0);have S:=η (q0.o.ext (q0B w4 (.cells #[.int .u64 O,.int .i64 y2,.int .i64 y3] 128)));have J:=h0.o _ _ S.o;have r0:(w4.alloc (.cells #[.int .u64 O,.int .i64 y2,.int .i64 y3] 128)).cell? ⟨w.heap.size,0,none⟩=some (Value.int .u64 0):=(J).cell 0;have r1:(w4.alloc (.cells #[.int .u64 O,.int .i64 y2,.int .i64 y3] 128)).cell? ⟨w.heap.size,1,none⟩=some (Value.int .i64 0):=(J).cell 1;have r2:(w4.alloc (.cells #[.int .u64 O,.int .i64 y2,.int .i64 y3] 128)).cell? ⟨w.heap.size,2,none⟩=some (Value.int .i64 0):=(J).cell 2;have z0:=(J).free 0;have z1:=(J).free 1;have z2:=(J).free 2;clear n0 J;by_cases I:cy≠0\/O≠x
    ·have Y:Hd (q3q σ n L may x u=(en0,false,cy,f0)):=η (by rw[U.o,ξ I])
     have B:(cy !=0)=true\/((cy !=0)=false/\(O !=x)=true):=by
      by_cases e:cy=0
      ·exact .inr ⟨by simpa using e,by rcases I with h|h;exact absurd e h;simpa using h⟩
      ·exact .inl (by simpa using e)
     clear U I;rcases B with B|⟨B,s0⟩
     all_goals
      go_wp2_with fail
      (try simp only[Exit.inBlock,Exit.then])
      refine bodyPost_ret (v:= .tuple #[.agg #[.int .u64 (0),.int .i64 (0),.int .i64 (0)],.bool false,.int .i64 (cy)]) (by rw[q0T rfl];go_simp) rfl ?_;rw[Y.o];refine⟨rfl,?_⟩
      first|exact b.o _ _ _ S.o (OffS.refl _ _)|(refine b.o _ _ _ S.o (OffS.trans (OffS.trans (OffS.set _ ?_ _ _) (OffS.set _ ?_ _ _)) (OffS.set _ ?_ _ _))<;>rfl)
    ·have e1:cy=0:=by by_cases e:cy=0;exact e;exact absurd (.inl e) I
     have e2:O=x:=by by_cases e:O=x;exact e;exact absurd (.inr e) I
     have Y:Hd (q3q σ n L may x u=((O,y2,y3),true,0,f0)):=η (by rw[U.o,κ I]);subst e1;have b3:(O !=x)=false:=by simpa using e2
     clear U I e2;go_wp2_with fail
     (try simp only[Exit.inBlock,Exit.then])
     refine bodyPost_ret (v:= .tuple #[.agg #[.int .u64 (O),.int .i64 (y2),.int .i64 (y3)],.bool true,.int .i64 (0)]) (by rw[q0T rfl];go_simp) rfl ?_;rw[Y.o];refine⟨rfl,?_⟩
     first|exact b.o _ _ _ S.o (OffS.refl _ _)|(refine b.o _ _ _ S.o (OffS.trans (OffS.trans (OffS.set _ ?_ _ _) (OffS.set _ ?_ _ _)) (OffS.set _ ?_ _ _))<;>rfl)
end
def z6L(σ:DM)(n:Int):List En×Int×DM:=
 if (q0a σ (q0C 116 n)).2.1≠0 then([],q1y (q0a σ (q0C 116 n)).2.1,(q0a σ (q0C 116 n)).2.2)
 else match q8v (q0a σ (q0C 116 n)).1 with
 |none=>([],90,(q0a σ (q0C 116 n)).2.2)
 |some l=>(l,0,(q0a σ (q0C 116 n)).2.2)
section
variable {w w' w1 w2:World}{t g:Nat}{n:Int}{L:List En}{may:Int->Bool}{T F V:Nat->Prop}{σ σ':DM}
theorem RowV.fresh{v:Value}{acc:List En}(h:DkS w g F σ W)(k:Ext W W')(d:W'.ownsRow W.heap.size 128 3 v acc.length (ecs acc)):RowV w g F σ W' v acc:=by
 have m:=h.off.size;refine⟨q1I d m,⟨_,h.dk.ext k,fun i b=>?_,fun i b j=>?_⟩,h.off.trans (OffS.of_ext k)⟩
 ·rcases b with b|b
  ·exact .inl b
  ·exact .inr ⟨b.1,Ψ b.2 k.size⟩
 ·have o:=(q0e d i b).1
  have q:=h.dk.Flt i j;omega
theorem y5Y(h:TbD w t g n L may T F σ):
  Calls Tryz.prog 168 #[.pointer (some ⟨t,0,none⟩)] w (y2F w g F (z6L σ n)):=by
 have HD:=η h;have HN:=η (z1o h.t);have HT:=η (fun W=>q9Y n W);have M:=q3L 116 n
 have q:Hd (z6L σ n=if (q0a σ (q0C 116 n)).2.1≠0 then([],q1y (q0a σ (q0C 116 n)).2.1,(q0a σ (q0C 116 n)).2.2)
  else match q8v (q0a σ (q0C 116 n)).1 with
  |none=>([],90,(q0a σ (q0C 116 n)).2.2)
  |some l=>(l,0,(q0a σ (q0C 116 n)).2.2)):=η rfl
 have O:=η (fun W (k:Ext w W)=>z1r (h.d.ext k) (q0C 116 n) M);have j:=q9o h.d.1 (q0C 116 n);generalize q0C 116 n=TN at*;obtain⟨r,hr⟩: ∃r,q0a σ TN=r:=⟨_,rfl⟩
 rw[hr] at O q j;obtain⟨S,c,σ1⟩:=r;simp only at O q j;obtain⟨v,p,s,mv,N,c0,c1,_⟩:=h.t.cells;have d0:=q0A (Ext.refl _).drew c0;have d1:=q0A (Ext.refl _).drew c1;have G:=η ((Ext.refl w).drew);have I:=η (h.ap t N);clear h hr M N;go_enter Tryz.func168,Tryz.ntmps168;go_wp2_with fail;refine HN.o.mono ?_;rintro e w1 ⟨rfl,rfl⟩;go_wp2_with fail
 go_region_held3 (fun W=>W.cell? ⟨t,0,none⟩=some (.pointer (some ⟨g,0,none⟩))/\W.cell? ⟨t,1,none⟩=some (.int .i64 n))
  (first|exact E.o|exact m.o|exact⟨d0,d1⟩)
  (first
   |(go_at_call 215;refine(HT.o _).mono ?_;rintro e wa ⟨rfl,J⟩;have Z:=η J;have U:=η (G.o.trans J);have m:=η (And.intro (q0A J d0) (q0A J d1));clear J)
   |(go_at_call 214;refine(O.o _ U.o).mono ?_;rintro e wb ⟨rfl,R⟩;have H2:=η R;have E:=η (And.intro (q8C R.off m.o.1 I.o) (q8C R.off m.o.2 I.o));clear R))
 all_goals
  have x:=η (DkS.from HD.o.d U.o H2.o);clear G Z m H2 E d0 d1 c0 c1 O HT U;by_cases Q:c=0
  ·subst Q
   have b:=η (fun W=>y2W S W j)
   cases hg:q8v S with
   | none=>
    have C:Hd (z6L σ n=([],90,σ1)):=η (by rw[q.o,κ (fun h=>h rfl),hg]);rw[hg] at b;clear hg q j;go_wp2_with fail;refine(b.o _).mono ?_;rintro e wc ⟨rfl,B⟩;have y:=η B;clear B b;go_wp2_with fail;go_ret2;rw[C.o];exact⟨_,rfl,RowV.nil (x.o.ext y.o)⟩
   | some l=>
    have C:Hd (z6L σ n=(l,0,σ1)):=η (by rw[q.o,κ (fun h=>h rfl),hg]);rw[hg] at b;clear hg q j;go_wp2_with fail;refine(b.o _).mono ?_;rintro e wc ⟨vv,rfl,u,B⟩;have y:=η B;have Y:=η u;clear B b u;go_wp2_with fail;go_ret2;rw[C.o];exact⟨_,rfl,RowV.fresh x.o y.o Y.o⟩
  ·have C:Hd (z6L σ n=([],q1y c,σ1)):=η (by rw[q.o,ξ Q])
   have B:(c !=0)=true:=by simpa using Q
   have X:=η (fun W=>z0x c W);clear q Q j;go_wp2_with fail;refine(X.o _).mono ?_;rintro e wc ⟨rfl,rfl⟩;go_wp2_with fail;go_ret2;rw[C.o];exact⟨_,rfl,RowV.nil x.o⟩
end
def tellN :Nat->DM->DM
 |0,σ=>σ
 |c+1,σ=>tellN c (q2p σ)
theorem q2L(c:Nat)(σ:DM):tellN (c+1) σ=tellN c (q2p σ):=rfl
theorem q3w(a b:Nat)(σ:DM):tellN a (tellN b σ)=tellN (b+a) σ:=by
 induction b generalizing σ with
 |zero=>simp[tellN]
 |succ b ih=>rw[q2L,ih,show b+1+a=(b+a)+1 by omega,q2L]
theorem q9Z(a:Nat)(σ:DM):q2p (tellN a σ)=tellN (a+1) σ:=by
 have:=q3w 1 a σ
 simpa [tellN] using this
theorem y3t(c:Nat): ∀σ:DM,(tellN c σ).L=σ.L:=by induction c with|zero=>intro σ;rfl|succ c ih=>intro σ;rw[q2L,ih];rfl
theorem z7G(c:Nat): ∀σ:DM,(tellN c σ).down=σ.down:=by induction c with|zero=>intro σ;rfl|succ c ih=>intro σ;rw[q2L,ih];rfl
structure Wl(σ:DM)(n:Int)(L:List En):Prop where
 up:σ.down=false
 file: ∃f,q0G FM.nm (q0C 116 n) σ.L=some f/\f.da=q2b L
theorem Wl.tell{σ:DM}{n:Int}{L:List En}(h:Wl σ n L):Wl (q2p σ) n L:=⟨h.up,h.file⟩
theorem Wl.tellN{σ:DM}{n:Int}{L:List En}(h:Wl σ n L)(c:Nat):Wl (tellN c σ) n L:=⟨by rw[z7G];exact h.up,by rw[y3t];exact h.file⟩
theorem q8m{σ:DM}{n:Int}{L:List En}(h:Wl σ n L)(q: ∀e∈L,q3Q e=true)(m:i<L.length):q1R σ n i=(L[i],0,q2p σ):=by
 obtain⟨f,j,d⟩:=h.file;have o:=q3B L;have r:q1w σ (q0C 116 n) (8+24*(i:Int)) 24=(((q2b L).drop (8+24*i)).take 24,0,q2p σ):=by
  unfold q1w;rw[κ (by rw[h.up];decide),j];simp only;rw[d,ξ (by rw[o];omega)];have b:(8+24*(i:Int)).toNat=8+24*i:=by omega
  rw[b]
  rfl
 unfold q1R;rw[r];simp only;rw[κ (fun h=>h rfl),y2z q m]
theorem q8G{n:Int}{L:List En}(m:q1E L)(j: ∀e∈L,q3Q e=true)(x:En): ∀(c f:Nat) (σ:DM) (lo hi:Nat),Wl σ n L->lo<=lbE L x->lbE L x<=hi->hi<=L.length->hi-lo<2^c->c<=f->
  ∃k,k<=c/\q7s n x f σ lo hi=(lbE L x,0,tellN k σ)
 | 0,f,σ,lo,hi,hw,h1,h2,h3,h4,h5=>by
  have:lo=hi:=by simp at h4;omega
  subst this;have e:lo=lbE L x:=by omega
  refine⟨0,ι _,?_⟩
  cases f with
  |zero=>rw[q7s,e];rfl
  |succ f=>rw[q7s,κ (by omega),e];rfl
 | c + 1,f,σ,lo,hi,hw,h1,h2,h3,h4,h5=>by
  obtain⟨f,rfl⟩: ∃q,f=q+1:=⟨f-1,by omega⟩
  rw[Nat.pow_succ] at h4;unfold q7s;by_cases b:lo<hi
  ·rw [ξ b]
   have hm:(lo+hi)/2<L.length:=by omega
   rw[q8m hw j hm];simp only;rw[κ (fun h=>h rfl)];have d:=q4R x m (i:=(lo+hi)/2) (γ hm);rw[d];by_cases o:(lo+hi)/2<lbE L x
   ·rw[ζ o,ξ rfl]
    obtain⟨k,r,e⟩:=q8G m j x c f (q2p σ) ((lo+hi)/2+1) hi hw.tell (by omega) h2 h3 (by omega) (by omega);exact⟨k+1,by omega,by rw[e,q2L]⟩
   ·rw[ε o,κ (by decide)]
    obtain⟨k,r,e⟩:=q8G m j x c f (q2p σ) lo ((lo+hi)/2) hw.tell h1 (by omega) (by omega) (by omega) (by omega);exact⟨k+1,by omega,by rw[e,q2L]⟩
  ·rw[κ b]
   exact⟨0,by omega,by rw[show lo=lbE L x by omega];rfl⟩
theorem z5I{σ:DM}{n:Int}{L:List En}(h:Wl σ n L)(b:q1E L)(o: ∀e∈L,q3Q e=true)(x:En): ∃k,k<=3/\q1z σ n L x=(lbE L x,0,tellN k σ):=by
 obtain⟨d,j,q,m⟩:=q9H x b;unfold q1z;generalize q1F L.length x 0 (q3K L)=z at*;by_cases u:L.length+1<3
 ·obtain⟨k,r,e⟩:=q8G b o x (L.length+1) (L.length+1) σ z.1 z.2 h d j m (by
   have:L.length+1<2^(L.length+1):=Nat.lt_two_pow_self
   omega) (ι _)
  exact⟨k,by omega,e⟩
 ·exact q8G b o x 3 (L.length+1) σ z.1 z.2 h d j m (by omega) (by omega)
theorem z6C{n:Int}{L:List En}(m: ∀e∈L,q3Q e=true)(h b:Int): ∀(f:Nat) (σ:DM) (i:Nat) (acc:List En),Wl σ n L->L.length-i<f->
  ∃k,k<=((L.drop i).takeWhile (inE h b)).length+1/\z1h n L h b f σ i acc=(acc++(L.drop i).takeWhile (inE h b),0,tellN k σ)
 |0,σ,i,acc,hw,hf=>by omega
 | f + 1,σ,i,acc,hw,hf=>by
  unfold z1h;by_cases j:i<L.length
  ·rw [ξ j,q8m hw m j]
   simp only;rw[κ (fun h=>h rfl),List.drop_eq_getElem_cons j,List.takeWhile_cons];by_cases d:inE h b L[i]=true
   ·rw[ξ d,ξ d]
    obtain⟨k,o,e⟩:=z6C m h b f (q2p σ) (i+1) (acc++[L[i]]) hw.tell (by omega);exact⟨k+1,by rw[χ];omega,by rw[e,q2L,List.append_assoc];rfl⟩
   ·rw[κ d,κ d]
    exact⟨1,by simp,by rw[List.append_nil];rfl⟩
  ·rw[κ j,List.drop_of_length_le (by omega)]
   exact⟨0,by simp,by rw[List.takeWhile_nil,List.append_nil];rfl⟩
theorem z9B{L:List En}{may:Int->Bool}(j: ∀x∈L,may x.1=true){h:Int}(hm:q5A L may h=false): ∀x∈L,x.1≠h:=fun x d e=>by
 unfold q5A at hm;have b:=j x d;rw[e] at b;rw[b,Bool.and_true] at hm;have:0<L.length:=List.length_pos_of_mem d;rw[ζ this] at hm
 cases hm
theorem z9V{σ:DM}{n:Int}{L:List En}{may:Int->Bool}(h:Wl σ n L)(m:q1E L)(d: ∀e∈L,q3Q e=true)(r: ∀x∈L,may x.1=true)(x a b:Int):
  ∃k,k<=(q1D L x (max a 0) (min b 1073741824)).length+4/\(q5A L may x=false->k=0)/\q3Y σ n L may x a b=(q1D L x (max a 0) (min b 1073741824),0,tellN k σ):=by
 unfold q3Y;by_cases hc:min b 1073741824<max a 0\/q5A L may x=false
 ·rw [ξ hc]
  have e:q1D L x (max a 0) (min b 1073741824)=[]:=by
   unfold q1D;refine List.filter_eq_nil_iff.2 fun y u=>?_
   simp only[Ξ,Φ];rintro⟨⟨q,C⟩,E⟩;rcases hc with hc|hc
   ·omega
   ·exact z9B r hc y u q
  rw[e];exact⟨0,by simp,fun _=>rfl,rfl⟩
 ·rw[κ hc]
  obtain⟨k,G,e⟩:=z5I h m d (x,max a 0,0);rw[e];simp only;rw[κ (fun h=>h rfl)];obtain⟨B,j,o⟩:=z6C d x (min b 1073741824) (L.length+1) (tellN k σ) (lbE L (x,max a 0,0)) [] (h.tellN k) (by omega);rw[o,<-q4S m d,List.nil_append,q3w];rw[<-q4S m d] at j;exact⟨k+B,by omega,fun hm=>absurd (.inr hm) hc,rfl⟩
theorem y1J{σ:DM}{n:Int}{L:List En}{may:Int->Bool}(h:Wl σ n L)(r:q1E L)(o: ∀e∈L,q3Q e=true)(C: ∀x∈L,may x.1=true)(x u:Int):
  ∃ k,k<=5/\(q5A L may x=false->k=0)/\q3q σ n L may x u=match (if u<0 then none else q3f L x (min u 1073741824)) with
   |none=>(en0,false,0,tellN k σ)
   |some y=>(y,true,0,tellN k σ):=by
 unfold q3q;by_cases hc:min u 1073741824<0\/q5A L may x=false
 ·rw [ξ hc]
  refine⟨0,by omega,fun _=>rfl,?_⟩;by_cases j:u<0
  ·rw[ξ j];rfl
  ·rw [κ j]
   have hm:q5A L may x=false:=by rcases hc with hc|hc;omega;exact hc
   have e:q3f L x (min u 1073741824)=none:=by
    unfold q3f;rw[List.filter_eq_nil_iff.2 fun y E=>?_]
    ·rfl
    ·unfold inE
     rw[ε (z9B C hm y E)];simp
   rw[e];rfl
 ·rw [κ hc]
  have j:¬u<0:=fun h=>hc (.inl (by omega))
  rw[κ j];obtain⟨k,G,e⟩:=z5I h r o (x,min u 1073741824+1,0);have b:=z8n (l:=L) (h:=x) (t:=min u 1073741824) r o;have B:=q5J L (x,min u 1073741824+1,0);rw[e];simp only;generalize lbE L (x,min u 1073741824+1,0)=lb at*;by_cases d:lb=0
  ·rw[ξ d] at b
   rw[ξ (.inr d),b];exact⟨k,by omega,fun hm=>absurd (.inr hm) hc,rfl⟩
  ·rw [κ d] at b
   rw[κ (by simp[d])];have q:lb-1<L.length:=by omega
   rw[γ q] at b;rw[q8m (h.tellN k) o q];simp only at b⊢;by_cases m:L[lb-1].1=x
   ·rw[ξ m] at b
    rw[κ (by simp[m]),b];exact⟨k+1,by omega,fun hm=>absurd (.inr hm) hc,by simp only;rw[q9Z]⟩
   ·rw[κ m] at b
    rw[ξ (.inr m),b];exact⟨k+1,by omega,fun hm=>absurd (.inr hm) hc,by simp only;rw[q9Z]⟩
theorem q9m{σ:DM}{nm:List UInt8}(b:σ.down=false)(d:q0G FM.nm nm σ.L=some f):q0a σ nm=(f.da,0,q2p σ):=by
 have m:q1l σ nm=((f.da.length:Int),0):=by unfold q1l;rw[κ (by rw[b];decide),d]
 unfold q0a;rw[m];simp only;rw[κ (fun h=>h rfl)];unfold q1w;rw[κ (by rw[b];decide),d];simp only;rw[ξ (by omega)];have j:((f.da.length:Int)).toNat=f.da.length:=by omega
 rw[j];simp
theorem z9w{σ:DM}{nm:List UInt8}(b:σ.down=false)(d:q0G FM.nm nm σ.L=none):q0a σ nm=([],4,σ):=by
 have j:q1l σ nm=(0,4):=by unfold q1l;rw[κ (by rw[b];decide),d]
 unfold q0a;rw[j];simp only;rw[ξ (by decide)]
theorem z9x{σ:DM}(nm:List UInt8)(b:σ.down=false): ∃s c k,q0a σ nm=(s,c,tellN k σ)/\c≠61/\k<=1:=by
 cases hf:q0G FM.nm nm σ.L with
 |none=>exact⟨_,_,0,z9w b hf,by decide,by omega⟩
 |some f=>exact⟨_,_,1,q9m b hf,by decide,by omega⟩
theorem z5i{σ:DM}{n:Int}{L:List En}(h:Wl σ n L)(o:q1E L)(m: ∀e∈L,q3Q e=true)(j:L.length<4294967296): ∃k,k<=2/\q5O σ n=(some L,0,tellN k σ):=by
 obtain⟨f,d,b⟩:=h.file;unfold q5O;rw[q9m h.up d];simp only;rw[κ (fun h=>h rfl),b,z5R o m j];obtain⟨s,c,k,e,hc,q⟩:=z9x (σ:=q2p σ) (q0C 98 n) h.up;rw[e];simp only;rw[κ hc];exact⟨k+1,by omega,by rw[q2L]⟩
theorem y2d{σ:DM}{n:Int}{L:List En}(h:Wl σ n L)(o:q1E L)(m: ∀e∈L,q3Q e=true)(j:L.length<4294967296):z6L σ n=(L,0,q2p σ):=by
 obtain⟨f,d,b⟩:=h.file;unfold z6L;rw[q9m h.up d];simp only;rw[κ (fun h=>h rfl),b,z5R o m j]
theorem z1u{nm t:List UInt8}: ∀{l:List (List UInt8×List UInt8)},(∀y∈l,y.1≠nm)->q1Z Prod.fst nm (fun x=>(x.1,x.2++t)) (q2G Prod.fst (nm,[]) l)=q2G Prod.fst (nm,t) l
 |[],_=>by simp[q2G,q1Z]
 | y ::r,h=>by
  have b:(y.1==nm)=false:=by simpa using h y (by simp)
  unfold q2G
  split
  ·rw[q1Z,List.map_cons,ξ (by simp)]
   have:=q3D (k:=Prod.fst) (f:=fun x:List UInt8×List UInt8=>(x.1,x.2++t)) (nm:=nm) (l:=y::r) h;rw[q1Z] at this;rw[this];rfl
  ·rw[q1Z,List.map_cons,κ (by rw[b];decide),<-q1Z,z1u fun z d=>h z (by simp[d])]
theorem Pl.lay{σ:DM}{s:Int}{nm t:List UInt8}(h:Pl σ c s l)(r:q0G Prod.fst nm l=none)(E:q2h nm=true)(hm:l.length<400)(G:(t.length:Int)<=c-(q1q l:Int)): ∃σ',q3x σ nm t=(0,σ')/\Pl σ' c s (q2G Prod.fst (nm,t) l):=by
 obtain⟨σ1,y,J⟩:=h.create r E hm;have j:=q0l r;have b: ∃x,q0G Prod.fst nm (q2G Prod.fst (nm,[]) l)=some x:=by
  cases hh:q0G Prod.fst nm (q2G Prod.fst (nm,[]) l) with
  |some x=>exact⟨x,rfl⟩
  |none=>exact absurd rfl (q0l hh (nm,[]) (mem_insN.2 (.inl rfl)))
 obtain⟨O,m⟩:=b;have I:q1q (q2G Prod.fst (nm,([]:List UInt8)) l)=q1q l:=by
  unfold q1q q5z;rw[((q3p (k:=Prod.fst) (nm,([]:List UInt8)) l).map _).sum_nat];simp
 obtain⟨N,B,u⟩:=J.append (t:=t) m (by rw[I];exact G);rw[z1u j] at u;have d: ∃x,q0G Prod.fst nm (q2G Prod.fst (nm,t) l)=some x:=by
  cases hh:q0G Prod.fst nm (q2G Prod.fst (nm,t) l) with
  |some x=>exact⟨x,rfl⟩
  |none=>exact absurd rfl (q0l hh (nm,t) (mem_insN.2 (.inl rfl)))
 obtain⟨Q,o⟩:=d;obtain⟨q,C,M⟩:=u.sync o;refine⟨q,?_,M⟩;unfold q3x;rw[y];simp only;rw[κ (fun h=>h rfl),B];simp only;rw[κ (fun h=>h rfl),C]
theorem q3s(n m:Int)(b:0<=n/\n<=999999)(hm:0<=m/\m<=999999):q0C 116 n≠q0C 98 m:=by
 rw[q0X b,q0X hm];intro h
 cases (List.cons.inj h).1
theorem z5h(c:UInt8){n:Int}(b:0<=n/\n<=999999):q2h (q0C c n)=true:=by rw[q0X b];simp[q2h,q0n]
theorem q6l{b:Type}{k:b->List UInt8}{x:b}: ∀{l:List b},(∀y∈l,k y≠k x)->q0G k (k x) (q2G k x l)=some x
 |[],_=>by simp[q2G,q0G]
 | y ::r,h=>by
  unfold q2G
  split
  ·simp[q0G]
  ·have d:(k y==k x)=false:=by simpa using h y (by simp)
   have:=q6l (k:=k) (x:=x) (l:=r) fun z j=>h z (by simp[j])
   unfold q0G at this⊢;rw[List.find?_cons,d,this]
theorem q3o{d:Type}{k:d->List UInt8}{x:d}{nm:List UInt8}(b:k x≠nm): ∀{l:List d},q0G k nm (q2G k x l)=q0G k nm l
 | []=>by
  have:(k x==nm)=false:=by simpa using b
  simp[q2G,q0G,this]
 | y ::r=>by
  have j:(k x==nm)=false:=by simpa using b
  unfold q2G
  split
  ·simp[q0G,j]
  ·have:=q3o (k:=k) (x:=x) (nm:=nm) b (l:=r)
   unfold q0G at this⊢;rw[List.find?_cons,List.find?_cons,this]
theorem q5W(x:List UInt8×List UInt8)(l:List (List UInt8×List UInt8)):q1q (q2G Prod.fst x l)=q1q l+x.2.length:=by
 unfold q1q q5z;rw[((q3p (k:=Prod.fst) x l).map _).sum_nat];simp;omega
theorem Pl.write{σ:DM}{s:Int}(h:Pl σ c s l){n:Int}(b:0<=n/\n<=999999){L:List En}(r:q2k L=true){f:List UInt8}
  (o:q0G Prod.fst (q0C 116 n) l=none)(q:q0G Prod.fst (q0C 98 n) l=none)(hm:l.length<398)(y:6000<=c-(q1q l:Int)-((q2b L).length:Int)-(f.length:Int)):
  ∃σ',q0o σ n L f=(0,σ')/\Pl σ' c s (q2G Prod.fst (q0C 116 n,q2b L) (q2G Prod.fst (q0C 98 n,f) l)):=by
 obtain⟨σ1,j,u⟩:=h.lay (t:=f) q (z5h 98 b) (by omega) (by omega);obtain⟨d,m,x⟩:=u.lay (t:=q2b L) (nm:=q0C 116 n) (by rw[q3o (by exact(q3s n n b b).symm)];exact o) (z5h 116 b) (by rw[q2y];omega) (by rw[q5W];simp only;omega);refine⟨d,?_,x⟩;unfold q0o;rw[κ (by rw[r];simp;omega),κ (by rw[h.up];decide),h.free,κ (by omega),j];simp only;rw[κ (fun h=>h rfl),m]
theorem Pl.wl{σ:DM}{s:Int}{n:Int}{L:List En}{x:List UInt8}(h:Pl σ c s l)(j:q0G Prod.fst (q0C 116 n) l=some (x,q2b L)):Wl σ n L:=by
 obtain⟨f,b,d⟩:=h.find_some j;refine⟨h.up,f,b,?_⟩;have:=congrArg Prod.snd d;exact this
end
end Go.Proofs.YtjlcdfpbllobaaaGreatDoor
