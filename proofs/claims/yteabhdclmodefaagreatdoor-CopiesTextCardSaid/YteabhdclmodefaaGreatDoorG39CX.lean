/- Walks. -/
import Derived.Deep.RegionHeldLaw
import Derived.Test.YteabhdclmodefaaGreatDoorG38CX
import Derived.Lib.SmallJoins
import Derived.Deep.Strs
set_option linter.unusedVariables false
set_option linter.unusedSimpArgs false
set_option maxRecDepth 100000
set_option maxHeartbeats 12800000
namespace Go.Proofs.YteabhdclmodefaaGreatDoor
variable {H:Type}{fuel cap:Nat}{ao:Option Addr}{L:List To}
section
open Go.RowKit
section
variable {wb w W W':World}{g gs mb rate u n k:Nat}{sd c:Int}{bs bs2:List Bt}{vL vM:Value}{str:List UInt8}{P D:Bool->Option (Nat×Int)}{X X':Nat->Prop}
end
section
variable {wb w W W':World}{g gs gs' mb rate u n k:Nat}{sd c:Int}{bs bs2:List Bt}{vL vM:Value}{str str':List UInt8}{X X':Nat->Prop}
end
theorem q9p : ∀(L acc:List To),q5C acc L=true->((L.map toB).flatten).length<=400*L.length
 |[],_,_=>υ _
 | t::r,acc,h=>by
  rw[q5C,Ξ] at h;obtain⟨h1,h2,_⟩:=q9q h.1;have h3:=q7e h1 h2;have h4:=q9p r _ h.2;rw[List.map_cons,List.flatten_cons,θ,χ];omega
end
section
open Go.RowKit Go.WideShapes Go.ChangeShapes Go.Deep
theorem z2E{enc:TypeId×Value->H}{P:Program}{w:World}{base:Nat}{d:Nat->Bool}{i:Bool}{t:TypeId}{c:Value}{y:DataW H×List MemPlace}(j:P.underlying t=some (.float .f64))
  (h:DataW.trod enc P w base d i fuel t [c]=some y): ∃b,c= .float .f64 b/\b<18446744073709551616:=by
 cases fuel with
 |zero=>simp[DataW.trod] at h
 | succ n=>
  simp only[DataW.trod,j] at h
  cases c<;>simp at h;rename_i k' b;obtain⟨⟨h1,h2⟩,_⟩:=h;subst h1;exact⟨b,rfl,by simpa [Lit.wf] using h2⟩
structure y1a(x:To):Prop where
 s:x.s.length<=9223372036854775807
 t:x.e.ty.length<=9223372036854775807
 d:x.e.da.length<=9223372036854775807
 v0: -9223372036854775808<=x.v
 v1:x.v<=9223372036854775807
 w:x.e.we<18446744073709551616
theorem z9f{enc:TypeId×Value->H}{w:World}{base:Nat}{l:Bool}{cs:List Value}{y:DataW H×List MemPlace}
  (h:DataW.trod enc Tryz.prog w base (fun _=>true) l fuel 68 cs=some y): ∃x:To,cs=toc x/\y1a x:=by
 obtain⟨V,Y,Z,n,_,J,I,h1,h2⟩:=trod_struct3 Tryz.underlying68 h;have hc:Tryz.prog.cellsOf 68=5:=by kernel_rfl
 have hce:Tryz.prog.cellsOf 66=3:=by kernel_rfl
 have j:Tryz.prog.cellsOf 9=1:=by kernel_rfl
 have o:Tryz.prog.cellsOf 3=1:=by kernel_rfl
 have m:Tryz.prog.cellsOf 42=1:=by kernel_rfl
 rw[hc] at J
 match cs,J with
 | [c0,c1,c2,c3,c4],_=>
  simp only[j,o,hce] at I h1 h2;obtain⟨s,r,_,R⟩:=DataW.trod_string Tryz.underlying9 I;obtain⟨M,v,_,q⟩:=DataW.trod_int Tryz.underlying3 h1;obtain⟨z0,z1,z2,U,_,Q,E,F,G⟩:=trod_struct3 Tryz.underlying66 h2;simp only[j,m] at E F G;obtain⟨t,B,_,S⟩:=DataW.trod_string Tryz.underlying9 E;obtain⟨d,C,_,O⟩:=DataW.trod_string Tryz.underlying9 F;simp at r v B C;subst r v B C;obtain⟨b,rfl,N⟩:=z2E Tryz.underlying42 G;have i:=bounds_i64 q;refine⟨⟨s.data.toList,M,⟨t.data.toList,d.data.toList,b⟩⟩,by unfold toc;cases s;cases t;cases d;rfl,?_,?_,?_,i.1,i.2,N⟩
  all_goals
   unfold maxLen at R S O;simp only[Array.length_toList]
   assumption
theorem open_tos{enc:TypeId×Value->H}{w:World}{base:Nat}{v:Bool}{V:Nat}{n:Nat}{y:DataW H×List MemPlace}
  (N:DataW.trod enc Tryz.prog w base (fun _=>true) v V 22 [.slice ao n cap]=some y):
  ∃L,Tos w ao n cap L/\ ∀x∈L,y1a x:=by
 have hc:Tryz.prog.cellsOf 68=5:=by kernel_rfl
 rcases open_slice Tryz.underlying22 N with⟨r,_⟩|⟨a,len,R,m,n',D,Pl,r,_,hl,hm,F,_,q⟩
 ·simp only[List.cons.injEq,and_true] at r
  cases r;exact⟨[],⟨rfl,ι _,by omega,fun _=>rfl,Rd.nil _ _⟩,fun x h=>by cases h⟩
 ·simp only[List.cons.injEq,and_true] at r
  cases r;simp only[if_true] at F;subst F;rw[hc] at q;have hk: ∀i,∃k:To,i<n->(∀j,j<5->w.cell? ((a.add (i*5)).add j)=(toc k)[j]?)/\y1a k:=fun i=>by
   by_cases O:i<n
   ·obtain⟨U,J,ht⟩:=q i (by omega)
    obtain⟨_,Y,I⟩:=World.cells?_some J;obtain⟨k,rfl,Q⟩:=z9f ht;exact⟨k,fun _=>⟨I,Q⟩⟩
   ·exact⟨to0,fun h=>absurd h O⟩
  obtain⟨f,M⟩:=Classical.axiomOfChoice hk;have l:((List.range n).map f).length=n:=by simp
  have B: ∀i,i<n->((List.range n).map f).getD i to0=f i:=fun i q=>by
   rw[δ,List.getElem?_map,List.getElem?_range q];rfl
  refine⟨(List.range n).map f,⟨l,hl,by unfold maxLen at hm;omega,(fun h=>by cases h),?_⟩,fun x hx=>?_⟩
  ·intro j u S
   have Z:j<n*5:=by
    have:=(List.getElem?_eq_some_iff.1 S).1
    rwa [z2A,l] at this
   have o:j/5<n:=by omega
   have G:j % 5<5:=Nat.mod_lt _ (by decide);have C:j/5*5+j % 5=j:=by omega
   have E:=q5B ((List.range n).map f) (j/5) (j % 5) (by rw[l];exact o) G;rw[C,B _ o,S] at E;have s:=(M 0 (by omega)).1 0 (by decide);rw[Nat.zero_mul,add_add,Nat.add_zero] at s;obtain⟨b,off,rfl⟩:=z6W s;have d:=(M (j/5) o).1 (j % 5) G;rw[add_add,C,<-E,z6r] at d;exact⟨b,off,rfl,d⟩
  ·obtain⟨i,q,rfl⟩:=List.mem_map.1 hx
   exact(M i (List.mem_range.1 q)).2
end
section
open Go.RowKit
theorem z3x{n:Nat}(b:Int)(w:World)(d:Tos w ao n cap L):
  Calls Tryz.prog 8 #[.slice ao n cap,.int .i64 b] w fun e w'=>(∃z,e= .returned (.bool z)/\(z=false->(n:Int)<=b/\ ∀j,j<n->(L.getD j to0).s.length<=300/\(L.getD j to0).e.ty.length<=300/\(L.getD j to0).e.da.length<=300))/\Ext w w':=by
 have J:=η d;have b1:=d.fits;have b2:=d.bound;clear d;go_enter Tryz.func8,Tryz.ntmps8;go_wp2_with fail
 go_loopw [5] (fun i W=> ∃k:Nat,k<=n/\i= .int .i64 (k:Int)/\Hd (∀j,j<k->(L.getD j to0).s.length<=300/\(L.getD j to0).e.ty.length<=300/\(L.getD j to0).e.da.length<=300)/\Ext w W) (fun i _=>n-(intOf i).toNat)
 case atStart=>exact⟨0,υ _,rfl,η (fun j G=>absurd G (Nat.not_lt_zero j)),Ext.refl _⟩
 case round=>
  obtain⟨k,Y,rfl,m,d⟩:=hrel;have r:=η d;by_cases x:k<n
  ·have R:decide ((k:Int)<(n:Int))=true:=ζ (by omega)
   have S:(k:Int)<(n:Int):=by omega
   have Z:IntKind.i64.wrap ((k:Int)+1)=(k:Int)+1:=by rw[ν];omega
   obtain⟨V,M,rfl,y,B,C,E,F⟩:=(J.o.ext d).at x;obtain⟨t,l⟩: ∃t,L.getD k to0=t:=⟨_,rfl⟩
   have v:=η l;rw[l] at y B C E F;obtain⟨ts,tv,⟨ty,da,we⟩⟩:=t;simp only at y B C E F;clear d l;by_cases h1:300<ts.length
   ·have N:decide ((300:Int)<(ts.length:Int))=true:=ζ (by omega)
    clear h1;go_wp2_with fail;go_ret;exact⟨⟨true,rfl,fun h=>by cases h⟩,r.o⟩
   have N:decide ((300:Int)<(ts.length:Int))=false:=ε (by omega);by_cases h2:300<ty.length
   ·have O:decide ((300:Int)<(ty.length:Int))=true:=ζ (by omega)
    clear h1 h2;go_wp2_with fail;go_ret;exact⟨⟨true,rfl,fun h=>by cases h⟩,r.o⟩
   have O:decide ((300:Int)<(ty.length:Int))=false:=ε (by omega);by_cases h3:300<da.length
   ·have Q:decide ((300:Int)<(da.length:Int))=true:=ζ (by omega)
    clear h1 h2 h3;go_wp2_with fail;go_ret;exact⟨⟨true,rfl,fun h=>by cases h⟩,r.o⟩
   have Q:decide ((300:Int)<(da.length:Int))=false:=ε (by omega);have q:Hd (∀j,j<k+1->(L.getD j to0).s.length<=300/\(L.getD j to0).e.ty.length<=300/\(L.getD j to0).e.da.length<=300):=η fun j G=>by
    by_cases e:j=k
    ·subst e;rw[v.o];exact⟨by simp only;omega,by simp only;omega,by simp only;omega⟩
    ·exact m.o j (by omega)
   clear h1 h2 h3;go_wp2_with fail
   go_roundw
   case rel=>exact⟨k+1,by omega,by go_num,q,r.o⟩
   case measure=>simp[intOf];omega
  ·have e:n=k:=by omega
   subst e;have R:decide ((n:Int)<(n:Int))=false:=ε (by omega);obtain⟨z,U⟩: ∃z,decide (b<(n:Int))=z:=⟨_,rfl⟩
   have I:=η U;clear d;go_wp2_with fail;go_ret;exact⟨⟨_,rfl,fun h=>⟨by have:=of_decide_eq_false (I.o.trans h);omega,m.o⟩⟩,r.o⟩
theorem Tryz.infoStC :(Tryz.prog.info? 9).map (fun i=>(i.zero,i.size,i.bytes))=some (some (.string ⟨#[]⟩),1,16):=by kernel_rfl
theorem z4x(b:L.length<=1000):(q1n L).1.length<=17+400*L.length:=by
 unfold q1n;rw[κ (by omega)]
 split
 ·rename_i h
  have h1:=q9p _ _ h;rw[q0h];unfold q2k;rw[θ,q4D];omega
 ·exact υ _
theorem z7i{P:To->Prop}(h: ∀j,j<L.length->P (L.getD j to0)): ∀t∈L,P t:=fun t d=>by
 obtain⟨j,b,rfl⟩:=List.mem_iff_getElem.1 d;have:=h j b
 rwa [δ,γ b] at this
theorem copiestext_c{n:Nat}(s:List UInt8)(N a1:Int)(w:World)(m:Tos w ao n cap L)(G0: ∀x∈L,y1a x)(r1:s.length<=9223372036854775807)(S0:0<=N)(f1:N<=65535)(i1:0<=a1)(j1:a1<=65535):
  Calls Tryz.prog 3 #[.slice ao n cap,.string ⟨s.toArray⟩,.agg #[.int .u16 N,.int .u16 a1]] w fun e w'=>e= .returned (.bool true)/\Ext w w':=by
 have d0:=q0B w (.cells #[.int .u16 N,.int .u16 a1] 24);have r:=η (Blk.new w 24 #[.int .u16 N,.int .u16 a1]);have HG:=η (z3x 40 _ (m.ext d0));have HX:=η d0;have HA:=η (m.ext d0);have HQ:=η z7H;have Y0:=m.len;have A0:Hd (∀t∈L,t.e.we<18446744073709551616):=η fun t ht=>(G0 t ht).w
 have d1:=m.fits;have e1:=m.bound;clear m d0 G0;go_enter Tryz.func3,Tryz.ntmps3;go_wp2_with fail;refine HG.o.mono ?_;rintro e w1 ⟨⟨z,rfl,hz⟩,m⟩;have m0:=η (HX.o.trans m);have r:=η (r.o.ext m);have v0:=η (HA.o.ext m);have HZ:=η hz;clear m hz HG HA HX
 cases z with
 | true=>
  go_wp2_with fail;refine(HQ.o _).mono ?_;rintro e w2 ⟨rfl,m⟩;have B:=η (m0.o.trans m);clear m;go_wp2_with fail;go_ret;exact⟨rfl,B.o⟩
 | false =>
  by_cases X0:2000<s.length
  ·have hd:decide ((2000:Int)<(s.length:Int))=true:=ζ (by omega)
   clear X0;go_wp2_with fail;refine(HQ.o _).mono ?_;rintro e w2 ⟨rfl,m⟩;have B:=η (m0.o.trans m);clear m;go_wp2_with fail;go_ret;exact⟨rfl,B.o⟩
  have hd:decide ((2000:Int)<(s.length:Int))=false:=ε (by omega);obtain⟨Z0,H0⟩:=HZ.o rfl;have S:=z7i (L:=L) (P:=fun t=>t.s.length<=4611686018427387903/\t.e.ty.length<=4611686018427387903/\t.e.da.length<=4611686018427387903) fun j hj=>by
   obtain⟨q1,q2,q3⟩:=H0 j (by omega);exact⟨by omega,by omega,by omega⟩
  have k0:=η (z1G _ v0.o S A0.o);have l0:=η (fun W (h:Ext w1 W)=>q8X W (v0.o.ext h) S A0.o);have F:=z4x (L:=L) (by omega);obtain⟨P,zP,hP⟩: ∃P z,q1n L=(P,z):=⟨_,_,rfl⟩
  rw[hP] at k0 l0 F;have W0:P.length<=20000:=by simp only at F;omega
  have k1:(P==P)=true:=beq_self_eq_true P;clear H0 S hP HZ F;go_wp2_with fail;refine k0.o.mono ?_;rintro e w2 ⟨rfl,m⟩;have x0:=η (l0.o _ m);have B:=η (m0.o.trans m);have r:=η (r.o.ext m);clear m k0 l0;go_wp2_with fail;refine x0.o.mono ?_;rintro e w3 ⟨rfl,m⟩;have E:=m.trans (q0B w3 (.cells #[.string ⟨s.toArray⟩,.string ⟨P.toArray⟩] 9));have V:=η (B.o.trans E);have r:=η (r.o.ext E);have U:Hd ((w3.alloc (.cells #[.string ⟨s.toArray⟩,.string ⟨P.toArray⟩] 9)).ownsRow w.heap.size 9 1 (.slice (some ⟨w3.heap.size,0,none⟩) 2 2) 2 (strs [s,P])):=η ⟨rfl,.inr ⟨w3.heap.size,2,#[.string ⟨s.toArray⟩,.string ⟨P.toArray⟩],rfl,(B.o.trans m).size,Blk.new w3 _ _,ι _,by unfold maxLen;omega,rfl,rfl⟩⟩;obtain⟨W3,r0⟩: ∃W3,w3.alloc (.cells #[.string ⟨s.toArray⟩,.string ⟨P.toArray⟩] 9)=W3:=⟨_,rfl⟩
  have O0:Hd (W3.heap.size=w3.heap.size+1):=η (by rw[<-r0];exact ρ _ _);rw[r0] at V r U;clear m E x0 B
  go_upto_if 49 with fail
  go_cut [11,12] from 18 (fun tv cv W=> ∃(y:List (List UInt8)) (ta:Option Addr) (tc:Nat) (cc:Value),tv= .slice ta y.length tc/\cv=cc/\Hd (W.ownsRow w.heap.size 9 1 (.slice ta y.length tc) y.length (strs y))/\Hd (∀X∈y,X.length<=1000000)/\y.length<=3/\Hd (Ext w W))
  case first=>
   by_cases hp:P.length=0
   ·have E0:decide ((0:Int)<(P.length:Int))=false:=ε (by omega)
    have Y:Hd (P.length<=1000000):=η (by omega);have p0:Hd (s.length<=1000000):=η (by omega);go_wp2_with fail
    go_meet
    case rel=>exact⟨[s,P],_,_,_,rfl,rfl,U,η (fun X Z=>by
     rcases List.mem_cons.1 Z with rfl|Z
     ·exact p0.o
     ·rw[List.mem_singleton.1 Z];exact Y.o),by simp,V⟩
   ·have E0:decide ((0:Int)<(P.length:Int))=true:=ζ (by omega)
    obtain⟨pl,G⟩: ∃pl,P.length=pl:=⟨_,rfl⟩
    rw[G] at hp W0 E0;have J0:=η G;obtain⟨W,cp,h0,b0,s0,hex,O⟩:=z7A W3 P;rw[G] at h0 s0;have t0:=O0.o;obtain⟨cb,D0⟩: ∃cb,W3.heap.size=cb:=⟨_,rfl⟩
    rw[D0] at h0 b0 s0 O t0;obtain⟨k,F0⟩: ∃k:Nat,(k:Int)=N % (pl:Int):=⟨(N % (pl:Int)).toNat,by have:=Int.emod_nonneg N (b:=(pl:Int)) (by omega);omega⟩
    have hk:k<pl:=by have:=Int.emod_lt_of_pos N (b:=(pl:Int)) (by omega);omega
    obtain⟨v,hu⟩: ∃u,P[k]? =some u:=⟨P[k]'(by omega),γ (by omega)⟩
    have U0:W.drew.cell? ⟨cb,k,none⟩=some (.int .u8 (v.toNat:Int)):=by
     obtain⟨_,_,e2,hc⟩:=(b0.ext (Ext.refl W).drew) k (q1H v) (by rw[List.getElem?_map,hu];rfl)
     cases e2;rw[Nat.zero_add] at hc;exact hc
    have n1:W.drew.frozen? ⟨cb,k,none⟩=false:=s0 k hk;obtain⟨d,m1⟩: ∃d:UInt8,IntKind.u8.wrap a1=(d.toNat:Int):=by
     have:=IntKind.wrap_u8 a1;exact z1C (by rw[this];omega) (by rw[this];omega)
    have I:=z9l b0 (k:=k) (by rw[List.length_map];omega) (q1H d);rw[<-List.map_set] at I;have C0:q1H d= .int .u8 (d.toNat:Int):=rfl;rw[C0] at I;have q0:=r.o.ext hex;have g0:W.drew.cell? ⟨w.heap.size,0,none⟩=some (.int .u16 N):=q0.cell 0;have g1:W.drew.cell? ⟨w.heap.size,1,none⟩=some (.int .u16 a1):=q0.cell 1;have q1:IntKind.i64.wrap N=N:=by rw[ν];omega
    have q3:Int.tmod N (pl:Int)=(k:Int):=by rw[F0];exact Int.tmod_eq_emod_of_nonneg S0
    have q4:IntKind.i64.wrap (k:Int)=(k:Int):=by rw[ν];omega
    have p1:(k:Int)<(pl:Int):=by omega
    have F:¬pl=0:=hp;have w0:Hd ((P.set k d).length=pl):=η (by rw[List.length_set,G]);have hcv:=q2g (P:=Tryz.prog) (W.setCell ⟨cb,k,none⟩ (.int .u8 (d.toNat:Int))).drew 31 9 5 (n:=pl) (l:=P.set k d) (cap:=cp) Tryz.underlying31 Tryz.underlying5 Tryz.underlying9 w0.o (I.ext (Ext.refl _).drew);have u0:Ext W3 (W.setCell ⟨cb,k,none⟩ (.int .u8 (d.toNat:Int))).drew:=(Below.setCell hex (p:=⟨cb,k,none⟩) (by rw[D0];exact ι _) _).drew;have b1:=J0.o;generalize P.set k d=PS at*;obtain⟨W5,R0⟩: ∃W5,(W.setCell ⟨cb,k,none⟩ (.int .u8 (d.toNat:Int))).drew=W5:=⟨_,rfl⟩
    rw[R0] at u0 hcv;have E:=u0.trans (q0B W5 (.cells #[.string ⟨PS.toArray⟩] 9));have e0:=η (q0H U.o E);have J:=η (V.o.trans E);have M0:=η J.o.size;have L0:=η (show Rd (W5.alloc (.cells #[.string ⟨PS.toArray⟩] 9)) (some ⟨W5.heap.size,0,none⟩) [.string ⟨PS.toArray⟩] from Rd.lit W5 #[.string ⟨PS.toArray⟩] 9);have Y:Hd (P.length<=1000000/\PS.length<=1000000):=η ⟨by omega,by rw[w0.o];omega⟩;have p0:Hd (s.length<=1000000):=η (by omega);clear F0 hu b0 I hex q0 O C0 u0 E t0;go_wp2_with fail;refine q5j 10 (by kernel_rfl) (by kernel_rfl) ?_;simp only[List.take_succ_cons,List.take_zero,List.drop_succ_cons,List.drop_zero]
    repeat still_step
    refine wpStill_nil ?_
    go_wp2_with (at_builtin;refine q0M rfl _ _ 30 rfl w.heap.size 9 _ 1 16 Tryz.underlying30 Tryz.infoStC (by decide) (by decide) _ 2 (strs [s,P]) rfl e0.o _ 1 1 [.string ⟨PS.toArray⟩] rfl rfl (fun h=>by cases h) L0.o (by simp[Value.oneCell']) (by unfold maxLen;omega) (by omega) M0.o ?_;intro v2 w8 R Q T0;obtain⟨a2,c2,rfl⟩:=q0G R;have I0:=η R;have o0:=η (J.o.grown Q J.o.size (fun q hq=>(q0U e0.o q hq).1));clear R Q T0)
    go_meet
    case rel=>exact⟨[s,P,PS],a2,c2,_,rfl,rfl,η I0.o,η (fun X Z=>by
     rcases List.mem_cons.1 Z with rfl|Z
     ·exact p0.o
     ·rcases List.mem_cons.1 Z with rfl|Z
      ·exact Y.o.1
      ·rw[List.mem_singleton.1 Z];exact Y.o.2),by simp,o0⟩
  case rest=>
   obtain⟨y,ta,tc,cc,rfl,rfl,z0,N0,s1,P0⟩:=hcut;have t0:=z0.o;clear r0 U V r;go_wp2_with fail
   go_loopw [13] (fun i W=> ∃k:Nat,k<=y.length/\i= .int .i64 (k:Int)/\Ext wc W) (fun i _=>y.length-(intOf i).toNat)
   case atStart=>exact⟨0,υ _,rfl,Ext.refl _⟩
   case round=>
    obtain⟨k,hk,rfl,m⟩:=hrel;have J:=η m;by_cases O:k<y.length
    ·have V0:decide ((k:Int)<(y.length:Int))=true:=ζ (by omega)
     have o1:(k:Int)<(y.length:Int):=by omega
     have q8:IntKind.i64.wrap ((k:Int)+1)=(k:Int)+1:=by rw[ν];omega
     have f0:y.getD k []∈y:=by rw[δ,γ O];exact List.getElem_mem O
     have B0:=N0.o _ f0;obtain⟨tb,off,rfl,c0⟩:=((z9p z0.o).ext m) k _ (z9y O);generalize y.getD k []=X at*;have i0:=η (z4w X wr B0);have j0:=η (fun W=>z4N X W B0);obtain⟨M,zM,hM⟩: ∃M z,q1u X=(M,z):=⟨_,_,rfl⟩
     rw[hM] at i0 j0;have l1:(zM==zM)=true:=beq_self_eq_true zM;clear f0 hM m;go_wp2_with fail;refine i0.o.mono ?_;rintro e w5 ⟨v,rfl,h1,m⟩;have C:w5.ownsRow wr.heap.size 68 5 v M.length (q4g M):=h1;obtain⟨va,vc,rfl⟩:=q0G C;have K0:=η C;have n0:=η (J.o.trans m);have c1:=q0A m c0;clear m h1 C i0;go_wp2_with fail;refine(j0.o _).mono ?_;rintro e w6 ⟨v,rfl,h1,m⟩;have C:w6.ownsRow w5.heap.size 68 5 v M.length (q4g M):=h1;obtain⟨vb,vd,rfl⟩:=q0G C;have y0:=η (y0D w6 (q9a (q0H K0.o m)).1 (q9a C).1);have Q0:=η (n0.o.trans m);clear m h1 C j0 c0 c1;go_wp2_with fail;refine y0.o.mono ?_;rintro e w7 ⟨rfl,m⟩;have o0:=η (Q0.o.trans m);clear m y0;go_wp2_with fail
     go_roundw
     case rel=>exact⟨k+1,by omega,by go_num,o0.o⟩
     case measure=>simp[intOf];omega
    ·obtain rfl:k=y.length:=by omega
     have V0:decide ((y.length:Int)<(y.length:Int))=false:=ε (by omega);clear m;go_wp2_with fail;refine(HQ.o _).mono ?_;rintro e w5 ⟨rfl,m⟩;have n0:=η ((P0.o.trans J.o).trans m);clear m;go_wp2_with fail;go_ret;exact⟨rfl,n0.o⟩
end
section
open Go.RowKit Go.WideShapes
theorem open_pair16{enc:TypeId×Value->H}{w:World}{base:Nat}{i:Bool}{r:Reach}{F:Nat}{v:Value}{d:DataW H}{p:List MemPlace}
  (B:Value.okWide Tryz.prog w r F 24 v)(h:DataW.Trod enc Tryz.prog w base (fun _=>true) i 24 v d p):
  ∃a b,v= .agg #[.int .u16 a,.int .u16 b]/\0<=a/\a<=65535/\0<=b/\b<=65535:=by
 simp only[Value.okWide,Tryz.underlying24] at B;obtain⟨cs,rfl,l,_⟩:=B;have hc:Tryz.prog.cellsOf 24=2:=by kernel_rfl
 have j:Tryz.prog.cellsOf 23=1:=by kernel_rfl
 obtain⟨M,N,rfl⟩:=Joins.array2 (l.trans hc);obtain⟨fuel,J⟩:=h;obtain⟨Q,m,_,_,_,O,y⟩:=DataW.trod_array Tryz.underlying24 J;have o:=y 0 (by decide);have q:=y 1 (by decide);rw[j] at o q;rw[γ (by omega)] at o q;obtain⟨C,s,_,w0⟩:=DataW.trod_int Tryz.underlying23 o;obtain⟨E,x,_,w1⟩:=DataW.trod_int Tryz.underlying23 q;simp[Value.cells] at s x;subst s x;have G:=bounds_u16 w0;have I:=bounds_u16 w1;exact⟨C,E,rfl,by omega,by omega,by omega,by omega⟩
end
end Go.Proofs.YteabhdclmodefaaGreatDoor
