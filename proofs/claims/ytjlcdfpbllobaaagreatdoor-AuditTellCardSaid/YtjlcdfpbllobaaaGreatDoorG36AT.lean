/- Walks. -/
import Derived.Test.YtjlcdfpbllobaaaGreatDoorG35AT
set_option linter.unusedVariables false
set_option linter.unusedSimpArgs false
set_option maxRecDepth 100000
set_option maxHeartbeats 12800000
namespace Go.Proofs.YtjlcdfpbllobaaaGreatDoor
variable {L:List To}
section
open Go.RowKit
theorem Tryz.infoRf :(Tryz.prog.info? 37).map (fun i=>(i.zero,i.size,i.bytes))=some (some (.agg #[.int .i64 0,.string ⟨#[]⟩,.int .i64 0]),3,32):=by kernel_rfl
theorem z4i{w:World}{ao:Option Addr}{n cap:Nat}(h:Tos w ao n cap L){m:Nat}(hm:m<=n):Tos w ao m cap (L.take m):=by
 refine⟨by rw[Θ,h.len];omega,by have:=h.fits;omega,h.bound,h.nil,?_⟩;have h1:=h.rd.take (m*5);have e:(q1i L).take (m*5)=q1i (L.take m):=by
  conv=>lhs;rw[<-List.take_append_drop m L,q7n]
  exact List.take_left' (by rw[q3S,Θ,h.len];omega)
 rw[<-e];exact h1
theorem z1T(a:List UInt8)(N:List (List UInt8))(b:List UInt8)(z:Bool):(z&&decide (a∉N++[b]))=((z&&decide (a∉N))&&decide (b≠a)):=by
 cases z with
 |false=>rfl
 | true =>
  by_cases h1:a∈N
  ·have h:a∈N++[b]:=List.mem_append_left _ h1
   rw[ε (not_not_intro h),ε (not_not_intro h1)];rfl
  ·by_cases h2:b=a
   ·have h:a∈N++[b]:=by rw[h2];exact List.mem_append_right _ (List.mem_singleton.2 rfl)
    rw[ε (not_not_intro h),ε (not_not_intro h2)];simp
   ·have h:a∉N++[b]:=fun h=>by
     rcases List.mem_append.1 h with h|h
     ·exact h1 h
     ·exact h2 (List.mem_singleton.1 h).symm
    rw[ζ h,ζ h1,ζ h2];rfl
theorem z0E(a:List UInt8)(N:List (List UInt8))(b:List UInt8):decide (a∈N++[b])=(decide (a∈N)||decide (b=a)):=by
 by_cases h1:a∈N
 ·rw[ζ (List.mem_append_left _ h1),ζ h1];rfl
 ·by_cases h2:b=a
  ·have h:a∈N++[b]:=by rw[h2];exact List.mem_append_right _ (List.mem_singleton.2 rfl)
   rw[ζ h,ζ h2];simp
  ·have h:a∉N++[b]:=fun h=>by
    rcases List.mem_append.1 h with h|h
    ·exact h1 h
    ·exact h2 (List.mem_singleton.1 h).symm
   rw[ε h,ε h1,ε h2];rfl
theorem q9g{W:World}{B B':Nat}{e e':TypeId}{x j:Nat}{v m:Value}{n r:Nat}{y l:List Value}(h:W.ownsRow B e x v n y)(o:W.ownsRow B' e' j m r l)(d:e≠e'): ∀i,v.ownBlock=some i->m.ownBlock≠some i:=fun i q b=>by
 obtain⟨C,h1⟩:=q3M h q;obtain⟨D,h2⟩:=q3M o b;rw[h1] at h2
 cases h2;exact d rfl
theorem z8d{va so : Option Addr}{vn vc sn sc:Nat}{S:List Smm}(w:World)(hv:Tos w va vn vc L)(hs:Sms w so sn sc S)(hl: ∀t∈L,t.e.we<18446744073709551616)(hS: ∀x∈S,(∀t∈x.F,t.e.we<18446744073709551616)/\(∀t∈x.B,t.e.we<18446744073709551616)/\x.F.length<=100000/\x.B.length<=100000)(hn:vn<=100000)(hm:sn<=1000):
  Calls Tryz.prog 11 #[.agg #[.slice va vn vc,.slice so sn sc]] w fun e w'=> ∃v,e= .returned v/\w'.ownsRow w.heap.size 37 3 v (q2p L S).length (q2i (q2p L S))/\Ext w w':=by
 have n1:=q0B w (.cells #[.slice va vn vc,.slice so sn sc] 34);have d1:=Blk.new w 34 #[.slice va vn vc,.slice so sn sc];obtain⟨g,hg⟩: ∃g,w.heap.size=g:=⟨_,rfl⟩
 have HG:=η hg;rw[hg] at d1;have b1:=hv.fits;have b2:=hv.bound;have b3:=hs.fits;have b4:=hs.bound;have x1:=η hv.len;have W0:=η hs.len;have L2:=η hl;have N2:=η hS;obtain⟨D,O2⟩: ∃D,w.alloc (.cells #[.slice va vn vc,.slice so sn sc] 34)=D:=⟨_,rfl⟩
 rw[O2] at n1 d1;have j2:=η n1;have HB:=η d1;have HV:=η (hv.ext n1);have HS:=η (hs.ext n1);have k0:=q0M hg (d1.cell 0);clear n1 d1 hv hs hl hS hg;go_enter Tryz.func11,Tryz.ntmps11;go_wp2_with fail
 go_loopw [3,4] (fun v i W=> ∃(k:Nat) (a:Option Addr) (G c:Nat),v= .slice a G c/\i= .int .i64 (k:Int)/\k<=vn/\Hd ((q1t (S.map Smm.nm) L k).length=G)/\Hd (W.ownsRow D.heap.size 37 3 (.slice a G c) G (q2i (q1t (S.map Smm.nm) L k)))/\Hd (Ext D W)) (fun _ i _=>vn-(intOf i).toNat)
 case atStart=>exact⟨0,none,0,0,rfl,rfl,υ _,η rfl,η ⟨rfl,.inl ⟨rfl,rfl⟩⟩,η (Ext.refl _)⟩
 case round =>
  clear k0;obtain⟨k,oa,G,oc,rfl,rfl,hk,C,j0,HX⟩:=hrel;have N:=HB.o.ext HX.o;have g0:=q0M HG.o (N.cell 0);have g1:=q0M HG.o (N.cell 1);clear N;by_cases S0:k<vn
  ·have hd : decide ((k:Int)<(vn:Int))=true:=ζ (by omega)
   have R2:(k:Int)<(vn:Int):=by omega
   have q1:IntKind.i64.wrap ((k:Int)+1)=(k:Int)+1:=by rw[ν];omega
   have Q2:k<L.length:=by rw[x1.o];exact S0
   obtain⟨bb,off,rfl,c0,c1,c2,c3,c4⟩:=(HV.o.ext HX.o).at S0;have Y:q1t (S.map Smm.nm) L (k+1)=q1t (S.map Smm.nm) L k++q6a (S.map Smm.nm) (L.take k) (L.getD k to0):=rfl;have S1:(L.take k).length=k:=by rw[Θ,x1.o];omega
   have j1:=q2z (S.map Smm.nm) L k;obtain⟨t,B2⟩: ∃t,L.getD k to0=t:=⟨_,rfl⟩
   rw[B2] at c0 c1 c2 c3 c4 Y;obtain⟨P,l2⟩: ∃P,L.take k=P:=⟨_,rfl⟩
   have Q1:=z4i (HV.o.ext HX.o) (Nat.le_of_lt S0);rw[l2] at Y S1 Q1;obtain⟨M,Y0⟩: ∃M,q1t (S.map Smm.nm) L k=M:=⟨_,rfl⟩
   rw[Y0] at Y C j0 j1;obtain⟨nm,tv,⟨ty,da,we⟩⟩:=t;simp only at c0 c1 c2 c3 c4;obtain⟨R,r0⟩: ∃R,(q6B P nm).length=R:=⟨_,rfl⟩
   have t0:=q0B wr (.cells #[.string ⟨nm.toArray⟩,.int .i64 tv,.string ⟨ty.toArray⟩,.string ⟨da.toArray⟩,.float .f64 we] 99);have y0:=Blk.new wr 99 #[.string ⟨nm.toArray⟩,.int .i64 tv,.string ⟨ty.toArray⟩,.string ⟨da.toArray⟩,.float .f64 we];obtain⟨WT,a1⟩: ∃WT,wr.alloc (.cells #[.string ⟨nm.toArray⟩,.int .i64 tv,.string ⟨ty.toArray⟩,.string ⟨da.toArray⟩,.float .f64 we] 99)=WT:=⟨_,rfl⟩
   rw[a1] at t0 y0;obtain⟨bT,n0⟩: ∃bT,wr.heap.size=bT:=⟨_,rfl⟩
   rw[n0] at y0;have y:=η n0;have R0:=η (HX.o.trans t0);have X0:=η (q0F j0.o t0);have p0:=η y0;have i2:=η (Q1.ext t0);obtain⟨z1,K0⟩: ∃z,decide (tv≠(z7D P nm:Int))=z:=⟨_,rfl⟩
   have r2:(tv !=(R:Int))=z1:=by
    rw[<-K0,q6e,r0];by_cases h:tv=(R:Int)<;>simp[h]
   have U0:q6a (S.map Smm.nm) P ⟨nm,tv,⟨ty,da,we⟩⟩=one? z1 ⟨1,nm,(k:Int)⟩++one? (decide (R=0)&&decide (nm∉S.map Smm.nm)) ⟨2,nm,(k:Int)⟩:=by
    unfold q6a;rw[K0,S1,q6e,r0]
   rw[U0] at Y;have G0:=η Y;have G2:=η r0;have u2:G<=2*k:=by rw[<-C.o];exact j1
   have A0:=η (fun (W:World) (h:Ext WT W)=>z8y nm W (i2.o.ext h) (by omega));rw[G2.o] at A0;have J:Hd (∀W,Ext WT W->(W.cell? ⟨w.heap.size,0,none⟩=some (.slice (some ⟨bb,off,none⟩) vn vc))/\W.cell? ⟨wr.heap.size,0,none⟩=some (.string ⟨nm.toArray⟩)):=η fun W h=>⟨q0M HG.o ((HB.o.ext (R0.o.trans h)).cell 0),q0M y.o ((p0.o.ext h).cell 0)⟩
   clear Q2 Y S1 j1 B2 l2 Q1 Y0 r0 t0 y0 n0 K0 U0 j0 HX;have a3:k<=vc:=by omega
   have Y2:(k:Int)<=(vc:Int):=by omega
   have Z2:(k:Int)<=(vn:Int):=by omega
   have d3:=q1o;go_wp2_with fail;refine q1B (fun W:World=>(W.cell? ⟨w.heap.size,0,none⟩=some (.slice (some ⟨bb,off,none⟩) vn vc))/\W.cell? ⟨wr.heap.size,0,none⟩=some (.string ⟨nm.toArray⟩)) 9 (by kernel_rfl) (J.o _ (Ext.refl _).drew) (fun j=>?_);refine q0f 0 j (fun j=>?_);refine q3Q 1 j (fun j=>?_);refine q0f 2 j (fun j=>?_);refine q0f 3 j (fun j=>?_);refine q0f 4 j (fun j=>?_);refine q3Q 5 j (fun j=>?_)
   try simp only[Act.put,π,ψ,ω]
   refine q0O (i:=6) (by kernel_rfl) rfl (fun K hK=>?_)
   go_simp
   go_at_call 37
   refine(A0.o _ (Ext.refl WT).drew).mono ?_;rintro e w5 ⟨v5,rfl,T0,Z⟩;obtain⟨pa,pc,rfl⟩:=q0E T0;have D0:Hd (Ext WT w5):=η ((Ext.refl WT).drew.trans Z);clear T0 Z j;refine hK.out _ _ (J.o _ D0.o) (fun j=>?_);clear hK K
   try simp only[Act.put,π,ψ,ω]
   refine q0f 7 j (fun j=>?_)
   try simp only[Act.put,π,ψ,ω]
   refine q0f 8 j (fun j=>?_)
   try simp only[Act.put,π,ψ,ω]
   refine q1L (by kernel_rfl) ?_
   try simp only[List.drop_succ_cons,List.drop_zero]
   clear j A0 J i2 c0 c1 c2 c3 c4 g0 g1;have X:=η (R0.o.trans D0.o);have C0:=η (q0F X0.o D0.o);have f0:=η (p0.o.ext D0.o);have Q:=q0M y.o (f0.o.cell 0);have u1:=q0M y.o (f0.o.cell 1);clear D0 R0 X0 p0 a1
   go_upto_if 37 with fail
   go_cut [3] from 14 to 73 (fun s W=> ∃(a:Option Addr) (G c:Nat) (M2:List Fi),s= .slice a G c/\G<=2*k+1/\Hd (M2=M++one? z1 ⟨1,nm,(k:Int)⟩)/\Hd (M2.length=G)/\Hd (W.ownsRow D.heap.size 37 3 (.slice a G c) G (q2i M2))/\Hd (Ext D W)/\Hd (Blk W bT 99 #[.string ⟨nm.toArray⟩,.int .i64 tv,.string ⟨ty.toArray⟩,.string ⟨da.toArray⟩,.float .f64 we]))
   case first=>
    cases z1 with
    | false=>
     go_wp2_with fail
     go_meet
     case rel=>exact⟨oa,G,oc,M,rfl,by omega,η (by simp[one?]),C,C0,X,f0⟩
    | true=>
     have a0:=η (show Rd (w5.alloc (.cells #[.int .i64 1,.string ⟨nm.toArray⟩,.int .i64 (k:Int)] 37)) (some ⟨w5.heap.size,0,none⟩) (fic ⟨1,nm,(k:Int)⟩) from Rd.lit w5 #[.int .i64 1,.string ⟨nm.toArray⟩,.int .i64 (k:Int)] 37);have I:=η (q0F C0.o (q0B w5 (.cells #[.int .i64 1,.string ⟨nm.toArray⟩,.int .i64 (k:Int)] 37)));have b0:Hd (D.heap.size<=(w5.alloc (.cells #[.int .i64 1,.string ⟨nm.toArray⟩,.int .i64 (k:Int)] 37)).heap.size):=η (by have:=X.o.size;rw[ρ];omega)
     go_wp2_with (at_builtin;refine q0G rfl _ _ 30 rfl D.heap.size 37 _ 3 32 Tryz.underlying30 Tryz.infoRf (by decide) (by decide) _ G (q2i M) rfl I.o _ 1 1 (fic ⟨1,nm,(k:Int)⟩) rfl rfl (fun h=>by cases h) a0.o (by unfold fic;simp[Value.oneCell']) (by unfold maxLen;omega) (by omega) b0.o ?_;intro v2 w8 q l m0;obtain⟨a2,c2,rfl⟩:=q0E q;have K1:=η l;have i0:Hd (w8.ownsRow D.heap.size 37 3 (.slice a2 (G+1) c2) (G+1) (q2i (M++[⟨1,nm,(k:Int)⟩]))):=η (by rw[q1j];exact q);have l0:Hd (Ext D w8):=η (q2y (w0:=D) X.o C0.o l);have o0:=η ((f0.o.ext (q0B _ _)).same (l.block _ (f0.o.ext (q0B _ _)).lt fun e=>(f0.o.ext (q0B _ _)).apart I.o (by decide) e.symm));clear q l m0)
     go_meet
     case rel=>exact⟨_,_,_,M++[⟨1,nm,(k:Int)⟩],rfl,by omega,η (by simp[one?]),η (by rw[θ,C.o];rfl),i0,l0,o0⟩
   case rest =>
    have H2:=C;clear Q u1 C0 X f0 C u2;obtain⟨V2,L0,W2,M1,rfl,u2,y1,C,HR,HX,p0⟩:=hcut;have e0:((R:Int)==0)=decide (R=0):=by by_cases h:R=0<;>simp[h]
    go_wp2_with fail
    go_loopw [7,8] (fun v i W=> ∃(m:Nat) (zb:Bool),v= .bool zb/\Hd ((decide (R=0)&&decide (nm∉(S.take m).map Smm.nm))=zb)/\i= .int .i64 (m:Int)/\m<=sn/\Hd (Ext wc W)) (fun _ i _=>sn-(intOf i).toNat)
    case atStart=>exact⟨0,decide (R=0),rfl,η (by simp),rfl,υ _,η (Ext.refl _)⟩
    case round=>
     clear e0;obtain⟨m,zb,rfl,q0,rfl,S2,U⟩:=hrel;have d0:=HX.o.trans U.o;have N:=HB.o.ext d0;have g0:=q0M HG.o (N.cell 0);have g1:=q0M HG.o (N.cell 1);have P1:=q0C g0;have I0:=q0C g1;have Q:=q0C (q0M y.o ((p0.o.ext U.o).cell 0));by_cases k1:m<sn
     ·have R1:decide ((m:Int)<(sn:Int))=true:=ζ (by omega)
      have T2:(m:Int)<(sn:Int):=by omega
      have q2:IntKind.i64.wrap ((m:Int)+1)=(m:Int)+1:=by rw[ν];omega
      obtain⟨sb,X2,rfl,s0,s1,s2,s3,_,_⟩:=(HS.o.ext d0).at k1;have m1:S.take (m+1)=S.take m++[S.getD m sm0]:=by
       have i1:m<S.length:=by rw[W0.o];exact k1
       rw[List.take_succ_eq_append_getElem i1,δ,γ i1];rfl
      obtain⟨xn,J0⟩: ∃xn,(S.getD m sm0).nm=xn:=⟨_,rfl⟩
      rw[J0] at s0;have z0:=z1T nm ((S.take m).map Smm.nm) xn (decide (R=0));have l1:(S.take (m+1)).map Smm.nm=(S.take m).map Smm.nm++[xn]:=by rw[m1,List.map_append,<-J0];rfl
      rw[<-l1] at z0;obtain⟨zc,o1⟩: ∃z,(xn !=nm)=z:=⟨_,rfl⟩
      have p1:decide (xn≠nm)=zc:=by rw[<-o1];by_cases h:xn=nm<;>simp[h]
      have o1:(xn==nm)=!zc:=by rw[<-o1];unfold bne;rw[Bool.not_not]
      rw[q0.o,p1] at z0;have V0:=η z0;have s0:=q0C s0;clear N m1 J0 l1 z0 p1 q0 s1 s2 s3
      cases zb with
      | true=>
       go_wp2_with fail;refine q0D (by kernel_rfl) (by kernel_rfl) ?_
       repeat (go_big_quiet_step (fail))
       refine wpQuiet_nil ?_;intro w2 hw;have E:=η (U.o.trans hw);clear hw d0 g0 g1 P1 I0 Q s0;go_wp2_with fail
       go_roundw
       case rel=>exact⟨m+1,_,rfl,η (by rw[V0.o];rfl),by go_num,by omega,E⟩
       case measure=>simp[intOf];omega
      | false=>
       go_wp2_with fail;refine q0D (by kernel_rfl) (by kernel_rfl) ?_
       repeat (go_big_quiet_step (fail))
       refine wpQuiet_nil ?_;intro w2 hw;have E:=η (U.o.trans hw);clear hw d0 g0 g1 P1 I0 Q s0;go_wp2_with fail
       go_roundw
       case rel=>exact⟨m+1,_,rfl,η (by rw[V0.o];rfl),by go_num,by omega,E⟩
       case measure=>simp[intOf];omega
     ·have e:sn=m:=by omega
      subst e;have R1:decide ((sn:Int)<(sn:Int))=false:=ε (by omega);have o2:S.take sn=S:=Δ (by rw[W0.o];exact ι _);have X1:=q0.o;rw[o2] at X1;rw[X1] at G0;have B0:=η (q0F HR.o U.o);have x0:=η d0;have h0:Hd (q1t (S.map Smm.nm) L (k+1)=M1++one? zb ⟨2,nm,(k:Int)⟩):=η (by rw[G0.o,y1.o,List.append_assoc]);have Q:=q0M y.o ((p0.o.ext U.o).cell 0);clear o2 X1 q0 d0 N G0 HR HX U P1 I0
      cases zb with
      | false=>
       go_wp2_with fail
       go_roundw
       case rel=>
        exact⟨k+1,_,_,_,rfl,by go_num,by omega,η (by rw[h0.o,show one? false (⟨2,nm,(k:Int)⟩:Fi)=[] from rfl,List.append_nil];exact C.o),η (by rw[h0.o,show one? false (⟨2,nm,(k:Int)⟩:Fi)=[] from rfl,List.append_nil];exact B0.o),x0⟩
       case measure=>simp[intOf];omega
      | true=>
       have a0:=η (show Rd (wr.alloc (.cells #[.int .i64 2,.string ⟨nm.toArray⟩,.int .i64 (k:Int)] 37)) (some ⟨wr.heap.size,0,none⟩) (fic ⟨2,nm,(k:Int)⟩) from Rd.lit wr #[.int .i64 2,.string ⟨nm.toArray⟩,.int .i64 (k:Int)] 37);have I:=η (q0F B0.o (q0B wr (.cells #[.int .i64 2,.string ⟨nm.toArray⟩,.int .i64 (k:Int)] 37)));have b0:Hd (D.heap.size<=(wr.alloc (.cells #[.int .i64 2,.string ⟨nm.toArray⟩,.int .i64 (k:Int)] 37)).heap.size):=η (by have:=x0.o.size;rw[ρ];omega)
       go_wp2_with (at_builtin;refine q0G rfl _ _ 30 rfl D.heap.size 37 _ 3 32 Tryz.underlying30 Tryz.infoRf (by decide) (by decide) _ L0 (q2i M1) rfl I.o _ 1 1 (fic ⟨2,nm,(k:Int)⟩) rfl rfl (fun h=>by cases h) a0.o (by unfold fic;simp[Value.oneCell']) (by unfold maxLen;omega) (by omega) b0.o ?_;intro v2 w8 q l m0;obtain⟨a2,c2,rfl⟩:=q0E q;have K1:=η l;have i0:Hd (w8.ownsRow D.heap.size 37 3 (.slice a2 (L0+1) c2) (L0+1) (q2i (M1++[⟨2,nm,(k:Int)⟩]))):=η (by rw[q1j];exact q);have l0:Hd (Ext D w8):=η (q2y (w0:=D) x0.o B0.o l);clear q l m0)
       go_roundw
       case rel=>exact⟨k+1,_,_,_,rfl,by go_num,by omega,η (by rw[h0.o,θ,C.o];rfl),η (by rw[h0.o];exact i0.o),l0⟩
       case measure=>simp[intOf];omega
  ·have e : vn = k := by omega
   subst e;have hd:decide ((vn:Int)<(vn:Int))=false:=ε (by omega);have j1:=q2z (S.map Smm.nm) L vn;obtain⟨A,hA⟩: ∃A,q1t (S.map Smm.nm) L vn=A:=⟨_,rfl⟩
   rw[hA] at j1 C j0;have HA:=η hA;have e2:=η C.o;have g2:=η j0.o;have k2:=η HX.o;clear hA C j0 HX;go_wp2_with fail
   go_loopw [3,9] (fun v i W=> ∃(k:Nat) (a:Option Addr) (G c:Nat),v= .slice a G c/\i= .int .i64 (k:Int)/\k<=sn/\Hd ((A++q1G L S k).length=G)/\Hd (W.ownsRow D.heap.size 37 3 (.slice a G c) G (q2i (A++q1G L S k)))/\Hd (Ext D W)) (fun _ i _=>sn-(intOf i).toNat)
   case atStart=>exact⟨0,oa,G,oc,rfl,rfl,υ _,η (by rw[q1G,List.append_nil];exact e2.o),η (by rw[q1G,List.append_nil];exact g2.o),k2⟩
   case round =>
    clear e2 g2 k2 g0 g1;obtain⟨k,oa,G,oc,rfl,rfl,hk,C,j0,HX⟩:=hrel;obtain⟨wo,U2⟩: ∃x,x=wr:=⟨_,rfl⟩
    subst U2;have N:=HB.o.ext HX.o;have g0:=q0M HG.o (N.cell 0);have g1:=q0M HG.o (N.cell 1);clear N;by_cases S0:k<sn
    ·have R1 : decide ((k:Int)<(sn:Int))=true:=ζ (by omega)
     have R2:(k:Int)<(sn:Int):=by omega
     have q1:IntKind.i64.wrap ((k:Int)+1)=(k:Int)+1:=by rw[ν];omega
     have N0:=q5N (A:=S) (i:=k) (d:=sm0) (by rw[W0.o];exact S0);obtain⟨w1,w2,w3,w4⟩:=N2.o _ N0;have t1:=HS.o.fo _ N0;have t2:=HS.o.bk _ N0;obtain⟨bb,off,rfl,c0,c1,c2,c3,_,_⟩:=(HS.o.ext HX.o).at S0;have Y:A++q1G L S (k+1)=(A++q1G L S k)++q8H L S k:=by rw[q1G,List.append_assoc]
     have U0:q8H L S k=if (S.getD k sm0).nm∈(S.take k).map Smm.nm then [⟨3,(S.getD k sm0).nm,(k:Int)⟩] else q2B (S.getD k sm0).nm (S.getD k sm0).la (S.getD k sm0).F (S.getD k sm0).B (q6B L (S.getD k sm0).nm):=rfl;have I1:G<=2*vn+3*k:=by
      have:=q4d L S k;rw[<-C.o,θ];omega
     obtain⟨x,C2⟩: ∃x,S.getD k sm0=x:=⟨_,rfl⟩
     rw[C2] at c0 c1 c2 c3 t1 t2 U0 w1 w2 w3 w4;rw[U0] at Y;obtain⟨M,Y0⟩: ∃M,A++q1G L S k=M:=⟨_,rfl⟩
     rw[Y0] at Y j0 C;obtain⟨nm,la,fa,fn,fc,F,ba,bn,bc,B⟩:=x;simp only at c0 c1 c2 c3 t1 t2 Y w1 w2 w3 w4;have f1:=t1.len;have f2:=t2.len;obtain⟨O,hO⟩: ∃O,q6B L nm=O:=⟨_,rfl⟩
     have q:O.length<=vn:=by
      rw[<-hO];refine Ω (List.length_filter_le _ _) ?_;rw[x1.o];exact ι _
     have V1: ∀t∈O,t.e.we<18446744073709551616:=fun t ht=>L2.o t (by rw[<-hO] at ht;exact(List.mem_filter.1 ht).1)
     obtain⟨R,r0⟩: ∃R,O.length=R:=⟨_,rfl⟩
     rw[r0] at q;have t0:=q0B wo (.cells #[.string ⟨nm.toArray⟩,.int .i64 la,.slice fa fn fc,.slice ba bn bc] 105);have y0:=Blk.new wo 105 #[.string ⟨nm.toArray⟩,.int .i64 la,.slice fa fn fc,.slice ba bn bc];obtain⟨WT,a1⟩: ∃WT,wo.alloc (.cells #[.string ⟨nm.toArray⟩,.int .i64 la,.slice fa fn fc,.slice ba bn bc] 105)=WT:=⟨_,rfl⟩
     rw[a1] at t0 y0;obtain⟨bT,n0⟩: ∃bT,wo.heap.size=bT:=⟨_,rfl⟩
     rw[n0] at y0;have y:=η n0;have p0:=η y0;have R0:=η (HX.o.trans t0);have X0:=η (q0F j0.o t0);have A0:=η (fun (W:World) (h:Ext D W)=>z8y nm W (HV.o.ext h) hn);rw[hO,r0] at A0;rw[hO] at Y;have A1:=η (fun (W:World) (h:Ext D W) (a:Option Addr) (c:Nat) (ht:Tos W a R c O)=>z6b W (t1.ext h) ht w1 V1 (by omega) (by omega));have B1:=η (fun (W:World) (h:Ext D W) (a:Option Addr) (c:Nat) (ht:Tos W a R c O.reverse)=>z6b W (t2.ext h) ht w2 (fun t ht=>V1 t (List.mem_reverse.1 ht)) (by omega) (by omega));have L1:=η (fun (W:World) (a:Option Addr) (c:Nat) (ht:Tos W a R c O)=>z6c W ht (by omega));have x2:=q9Z 0 F O;have y2:=q9Z 0 B O.reverse;obtain⟨p,hp⟩: ∃p,q1Z 0 F O=p:=⟨_,rfl⟩
     obtain⟨r,hr⟩: ∃r,q1Z 0 B O.reverse=r:=⟨_,rfl⟩
     rw[hp] at A1 x2;rw[hr] at B1 y2;obtain⟨z1,K0⟩: ∃z,decide (la≠(R:Int)-1)=z:=⟨_,rfl⟩
     have r2:(la !=(R:Int)-1)=z1:=by rw[<-K0];by_cases h:la=(R:Int)-1<;>simp[h]
     obtain⟨z2,D2⟩: ∃z,decide (0<=p)=z:=⟨_,rfl⟩
     obtain⟨z3,E2⟩: ∃z,decide (0<=r)=z:=⟨_,rfl⟩
     have A2:q2B nm la F B O=one? z1 ⟨4,nm,la⟩++one? z2 ⟨5,nm,p⟩++one? z3 ⟨6,nm,r⟩:=by
      unfold q2B;rw[r0,hp,hr,K0,D2,E2]
     rw[A2] at Y;have G0:=η Y;have HO:=η r0;have I2:Hd (-1<=p/\p<=100000/\ -1<=r/\r<=100000):=η (by omega);have q3:IntKind.i64.wrap ((R:Int)-1)=(R:Int)-1:=by rw[ν];omega
     clear N0 w1 w2 w3 w4 t1 t2 Y U0 C2 Y0 f1 f2 hO V1 r0 t0 y0 n0 x2 y2 hp hr K0 A2 HX j0;go_wp2_with fail
     go_loopw [11,12] (fun v i W=> ∃(m:Nat) (zb:Bool),v= .bool zb/\Hd (decide (nm∈(S.take m).map Smm.nm)=zb)/\i= .int .i64 (m:Int)/\m<=k/\Hd (Ext WT W)) (fun _ i _=>k-(intOf i).toNat)
     case atStart=>exact⟨0,false,rfl,η rfl,rfl,υ _,η (Ext.refl _)⟩
     case round =>
      clear g0 g1 c0 c1 c2 c3;obtain⟨m,zb,rfl,q0,rfl,S2,U⟩:=hrel;have d0:=R0.o.trans U.o;have N:=HB.o.ext d0;have g0:=q0M HG.o (N.cell 0);have g1:=q0M HG.o (N.cell 1);have I0:=q0C g1;have M0:=p0.o.ext U.o;have Q:=q0M y.o (M0.cell 0);have r1:=q0C Q;by_cases k1:m<k
      ·have P2:decide ((m:Int)<(k:Int))=true:=ζ (by omega)
       have T2:(m:Int)<(sn:Int):=by omega
       have q2:IntKind.i64.wrap ((m:Int)+1)=(m:Int)+1:=by rw[ν];omega
       obtain⟨sb,X2,es,s0,_,_,_,_,_⟩:=(HS.o.ext d0).at (show m<sn by omega)
       cases es;have m1:S.take (m+1)=S.take m++[S.getD m sm0]:=by
        have i1:m<S.length:=by rw[W0.o];omega
        rw[List.take_succ_eq_append_getElem i1,δ,γ i1];rfl
       obtain⟨xn,J0⟩: ∃xn,(S.getD m sm0).nm=xn:=⟨_,rfl⟩
       rw[J0] at s0;have z0:=z0E nm ((S.take m).map Smm.nm) xn;have l1:(S.take (m+1)).map Smm.nm=(S.take m).map Smm.nm++[xn]:=by rw[m1,List.map_append,<-J0];rfl
       rw[<-l1] at z0;obtain⟨zc,o1⟩: ∃z,(xn==nm)=z:=⟨_,rfl⟩
       have p1:decide (xn=nm)=zc:=by rw[<-o1];by_cases h:xn=nm<;>simp[h]
       rw[q0.o,p1] at z0;have V0:=η z0;have s0:=q0C s0;clear N M0 m1 J0 l1 z0 p1 q0
       cases zb with
       | true=>
        go_wp2_with fail;refine q0D (by kernel_rfl) (by kernel_rfl) ?_
        repeat (go_big_quiet_step (fail))
        refine wpQuiet_nil ?_;intro w2 hw;have E:=η (U.o.trans hw);clear hw d0 g0 g1 I0 Q r1 s0;go_wp2_with fail
        go_roundw
        case rel=>exact⟨m+1,_,rfl,η (by rw[V0.o];rfl),by go_num,by omega,E⟩
        case measure=>simp[intOf];omega
       | false=>
        go_wp2_with fail;refine q0D (by kernel_rfl) (by kernel_rfl) ?_
        repeat (go_big_quiet_step (fail))
        refine wpQuiet_nil ?_;intro w2 hw;have E:=η (U.o.trans hw);clear hw d0 g0 g1 I0 Q r1 s0;go_wp2_with fail
        go_roundw
        case rel=>exact⟨m+1,_,rfl,η (by rw[V0.o];rfl),by go_num,by omega,E⟩
        case measure=>simp[intOf];omega
      ·have e : k =m:=by omega
       subst e;have P2:decide ((k:Int)<(k:Int))=false:=ε (by omega);have B0:=η (q0F X0.o U.o);have x0:=η d0;clear d0 N I0 r1 X0 R0
       cases zb with
       | true=>
        clear A0 A1 B1 L1 I2 D2 E2 r2 q3;clear M0;have a0:=η (show Rd (wr.alloc (.cells #[.int .i64 3,.string ⟨nm.toArray⟩,.int .i64 (k:Int)] 37)) (some ⟨wr.heap.size,0,none⟩) (fic ⟨3,nm,(k:Int)⟩) from Rd.lit wr #[.int .i64 3,.string ⟨nm.toArray⟩,.int .i64 (k:Int)] 37);have I:=η (q0F B0.o (q0B wr (.cells #[.int .i64 3,.string ⟨nm.toArray⟩,.int .i64 (k:Int)] 37)));have b0:Hd (D.heap.size<=(wr.alloc (.cells #[.int .i64 3,.string ⟨nm.toArray⟩,.int .i64 (k:Int)] 37)).heap.size):=η (by have:=x0.o.size;rw[ρ];omega)
        go_wp2_with (at_builtin;refine q0G rfl _ _ 30 rfl D.heap.size 37 _ 3 32 Tryz.underlying30 Tryz.infoRf (by decide) (by decide) _ G (q2i M) rfl I.o _ 1 1 (fic ⟨3,nm,(k:Int)⟩) rfl rfl (fun h=>by cases h) a0.o (by unfold fic;simp[Value.oneCell']) (by unfold maxLen;omega) (by omega) b0.o ?_;intro v2 w8 q l m0;obtain⟨a2,c2,rfl⟩:=q0E q;have K1:=η l;have i0:Hd (w8.ownsRow D.heap.size 37 3 (.slice a2 (G+1) c2) (G+1) (q2i (M++[⟨3,nm,(k:Int)⟩]))):=η (by rw[q1j];exact q);have l0:Hd (Ext D w8):=η (q2y (w0:=D) x0.o B0.o l);clear q l m0)
        go_roundw
        case rel=>
         have e1:A++q1G L S (k+1)=M++[⟨3,nm,(k:Int)⟩]:=by rw[G0.o,ξ (of_decide_eq_true q0.o)]
         exact⟨k+1,_,_,_,rfl,by go_num,by omega,η (by rw[e1,θ,C.o];rfl),by rw[e1];exact i0,l0⟩
        case measure=>simp[intOf];omega
       | false =>
        have h0:Hd (A++q1G L S (k+1)=M++(one? z1 ⟨4,nm,la⟩++one? z2 ⟨5,nm,p⟩++one? z3 ⟨6,nm,r⟩)):=η (by rw[G0.o,κ (of_decide_eq_false q0.o)]);clear G0 q0 M0;go_wp2_with fail;refine(A0.o _ x0.o).mono ?_;rintro e w5 ⟨v5,rfl,T0,Z⟩;obtain⟨pa,pc,rfl⟩:=q0E T0;have D0:Hd (Ext WT w5):=η (U.o.trans Z);have H1:Hd (Ext D w5):=η (x0.o.trans Z);have F1:=η (q0F B0.o Z);have E0:=η (p0.o.ext D0.o);have P0:=η T0;clear T0 Z A0 Q g0 g1 B0 x0 D0 p0 U a1;have Q:=q0M y.o (E0.o.cell 0);have u1:=q0M y.o (E0.o.cell 1);obtain⟨bo,p2⟩: ∃b,wr.heap.size=b:=⟨_,rfl⟩
        rw[p2] at P0;clear p2
        go_upto_if 121 with fail
        go_cut [3] from 111 to 161 (fun s W=> ∃(a:Option Addr) (G c:Nat) (M2:List Fi),s= .slice a G c/\G<=2*vn+3*k+1/\Hd (M2=M++one? z1 ⟨4,nm,la⟩)/\Hd (M2.length=G)/\Hd (W.ownsRow D.heap.size 37 3 (.slice a G c) G (q2i M2))/\Hd (Ext D W)/\Hd (Blk W bT 105 #[.string ⟨nm.toArray⟩,.int .i64 la,.slice fa fn fc,.slice ba bn bc])/\Hd (W.ownsRow bo 99 5 (.slice pa R pc) R (q1i O)))
        case first=>
         cases z1 with
         | false=>
          go_wp2_with fail
          go_meet
          case rel=>exact⟨_,_,_,M,rfl,by omega,η (by simp[one?]),C,F1,H1,E0,P0⟩
         | true=>
          have a0:=η (show Rd (w5.alloc (.cells #[.int .i64 4,.string ⟨nm.toArray⟩,.int .i64 la] 37)) (some ⟨w5.heap.size,0,none⟩) (fic ⟨4,nm,la⟩) from Rd.lit w5 #[.int .i64 4,.string ⟨nm.toArray⟩,.int .i64 la] 37);have I:=η (q0F F1.o (q0B w5 (.cells #[.int .i64 4,.string ⟨nm.toArray⟩,.int .i64 la] 37)));have b0:Hd (D.heap.size<=(w5.alloc (.cells #[.int .i64 4,.string ⟨nm.toArray⟩,.int .i64 la] 37)).heap.size):=η (by have:=H1.o.size;rw[ρ];omega)
          go_wp2_with (at_builtin;refine q0G rfl _ _ 30 rfl D.heap.size 37 _ 3 32 Tryz.underlying30 Tryz.infoRf (by decide) (by decide) _ G (q2i M) rfl I.o _ 1 1 (fic ⟨4,nm,la⟩) rfl rfl (fun h=>by cases h) a0.o (by unfold fic;simp[Value.oneCell']) (by unfold maxLen;omega) (by omega) b0.o ?_;intro v2 w8 q l m0;obtain⟨a2,c2,rfl⟩:=q0E q;have K1:=η l;have i0:Hd (w8.ownsRow D.heap.size 37 3 (.slice a2 (G+1) c2) (G+1) (q2i (M++[⟨4,nm,la⟩]))):=η (by rw[q1j];exact q);have l0:Hd (Ext D w8):=η (q2y (w0:=D) H1.o F1.o l);have o0:=η ((E0.o.ext (q0B _ _)).same (l.block _ (E0.o.ext (q0B _ _)).lt fun e=>(E0.o.ext (q0B _ _)).apart I.o (by decide) e.symm));have C1:=η (q0K (q0F P0.o (q0B _ _)) fun i hi=>l.block i (q0P (q0F P0.o (q0B _ _)) i hi).2 fun e=>q9g I.o (q0F P0.o (q0B _ _)) (by decide) i e.symm hi);clear q l m0)
          go_meet
          case rel=>exact⟨_,_,_,M++[⟨4,nm,la⟩],rfl,by omega,η (by simp[one?]),η (by rw[θ,C.o];rfl),i0,l0,o0,C1⟩
        case rest=>
         clear Q u1 F1 H1 E0 P0 C I1;obtain⟨V2,L0,W2,M1,rfl,I1,y1,C,HR,HX,v0,HQ⟩:=hcut;have Q:=q0M y.o (v0.o.cell 0);have u1:=q0M y.o (v0.o.cell 1);have Y1:=q0M y.o (v0.o.cell 2);have hq:=q1J (ao:=pa) (n:=R) (cp:=pc) (L:=O) (by rw[HO.o];exact HQ.o);have HC:=η (A1.o wc HX.o pa pc hq.1);clear hq;go_wp2_with fail;refine HC.o.mono ?_;rintro e w6 ⟨rfl,Z⟩;have X:=η (HX.o.trans Z);have C0:=η (q0F HR.o Z);have O0:=η (v0.o.ext Z);have D1:=η (q0F HQ.o Z);clear Z HC HX HR v0 HQ Q u1 Y1;have Q:=q0M y.o (O0.o.cell 0);have Y1:=q0M y.o (O0.o.cell 2)
         go_upto_if 134 with fail
         go_cut [3] from 130 to 161 (fun s W=> ∃(a:Option Addr) (G c:Nat) (M2:List Fi),s= .slice a G c/\G<=2*vn+3*k+2/\Hd (M2=M1++one? z2 ⟨5,nm,p⟩)/\Hd (M2.length=G)/\Hd (W.ownsRow D.heap.size 37 3 (.slice a G c) G (q2i M2))/\Hd (Ext D W)/\Hd (Blk W bT 105 #[.string ⟨nm.toArray⟩,.int .i64 la,.slice fa fn fc,.slice ba bn bc])/\Hd (W.ownsRow bo 99 5 (.slice pa R pc) R (q1i O)))
         case first=>
          cases z2 with
          | false=>
           go_wp2_with fail
           go_meet
           case rel=>exact⟨_,_,_,M1,rfl,by omega,η (by simp[one?]),C,C0,X,O0,D1⟩
          | true=>
           have J:Hd (∀W,Ext w6 W->(W.cell? ⟨wo.heap.size,0,none⟩=some (.string ⟨nm.toArray⟩)/\W.cell? ⟨wo.heap.size,2,none⟩=some (.slice fa fn fc))):=η fun W h=>by
            have hb:=O0.o.ext h;rw[y.o];exact⟨hb.cell 0,hb.cell 2⟩
           go_wp2_with fail;refine q1B (fun W:World=>(W.cell? ⟨wo.heap.size,0,none⟩=some (.string ⟨nm.toArray⟩)/\W.cell? ⟨wo.heap.size,2,none⟩=some (.slice fa fn fc))) 10 (by kernel_rfl) (J.o _ (Ext.refl _).drew) (fun j=>?_);refine q0f 0 j (fun j=>?_);refine q0f 1 j (fun j=>?_);refine q3Q 2 j (fun j=>?_);refine q0f 3 j (fun j=>?_);refine q3Q 4 j (fun j=>?_);refine q0f 5 j (fun j=>?_)
           try simp only[Act.put,π,ψ,ω]
           refine q0O (i:=6) (by kernel_rfl) rfl (fun K hK=>?_)
           go_simp
           go_at_call 38
           refine(A1.o w6.drew (X.o.trans (Ext.refl _).drew) pa pc (q1J (ao:=pa) (n:=R) (cp:=pc) (L:=O) (by rw[HO.o];exact q0F D1.o (Ext.refl _).drew)).1).mono ?_;rintro e w7 ⟨rfl,Z⟩;have E:Hd (Ext w6 w7):=η ((Ext.refl w6).drew.trans Z);have G1:=η (q0F C0.o E.o);have v1:=η (O0.o.ext E.o);have E1:=η (q0F D1.o E.o);have u0:=η (X.o.trans E.o);clear Z j;refine hK.out _ _ (J.o _ E.o) (fun j=>?_);clear hK K
           try simp only[Act.put,π,ψ,ω]
           refine q0f 7 j (fun j=>?_)
           try simp only[Act.put,π,ψ,ω]
           refine q0O (i:=8) (by kernel_rfl) rfl (fun K hK=>?_)
           go_simp
           have V:=q0B w7 (.cells #[.int .i64 5,.string ⟨nm.toArray⟩,.int .i64 p] 37);obtain⟨WA,Z0⟩: ∃WA,w7.alloc (.cells #[.int .i64 5,.string ⟨nm.toArray⟩,.int .i64 p] 37)=WA:=⟨_,rfl⟩
           have a0:=η (show Rd (w7.alloc (.cells #[.int .i64 5,.string ⟨nm.toArray⟩,.int .i64 p] 37)) (some ⟨w7.heap.size,0,none⟩) (fic ⟨5,nm,p⟩) from Rd.lit w7 #[.int .i64 5,.string ⟨nm.toArray⟩,.int .i64 p] 37);rw[Z0] at V a0;have I:=η (q0F G1.o V);have b0:Hd (D.heap.size<=WA.heap.size):=η (u0.o.trans V).size;have F0:=η (v1.o.ext V);have H0:=η (q0F E1.o V);have O1:=η (u0.o.trans V);refine hK.out _ _ (J.o _ (E.o.trans (q0B _ _))) (fun j=>?_);clear hK K V
           try simp only[Act.put,π,ψ,ω]
           refine q0O (i:=9) (by kernel_rfl) rfl (fun K hK=>?_);rw[Z0];refine q0m rfl (.tmp 135) (.tmp 143) 30 rfl D.heap.size 37 _ 3 32 Tryz.underlying30 Tryz.infoRf (by decide) (by decide) _ L0 (q2i M1) rfl I.o _ 1 1 (fic ⟨5,nm,p⟩) rfl rfl (fun h=>by cases h) a0.o (by unfold fic;simp[Value.oneCell']) (by unfold maxLen;omega) (by omega) b0.o ?_;intro v2 w8 q l m0;obtain⟨a2,c2,rfl⟩:=q0E q;have i0:Hd (w8.ownsRow D.heap.size 37 3 (.slice a2 (L0+1) c2) (L0+1) (q2i (M1++[⟨5,nm,p⟩]))):=η (by rw[q1j];exact q);have l0:Hd (Ext D w8):=η (Below.grown O1.o l b0.o fun i hi=>(q0P I.o i hi).1);have o0:=η (F0.o.same (l.block _ F0.o.lt fun e=>F0.o.apart I.o (by decide) e.symm));have C1:=η (q0K H0.o fun i hi=>l.block i (q0P H0.o i hi).2 fun e=>q9g I.o H0.o (by decide) i e.symm hi);clear q l m0;refine hK.out _ _ (by rw[y.o];exact⟨o0.o.cell 0,o0.o.cell 2⟩) (fun j=>?_);clear hK K
           try simp only[Act.put,π,ψ,ω]
           refine q1L (by kernel_rfl) ?_
           try simp only[List.drop_succ_cons,List.drop_zero]
           clear j;go_wp2_with fail
           go_meet
           case rel=>exact⟨_,_,_,M1++[⟨5,nm,p⟩],rfl,by omega,η (by simp[one?]),η (by rw[θ,C.o];rfl),i0,l0,o0,C1⟩
         case rest=>
          clear Q Y1 C0 X O0 D1 I1;have H2:=C;clear C;obtain⟨e3,Z1,f3,M2,rfl,I1,d2,C,HR,HX,v0,HQ⟩:=hcut;have J:Hd (∀W,Ext wc W->(W.cell? ⟨wo.heap.size,0,none⟩=some (.string ⟨nm.toArray⟩)/\W.cell? ⟨wo.heap.size,3,none⟩=some (.slice ba bn bc))):=η fun W h=>by
           have hb:=v0.o.ext h;rw[y.o];exact⟨hb.cell 0,hb.cell 3⟩
          go_wp2_with fail;refine q1B (fun W:World=>(W.cell? ⟨wo.heap.size,0,none⟩=some (.string ⟨nm.toArray⟩)/\W.cell? ⟨wo.heap.size,3,none⟩=some (.slice ba bn bc))) 6 (by kernel_rfl) (J.o _ (Ext.refl _).drew) (fun j=>?_);refine q0f 0 j (fun j=>?_);refine q3Q 1 j (fun j=>?_);refine q0f 2 j (fun j=>?_)
          try simp only[Act.put,π,ψ,ω]
          refine q0O (i:=3) (by kernel_rfl) rfl (fun K hK=>?_)
          go_simp
          go_at_call 39
          refine(L1.o wc.drew pa pc (q1J (ao:=pa) (n:=R) (cp:=pc) (L:=O) (by rw[HO.o];exact q0F HQ.o (Ext.refl _).drew)).1).mono ?_;rintro e w6 ⟨v6,rfl,T1,Z⟩;obtain⟨ra,rc,rfl⟩:=q0E T1;have X:Hd (Ext wc w6):=η ((Ext.refl wc).drew.trans Z);have m2:=(q1J (ao:=ra) (n:=R) (cp:=rc) (L:=O.reverse) (by rw[List.length_reverse,HO.o];exact T1)).1;have HC:=η (B1.o w6 (HX.o.trans X.o) ra rc m2);clear Z T1 m2 j;refine hK.out _ _ (J.o _ X.o) (fun j=>?_);clear hK K
          try simp only[Act.put,π,ψ,ω]
          try simp only[Act.put,π,ψ,ω]
          refine q0O (i:=4) (by kernel_rfl) rfl (fun K hK=>?_)
          go_simp
          go_at_call 38
          refine(HC.o).mono ?_;rintro e w7 ⟨rfl,Z⟩;have E:Hd (Ext wc w7):=η (X.o.trans Z);clear Z j HC;refine hK.out _ _ (J.o _ E.o) (fun j=>?_);clear hK K
          try simp only[Act.put,π,ψ,ω]
          refine q0f 5 j (fun j=>?_)
          try simp only[Act.put,π,ψ,ω]
          refine q1L (by kernel_rfl) ?_
          try simp only[List.drop_succ_cons,List.drop_zero]
          have G1:=η (q0F HR.o E.o);have v1:=η (v0.o.ext E.o);have E1:=η (q0F HQ.o E.o);have u0:=η (HX.o.trans E.o);clear j X E J HR v0 HQ HX
          cases z3 with
          | false=>
           go_wp2_with fail
           go_roundw
           case rel=>
            have e1:A++q1G L S (k+1)=M2:=by rw[h0.o,d2.o,y1.o];simp[one?]
            exact⟨k+1,_,_,_,rfl,by go_num,by omega,by rw[e1];exact C,by rw[e1];exact G1,u0⟩
           case measure=>simp[intOf];omega
          | true=>
           have J:Hd (∀W,Ext w7 W->(W.cell? ⟨wo.heap.size,0,none⟩=some (.string ⟨nm.toArray⟩)/\W.cell? ⟨wo.heap.size,3,none⟩=some (.slice ba bn bc))):=η fun W h=>by
            have hb:=v1.o.ext h;rw[y.o];exact⟨hb.cell 0,hb.cell 3⟩
           go_wp2_with fail;refine q1B (fun W:World=>(W.cell? ⟨wo.heap.size,0,none⟩=some (.string ⟨nm.toArray⟩)/\W.cell? ⟨wo.heap.size,3,none⟩=some (.slice ba bn bc))) 11 (by kernel_rfl) (J.o _ (Ext.refl _).drew) (fun j=>?_);refine q0f 0 j (fun j=>?_);refine q0f 1 j (fun j=>?_);refine q3Q 2 j (fun j=>?_);refine q0f 3 j (fun j=>?_);refine q3Q 4 j (fun j=>?_);refine q0f 5 j (fun j=>?_)
           try simp only[Act.put,π,ψ,ω]
           refine q0O (i:=6) (by kernel_rfl) rfl (fun K hK=>?_)
           go_simp
           go_at_call 39
           refine(L1.o w7.drew pa pc (q1J (ao:=pa) (n:=R) (cp:=pc) (L:=O) (by rw[HO.o];exact q0F E1.o (Ext.refl _).drew)).1).mono ?_;rintro e w8 ⟨v8,rfl,U1,Z⟩;obtain⟨ra,rc,rfl⟩:=q0E U1;have N1:Hd (Ext w7 w8):=η ((Ext.refl w7).drew.trans Z);have n2:=(q1J (ao:=ra) (n:=R) (cp:=rc) (L:=O.reverse) (by rw[List.length_reverse,HO.o];exact U1)).1;have HC:=η (B1.o w8 (u0.o.trans N1.o) ra rc n2);clear Z U1 n2 j;refine hK.out _ _ (J.o _ N1.o) (fun j=>?_);clear hK K
           try simp only[Act.put,π,ψ,ω]
           try simp only[Act.put,π,ψ,ω]
           refine q0O (i:=7) (by kernel_rfl) rfl (fun K hK=>?_)
           go_simp
           go_at_call 38
           refine(HC.o).mono ?_;rintro e w9 ⟨rfl,Z⟩;have Q0:Hd (Ext w7 w9):=η (N1.o.trans Z);have K2:=η (q0F G1.o Q0.o);have F2:=η (v1.o.ext Q0.o);have J2:=η (q0F E1.o Q0.o);have J1:=η (u0.o.trans Q0.o);clear Z j HC;refine hK.out _ _ (J.o _ Q0.o) (fun j=>?_);clear hK K
           try simp only[Act.put,π,ψ,ω]
           refine q0f 8 j (fun j=>?_)
           try simp only[Act.put,π,ψ,ω]
           refine q0O (i:=9) (by kernel_rfl) rfl (fun K hK=>?_)
           go_simp
           have V:=q0B w9 (.cells #[.int .i64 6,.string ⟨nm.toArray⟩,.int .i64 r] 37);obtain⟨WA,Z0⟩: ∃WA,w9.alloc (.cells #[.int .i64 6,.string ⟨nm.toArray⟩,.int .i64 r] 37)=WA:=⟨_,rfl⟩
           have a0:=η (show Rd (w9.alloc (.cells #[.int .i64 6,.string ⟨nm.toArray⟩,.int .i64 r] 37)) (some ⟨w9.heap.size,0,none⟩) (fic ⟨6,nm,r⟩) from Rd.lit w9 #[.int .i64 6,.string ⟨nm.toArray⟩,.int .i64 r] 37);rw[Z0] at V a0;have I:=η (q0F K2.o V);have b0:Hd (D.heap.size<=WA.heap.size):=η (J1.o.trans V).size;have F0:=η (F2.o.ext V);have H0:=η (q0F J2.o V);have O1:=η (J1.o.trans V);refine hK.out _ _ (J.o _ (Q0.o.trans (q0B _ _))) (fun j=>?_);clear hK K V
           try simp only[Act.put,π,ψ,ω]
           refine q0O (i:=10) (by kernel_rfl) rfl (fun K hK=>?_);rw[Z0];refine q0m rfl (.tmp 151) (.tmp 160) 30 rfl D.heap.size 37 _ 3 32 Tryz.underlying30 Tryz.infoRf (by decide) (by decide) _ Z1 (q2i M2) rfl I.o _ 1 1 (fic ⟨6,nm,r⟩) rfl rfl (fun h=>by cases h) a0.o (by unfold fic;simp[Value.oneCell']) (by unfold maxLen;omega) (by omega) b0.o ?_;intro v2 w8 q l m0;obtain⟨a2,c2,rfl⟩:=q0E q;have i0:Hd (w8.ownsRow D.heap.size 37 3 (.slice a2 (Z1+1) c2) (Z1+1) (q2i (M2++[⟨6,nm,r⟩]))):=η (by rw[q1j];exact q);have l0:Hd (Ext D w8):=η (Below.grown O1.o l b0.o fun i hi=>(q0P I.o i hi).1);have o0:=η (F0.o.same (l.block _ F0.o.lt fun e=>F0.o.apart I.o (by decide) e.symm));have C1:=η (q0K H0.o fun i hi=>l.block i (q0P H0.o i hi).2 fun e=>q9g I.o H0.o (by decide) i e.symm hi);clear q l m0;refine hK.out _ _ (by rw[y.o];exact⟨o0.o.cell 0,o0.o.cell 3⟩) (fun j=>?_);clear hK K
           try simp only[Act.put,π,ψ,ω]
           refine q1L (by kernel_rfl) ?_
           try simp only[List.drop_succ_cons,List.drop_zero]
           clear j;go_wp2_with fail
           go_roundw
           case rel=>
            have e1:A++q1G L S (k+1)=M2++[⟨6,nm,r⟩]:=by rw[h0.o,d2.o,y1.o];simp[one?]
            exact⟨k+1,_,_,_,rfl,by go_num,by omega,η (by rw[e1,θ,C.o];rfl),by rw[e1];exact i0,l0⟩
           case measure=>simp[intOf];omega
    ·have e:sn=k:=by omega
     subst e;have R1:decide ((sn:Int)<(sn:Int))=false:=ε (by omega);have e1:q2p L S=A++q1G L S sn:=by unfold q2p;rw[x1.o,W0.o,HA.o]
     have HE:=η e1;clear e1;go_wp2_with fail;go_ret;exact⟨_,rfl,by rw[HE.o,C.o];exact q0d j0.o j2.o.size,j2.o.trans HX.o⟩
variable {w :World}{p:Option Addr}
end
section
open Go.RowKit
section
variable {wb w W W':World}{g gs gw rate u n:Nat}{sd c s:Int}{bs:List Bt}{K K':Nat->Prop}
end
end
end Go.Proofs.YtjlcdfpbllobaaaGreatDoor
