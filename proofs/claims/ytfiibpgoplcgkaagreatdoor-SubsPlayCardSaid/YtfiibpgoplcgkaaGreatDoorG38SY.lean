/- Walks. -/
import Derived.Test.YtfiibpgoplcgkaaGreatDoorG37SY
set_option linter.unusedVariables false
set_option linter.unusedSimpArgs false
set_option maxRecDepth 100000
set_option maxHeartbeats 100000000
namespace Go.Proofs.YtfiibpgoplcgkaaGreatDoor
variable {P:Program}{w W:World}{ops:Array Oper}{rest:List Oper}{a:Act}{Q:Exit->Act->World->Prop}{ba bb k:Nat}{D:Nat->Option (Nat×Tri)}{t:Tri}
open Go.RowKit
theorem q9t(b d b1 b2 j l o q:ByteArray)(i b3 m r:Nat)(w:World):(Instr.buildSlice 40 4 #[(0,.agg #[.string b,.string d,.float .f64 i]),(1,.agg #[.string b1,.string b2,.float .f64 b3]),(2,.agg #[.string j,.string l,.float .f64 m]),(3,.agg #[.string o,.string q,.float .f64 r])]).run Tryz.prog w
  = .ok (.slice (some ⟨w.heap.size,0,none⟩) 4 4) (w.alloc (.cells #[.string b,.string d,.float .f64 i,.string b1,.string b2,.float .f64 b3,.string j,.string l,.float .f64 m,.string o,.string q,.float .f64 r] 67)):=by
 kernel_rfl
def y3V :Op->Bool
 | .buildSlice .. =>true
 |_=>false
theorem q4t{o:Oper}(h:y3V o.op=true)(k:wpList P ops Q (o::rest) a w):wpList P ops Q (o::rest) a w:=k
theorem q4s{o:Oper}(b:o.guard=none)(t:TypeId)(q r s u:Operand)
  (C:o.op= .buildSlice t 4 #[(0,q),(1,r),(2,s),(3,u)])(i j l m:Value)(v:a.eval q=i)(x:a.eval r=j)(y:a.eval s=l)(B:a.eval u=m)
  (d:Value)(w':World)(E:(Instr.buildSlice t 4 #[(0,i),(1,j),(2,l),(3,m)]).run P w= .ok d w')(h:wpList P ops Q rest (a.put o.dst d) w'):wpList P ops Q (o::rest) a w:=
 wpList_plain b fun _ hK=>by
  unfold Oper.wp execOp;simp only[C,Sem.run_bind,Sem.run_pure,Result.andThen_ok,List.map_toArray,List.map_cons,List.map_nil,v,x,y,B,E];exact hK _ _ h
def Ar2(W:World)(ba bb:Nat)(S D:Nat->Option (Nat×Tri)):Prop:=
 Blk W ba 110 #[ptN (S 0),ptN (S 1)]/\Blk W bb 112 #[ptN (D 0),ptN (D 1)]
theorem Ar2.same{W':World}{S:Nat->Option (Nat×Tri)}(h:Ar2 W ba bb S D){X:Nat->Prop}(b:Stay X W W')(d:X ba)(i:X bb):Ar2 W' ba bb S D:=⟨h.1.same (b _ d),h.2.same (b _ i)⟩
theorem z4B{S:Nat->Option (Nat×Tri)}(b:k<2):(#[ptN (S 0),ptN (S 1)]:Array Value)[k]? =some (ptN (S k)):=by
 rcases(show k=0\/k=1 by omega) with rfl|rfl<;>rfl
theorem Ar2.at1{S:Nat->Option (Nat×Tri)}(h:Ar2 W ba bb S D)(b:k<2):W.cell? ⟨ba,k,none⟩=some (ptN (S k)):=(h.1.cell k).trans (z4B b)
theorem Ar2.at2{S:Nat->Option (Nat×Tri)}(h:Ar2 W ba bb S D)(b:k<2):W.cell? ⟨bb,k,none⟩=some (ptN (D k)):=(h.2.cell k).trans (z4B b)
theorem z7U{S:Nat->Option (Nat×Tri)}(b:k<2)(v:Option (Nat×Tri)):(#[ptN (S 0),ptN (S 1)]:Array Value).setIfInBounds k (ptN v)=#[ptN (q5M S k v 0),ptN (q5M S k v 1)]:=by
 rcases(show k=0\/k=1 by omega) with rfl|rfl<;>simp[q5M]
theorem Ar2.renew{S:Nat->Option (Nat×Tri)}(h:Ar2 W ba bb S D)(b:ba≠bb)(d:k<2)(v w:Option (Nat×Tri)):Ar2 ((W.setCell ⟨ba,k,none⟩ (ptN v)).setCell ⟨bb,k,none⟩ (ptN w)) ba bb (q5M S k v) (q5M D k w):=by
 constructor
 ·have:=h.1.set k (ptN v)
  rw[z7U d] at this;exact this.same (heap_setCell_other _ ⟨bb,_,none⟩ ba _ fun e=>b (by exact e))
 ·have:=(h.2.same (w':=W.setCell ⟨ba,k,none⟩ (ptN v)) (heap_setCell_other _ ⟨ba,_,none⟩ bb _ fun e=>b (by exact e.symm))).set k (ptN w)
  rw[z7U d] at this;exact this
theorem Ar2.put{S d b:Nat->Option (Nat×Tri)}(h:Ar2 W ba bb S D)(i: ∀k,ptN (d k)=ptN (S k))(j: ∀k,ptN (b k)=ptN (D k)):Ar2 W ba bb d b:=by
 unfold Ar2;rw[i,i,j,j];exact h
theorem q3b{S:Nat->Option (Nat×Tri)}{x:Nat}{s:Tri}(h:S k=some (x,s))(j:Nat):ptN (q5M S k (some (x,t)) j)=ptN (S j):=by
 by_cases b:j=k
 ·subst b;rw[q7x,h];rfl
 ·rw[q3A _ _ b]
def Twn(S D:Nat->Option (Nat×Tri)):Prop:= ∀k,(S k).map Prod.snd=(D k).map Prod.snd
theorem Twn.renew{S:Nat->Option (Nat×Tri)}(h:Twn S D){v w:Option (Nat×Tri)}(e:v.map Prod.snd=w.map Prod.snd):Twn (q5M S k v) (q5M D k w):=fun j=>by
 by_cases b:j=k
 ·subst b;rw[q7x,q7x];exact e
 ·rw[q3A _ _ b,q3A _ _ b];exact h _
theorem Twn.some{S:Nat->Option (Nat×Tri)}(h:Twn S D){y:Nat}(e:D k=some (y,t)): ∃x,S k=some (x,t):=by
 have b:=h k;rw[e] at b
 cases hp:S k with
 |none=>rw[hp] at b;cases b
 |some v=>obtain⟨x,s⟩:=v;rw[hp] at b;cases b;exact⟨x,rfl⟩
theorem z8b(x:Int): ∃k:Nat,k<4/\bits .and .i64 x 3=(k:Int):=by
 have h:(BitVec.ofInt 64 x&&&BitVec.ofInt 64 3).toNat<=3:=by
  rw[BitVec.toNat_and];exact Nat.and_le_right
 have e:bits .and .i64 x 3=IntKind.i64.wrap (((BitVec.ofInt 64 x&&&BitVec.ofInt 64 3).toNat:Nat):Int):=rfl;refine⟨(BitVec.ofInt 64 x&&&BitVec.ofInt 64 3).toNat,by omega,?_⟩;rw[e,ν];omega
theorem y0k{l r:List Value}{j:Nat}{u:Value}(h:l[j]? =some u):(l++r)[j]? =some u:=by
 rw[List.getElem?_append_left (List.getElem?_eq_some_iff.1 h).1];exact h
theorem q7N{b:Nat}{ty da:List UInt8}{we:Nat}(h:Blk W b 67 #[.string ⟨ty.toArray⟩,.string ⟨da.toArray⟩,.float .f64 we]):Evs W (some ⟨b,0,none⟩) 1 1 [⟨ty,da,we⟩]:=
 ⟨rfl,ι _,by omega,(fun h=>by cases h),fun j u d=>⟨b,0,rfl,by
  rw[Nat.zero_add,h.cell j];show(List.toArray (q4V [⟨ty,da,we⟩]))[j]? =some u
  rw[List.getElem?_toArray];exact d⟩⟩
theorem q3u{b:Nat}{tx:List UInt8}(h:Blk W b 67 #[.string ⟨#[116]⟩,.string ⟨tx.toArray⟩,.float .f64 0,.string ⟨#[117]⟩,.string ⟨#[]⟩,.float .f64 0,.string ⟨#[118]⟩,.string ⟨#[]⟩,.float .f64 0,.string ⟨#[119]⟩,.string ⟨#[]⟩,.float .f64 0])(k:Nat)(i:k<=4):
  Evs W (some ⟨b,0,none⟩) k 4 (([⟨[116],tx,0⟩,⟨[117],[],0⟩,⟨[118],[],0⟩,⟨[119],[],0⟩]:List Ev).take k):=by
 have he: ∀a b:List Ev,q4V (a++b)=q4V a++q4V b:=fun a b=>by unfold q4V;rw[List.map_append,List.flatten_append]
 refine⟨by rw[Θ];show min k 4=k;omega,i,by omega,(fun h=>by cases h),fun j u d=>⟨b,0,rfl,?_⟩⟩;rw[Nat.zero_add,h.cell j];show(List.toArray (q4V [⟨[116],tx,0⟩,⟨[117],[],0⟩,⟨[118],[],0⟩,⟨[119],[],0⟩]))[j]? =some u;rw[List.getElem?_toArray,<-List.take_append_drop k ([⟨[116],tx,0⟩,⟨[117],[],0⟩,⟨[118],[],0⟩,⟨[119],[],0⟩]:List Ev),he];exact y0k d
theorem TS.start{w1 d:World}{g u rate:Nat}{sd:Int}(h:SK w1 d g u rate sd 1048576 0 0 0 [] noI)(own:List UInt8):
  TS w1 (((d.alloc (.cells #[.slice none 0 0,.slice none 0 0,.int .i64 0] 39)).alloc (.cells #[.pointer none,.pointer none] 110)).alloc (.cells #[.pointer none,.pointer none] 112)) g u rate sd 0 0 [] d.heap.size (.slice none 0 0) (.slice none 0 0) 0 [] own (fun _=>none) (fun _=>none) (fun i=>i=d.heap.size+1\/i=d.heap.size+1+1)/\
   Ar2 (((d.alloc (.cells #[.slice none 0 0,.slice none 0 0,.int .i64 0] 39)).alloc (.cells #[.pointer none,.pointer none] 110)).alloc (.cells #[.pointer none,.pointer none] 112)) (d.heap.size+1) (d.heap.size+1+1) (fun _=>none) (fun _=>none):=by
 have v:=q7O d (.cells #[.slice none 0 0,.slice none 0 0,.int .i64 0] 39) (.cells #[.pointer none,.pointer none] 110) (.cells #[.pointer none,.pointer none] 112);have q:=q5Z (d.alloc (.cells #[.slice none 0 0,.slice none 0 0,.int .i64 0] 39)) (.cells #[.pointer none,.pointer none] 110) (.cells #[.pointer none,.pointer none] 112);have r:=q0B ((d.alloc (.cells #[.slice none 0 0,.slice none 0 0,.int .i64 0] 39)).alloc (.cells #[.pointer none,.pointer none] 110)) (.cells #[.pointer none,.pointer none] 112);have o: ∀i,MoB d.heap.size (.slice none 0 0) (.slice none 0 0) i->i=d.heap.size:=fun i b=>by
  rcases b with b|b|b
  ·exact b
  ·cases b
  ·cases b
 have m: ∀i,¬InS (fun _=>none) i:=fun i ⟨_,_,_,h⟩=>by cases h
 have b1:=(Blk.new d 39 #[.slice none 0 0,.slice none 0 0,.int .i64 0]).ext q;have b2:=(Blk.new (d.alloc (.cells #[.slice none 0 0,.slice none 0 0,.int .i64 0] 39)) 110 #[.pointer none,.pointer none]).ext r;have b3:=Blk.new ((d.alloc (.cells #[.slice none 0 0,.slice none 0 0,.int .i64 0] 39)).alloc (.cells #[.pointer none,.pointer none] 110)) 112 #[.pointer none,.pointer none];simp only[ρ] at b2 b3;refine⟨⟨⟨h.more v fun i b=>?_,⟨[],⟨⟨0,b1⟩,⟨rfl,.inl ⟨rfl,rfl⟩⟩,⟨rfl,.inl ⟨rfl,rfl⟩⟩⟩,ι _⟩,okBs.nil,ι _,fun i b=>⟨by rw[o i b];exact h.base.size,fun e=>?_⟩⟩,fun j x s _ l=>(by cases l),fun j x s _ l=>(by cases l),fun j x s _ l=>(by cases l),fun j x s _ l=>(by cases l)⟩,b2,b3⟩
 ·refine .inr ?_
  simp only[ρ];rcases b with b|b|b|b
  ·rw[o i b];omega
  ·exact absurd b (m i)
  ·exact absurd b (m i)
  ·omega
 ·rcases e with e|e|e
  ·exact m i e
  ·exact m i e
  ·have:=o i b;omega
theorem subsplay_c{ao : Option Addr}{n cap:Nat}{A:List Ac3}{name:List UInt8}(sd:Int)(rate:Nat)(g1:Int)(w:World)(hw:SbW w)(hx:As3 w ao n cap A)(a4:name.length<=9223372036854775807)(P3:0<=sd)(Q3:sd<18446744073709551616):
  Calls Tryz.prog 9 #[.string ⟨name.toArray⟩,.slice ao n cap,.agg #[.int .u64 sd,.float .f64 rate,.int .u16 g1]] w fun e w'=>e= .returned (.bool true)/\Ext w w':=by
 have P1:=q0B w (.cells #[.int .u64 sd,.float .f64 rate,.int .u16 g1] 27);have k3:=Blk.new w 27 #[.int .u64 sd,.float .f64 rate,.int .u16 g1];have HG:=η (z6J 50 _ (hx.ext P1));have HX:=η P1;have V0:=η k3;have HA:=η (hx.ext P1);have HW:=η (fun W (k:Ext w W)=>hw.ext k);have S3:=hx.len;have U3:=hx.fits;have V3:=hx.bound;obtain⟨z,hz⟩: ∃z,q6T A 50=z:=⟨_,rfl⟩
 rw[hz] at HG;clear hx P1 k3 hw;go_enter Tryz.func9,Tryz.ntmps9;by_cases hl:100<name.length
 ·have n3:decide ((100:Int)<(name.length:Int))=true:=ζ (by omega)
  clear hl;go_wp2_with fail;refine(q6A _ (HW.o _ HX.o)).mono ?_;rintro e w2 ⟨rfl,hx⟩;have l2:=η (HX.o.trans hx);clear hx;go_wp2_with fail;go_ret;exact⟨rfl,l2.o⟩
 have n3:decide ((100:Int)<(name.length:Int))=false:=ε (by omega);go_wp2_with fail;refine HG.o.mono ?_;rintro e w1 ⟨rfl,hx⟩;have M1:=η (HX.o.trans hx);have I3:=η (V0.o.ext hx);have L0:=η (HA.o.ext hx);clear hx HG V0 HA HX
 cases z with
 | true=>
  go_wp2_with fail;refine(q6A w1 (HW.o _ M1.o)).mono ?_;rintro e w2 ⟨rfl,hx⟩;have l2:=η (M1.o.trans hx);clear hx;go_wp2_with fail;go_ret;exact⟨rfl,l2.o⟩
 | false =>
  have F1:=z4p (most:=50) hz;have T2:=η F1.2;have T3:n<=50:=by have:=F1.1;omega
  have N1:=I3.o;have k0:=N1.cell 0;have k1:=N1.cell 1;have k2:=N1.cell 2;have HO:=η (q8n sd rate g1 w1 P3 Q3);have X2:=η (HW.o _ M1.o);clear F1 hz N1 n3;go_wp2_with fail;refine HO.o.mono ?_;rintro e w2 ⟨g,gs,rfl,hk⟩;have i2:=η (TS.start hk (126::name));have HQ:Hd (w1.heap.size<=w2.heap.size):=η hk.base.size;clear hk HO k0 k1 k2;go_wp2_with fail;obtain⟨mb,O1⟩: ∃mb,w2.heap.size=mb:=⟨_,rfl⟩
  go_loopw [13] (fun oi W=> ∃(j u m k:Nat) (bs:List Bt) (vL vM:Value) (S D:Nat->Option (Nat×Tri)),oi= .int .i64 (j:Int)/\j<=n/\u<=2024*j/\m<=j/\k<=2*j/\TS w1 W g gs rate sd u m bs w2.heap.size vL vM k bs (126::name) S D (fun i=>i=w2.heap.size+1\/i=w2.heap.size+1+1)/\Twn S D/\Ar2 W (w2.heap.size+1) (w2.heap.size+1+1) S D) (fun i _=>n-(intOf i).toNat)
  case atStart=>exact⟨0,0,0,0,[],_,_,_,_,rfl,υ _,ι _,ι _,υ _,i2.o.1,fun k=>rfl,i2.o.2⟩
  case round =>
   obtain⟨j,u,m,mk,bs,vL,vM,S,D,rfl,hj,hu,hm,c4,G2,y3,s2⟩:=hrel;obtain⟨ba,m3⟩: ∃ba,w2.heap.size+1=ba:=⟨_,rfl⟩
   obtain⟨bb,v2⟩: ∃bb,ba+1=bb:=⟨_,rfl⟩
   rw[m3,v2] at G2 s2⊢;have j3:ba≠bb:=by omega
   have v3:w1.heap.size<=ba:=by have:=HQ.o;omega
   have I1:=η j3;have Q2:=η v2;have J1:=η v3;have Q0:=η G2;have L1:=η y3;have O2:=η s2;clear G2 y3 s2 m3 v2 j3 v3 O1 i2;by_cases s3:j<n
   ·have hd : decide ((j:Int)<(n:Int))=true:=ζ (by omega)
    have X3:(j:Int)<(n:Int):=by omega
    have q8:IntKind.i64.wrap ((j:Int)+1)=(j:Int)+1:=by rw[ν];omega
    obtain⟨b0,off,rfl,c0,c1,c2,c3,Y0⟩:=(L0.o.ext Q0.o.tb.sk.base).at s3;have F1:=T2.o (A.getD j a30) (z5O (by omega));generalize A.getD j a30=x at*;obtain⟨kd,wh,xn,tx⟩:=x;simp only at c0 c1 c2 c3 F1;have o1:=Y0.k0;have o2:=Y0.k1;have o3:=Y0.w0;have o4:=Y0.w1;have o5:=Y0.n0;have o6:=Y0.n1;simp only at o1 o2 o3 o4 o5 o6;clear Y0;obtain⟨q,hq⟩: ∃q,wr.heap.size=q:=⟨_,rfl⟩
    have Q1:=q0B wr (.cells #[.int .u8 kd,.int .u8 wh,.int .i64 xn,.string ⟨tx.toArray⟩] 114);have z2:=Blk.new wr 114 #[.int .u8 kd,.int .u8 wh,.int .i64 xn,.string ⟨tx.toArray⟩];rw[hq] at z2;have m1:=η z2;obtain⟨X,hX⟩: ∃X:Nat->Prop,(fun i=>(i=ba\/i=bb)\/i=q)=X:=⟨_,rfl⟩
    have e3:X ba:=by rw[<-hX];exact .inl (.inl rfl)
    have f3:X bb:=by rw[<-hX];exact .inl (.inr rfl)
    have i3:X q:=by rw[<-hX];exact .inr rfl
    have U2:Hd (q≠ba):=η (by have:=Q0.o.lt (i:=ba) (.inr (.inr (.inl rfl)));omega);have V2:Hd (q≠bb):=η (by have:=Q0.o.lt (i:=bb) (.inr (.inr (.inr rfl)));omega);have g2:Hd (name.length<=4611686018427387903):=η (by omega);have O0:Hd ((126::name).length<=4611686018427387903):=η (by rw[χ];omega);have B:=η e3;have C:=η f3;have M0:=η i3;have K1:=η (Q0.o.more (X':=X) Q1 fun i I=>by rw[<-hX] at I;exact I.imp id fun e=>by rw[ρ];omega);have s1:=η (O2.o.same (X:=fun i=>i=ba\/i=bb) (fun i I=>Q1.block i (Q0.o.lt (.inr (.inr I)))) (.inl rfl) (.inr rfl))
    have R2:Hd (∀(W:World) (u' m' k':Nat) (W0:List Bt) (K2 L2:Value) (S' D':Nat->Option (Nat×Tri)),u'<=u+2024->m'<=m+1->k'<=mk+2->TS w1 W g gs rate sd u' m' W0 w2.heap.size K2 L2 k' W0 (126::name) S' D' X->Twn S' D'->Ar2 W ba bb S' D'->
      ∃(j1 u m k:Nat) (bs:List Bt) (vL vM:Value) (S D:Nat->Option (Nat×Tri)),Value.int .i64 ((j:Int)+1)= .int .i64 (j1:Int)/\j1<=n/\u<=2024*j1/\m<=j1/\k<=2*j1/\TS w1 W g gs rate sd u m bs w2.heap.size vL vM k bs (126::name) S D (fun i=>i=ba\/i=bb)/\Twn S D/\Ar2 W ba bb S D):=
     η fun W u' m' k' W0 K2 L2 S' D' h1 h2 W3 h3 h4 h5=>⟨j+1,u',m',k',W0,K2,L2,S',D',by go_num,by omega,by omega,by omega,by omega,h3.more (Ext.refl _) fun i I=> .inl (by rw[<-hX];exact .inl I),h4,h5⟩
    have u0:Hd ((u:Int)+8024<=1048576):=η (by omega);have N:Hd (m<=86/\mk<=900):=η (by omega);have HQ:=η hq;obtain⟨wA,H2⟩: ∃wA,wr.alloc (.cells #[.int .u8 kd,.int .u8 wh,.int .i64 xn,.string ⟨tx.toArray⟩] 114)=wA:=⟨_,rfl⟩
    rw[H2] at Q1 m1 K1 s1;have a3:=η H2;obtain⟨zz,J2⟩: ∃zz:Nat,kd.tmod 11=(zz:Int):=⟨(kd.tmod 11).toNat,by rw[Int.tmod_eq_emod_of_nonneg o1];omega⟩
    have C3:zz<11:=by rw[Int.tmod_eq_emod_of_nonneg o1] at J2;omega
    obtain⟨E,O3⟩: ∃E:Nat,wh.tmod 2=(E:Int):=⟨(wh.tmod 2).toNat,by rw[Int.tmod_eq_emod_of_nonneg o3];omega⟩
    have l:E<2:=by rw[Int.tmod_eq_emod_of_nonneg o3] at O3;omega
    obtain⟨nn,e4,g4⟩:=z8b xn;have Z3:(E:Int)<2:=by omega
    have Y3:¬(E:Int)<0:=by omega
    have B4:IntKind.i64.wrap wh=wh:=by rw[ν];omega
    have C4:IntKind.i64.wrap (E:Int)=(E:Int):=by rw[ν];omega
    have H3:IntKind.u8.wrap (zz:Int)=(zz:Int):=by rw[IntKind.wrap_u8];omega
    clear Q1 z2 hq hX e3 f3 i3 Q0 O2 H2
    go_upto_region 15 with fail
    rw[a3.o,HQ.o];clear c0 c1 c2 c3 a3 HQ;obtain⟨b9,l3⟩: ∃b,(decide (zz=9)||(D E).isNone)=b:=⟨_,rfl⟩
    have Y1:=η l3;clear l3
    go_cut [82] from 73 to 287 (fun s W=>s= .bool b9/\W=wA)
    case first=>
     as_aux_lemma=>
     have r2:=m1.o.cell 0;by_cases h9:zz=9
     ·have d9:((zz:Int)==9)=true:=beq_iff_eq.2 (by omega)
      have HC:Hd (b9=true):=η (by rw[<-Y1.o,ζ h9];rfl);clear h9;go_wp2_with fail
      go_meet
      case rel=>exact⟨by rw[HC.o],rfl⟩
     ·have d9:((zz:Int)==9)=false:=beq_eq_false_iff_ne.2 (by omega)
      have HC:Hd (b9=(D E).isNone):=η (by rw[<-Y1.o,ε h9];rfl);have Y:=s1.o.at2 l;clear h9
      cases hD:D E with
      | none=>
       rw[hD] at Y
       replace Y:wA.cell? ⟨bb,E,none⟩=some (.pointer none):=Y
       have Z1:Hd (b9=true):=η (by rw[HC.o,hD];rfl);clear hD;go_wp2_with fail
       go_meet
       case rel=>exact⟨by rw[Z1.o],rfl⟩
      | some v=>
       obtain⟨y,t⟩:=v;rw[hD] at Y
       replace Y:wA.cell? ⟨bb,E,none⟩=some (.pointer (some ⟨y,0,none⟩)):=Y
       have Z1:Hd (b9=false):=η (by rw[HC.o,hD];rfl);clear hD;go_wp2_with fail
       go_meet
       case rel=>exact⟨by rw[Z1.o],rfl⟩
    case rest =>
     obtain⟨rfl,rfl⟩:=hcut;clear Y1
     go_upto_if 82 with fail
     go_cut [17,18,19,20] from 83 to 287 (fun a b d e W=> ∃(T0 U0:Value) (S1 D1:Nat->Option (Nat×Tri)),TS w1 W g gs rate sd u m bs w2.heap.size T0 U0 mk bs (126::name) S1 D1 X/\Twn S1 D1/\Ar2 W ba bb S1 D1/\Blk W q 114 #[.int .u8 kd,.int .u8 wh,.int .i64 xn,.string ⟨tx.toArray⟩])
     case first =>
      cases b9 with
      | false=>
       go_wp2_with fail
       go_meet
       case rel=>exact⟨_,_,S,D,K1.o,L1.o,s1.o,m1.o⟩
      | true =>
       as_aux_lemma=>
        have U:=η (K1.o.open1 (by have:=N.o;omega) g2.o X2.o E);obtain⟨zo,I2⟩: ∃zo,q8G bs name [115]=zo:=⟨_,rfl⟩
        rw[I2] at U;have Z2:=η I2;clear I2;go_wp2_with fail;refine U.o.mono ?_;rintro e w4 ⟨J,h4⟩;have a0:=η (s1.o.same J B.o C.o);have N0:=η (m1.o.same (J q M0.o));clear U J;rcases h4 with⟨hz,rfl,h4⟩|⟨hz,x1,rfl,h4⟩
        ·have M:=η (h4.open2 (by have:=N.o;omega) g2.o E)
         rw[Z2.o] at M;have HZ:=η hz;clear h4 hz;go_wp2_with fail;refine M.o.mono ?_;rintro e w5 ⟨Z0,h5⟩;have W1:=η (N0.o.same (Z0 q M0.o));have i0:=η (a0.o.same Z0 B.o C.o);clear M Z0;rcases h5 with⟨hz,rfl,h5⟩|⟨hz,x2,rfl,h5⟩
         ·have H0:=η h5;have V1:=η (i0.o.renew I1.o l none none)
          have j2:=η ((h5.poke B.o J1.o E (ptN none)).poke C.o (by have:=Q2.o;have:=J1.o;omega) E (ptN none));have X1:Hd (Blk ((w5.setCell ⟨ba,E,none⟩ (ptN none)).setCell ⟨bb,E,none⟩ (ptN none)) q 114 #[.int .u8 kd,.int .u8 wh,.int .i64 xn,.string ⟨tx.toArray⟩]):=η ((W1.o.same (heap_setCell_other _ ⟨ba,_,none⟩ q _ fun e=>U2.o (by exact e))).same (heap_setCell_other _ ⟨bb,_,none⟩ q _ fun e=>V2.o (by exact e)));have f1:=i0.o.1.free E;have e1:=i0.o.at1 l;have X0:=i0.o.2.same (w':=w5.setCell ⟨ba,E,none⟩ (.pointer none)) (heap_setCell_other _ ⟨ba,_,none⟩ bb _ fun e=>I1.o (by exact e.symm));have f2:=X0.free E;have e2:(w5.setCell ⟨ba,E,none⟩ (.pointer none)).cell? ⟨bb,E,none⟩=some (ptN (D E)):=(X0.cell E).trans (z4B l);have z1:=η (L1.o.renew (k:=E) (v:=none) (w:=none) rfl);have E3:(zo !=zo)=false:=by simp
          clear X0 h5 hz;go_wp2_with fail
          go_meet
          case rel=>exact⟨_,_,_,_,j2.o,z1.o,V1.o,X1.o⟩
         ·exact absurd hz HZ.o
        ·have M:=η (h4.open2 (by have:=N.o;omega) g2.o E)
         rw[Z2.o] at M;have HZ:=η hz;clear h4 hz;go_wp2_with fail;refine M.o.mono ?_;rintro e w5 ⟨Z0,h5⟩;have W1:=η (N0.o.same (Z0 q M0.o));have i0:=η (a0.o.same Z0 B.o C.o);clear M Z0;rcases h5 with⟨hz,rfl,h5⟩|⟨hz,x2,rfl,h5⟩
         ·exact absurd HZ.o hz
         ·have H0:=η h5;have V1:=η (i0.o.renew I1.o l (some (x1,z7H bs name)) (some (x2,z7H bs name)))
          have j2:=η ((h5.poke B.o J1.o E (ptN (some (x1,z7H bs name)))).poke C.o (by have:=Q2.o;have:=J1.o;omega) E (ptN (some (x2,z7H bs name))));have X1:Hd (Blk ((w5.setCell ⟨ba,E,none⟩ (ptN (some (x1,z7H bs name)))).setCell ⟨bb,E,none⟩ (ptN (some (x2,z7H bs name)))) q 114 #[.int .u8 kd,.int .u8 wh,.int .i64 xn,.string ⟨tx.toArray⟩]):=η ((W1.o.same (heap_setCell_other _ ⟨ba,_,none⟩ q _ fun e=>U2.o (by exact e))).same (heap_setCell_other _ ⟨bb,_,none⟩ q _ fun e=>V2.o (by exact e)));have f1:=i0.o.1.free E;have e1:=i0.o.at1 l;have X0:=i0.o.2.same (w':=w5.setCell ⟨ba,E,none⟩ (.pointer (some ⟨x1,0,none⟩))) (heap_setCell_other _ ⟨ba,_,none⟩ bb _ fun e=>I1.o (by exact e.symm));have f2:=X0.free E;have e2:(w5.setCell ⟨ba,E,none⟩ (.pointer (some ⟨x1,0,none⟩))).cell? ⟨bb,E,none⟩=some (ptN (D E)):=(X0.cell E).trans (z4B l);have z1:=η (L1.o.renew (k:=E) (v:=(some (x1,z7H bs name))) (w:=(some (x2,z7H bs name))) rfl);have E3:(zo !=zo)=false:=by simp
          clear X0 h5 hz;go_wp2_with fail
          go_meet
          case rel=>exact⟨_,_,_,_,j2.o,z1.o,V1.o,X1.o⟩
     case rest =>
      obtain⟨T0,U0,S1,D1,E2,R1,A1,K0⟩:=hcut;obtain⟨F,A3⟩: ∃F,F=wc:=⟨_,rfl⟩
      rw[<-A3] at E2 A1 K0⊢;have d0:=η E2;have O:=η R1;have V:=η A1;have V0:=η K0;have r0:=K0.cell 0;have r2:=K0.cell 2;have r3:=K0.cell 3;obtain⟨zi,D3⟩: ∃zi:Int,(zz:Int)=zi:=⟨_,rfl⟩
      have j4:0<=zi/\zi<11:=by omega
      rw[D3] at J2 H3;clear A3 E2 R1 A1 K0 D3 C3 K1 s1 m1 L1
      go_upto_block 2 with fail
      go_cut [21,22,23,24,25,26,27,28,29,30,31,32,33,34,35] from 83 to 253 (fun R3 k4 l4 m4 n4 p4 q4 s4 t4 u4 v4 x4 y4 z4 A4 W=>R3= .bool true/\ ∃(u2 m2 k2:Nat) (n2:List Bt) (F3 G3:Value) (S2 D2:Nat->Option (Nat×Tri)),u2<=u+2024/\m2<=m+1/\k2<=mk+2/\TS w1 W g gs rate sd u2 m2 n2 w2.heap.size F3 G3 k2 n2 (126::name) S2 D2 X/\Twn S2 D2/\Ar2 W ba bb S2 D2)
      case first =>
       clear J2 H3;rcases(show zi=0\/zi=1\/zi=2\/zi=3\/zi=4\/zi=5\/zi=6\/zi=7\/zi=8\/zi=9\/zi=10 by omega) with hz|hz|hz|hz|hz|hz|hz|hz|hz|hz|hz
       ·subst hz
        as_aux_lemma=>
         obtain⟨n1,S0⟩: ∃n1,nn+1=n1:=⟨_,rfl⟩
         have q1:IntKind.i64.wrap ((nn:Int)+1)=(n1:Int):=by rw[ν];omega
         have q2:(n1:Int)<=4:=by omega
         have q3:(0:Int)<=(n1:Int):=by omega
         have h0:=q0B F (.cells #[.string ⟨#[116]⟩,.string ⟨tx.toArray⟩,.float .f64 0,.string ⟨#[117]⟩,.string ⟨#[]⟩,.float .f64 0,.string ⟨#[118]⟩,.string ⟨#[]⟩,.float .f64 0,.string ⟨#[119]⟩,.string ⟨#[]⟩,.float .f64 0] 67);have q0:=Blk.new F 67 #[.string ⟨#[116]⟩,.string ⟨tx.toArray⟩,.float .f64 0,.string ⟨#[117]⟩,.string ⟨#[]⟩,.float .f64 0,.string ⟨#[118]⟩,.string ⟨#[]⟩,.float .f64 0,.string ⟨#[119]⟩,.string ⟨#[]⟩,.float .f64 0];have j0:=η (d0.o.more (X':=fun i=>X i\/i=F.heap.size) h0 fun i I=>I.imp id fun e=>by rw[e,ρ];omega);have m0:=η (V.o.same (X:=X) (fun i I=>h0.block i (d0.o.lt (.inr (.inr I)))) B.o C.o);have C0:=η q0;have p1:Hd (F.heap.size≠F.heap.size+1):=η (by omega);clear h0 q0;obtain⟨LL,g0⟩: ∃LL,([⟨[116],tx,0⟩,⟨[117],[],0⟩,⟨[118],[],0⟩,⟨[119],[],0⟩]:List Ev).take n1=LL:=⟨_,rfl⟩
         have l0:Hd (∀W,Stay (fun i=>X i\/i=F.heap.size) (F.alloc (.cells #[.string ⟨#[116]⟩,.string ⟨tx.toArray⟩,.float .f64 0,.string ⟨#[117]⟩,.string ⟨#[]⟩,.float .f64 0,.string ⟨#[118]⟩,.string ⟨#[]⟩,.float .f64 0,.string ⟨#[119]⟩,.string ⟨#[]⟩,.float .f64 0] 67)) W->Evs W (some ⟨F.heap.size,0,none⟩) n1 4 LL):=η fun W hs=>by rw[<-g0];exact q3u (C0.o.same (hs _ (.inr rfl))) n1 (by omega)
         have R: ∀e∈LL,e.ty.length<=300/\e.da.length<=300/\e.we<18446744073709551616:=fun e he=>by
          rw[<-g0] at he;have:=List.mem_of_mem_take he;simp only[List.mem_cons,List.not_mem_nil,or_false] at this;rcases this with rfl|rfl|rfl|rfl<;>exact⟨by simp,by first|(simp only;omega)|simp,by simp⟩
         have o0:Hd (q1D LL):=η (fun e he=>by have:=R e he;exact⟨by omega,by omega⟩);have p0:Hd (∀e∈LL,e.we<18446744073709551616):=η fun e he=>(R e he).2.2
         clear g0 R S0;have U:=η (j0.o.app1 N.o.1 u0.o [115] (by decide) l0.o o0.o p0.o);obtain⟨y1,y2,hy⟩: ∃y1 y2,apN bs [115] LL=(y1,y2):=⟨_,_,rfl⟩
         rw[hy] at U;simp only at U;have G1:(y1==y1)=true:=by simp
         have H1:(y2==y2)=true:=by simp
         go_wp2_with (refine q4t rfl ?_;refine q4s rfl 40 (.tmp 226) (.tmp 227) (.tmp 228) (.tmp 229) rfl (.agg #[.string ⟨#[116]⟩,.string ⟨tx.toArray⟩,.float .f64 0]) (.agg #[.string ⟨#[117]⟩,.string ⟨#[]⟩,.float .f64 0]) (.agg #[.string ⟨#[118]⟩,.string ⟨#[]⟩,.float .f64 0]) (.agg #[.string ⟨#[119]⟩,.string ⟨#[]⟩,.float .f64 0]) rfl rfl rfl rfl _ _ (q9t _ _ _ _ _ _ _ _ _ _ _ _ _) ?_)
         refine U.o.mono ?_;rintro e w3 ⟨rfl,h3,G⟩;have M:=η (h3.app2 (by have:=N.o;omega) [115] (by decide) (l0.o _ G) (fun a e=>by cases e;exact .inr rfl) o0.o p0.o);rw[hy] at M;simp only at M;have Z:=η (m0.o.same G (.inl B.o) (.inl C.o));clear U G h3 hy;go_wp2_with fail;refine M.o.mono ?_;rintro e w4 ⟨rfl,J,i1,l1,h4⟩;have a0:=η (Z.o.same J (.inl B.o) (.inl C.o));have f0:=η (h4.more (Ext.refl w4) (X':=X) fun i I=> .inl (.inl I));clear M J h4;go_wp2_with fail
         go_meet
         case rel=>exact⟨rfl,_,_,_,_,_,_,_,_,by omega,by omega,by omega,f0.o,O.o,a0.o⟩
       ·subst hz
        as_aux_lemma=>
         obtain⟨n1,S0⟩: ∃n1,nn+1=n1:=⟨_,rfl⟩
         have q1:IntKind.i64.wrap ((nn:Int)+1)=(n1:Int):=by rw[ν];omega
         have q2:(n1:Int)<=4:=by omega
         have q3:(0:Int)<=(n1:Int):=by omega
         have h0:=q0B F (.cells #[.string ⟨#[116]⟩,.string ⟨tx.toArray⟩,.float .f64 0,.string ⟨#[117]⟩,.string ⟨#[]⟩,.float .f64 0,.string ⟨#[118]⟩,.string ⟨#[]⟩,.float .f64 0,.string ⟨#[119]⟩,.string ⟨#[]⟩,.float .f64 0] 67);have q0:=Blk.new F 67 #[.string ⟨#[116]⟩,.string ⟨tx.toArray⟩,.float .f64 0,.string ⟨#[117]⟩,.string ⟨#[]⟩,.float .f64 0,.string ⟨#[118]⟩,.string ⟨#[]⟩,.float .f64 0,.string ⟨#[119]⟩,.string ⟨#[]⟩,.float .f64 0];have j0:=η (d0.o.more (X':=fun i=>X i\/i=F.heap.size) h0 fun i I=>I.imp id fun e=>by rw[e,ρ];omega);have m0:=η (V.o.same (X:=X) (fun i I=>h0.block i (d0.o.lt (.inr (.inr I)))) B.o C.o);have C0:=η q0;have p1:Hd (F.heap.size≠F.heap.size+1):=η (by omega);clear h0 q0;obtain⟨LL,g0⟩: ∃LL,([⟨[116],tx,0⟩,⟨[117],[],0⟩,⟨[118],[],0⟩,⟨[119],[],0⟩]:List Ev).take n1=LL:=⟨_,rfl⟩
         have l0:Hd (∀W,Stay (fun i=>X i\/i=F.heap.size) (F.alloc (.cells #[.string ⟨#[116]⟩,.string ⟨tx.toArray⟩,.float .f64 0,.string ⟨#[117]⟩,.string ⟨#[]⟩,.float .f64 0,.string ⟨#[118]⟩,.string ⟨#[]⟩,.float .f64 0,.string ⟨#[119]⟩,.string ⟨#[]⟩,.float .f64 0] 67)) W->Evs W (some ⟨F.heap.size,0,none⟩) n1 4 LL):=η fun W hs=>by rw[<-g0];exact q3u (C0.o.same (hs _ (.inr rfl))) n1 (by omega)
         have R: ∀e∈LL,e.ty.length<=300/\e.da.length<=300/\e.we<18446744073709551616:=fun e he=>by
          rw[<-g0] at he;have:=List.mem_of_mem_take he;simp only[List.mem_cons,List.not_mem_nil,or_false] at this;rcases this with rfl|rfl|rfl|rfl<;>exact⟨by simp,by first|(simp only;omega)|simp,by simp⟩
         have o0:Hd (q1D LL):=η (fun e he=>by have:=R e he;exact⟨by omega,by omega⟩);have p0:Hd (∀e∈LL,e.we<18446744073709551616):=η fun e he=>(R e he).2.2
         clear g0 R S0;have U:=η (j0.o.app1 N.o.1 u0.o [115] (by decide) l0.o o0.o p0.o);obtain⟨y1,y2,hy⟩: ∃y1 y2,apN bs [115] LL=(y1,y2):=⟨_,_,rfl⟩
         rw[hy] at U;simp only at U;have G1:(y1==y1)=true:=by simp
         have H1:(y2==y2)=true:=by simp
         go_wp2_with (refine q4t rfl ?_;refine q4s rfl 40 (.tmp 226) (.tmp 227) (.tmp 228) (.tmp 229) rfl (.agg #[.string ⟨#[116]⟩,.string ⟨tx.toArray⟩,.float .f64 0]) (.agg #[.string ⟨#[117]⟩,.string ⟨#[]⟩,.float .f64 0]) (.agg #[.string ⟨#[118]⟩,.string ⟨#[]⟩,.float .f64 0]) (.agg #[.string ⟨#[119]⟩,.string ⟨#[]⟩,.float .f64 0]) rfl rfl rfl rfl _ _ (q9t _ _ _ _ _ _ _ _ _ _ _ _ _) ?_)
         refine U.o.mono ?_;rintro e w3 ⟨rfl,h3,G⟩;have M:=η (h3.app2 (by have:=N.o;omega) [115] (by decide) (l0.o _ G) (fun a e=>by cases e;exact .inr rfl) o0.o p0.o);rw[hy] at M;simp only at M;have Z:=η (m0.o.same G (.inl B.o) (.inl C.o));clear U G h3 hy;go_wp2_with fail;refine M.o.mono ?_;rintro e w4 ⟨rfl,J,i1,l1,h4⟩;have a0:=η (Z.o.same J (.inl B.o) (.inl C.o));have f0:=η (h4.more (Ext.refl w4) (X':=X) fun i I=> .inl (.inl I));clear M J h4;go_wp2_with fail
         go_meet
         case rel=>exact⟨rfl,_,_,_,_,_,_,_,_,by omega,by omega,by omega,f0.o,O.o,a0.o⟩
       ·subst hz
        as_aux_lemma=>
         obtain⟨n1,S0⟩: ∃n1,nn+1=n1:=⟨_,rfl⟩
         have q1:IntKind.i64.wrap ((nn:Int)+1)=(n1:Int):=by rw[ν];omega
         have q2:(n1:Int)<=4:=by omega
         have q3:(0:Int)<=(n1:Int):=by omega
         have h0:=q0B F (.cells #[.string ⟨#[116]⟩,.string ⟨tx.toArray⟩,.float .f64 0,.string ⟨#[117]⟩,.string ⟨#[]⟩,.float .f64 0,.string ⟨#[118]⟩,.string ⟨#[]⟩,.float .f64 0,.string ⟨#[119]⟩,.string ⟨#[]⟩,.float .f64 0] 67);have q0:=Blk.new F 67 #[.string ⟨#[116]⟩,.string ⟨tx.toArray⟩,.float .f64 0,.string ⟨#[117]⟩,.string ⟨#[]⟩,.float .f64 0,.string ⟨#[118]⟩,.string ⟨#[]⟩,.float .f64 0,.string ⟨#[119]⟩,.string ⟨#[]⟩,.float .f64 0];have j0:=η (d0.o.more (X':=fun i=>X i\/i=F.heap.size) h0 fun i I=>I.imp id fun e=>by rw[e,ρ];omega);have m0:=η (V.o.same (X:=X) (fun i I=>h0.block i (d0.o.lt (.inr (.inr I)))) B.o C.o);have C0:=η q0;have p1:Hd (F.heap.size≠F.heap.size+1):=η (by omega);clear h0 q0;obtain⟨LL,g0⟩: ∃LL,([⟨[116],tx,0⟩,⟨[117],[],0⟩,⟨[118],[],0⟩,⟨[119],[],0⟩]:List Ev).take n1=LL:=⟨_,rfl⟩
         have l0:Hd (∀W,Stay (fun i=>X i\/i=F.heap.size) (F.alloc (.cells #[.string ⟨#[116]⟩,.string ⟨tx.toArray⟩,.float .f64 0,.string ⟨#[117]⟩,.string ⟨#[]⟩,.float .f64 0,.string ⟨#[118]⟩,.string ⟨#[]⟩,.float .f64 0,.string ⟨#[119]⟩,.string ⟨#[]⟩,.float .f64 0] 67)) W->Evs W (some ⟨F.heap.size,0,none⟩) n1 4 LL):=η fun W hs=>by rw[<-g0];exact q3u (C0.o.same (hs _ (.inr rfl))) n1 (by omega)
         have R: ∀e∈LL,e.ty.length<=300/\e.da.length<=300/\e.we<18446744073709551616:=fun e he=>by
          rw[<-g0] at he;have:=List.mem_of_mem_take he;simp only[List.mem_cons,List.not_mem_nil,or_false] at this;rcases this with rfl|rfl|rfl|rfl<;>exact⟨by simp,by first|(simp only;omega)|simp,by simp⟩
         have o0:Hd (q1D LL):=η (fun e he=>by have:=R e he;exact⟨by omega,by omega⟩);have p0:Hd (∀e∈LL,e.we<18446744073709551616):=η fun e he=>(R e he).2.2
         clear g0 R S0;have U:=η (j0.o.app1 N.o.1 u0.o [115] (by decide) l0.o o0.o p0.o);obtain⟨y1,y2,hy⟩: ∃y1 y2,apN bs [115] LL=(y1,y2):=⟨_,_,rfl⟩
         rw[hy] at U;simp only at U;have G1:(y1==y1)=true:=by simp
         have H1:(y2==y2)=true:=by simp
         go_wp2_with (refine q4t rfl ?_;refine q4s rfl 40 (.tmp 226) (.tmp 227) (.tmp 228) (.tmp 229) rfl (.agg #[.string ⟨#[116]⟩,.string ⟨tx.toArray⟩,.float .f64 0]) (.agg #[.string ⟨#[117]⟩,.string ⟨#[]⟩,.float .f64 0]) (.agg #[.string ⟨#[118]⟩,.string ⟨#[]⟩,.float .f64 0]) (.agg #[.string ⟨#[119]⟩,.string ⟨#[]⟩,.float .f64 0]) rfl rfl rfl rfl _ _ (q9t _ _ _ _ _ _ _ _ _ _ _ _ _) ?_)
         refine U.o.mono ?_;rintro e w3 ⟨rfl,h3,G⟩;have M:=η (h3.app2 (by have:=N.o;omega) [115] (by decide) (l0.o _ G) (fun a e=>by cases e;exact .inr rfl) o0.o p0.o);rw[hy] at M;simp only at M;have Z:=η (m0.o.same G (.inl B.o) (.inl C.o));clear U G h3 hy;go_wp2_with fail;refine M.o.mono ?_;rintro e w4 ⟨rfl,J,i1,l1,h4⟩;have a0:=η (Z.o.same J (.inl B.o) (.inl C.o));have f0:=η (h4.more (Ext.refl w4) (X':=X) fun i I=> .inl (.inl I));clear M J h4;go_wp2_with fail
         go_meet
         case rel=>exact⟨rfl,_,_,_,_,_,_,_,_,by omega,by omega,by omega,f0.o,O.o,a0.o⟩
       ·subst hz
        as_aux_lemma=>
         obtain⟨n1,S0⟩: ∃n1,nn+1=n1:=⟨_,rfl⟩
         have q1:IntKind.i64.wrap ((nn:Int)+1)=(n1:Int):=by rw[ν];omega
         have q2:(n1:Int)<=4:=by omega
         have q3:(0:Int)<=(n1:Int):=by omega
         have h0:=q0B F (.cells #[.string ⟨#[116]⟩,.string ⟨tx.toArray⟩,.float .f64 0,.string ⟨#[117]⟩,.string ⟨#[]⟩,.float .f64 0,.string ⟨#[118]⟩,.string ⟨#[]⟩,.float .f64 0,.string ⟨#[119]⟩,.string ⟨#[]⟩,.float .f64 0] 67);have q0:=Blk.new F 67 #[.string ⟨#[116]⟩,.string ⟨tx.toArray⟩,.float .f64 0,.string ⟨#[117]⟩,.string ⟨#[]⟩,.float .f64 0,.string ⟨#[118]⟩,.string ⟨#[]⟩,.float .f64 0,.string ⟨#[119]⟩,.string ⟨#[]⟩,.float .f64 0];have j0:=η (d0.o.more (X':=fun i=>X i\/i=F.heap.size) h0 fun i I=>I.imp id fun e=>by rw[e,ρ];omega);have m0:=η (V.o.same (X:=X) (fun i I=>h0.block i (d0.o.lt (.inr (.inr I)))) B.o C.o);have C0:=η q0;have p1:Hd (F.heap.size≠F.heap.size+1):=η (by omega);clear h0 q0;obtain⟨LL,g0⟩: ∃LL,([⟨[116],tx,0⟩,⟨[117],[],0⟩,⟨[118],[],0⟩,⟨[119],[],0⟩]:List Ev).take n1=LL:=⟨_,rfl⟩
         have l0:Hd (∀W,Stay (fun i=>X i\/i=F.heap.size) (F.alloc (.cells #[.string ⟨#[116]⟩,.string ⟨tx.toArray⟩,.float .f64 0,.string ⟨#[117]⟩,.string ⟨#[]⟩,.float .f64 0,.string ⟨#[118]⟩,.string ⟨#[]⟩,.float .f64 0,.string ⟨#[119]⟩,.string ⟨#[]⟩,.float .f64 0] 67)) W->Evs W (some ⟨F.heap.size,0,none⟩) n1 4 LL):=η fun W hs=>by rw[<-g0];exact q3u (C0.o.same (hs _ (.inr rfl))) n1 (by omega)
         have R: ∀e∈LL,e.ty.length<=300/\e.da.length<=300/\e.we<18446744073709551616:=fun e he=>by
          rw[<-g0] at he;have:=List.mem_of_mem_take he;simp only[List.mem_cons,List.not_mem_nil,or_false] at this;rcases this with rfl|rfl|rfl|rfl<;>exact⟨by simp,by first|(simp only;omega)|simp,by simp⟩
         have o0:Hd (q1D LL):=η (fun e he=>by have:=R e he;exact⟨by omega,by omega⟩);have p0:Hd (∀e∈LL,e.we<18446744073709551616):=η fun e he=>(R e he).2.2
         clear g0 R S0;have U:=η (j0.o.app1 N.o.1 u0.o [115] (by decide) l0.o o0.o p0.o);obtain⟨y1,y2,hy⟩: ∃y1 y2,apN bs [115] LL=(y1,y2):=⟨_,_,rfl⟩
         rw[hy] at U;simp only at U;have G1:(y1==y1)=true:=by simp
         have H1:(y2==y2)=true:=by simp
         go_wp2_with (refine q4t rfl ?_;refine q4s rfl 40 (.tmp 226) (.tmp 227) (.tmp 228) (.tmp 229) rfl (.agg #[.string ⟨#[116]⟩,.string ⟨tx.toArray⟩,.float .f64 0]) (.agg #[.string ⟨#[117]⟩,.string ⟨#[]⟩,.float .f64 0]) (.agg #[.string ⟨#[118]⟩,.string ⟨#[]⟩,.float .f64 0]) (.agg #[.string ⟨#[119]⟩,.string ⟨#[]⟩,.float .f64 0]) rfl rfl rfl rfl _ _ (q9t _ _ _ _ _ _ _ _ _ _ _ _ _) ?_)
         refine U.o.mono ?_;rintro e w3 ⟨rfl,h3,G⟩;have M:=η (h3.app2 (by have:=N.o;omega) [115] (by decide) (l0.o _ G) (fun a e=>by cases e;exact .inr rfl) o0.o p0.o);rw[hy] at M;simp only at M;have Z:=η (m0.o.same G (.inl B.o) (.inl C.o));clear U G h3 hy;go_wp2_with fail;refine M.o.mono ?_;rintro e w4 ⟨rfl,J,i1,l1,h4⟩;have a0:=η (Z.o.same J (.inl B.o) (.inl C.o));have f0:=η (h4.more (Ext.refl w4) (X':=X) fun i I=> .inl (.inl I));clear M J h4;go_wp2_with fail
         go_meet
         case rel=>exact⟨rfl,_,_,_,_,_,_,_,_,by omega,by omega,by omega,f0.o,O.o,a0.o⟩
       ·subst hz
        as_aux_lemma=>
         cases hD:D1 E with
         | none=>
          have Y:=V.o.at2 l;rw[hD] at Y
          replace Y:F.cell? ⟨bb,E,none⟩=some (.pointer none):=Y
          clear hD;go_wp2_with fail
          go_meet
          case rel=>exact⟨rfl,u,m,mk,bs,T0,U0,S1,D1,by omega,by omega,by omega,d0.o,O.o,V.o⟩
         | some v0=>
          obtain⟨y,t⟩:=v0;obtain⟨x1,hP⟩:=O.o.some hD;have a1:=V.o.at1 l;have Y:=V.o.at2 l;rw[hP] at a1;rw[hD] at Y
          replace a1:F.cell? ⟨ba,E,none⟩=some (.pointer (some ⟨x1,0,none⟩)):=a1
          replace Y:F.cell? ⟨bb,E,none⟩=some (.pointer (some ⟨y,0,none⟩)):=Y
          have F0:=η ((d0.o.grow (Ext.refl F).drew).next1 (by have:=N.o;omega) l hP xn);obtain⟨pg,J0⟩: ∃pg,q1Z [115] t.2.2 xn=pg:=⟨_,rfl⟩
          rw[J0] at F0;have r1:=η J0;have d1:=q0A (Ext.refl F).drew a1;have d2:=q0A (Ext.refl F).drew r2;have x0:=η hP;have e0:=η hD;clear J0 hP hD;go_wp2_with fail
          go_region_held3 (fun W=>W.cell? ⟨ba,E,none⟩=some (.pointer (some ⟨x1,0,none⟩))/\W.cell? ⟨q,2,none⟩=some (.int .i64 xn))
           (first|exact D0.o|exact⟨d1,d2⟩)
           (first|(go_at_call 40;refine F0.o.mono ?_;rintro e w3 ⟨r,rfl,h3,G,z0⟩;have A0:=η h3;have P0:=η z0;have B0:=η ((V0.o.ext (Ext.refl F).drew).same (G q M0.o));have Z:=η ((V.o.same (X:=X) (fun i I=>(Ext.refl F).drew.block i (d0.o.lt (.inr (.inr I)))) B.o C.o).same G B.o C.o);have D0:Hd (w3.cell? ⟨ba,E,none⟩=some (.pointer (some ⟨x1,0,none⟩))/\w3.cell? ⟨q,2,none⟩=some (.int .i64 xn)):=η ⟨(Z.o.at1 l).trans (by rw[x0.o];rfl),B0.o.cell 2⟩;clear h3 G z0))
          all_goals
           obtain⟨ra,rc,rfl⟩:=q0E P0.o;have G0:=η ((A0.o.grow (Ext.refl w3).drew).next2 (by have:=N.o;omega) l e0.o xn o6);rw[r1.o] at G0;have b2:w3.cell? ⟨bb,E,none⟩=some (.pointer (some ⟨y,0,none⟩)):=(Z.o.at2 l).trans (by rw[e0.o];rfl);have d3:=q0A (Ext.refl w3).drew b2;have d4:=q0A (Ext.refl w3).drew (B0.o.cell 2);clear D0 F0 d1 d2 a1 Y b2 r0 r2 r3;go_wp2_with fail
           go_region_held3 (fun W=>W.cell? ⟨bb,E,none⟩=some (.pointer (some ⟨y,0,none⟩))/\W.cell? ⟨q,2,none⟩=some (.int .i64 xn))
            (first|exact E0.o|exact⟨d3,d4⟩)
            (first|(go_at_call 47;refine G0.o.mono ?_;rintro e w4 ⟨r4,rfl,h4,J,s0⟩;have f0:=η h4;have y0:=η s0;have t1:=η J;have N0:=η ((B0.o.ext (Ext.refl w3).drew).same (J q (.inl M0.o)));have a0:=η ((Z.o.same (X:=X) (fun i I=>(Ext.refl w3).drew.block i (A0.o.lt (.inr (.inr (.inl I))))) B.o C.o).same J (.inl B.o) (.inl C.o));have E0:Hd (w4.cell? ⟨bb,E,none⟩=some (.pointer (some ⟨y,0,none⟩))/\w4.cell? ⟨q,2,none⟩=some (.int .i64 xn)):=η ⟨(a0.o.at2 l).trans (by rw[e0.o];rfl),N0.o.cell 2⟩;clear h4 J s0))
           all_goals
            obtain⟨rb,rd,rfl⟩:=q0E y0.o;have t0:=q0f (q0J P0.o (Ext.refl w3).drew) fun i I=>t1.o i (.inr I)
            have I0:=η (z0A w4 (q2Z t0).1 (q2Z y0.o).1);have B2:(pg==pg)=true:=by simp
            clear E0 d3 d4 t0 G0;go_wp2_with fail;refine I0.o.mono ?_;rintro e w5 ⟨rfl,hx⟩;have H0:=η ((f0.o.more hx (X':=X) fun i I=> .inl (.inl (.inl I))));have i0:Hd (Ar2 w5 ba bb _ _):=η ((a0.o.same (X:=X) (fun i I=>hx.block i (f0.o.lt (.inr (.inr (.inl (.inl I)))))) B.o C.o).put (q3b (t:=nxT bs t xn) x0.o) (q3b (t:=nxT bs t xn) e0.o));clear hx I0;go_wp2_with fail
            go_meet
            case rel=>exact⟨rfl,_,_,_,_,_,_,_,_,by omega,by omega,by omega,H0.o,O.o.renew rfl,i0.o⟩
       ·subst hz
        as_aux_lemma=>
         cases hD:D1 E with
         | none=>
          have Y:=V.o.at2 l;rw[hD] at Y
          replace Y:F.cell? ⟨bb,E,none⟩=some (.pointer none):=Y
          clear hD;go_wp2_with fail
          go_meet
          case rel=>exact⟨rfl,u,m,mk,bs,T0,U0,S1,D1,by omega,by omega,by omega,d0.o,O.o,V.o⟩
         | some v0=>
          obtain⟨y,t⟩:=v0;obtain⟨x1,hP⟩:=O.o.some hD;have a1:=V.o.at1 l;have Y:=V.o.at2 l;rw[hP] at a1;rw[hD] at Y
          replace a1:F.cell? ⟨ba,E,none⟩=some (.pointer (some ⟨x1,0,none⟩)):=a1
          replace Y:F.cell? ⟨bb,E,none⟩=some (.pointer (some ⟨y,0,none⟩)):=Y
          have F0:=η ((d0.o.grow (Ext.refl F).drew).next1 (by have:=N.o;omega) l hP xn);obtain⟨pg,J0⟩: ∃pg,q1Z [115] t.2.2 xn=pg:=⟨_,rfl⟩
          rw[J0] at F0;have r1:=η J0;have d1:=q0A (Ext.refl F).drew a1;have d2:=q0A (Ext.refl F).drew r2;have x0:=η hP;have e0:=η hD;clear J0 hP hD;go_wp2_with fail
          go_region_held3 (fun W=>W.cell? ⟨ba,E,none⟩=some (.pointer (some ⟨x1,0,none⟩))/\W.cell? ⟨q,2,none⟩=some (.int .i64 xn))
           (first|exact D0.o|exact⟨d1,d2⟩)
           (first|(go_at_call 40;refine F0.o.mono ?_;rintro e w3 ⟨r,rfl,h3,G,z0⟩;have A0:=η h3;have P0:=η z0;have B0:=η ((V0.o.ext (Ext.refl F).drew).same (G q M0.o));have Z:=η ((V.o.same (X:=X) (fun i I=>(Ext.refl F).drew.block i (d0.o.lt (.inr (.inr I)))) B.o C.o).same G B.o C.o);have D0:Hd (w3.cell? ⟨ba,E,none⟩=some (.pointer (some ⟨x1,0,none⟩))/\w3.cell? ⟨q,2,none⟩=some (.int .i64 xn)):=η ⟨(Z.o.at1 l).trans (by rw[x0.o];rfl),B0.o.cell 2⟩;clear h3 G z0))
          all_goals
           obtain⟨ra,rc,rfl⟩:=q0E P0.o;have G0:=η ((A0.o.grow (Ext.refl w3).drew).next2 (by have:=N.o;omega) l e0.o xn o6);rw[r1.o] at G0;have b2:w3.cell? ⟨bb,E,none⟩=some (.pointer (some ⟨y,0,none⟩)):=(Z.o.at2 l).trans (by rw[e0.o];rfl);have d3:=q0A (Ext.refl w3).drew b2;have d4:=q0A (Ext.refl w3).drew (B0.o.cell 2);clear D0 F0 d1 d2 a1 Y b2 r0 r2 r3;go_wp2_with fail
           go_region_held3 (fun W=>W.cell? ⟨bb,E,none⟩=some (.pointer (some ⟨y,0,none⟩))/\W.cell? ⟨q,2,none⟩=some (.int .i64 xn))
            (first|exact E0.o|exact⟨d3,d4⟩)
            (first|(go_at_call 47;refine G0.o.mono ?_;rintro e w4 ⟨r4,rfl,h4,J,s0⟩;have f0:=η h4;have y0:=η s0;have t1:=η J;have N0:=η ((B0.o.ext (Ext.refl w3).drew).same (J q (.inl M0.o)));have a0:=η ((Z.o.same (X:=X) (fun i I=>(Ext.refl w3).drew.block i (A0.o.lt (.inr (.inr (.inl I))))) B.o C.o).same J (.inl B.o) (.inl C.o));have E0:Hd (w4.cell? ⟨bb,E,none⟩=some (.pointer (some ⟨y,0,none⟩))/\w4.cell? ⟨q,2,none⟩=some (.int .i64 xn)):=η ⟨(a0.o.at2 l).trans (by rw[e0.o];rfl),N0.o.cell 2⟩;clear h4 J s0))
           all_goals
            obtain⟨rb,rd,rfl⟩:=q0E y0.o;have t0:=q0f (q0J P0.o (Ext.refl w3).drew) fun i I=>t1.o i (.inr I)
            have I0:=η (z0A w4 (q2Z t0).1 (q2Z y0.o).1);have B2:(pg==pg)=true:=by simp
            clear E0 d3 d4 t0 G0;go_wp2_with fail;refine I0.o.mono ?_;rintro e w5 ⟨rfl,hx⟩;have H0:=η ((f0.o.more hx (X':=X) fun i I=> .inl (.inl (.inl I))));have i0:Hd (Ar2 w5 ba bb _ _):=η ((a0.o.same (X:=X) (fun i I=>hx.block i (f0.o.lt (.inr (.inr (.inl (.inl I)))))) B.o C.o).put (q3b (t:=nxT bs t xn) x0.o) (q3b (t:=nxT bs t xn) e0.o));clear hx I0;go_wp2_with fail
            go_meet
            case rel=>exact⟨rfl,_,_,_,_,_,_,_,_,by omega,by omega,by omega,H0.o,O.o.renew rfl,i0.o⟩
       ·subst hz
        as_aux_lemma=>
         cases hD:D1 E with
         | none=>
          have Y:=V.o.at2 l;rw[hD] at Y
          replace Y:F.cell? ⟨bb,E,none⟩=some (.pointer none):=Y
          clear hD;go_wp2_with fail
          go_meet
          case rel=>exact⟨rfl,u,m,mk,bs,T0,U0,S1,D1,by omega,by omega,by omega,d0.o,O.o,V.o⟩
         | some v0=>
          obtain⟨y,t⟩:=v0;obtain⟨x1,hP⟩:=O.o.some hD;have a1:=V.o.at1 l;have Y:=V.o.at2 l;rw[hP] at a1;rw[hD] at Y
          replace a1:F.cell? ⟨ba,E,none⟩=some (.pointer (some ⟨x1,0,none⟩)):=a1
          replace Y:F.cell? ⟨bb,E,none⟩=some (.pointer (some ⟨y,0,none⟩)):=Y
          have F0:=η ((d0.o.grow (Ext.refl F).drew).next1 (by have:=N.o;omega) l hP xn);obtain⟨pg,J0⟩: ∃pg,q1Z [115] t.2.2 xn=pg:=⟨_,rfl⟩
          rw[J0] at F0;have r1:=η J0;have d1:=q0A (Ext.refl F).drew a1;have d2:=q0A (Ext.refl F).drew r2;have x0:=η hP;have e0:=η hD;clear J0 hP hD;go_wp2_with fail
          go_region_held3 (fun W=>W.cell? ⟨ba,E,none⟩=some (.pointer (some ⟨x1,0,none⟩))/\W.cell? ⟨q,2,none⟩=some (.int .i64 xn))
           (first|exact D0.o|exact⟨d1,d2⟩)
           (first|(go_at_call 40;refine F0.o.mono ?_;rintro e w3 ⟨r,rfl,h3,G,z0⟩;have A0:=η h3;have P0:=η z0;have B0:=η ((V0.o.ext (Ext.refl F).drew).same (G q M0.o));have Z:=η ((V.o.same (X:=X) (fun i I=>(Ext.refl F).drew.block i (d0.o.lt (.inr (.inr I)))) B.o C.o).same G B.o C.o);have D0:Hd (w3.cell? ⟨ba,E,none⟩=some (.pointer (some ⟨x1,0,none⟩))/\w3.cell? ⟨q,2,none⟩=some (.int .i64 xn)):=η ⟨(Z.o.at1 l).trans (by rw[x0.o];rfl),B0.o.cell 2⟩;clear h3 G z0))
          all_goals
           obtain⟨ra,rc,rfl⟩:=q0E P0.o;have G0:=η ((A0.o.grow (Ext.refl w3).drew).next2 (by have:=N.o;omega) l e0.o xn o6);rw[r1.o] at G0;have b2:w3.cell? ⟨bb,E,none⟩=some (.pointer (some ⟨y,0,none⟩)):=(Z.o.at2 l).trans (by rw[e0.o];rfl);have d3:=q0A (Ext.refl w3).drew b2;have d4:=q0A (Ext.refl w3).drew (B0.o.cell 2);clear D0 F0 d1 d2 a1 Y b2 r0 r2 r3;go_wp2_with fail
           go_region_held3 (fun W=>W.cell? ⟨bb,E,none⟩=some (.pointer (some ⟨y,0,none⟩))/\W.cell? ⟨q,2,none⟩=some (.int .i64 xn))
            (first|exact E0.o|exact⟨d3,d4⟩)
            (first|(go_at_call 47;refine G0.o.mono ?_;rintro e w4 ⟨r4,rfl,h4,J,s0⟩;have f0:=η h4;have y0:=η s0;have t1:=η J;have N0:=η ((B0.o.ext (Ext.refl w3).drew).same (J q (.inl M0.o)));have a0:=η ((Z.o.same (X:=X) (fun i I=>(Ext.refl w3).drew.block i (A0.o.lt (.inr (.inr (.inl I))))) B.o C.o).same J (.inl B.o) (.inl C.o));have E0:Hd (w4.cell? ⟨bb,E,none⟩=some (.pointer (some ⟨y,0,none⟩))/\w4.cell? ⟨q,2,none⟩=some (.int .i64 xn)):=η ⟨(a0.o.at2 l).trans (by rw[e0.o];rfl),N0.o.cell 2⟩;clear h4 J s0))
           all_goals
            obtain⟨rb,rd,rfl⟩:=q0E y0.o;have t0:=q0f (q0J P0.o (Ext.refl w3).drew) fun i I=>t1.o i (.inr I)
            have I0:=η (z0A w4 (q2Z t0).1 (q2Z y0.o).1);have B2:(pg==pg)=true:=by simp
            clear E0 d3 d4 t0 G0;go_wp2_with fail;refine I0.o.mono ?_;rintro e w5 ⟨rfl,hx⟩;have H0:=η ((f0.o.more hx (X':=X) fun i I=> .inl (.inl (.inl I))));have i0:Hd (Ar2 w5 ba bb _ _):=η ((a0.o.same (X:=X) (fun i I=>hx.block i (f0.o.lt (.inr (.inr (.inl (.inl I)))))) B.o C.o).put (q3b (t:=nxT bs t xn) x0.o) (q3b (t:=nxT bs t xn) e0.o));clear hx I0;go_wp2_with fail
            go_meet
            case rel=>exact⟨rfl,_,_,_,_,_,_,_,_,by omega,by omega,by omega,H0.o,O.o.renew rfl,i0.o⟩
       ·subst hz
        as_aux_lemma=>
         cases hD:D1 E with
         | none=>
          have Y:=V.o.at2 l;rw[hD] at Y
          replace Y:F.cell? ⟨bb,E,none⟩=some (.pointer none):=Y
          clear hD;go_wp2_with fail
          go_meet
          case rel=>exact⟨rfl,u,m,mk,bs,T0,U0,S1,D1,by omega,by omega,by omega,d0.o,O.o,V.o⟩
         | some v0=>
          obtain⟨y,t⟩:=v0;obtain⟨x1,hP⟩:=O.o.some hD;have a1:=V.o.at1 l;have Y:=V.o.at2 l;rw[hP] at a1;rw[hD] at Y
          replace a1:F.cell? ⟨ba,E,none⟩=some (.pointer (some ⟨x1,0,none⟩)):=a1
          replace Y:F.cell? ⟨bb,E,none⟩=some (.pointer (some ⟨y,0,none⟩)):=Y
          have L0:=η ((d0.o.grow (Ext.refl F).drew).ack1 N.o.1 u0.o O0.o X2.o l hP);obtain⟨an,p2⟩: ∃an,q9F bs (126::name) t.1 t.2.1 t.2.2=an:=⟨_,rfl⟩
          obtain⟨W0,C1⟩: ∃W0,z0L bs (126::name) t.1 t.2.1 t.2.2=W0:=⟨_,rfl⟩
          rw[p2,C1] at L0;have N2:=η (And.intro p2 C1);have d1:=q0A (Ext.refl F).drew a1;have d2:=q0A (Ext.refl F).drew Y;have x0:=η hP;have e0:=η hD;have B2:(an==an)=true:=by simp
          clear p2 C1 hP hD;go_wp2_with fail
          go_region_held3 (fun W=>W.cell? ⟨ba,E,none⟩=some (.pointer (some ⟨x1,0,none⟩))/\W.cell? ⟨bb,E,none⟩=some (.pointer (some ⟨y,0,none⟩)))
           (first|exact E0.o|exact D0.o|exact⟨d1,d2⟩)
           (first
            |(go_at_call 41;refine L0.o.mono ?_;rintro e w3 ⟨rfl,h3,G⟩;have A0:=η h3;have Z:=η ((V.o.same (X:=X) (fun i I=>(Ext.refl F).drew.block i (d0.o.lt (.inr (.inr I)))) B.o C.o).same G B.o C.o);have D0:Hd (w3.cell? ⟨ba,E,none⟩=some (.pointer (some ⟨x1,0,none⟩))/\w3.cell? ⟨bb,E,none⟩=some (.pointer (some ⟨y,0,none⟩))):=η ⟨(Z.o.at1 l).trans (by rw[x0.o];rfl),(Z.o.at2 l).trans (by rw[e0.o];rfl)⟩;have U1:=η (h3.ack2 (by have:=N.o;omega) O0.o l e0.o);rw[N2.o.1,N2.o.2] at U1;clear h3 G)
            |(go_at_call 48;refine U1.o.mono ?_;rintro e w4 ⟨rfl,J,i1,l1,h4⟩;have f0:=η h4;have a0:=η (Z.o.same J B.o C.o);have E0:Hd (w4.cell? ⟨ba,E,none⟩=some (.pointer (some ⟨x1,0,none⟩))/\w4.cell? ⟨bb,E,none⟩=some (.pointer (some ⟨y,0,none⟩))):=η ⟨(a0.o.at1 l).trans (by rw[x0.o];rfl),(a0.o.at2 l).trans (by rw[e0.o];rfl)⟩;clear h4 J))
          all_goals
           have i0:Hd (Ar2 w4 ba bb _ _):=η (a0.o.put (q3b (t:=akT bs (126::name) t) x0.o) (q3b (t:=akT bs (126::name) t) e0.o));clear D0 E0 d1 d2 a1 Y r0 r2 r3 L0 U1;go_wp2_with fail
           go_meet
           case rel=>exact⟨rfl,_,_,_,_,_,_,_,_,by omega,by omega,by omega,f0.o,O.o.renew rfl,i0.o⟩
       ·subst hz
        as_aux_lemma=>
         cases hD:D1 E with
         | none=>
          have Y:=V.o.at2 l;rw[hD] at Y
          replace Y:F.cell? ⟨bb,E,none⟩=some (.pointer none):=Y
          clear hD;go_wp2_with fail
          go_meet
          case rel=>exact⟨rfl,u,m,mk,bs,T0,U0,S1,D1,by omega,by omega,by omega,d0.o,O.o,V.o⟩
         | some v0=>
          obtain⟨y,t⟩:=v0;obtain⟨x1,hP⟩:=O.o.some hD;have a1:=V.o.at1 l;have Y:=V.o.at2 l;rw[hP] at a1;rw[hD] at Y
          replace a1:F.cell? ⟨ba,E,none⟩=some (.pointer (some ⟨x1,0,none⟩)):=a1
          replace Y:F.cell? ⟨bb,E,none⟩=some (.pointer (some ⟨y,0,none⟩)):=Y
          have L0:=η (d0.o.back1 l hP);have x0:=η hP;have e0:=η hD;clear hP hD;go_wp2_with fail;refine L0.o.mono ?_;rintro e w3 ⟨rfl,h3,G⟩;have A0:=η h3;have Z:=η (V.o.same G B.o C.o);have b2:w3.cell? ⟨bb,E,none⟩=some (.pointer (some ⟨y,0,none⟩)):=(Z.o.at2 l).trans (by rw[e0.o];rfl);obtain⟨R0,_⟩:=h3.dI E y t l e0.o;have b3:=R0.cell 3;have b5:=R0.cell 5;have f5:=R0.free 5;have d2:=q0A (Ext.refl w3).drew b2;have d3:=q0A (Ext.refl w3).drew b3;have d5:=q0A (Ext.refl w3).drew b5;have t2:=(A0.o.grow (Ext.refl w3).drew).back2 l e0.o;have f0:=η t2.1;have a0:=η (((Z.o.same (X:=X) (fun i I=>(Ext.refl w3).drew.block i (A0.o.lt (.inr (.inr I)))) B.o C.o).same t2.2 B.o C.o).put (q3b (t:=bkT t) x0.o) (q3b (t:=bkT t) e0.o));clear h3 G L0 a1 Y r0 r2 r3 R0 t2;go_wp2_with fail;refine q5t 11 (by kernel_rfl) (by kernel_rfl) ?_;simp only[List.take_succ_cons,List.take_zero,List.drop_succ_cons,List.drop_zero]
          repeat still_step
          refine wpStill_nil ?_;clear d2 d3 d5;go_wp2_with fail
          go_meet
          case rel=>exact⟨rfl,_,_,_,_,_,_,_,_,by omega,by omega,by omega,f0.o,O.o.renew rfl,a0.o⟩
       ·subst hz
        as_aux_lemma=>
         go_wp2_with fail
         go_meet
         case rel=>exact⟨rfl,u,m,mk,bs,T0,U0,S1,D1,by omega,by omega,by omega,d0.o,O.o,V.o⟩
       ·subst hz
        as_aux_lemma=>
         by_cases x3:nn=0
         ·subst x3
          have h0:=q0B F (.cells #[.string ⟨#[110,111]⟩,.string ⟨tx.toArray⟩,.float .f64 0] 67);have q0:=Blk.new F 67 #[.string ⟨#[110,111]⟩,.string ⟨tx.toArray⟩,.float .f64 0];have j0:=η (d0.o.more (X':=fun i=>X i\/i=F.heap.size) h0 fun i I=>I.imp id fun e=>by rw[e,ρ];omega);have m0:=η (V.o.same (X:=X) (fun i I=>h0.block i (d0.o.lt (.inr (.inr I)))) B.o C.o);have C0:=η q0;have p1:Hd (F.heap.size≠F.heap.size+1):=η (by omega);clear h0 q0;obtain⟨LL,g0⟩: ∃LL,([⟨[110,111],tx,0⟩]:List Ev)=LL:=⟨_,rfl⟩
          have R: ∀e∈LL,e.ty.length<=300/\e.da.length<=300/\e.we<18446744073709551616:=fun e he=>by
           rw[<-g0] at he;obtain rfl:=List.mem_singleton.1 he;exact⟨by simp,by simp only;omega,by simp⟩
          have o0:Hd (q1D LL):=η (fun e he=>by have:=R e he;exact⟨by omega,by omega⟩);have p0:Hd (∀e∈LL,e.we<18446744073709551616):=η fun e he=>(R e he).2.2
          have l0:Hd (∀W,Stay (fun i=>X i\/i=F.heap.size) (F.alloc (.cells #[.string ⟨#[110,111]⟩,.string ⟨tx.toArray⟩,.float .f64 0] 67)) W->Evs W (some ⟨F.heap.size,0,none⟩) 1 1 LL):=η fun W hs=>by rw[<-g0];exact q7N (C0.o.same (hs _ (.inr rfl)))
          have M3:(⟨#[126]⟩:ByteArray)++⟨name.toArray⟩=⟨(126::name).toArray⟩:=by rw[show(#[126]:Array UInt8)=[126].toArray from rfl,ByteArray.mk_append_mk];simp
          have N3:¬(9223372036854775807<1+name.length):=by have:=O0.o;rw[χ] at this;omega
          clear g0 R;have U:=η (j0.o.app1 N.o.1 u0.o (126::name) O0.o l0.o o0.o p0.o);obtain⟨y1,y2,hy⟩: ∃y1 y2,apN bs (126::name) LL=(y1,y2):=⟨_,_,rfl⟩
          rw[hy] at U;simp only at U;have G1:(y1==y1)=true:=by simp
          have H1:(y2==y2)=true:=by simp
          go_wp2_with fail;refine U.o.mono ?_;rintro e w3 ⟨rfl,h3,G⟩;have M:=η (h3.app2 (by have:=N.o;omega) (126::name) O0.o (l0.o _ G) (fun a e=>by cases e;exact .inr rfl) o0.o p0.o);rw[hy] at M;simp only at M;have Z:=η (m0.o.same G (.inl B.o) (.inl C.o));clear U G h3 hy;go_wp2_with fail;refine M.o.mono ?_;rintro e w4 ⟨rfl,J,i1,l1,h4⟩;have a0:=η (Z.o.same J (.inl B.o) (.inl C.o));have f0:=η (h4.more (Ext.refl w4) (X':=X) fun i I=> .inl (.inl I));clear M J h4;go_wp2_with fail
          go_meet
          case rel=>exact⟨rfl,_,_,_,_,_,_,_,_,by omega,by omega,by omega,f0.o,O.o,a0.o⟩
         ·have S0:((nn:Int)==0)=false:=beq_eq_false_iff_ne.2 (by omega)
          clear x3;have h0:=q0B F (.cells #[.string ⟨#[97,116]⟩,.string ⟨tx.toArray⟩,.float .f64 0] 67);have q0:=Blk.new F 67 #[.string ⟨#[97,116]⟩,.string ⟨tx.toArray⟩,.float .f64 0];have j0:=η (d0.o.more (X':=fun i=>X i\/i=F.heap.size) h0 fun i I=>I.imp id fun e=>by rw[e,ρ];omega);have m0:=η (V.o.same (X:=X) (fun i I=>h0.block i (d0.o.lt (.inr (.inr I)))) B.o C.o);have C0:=η q0;have p1:Hd (F.heap.size≠F.heap.size+1):=η (by omega);clear h0 q0;obtain⟨LL,g0⟩: ∃LL,([⟨[97,116],tx,0⟩]:List Ev)=LL:=⟨_,rfl⟩
          have R: ∀e∈LL,e.ty.length<=300/\e.da.length<=300/\e.we<18446744073709551616:=fun e he=>by
           rw[<-g0] at he;obtain rfl:=List.mem_singleton.1 he;exact⟨by simp,by simp only;omega,by simp⟩
          have o0:Hd (q1D LL):=η (fun e he=>by have:=R e he;exact⟨by omega,by omega⟩);have p0:Hd (∀e∈LL,e.we<18446744073709551616):=η fun e he=>(R e he).2.2
          have l0:Hd (∀W,Stay (fun i=>X i\/i=F.heap.size) (F.alloc (.cells #[.string ⟨#[97,116]⟩,.string ⟨tx.toArray⟩,.float .f64 0] 67)) W->Evs W (some ⟨F.heap.size,0,none⟩) 1 1 LL):=η fun W hs=>by rw[<-g0];exact q7N (C0.o.same (hs _ (.inr rfl)))
          have M3:(⟨#[126]⟩:ByteArray)++⟨name.toArray⟩=⟨(126::name).toArray⟩:=by rw[show(#[126]:Array UInt8)=[126].toArray from rfl,ByteArray.mk_append_mk];simp
          have N3:¬(9223372036854775807<1+name.length):=by have:=O0.o;rw[χ] at this;omega
          clear g0 R;have U:=η (j0.o.app1 N.o.1 u0.o (126::name) O0.o l0.o o0.o p0.o);obtain⟨y1,y2,hy⟩: ∃y1 y2,apN bs (126::name) LL=(y1,y2):=⟨_,_,rfl⟩
          rw[hy] at U;simp only at U;have G1:(y1==y1)=true:=by simp
          have H1:(y2==y2)=true:=by simp
          go_wp2_with fail;refine U.o.mono ?_;rintro e w3 ⟨rfl,h3,G⟩;have M:=η (h3.app2 (by have:=N.o;omega) (126::name) O0.o (l0.o _ G) (fun a e=>by cases e;exact .inr rfl) o0.o p0.o);rw[hy] at M;simp only at M;have Z:=η (m0.o.same G (.inl B.o) (.inl C.o));clear U G h3 hy;go_wp2_with fail;refine M.o.mono ?_;rintro e w4 ⟨rfl,J,i1,l1,h4⟩;have a0:=η (Z.o.same J (.inl B.o) (.inl C.o));have f0:=η (h4.more (Ext.refl w4) (X':=X) fun i I=> .inl (.inl I));clear M J h4;go_wp2_with fail
          go_meet
          case rel=>exact⟨rfl,_,_,_,_,_,_,_,_,by omega,by omega,by omega,f0.o,O.o,a0.o⟩
      case rest=>
       obtain⟨rfl,u2,m2,k2,n2,F3,G3,S2,D2,z3,t3,p3,F2,T1,B1⟩:=hcut;obtain⟨we,B3⟩: ∃we,we=wc:=⟨_,rfl⟩
       rw[<-B3] at F2 B1⊢;have j0:=η F2;have v1:=η T1;have m0:=η B1;clear B3 F2 T1 B1 r0 r2 r3 d0 O V V0
       as_aux_lemma=>
        cases hD:D2 E with
        | none=>
         have Y:=m0.o.at2 l;rw[hD] at Y
         replace Y:we.cell? ⟨bb,E,none⟩=some (.pointer none):=Y
         have u1:=q0C Y;clear hD;go_wp2_with fail;refine q0D (by kernel_rfl) (by kernel_rfl) ?_
         repeat (go_big_quiet_step (fail))
         refine wpQuiet_nil ?_;intro w5 b1;have H0:=η (j0.o.grow b1);have i0:=η (m0.o.same (X:=X) (fun i I=>b1.block i (j0.o.lt (.inr (.inr I)))) B.o C.o);clear b1 u1;go_wp2_with fail
         go_roundw
         case rel=>exact R2.o _ _ _ _ _ _ _ _ _ z3 t3 p3 H0.o v1.o i0.o
         case measure=>simp[intOf];omega
        | some v0=>
         obtain⟨y,t⟩:=v0;obtain⟨x1,hP⟩:=v1.o.some hD;have a1:=m0.o.at1 l;have Y:=m0.o.at2 l;rw[hP] at a1;rw[hD] at Y
         replace a1:we.cell? ⟨ba,E,none⟩=some (.pointer (some ⟨x1,0,none⟩)):=a1
         replace Y:we.cell? ⟨bb,E,none⟩=some (.pointer (some ⟨y,0,none⟩)):=Y
         have C2:=(j0.o.sI E x1 t l hP).1;have R0:=(j0.o.dI E y t l hD).1;have g3:=R0.cell 3;have g5:=R0.cell 5;have P2:=η (fun (x:ExtOf we)=>(z2Z (Blk.ext C2 x.h)).mono fun e w' ⟨(h1:e=_),h2⟩=>(⟨h1,h2▸Ext.refl _⟩:_/\Ext x.w' w'));have W2:=η (fun (x:ExtOf we)=>(z1J (Blk.ext C2 x.h)).mono fun e w' ⟨(h1:e=_),h2⟩=>(⟨h1,h2▸Ext.refl _⟩:_/\Ext x.w' w'));obtain⟨ta,tv,tt⟩:=t;simp only at P2 W2;have f4:(ta !=ta)=false:=by simp
         have i4:(tt !=tt)=false:=by simp
         have u1:=q0C a1;have u2:=q0C Y;have u3:=q0C g3;have u5:=q0C g5;clear hD hP a1 Y g3 g5 C2 R0;go_wp2_with fail;refine q0D (by kernel_rfl) (by kernel_rfl) ?_
         repeat (go_big_quiet_step (fail))
         go_big_quiet_step (exact Calls.quiet_ext (P2.o _))
         repeat (go_big_quiet_step (fail))
         go_big_quiet_step (exact Calls.quiet_ext (W2.o _))
         repeat (go_big_quiet_step (fail))
         refine wpQuiet_nil ?_;intro w5 b1;have H0:=η (j0.o.grow b1);have i0:=η (m0.o.same (X:=X) (fun i I=>b1.block i (j0.o.lt (.inr (.inr I)))) B.o C.o);clear b1 u1 u2 u3 u5;go_wp2_with fail
         go_roundw
         case rel=>exact R2.o _ _ _ _ _ _ _ _ _ z3 t3 p3 H0.o v1.o i0.o
         case measure=>simp[intOf];omega
   ·obtain rfl:j=n:=by omega
    have hd:decide ((j:Int)<(j:Int))=false:=ε (by omega);have M2:=η (Q0.o.tb.sk.all (by omega));obtain⟨ms,A2,_⟩:=Q0.o.tb.mo;obtain⟨la,lc,rfl⟩:=q0E A2.rowL;have J3:=η A2;clear A2 T2 L0 s3;go_wp2_with fail;refine M2.o.mono ?_;rintro e w3 ⟨vA,rfl,h1,h2,h3,h4⟩;obtain⟨aa,ac,rfl⟩:=q0E h3;have E1:=J3.o.same fun i I=>h2 i (.inl I)
    obtain⟨su,O1⟩:=E1.blk;have k0:=O1.cell 0;have I0:=η (z0A w3 (q2Z h3).1 (q2Z E1.rowL).1);have K3:=η (M1.o.trans h1.base);clear h1 h2 h3 h4 E1 O1 M2;go_wp2_with fail;refine I0.o.mono ?_;rintro e w4 ⟨rfl,hx⟩;have Y2:=η (K3.o.trans hx);clear hx I0 k0;go_wp2_with fail;refine(q6A w4 (HW.o _ Y2.o)).mono ?_;rintro e w5 ⟨rfl,hx⟩;have L3:=η (Y2.o.trans hx);clear hx;go_wp2_with fail;go_ret;exact⟨rfl,L3.o⟩
end Go.Proofs.YtfiibpgoplcgkaaGreatDoor
