/- Walks. -/
import Derived.Test.YtfiibpgoplcgkaaGreatDoorG33SA
set_option linter.unusedVariables false
set_option linter.unusedSimpArgs false
set_option maxRecDepth 100000
set_option maxHeartbeats 6400000
namespace Go.Proofs.YtfiibpgoplcgkaaGreatDoor
variable {ao:Option Addr}{cap n q:Nat}{y:Nat×Bt}{x:En}{L:List Ev}
section
open Go.RowKit
section
variable {wb w W W':World}{g gx gl rate:Nat}{m:Man}{ws:List En}{c s:Int}{u cnt:Nat}{B:List En}{C C':Cks}{sure:Int}{K K':Nat->Prop}{st:IxSt}{σ:DM}{φ:Fls}
theorem PInv.cleanL(h:PInv st σ c s φ u cnt B):{σ with L:=σ.L.filter fun f=>!q1l st.m.L.flatten f.nm}=σ:=by
 have b:=h.noOrph;unfold q1q at b;rw[List.filter_map,List.map_eq_nil_iff,List.filter_eq_nil_iff] at b;have d:(σ.L.filter fun f=>!q1l st.m.L.flatten f.nm)=σ.L:=List.filter_eq_self.2 fun f i=>by
  have:=b f i;simp only[Function.comp] at this
  simpa using this
 rw[d]
theorem IXG.clean(h:IXG wb W g gx gl rate m ws c s u cnt B C sure K)(U:Grid W ao m.L.length cap m.L)(nx ck sd:Int):
  Calls Tryz.prog 143 #[.pointer (some ⟨g,0,none⟩),.agg #[.int .i64 nx,.int .i64 ck,.int .u64 sd,.slice ao m.L.length cap]] W fun e w'=>e= .returned (.int .i64 0)/\IXG wb w' g gx gl rate m ws c s u cnt B C sure K/\Stay K W w':=by
 obtain⟨st,σ,φ,M,rfl,rfl,N,O,Q,⟨d,j⟩,I,S⟩:=h;have V:=Man.bounds d.man;have G:σ.down=false:=d.fl.up;have b:σ.fail=false:=by obtain⟨l,r,_⟩:=d.fl;exact r.fine
 refine(Q.disk (σ1:=σ) (R:=fun e=>e= .returned (.int .i64 0)) fun F X=>?_).mono ?_
 ·have hc:=z6E X G b d.shortN (nx:=nx) (ck:=ck) (sd:=sd) U (by have:=V.2.1;omega)
  rw[d.cleanL] at hc;exact hc
 ·rintro e w' ⟨he,k1,J⟩
  exact⟨he,⟨st,σ,φ,M,rfl,rfl,N,O,k1,⟨d,j⟩,⟨I.1.same fun i o=>J i (.inr o),I.2⟩,S⟩,fun i o=>J i (.inl o)⟩
end
section
variable {wb w W W':World}{g gx gl rate:Nat}{m:Man}{ws:List En}{c s:Int}{u cnt:Nat}{B:List En}{C C':Cks}{sure:Int}{K K':Nat->Prop}{st:IxSt}{σ:DM}{φ:Fls}
theorem DKR.man(h:DKR wb W g gl m c s u cnt B C sure K):m.ok:=by obtain⟨st,σ,φ,j,F,rfl,r,hF,⟨b,i,d⟩,l,o⟩:=h;exact b.man
theorem DKR.klt(h:DKR wb W g gl m c s u cnt B C sure K): ∀i,K i->i<W.heap.size:=by obtain⟨st,σ,φ,l,F,rfl,I,hF,⟨o,d,b⟩,r,G⟩:=h;exact fun i j=>(hF.k i (.inl j)).1
theorem DKR.grow(h:DKR wb W g gl m c s u cnt B C sure K)(k:Ext W W'):DKR wb W' g gl m c s u cnt B C sure K:=by
 obtain⟨st,σ,φ,d,F,rfl,l,hF,i,b,j⟩:=h;exact⟨st,σ,φ,d,F,rfl,l,hF.grow k,i,⟨b.1.ext k,b.2⟩,j⟩
theorem DKR.kExt(h:DKR wb W g gl m c s u cnt B C sure K)(k:Ext W W'):Stay K W W':=fun i b=>k.block i (h.klt i b)
def Man.cut(m:Man):Man:=⟨m.nx,m.ck,m.sd,q1A m.L⟩
theorem Man.cut_S{m:Man}(h:m.ok):m.cut.S=m.S:=by
 show(q3a m.nx m.ck m.sd (q1A m.L)).1=_;rw[z1K h.1];rfl
theorem DKR.cut(h:DKR wb W g gl m c s u cnt B C sure K):DKR wb W g gl m.cut c s u cnt B C sure K:=by
 obtain⟨st,σ,φ,o,F,rfl,R,hF,⟨b,i,d⟩,M,N⟩:=h;have j:st.m.cut.L.flatten=st.m.L.flatten:=q2B _;refine⟨{st with m:=st.m.cut},σ,φ,o,F,rfl,R,hF,⟨⟨b.fl,⟨q5V b.man.1,b.man.2⟩,fun n O=>b.full n (by rw[<-j];exact O),fun n e he=>?_,fun nm l=>?_,b.okw,b.okB,b.mem⟩,?_,d.toCksS,d.old⟩,M,N⟩
 ·show n∈st.m.cut.L.flatten/\_
  rw[j];exact b.tb n e he
 ·show nm=mapN\/(∃n∈st.m.cut.L.flatten,_)\/_
  rw[j];exact b.only nm l
 ·rcases i with⟨h,Q⟩|⟨r,G,I,J⟩
  ·exact .inl ⟨by rw[Man.cut_S b.man];exact h,Q⟩
  ·exact .inr ⟨r,G,I,by show q1A st.m.L=[];rw[J];rfl⟩
theorem DKR.load(h:DKR wb W g gl m c s u cnt B C sure K):Calls Tryz.prog 199 #[.pointer (some ⟨g,0,none⟩)] W fun e w'=>
  ((∃ao cap,e= .returned (.tuple #[.agg #[.int .i64 m.nx,.int .i64 m.ck,.int .u64 m.sd,.slice ao (q1A m.L).length cap],.int .i64 0])/\Grid w' ao (q1A m.L).length cap (q1A m.L)/\0<m.nx)\/
   (∃ao cap,e= .returned (.tuple #[.agg #[.int .i64 0,.int .i64 0,.int .u64 0,.slice ao 0 cap],.int .i64 4])/\m.nx=0/\m.ck=0/\m.L=[]))/\
  DKR wb w' g gl m c s u cnt B C sure K/\Stay K W w':=by
 obtain⟨st,σ,φ,gv,F,rfl,hw,hF,⟨b,I,j⟩,Q,h8⟩:=h;obtain⟨l,o,b0,r,d0,c0⟩:=b.fl
 cases hf:q0F FM.nm mapN σ.L with
 | none=>
  have N:φ mapN=none:=by rw[<-r,o.find,hf];rfl
  rcases I with⟨h,hp⟩|⟨O,U,V,X⟩
  ·rw[N] at h;cases h
  ·refine(z6t hF.d (by unfold q1m;rw[κ (by rw[o.up];decide),hf])).mono ?_
   rintro e w' ⟨a,R,rfl,hg,hd⟩;obtain⟨k1,M⟩:=hF.disk hd;exact⟨.inr ⟨a,R,rfl,U,V,X⟩,⟨st,σ,φ,gv,_,rfl,hw,k1,⟨b,.inr ⟨O,U,V,X⟩,j⟩,⟨Q.1.same fun i G=>M i (.inr G),Q.2⟩,h8⟩,fun i G=>M i (.inl G)⟩
 | some f=>
  have N:φ mapN=some f.da:=by rw[<-r,o.find,hf];rfl
  rcases I with⟨h,hp⟩|⟨O,U,V,X⟩
  ·have a0:f.da=st.m.S:=by rw[N] at h;injection h
   have J:q3T f.da=⟨st.m.nx,st.m.ck,st.m.sd,q1A st.m.L,0⟩:=by
    rw[a0];show q3T (q3a st.m.nx st.m.ck st.m.sd st.m.L).1=_;rw[q8t b.man.1];exact z9M b.man.1 b.man.2.1 b.man.2.2
   refine(z6u hF.d hf o.up).mono ?_;rw[J];rintro e w' ⟨a,R,rfl,hg,hd⟩;obtain⟨k1,M⟩:=hF.disk hd;have Y:PInv st (q2Z σ) c s φ u cnt B:=⟨Fl.tells 1 b.fl,b.man,b.full,b.tb,b.only,b.okw,b.okB,b.mem⟩
   exact⟨.inl ⟨a,R,rfl,hg,hp⟩,⟨st,q2Z σ,φ,gv,_,rfl,hw,k1,⟨Y,.inl ⟨h,hp⟩,j.toCksS.kp (Kp.tell σ) b.fl j.i,j.old⟩,⟨Q.1.same fun i G=>M i (.inr G),Q.2⟩,h8⟩,fun i G=>M i (.inl G)⟩
  ·rw[N] at O;cases O
end
section
variable {wb w W W':World}{g gx gl:Nat}{m:Man}{ws:List En}{c s:Int}{u cnt:Nat}{B:List En}{C C':Cks}{sure:Int}{K K':Nat->Prop}{st:IxSt}{σ:DM}{φ:Fls}
theorem DKR.ends(h:DKR wb W g gl m c s u cnt B C sure K):Calls Tryz.prog 140 #[.pointer (some ⟨gl,0,none⟩)] W fun e w'=>e= .returned (.int .i64 (q2d C))/\Ext W w':=by
 obtain⟨st,σ,φ,d,F,i,o,hF,j,b,l⟩:=h;exact(z8m b.1 b.2).mono fun e w' ⟨h,k⟩=>⟨h,k▸Ext.refl _⟩
def LyR(wb W:World)(g gl:Nat)(rate:Nat)(m:Man)(c s:Int)(u cnt:Nat)(B:List En)(C:Cks)(sure:Int)(K:Nat->Prop)(sd:Int)(e:Ending)(w':World):Prop:=
 ((∃gx B2,e= .returned (.tuple #[.pointer (some ⟨gx,0,none⟩),.int .i64 0])/\IXG wb w' g gx gl rate m.cut [] c s u cnt B2 C sure K/\(∀x,x∈B↔x∈B2)/\m.sd=sd/\m.ck<=q2d C/\0<m.nx)\/
  (∃n:Int,e= .returned (.tuple #[.pointer none,.int .i64 n])/\(n=4\/n=90)/\DKR wb w' g gl m c s u cnt B C sure K/\((m.nx=0/\m.ck=0/\m.L=[])\/m.sd≠sd\/q2d C<m.ck)))/\Stay K W w'
theorem y0y(h:DKR wb w g gl m c s u cnt B C sure K)(f0:m.L.flatten.length<=cnt)(sd:Int)(rate:Nat):
  Calls Tryz.prog 141 #[.pointer (some ⟨g,0,none⟩),.pointer (some ⟨gl,0,none⟩),.int .u64 sd,.float .f64 rate] w (LyR wb w g gl rate m c s u cnt B C sure K sd):=by
 have R:=η h.load;clear h;go_enter Tryz.func141,Tryz.ntmps141;go_wp2_with fail;refine R.o.mono ?_;rintro e w1 ⟨hl,O,U⟩;clear R;have HD:=η O;have HS:=η U;rcases hl with⟨ao,J,rfl,hg,S⟩|⟨ao,J,rfl,z⟩
 ·have HG:=η hg
  have hx:=q0B w1 (.cells #[.int .i64 m.nx,.int .i64 m.ck,.int .u64 m.sd,.slice ao (q1A m.L).length J] 47);have hb:=Blk.new w1 47 #[.int .i64 m.nx,.int .i64 m.ck,.int .u64 m.sd,.slice ao (q1A m.L).length J];have b:=η (O.grow hx);have r:=η (U.trans (O.kExt hx));have a0:=η (hg.ext hx);have j:=η hb;clear O U hg hx hb;go_wp2_with fail;generalize w1.alloc (.cells #[.int .i64 m.nx,.int .i64 m.ck,.int .u64 m.sd,.slice ao (q1A m.L).length J] 47)=w2 at*;generalize w1.heap.size=q at*;have X:w2.cell? ⟨q,0,none⟩=some (.int .i64 m.nx):=j.o.cell 0;have Y:w2.cell? ⟨q,1,none⟩=some (.int .i64 m.ck):=j.o.cell 1;have c2:w2.cell? ⟨q,2,none⟩=some (.int .u64 m.sd):=j.o.cell 2;have c3:w2.cell? ⟨q,3,none⟩=some (.slice ao (q1A m.L).length J):=j.o.cell 3;have u0:=q0D X;have u1:=q0D Y;have u2:=q0D c2;have u3:=q0D c3;have HE:=η (fun W (k:Ext w2 W)=>(b.o.grow k).ends);by_cases M:m.sd=sd
  ·subst M
   by_cases d:q2d C<m.ck
   ·have g0:decide (q2d C<m.ck)=true:=ζ d
    refine q0E (by kernel_rfl) (by kernel_rfl) ?_
    repeat (go_big_quiet_step (fail))
    go_big_quiet_step (exact Calls.quiet_ext (HE.o _ (ExtOf.h _)))
    repeat (go_big_quiet_step (fail))
    refine wpQuiet_nil ?_;intro Q i;have l:=η (b.o.grow i);have G:=η (r.o.trans (b.o.kExt i));have N:=η d;clear i d X Y c2 c3 u0 u1 u2 u3;go_wp2_with fail;go_ret2;exact⟨.inr ⟨90,rfl,.inr rfl,l.o,.inr (.inr N.o)⟩,G.o⟩
   ·have g0:decide (q2d C<m.ck)=false:=ε d
    refine q0E (by kernel_rfl) (by kernel_rfl) ?_
    repeat (go_big_quiet_step (fail))
    go_big_quiet_step (exact Calls.quiet_ext (HE.o _ (ExtOf.h _)))
    repeat (go_big_quiet_step (fail))
    refine wpQuiet_nil ?_;intro Q i;have l:=η (b.o.grow i);have G:=η (r.o.trans (b.o.kExt i));have b0:=η (a0.o.ext i);have HO:=η (l.o.cut.iopen (ao:=ao) (cap:=J) b0.o (by show(q1A m.L).flatten.length<=cnt;rw[q2B];exact f0) rate);have I:=j.o.ext i;have i0:Q.cell? ⟨q,0,none⟩=some (.int .i64 m.nx):=I.cell 0;have j0:Q.cell? ⟨q,1,none⟩=some (.int .i64 m.ck):=I.cell 1;have k0:Q.cell? ⟨q,2,none⟩=some (.int .u64 m.sd):=I.cell 2;have l0:Q.cell? ⟨q,3,none⟩=some (.slice ao (q1A m.L).length J):=I.cell 3;have N:=η d;clear i d X Y c2 c3 u0 u1 u2 u3 I;go_wp2_with fail;refine HO.o.mono ?_;rintro e w4 ⟨gx,B2,rfl,hi,hm,V⟩;have HI:=η hi;have HM:=η hm;have e0:=η (G.o.trans V);clear hi hm V HO;go_wp2_with fail;go_ret2;exact⟨.inl ⟨gx,B2,rfl,HI.o,HM.o,rfl,by have:=N.o;omega,S⟩,e0.o⟩
  ·have h0:(m.sd !=sd)=true:=by simpa using M
   have d0:=η M;refine q0E (by kernel_rfl) (by kernel_rfl) ?_
   repeat (go_big_quiet_step (fail))
   (try rw[h0])
   repeat (go_big_quiet_step (fail))
   refine wpQuiet_nil ?_;intro Q i;have l:=η (b.o.grow i);have G:=η (r.o.trans (b.o.kExt i));clear i M X Y c2 c3 u0 u1 u2 u3;go_wp2_with fail;go_ret2;exact⟨.inr ⟨90,rfl,.inr rfl,l.o,.inr (.inl d0.o)⟩,G.o⟩
 ·have b:=η (O.grow (q0B w1 (.cells #[.int .i64 0,.int .i64 0,.int .u64 0,.slice ao 0 J] 47)))
  have r:=η (U.trans (O.kExt (q0B w1 (.cells #[.int .i64 0,.int .i64 0,.int .u64 0,.slice ao 0 J] 47))));have HZ:=η z;clear O U z;go_wp2_with fail;go_ret2;exact⟨.inr ⟨4,rfl,.inl rfl,b.o,.inl HZ.o⟩,r.o⟩
end
theorem z1j(p:List UInt8×List UInt8->Bool)(l:List (List UInt8×List UInt8)):q1X (l.filter p)<=q1X l:=by
 induction l with
 |nil=>exact ι _
 | cons x l ih=>
  have b: ∀t,q1X (x::t)=q1X [x]+q1X t:=fun t=>by rw[<-q0d];rfl
  cases hp:p x with
  |true=>rw[List.filter_cons_of_pos hp,b,b l];omega
  |false=>rw[List.filter_cons_of_neg (by simp[hp]),b];omega
theorem z6a(q:List UInt8->Bool)(l:List (List UInt8×List UInt8))(nm:List UInt8):q0F Prod.fst nm (l.filter fun y=>q y.1)=if q nm=true then q0F Prod.fst nm l else none:=by
 induction l with
 |nil=>unfold q0F;simp
 | cons x l ih=>
  unfold q0F at ih⊢
  cases hq:q x.1 with
  | true=>
   rw[List.filter_cons,ξ hq,List.find?_cons,List.find?_cons,ih];by_cases b:(x.1==nm)=true
   ·rw[b]
    have:x.1=nm:=by simpa using b
    rw[this] at hq;simp[hq]
   ·rw[Bool.not_eq_true] at b
    rw[b]
  | false=>
   rw[List.filter_cons,κ (by simp[hq]),List.find?_cons,ih];by_cases b:(x.1==nm)=true
   ·have:x.1=nm:=by simpa using b
    rw[this] at hq;simp[hq]
   ·rw[Bool.not_eq_true] at b
    rw[b]
theorem Fl.filt{σ:DM}{c s:Int}{φ:Fls}{u cnt:Nat}(h:Fl σ c s φ u cnt)(q:List UInt8->Bool):Fl {σ with L:=σ.L.filter fun f=>q f.nm} c s (fun nm=>if q nm=true then φ nm else none) u cnt:=by
 obtain⟨l,b,d,i,j,o⟩:=h;refine⟨l.filter fun y=>q y.1,⟨b.up,b.fine,?_,b.cap,b.st⟩,d.filter _,fun nm=>?_,Ω (z1j _ _) j,Ω (List.length_filter_le _ _) o⟩
 ·rw[<-b.files,List.filter_map];rfl
 ·rw[z6a]
  cases hq:q nm with
  |true=>simp only[hq,if_true];exact i nm
  |false=>simp[hq]
def y1j(φ:Fls):Prop:=φ mapN=none/\ ∀nm,φ nm≠none->(∃l n,(l=116\/l=98)/\(0<=n/\n<=999999)/\nm=q0C l n)\/ ∃k:Nat,k<=999999/\nm=q0C 99 (k:Int)
def DKO(wb W:World)(g gl:Nat)(c s:Int)(u cnt:Nat)(C:Cks)(sure:Int)(K:Nat->Prop):Prop:=
 ∃σ φ gv F,DkF wb W g F σ (fun i=>K i\/q8V gl gv i)/\(Fl σ c s φ u cnt/\y1j φ/\CksS φ σ C sure)/\(LogM W gl g s gv (q0M C) sure/\okC C)/\(∀i,q8V gl gv i->¬K i/\wb.heap.size<=i)
def IXO(wb W:World)(g gx gl:Nat)(rate:Nat)(sd:Int)(c s:Int)(u cnt:Nat)(C:Cks)(sure:Int)(K:Nat->Prop):Prop:=
 (0<=sd/\sd<18446744073709551616)/\ ∃t σ φ gv,(∀n,t n=none)/\IxK wb W g gx ⟨⟨0,0,sd,[]⟩,rate,[],t,0⟩ σ (fun i=>K i\/q8V gl gv i)/\(Fl σ c s φ u cnt/\y1j φ/\CksS φ σ C sure)/\(LogM W gl g s gv (q0M C) sure/\okC C)/\(∀i,q8V gl gv i->¬K i/\wb.heap.size<=i)
section
variable {wb w W W':World}{g gx gl rate:Nat}{m:Man}{ws:List En}{c s:Int}{u cnt:Nat}{B:List En}{C C':Cks}{sure:Int}{K K':Nat->Prop}{st:IxSt}{σ:DM}{φ:Fls}
theorem DKR.gone(h:DKR wb W g gl m c s u cnt B C sure K):Calls Tryz.prog 136 #[.pointer (some ⟨g,0,none⟩),.string ⟨mapN.toArray⟩] W fun e w'=>
  (e= .returned (.int .i64 0)\/e= .returned (.int .i64 4))/\DKO wb w' g gl c s u cnt C sure K/\Stay K W w':=by
 obtain⟨st,σ,φ,S,F,rfl,hw,hF,⟨G,a0,o⟩,M,U⟩:=h;have j: ∀nm,nm≠mapN->φ nm≠none->(∃l n,(l=116\/l=98)/\(0<=n/\n<=999999)/\nm=q0C l n)\/ ∃k:Nat,k<=999999/\nm=q0C 99 (k:Int):=fun nm Q b=>by
  rcases G.only nm b with e|⟨n,b,e⟩|e
  ·exact absurd e Q
  ·have:=G.range b
   rcases e with e|e
   ·exact .inl ⟨116,n,.inl rfl,⟨this.1,this.2.1⟩,e⟩
   ·exact .inl ⟨98,n,.inr rfl,⟨this.1,this.2.1⟩,e⟩
  ·exact .inr e
 refine(q9b hF.d mapN (by decide)).mono ?_;rintro e w' ⟨rfl,hd⟩;obtain⟨k1,N⟩:=hF.disk hd
 cases h0:φ mapN with
 | none=>
  have I:q1L σ mapN=(4,σ):=by
   obtain⟨l,X,a2,Y,_⟩:=G.fl;exact X.deleteN (Fl.noFind Y h0)
  rw[I] at k1⊢;exact⟨.inr rfl,⟨σ,φ,S,_,k1,⟨G.fl,⟨h0,fun nm b=>j nm (fun e=>b (by rw[e];exact h0)) b⟩,o.toCksS⟩,⟨M.1.same fun i r=>N i (.inr r),M.2⟩,U⟩,fun i r=>N i (.inl r)⟩
 | some t=>
  obtain⟨σ',R,O⟩:=G.fl.del h0;have J:=Kp.delete σ mapN;rw[R] at J;rw[R] at k1⊢;refine⟨.inl rfl,⟨σ',z6I φ mapN,S,_,k1,⟨O,⟨by unfold z6I;rw[ξ rfl],fun nm b=>?_⟩,o.toCksS.kp J G.fl fun k V=>?_⟩,⟨M.1.same fun i r=>N i (.inr r),M.2⟩,U⟩,fun i r=>N i (.inl r)⟩
  ·unfold z6I at b
   by_cases he:nm=mapN
   ·rw[ξ he] at b;exact absurd rfl b
   ·rw[κ he] at b;exact j nm he b
  ·unfold z6I
   rw[κ (q2h V).1];exact o.i k V
theorem DKO.iopen(h:DKO wb W g gl c s u cnt C sure K)(sd:Int)(d:0<=sd)(j:sd<18446744073709551616)(rate:Nat):
  Calls Tryz.prog 142 #[.pointer (some ⟨g,0,none⟩),.agg #[.int .i64 0,.int .i64 0,.int .u64 sd,.slice none 0 0],.float .f64 rate] W fun e w'=>
   ∃gx,e= .returned (.tuple #[.pointer (some ⟨gx,0,none⟩),.int .i64 0])/\IXO wb w' g gx gl rate sd c s u cnt C sure K/\Stay K W w':=by
 obtain⟨σ,φ,I,F,hF,o,r,J⟩:=h;refine(z6p (m:=⟨0,0,sd,[]⟩) hF (ao:=none) (cap:=0) (Grid.empty W) (υ _) (fun x O=>by cases O) d j rate).mono ?_;have N:q0k 0 0 []=true:=by decide
 rintro e w' (⟨b,_⟩|⟨_,b,_⟩|⟨_,_,b,_⟩|⟨_,_,_,gx,t,rfl,b,G,Q⟩)
 ·rw[show q0k (⟨0,0,sd,[]⟩:Man).nx (⟨0,0,sd,[]⟩:Man).ck (⟨0,0,sd,[]⟩:Man).L=true from N] at b;cases b
 ·rw[o.1.up] at b;cases b
 ·exact absurd rfl b
 ·have M: ∀n,t n=none:=fun n=>by
   have:=Q n
   cases hn:t n with
   |none=>rfl
   |some e=>rw[hn] at this;cases this
  exact⟨gx,rfl,⟨⟨d,j⟩,t,σ,φ,I,M,b,o,⟨r.1.same fun i l=>G i (.inr l),r.2⟩,J⟩,fun i l=>G i (.inl l)⟩
end
section
variable {wb w W W':World}{g gx gl rate:Nat}{m:Man}{ws:List En}{c s:Int}{u cnt:Nat}{B:List En}{C C':Cks}{sure sd:Int}{K K':Nat->Prop}{st:IxSt}{σ:DM}{φ:Fls}
theorem z7J{l:UInt8}(b:l=116\/l=98){n:Int}(j:0<=n/\n<=999999):q1l [] (q0C l n)=true:=by
 have d:q2D l=true:=by rcases b with rfl|rfl<;>decide
 have i:=q1h d j;unfold q1l;rw[i];rcases b with rfl|rfl<;>simp
theorem IXO.tells(h:IXO wb W g gx gl rate sd c s u cnt C sure K):Calls Tryz.prog 62 #[.pointer (some ⟨gx,0,none⟩)] W fun e w'=>
  ∃v b,e= .returned (.agg #[.int .i64 0,.int .i64 0,.int .u64 sd,v])/\OGr w' W.heap.size 37 3 v b []/\Ext W w':=by
 obtain⟨I,t,σ,φ,l,J,⟨F,d,j,Y,q⟩,o,r,G⟩:=h;exact q7m q.i.x
theorem IXO.grow(h:IXO wb W g gx gl rate sd c s u cnt C sure K)(k:Ext W W'):IXO wb W' g gx gl rate sd c s u cnt C sure K:=by
 obtain⟨l,t,σ,φ,d,o,r,i,b,j⟩:=h;exact⟨l,t,σ,φ,d,o,r.grow k,i,⟨b.1.ext k,b.2⟩,j⟩
theorem IXO.kExt(h:IXO wb W g gx gl rate sd c s u cnt C sure K)(k:Ext W W'):Stay K W W':=by
 obtain⟨G,t,σ,φ,j,I,d,l,o,r⟩:=h;exact fun i b=>d.kExt k i (.inl b)
theorem IXO.clean(h:IXO wb W g gx gl rate sd c s u cnt C sure K)(hG:Grid W ao 0 cap []):
  Calls Tryz.prog 143 #[.pointer (some ⟨g,0,none⟩),.agg #[.int .i64 0,.int .i64 0,.int .u64 sd,.slice ao 0 cap]] W fun e w'=>e= .returned (.int .i64 0)/\IXG wb w' g gx gl rate ⟨0,0,sd,[]⟩ [] c s u cnt [] C sure K/\Stay K W w':=by
 obtain⟨⟨U,V⟩,t,σ,φ,gv,Y,h5,⟨b,⟨Q,J⟩,o⟩,h7,h8⟩:=h;have a0:σ.down=false:=b.up;have r:σ.fail=false:=by obtain⟨l,S,_⟩:=b;exact S.fine
 have X: ∀x∈q1q σ,x.length<=9223372036854775807:=fun x G=>by
  have b0:φ x≠none:=by
   obtain⟨l,h1,_,h2,_⟩:=b;rw[h1.names] at G;rw[<-h2 x];obtain⟨y,hy,rfl⟩:=List.mem_map.1 G;intro j
   cases M:q0F Prod.fst y.1 l with
   |some z=>rw[M] at j;cases j
   |none=>exact q0r M y hy rfl
  rcases J x b0 with⟨l,n,_,j,rfl⟩|⟨k,O,rfl⟩
  ·rw[q0U j,χ,q0Y];decide
  ·rw[q0U (by omega),χ,q0Y];decide
 refine(h5.disk (σ1:={σ with L:=σ.L.filter fun f=>!q1l [] f.nm}) (R:=fun e=>e= .returned (.int .i64 0)) fun F hd=>z6E hd a0 r X (nx:=0) (ck:=0) (sd:=sd) hG (by simp)).mono ?_;rintro e w' ⟨he,k1,k2⟩;have hv:q0k 0 0 []=true:=by decide
 have I:=b.filt (fun nm=>!q1l [] nm);refine⟨he,⟨_,_,_,gv,rfl,rfl,rfl,υ _,k1,⟨⟨I,⟨hv,U,V⟩,(fun n j=>by cases j),(fun n e he=>by simp only at he;rw[Y n] at he;cases he),fun nm d=>?_,okM.nil,okM.nil,fun x=>?_⟩,.inr ⟨?_,rfl,rfl,rfl⟩,⟨⟨fun k O=>?_,fun f M=>o.sr f (List.mem_filter.1 M).1,o.le⟩,fun n e he=>by simp only at he;rw[Y n] at he;cases he⟩⟩,⟨h7.1.same fun i N=>k2 i (.inr N),h7.2⟩,h8⟩,fun i N=>k2 i (.inl N)⟩
 ·by_cases hq:(!q1l [] nm)=true
  ·simp only[hq,if_true] at d
   rcases J nm d with⟨l,n,hl,j,rfl⟩|e
   ·rw[z7J hl j] at hq;cases hq
   ·exact .inr (.inr e)
  ·simp only[hq] at d
   exact absurd rfl d
 ·constructor
  ·intro G;cases G
  ·rintro(G|⟨n,e,he,_⟩)
   ·cases G
   ·simp only at he;rw[Y n] at he;cases he
 ·simp only[z3v];exact Q
 ·simp only[q8y O];exact o.i k O
end
section
variable {wb w W W':World}{g gx gl:Nat}{m:Man}{ws:List En}{c s:Int}{u cnt:Nat}{B:List En}{C C':Cks}{sure sd:Int}{K K':Nat->Prop}{st:IxSt}{σ:DM}{φ:Fls}
theorem z3f(C:Cks)(pos:Int):(q2f C pos).length<=(q0f 0 C).length:=List.length_filter_le _ _
theorem z9I{B i:List En}(h:okM i)(k: ∀x,x∈B↔x∈i):i.length<=B.length:=
 q4v (h.sort.imp fun {a b} d e=>by subst e;rw[q0c] at d;cases d) fun x j=>(k x).2 j
theorem IXO.more{rate:Nat}(h:IXO wb W g gx gl rate sd c s u cnt C sure K)(k:Ext W W')(hK: ∀i,K' i->K i\/(W.heap.size<=i/\i<W'.heap.size)):IXO wb W' g gx gl rate sd c s u cnt C sure K':=by
 obtain⟨J,t,σ,φ,o,M,r,G,j,l⟩:=h;refine⟨J,t,σ,φ,o,M,r.more k (fun i b=>?_),G,⟨j.1.ext k,j.2⟩,fun i b=>⟨fun I=>?_,(l i b).2⟩⟩
 ·rcases b with b|b
  ·exact(hK i b).imp .inl id
  ·exact .inl (.inr b)
 ·rcases hK i I with d|⟨d,_⟩
  ·exact(l i b).1 d
  ·have:=j.1.lt b;omega
def y3o(wb W:World)(g gl:Nat)(rate:Nat)(m:Man)(c s:Int)(u cnt:Nat)(B:List En)(C:Cks)(sure:Int)(K:Nat->Prop)(sd:Int)(e:Ending)(w':World):Prop:=
 ((∃ gx m' B2 D an,e= .returned (.tuple #[.pointer (some ⟨gx,0,none⟩),.bool an,.int .i64 0])/\IXG wb w' g gx gl rate m' (q1Q D []) c s u cnt (q1Q D B2) C sure K/\z1o sd (q2f C m'.ck)=some D/\
   ((an=false/\m'=m.cut/\m.sd=sd/\m.ck<=q2d C/\0<m.nx/\ ∀x,x∈B↔x∈B2)\/(an=true/\m'=⟨0,0,sd,[]⟩/\B2=[]/\((m.nx=0/\m.ck=0/\m.L=[])\/m.sd≠sd\/q2d C<m.ck))))\/
  (e= .returned (.tuple #[.pointer none,.bool false,.int .i64 63])/\Ext wb w'/\((m.sd=sd/\z1o sd (q2f C m.ck)=none)\/z1o sd (q2f C 0)=none)))/\Stay K W w'
theorem z7b(h:DKR wb w g gl m c s u cnt B C sure K)(p0:m.L.flatten.length<=cnt)(hB:B.length+8*(q0f 0 C).length<=40000)(q0:0<=sd)(r0:sd<18446744073709551616)(rate:Nat):
  Calls Tryz.prog 84 #[.pointer (some ⟨g,0,none⟩),.pointer (some ⟨gl,0,none⟩),.int .u64 sd,.float .f64 rate] w (y3o wb w g gl rate m c s u cnt B C sure K sd):=by
 have g0:=h.man;have hb:=Man.bounds g0;have e0:=η (y0y h p0 sd rate);have b0:=η hB;have s0: ∀(W:World) (x y z t:Value),(Instr.field 47 (.agg #[x,y,z,t]) 2).run Tryz.prog W= .ok z W:=fun _ _ _ _ _=>rfl
 clear h hB;go_enter Tryz.func84,Tryz.ntmps84;go_wp2_with fail;refine e0.o.mono ?_;rintro e w1 ⟨hl,i0⟩;have HS:=η i0;clear i0 e0;rcases hl with⟨gx,B2,rfl,b,hm,a0,o0,h0⟩|⟨n,rfl,hn,hd,R⟩
 ·have HM:=η hm
  have d0:=η (z9I b.okB.1 hm);obtain⟨M,hM⟩: ∃M,m.cut=M:=⟨_,rfl⟩
  have m0:=η hM;have V:Hd (M.ck=m.ck):=η (by rw[<-hM];rfl);have f0:Hd (M.sd=sd):=η (by rw[<-hM,<-a0];rfl);have k0:Hd (0<=M.ck):=η (by rw[V.o];omega);have l0:Hd (M.ck<=9223372036854775807):=η (by rw[V.o];omega);rw[hM] at b;have O:=η b;clear b hm hM;have HT:=η O.o.tells;go_wp2_with fail;refine HT.o.mono ?_;rintro e N ⟨v,vs,rfl,ho,Q⟩;obtain⟨ao,cp,rfl,hg⟩:=ho.grid;have hq:=q0B N (.cells #[.int .i64 M.nx,.int .i64 M.ck,.int .u64 M.sd,.slice ao M.L.length cp] 47);have j:=Blk.new N 47 #[.int .i64 M.nx,.int .i64 M.ck,.int .u64 M.sd,.slice ao M.L.length cp];have j0:=η ((O.o.grow Q).more (K':=fun i=>K i\/i=N.heap.size) hq (fun i b=>b.imp id fun e=>⟨by omega,by rw[e];exact j.lt⟩));have X:=η (HS.o.trans (O.o.kExt (Q.trans hq)));have HC:=η (((O.o.grow Q).more (K':=fun i=>K i\/i=N.heap.size) hq (fun i b=>b.imp id fun e=>⟨by omega,by rw[e];exact j.lt⟩)).clean (hg.ext hq) M.nx M.ck M.sd);have S:=η j;clear ho Q hg hq j HT;go_wp2_with fail;refine HC.o.mono ?_;rintro e w3 ⟨rfl,b,d⟩;have G:=η (X.o.trans (fun i b=>d i (.inl b)));have I:=S.o.same (d _ (.inr rfl));have c1:w3.cell? ⟨N.heap.size,1,none⟩=some (.int .i64 M.ck):=I.cell 1;have HR:=η (z4C b M.ck k0.o l0.o (by have h1:=z3f C M.ck;have h2:=b0.o;have h3:=d0.o;omega));clear b d I HC;go_wp2_with fail;refine HR.o.mono ?_;rintro e w4 ⟨D,b,d,(⟨J,rfl⟩|⟨J,rfl⟩)⟩
  ·have U:=η (b.beside (K':=K) fun i b=> .inl b)
   have r:=η (G.o.trans (fun i b=>d i (.inl b)));have l:=η J;clear b d J;go_wp2_with fail;go_ret3;exact⟨.inl ⟨gx,_,_,D,_,rfl,U.o,by rw[<-f0.o];exact l.o,.inl ⟨rfl,m0.o.symm,a0,o0,h0,HM.o⟩⟩,r.o⟩
  ·have Y:=η b.base
   have r:=η (G.o.trans (fun i b=>d i (.inl b)));have l:=η J;clear b d J;go_wp2_with fail;go_ret3;exact⟨.inr ⟨rfl,Y.o,.inl ⟨a0,by rw[<-V.o,<-f0.o];exact l.o⟩⟩,r.o⟩
 ·have HD:=η hd;have HW:=η R
  have c0:=η hd.gone;clear hd R;rcases hn with rfl|rfl
  all_goals
   go_wp2_with fail;refine c0.o.mono ?_;rintro e w5 ⟨he,hd,d⟩;have HO:=η (hd.iopen sd q0 r0 rate);have n0:=η (HS.o.trans d);clear hd d;rcases he with rfl|rfl
   all_goals
    go_wp2_with fail;refine HO.o.mono ?_;rintro e w6 ⟨gx,rfl,b,d⟩;have O:=η b;have HS:=η (n0.o.trans d);clear b d HO c0;have HT:=η O.o.tells;go_wp2_with fail;refine HT.o.mono ?_;rintro e N ⟨v,vs,rfl,ho,Q⟩;obtain⟨ao,cp,rfl,hg⟩:=ho.grid;have hq:=q0B N (.cells #[.int .i64 0,.int .i64 0,.int .u64 sd,.slice ao 0 cp] 47);have j:=Blk.new N 47 #[.int .i64 0,.int .i64 0,.int .u64 sd,.slice ao 0 cp];have j0:=η ((O.o.grow Q).more (K':=fun i=>K i\/i=N.heap.size) hq (fun i b=>b.imp id fun e=>⟨by omega,by rw[e];exact j.lt⟩));have X:=η (HS.o.trans (O.o.kExt (Q.trans hq)));have HC:=η (((O.o.grow Q).more (K':=fun i=>K i\/i=N.heap.size) hq (fun i b=>b.imp id fun e=>⟨by omega,by rw[e];exact j.lt⟩)).clean (ao:=ao) (cap:=cp) (hg.ext hq));have S:=η j;clear ho Q hg hq j HT;go_wp2_with fail;refine HC.o.mono ?_;rintro e w3 ⟨rfl,b,d⟩;have G:=η (X.o.trans (fun i b=>d i (.inl b)));have I:=S.o.same (d _ (.inr rfl));have c1:w3.cell? ⟨N.heap.size,1,none⟩=some (.int .i64 0):=I.cell 1;have HR:=η (z4C b 0 (by decide) (by decide) (by have h1:=z3f C 0;have h2:=b0.o;rw[List.length_nil];omega));clear b d I HC;go_wp2_with fail;refine HR.o.mono ?_;rintro e w4 ⟨D,b,d,(⟨J,rfl⟩|⟨J,rfl⟩)⟩
    ·have U:=η (b.beside (K':=K) fun i b=> .inl b)
     have r:=η (G.o.trans (fun i b=>d i (.inl b)));have l:=η J;clear b d J;go_wp2_with fail;go_ret3;exact⟨.inl ⟨gx,_,_,D,_,rfl,U.o,l.o,.inr ⟨rfl,rfl,rfl,HW.o⟩⟩,r.o⟩
    ·have Y:=η b.base
     have r:=η (G.o.trans (fun i b=>d i (.inl b)));have l:=η J;clear b d J;go_wp2_with fail;go_ret3;exact⟨.inr ⟨rfl,Y.o,.inr l.o⟩,r.o⟩
end
def DKQ(wb W:World)(g:Nat)(m:Man)(c s:Int)(u cnt:Nat)(B:List En)(C:Cks)(K:Nat->Prop):Prop:=
 ∃st σ φ F,st.m=m/\st.w=[]/\DkF wb W g F σ K/\(PInv st σ c s φ u cnt B/\q6J φ m/\z9s st φ σ C 0)/\okC C
section
variable {wb w W W':World}{g gl gs gx rate:Nat}{m:Man}{ws:List En}{c s sd:Int}{u cnt:Nat}{B:List En}{C:Cks}{P:Pbs}{sure:Int}{K K':Nat->Prop}
theorem DKQ.lopen(h:DKQ wb w g m c s u cnt B C K):Calls Tryz.prog 83 #[.pointer (some ⟨g,0,none⟩)] w fun e w'=> ∃gl,e= .returned (.tuple #[.pointer (some ⟨gl,0,none⟩),.int .i64 0])/\DKR wb w' g gl m c s u cnt B C (q2d C) K/\Stay K w w':=by
 obtain⟨st,σ,φ,F,S,U,V,⟨M,r,o⟩,X⟩:=h;obtain⟨E,Q,R,e3,e4⟩:=q8D M o.toCksS X;refine(y2d (E:=E) (C:=C) (c:=c-(q1V E:Int)) (s:=s) (K:=K) (w0:=wb) ⟨F,σ,V,Q⟩).mono ?_;rintro e w' ⟨gl,rfl,_,⟨O,v,σ',b,N⟩,J⟩;obtain⟨G,p1,p2,p3⟩:=M.relog R N b.d.okD (u':=u) (cnt':=cnt) (by omega) (by omega);have hm:G mapN=φ mapN:=p3 mapN fun k I e=>(q2h I).1 e.symm
 refine⟨gl,rfl,⟨st,σ',G,v,O,S,U,⟨b.d,b.bF,b.ext,fun i j=>?_⟩,⟨p1,by unfold q6J;rw[hm];exact r,p2,o.old⟩,⟨b.l,N.ok⟩,fun i j=>⟨fun I=>(b.k i I).2.2 j,b.bG i j⟩⟩,J⟩;rcases j with j|j
 ·exact⟨(b.k i j).1,(b.k i j).2.1⟩
 ·exact⟨b.l.lt j,fun Y=>b.ap i Y j⟩
structure StoP(wb W:World)(g gs gl gx rate:Nat)(m:Man)(ws:List En)(sd c s:Int)(u cnt:Nat)(B:List En)(C:Cks)(sure:Int)(P:Pbs)(K:Nat->Prop):Prop where
 i:IXG wb W g gx gl rate m ws c s u cnt B C sure (fun i=>K i\/i=gs)
 b:Blk W gs 131 #[.pointer (some ⟨gl,0,none⟩),.pointer (some ⟨gx,0,none⟩),.int .u64 sd]
 sdE:m.sd=sd
 recE:q0f 0 C=z2l P
 stE:StI sd B P
 ckE:m.ck<=q2d C
 wsE: ∀x∈ws,m.ck<=x.2.2
 ckS:m.ck<=sure
 k:¬K gs/\wb.heap.size<=gs
theorem StoP.grow(h:StoP wb W g gs gl gx rate m ws sd c s u cnt B C sure P K)(k:Ext W W'):StoP wb W' g gs gl gx rate m ws sd c s u cnt B C sure P K:=
 ⟨h.i.grow k,h.b.ext k,h.sdE,h.recE,h.stE,h.ckE,h.wsE,h.ckS,h.k⟩
theorem StoP.base(h:StoP wb W g gs gl gx rate m ws sd c s u cnt B C sure P K):Ext wb W:=h.i.base
theorem StoP.kExt(h:StoP wb W g gs gl gx rate m ws sd c s u cnt B C sure P K)(k:Ext W W'):Stay K W W':=fun i b=>h.i.kExt k i (.inl b)
theorem StoP.klt(h:StoP wb W g gs gl gx rate m ws sd c s u cnt B C sure P K): ∀i,K i->i<W.heap.size:=fun i b=>h.i.klt i (.inl b)
theorem StoP.more(h:StoP wb W g gs gl gx rate m ws sd c s u cnt B C sure P K)(k:Ext W W')(hK: ∀i,K' i->K i\/(W.heap.size<=i/\i<W'.heap.size)):StoP wb W' g gs gl gx rate m ws sd c s u cnt B C sure P K':=
 ⟨h.i.more k fun i d=>by
  rcases d with d|d
  ·exact(hK i d).imp .inl id
  ·exact .inl (.inr d),h.b.ext k,h.sdE,h.recE,h.stE,h.ckE,h.wsE,h.ckS,fun l=>by
  rcases hK gs l with j|j
  ·exact h.k.1 j
  ·have:=h.b.lt;omega,h.k.2⟩
theorem StoP.beside(h:StoP wb W g gs gl gx rate m ws sd c s u cnt B C sure P K)(k: ∀i,K' i->K i):StoP wb W g gs gl gx rate m ws sd c s u cnt B C sure P K':=
 ⟨h.i.beside fun i d=>d.imp (k i) id,h.b,h.sdE,h.recE,h.stE,h.ckE,h.wsE,h.ckS,fun j=>h.k.1 (k gs j),h.k.2⟩
theorem StoP.sideM(h:StoP wb W g gs gl gx rate m ws sd c s u cnt B C sure P K)(r:W.heap.size<=W'.heap.size)(G:Ext wb W')(k: ∀i,i<W.heap.size->¬K i->W'.heap[i]? =W.heap[i]?)(hK: ∀i,K' i->K i\/(W.heap.size<=i/\i<W'.heap.size)):
  StoP wb W' g gs gl gx rate m ws sd c s u cnt B C sure P K':=
 ⟨h.i.sideM r G (fun i d o=>k i d fun e=>o (.inl e)) fun i d=>by
  rcases d with d|d
  ·exact(hK i d).imp .inl id
  ·exact .inl (.inr d),h.b.same (k gs h.b.lt h.k.1),h.sdE,h.recE,h.stE,h.ckE,h.wsE,h.ckS,fun l=>by
  rcases hK gs l with j|j
  ·exact h.k.1 j
  ·have:=h.b.lt;omega,h.k.2⟩
theorem StoP.mono(h:StoP wb W g gs gl gx rate m ws sd c s u cnt B C sure P K){u' cnt':Nat}(d:u<=u')(hc:cnt<=cnt'):StoP wb W g gs gl gx rate m ws sd c s u' cnt' B C sure P K:=
 ⟨h.i.mono d hc,h.b,h.sdE,h.recE,h.stE,h.ckE,h.wsE,h.ckS,h.k⟩
theorem StoP.stay(h:StoP wb W g gs gl gx rate m ws sd c s u cnt B C sure P K){d:Int}{j:Nat->Prop}(G:IXG wb W' g gx gl rate m ws c s u cnt B C d (fun i=>j i\/i=gs))(J:Stay (fun i=>K i\/i=gs) W W')(I: ∀i,j i->K i\/W.heap.size<=i)(o:sure<=d:=by exact Int.le_refl _):StoP wb W' g gs gl gx rate m ws sd c s u cnt B C d P j:=
 ⟨G,h.b.same (J gs (.inr rfl)),h.sdE,h.recE,h.stE,h.ckE,h.wsE,Int.le_trans h.ckS o,fun l=>by
  rcases I gs l with r|r
  ·exact h.k.1 r
  ·have:=h.b.lt;omega,h.k.2⟩
theorem StoP.cells(h:StoP wb W g gs gl gx rate m ws sd c s u cnt B C sure P K):W.cell? ⟨gs,0,none⟩=some (.pointer (some ⟨gl,0,none⟩))/\W.cell? ⟨gs,1,none⟩=some (.pointer (some ⟨gx,0,none⟩))/\W.cell? ⟨gs,2,none⟩=some (.int .u64 sd):=⟨h.b.cell 0,h.b.cell 1,h.b.cell 2⟩
theorem StoP.okB(h:StoP wb W g gs gl gx rate m ws sd c s u cnt B C sure P K):okM B:=h.i.okB.1
theorem StoP.len(h:StoP wb W g gs gl gx rate m ws sd c s u cnt B C sure P K):B.length<=(tos (q1f P)).length:=h.stE.len h.okB.sort
theorem q4N(P:Pbs):(z2l P).length=P.length:=List.length_map _
theorem StoP.posLt(h:StoP wb W g gs gl gx rate m ws sd c s u cnt B C sure P K)(b:y∈P):(y.1,btB y.2)∈q0f 0 C:=by rw[h.recE];exact List.mem_map.2 ⟨y,b,rfl⟩
end
section
variable {wb w W W':World}{g gl gs gx rate:Nat}{m:Man}{ws:List En}{c s sd:Int}{u cnt:Nat}{B:List En}{C:Cks}{P:Pbs}{sure:Int}{K K':Nat->Prop}
theorem StoP.poke(h:StoP wb W g gs gl gx rate m ws sd c s u cnt B C sure P K)(hq:K q)(b:wb.heap.size<=q)(j:Nat)(v:Value):StoP wb (W.setCell ⟨q,j,none⟩ v) g gs gl gx rate m ws sd c s u cnt B C sure P K:=
 h.sideM (by rw[World.size_setCell];exact ι _) (Below.setCell h.base b _) (fun i d l=>q0K _ _ fun e=>l (e▸hq)) fun i d=> .inl d
theorem Stay.poke{K:Nat->Prop}{w W:World}(h:Stay K w W)(hq:¬K q)(j:Nat)(v:Value):Stay K w (W.setCell ⟨q,j,none⟩ v):=fun i b=>(q0K _ _ fun e=>hq (by rw[<-e];exact b)).trans (h i b)
def z3e(r:Option To):Value:=match r with
 |some t=> .tuple #[toV t,.bool true,.int .i64 0]
 |none=> .tuple #[toV to0,.bool false,.int .i64 0]
theorem y0h{e:Ev}(h:y0F e):(evB e).length<=228:=by
 obtain⟨_,b,d⟩:=q2c h.1;unfold evB;rw[q2r (by omega),q2r (by omega)];simp[q0H];omega
theorem z3a : ∀{L:List Ev},(∀e∈L,y0F e)->((L.map evB).flatten).length<=228*L.length
 |[],_=>ι _
 | e::L,h=>by
  have d:=y0h (h e (.head _));have i:=z3a (L:=L) fun x b=>h x (.tail _ b)
  rw[List.map_cons,List.flatten_cons,θ,χ];omega
theorem z5u{b:Bt}(h:z5g b):(btB b).length<=2000:=by
 obtain⟨j,l,o,r,G,I,d⟩:=q1B h.1;have i:=z3a (L:=b.ev) fun e he=>⟨q5o d e he,h.2 e he⟩
 unfold btB;rw[q2r (by omega),θ,θ,θ,θ,q0H,q0H,q0H];omega
theorem StoP.ent(h:StoP wb W g gs gl gx rate m ws sd c s u cnt B C sure P K)(r:x∈B)(d:List UInt8):
  ∃ (b:Bt) (k pos:Nat),z5g b/\q5y C (pos:Int)=(btB b,0)/\pos<=819200/\k<b.ev.length/\x=(q2g sd b.st,(b.fi:Int)+(k:Int),(pos:Int))/\
   q2V P d x=if b.st=d then some ⟨d,((b.fi+k:Nat):Int),b.ev.getD k ev0⟩ else none:=by
 obtain⟨y,j,k,l,rfl⟩:=mem_entsP.1 ((h.stE.ents x).1 r);have o:=h.posLt j;exact⟨y.2,k,y.1,h.stE.ok.each (List.mem_map.2 ⟨y,j,rfl⟩),z7W h.i.cOk o,z9a h.i.cOk o,l,rfl,q5r h.stE.pos j l d⟩
theorem y3g{W:World}{t:TypeId}{a b c d e:Value}(h:Blk W q t #[a,b,c,d,e])(i j l o:Value):
  (W.cell? ⟨q,0,none⟩=some a/\W.cell? ⟨q,1,none⟩=some b/\W.cell? ⟨q,2,none⟩=some c/\W.cell? ⟨q,3,none⟩=some d/\W.cell? ⟨q,4,none⟩=some e)/\
  (W.frozen? ⟨q,0,none⟩=false/\W.frozen? ⟨q,1,none⟩=false/\W.frozen? ⟨q,2,none⟩=false/\W.frozen? ⟨q,3,none⟩=false/\W.frozen? ⟨q,4,none⟩=false)/\
  (((W.setCell ⟨q,0,none⟩ i).setCell ⟨q,1,none⟩ j).frozen? ⟨q,2,none⟩=false/\((W.setCell ⟨q,0,none⟩ i).setCell ⟨q,1,none⟩ j).cell? ⟨q,2,none⟩=some c)/\
  ((((W.setCell ⟨q,0,none⟩ i).setCell ⟨q,1,none⟩ j).setCell ⟨q,2,none⟩ l).frozen? ⟨q,3,none⟩=false/\(((W.setCell ⟨q,0,none⟩ i).setCell ⟨q,1,none⟩ j).setCell ⟨q,2,none⟩ l).cell? ⟨q,3,none⟩=some d)/\
  (((((W.setCell ⟨q,0,none⟩ i).setCell ⟨q,1,none⟩ j).setCell ⟨q,2,none⟩ l).setCell ⟨q,3,none⟩ o).frozen? ⟨q,4,none⟩=false/\((((W.setCell ⟨q,0,none⟩ i).setCell ⟨q,1,none⟩ j).setCell ⟨q,2,none⟩ l).setCell ⟨q,3,none⟩ o).cell? ⟨q,4,none⟩=some e):=by
 have r:=(h.set 0 i).set 1 j;have G:=r.set 2 l;have I:=G.set 3 o;exact⟨⟨h.cell 0,h.cell 1,h.cell 2,h.cell 3,h.cell 4⟩,⟨h.free 0,h.free 1,h.free 2,h.free 3,h.free 4⟩,⟨r.free 2,r.cell 2⟩,⟨G.free 3,G.cell 3⟩,⟨I.free 4,I.cell 4⟩⟩
theorem y0j(h:StoP wb w g gs gl gx rate m ws sd c s u cnt B C sure P K)(hx:x∈B)(O:List UInt8)(hs:O.length<=4611686018427387903):
  Calls Tryz.prog 113 #[.pointer (some ⟨gs,0,none⟩),enV x,.string ⟨O.toArray⟩] w fun e w'=>e= .returned (z3e (q2V P O x))/\StoP wb w' g gs gl gx rate m ws sd c s u cnt B C sure P K/\Stay K w w':=by
 obtain⟨b,k,pos,hb,i0,D0,hk,rfl,hf⟩:=h.ent hx O;have h0:=z6k b hb;have B0:=z5u hb;obtain⟨q1,q2,q3,q4,q5,q6,q7⟩:=q1B hb.1;rw[hf];show Calls _ _ #[_,.agg #[.int .u64 (q2g sd b.st),.int .i64 ((b.fi:Int)+(k:Int)),.int .i64 (pos:Int)],_] _ _;generalize q2g sd b.st=xh;obtain⟨p,hp⟩: ∃p,btB b=p:=⟨_,rfl⟩
 rw[hp] at i0 h0 B0;have HG:=η (fun W=>z9w p W (by omega));rw[h0] at HG;have j0:=q0B w (.cells #[.int .u64 xh,.int .i64 ((b.fi:Int)+(k:Int)),.int .i64 (pos:Int)] 165);have S:=q0B (w.alloc (.cells #[.int .u64 xh,.int .i64 ((b.fi:Int)+(k:Int)),.int .i64 (pos:Int)] 165)) (.cells #[.string ⟨#[]⟩,.int .i64 0,.string ⟨#[]⟩,.string ⟨#[]⟩,.float .f64 0] 69);have M:=(Blk.new w 165 #[.int .u64 xh,.int .i64 ((b.fi:Int)+(k:Int)),.int .i64 (pos:Int)]).ext S;have e0:=Blk.new (w.alloc (.cells #[.int .u64 xh,.int .i64 ((b.fi:Int)+(k:Int)),.int .i64 (pos:Int)] 165)) 69 #[.string ⟨#[]⟩,.int .i64 0,.string ⟨#[]⟩,.string ⟨#[]⟩,.float .f64 0];rw[ρ] at e0;have A0:=h.base.size;have H0:=h.more (K':=fun i=>K i\/i=w.heap.size\/i=w.heap.size+1) (j0.trans S) fun i r=>r.imp id fun e=>by
  rw[ρ,ρ];omega
 have r0:=h.kExt (j0.trans S);have u0:¬K (w.heap.size+1):=fun e=>by have:=h.klt _ e;omega
 have HR:=η (fun W k=>(H0.grow (W':=W) k).i.read (pos:Int) (by omega) (by omega) i0);have k0:=M.cell 0;have k1:=M.cell 1;have k2:=M.cell 2;obtain⟨s0,s1,s2⟩:=H0.cells;have HH:=η H0;have p0:=η r0;have l0:=η M;have n0:=η e0;have J:=η u0;have I:Hd (wb.heap.size<=w.heap.size+1):=η (by omega);clear h hx hf hb h0 j0 S H0 r0 M e0 u0 A0 i0;go_enter Tryz.func113,Tryz.ntmps113;go_wp2_with fail;have d0:=q0A (Ext.refl _).drew s0;have d2:=q0A (Ext.refl _).drew k2
 go_region_held3 (fun W=>W.cell? ⟨gs,0,none⟩=some (.pointer (some ⟨gl,0,none⟩))/\W.cell? ⟨w.heap.size,2,none⟩=some (.int .i64 (pos:Int)))
  (first|exact o0.o|exact⟨d0,d2⟩)
  (first|(go_at_call 181;refine(HR.o _ (Ext.refl _).drew).mono ?_;rintro e w3 ⟨rfl,r,N⟩;have Q:=η ((HH.o.grow (Ext.refl _).drew).stay r N fun i r=> .inl r);have q0:=η (p0.o.trans fun i r=>N i (.inl (.inl r)));have G:=η ((l0.o.ext (Ext.refl _).drew).same (N _ (.inl (.inr (.inl rfl)))));have U:=η ((n0.o.ext (Ext.refl _).drew).same (N _ (.inl (.inr (.inr rfl)))));have o0:=η (And.intro Q.o.cells.1 (G.o.cell 2));clear r N))
 clear o0 d0 d2;clear HR HH p0 l0 n0 k0 k1 k2 s0 s1 s2;generalize w.heap.size=q at*;go_wp2_with fail;refine(HG.o _).mono ?_;rintro e w4 ⟨⟨y,rfl,hy⟩,hx⟩;obtain⟨x,rfl,d⟩:=hy;obtain⟨ao,cp,rfl,j⟩:=Evs.of_own d;have t0:=j.fits;have E0:=j.bound;obtain⟨st,fi,ev⟩:=b;simp only at hk q1 q2 q3 q4 q5 q6 j t0 d⊢;obtain⟨n,hn⟩: ∃n,ev.length=n:=⟨_,rfl⟩
 rw[hn] at hk q4 q6 j t0 d⊢;have l:=q0B w4 (.cells #[.string ⟨st.toArray⟩,.int .i64 (fi:Int),.slice ao n cp] 160);have R:=Blk.new w4 160 #[.string ⟨st.toArray⟩,.int .i64 (fi:Int),.slice ao n cp];have x0:=η (Q.o.grow (hx.trans l));have y0:=η (q0.o.trans fun i r=>Q.o.kExt (hx.trans l) i (.inl r));have m0:=η (G.o.ext (hx.trans l));have V:=η (U.o.ext (hx.trans l));have X:=j.ext l;have k1:=m0.o.cell 1;have b0:=R.cell 0;have b1:=R.cell 1;have b2:=R.cell 2;have qi:IntKind.i64.wrap ((fi:Int)+(k:Int)-(fi:Int))=(k:Int):=by rw[ν];omega
 have F0:decide ((k:Int)<0)=false:=ε (by omega);have G0:decide ((n:Int)<=(k:Int))=false:=ε (by omega);have J0:(k:Int)<(n:Int):=by omega
 have I0:0<=(k:Int):=by omega
 have K0:=q4I;obtain⟨bb,off,rfl,c0,c1,c2⟩:=X.at hk;obtain⟨ee,g0⟩: ∃ee,ev.getD k ev0=ee:=⟨_,rfl⟩
 rw[g0] at c0 c1 c2;obtain⟨ty,da,we⟩:=ee;have v0:Hd (∀h:k<ev.length,ev[k]=⟨ty,da,we⟩):=η fun h=>by rw[<-g0,δ,γ h];rfl
 simp only at c0 c1 c2⊢;have Y: ∀(W:World),W=w4.alloc (.cells #[.string ⟨st.toArray⟩,.int .i64 (fi:Int),.slice (some ⟨bb,off,none⟩) n cp] 160)-> ∀a0 a1 a2 a3 a4:Value,
   StoP wb (((((W.setCell ⟨q+1,0,none⟩ a0).setCell ⟨q+1,1,none⟩ a1).setCell ⟨q+1,2,none⟩ a2).setCell ⟨q+1,3,none⟩ a3).setCell ⟨q+1,4,none⟩ a4) g gs gl gx rate m ws sd c s u cnt B C sure P K/\
    Stay K w (((((W.setCell ⟨q+1,0,none⟩ a0).setCell ⟨q+1,1,none⟩ a1).setCell ⟨q+1,2,none⟩ a2).setCell ⟨q+1,3,none⟩ a3).setCell ⟨q+1,4,none⟩ a4):=fun W hW a0 a1 a2 a3 a4=>by
  subst hW;have e: ∀i:Nat,(fun i=>K i\/i=q\/i=q+1) (q+1):=fun _=> .inr (.inr rfl)
  exact⟨(((((x0.o.poke (e 0) I.o 0 a0).poke (e 0) I.o 1 a1).poke (e 0) I.o 2 a2).poke (e 0) I.o 3 a3).poke (e 0) I.o 4 a4).beside fun i r=> .inl r,
   ((((y0.o.poke J.o 0 a0).poke J.o 1 a1).poke J.o 2 a2).poke J.o 3 a3).poke J.o 4 a4⟩
 have HF:=η Y;clear g0 hx l d j X R Y HG q0 Q G U q7;by_cases C0:st=O
 ·subst C0
  obtain⟨⟨z0,z1,z2,z3,z4⟩,⟨f0,f1,f2,f3,f4⟩,⟨g2,d2⟩,⟨g3,d3⟩,⟨g4,d4⟩⟩:=y3g V.o (.string ⟨st.toArray⟩) (.int .i64 ((fi:Int)+(k:Int))) (.string ⟨ty.toArray⟩) (.string ⟨da.toArray⟩);go_wp2_with fail;refine z0W 9 (by kernel_rfl) (by kernel_rfl) ?_;simp only[List.take_succ_cons,List.take_zero,List.drop_succ_cons,List.drop_zero]
  repeat still_step
  refine wpStill_nil ?_;go_wp2_with fail
  ((try simp only[Exit.inBlock,Exit.then]);refine bodyPost_ret (v:= .tuple #[.agg #[.string ⟨st.toArray⟩,.int .i64 ((fi:Int)+(k:Int)),.string ⟨ty.toArray⟩,.string ⟨da.toArray⟩,.float .f64 we],.bool true,.int .i64 0]) (by rw[q0T rfl];go_simp) rfl ?_)
  obtain⟨r1,r2⟩:=HF.o _ rfl (.string ⟨st.toArray⟩) (.int .i64 ((fi:Int)+(k:Int))) (.string ⟨ty.toArray⟩) (.string ⟨da.toArray⟩) (.float .f64 we);exact⟨by rw[v0.o];rfl,r1.grow (Ext.refl _).drew,r2⟩
 ·obtain⟨⟨z0,z1,z2,z3,z4⟩,⟨f0,f1,f2,f3,f4⟩,⟨g2,d2⟩,⟨g3,d3⟩,⟨g4,d4⟩⟩:=y3g V.o (.string ⟨#[]⟩) (.int .i64 0) (.string ⟨#[]⟩) (.string ⟨#[]⟩)
  go_wp2_with fail
  ((try simp only[Exit.inBlock,Exit.then]);refine bodyPost_ret (v:= .tuple #[.agg #[.string ⟨#[]⟩,.int .i64 0,.string ⟨#[]⟩,.string ⟨#[]⟩,.float .f64 0],.bool false,.int .i64 0]) (by rw[q0T rfl];go_simp) rfl ?_)
  exact⟨rfl,HF.o _ rfl _ _ _ _ _⟩
end
section
variable {wb w W W1 W2:World}{g gl gs gx rate:Nat}{m:Man}{ws:List En}{c s sd:Int}{u cnt:Nat}{B:List En}{C:Cks}{P:Pbs}{sure:Int}{K K':Nat->Prop}
theorem StoP.row1{n1 R base:Nat}{d l:Value}{Y M:List Value}{o:Obj}{ti:TypeId}(h:StoP wb W g gs gl gx rate m ws sd c s u cnt B C sure P (fun i=>K i\/d.ownBlock=some i))(hb:wb.heap.size<=base)(hq:W.ownsRow base ti R d n Y)
  (S:W2.ownsRow base ti R l n1 M)(r:(W.alloc o).grownBy W2 d.ownBlock)(N:l.ownBlock=d.ownBlock\/l.ownBlock=some (W.alloc o).heap.size)(Q: ∀i,K i->d.ownBlock≠some i):
  StoP wb W2 g gs gl gx rate m ws sd c s u cnt B C sure P (fun i=>K i\/l.ownBlock=some i)/\Stay K W W2/\ ∀i,K i->l.ownBlock≠some i:=by
 have X:=r.size;rw[ρ] at X;have I: ∀i,d.ownBlock=some i->base<=i/\i<W.heap.size:=q0l hq;have O: ∀i,i<W.heap.size->d.ownBlock≠some i->W2.heap[i]? =W.heap[i]? :=fun i b G=>(r.block i (by rw[ρ];omega) fun e=>G e.symm).trans ((q0B W o).block i b)
 have j:=h.base;have J:Ext wb W2:=Below.grown (j.alloc o) r (by rw[ρ];have:=j.size;omega) fun k U=>by have:=(I k U).1;omega
 refine⟨h.sideM (by omega) J (fun i b G=>O i b fun e=>G (.inr e)) fun i b=>?_,fun i b=>O i (h.klt i (.inl b)) (Q i b),fun i b e=>?_⟩
 ·rcases b with b|b
  ·exact .inl (.inl b)
  ·rcases N with k|k
   ·exact .inl (.inr (k.symm.trans b))
   ·have V:=(q0l S i b).2
    rw[k,ρ] at b
    cases b
    right;omega
 ·rcases N with k|k
  ·exact Q i b (k.symm.trans e)
  ·rw[k,ρ] at e
   cases e;have:=h.klt _ (.inl b);omega
theorem q7N(h :StoP wb w g gs gl gx rate m ws sd c s u cnt B C sure P K)(d:List UInt8)(hs:d.length<=4611686018427387903)(fr tt:Int)(hl:B.length<=10000){R:List To}
  (hR:(q5Y (q1f P) d).filter (fun t=>decide (max fr 0<=t.v/\t.v<=min tt 1073741824))=R):
  Calls Tryz.prog 65 #[.pointer (some ⟨gs,0,none⟩),.string ⟨d.toArray⟩,.int .i64 fr,.int .i64 tt] w fun e w'=>
   ∃v,e= .returned (.tuple #[v,.int .i64 0])/\StoP wb w' g gs gl gx rate m ws sd c s u cnt B C sure P (fun i=>K i\/v.ownBlock=some i)/\Stay K w w'/\w'.ownsRow wb.heap.size 69 5 v R.length (q5B R)/\ ∀i,K i->v.ownBlock≠some i:=by
 have I0:=h.stE.between h.okB.sort d (max fr 0) (min tt 1073741824);rw[hR] at I0;have T0:(q0u B (q2g sd d) (max fr 0) (min tt 1073741824)).length<=10000:=Ω (List.length_filter_le _ _) hl;have l0: ∀x∈q0u B (q2g sd d) (max fr 0) (min tt 1073741824),x∈B:=fun x hx=>(mem_range.1 hx).1
 have z0:=η (fun W=>z3i sd d W hs);have C0:=η (fun W (k:Ext w W)=>(h.grow (W':=W) k).i.range (q2g sd d) fr tt hl);obtain⟨s0,s1,s2⟩:=h.cells;have HH:=η h;have X0:=h.base.size;have S0: ∀x∈q0u B (q2g sd d) (max fr 0) (min tt 1073741824),x∈B:=l0;generalize q0u B (q2g sd d) (max fr 0) (min tt 1073741824)=L at*;generalize q2g sd d=hh at*;have d1:=q0A (Ext.refl _).drew s1;have d2:=q0A (Ext.refl _).drew s2;clear h hR s0 s1 s2;go_enter Tryz.func65,Tryz.ntmps65;go_wp2_with fail
 go_region_held3 (fun W=>W.cell? ⟨gs,1,none⟩=some (.pointer (some ⟨gx,0,none⟩))/\W.cell? ⟨gs,2,none⟩=some (.int .u64 sd))
  (first|exact y0.o|exact⟨d1,d2⟩)
  (first
   |(go_at_call 89;refine(z0.o _).mono ?_;rintro e wa ⟨rfl,rfl⟩)
   |(go_at_call 112;refine(C0.o _ (Ext.refl _).drew).mono ?_;rintro e w3 ⟨v,rfl,j,M,l⟩;have h0:=η l;have A0:=η j;have n0:=η M;have y0:=η (And.intro (((HH.o.grow (Ext.refl _).drew).b.same (M _ (.inr rfl))).cell 1) (((HH.o.grow (Ext.refl _).drew).b.same (M _ (.inr rfl))).cell 2));clear j M l))
 all_goals
  clear y0 d1 d2 z0 C0;have l:=h0.o;obtain⟨ao,cp,rfl⟩:=q0G l
  have M0:Hd (StoP wb w3 g gs gl gx rate m ws sd c s u cnt B C sure P (fun i=>(K i\/(Value.slice ao L.length cp).ownBlock=some i)\/(Value.slice none 0 0).ownBlock=some i)):=η ((HH.o.grow (Ext.refl _).drew).stay (A0.o.beside fun i j=>by
   rcases j with((j|j)|j)|j
   ·exact .inl (.inl j)
   ·exact .inr j
   ·cases j
   ·exact .inl (.inr j)) n0.o fun i j=>by
   rcases j with(j|j)|j
   ·exact .inl j
   ·exact .inr (q0l l i j).1
   ·cases j)
  have E0:Hd (Stay K w w3):=η fun i j=>n0.o i (.inl j)
  have U0:Hd (∀i,K i->(Value.slice ao L.length cp).ownBlock≠some i):=η fun i j e=>by
   have h1:=HH.o.klt i j;have h2:w.heap.size<=i:=(q0l l i e).1;omega
  have Q0:=l;have B0:Hd (L.length<=cp/\cp<=9223372036854775807):=η (by obtain⟨_,_,h1,h2⟩:=Ens.of_own (Own.of_row l);cases h1;exact⟨h2.fits,h2.bound⟩);have b1:=B0.o.1;have b2:=B0.o.2;clear l Q0 A0 n0;go_wp2_with fail
  go_loopw [12,39] (fun o i W=> ∃(k:Nat) (v:Value),k<=L.length/\o=v/\i= .int .i64 (k:Int)/\W.ownsRow wb.heap.size 69 5 v ((L.take k).filterMap (q2V P d)).length (q5B ((L.take k).filterMap (q2V P d)))/\
   StoP wb W g gs gl gx rate m ws sd c s u cnt B C sure P (fun i=>(K i\/(Value.slice ao L.length cp).ownBlock=some i)\/v.ownBlock=some i)/\Stay K w W/\W.ownsRow w.heap.size 165 3 (.slice ao L.length cp) L.length (ecs L)/\ ∀i,(K i\/(Value.slice ao L.length cp).ownBlock=some i)->v.ownBlock≠some i) (fun _ i _=>L.length-(intOf i).toNat)
  case atStart=>exact⟨0,_,υ _,rfl,rfl,World.ownsRow_nil _ _ _ _,M0.o,E0.o,h0.o,fun i _ e=>by cases e⟩
  case round =>
   obtain⟨k,v,hk,rfl,rfl,f0,M,r0,e0,p0⟩:=hrel;have a0:=η f0;have b0:=η M;have o0:=η r0;have D0:=η e0;have S:=η p0;obtain⟨oa,oc,rfl⟩:=q0G f0;by_cases Y:k<L.length
   ·have hd:decide ((k:Int)<(L.length:Int))=true:=ζ (by omega)
    have q8:IntKind.i64.wrap ((k:Int)+1)=(k:Int)+1:=by rw[ν];omega
    have V0:(k:Int)<(L.length:Int):=by omega
    obtain⟨_,_,P0,j0⟩:=Ens.of_own (Own.of_row e0)
    cases P0;obtain⟨bb,off,rfl,c0,c1,c2⟩:=j0.at Y;have u0:L.take (k+1)=L.take k++[L.getD k en0]:=by rw[List.take_succ_eq_append_getElem Y,δ,γ Y];rfl
    have x0:=l0 (L.getD k en0) (by rw[δ,γ Y];exact List.getElem_mem Y);obtain⟨x,hx⟩: ∃x,L.getD k en0=x:=⟨_,rfl⟩
    rw[hx] at c0 c1 c2 u0 x0
    have d0:Hd ((L.take (k+1)).filterMap (q2V P d)=(L.take k).filterMap (q2V P d)++(q2V P d x).toList):=η (by
     rw[u0,List.filterMap_append];congr 1)
    have m0:Hd (((L.take k).filterMap (q2V P d)).length<=10000):=η (Ω (List.length_filterMap_le _ _) (by rw[Θ];omega));obtain⟨x1,x2,x3⟩:=x;simp only at c0 c1 c2;have v0:=q0B wr (.cells #[.int .u64 x1,.int .i64 x2,.int .i64 x3] 165);have I:=Blk.new wr 165 #[.int .u64 x1,.int .i64 x2,.int .i64 x3];have k0:=I.cell 0;have k1:=I.cell 1;have k2:=I.cell 2;have HF:Hd (Calls Tryz.prog 113 #[.pointer (some ⟨gs,0,none⟩),.agg #[.int .u64 x1,.int .i64 x2,.int .i64 x3],.string ⟨d.toArray⟩] (wr.alloc (.cells #[.int .u64 x1,.int .i64 x2,.int .i64 x3] 165)) fun e w'=>e= .returned (z3e (q2V P d (x1,x2,x3)))/\StoP wb w' g gs gl gx rate m ws sd c s u cnt B C sure P (fun i=>(K i\/(Value.slice (some ⟨bb,off,none⟩) L.length cp).ownBlock=some i)\/(Value.slice oa ((L.take k).filterMap (q2V P d)).length oc).ownBlock=some i)/\Stay (fun i=>(K i\/(Value.slice (some ⟨bb,off,none⟩) L.length cp).ownBlock=some i)\/(Value.slice oa ((L.take k).filterMap (q2V P d)).length oc).ownBlock=some i) (wr.alloc (.cells #[.int .u64 x1,.int .i64 x2,.int .i64 x3] 165)) w'):=
     η (y0j (M.grow v0) x0 d hs)
    clear f0 M r0 e0 p0 j0 I u0 x0 hx;go_wp2_with fail;refine HF.o.mono ?_;rintro e w5 ⟨rfl,J0,K0⟩;have Q:Stay (fun i=>(K i\/(Value.slice (some ⟨bb,off,none⟩) L.length cp).ownBlock=some i)\/(Value.slice oa ((L.take k).filterMap (q2V P d)).length oc).ownBlock=some i) wr w5:=(b0.o.kExt v0).trans K0;have N:=η (q0z a0.o fun i j=>Q i (.inr j));have g0:=η (q0z D0.o fun i j=>Q i (.inl (.inr j)));have i0:=η (o0.o.trans fun i j=>Q i (.inl (.inl j)));have G:=η J0;clear J0 K0 Q HF v0 b0 a0 D0 o0 k0 k1 k2 c0 c1 c2;obtain⟨OL,G0⟩: ∃OL,(L.take k).filterMap (q2V P d)=OL:=⟨_,rfl⟩
    rw[G0] at N G d0 m0 S⊢;obtain⟨no,q0⟩: ∃no,OL.length=no:=⟨_,rfl⟩
    rw[q0] at N G m0 S⊢;have W0:=m0.o;clear G0;obtain⟨r,hr⟩: ∃r,q2V P d (x1,x2,x3)=r:=⟨_,rfl⟩
    rw[hr] at d0⊢;clear hr
    cases r with
    | none=>
     have U:=q0B w5 (.cells #[.string ⟨#[]⟩,.int .i64 0,.string ⟨#[]⟩,.string ⟨#[]⟩,.float .f64 0] 69);have J:=η U;rw[show z3e none= .tuple #[.agg #[.string ⟨#[]⟩,.int .i64 0,.string ⟨#[]⟩,.string ⟨#[]⟩,.float .f64 0],.bool false,.int .i64 0] from rfl];clear U;have R0:=q4I;go_wp2_with fail
     go_roundw
     case rel=>
      refine⟨k+1,_,by omega,rfl,by go_num,?_,G.o.grow J.o,i0.o.trans fun i j=>G.o.kExt J.o i (.inl (.inl j)),q0O g0.o J.o,S.o⟩;rw[d0.o,show(none:Option To).toList=[] from rfl,List.append_nil,q0];exact q0O N.o J.o
     case measure=>simp[intOf];omega
    | some t=>
     obtain⟨ts,V,⟨ty,da,we⟩⟩:=t;have U:=q0B w5 (.cells #[.string ⟨ts.toArray⟩,.int .i64 V,.string ⟨ty.toArray⟩,.string ⟨da.toArray⟩,.float .f64 we] 69);have I:=Blk.new w5 69 #[.string ⟨ts.toArray⟩,.int .i64 V,.string ⟨ty.toArray⟩,.string ⟨da.toArray⟩,.float .f64 we];have t0:=I.cell 0;have t1:=I.cell 1;have t2:=I.cell 2;have t3:=I.cell 3;have t4:=I.cell 4;have J:=η U;rw[show z3e (some ⟨ts,V,⟨ty,da,we⟩⟩)= .tuple #[.agg #[.string ⟨ts.toArray⟩,.int .i64 V,.string ⟨ty.toArray⟩,.string ⟨da.toArray⟩,.float .f64 we],.bool true,.int .i64 0] from rfl];have F0:=η (G.o.grow U);have L0:Hd (wb.heap.size<=w5.heap.size):=η G.o.base.size
     have O0:Hd (Rd ((w5.alloc (.cells #[.string ⟨ts.toArray⟩,.int .i64 V,.string ⟨ty.toArray⟩,.string ⟨da.toArray⟩,.float .f64 we] 69)).alloc (.cells #[.string ⟨ts.toArray⟩,.int .i64 V,.string ⟨ty.toArray⟩,.string ⟨da.toArray⟩,.float .f64 we] 69)) (some ⟨w5.heap.size+1,0,none⟩) (toc ⟨ts,V,⟨ty,da,we⟩⟩)):=η (by
      have h:=Rd.lit (w5.alloc (.cells #[.string ⟨ts.toArray⟩,.int .i64 V,.string ⟨ty.toArray⟩,.string ⟨da.toArray⟩,.float .f64 we] 69)) #[.string ⟨ts.toArray⟩,.int .i64 V,.string ⟨ty.toArray⟩,.string ⟨da.toArray⟩,.float .f64 we] 69;rw[ρ] at h
      exact h)
     have R0:=q4I;clear U I
     go_wp2_with (at_builtin;refine q0R rfl _ _ 36 rfl wb.heap.size 69 _ 5 64 Tryz.underlying36 Tryz.infoTo (by decide) (by decide) _ no (q5B OL) rfl (q0O (q0O N.o J.o) (q0B _ _)) _ 1 1 (toc ⟨ts,V,⟨ty,da,we⟩⟩) rfl rfl (fun h=>by cases h) O0.o (by unfold toc;simp[Value.oneCell']) (by unfold maxLen;omega) (by omega) (by have:=L0.o;simp;omega) ?_;intro v2 w8 O X H0;obtain⟨a2,k2,rfl⟩:=q0G O;have HO:=η O;have N0:=η (StoP.row1 F0.o (ι _) (q0O N.o J.o) O X H0 S.o);clear O X H0)
     go_roundw
     case rel=>
      obtain⟨r1,r2,r3⟩:=N0.o;refine⟨k+1,_,by omega,rfl,by go_num,?_,r1,?_,?_,r3⟩
      ·rw[d0.o,show(some (⟨ts,V,⟨ty,da,we⟩⟩:To)).toList=[⟨ts,V,⟨ty,da,we⟩⟩] from rfl,z7u,θ,q0]
       exact HO.o
      ·exact(i0.o.trans fun i j=>G.o.kExt J.o i (.inl (.inl j))).trans fun i j=>r2 i (.inl j)
      ·exact q0z (q0O g0.o J.o) fun i j=>r2 i (.inr j)
     case measure=>simp[intOf];omega
   ·obtain rfl:k=L.length:=by omega
    have hd:decide ((L.length:Int)<(L.length:Int))=false:=ε (by omega);have e9:(L.take L.length).filterMap (q2V P d)=R:=by rw[List.take_length];exact I0
    clear f0 M r0 e0 p0;rw[e9] at a0 b0 S⊢;go_wp2_with fail;go_ret2;exact⟨_,rfl,b0.o.beside fun i j=>j.imp .inl id,o0.o,a0.o,fun i j=>S.o i (.inl j)⟩
end
section
variable {wb w W W1 W2:World}{g gl gs gx rate:Nat}{m:Man}{ws:List En}{c s sd:Int}{u cnt:Nat}{B:List En}{C:Cks}{P:Pbs}{sure:Int}{K K':Nat->Prop}
theorem z0K(h:Blk W gs 131 #[.pointer (some ⟨gl,0,none⟩),.pointer (some ⟨gx,0,none⟩),.int .u64 sd]):Calls Tryz.prog 61 #[.pointer (some ⟨gs,0,none⟩)] W fun e w'=>e= .returned (.bool false)/\W=w':=by
 have b:=h.cell 0;clear h;go_enter Tryz.func61,Tryz.ntmps61;go_wp2_with fail;go_ret;exact⟨rfl,rfl⟩
def z2P(bs:List Bt)(str:List UInt8):Int×Int:=if q1n str=true then(((q0N bs str).length:Int)-1,0) else(-1,2)
theorem z7e(h:StoP wb w g gs gl gx rate m ws sd c s u cnt B C sure P K)(d:List UInt8)(hs:d.length<=4611686018427387903)(hl:B.length<=10000)(m0:(q0N (q1f P) d).length<=1073741824){x y:Int}(M:z2P (q1f P) d=(x,y)):
  Calls Tryz.prog 52 #[.pointer (some ⟨gs,0,none⟩),.string ⟨d.toArray⟩] w fun e w'=>e= .returned (.tuple #[.int .i64 x,.int .i64 y])/\StoP wb w' g gs gl gx rate m ws sd c s u cnt B C sure P K/\Stay K w w':=by
 have HN:=η (z0K h.b);have l:=η (z0N d w (by omega));have i0:=η (fun W=>z3i sd d W hs);have HH:=η h;clear h;unfold z2P at M
 cases hstr:q1n d with
 | false=>
  rw[hstr,κ (by decide)] at M;injection M with h1 h2;subst h1 h2;rw[hstr] at l;go_enter Tryz.func52,Tryz.ntmps52;go_wp2_with fail;refine HN.o.mono ?_;rintro e w1 ⟨rfl,rfl⟩;go_wp2_with fail;refine l.o.mono ?_;rintro e w1 ⟨rfl,X⟩;have HX:=η X;clear X;go_wp2_with fail;go_ret2;exact⟨rfl,HH.o.grow HX.o,HH.o.kExt HX.o⟩
 | true =>
  rw[hstr,ξ rfl] at M;rw[hstr] at l;obtain⟨N,hN⟩: ∃N,(q0N (q1f P) d).length=N:=⟨_,rfl⟩
  rw[hN] at M m0;injection M with h1 h2;subst h2;have e0:=η h1;clear h1;have S:=η hN;go_enter Tryz.func52,Tryz.ntmps52;go_wp2_with fail;refine HN.o.mono ?_;rintro e w1 ⟨rfl,rfl⟩;go_wp2_with fail;refine l.o.mono ?_;rintro e w1 ⟨rfl,X⟩;have Y:=η (HH.o.grow X);have j0:=η (HH.o.kExt X);obtain⟨s0,s1,s2⟩:=Y.o.cells;clear X l;go_wp2_with fail;refine(i0.o _).mono ?_;rintro e r0 ⟨rfl,rfl⟩;clear s0 s1 s2;go_wp2_with fail
  go_loopw [7] (fun o W=> ∃v:Int,o= .int .i64 v/\(N:Int)-1<=v/\v<=1073741824/\ -1<=v/\StoP wb W g gs gl gx rate m ws sd c s u cnt B C sure P K/\Stay K w W) (fun o _=>(intOf o+2).toNat)
  case atStart=>exact⟨1073741824,rfl,by omega,by omega,by omega,Y.o,j0.o⟩
  case round=>
   obtain⟨v,rfl,v0,v1,v2,I,f0⟩:=hrel;obtain⟨s0,s1,s2⟩:=I.cells;have h0:=η I;have k0:=η f0;have HL:=η (I.i.last (q2g sd d) v (by omega));have b0:=η (fun r M=>I.stE.last I.okB (s:=d) (u:=v) (r:=r) (by rw[S.o];exact v0) M);rw[show min v 1073741824=v by omega] at HL;clear I f0;go_wp2_with fail;refine HL.o.mono ?_;rintro e w2 ⟨r,rfl,U,J,j⟩;obtain⟨l1,l2,l3,l4,l5⟩:=b0.o r U;rw[S.o] at l1 l4 l5;have q0:r<=v:=by
    rcases U.2 with e|⟨y,hy,_,e1,e2⟩
    ·omega
    ·omega
   have Q:=η (h0.o.stay J j fun i J=> .inl J);have c0:=η (k0.o.trans fun i J=>j i (.inl J));clear J j s0 s1 s2 HL b0 U;by_cases V:r<0
   ·have hd:decide (r<0)=true:=ζ V
    have o0:(N:Int)=0:=by have:=l3 V;rw[<-S.o,this];rfl
    obtain rfl:x= -1:=by have:=e0.o;omega
    go_wp2_with fail
    (try rw[Exit.noGoto_ret])
    go_ret2;exact⟨rfl,Q.o,c0.o⟩
   ·have hd:decide (r<0)=false:=ε V
    have HB:=η (q7N Q.o d hs r r hl rfl);rw[show max r 0=r by omega,show min r 1073741824=r by omega] at HB;have g0:=l4 (by omega);obtain⟨R,hR⟩: ∃R,(q5Y (q1f P) d).filter (fun t=>decide (r<=t.v/\t.v<=r))=R:=⟨_,rfl⟩
    rw[hR] at HB g0 l5;obtain⟨s0,s1,s2⟩:=Q.o.cells;clear l3 l4 hR;go_wp2_with fail;refine HB.o.mono ?_;rintro e w3 ⟨v3,rfl,I,j,O,l0⟩;obtain⟨ra,rc,rfl⟩:=q0G O;have a0:=η (I.beside (K':=K) fun i J=> .inl J);have d0:=η (c0.o.trans j);clear I j O l0 HB s0 s1 s2;by_cases G:R=[]
    ·have h9:=g0 G
     have q9:IntKind.i64.wrap (r-1)=r-1:=by rw[ν];omega
     subst G;go_wp2_with fail
     go_roundw
     case rel=>exact⟨r-1,by go_num,by omega,by omega,by omega,a0.o,d0.o⟩
     case measure=>simp[intOf];omega
    ·have h9:=l5 G
     obtain rfl:r=x:=by have:=e0.o;omega
     have n0:0<R.length:=List.length_pos_iff.2 G;have p0:decide (0<(R.length:Int))=true:=ζ (by omega);go_wp2_with fail
     (try rw[Exit.noGoto_ret])
     go_ret2;exact⟨rfl,a0.o,d0.o⟩
end
section
variable {wb w W W1 W2:World}{g gl gs gx rate:Nat}{m:Man}{ws:List En}{c s sd:Int}{u cnt:Nat}{B:List En}{C:Cks}{P:Pbs}{sure:Int}{K K':Nat->Prop}
end
section
variable {wb w W W1 W2:World}{g gl gs gx rate:Nat}{m:Man}{ws:List En}{c s sd:Int}{u cnt:Nat}{B:List En}{C:Cks}{P:Pbs}{sure:Int}{K K':Nat->Prop}
theorem z2v{C:Cks}{sure:Int}(h:sure<=q2d C):sure<=q0X C sure:=by
 unfold q0X
 split
 ·exact Int.le_refl _
 ·exact h
theorem IXG.sureLe(h:IXG wb W g gx gl rate m ws c s u cnt B C sure K):sure<=q2d C:=by
 obtain⟨st,σ,φ,i,rfl,j,l,o,r,⟨G,d,b⟩,I,J⟩:=h;exact b.le
def z9y(y:Nat×Bt):Int:=(y.1:Int)+((btB y.2).length:Int)+12
theorem StoP.ends(h:StoP wb w g gs gl gx rate m ws sd c s u cnt B C sure P K)(j:y∈P):z9y y<=q2d C/\z9y y<=q0X C sure:=by
 have b:=h.i.cOk;have l:=z8k (q6A C 0 b.size) _ (h.posLt j);have o:=z0q b;have d:z9y y<=q2d C:=by
  unfold z9y;simp only at l;omega
 refine⟨d,?_⟩;unfold q0X
 split
 ·rename_i e
  subst e;have:=h.posLt j
  cases this
 ·exact d
theorem z9g(h:StoP wb w g gs gl gx rate m ws sd c s u cnt B C sure P K):
  Calls Tryz.prog 53 #[.pointer (some ⟨gs,0,none⟩)] w fun e w'=>e= .returned (.int .i64 0)/\StoP wb w' g gs gl gx rate m ws sd c s u cnt B C (q0X C sure) P K/\Stay K w w':=by
 have J:=η (z0K h.b);have G:=η h.i.lflush;obtain⟨M,N,O⟩:=h.cells;have I:=η h;clear h;go_enter Tryz.func53,Tryz.ntmps53;go_wp2_with fail;refine J.o.mono ?_;rintro e w1 ⟨rfl,rfl⟩;go_wp2_with fail;refine G.o.mono ?_;rintro e Q ⟨rfl,j,d⟩;have l:=η (I.o.stay j d (fun i j=> .inl j) (z2v I.o.i.sureLe));have r:Hd (Stay K w Q):=η fun i j=>d i (.inl j)
 clear j d G M N O;go_wp2_with fail;go_ret;exact⟨rfl,l.o,r.o⟩
end
def z4V(bs:List Bt)(str:List UInt8)(ex:Int)(L:List Ev):Int:=
 if q0h str 0 L≠0 then q0h str 0 L else if ex< -2 then 2 else if ex≠ -2/\ex≠((q0N bs str).length:Int)-1 then 80 else 0
theorem q3E(bs:List Bt)(s:List UInt8):(q0N bs s).length<=(tos bs).length:=by
 induction bs using z0J with
 |h0=>exact υ _
 | h1 l b ih=>
  rw[q3K,q5C,z0Q,θ,q4Q]
  split
  ·rw[θ];omega
  ·omega
theorem z0f{b:List UInt8}(h:q0h b 0 L=0)(l:n<=1000000):q0h b (n:Int) L=0:=by
 obtain⟨d,i,o,r,G,I,j⟩:=q1B h;unfold q0h;rw[κ (fun e=>e.elim d i),κ (by omega),κ (by omega)];exact j
section
variable {wb w W W1 W2:World}{g gl gs gx rate:Nat}{m:Man}{ws:List En}{c s sd:Int}{u cnt:Nat}{B:List En}{C:Cks}{P:Pbs}{sure:Int}{K K':Nat->Prop}
theorem StoP.added(h:StoP wb W1 g gs gl gx rate m ws sd c s u cnt B C sure P K){f x:Int}{C':Cks}{b:Bt}(I:z5g b)(O:b.fi=(q0N (q1f P) b.st).length)(hC:C.length<200)(N:q1H f C (btB b)=(x,0,C')):
  ∃ pos:Nat,x=(pos:Int)/\pos<4096*200/\ ∀(W:World) (u' cnt':Nat) (d:Int) (o:Nat->Prop),IXG wb W g gx gl rate m (q1Q (q0i sd pos b b.ev.length) ws) c s u' cnt' (q1Q (q0i sd pos b b.ev.length) B) C' d (fun i=>o i\/i=gs)->
   Blk W gs 131 #[.pointer (some ⟨gl,0,none⟩),.pointer (some ⟨gx,0,none⟩),.int .u64 sd]->¬o gs->m.ck<=d->
   StoP wb W g gs gl gx rate m (q1Q (q0i sd pos b b.ev.length) ws) sd c s u' cnt' (q1Q (q0i sd pos b b.ev.length) B) C' d (P++[(pos,b)]) o:=by
 have j:=h.i.cOk;obtain⟨pos,rfl,J,U,V,X,Y,h6⟩:=z1x j.size (z5u I) N;refine⟨pos,rfl,by omega,fun W u' cnt' d o Q r R G=>⟨Q,r,h.sdE,?_,h.stE.snoc I O fun y S=>?_,?_,fun z l=>?_,G,⟨R,h.k.2⟩⟩⟩
 ·rw[J,h.recE];unfold z2l;rw[List.map_append];rfl
 ·have M:=z8l (q6A C 0 j.size) _ (h.posLt S)
  have h8:=z0q j;simp only at M;omega
 ·have:=h.ckE;omega
 ·rcases mem_addEs.1 l with l|l
  ·unfold q0i at l
   obtain⟨k,_,rfl⟩:=List.mem_map.1 l;show m.ck<=(pos:Int);have:=h.ckE;omega
  ·exact h.wsE z l
def y3D(wb w:World)(g gs gl gx rate:Nat)(m:Man)(ws:List En)(sd c s:Int)(u cnt:Nat)(B:List En)(C:Cks)(sure:Int)(P:Pbs)(K:Nat->Prop)(str:List UInt8)(L:List Ev)(z:Int)(e:Ending)(w':World):Prop:=
 ((z ≠0/\e= .returned (.tuple #[.int .i64 0,.int .i64 z])/\StoP wb w' g gs gl gx rate m ws sd c s u cnt B C sure P K)\/
  (z=0/\e= .returned (.tuple #[.int .i64 0,.int .i64 60])/\StoP wb w' g gs gl gx rate m ws sd c s u cnt B C sure P K/\c-(u:Int)-2024<6000)\/
  (z =0/\z5g ⟨str,(q0N (q1f P) str).length,L⟩/\ ∃pos ws' B' C' sure',e= .returned (.tuple #[.int .i64 ((q0N (q1f P) str).length:Int),.int .i64 0])/\
   StoP wb w' g gs gl gx rate m ws' sd c s (u+2024) (cnt+1) B' C' sure' (P++[(pos,⟨str,(q0N (q1f P) str).length,L⟩)]) K/\sure<=sure'))/\Stay K w w'
theorem z7d(h :StoP wb w g gs gl gx rate m ws sd c s u cnt B C sure P K)(d:List UInt8)(hs:d.length<=4611686018427387903)(ex:Int)(J: ∀W,Ext wb W->Stay K w W->Evs W ao n cap L)(hL:q3g L)
  (z1: ∀e∈L,e.we<18446744073709551616)(hl:B.length<=9000)(hN:(tos (q1f P)).length<=9000)(hC:C.length<200):
  Calls Tryz.prog 38 #[.pointer (some ⟨gs,0,none⟩),.string ⟨d.toArray⟩,.int .i64 ex,.slice ao n cap] w (y3D wb w g gs gl gx rate m ws sd c s u cnt B C sure P K d L (z4V (q1f P) d ex L)):=by
 have g0:=J w h.base (Stay.refl _ _);have R0:=g0.len;have b1:=g0.fits;have b2:=g0.bound;have x1:=q3E (q1f P) d;obtain⟨N,x0⟩: ∃N,(q0N (q1f P) d).length=N:=⟨_,rfl⟩
 have l0:=η x0;have V:=q0B w (.cells #[.string ⟨d.toArray⟩,.int .i64 0,.slice ao n cap] 160);have I:=Blk.new w 160 #[.string ⟨d.toArray⟩,.int .i64 0,.slice ao n cap];have X:=η (q9Q d 0 _ (g0.ext V) hs hL);have HN:=η (fun W (k:Ext (w.alloc (.cells #[.string ⟨d.toArray⟩,.int .i64 0,.slice ao n cap] 160)) W)=>z0K ((h.b.ext V).ext k));have R:=η (h.more (K':=fun i=>K i\/i=w.heap.size) V fun i j=>j.imp id fun e=>by rw[ρ];omega);have e0:=η (h.kExt V);have Q0:¬K w.heap.size:=fun e=>by have:=h.klt _ e;omega
 have m1:=η Q0;have t1:Hd (wb.heap.size<=w.heap.size):=η h.base.size;have k0:=I.cell 0;have k1:=I.cell 1;have k2:=I.cell 2;have E0:=η I;obtain⟨z,Y⟩: ∃z,z4V (q1f P) d ex L=z:=⟨_,rfl⟩
 have HZ:=η Y;rw[Y];unfold z4V at Y;clear Q0 I g0;by_cases U:q0h d 0 L=0
 case neg=>
  rw[ξ U] at Y;rw[Y] at X U;have hd:(z !=0)=true:=by simpa using U
  clear Y J V;go_enter Tryz.func38,Tryz.ntmps38;go_wp2_with fail;refine X.o.mono ?_;rintro e w1 ⟨rfl,J⟩;have S:=η J;clear J;go_wp2_with fail;refine(HN.o _ S.o).mono ?_;rintro e B0 ⟨rfl,rfl⟩;go_wp2_with fail;go_ret2;exact⟨.inl ⟨U,rfl,(R.o.grow S.o).beside fun i j=> .inl j⟩,e0.o.trans fun i j=>R.o.kExt S.o i (.inl j)⟩
 rw[κ (fun h=>h U)] at Y;rw[U] at X;obtain⟨p1,p2,p3,p4,p5,p6,p7⟩:=q1B U;by_cases f0:ex< -2
 ·rw[ξ f0] at Y
  subst Y;have hd:decide (ex< -2)=true:=ζ f0;clear J V;go_enter Tryz.func38,Tryz.ntmps38;go_wp2_with fail;refine X.o.mono ?_;rintro e w1 ⟨rfl,J⟩;have S:=η J;clear J;go_wp2_with fail;refine(HN.o _ S.o).mono ?_;rintro e B0 ⟨rfl,rfl⟩;go_wp2_with fail;go_ret2;exact⟨.inl ⟨by decide,rfl,(R.o.grow S.o).beside fun i j=> .inl j⟩,e0.o.trans fun i j=>R.o.kExt S.o i (.inl j)⟩
 rw[κ f0] at Y;have hd:decide (ex< -2)=false:=ε f0;have y1:q1n d=true:=by
  have:0<d.length:=List.length_pos_iff.2 p1;unfold q1n;rw[ζ (show 1<=d.length by omega),ζ p3];rfl
 have y0:z2P (q1f P) d=((N:Int)-1,0):=by unfold z2P;rw[ξ y1,x0]
 have p0:=η (fun W (k:Ext (w.alloc (.cells #[.string ⟨d.toArray⟩,.int .i64 0,.slice ao n cap] 160)) W)=>z7e (R.o.grow k) d hs (by omega) (by omega) y0);rw[x0] at Y x1;have F1:N<=9000:=by omega
 by_cases b0:ex≠ -2/\ex≠(N:Int)-1
 ·rw[ξ b0] at Y
  subst Y;have e1:(ex != -2)=true:=by simpa using b0.1
  have e2:(ex !=(N:Int)-1)=true:=by simpa using b0.2
  clear J V;go_enter Tryz.func38,Tryz.ntmps38;go_wp2_with fail;refine X.o.mono ?_;rintro e w1 ⟨rfl,J⟩;have S:=η J;clear J;go_wp2_with fail;refine(HN.o _ S.o).mono ?_;rintro e B0 ⟨rfl,rfl⟩;go_wp2_with fail;refine(p0.o _ S.o).mono ?_;rintro e w2 ⟨rfl,hh,G⟩;have h0:=η hh;have m0:=η G;clear hh G;go_wp2_with fail;go_ret2;exact⟨.inl ⟨by decide,rfl,h0.o.beside fun i j=> .inl j⟩,(e0.o.trans fun i j=>R.o.kExt S.o i (.inl j)).trans fun i j=>m0.o i (.inl j)⟩
 rw[κ b0] at Y;subst Y;have v0:(ex != -2)=false\/((ex != -2)=true/\(ex !=(N:Int)-1)=false):=by
  by_cases h1:ex= -2
  ·exact .inl (by simpa using h1)
  ·by_cases h2:ex=(N:Int)-1
   ·exact .inr ⟨by simpa using h1,by simpa using h2⟩
   ·exact absurd ⟨h1,h2⟩ b0
 have d0:Hd (z5g ⟨d,N,L⟩):=η ⟨z0f (n:=N) U (by omega),z1⟩;have u1:=η J;have q1:IntKind.i64.wrap ((N:Int)-1+1)=(N:Int):=by rw[ν];omega
 clear f0 b0 V J;rcases v0 with v0|⟨v0,E1⟩
 all_goals
  go_enter Tryz.func38,Tryz.ntmps38;go_wp2_with fail;refine X.o.mono ?_;rintro e w1 ⟨rfl,J⟩;have S:=η J;clear J;go_wp2_with fail;refine(HN.o _ S.o).mono ?_;rintro e B0 ⟨rfl,rfl⟩;go_wp2_with fail;refine(p0.o _ S.o).mono ?_;rintro e w2 ⟨rfl,hh,G⟩;have h0:=η hh;have m0:Hd (Stay K w w2):=η ((e0.o.trans fun i j=>R.o.kExt S.o i (.inl j)).trans fun i j=>G i (.inl j));have a0:=η ((E0.o.ext S.o).same (G _ (.inr rfl)));clear hh G R e0 E0 k0 k1 k2 S p0 HN X;generalize w.heap.size=q at*;have f1:=a0.o.free 1;have k0:=a0.o.cell 0;have k1:=a0.o.cell 1;have k2:=a0.o.cell 2;have c0:Hd (Blk (w2.setCell ⟨q,1,none⟩ (.int .i64 (N:Int))) q 160 #[.string ⟨d.toArray⟩,.int .i64 (N:Int),.slice ao n cap]):=η (a0.o.set 1 (.int .i64 (N:Int)));have i0:=η (h0.o.poke (.inr rfl) t1.o 1 (.int .i64 (N:Int)));have r0:=η (m0.o.poke m1.o 1 (.int .i64 (N:Int)));have j0:=c0.o.cell 0;have j1:=c0.o.cell 1;have j2:=c0.o.cell 2;have q0:=η (y1w (b:=⟨d,N,L⟩) _ (u1.o _ i0.o.base r0.o) d0.o);have S0:=z5u d0.o;obtain⟨p,hp⟩: ∃p,btB ⟨d,N,L⟩=p:=⟨_,rfl⟩
  have n1:=η hp;rw[hp] at q0 S0;clear hp;go_wp2_with fail;refine q0.o.mono ?_;rintro e w4 ⟨rfl,J⟩;have Q:=η (i0.o.grow J);have t0:=η (r0.o.trans fun i j=>i0.o.kExt J i (.inl j));have C0:=η (c0.o.ext J);clear J q0 f1 k0 k1 k2 j0 j1 j2 c0 i0 r0 a0 h0 m0;have HA:=η (Q.o.i.append p S0 hC);obtain⟨s0,s1,s2⟩:=Q.o.cells;go_wp2_with fail;refine HA.o.mono ?_;rintro e w5 ⟨⟨f,x,C',l,N0,rfl,j,z0⟩|⟨rfl,j,G1⟩,G⟩
  ·obtain⟨pos,rfl,T0,O⟩:=Q.o.added (b:=⟨d,N,L⟩) d0.o l0.o.symm hC (by rw[n1.o];exact N0)
   have W0:=η O;have M0:=η (And.intro z0 (Int.le_trans Q.o.ckS z0));clear z0;have o0:=η (Q.o.b.same (G gs (.inr rfl)));have X0:=η (C0.o.same (G q (.inl (.inr rfl))));have u0:=η (t0.o.trans fun i j=>G i (.inl (.inl j)));have l1:=η Q.o.k.1;have D1:=η Q.o.sdE;have V0: ∀k,(q1Q (q0i sd pos ⟨d,N,L⟩ k) B).length<=B.length+k:=fun k=>by
    have h1:=q7B (q0i sd pos ⟨d,N,L⟩ k) B;rw[q4E] at h1;omega
   have r1:=η V0;have J0:=η (fun W=>z3i sd d W hs);have K0:Hd (∀k,k<n->q3f (q2n sd pos ⟨d,N,L⟩ k)=true):=η (fun k hk=>z3Z sd d0.o.1 (by show k<L.length;omega) T0);have G0:=η (fun k=>q7d sd pos ⟨d,N,L⟩ k);have Z0:Hd (∀k:Nat,q2n sd pos ⟨d,N,L⟩ k=(q2g sd d,(N:Int)+(k:Int),(pos:Int))):=η fun k=>rfl
   have c1:=η j;have B1:=o0.o.cell 2;have A1:=o0.o.cell 0;generalize q2g sd d=hh at*;clear O j G HA s0 s1 s2 N0 V0 Q C0 t0;go_wp2_with fail;refine(J0.o _).mono ?_;rintro e H1 ⟨rfl,rfl⟩;clear B1 A1 J0;go_wp2_with fail
   go_loopw [83] (fun i W=> ∃k:Nat,k<=n/\i= .int .i64 (k:Int)/\IXG wb W g gx gl rate m (q1Q (q0i sd pos ⟨d,N,L⟩ k) ws) c s (u+(p.length+24)) (cnt+1) (q1Q (q0i sd pos ⟨d,N,L⟩ k) B) C' l (fun i=>(K i\/i=q)\/i=gs)/\Stay K w W/\
    Blk W gs 131 #[.pointer (some ⟨gl,0,none⟩),.pointer (some ⟨gx,0,none⟩),.int .u64 sd]/\Blk W q 160 #[.string ⟨d.toArray⟩,.int .i64 (N:Int),.slice ao n cap]) (fun i _=>n-(intOf i).toNat)
   case atStart=>exact⟨0,υ _,rfl,c1.o,u0.o,o0.o,X0.o⟩
   case round=>
    obtain⟨k,hk,rfl,j,A0,n0,I⟩:=hrel;have g1:=η j;have L0:=η A0;have H0:=η n0;have Y0:=η I;by_cases y0:k<n
    ·have v1:decide ((k:Int)<(n:Int))=true:=ζ (by omega)
     have O:=(j.grow (Ext.refl _).drew).add (K0.o k y0) (by have:=r1.o k;omega)
     rw [show∀M,q3o (q2n sd pos ⟨d,N,L⟩ k) (q1Q (q0i sd pos ⟨d,N,L⟩ k) M)=q1Q (q0i sd pos ⟨d,N,L⟩ (k+1)) M from fun M=>by
      rw[G0.o k,q3c (q0i sd pos ⟨d,N,L⟩ k)];rfl,show∀M,q3o (q2n sd pos ⟨d,N,L⟩ k) (q1Q (q0i sd pos ⟨d,N,L⟩ k) M)=q1Q (q0i sd pos ⟨d,N,L⟩ (k+1)) M from fun M=>by
      rw[G0.o k,q3c (q0i sd pos ⟨d,N,L⟩ k)];rfl,Z0.o k] at O
     have HA:Hd (Calls Tryz.prog 90 #[.pointer (some ⟨gx,0,none⟩),.agg #[.int .u64 hh,.int .i64 ((N:Int)+(k:Int)),.int .i64 (pos:Int)]] wr.drew fun r w'=>r= .returned (.int .i64 0)/\
      IXG wb w' g gx gl rate m (q1Q (q0i sd pos ⟨d,N,L⟩ (k+1)) ws) c s (u+(p.length+24)) (cnt+1) (q1Q (q0i sd pos ⟨d,N,L⟩ (k+1)) B) C' l (fun i=>(K i\/i=q)\/i=gs)/\Stay (fun i=>(K i\/i=q)\/i=gs) wr.drew w'):=η O
     have q7:IntKind.i64.wrap ((N:Int)+(k:Int))=(N:Int)+(k:Int):=by rw[ν];omega
     have q8:IntKind.i64.wrap ((k:Int)+1)=(k:Int)+1:=by rw[ν];omega
     have d1:=q0A (Ext.refl _).drew (n0.cell 1);have d2:=q0A (Ext.refl _).drew (I.cell 1);clear j A0 n0 I O;go_wp2_with fail
     go_region_held3 (fun W=>W.cell? ⟨gs,1,none⟩=some (.pointer (some ⟨gx,0,none⟩))/\W.cell? ⟨q,1,none⟩=some (.int .i64 (N:Int)))
      (first|exact F0.o|exact⟨d1,d2⟩)
      (first|(go_at_call 90;refine HA.o.mono ?_;rintro e w7 ⟨rfl,j,hs⟩;have i1:=η j;have o1:Hd (Stay K w w7):=η (L0.o.trans (fun i j=>hs i (.inl (.inl j))));have I0:=η (H0.o.same (hs gs (.inr rfl)));have D0:=η (Y0.o.same (hs q (.inl (.inr rfl))));have F0:=η (And.intro (I0.o.cell 1) (D0.o.cell 1));clear j hs))
     all_goals
      clear F0 d1 d2 HA;go_wp2_with fail
      go_roundw
      case rel=>exact⟨k+1,by omega,by go_num,i1.o,o1.o,I0.o,D0.o⟩
      case measure=>simp[intOf];omega
    ·obtain rfl:k=n:=by omega
     have v1:decide ((k:Int)<(k:Int))=false:=ε (by omega);have k1:=I.cell 1;clear j A0 n0 I;go_wp2_with fail;go_ret2;have P0:=g1.o;rw[<-R0] at P0;have O0:=W0.o wr (u+2024) (cnt+1) l K ((P0.beside fun i j=>j.imp .inl id).mono (by omega) (ι _)) H0.o (fun hk=>l1.o (.inl hk)) M0.o.2;have U0: ∃pos C1 B' C' l,(Ending.returned (.tuple #[.int .i64 (N:Int),.int .i64 0]))= .returned (.tuple #[.int .i64 ((q0N (q1f P) d).length:Int),.int .i64 0])/\
       StoP wb wr g gs gl gx rate m C1 sd c s (u+2024) (cnt+1) B' C' l (P++[(pos,⟨d,(q0N (q1f P) d).length,L⟩)]) K/\sure<=l:=⟨pos,_,_,C',l,by rw[l0.o],by rw[l0.o];exact O0,M0.o.1⟩
     exact⟨.inr (.inr ⟨rfl,by rw[l0.o];exact d0.o,U0⟩),L0.o⟩
  ·have a1:=η (Q.o.stay j G fun i j=> .inl j)
   have u0:=η (t0.o.trans fun i j=>G i (.inl (.inl j)));clear j G HA s0 s1 s2;go_wp2_with fail;go_ret2;exact⟨.inr (.inl ⟨rfl,rfl,a1.o.beside fun i j=> .inl j,by omega⟩),u0.o⟩
end
def q2M(str:List UInt8)(fr ct:Int):Int:=if q1n str=false\/fr<0\/ct<1 then 2 else 0
section
variable {wb w W W1 W2:World}{g gl gs gx rate:Nat}{m:Man}{ws:List En}{c s sd:Int}{u cnt:Nat}{B:List En}{C:Cks}{P:Pbs}{sure:Int}{K K':Nat->Prop}
theorem z7f(h:Blk W gs 131 #[.pointer (some ⟨gl,0,none⟩),.pointer (some ⟨gx,0,none⟩),.int .u64 sd])(b:List UInt8)(N:b.length<=4611686018427387903)(fr ct:Int):
  Calls Tryz.prog 64 #[.pointer (some ⟨gs,0,none⟩),.string ⟨b.toArray⟩,.int .i64 fr,.int .i64 ct] W fun e w'=>e= .returned (.int .i64 (q2M b fr ct))/\Ext W w':=by
 have I:=η (z0K h);have d:=η (z0N b W (by omega));clear h
 cases hstr:q1n b with
 | false=>
  have M:q2M b fr ct=2:=by unfold q2M;rw[ξ (.inl hstr)]
  rw[hstr] at d;rw[M];go_enter Tryz.func64,Tryz.ntmps64;go_wp2_with fail;refine I.o.mono ?_;rintro e w1 ⟨rfl,rfl⟩;go_wp2_with fail;refine d.o.mono ?_;rintro e w1 ⟨rfl,l⟩;have r:=η l;clear l;go_wp2_with fail;go_ret;exact⟨rfl,r.o⟩
 | true =>
  rw[hstr] at d;obtain⟨z,i⟩: ∃z,q2M b fr ct=z:=⟨_,rfl⟩
  have G:(z=2/\decide (fr<0)=true)\/(z=2/\decide (fr<0)=false/\decide (ct<1)=true)\/(z=0/\decide (fr<0)=false/\decide (ct<1)=false):=by
   unfold q2M at i;rw[hstr] at i;simp only[Bool.true_eq_false,false_or] at i
   split at i
   ·by_cases j:fr<0
    ·exact .inl ⟨i.symm,ζ j⟩
    ·exact .inr (.inl ⟨i.symm,ε j,ζ (by omega)⟩)
   ·exact .inr (.inr ⟨i.symm,ε (by omega),ε (by omega)⟩)
  rw[i];clear i hstr;rcases G with⟨rfl,j⟩|⟨rfl,j,J⟩|⟨rfl,j,J⟩
  all_goals
   go_enter Tryz.func64,Tryz.ntmps64;go_wp2_with fail;refine I.o.mono ?_;rintro e w1 ⟨rfl,rfl⟩;go_wp2_with fail;refine d.o.mono ?_;rintro e w1 ⟨rfl,l⟩;have r:=η l;clear l;go_wp2_with fail;go_ret;exact⟨rfl,r.o⟩
def q3y(bs:List Bt)(str:List UInt8)(fr ct:Int):List To:=if q2M str fr ct=0 then q8z (q5Y bs str) fr ct else []
def ToldR(wb w:World)(g gs gl gx rate:Nat)(m:Man)(ws:List En)(sd c s:Int)(u cnt:Nat)(B:List En)(C:Cks)(sure:Int)(P:Pbs)(K:Nat->Prop)(R:List To)(z:Int)(e:Ending)(w':World):Prop:=
 ∃v,e= .returned (.tuple #[v,.int .i64 z])/\StoP wb w' g gs gl gx rate m ws sd c s u cnt B C sure P (fun i=>K i\/v.ownBlock=some i)/\Stay K w w'/\w'.ownsRow wb.heap.size 69 5 v R.length (q5B R)/\ ∀i,K i->v.ownBlock≠some i
theorem StoP.slot0(h:StoP wb W g gs gl gx rate m ws sd c s u cnt B C sure P K):StoP wb W g gs gl gx rate m ws sd c s u cnt B C sure P (fun i=>K i\/(Value.slice none 0 0).ownBlock=some i):=h.beside fun i b=>b.elim id fun e=>by cases e
theorem ToldR.nil{w0:World}(h:StoP wb W g gs gl gx rate m ws sd c s u cnt B C sure P K)(b:Stay K w0 W)(z:Int):ToldR wb w0 g gs gl gx rate m ws sd c s u cnt B C sure P K [] z (.returned (.tuple #[.slice none 0 0,.int .i64 z])) W:=
 ⟨_,rfl,h.slot0,b,World.ownsRow_nil _ _ _ _,fun i _ e=>by cases e⟩
theorem z5S(h:StoP wb w g gs gl gx rate m ws sd c s u cnt B C sure P K)(d:List UInt8)(hs:d.length<=4611686018427387903)(fr ct:Int)(b0: -9223372036854775808<=fr)(c0:fr<=9223372036854775807)(hl:B.length<=10000)(a0:(q0N (q1f P) d).length<=10000):
  Calls Tryz.prog 18 #[.pointer (some ⟨gs,0,none⟩),.string ⟨d.toArray⟩,.int .i64 fr,.int .i64 ct] w (ToldR wb w g gs gl gx rate m ws sd c s u cnt B C sure P K (q3y (q1f P) d fr ct) (q2M d fr ct)):=by
 have j:=η (z7f h.b d hs fr ct);have O:=η h;obtain⟨R,r⟩: ∃R,q3y (q1f P) d fr ct=R:=⟨_,rfl⟩
 rw[r];unfold q3y at r;by_cases i:q2M d fr ct=0
 ·have S:0<=fr/\1<=ct:=by
   unfold q2M at i
   split at i
   ·cases i
   ·omega
  rw[ξ i] at r;rw[i] at j⊢;by_cases J:1073741824<fr
  ·have hd:decide ((1073741824:Int)<fr)=true:=ζ J
   have X:R=[]:=by rw[<-r];exact z7M (by rw[q2N];omega)
   subst X;clear i r h;go_enter Tryz.func18,Tryz.ntmps18;go_wp2_with fail;refine j.o.mono ?_;rintro e w1 ⟨rfl,M⟩;have I:=η M;clear M;go_wp2_with fail;go_ret2;exact ToldR.nil (O.o.grow I.o) (O.o.kExt I.o) 0
  ·have hd:decide ((1073741824:Int)<fr)=false:=ε J
   obtain⟨G,Y⟩: ∃G,min ct 1073741824=G:=⟨_,rfl⟩
   have d0:1<=G/\G<=1073741824:=by omega
   have q1:IntKind.i64.wrap (fr+G)=fr+G:=by rw[ν];omega
   have q2:IntKind.i64.wrap (fr+G-1)=fr+G-1:=by rw[ν];omega
   have N:=y1J (q1f P) d (f:=fr) (c:=ct) S.1 S.2 (by omega);rw[Y,r] at N;have HB:=η (fun W (k:Ext w W)=>q7N (h.grow k) d hs fr (fr+G-1) hl N);clear i r h N;go_enter Tryz.func18,Tryz.ntmps18;go_wp2_with fail;refine j.o.mono ?_;rintro e w1 ⟨rfl,M⟩;have I:=η M;clear M;go_wp2_with fail;refine(HB.o _ I.o).mono ?_;rintro e w2 ⟨v,rfl,hh,U,l,Q⟩;obtain⟨ra,rc,rfl⟩:=q0G l;have HF:Hd (ToldR wb w g gs gl gx rate m ws sd c s u cnt B C sure P K R 0 (.returned (.tuple #[.slice ra R.length rc,.int .i64 0])) w2):=η ⟨_,rfl,hh,(O.o.kExt I.o).trans U,l,Q⟩;clear hh U l Q HB;go_wp2_with fail;go_ret2;exact HF.o
 ·rw [κ i] at r
  subst r;have V:q2M d fr ct=2:=by
   unfold q2M at i⊢
   split at i
   ·rename_i h1;rw[ξ h1]
   ·exact absurd rfl i
  rw[V] at j⊢;clear i V h;go_enter Tryz.func18,Tryz.ntmps18;go_wp2_with fail;refine j.o.mono ?_;rintro e w1 ⟨rfl,M⟩;have I:=η M;clear M;go_wp2_with fail;go_ret2;exact ToldR.nil (O.o.grow I.o) (O.o.kExt I.o) 2
end
theorem z4x{C:Cks}{P:Pbs}(h:q0f 0 C=z2l P)(pos:Int):q2f C pos=z2l (P.filter fun y=>decide (pos<=(y.1:Int))):=by
 unfold q2f;rw[h];unfold z2l;rw[List.filter_map]
 rfl
theorem q3x(sd:Int){C:Cks}{P:Pbs}(h:q0f 0 C=z2l P)(b:okBs (q1f P))(pos:Int):z1o sd (q2f C pos)=some (q3Z sd (P.filter fun y=>decide (pos<=(y.1:Int)))):=by
 rw[z4x h,z1Z sd fun y d=>b.each (List.mem_map.2 ⟨y,(List.mem_filter.1 d).1,rfl⟩)]
theorem q2o{sd:Int}{P:Pbs}{pos:Int}:x∈q3Z sd (P.filter fun y=>decide (pos<=(y.1:Int)))↔x∈q3Z sd P/\pos<=x.2.2:=by
 rw[mem_entsP,mem_entsP]
 constructor
 ·rintro⟨y,d,k,b,rfl⟩
  obtain⟨i,j⟩:=List.mem_filter.1 d;exact⟨⟨y,i,k,b,rfl⟩,by show pos<=(y.1:Int);simpa using j⟩
 ·rintro⟨⟨y,d,k,b,rfl⟩,l⟩
  exact⟨y,List.mem_filter.2 ⟨d,ζ (show pos<=(y.1:Int) from l)⟩,k,b,rfl⟩
theorem z3M{P:Pbs}(h:okBs (q1f P)):P.length<=(tos (q1f P)).length:=by
 induction P using z0J with
 |h0=>exact υ _
 | h1 l a ih=>
  obtain⟨p,b⟩:=a;rw[q4Y] at h⊢;obtain⟨h1,d,_⟩:=okBs_snoc.1 h;have i:=(q1B d.1).2.1;have j:=ih h1;have o:0<b.ev.length:=List.length_pos_iff.2 i;rw[q5C,z0Q,θ,θ,q4Q,List.length_singleton];omega
theorem z3z{C:Cks}{P:Pbs}(j:okC C)(h:q0f 0 C=z2l P):P.Pairwise fun a b=>a.1<b.1:=by
 have i:=q6A C 0 j.size;rw[h] at i;unfold z2l at i;rw[List.pairwise_map] at i;exact i.imp fun {a b} d=>by unfold z5i at d;simp only at d;omega
section
variable {wb w W W1 W2:World}{g gl gs gx rate:Nat}{m:Man}{ws:List En}{c s sd:Int}{u cnt:Nat}{B:List En}{C:Cks}{P:Pbs}{sure:Int}{K K':Nat->Prop}
structure y3E(sd:Int)(m:Man)(B:List En)(C:Cks)(P:Pbs):Prop where
 sdE:m.sd=sd
 recE:q0f 0 C=z2l P
 ok:okBs (q1f P)
 sub: ∀x∈B,x∈q3Z sd P
 all: ∀x∈q3Z sd P,x∈B\/m.ck<=x.2.2
 ckE:m.ck<=q2d C
theorem y1S(h:DKQ wb w g m c s u cnt B C K)(d:y3E sd m B C P)(b0:0<=sd)(c0:sd<18446744073709551616)(e0:40<=cnt)(hN:(tos (q1f P)).length<=2000)(a0:B.Nodup)(rate:Nat):
  Calls Tryz.prog 33 #[.pointer (some ⟨g,0,none⟩),.int .u64 sd,.float .f64 rate] w fun e w'=>
   ∃gs gl gx j ws B' sure,e= .returned (.tuple #[.pointer (some ⟨gs,0,none⟩),.int .i64 0])/\StoP wb w' g gs gl gx rate j ws sd c s u cnt B' C sure P K/\(j.nx<=m.nx\/j.nx=0)/\Stay K w w':=by
 have S:okC C:=by obtain⟨_,_,_,_,_,_,_,_,N⟩:=h;exact N
 have R:m.ok:=by obtain⟨st,_,_,_,rfl,_,_,⟨h4,_⟩,_⟩:=h;exact h4.man
 have g0:=z3M d.ok;have d0:B.length<=2000:=by
  have:=q4v a0 (m:=q3Z sd P) fun x b=>d.sub x b
  rw[q4c] at this;omega
 have h0:(q0f 0 C).length<=2000:=by rw[d.recE,q4N];omega
 have f0:=(Man.bounds R).2.1;have HO:=η h.lopen;have i0:=h;clear h;go_enter Tryz.func33,Tryz.ntmps33;go_wp2_with fail;refine HO.o.mono ?_;rintro e w1 ⟨gl,rfl,hd,l⟩;have V:=η l;have HR:=η (z7b hd (by omega) (by omega) b0 c0 rate);clear hd l HO;go_wp2_with fail;refine HR.o.mono ?_;rintro e M ⟨⟨gx,j,B2,D,an,rfl,I,hr,hw⟩|⟨rfl,_,G⟩,l⟩
 case inr=>
  exfalso
  rcases G with⟨_,G⟩|G
  ·rw[q3x sd d.recE d.ok] at G;cases G
  ·rw[q3x sd d.recE d.ok] at G;cases G
 rw[q3x sd d.recE d.ok] at hr;obtain rfl:=Option.some.inj hr;have O:j.sd=sd/\(j.nx<=m.nx\/j.nx=0)/\StI sd (q1Q (q3Z sd (P.filter fun y=>decide (j.ck<=(y.1:Int)))) B2) P/\j.ck<=q2d C/\ ∀x∈q1Q (q3Z sd (P.filter fun y=>decide (j.ck<=(y.1:Int)))) [],j.ck<=x.2.2:=by
  have r:=z3z S d.recE;rcases hw with⟨_,rfl,h1,h2,h3,h4⟩|⟨_,rfl,rfl,_⟩
  ·refine⟨h1,.inl (Int.le_refl _),⟨d.ok,r,fun x=>?_⟩,h2,fun x b=>?_⟩
   ·rw [mem_addEs,q2o,<-h4]
    constructor
    ·rintro(b|b)
     ·exact b.1
     ·exact d.sub x b
    ·intro b
     rcases d.all x b with N|N
     ·exact .inr N
     ·exact .inl ⟨b,N⟩
   ·rw[mem_addEs,q2o] at b
    rcases b with b|b
    ·exact b.2
    ·cases b
  ·refine⟨rfl,.inr rfl,⟨d.ok,r,fun x=>?_⟩,(y0f S).1,fun x b=>?_⟩
   ·rw [mem_addEs,q2o]
    constructor
    ·rintro(b|b)
     ·exact b.1
     ·cases b
    ·intro b
     obtain⟨y,hy,k,hk,rfl⟩:=mem_entsP.1 b;exact .inl ⟨b,by show(0:Int)<=(y.1:Int);omega⟩
   ·rw[mem_addEs,q2o] at b
    rcases b with b|b
    ·exact b.2
    ·cases b
 obtain⟨f1,f2,f3,Y,f5⟩:=O;have J:=q0B M (.cells #[.pointer (some ⟨gl,0,none⟩),.pointer (some ⟨gx,0,none⟩),.int .u64 sd] 131);have Q:¬K M.heap.size:=fun e=>by have:=I.klt _ e;omega
 have HF:Hd (StoP wb (M.alloc (.cells #[.pointer (some ⟨gl,0,none⟩),.pointer (some ⟨gx,0,none⟩),.int .u64 sd] 131)) g M.heap.size gl gx rate j _ sd c s u cnt _ C (q2d C) P K):=η
  ⟨I.more J (fun i I=>I.imp id fun e=>by rw[ρ];omega),Blk.new M _ _,f1,d.recE,f3,Y,f5,Y,⟨Q,I.base.size⟩⟩
 have X:Hd (Stay K w (M.alloc (.cells #[.pointer (some ⟨gl,0,none⟩),.pointer (some ⟨gx,0,none⟩),.int .u64 sd] 131))):=η ((V.o.trans l).trans (I.kExt J));have U:=η f2;clear I hr hw l f1 f2 f3 Y f5 J Q HR;go_wp2_with fail;go_ret2;exact⟨_,gl,gx,j,_,_,_,rfl,HF.o,U.o,X.o⟩
end
section
variable {wb w W W':World}{g gx gl rate:Nat}{m:Man}{ws:List En}{c s:Int}{u cnt:Nat}{B:List En}{C C':Cks}{sure sd:Int}{K K':Nat->Prop}
end
section
variable {wb w W W':World}{g gx gl rate:Nat}{m:Man}{ws:List En}{c s:Int}{u cnt:Nat}{B:List En}{C C':Cks}{sure sd:Int}{K K' Z:Nat->Prop}
end
section
variable {E :Oth}{w0 w:World}{g gl:Nat}{F K:Nat->Prop}{v:Value}{σ:DM}{c s sure:Int}{C D:Cks}{xs:List Int}
theorem y1F{S:List UInt8}(b:DkF w0 w g F σ K)(Y:okOth E)(G:Pl σ (c+(q1V E:Int)) s (q3k E D S))(hQ:AllS σ.L)(hD:D.length<=199)(hC:okC C)
  (X: ∀W gl,LgP E w0 W g gl c s (q3k E D S) [] 0 AllS K->Calls Tryz.prog 139 #[.pointer (some ⟨gl,0,none⟩),.int .i64 ((D.length:Int)+1)] W fun e w'=>e= .returned (.int .i64 0)/\LgP E w0 w' g gl c s (q2a E C) (q0M C) 0 AllS K/\Stay K W w'):
  Calls Tryz.prog 83 #[.pointer (some ⟨g,0,none⟩)] w fun e w'=> ∃gl,e= .returned (.tuple #[.pointer (some ⟨gl,0,none⟩),.int .i64 0])/\w.heap.size<=gl/\LgK E w0 w' g gl c s C (q2d C) K/\Stay K w w':=by
 have V: ∀i,F i->i<w.heap.size:=by obtain⟨_,_,_,_,_,_,h⟩:=b.d;exact h
 have HU:=η (y3Z b.d);rw[G.up] at HU;have hs:=q6p b.d [110,101,119] (by decide);rw[G.sizeN (q9V Y (by omega) S)] at hs;have HS:=η hs;have U:((D.length+1:Nat):Int)=(D.length:Int)+1:=by omega
 have HC:=η (z6F (m0:=D.length+1) b.d Y (by omega) (by rw[G.names,q8e,List.append_assoc]));rw[U] at HC;have N:=η (fun (W:World) (k:Ext w W)=>z0M (b.d.ext k));rw[G.st] at N
 have I:=η (fun (W:World) (k:Ext w W)=>show LgP E w0 (W.alloc (.cells #[.pointer (some ⟨g,0,none⟩),.int .i64 s,.bool false,.slice none 0 0,.int .i64 0] 226)) g W.heap.size c s (q3k E D S) [] 0 AllS K/\Stay K w (W.alloc (.cells #[.pointer (some ⟨g,0,none⟩),.int .i64 s,.bool false,.slice none 0 0,.int .i64 0] 226)) from by
  have hk:=k.size;have k2:=k.trans (q0B W (.cells #[.pointer (some ⟨g,0,none⟩),.int .i64 s,.bool false,.slice none 0 0,.int .i64 0] 226));have r: ∀i,q8V W.heap.size (.slice none 0 0) i->i=W.heap.size:=fun i j=>by rcases j with h|h;exact h;cases h
  refine⟨⟨F,.slice none 0 0,σ,⟨b.d.ext k2,⟨Blk.new _ _ _,World.ownsRow_nil _ _ _ _⟩,fun i j hg=>?_,b.bF,fun i j=>?_,b.ext.trans k2,fun i j=>⟨?_,(b.k i j).2,fun hg=>?_⟩⟩,Y,G,hQ⟩,fun i j=>k2.block i (b.k i j).1⟩
  ·have:=r i hg;have:=V i j;omega
  ·have:=r i j;have:=b.ext.size;omega
  ·have:=(b.k i j).1;have:=k2.size;omega
  ·have:=r i hg;have:=(b.k i j).1;omega)
 have J:=η hC;have M:=η X;have f0:(D.length:Int)<=199:=by omega
 clear b G hQ hs V X U Y hC;generalize (D.length:Int)=dn at*;go_enter Tryz.func83,Tryz.ntmps83;go_wp2_with fail;refine HU.o.mono ?_;rintro e w1 ⟨rfl,rfl⟩;go_wp2_with fail;refine HS.o.mono ?_;rintro e w1 ⟨rfl,rfl⟩;go_wp2_with fail;refine HC.o.mono ?_;rintro e w1 ⟨rfl,hb⟩;have HB:=η hb;clear hb;go_wp2_with fail;refine(N.o _ HB.o).mono ?_;rintro e w2 ⟨rfl,rfl⟩;go_wp2_with fail;obtain⟨h3,h4⟩:=I.o _ HB.o;have H4:=η h4;have c0:=η (M.o _ _ h3);have d0:=η HB.o.size;clear h3 h4;refine c0.o.mono ?_;rintro e w3 ⟨rfl,⟨F3,v3,e0,O,R,h6,Q⟩,h7⟩;have HE:=η (z8m O.l J.o);have z4:=O.l.blk.free 4;have c4:=O.l.c4;have h8:=O.setSure (q2d C);have H8:=η h8;have H6:=η h6;have a0:=η Q;have b0:=η R;have H7:=η (H4.o.trans (h7.trans h8.2));clear O h6 Q h7 h8 R;go_wp2_with fail;refine HE.o.mono ?_;rintro e w4 ⟨rfl,rfl⟩;go_wp2_with fail;go_ret2;exact⟨_,rfl,d0.o,⟨F3,v3,e0,H8.o.1,⟨H6.o,J.o,b0.o,a0.o.sur _ _,Int.le_refl _⟩⟩,H7.o⟩
end
def DKX(wb W:World)(g:Nat)(m:Man)(c s:Int)(u cnt:Nat)(B:List En)(C:Cks)(K:Nat->Prop):Prop:=
 ∃st σ φ F,st.m=m/\st.w=[]/\DkF wb W g F σ K/\(PInv st σ c s φ u cnt B/\q6J φ m/\OldT st)/\AllS σ.L/\z9u φ C/\okC C
section
variable {wb w W W':World}{g gl gs gx rate:Nat}{m:Man}{ws:List En}{c s sd:Int}{u cnt:Nat}{B:List En}{C:Cks}{sure:Int}{K K':Nat->Prop}
theorem DKX.lopen(h:DKX wb w g m c s u cnt B C K)(k0:(u:Int)+4096<=c):Calls Tryz.prog 83 #[.pointer (some ⟨g,0,none⟩)] w fun e w'=> ∃gl,e= .returned (.tuple #[.pointer (some ⟨gl,0,none⟩),.int .i64 0])/\DKR wb w' g gl m c s u cnt B C (q2d C) K/\Stay K w w':=by
 obtain⟨st,σ,φ,F,h1,h2,h3,⟨h4,M,O⟩,J,m0,I⟩:=h;rcases m0 with f0|⟨D,t,Q,e0,b⟩
 ·exact DKQ.lopen ⟨st,σ,φ,F,h1,h2,h3,⟨h4,M,⟨f0,J.sur _ _,(z2H I).1⟩,O⟩,I⟩
 ·obtain⟨E,e1,e2,e3,e4,e5,e6⟩:=z7g h4 (N:=q3P 0 D++[(q0C 99 (D.length:Int),t)]) (z9q Q) (fun y hy=>by
   rcases List.mem_append.1 hy with hy|hy
   ·obtain⟨j,q1,q2,q3⟩:=q2k hy
    exact⟨j,by omega,q3⟩
   ·rw[List.mem_singleton.1 hy];exact⟨D.length,by omega,rfl⟩) (fun k V=>by rw[z7v Q V,e0 k V])
  have n0:q1X (q3P 0 D++[(q0C 99 (D.length:Int),t)])=q0j D+t.length:=by rw[q0d,q6H,q3p]
  have h0:(q3P 0 D++[(q0C 99 (D.length:Int),t)]).length=D.length+1:=by rw[θ,q3Q];rfl
  rw[n0] at e4;rw[h0] at e5;have hT:E.X++((q3P 0 D++[(q0C 99 (D.length:Int),t)])++E.Z)=q3k E D t:=by unfold q3k;simp
  rw[hT] at e1 e6;have hp:Pl σ ((c-(q1V E:Int))+(q1V E:Int)) s (q3k E D t):=by rw[show c-(q1V E:Int)+(q1V E:Int)=c by omega];exact e1
  have o0:q0j C<=q0j D+t.length/\C.length<=D.length+1:=by
   rcases b with⟨_,_,rfl⟩|⟨ps,r,rfl,U,_,_,_⟩
   ·exact⟨by omega,by omega⟩
   ·refine⟨?_,by rw[θ];exact ι _⟩
    have:q0j (D++[ps])=q0j D+q0I ps:=by unfold q0j;rw[List.map_append,List.sum_append];simp
    rw[this,U,θ,q0V];omega
  have g0:=y1F (E:=E) (C:=C) (D:=D) (S:=t) (c:=c-(q1V E:Int)) (s:=s) (K:=K) (w0:=wb) h3 e2 hp J Q I (fun W gl hW=>by
   rcases b with⟨s1,s2,rfl⟩|⟨ps,r,rfl,U,j0,hr,Y⟩
   ·exact z7Y (en:=0) hW Q I.size I.pay (by omega) (fun W2=>z5R t C.length W2 (by omega) s1 s2) (fun W2 R=>y1A R Q)
   ·have i0: ∀p∈ps,p.length<=2000:=I.pay ps (by simp)
    refine z7Y (en:=(q0I ps:Int)) hW Q (fun q hq=>I.size q (List.mem_append_left _ hq)) (fun q hq=>I.pay q (List.mem_append_left _ hq)) Y (fun W2=>?_) (fun W2 R=>z9L R U hr Q Y e6 (by
     have h5:q0I ps<=t.length:=by rw[U,θ,q0V];omega
     omega))
    have a0:z0Y t (q1Y D.length)=true:=by
     rw[U];unfold z0Y q0L;rw[ζ (by simp),Bool.true_and,List.append_assoc,List.take_left];simp
    have c0:=z4I t D.length W2 (by omega) (by omega) a0;rw[U,z8n D.length ps i0 j0] at c0;rw[U];refine c0.mono ?_;rintro e w' ⟨v,rfl,b0,hx⟩;obtain⟨a,cc,rfl⟩:=q0G b0
    exact⟨_,rfl,⟨_,_,_,rfl⟩,hx⟩)
  refine g0.mono ?_;rintro e w' ⟨gl,rfl,_,⟨F',v,σ',o,l2⟩,l0⟩;obtain⟨d0,p1,p2,p3⟩:=h4.relog e3 l2 o.d.okD (u':=u) (cnt':=cnt) (by omega) (by omega);have hm:d0 mapN=φ mapN:=p3 mapN fun k V e=>(q2h V).1 e.symm
  refine⟨gl,rfl,⟨st,σ',d0,v,F',h1,h2,⟨o.d,o.bF,o.ext,fun i G=>?_⟩,⟨p1,by unfold q6J;rw[hm];exact M,p2,O⟩,⟨o.l,l2.ok⟩,fun i G=>⟨fun V=>(o.k i V).2.2 G,o.bG i G⟩⟩,l0⟩;rcases G with G|G
  ·exact⟨(o.k i G).1,(o.k i G).2.1⟩
  ·exact⟨o.l.lt G,fun hf=>o.ap i hf G⟩
end
end
end Go.Proofs.YtfiibpgoplcgkaaGreatDoor
