/- Walks. -/
import Derived.Test.YtjigghjfcbbkiaaGreatDoorG33SN
set_option linter.unusedVariables false
set_option linter.unusedSimpArgs false
set_option maxRecDepth 100000
set_option maxHeartbeats 6400000
namespace Go.Proofs.YtjigghjfcbbkiaaGreatDoor
variable {ao:Option Addr}{cap n q:Nat}{x:En}{L:List Ev}
section
open Go.RowKit
section
variable {wb w W W':World}{g gx gl rate:Nat}{m:Man}{ws:List En}{c s:Int}{u cnt:Nat}{B:List En}{C C':Cks}{sure:Int}{K K':Nat->Prop}{st:IxSt}{σ:DM}{φ:Fls}
theorem PInv.cleanL(h:PInv st σ c s φ u cnt B):{σ with L:=σ.L.filter fun f=>!q1W st.m.L.flatten f.nm}=σ:=by
 have b:=h.noOrph;unfold q1a at b;rw[List.filter_map,List.map_eq_nil_iff,List.filter_eq_nil_iff] at b;have d:(σ.L.filter fun f=>!q1W st.m.L.flatten f.nm)=σ.L:=List.filter_eq_self.2 fun f i=>by
  have:=b f i;simp only[Function.comp] at this
  simpa using this
 rw[d]
theorem IXG.clean(h:IXG wb W g gx gl rate m ws c s u cnt B C sure K)(N:Grid W ao m.L.length cap m.L)(nx ck sd:Int):
  Calls Tryz.prog 115 #[.pointer (some ⟨g,0,none⟩),.agg #[.int .i64 nx,.int .i64 ck,.int .u64 sd,.slice ao m.L.length cap]] W fun e w'=>e= .returned (.int .i64 0)/\IXG wb w' g gx gl rate m ws c s u cnt B C sure K/\Stay K W w':=by
 obtain⟨st,σ,φ,E,rfl,rfl,G,I,J,⟨d,j⟩,y,M⟩:=h;have O:=Man.bounds d.man;have v:σ.down=false:=d.fl.up;have b:σ.fail=false:=by obtain⟨l,r,_⟩:=d.fl;exact r.fine
 refine(J.disk (σ1:=σ) (R:=fun e=>e= .returned (.int .i64 0)) fun F Q=>?_).mono ?_
 ·have hc:=z4d Q v b d.shortN (nx:=nx) (ck:=ck) (sd:=sd) N (by have:=O.2.1;omega)
  rw[d.cleanL] at hc;exact hc
 ·rintro e w' ⟨he,S,D⟩
  exact⟨he,⟨st,σ,φ,E,rfl,rfl,G,I,S,⟨d,j⟩,⟨y.1.same fun i o=>D i (.inr o),y.2⟩,M⟩,fun i o=>D i (.inl o)⟩
end
section
variable {wb w W W':World}{g gx gl rate:Nat}{m:Man}{ws:List En}{c s:Int}{u cnt:Nat}{B:List En}{C C':Cks}{sure:Int}{K K':Nat->Prop}{st:IxSt}{σ:DM}{φ:Fls}
theorem DKR.man(h:DKR wb W g gl m c s u cnt B C sure K):m.ok:=by obtain⟨st,σ,φ,j,F,rfl,r,hF,⟨b,i,d⟩,l,o⟩:=h;exact b.man
theorem DKR.klt(h:DKR wb W g gl m c s u cnt B C sure K): ∀i,K i->i<W.heap.size:=by obtain⟨st,σ,φ,l,F,rfl,y,hF,⟨o,d,b⟩,r,v⟩:=h;exact fun i j=>(hF.k i (.inl j)).1
theorem DKR.grow(h:DKR wb W g gl m c s u cnt B C sure K)(k:Ext W W'):DKR wb W' g gl m c s u cnt B C sure K:=by
 obtain⟨st,σ,φ,d,F,rfl,l,hF,i,b,j⟩:=h;exact⟨st,σ,φ,d,F,rfl,l,hF.grow k,i,⟨b.1.ext k,b.2⟩,j⟩
theorem DKR.kExt(h:DKR wb W g gl m c s u cnt B C sure K)(k:Ext W W'):Stay K W W':=fun i b=>k.block i (h.klt i b)
def Man.cut(m:Man):Man:=⟨m.nx,m.ck,m.sd,q0q m.L⟩
theorem Man.cut_S{m:Man}(h:m.ok):m.cut.S=m.S:=by
 show(q3G m.nx m.ck m.sd (q0q m.L)).1=_;rw[q9y h.1];rfl
theorem DKR.cut(h:DKR wb W g gl m c s u cnt B C sure K):DKR wb W g gl m.cut c s u cnt B C sure K:=by
 obtain⟨st,σ,φ,o,F,rfl,M,hF,⟨b,i,d⟩,E,G⟩:=h;have j:st.m.cut.L.flatten=st.m.L.flatten:=q1i _;refine⟨{st with m:=st.m.cut},σ,φ,o,F,rfl,M,hF,⟨⟨b.fl,⟨q4k b.man.1,b.man.2⟩,fun n I=>b.full n (by rw[<-j];exact I),fun n e he=>?_,fun nm l=>?_,b.okw,b.okB,b.mem⟩,?_,d⟩,E,G⟩
 ·show n∈st.m.cut.L.flatten/\_
  rw[j];exact b.tb n e he
 ·show nm=mapN\/(∃n∈st.m.cut.L.flatten,_)\/_
  rw[j];exact b.only nm l
 ·rcases i with⟨h,J⟩|⟨r,v,y,D⟩
  ·exact .inl ⟨by rw[Man.cut_S b.man];exact h,J⟩
  ·exact .inr ⟨r,v,y,by show q0q st.m.L=[];rw[D];rfl⟩
theorem DKR.load(h:DKR wb W g gl m c s u cnt B C sure K):Calls Tryz.prog 166 #[.pointer (some ⟨g,0,none⟩)] W fun e w'=>
  ((∃ao cap,e= .returned (.tuple #[.agg #[.int .i64 m.nx,.int .i64 m.ck,.int .u64 m.sd,.slice ao (q0q m.L).length cap],.int .i64 0])/\Grid w' ao (q0q m.L).length cap (q0q m.L)/\0<m.nx)\/
   (∃ao cap,e= .returned (.tuple #[.agg #[.int .i64 0,.int .i64 0,.int .u64 0,.slice ao 0 cap],.int .i64 4])/\m.nx=0/\m.ck=0/\m.L=[]))/\
  DKR wb w' g gl m c s u cnt B C sure K/\Stay K W w':=by
 obtain⟨st,σ,φ,gv,F,rfl,hw,hF,⟨b,y,v⟩,J,h8⟩:=h;obtain⟨l,j,a0,o,c0,b0⟩:=b.fl
 cases hf:q0F FM.nm mapN σ.L with
 | none=>
  have G:φ mapN=none:=by rw[<-o,j.find,hf];rfl
  rcases y with⟨h,X⟩|⟨I,N,O,Q⟩
  ·rw[G] at h;cases h
  ·refine(z5Q hF.d (by unfold q1X;rw[κ (by rw[j.up];decide),hf])).mono ?_
   rintro e w' ⟨a,M,rfl,hg,U⟩;obtain⟨Y,E⟩:=hF.disk U;exact⟨.inr ⟨a,M,rfl,N,O,Q⟩,⟨st,σ,φ,gv,_,rfl,hw,Y,⟨b,.inr ⟨I,N,O,Q⟩,v⟩,⟨J.1.same fun i r=>E i (.inr r),J.2⟩,h8⟩,fun i r=>E i (.inl r)⟩
 | some f=>
  have G:φ mapN=some f.da:=by rw[<-o,j.find,hf];rfl
  rcases y with⟨h,X⟩|⟨I,N,O,Q⟩
  ·have V:f.da=st.m.S:=by rw[G] at h;injection h
   have D:q2z f.da=⟨st.m.nx,st.m.ck,st.m.sd,q0q st.m.L,0⟩:=by
    rw[V];show q2z (q3G st.m.nx st.m.ck st.m.sd st.m.L).1=_;rw[q7y b.man.1];exact z7e b.man.1 b.man.2.1 b.man.2.2
   refine(z5R hF.d hf j.up).mono ?_;rw[D];rintro e w' ⟨a,M,rfl,hg,U⟩;obtain⟨Y,E⟩:=hF.disk U;have R:PInv st (q2P σ) c s φ u cnt B:=⟨Fl.tells 1 b.fl,b.man,b.full,b.tb,b.only,b.okw,b.okB,b.mem⟩
   exact⟨.inl ⟨a,M,rfl,hg,X⟩,⟨st,q2P σ,φ,gv,_,rfl,hw,Y,⟨R,.inl ⟨h,X⟩,v⟩,⟨J.1.same fun i r=>E i (.inr r),J.2⟩,h8⟩,fun i r=>E i (.inl r)⟩
  ·rw[G] at I;cases I
end
section
variable {wb w W W':World}{g gx gl:Nat}{m:Man}{ws:List En}{c s:Int}{u cnt:Nat}{B:List En}{C C':Cks}{sure:Int}{K K':Nat->Prop}{st:IxSt}{σ:DM}{φ:Fls}
theorem DKR.ends(h:DKR wb W g gl m c s u cnt B C sure K):Calls Tryz.prog 112 #[.pointer (some ⟨gl,0,none⟩)] W fun e w'=>e= .returned (.int .i64 (q4h C))/\Ext W w':=by
 obtain⟨st,σ,φ,d,F,i,o,hF,j,b,l⟩:=h;exact(z8t b.1 b.2).mono fun e w' ⟨h,k⟩=>⟨h,k▸Ext.refl _⟩
def LyR(wb W:World)(g gl:Nat)(rate:Nat)(m:Man)(c s:Int)(u cnt:Nat)(B:List En)(C:Cks)(sure:Int)(K:Nat->Prop)(sd:Int)(e:Ending)(w':World):Prop:=
 ((∃gx B2,e= .returned (.tuple #[.pointer (some ⟨gx,0,none⟩),.int .i64 0])/\IXG wb w' g gx gl rate m.cut [] c s u cnt B2 C sure K/\(∀x,x∈B↔x∈B2)/\m.sd=sd/\m.ck<=q4h C/\0<m.nx)\/
  (∃n:Int,e= .returned (.tuple #[.pointer none,.int .i64 n])/\(n=4\/n=90)/\DKR wb w' g gl m c s u cnt B C sure K/\((m.nx=0/\m.ck=0/\m.L=[])\/m.sd≠sd\/q4h C<m.ck)))/\Stay K W w'
theorem z9K(h:DKR wb w g gl m c s u cnt B C sure K)(d0:m.L.flatten.length<=cnt)(sd:Int)(rate:Nat):
  Calls Tryz.prog 113 #[.pointer (some ⟨g,0,none⟩),.pointer (some ⟨gl,0,none⟩),.int .u64 sd,.float .f64 rate] w (LyR wb w g gl rate m c s u cnt B C sure K sd):=by
 have J:=η h.load;clear h;go_enter Tryz.func113,Tryz.ntmps113;go_wp2_with fail;refine J.o.mono ?_;rintro e w1 ⟨hl,G,N⟩;clear J;have HD:=η G;have HS:=η N;rcases hl with⟨ao,D,rfl,hg,M⟩|⟨ao,D,rfl,z⟩
 ·have HG:=η hg
  have V:=q0B w1 (.cells #[.int .i64 m.nx,.int .i64 m.ck,.int .u64 m.sd,.slice ao (q0q m.L).length D] 71);have hb:=Blk.new w1 71 #[.int .i64 m.nx,.int .i64 m.ck,.int .u64 m.sd,.slice ao (q0q m.L).length D];have b:=η (G.grow V);have r:=η (N.trans (G.kExt V));have X:=η (hg.ext V);have j:=η hb;clear G N hg V hb;go_wp2_with fail;generalize w1.alloc (.cells #[.int .i64 m.nx,.int .i64 m.ck,.int .u64 m.sd,.slice ao (q0q m.L).length D] 71)=w2 at*;generalize w1.heap.size=q at*;have Q:w2.cell? ⟨q,0,none⟩=some (.int .i64 m.nx):=j.o.cell 0;have R:w2.cell? ⟨q,1,none⟩=some (.int .i64 m.ck):=j.o.cell 1;have S:w2.cell? ⟨q,2,none⟩=some (.int .u64 m.sd):=j.o.cell 2;have U:w2.cell? ⟨q,3,none⟩=some (.slice ao (q0q m.L).length D):=j.o.cell 3;have u0:=q0C Q;have u1:=q0C R;have u2:=q0C S;have u3:=q0C U;have HE:=η (fun W (k:Ext w2 W)=>(b.o.grow k).ends);by_cases E:m.sd=sd
  ·subst E
   by_cases d:q4h C<m.ck
   ·have e0:decide (q4h C<m.ck)=true:=ζ d
    refine q0D (by kernel_rfl) (by kernel_rfl) ?_
    repeat (go_big_quiet_step (fail))
    go_big_quiet_step (exact Calls.quiet_ext (HE.o _ (ExtOf.h _)))
    repeat (go_big_quiet_step (fail))
    refine wpQuiet_nil ?_;intro I i;have l:=η (b.o.grow i);have v:=η (r.o.trans (b.o.kExt i));have F:=η d;clear i d Q R S U u0 u1 u2 u3;go_wp2_with fail;go_ret2;exact⟨.inr ⟨90,rfl,.inr rfl,l.o,.inr (.inr F.o)⟩,v.o⟩
   ·have e0:decide (q4h C<m.ck)=false:=ε d
    refine q0D (by kernel_rfl) (by kernel_rfl) ?_
    repeat (go_big_quiet_step (fail))
    go_big_quiet_step (exact Calls.quiet_ext (HE.o _ (ExtOf.h _)))
    repeat (go_big_quiet_step (fail))
    refine wpQuiet_nil ?_;intro I i;have l:=η (b.o.grow i);have v:=η (r.o.trans (b.o.kExt i));have Y:=η (X.o.ext i);have HO:=η (l.o.cut.iopen (ao:=ao) (cap:=D) Y.o (by show(q0q m.L).flatten.length<=cnt;rw[q1i];exact d0) rate);have y:=j.o.ext i;have g0:I.cell? ⟨q,0,none⟩=some (.int .i64 m.nx):=y.cell 0;have h0:I.cell? ⟨q,1,none⟩=some (.int .i64 m.ck):=y.cell 1;have i0:I.cell? ⟨q,2,none⟩=some (.int .u64 m.sd):=y.cell 2;have j0:I.cell? ⟨q,3,none⟩=some (.slice ao (q0q m.L).length D):=y.cell 3;have F:=η d;clear i d Q R S U u0 u1 u2 u3 y;go_wp2_with fail;refine HO.o.mono ?_;rintro e w4 ⟨gx,B2,rfl,hi,hm,O⟩;have HI:=η hi;have HM:=η hm;have b0:=η (v.o.trans O);clear hi hm O HO;go_wp2_with fail;go_ret2;exact⟨.inl ⟨gx,B2,rfl,HI.o,HM.o,rfl,by have:=F.o;omega,M⟩,b0.o⟩
  ·have f0:(m.sd !=sd)=true:=by simpa using E
   have a0:=η E;refine q0D (by kernel_rfl) (by kernel_rfl) ?_
   repeat (go_big_quiet_step (fail))
   (try rw[f0])
   repeat (go_big_quiet_step (fail))
   refine wpQuiet_nil ?_;intro I i;have l:=η (b.o.grow i);have v:=η (r.o.trans (b.o.kExt i));clear i E Q R S U u0 u1 u2 u3;go_wp2_with fail;go_ret2;exact⟨.inr ⟨90,rfl,.inr rfl,l.o,.inr (.inl a0.o)⟩,v.o⟩
 ·have b:=η (G.grow (q0B w1 (.cells #[.int .i64 0,.int .i64 0,.int .u64 0,.slice ao 0 D] 71)))
  have r:=η (N.trans (G.kExt (q0B w1 (.cells #[.int .i64 0,.int .i64 0,.int .u64 0,.slice ao 0 D] 71))));have HZ:=η z;clear G N z;go_wp2_with fail;go_ret2;exact⟨.inr ⟨4,rfl,.inl rfl,b.o,.inl HZ.o⟩,r.o⟩
end
theorem z0Y(p:List UInt8×List UInt8->Bool)(l:List (List UInt8×List UInt8)):q2Q (l.filter p)<=q2Q l:=by
 induction l with
 |nil=>exact ι _
 | cons x l ih=>
  have b: ∀t,q2Q (x::t)=q2Q [x]+q2Q t:=fun t=>by rw[<-q1I];rfl
  cases hp:p x with
  |true=>rw[List.filter_cons_of_pos hp,b,b l];omega
  |false=>rw[List.filter_cons_of_neg (by simp[hp]),b];omega
theorem z5A(q:List UInt8->Bool)(l:List (List UInt8×List UInt8))(nm:List UInt8):q0F Prod.fst nm (l.filter fun y=>q y.1)=if q nm=true then q0F Prod.fst nm l else none:=by
 induction l with
 |nil=>unfold q0F;simp
 | cons x l ih=>
  unfold q0F at ih⊢
  cases hq:q x.1 with
  | true=>
   rw[List.filter_cons,ξ hq,List.find?_cons,List.find?_cons,ih];by_cases b:(x.1==nm)=true
   ·rw[b]
    have:x.1=nm:=by simpa using b
    rw[this] at hq;simp[hq]
   ·rw[Bool.not_eq_true] at b
    rw[b]
  | false=>
   rw[List.filter_cons,κ (by simp[hq]),List.find?_cons,ih];by_cases b:(x.1==nm)=true
   ·have:x.1=nm:=by simpa using b
    rw[this] at hq;simp[hq]
   ·rw[Bool.not_eq_true] at b
    rw[b]
theorem Fl.filt{σ:DM}{c s:Int}{φ:Fls}{u cnt:Nat}(h:Fl σ c s φ u cnt)(q:List UInt8->Bool):Fl {σ with L:=σ.L.filter fun f=>q f.nm} c s (fun nm=>if q nm=true then φ nm else none) u cnt:=by
 obtain⟨l,b,d,i,j,o⟩:=h;refine⟨l.filter fun y=>q y.1,⟨b.up,b.fine,?_,b.cap,b.st⟩,d.filter _,fun nm=>?_,Ω (z0Y _ _) j,Ω (List.length_filter_le _ _) o⟩
 ·rw[<-b.files,List.filter_map];rfl
 ·rw[z5A]
  cases hq:q nm with
  |true=>simp only[hq,if_true];exact i nm
  |false=>simp[hq]
def z9t(φ:Fls):Prop:=φ mapN=none/\ ∀nm,φ nm≠none->(∃l n,(l=116\/l=98)/\(0<=n/\n<=999999)/\nm=q0E l n)\/ ∃k:Nat,k<=999999/\nm=q0E 99 (k:Int)
def DKO(wb W:World)(g gl:Nat)(c s:Int)(u cnt:Nat)(C:Cks)(sure:Int)(K:Nat->Prop):Prop:=
 ∃σ φ gv F,DkF wb W g F σ (fun i=>K i\/q7i gl gv i)/\(Fl σ c s φ u cnt/\z9t φ/\q8T φ C)/\(LogM W gl g s gv (q0L C) sure/\okC C)/\(∀i,q7i gl gv i->¬K i/\wb.heap.size<=i)
def IXO(wb W:World)(g gx gl:Nat)(rate:Nat)(sd:Int)(c s:Int)(u cnt:Nat)(C:Cks)(sure:Int)(K:Nat->Prop):Prop:=
 (0<=sd/\sd<18446744073709551616)/\ ∃t σ φ gv,(∀n,t n=none)/\IxK wb W g gx ⟨⟨0,0,sd,[]⟩,rate,[],t,0⟩ σ (fun i=>K i\/q7i gl gv i)/\(Fl σ c s φ u cnt/\z9t φ/\q8T φ C)/\(LogM W gl g s gv (q0L C) sure/\okC C)/\(∀i,q7i gl gv i->¬K i/\wb.heap.size<=i)
section
variable {wb w W W':World}{g gx gl rate:Nat}{m:Man}{ws:List En}{c s:Int}{u cnt:Nat}{B:List En}{C C':Cks}{sure:Int}{K K':Nat->Prop}{st:IxSt}{σ:DM}{φ:Fls}
theorem DKR.gone(h:DKR wb W g gl m c s u cnt B C sure K):Calls Tryz.prog 108 #[.pointer (some ⟨g,0,none⟩),.string ⟨mapN.toArray⟩] W fun e w'=>
  (e= .returned (.int .i64 0)\/e= .returned (.int .i64 4))/\DKO wb w' g gl c s u cnt C sure K/\Stay K W w':=by
 obtain⟨st,σ,φ,M,F,rfl,Y,hF,⟨r,U,v⟩,D,N⟩:=h;have j: ∀nm,nm≠mapN->φ nm≠none->(∃l n,(l=116\/l=98)/\(0<=n/\n<=999999)/\nm=q0E l n)\/ ∃k:Nat,k<=999999/\nm=q0E 99 (k:Int):=fun nm J b=>by
  rcases r.only nm b with e|⟨n,b,e⟩|e
  ·exact absurd e J
  ·have:=r.range b
   rcases e with e|e
   ·exact .inl ⟨116,n,.inl rfl,⟨this.1,this.2.1⟩,e⟩
   ·exact .inl ⟨98,n,.inr rfl,⟨this.1,this.2.1⟩,e⟩
  ·exact .inr e
 refine(z2J hF.d mapN (by decide)).mono ?_;rintro e w' ⟨rfl,V⟩;obtain⟨E,G⟩:=hF.disk V
 cases h0:φ mapN with
 | none=>
  have y:q1R σ mapN=(4,σ):=by
   obtain⟨l,Q,X,R,_⟩:=r.fl;exact Q.deleteN (Fl.noFind R h0)
  rw[y] at E⊢;exact⟨.inr rfl,⟨σ,φ,M,_,E,⟨r.fl,⟨h0,fun nm b=>j nm (fun e=>b (by rw[e];exact h0)) b⟩,v⟩,⟨D.1.same fun i o=>G i (.inr o),D.2⟩,N⟩,fun i o=>G i (.inl o)⟩
 | some t=>
  obtain⟨σ',S,I⟩:=r.fl.del h0;rw[S] at E⊢;refine⟨.inl rfl,⟨σ',z8l φ mapN,M,_,E,⟨I,⟨by unfold z8l;rw[ξ rfl],fun nm b=>?_⟩,fun k O=>?_⟩,⟨D.1.same fun i o=>G i (.inr o),D.2⟩,N⟩,fun i o=>G i (.inl o)⟩
  ·unfold z8l at b
   by_cases he:nm=mapN
   ·rw[ξ he] at b;exact absurd rfl b
   ·rw[κ he] at b;exact j nm he b
  ·unfold z8l
   rw[κ (q3V O).1];exact v k O
theorem DKO.iopen(h:DKO wb W g gl c s u cnt C sure K)(sd:Int)(d:0<=sd)(j:sd<18446744073709551616)(rate:Nat):
  Calls Tryz.prog 114 #[.pointer (some ⟨g,0,none⟩),.agg #[.int .i64 0,.int .i64 0,.int .u64 sd,.slice none 0 0],.float .f64 rate] W fun e w'=>
   ∃gx,e= .returned (.tuple #[.pointer (some ⟨gx,0,none⟩),.int .i64 0])/\IXO wb w' g gx gl rate sd c s u cnt C sure K/\Stay K W w':=by
 obtain⟨σ,φ,y,F,hF,o,r,D⟩:=h;refine(z5M (m:=⟨0,0,sd,[]⟩) hF (ao:=none) (cap:=0) (Grid.empty W) (υ _) (fun x I=>by cases I) d j rate).mono ?_;have G:q0c 0 0 []=true:=by decide
 rintro e w' (⟨b,_⟩|⟨_,b,_⟩|⟨_,_,b,_⟩|⟨_,_,_,gx,t,rfl,b,v,J⟩)
 ·rw[show q0c (⟨0,0,sd,[]⟩:Man).nx (⟨0,0,sd,[]⟩:Man).ck (⟨0,0,sd,[]⟩:Man).L=true from G] at b;cases b
 ·rw[o.1.up] at b;cases b
 ·exact absurd rfl b
 ·have E: ∀n,t n=none:=fun n=>by
   have:=J n
   cases hn:t n with
   |none=>rfl
   |some e=>rw[hn] at this;cases this
  exact⟨gx,rfl,⟨⟨d,j⟩,t,σ,φ,y,E,b,o,⟨r.1.same fun i l=>v i (.inr l),r.2⟩,D⟩,fun i l=>v i (.inl l)⟩
end
section
variable {wb w W W':World}{g gx gl rate:Nat}{m:Man}{ws:List En}{c s:Int}{u cnt:Nat}{B:List En}{C C':Cks}{sure sd:Int}{K K':Nat->Prop}{st:IxSt}{σ:DM}{φ:Fls}
theorem z5h{l:UInt8}(b:l=116\/l=98){n:Int}(j:0<=n/\n<=999999):q1W [] (q0E l n)=true:=by
 have d:q1n l=true:=by rcases b with rfl|rfl<;>decide
 have i:=q1u d j;unfold q1W;rw[i];rcases b with rfl|rfl<;>simp
theorem IXO.tells(h:IXO wb W g gx gl rate sd c s u cnt C sure K):Calls Tryz.prog 76 #[.pointer (some ⟨gx,0,none⟩)] W fun e w'=>
  ∃v b,e= .returned (.agg #[.int .i64 0,.int .i64 0,.int .u64 sd,v])/\OGr w' W.heap.size 44 3 v b []/\Ext W w':=by
 obtain⟨D,t,σ,φ,l,E,⟨F,d,j,Y,q⟩,o,r,y⟩:=h;exact q6o q.i.x
theorem IXO.grow(h:IXO wb W g gx gl rate sd c s u cnt C sure K)(k:Ext W W'):IXO wb W' g gx gl rate sd c s u cnt C sure K:=by
 obtain⟨l,t,σ,φ,d,o,r,i,b,j⟩:=h;exact⟨l,t,σ,φ,d,o,r.grow k,i,⟨b.1.ext k,b.2⟩,j⟩
theorem IXO.kExt(h:IXO wb W g gx gl rate sd c s u cnt C sure K)(k:Ext W W'):Stay K W W':=by
 obtain⟨v,t,σ,φ,j,y,d,l,o,r⟩:=h;exact fun i b=>d.kExt k i (.inl b)
theorem IXO.clean(h:IXO wb W g gx gl rate sd c s u cnt C sure K)(hG:Grid W ao 0 cap []):
  Calls Tryz.prog 115 #[.pointer (some ⟨g,0,none⟩),.agg #[.int .i64 0,.int .i64 0,.int .u64 sd,.slice ao 0 cap]] W fun e w'=>e= .returned (.int .i64 0)/\IXG wb w' g gx gl rate ⟨0,0,sd,[]⟩ [] c s u cnt [] C sure K/\Stay K W w':=by
 obtain⟨⟨N,O⟩,t,σ,φ,gv,X,h5,⟨b,⟨J,D⟩,E⟩,V,h8⟩:=h;have S:σ.down=false:=b.up;have o:σ.fail=false:=by obtain⟨l,M,_⟩:=b;exact M.fine
 have Q: ∀x∈q1a σ,x.length<=9223372036854775807:=fun x r=>by
  have U:φ x≠none:=by
   obtain⟨l,h1,_,h2,_⟩:=b;rw[h1.names] at r;rw[<-h2 x];obtain⟨y,hy,rfl⟩:=List.mem_map.1 r;intro j
   cases hf:q0F Prod.fst y.1 l with
   |some z=>rw[hf] at j;cases j
   |none=>exact q1t hf y hy rfl
  rcases D x U with⟨l,n,_,j,rfl⟩|⟨k,I,rfl⟩
  ·rw[q0W j,χ,q0d];decide
  ·rw[q0W (by omega),χ,q0d];decide
 refine(h5.disk (σ1:={σ with L:=σ.L.filter fun f=>!q1W [] f.nm}) (R:=fun e=>e= .returned (.int .i64 0)) fun F hd=>z4d hd S o Q (nx:=0) (ck:=0) (sd:=sd) hG (by simp)).mono ?_;rintro e w' ⟨he,k1,Y⟩;have hv:q0c 0 0 []=true:=by decide
 have v:=b.filt (fun nm=>!q1W [] nm);refine⟨he,⟨_,_,_,gv,rfl,rfl,rfl,υ _,k1,⟨⟨v,⟨hv,N,O⟩,(fun n j=>by cases j),(fun n e he=>by simp only at he;rw[X n] at he;cases he),fun nm d=>?_,okM.nil,okM.nil,fun x=>?_⟩,.inr ⟨?_,rfl,rfl,rfl⟩,fun k I=>?_⟩,⟨V.1.same fun i G=>Y i (.inr G),V.2⟩,h8⟩,fun i G=>Y i (.inl G)⟩
 ·by_cases hq:(!q1W [] nm)=true
  ·simp only[hq,if_true] at d
   rcases D nm d with⟨l,n,hl,j,rfl⟩|e
   ·rw[z5h hl j] at hq;cases hq
   ·exact .inr (.inr e)
  ·simp only[hq] at d
   exact absurd rfl d
 ·constructor
  ·intro r;cases r
  ·rintro(r|⟨n,e,he,_⟩)
   ·cases r
   ·simp only at he;rw[X n] at he;cases he
 ·simp only[z2k];exact J
 ·simp only[q8C I];exact E k I
end
section
variable {wb w W W':World}{g gx gl:Nat}{m:Man}{ws:List En}{c s:Int}{u cnt:Nat}{B:List En}{C C':Cks}{sure sd:Int}{K K':Nat->Prop}{st:IxSt}{σ:DM}{φ:Fls}
theorem z2W(C:Cks)(pos:Int):(q2J C pos).length<=(q0x 0 C).length:=List.length_filter_le _ _
theorem z7a{B i:List En}(h:okM i)(k: ∀x,x∈B↔x∈i):i.length<=B.length:=
 q6J (h.sort.imp fun {a b} d e=>by subst e;rw[q0Z] at d;cases d) fun x j=>(k x).2 j
theorem IXO.more{rate:Nat}(h:IXO wb W g gx gl rate sd c s u cnt C sure K)(k:Ext W W')(hK: ∀i,K' i->K i\/(W.heap.size<=i/\i<W'.heap.size)):IXO wb W' g gx gl rate sd c s u cnt C sure K':=by
 obtain⟨D,t,σ,φ,o,E,r,v,j,l⟩:=h;refine⟨D,t,σ,φ,o,E,r.more k (fun i b=>?_),v,⟨j.1.ext k,j.2⟩,fun i b=>⟨fun y=>?_,(l i b).2⟩⟩
 ·rcases b with b|b
  ·exact(hK i b).imp .inl id
  ·exact .inl (.inr b)
 ·rcases hK i y with d|⟨d,_⟩
  ·exact(l i b).1 d
  ·have:=j.1.lt b;omega
def y1r(wb W:World)(g gl:Nat)(rate:Nat)(m:Man)(c s:Int)(u cnt:Nat)(B:List En)(C:Cks)(sure:Int)(K:Nat->Prop)(sd:Int)(e:Ending)(w':World):Prop:=
 ((∃ gx m' B2 D an,e= .returned (.tuple #[.pointer (some ⟨gx,0,none⟩),.bool an,.int .i64 0])/\IXG wb w' g gx gl rate m' (q1O D []) c s u cnt (q1O D B2) C sure K/\z0e sd (q2J C m'.ck)=some D/\
   ((an=false/\m'=m.cut/\m.sd=sd/\m.ck<=q4h C/\0<m.nx/\ ∀x,x∈B↔x∈B2)\/(an=true/\m'=⟨0,0,sd,[]⟩/\B2=[]/\((m.nx=0/\m.ck=0/\m.L=[])\/m.sd≠sd\/q4h C<m.ck))))\/
  (e= .returned (.tuple #[.pointer none,.bool false,.int .i64 63])/\Ext wb w'/\((m.sd=sd/\z0e sd (q2J C m.ck)=none)\/z0e sd (q2J C 0)=none)))/\Stay K W w'
theorem z9b(h:DKR wb w g gl m c s u cnt B C sure K)(o0:m.L.flatten.length<=cnt)(hB:B.length+8*(q0x 0 C).length<=40000)(p0:0<=sd)(q0:sd<18446744073709551616)(rate:Nat):
  Calls Tryz.prog 63 #[.pointer (some ⟨g,0,none⟩),.pointer (some ⟨gl,0,none⟩),.int .u64 sd,.float .f64 rate] w (y1r wb w g gl rate m c s u cnt B C sure K sd):=by
 have f0:=h.man;have hb:=Man.bounds f0;have d0:=η (z9K h o0 sd rate);have a0:=η hB;have r0: ∀(W:World) (x y z t:Value),(Instr.field 71 (.agg #[x,y,z,t]) 2).run Tryz.prog W= .ok z W:=fun _ _ _ _ _=>rfl
 clear h hB;go_enter Tryz.func63,Tryz.ntmps63;go_wp2_with fail;refine d0.o.mono ?_;rintro e w1 ⟨hl,h0⟩;have HS:=η h0;clear h0 d0;rcases hl with⟨gx,B2,rfl,b,hm,X,n0,g0⟩|⟨n,rfl,hn,hd,O⟩
 ·have HM:=η hm
  have c0:=η (z7a b.okB.1 hm);obtain⟨M,hM⟩: ∃M,m.cut=M:=⟨_,rfl⟩
  have l0:=η hM;have S:Hd (M.ck=m.ck):=η (by rw[<-hM];rfl);have e0:Hd (M.sd=sd):=η (by rw[<-hM,<-X];rfl);have j0:Hd (0<=M.ck):=η (by rw[S.o];omega);have k0:Hd (M.ck<=9223372036854775807):=η (by rw[S.o];omega);rw[hM] at b;have J:=η b;clear b hm hM;have HT:=η J.o.tells;go_wp2_with fail;refine HT.o.mono ?_;rintro e I ⟨v,vs,rfl,ho,N⟩;obtain⟨ao,Y,rfl,hg⟩:=ho.grid;have hq:=q0B I (.cells #[.int .i64 M.nx,.int .i64 M.ck,.int .u64 M.sd,.slice ao M.L.length Y] 71);have j:=Blk.new I 71 #[.int .i64 M.nx,.int .i64 M.ck,.int .u64 M.sd,.slice ao M.L.length Y];have i0:=η ((J.o.grow N).more (K':=fun i=>K i\/i=I.heap.size) hq (fun i b=>b.imp id fun e=>⟨by omega,by rw[e];exact j.lt⟩));have U:=η (HS.o.trans (J.o.kExt (N.trans hq)));have HC:=η (((J.o.grow N).more (K':=fun i=>K i\/i=I.heap.size) hq (fun i b=>b.imp id fun e=>⟨by omega,by rw[e];exact j.lt⟩)).clean (hg.ext hq) M.nx M.ck M.sd);have Q:=η j;clear ho N hg hq j HT;go_wp2_with fail;refine HC.o.mono ?_;rintro e w3 ⟨rfl,b,d⟩;have E:=η (U.o.trans (fun i b=>d i (.inl b)));have F:=Q.o.same (d _ (.inr rfl));have c1:w3.cell? ⟨I.heap.size,1,none⟩=some (.int .i64 M.ck):=F.cell 1;have HR:=η (z2q b M.ck j0.o k0.o (by have h1:=z2W C M.ck;have h2:=a0.o;have h3:=c0.o;omega));clear b d F HC;go_wp2_with fail;refine HR.o.mono ?_;rintro e w4 ⟨D,b,d,(⟨G,rfl⟩|⟨G,rfl⟩)⟩
  ·have R:=η (b.beside (K':=K) fun i b=> .inl b)
   have r:=η (E.o.trans (fun i b=>d i (.inl b)));have l:=η G;clear b d G;go_wp2_with fail;go_ret3;exact⟨.inl ⟨gx,_,_,D,_,rfl,R.o,by rw[<-e0.o];exact l.o,.inl ⟨rfl,l0.o.symm,X,n0,g0,HM.o⟩⟩,r.o⟩
  ·have V:=η b.base
   have r:=η (E.o.trans (fun i b=>d i (.inl b)));have l:=η G;clear b d G;go_wp2_with fail;go_ret3;exact⟨.inr ⟨rfl,V.o,.inl ⟨X,by rw[<-S.o,<-e0.o];exact l.o⟩⟩,r.o⟩
 ·have HD:=η hd;have HW:=η O
  have b0:=η hd.gone;clear hd O;rcases hn with rfl|rfl
  all_goals
   go_wp2_with fail;refine b0.o.mono ?_;rintro e w5 ⟨he,hd,d⟩;have HO:=η (hd.iopen sd p0 q0 rate);have m0:=η (HS.o.trans d);clear hd d;rcases he with rfl|rfl
   all_goals
    go_wp2_with fail;refine HO.o.mono ?_;rintro e w6 ⟨gx,rfl,b,d⟩;have J:=η b;have HS:=η (m0.o.trans d);clear b d HO b0;have HT:=η J.o.tells;go_wp2_with fail;refine HT.o.mono ?_;rintro e I ⟨v,vs,rfl,ho,N⟩;obtain⟨ao,Y,rfl,hg⟩:=ho.grid;have hq:=q0B I (.cells #[.int .i64 0,.int .i64 0,.int .u64 sd,.slice ao 0 Y] 71);have j:=Blk.new I 71 #[.int .i64 0,.int .i64 0,.int .u64 sd,.slice ao 0 Y];have i0:=η ((J.o.grow N).more (K':=fun i=>K i\/i=I.heap.size) hq (fun i b=>b.imp id fun e=>⟨by omega,by rw[e];exact j.lt⟩));have U:=η (HS.o.trans (J.o.kExt (N.trans hq)));have HC:=η (((J.o.grow N).more (K':=fun i=>K i\/i=I.heap.size) hq (fun i b=>b.imp id fun e=>⟨by omega,by rw[e];exact j.lt⟩)).clean (ao:=ao) (cap:=Y) (hg.ext hq));have Q:=η j;clear ho N hg hq j HT;go_wp2_with fail;refine HC.o.mono ?_;rintro e w3 ⟨rfl,b,d⟩;have E:=η (U.o.trans (fun i b=>d i (.inl b)));have F:=Q.o.same (d _ (.inr rfl));have c1:w3.cell? ⟨I.heap.size,1,none⟩=some (.int .i64 0):=F.cell 1;have HR:=η (z2q b 0 (by decide) (by decide) (by have h1:=z2W C 0;have h2:=a0.o;rw[List.length_nil];omega));clear b d F HC;go_wp2_with fail;refine HR.o.mono ?_;rintro e w4 ⟨D,b,d,(⟨G,rfl⟩|⟨G,rfl⟩)⟩
    ·have R:=η (b.beside (K':=K) fun i b=> .inl b)
     have r:=η (E.o.trans (fun i b=>d i (.inl b)));have l:=η G;clear b d G;go_wp2_with fail;go_ret3;exact⟨.inl ⟨gx,_,_,D,_,rfl,R.o,l.o,.inr ⟨rfl,rfl,rfl,HW.o⟩⟩,r.o⟩
    ·have V:=η b.base
     have r:=η (E.o.trans (fun i b=>d i (.inl b)));have l:=η G;clear b d G;go_wp2_with fail;go_ret3;exact⟨.inr ⟨rfl,V.o,.inr l.o⟩,r.o⟩
end
def DKQ(wb W:World)(g:Nat)(m:Man)(c s:Int)(u cnt:Nat)(B:List En)(C:Cks)(K:Nat->Prop):Prop:=
 ∃st σ φ F,st.m=m/\st.w=[]/\DkF wb W g F σ K/\(PInv st σ c s φ u cnt B/\z0h φ m/\q8T φ C)/\okC C
section
variable {wb w W W':World}{g gl gs gx rate:Nat}{m:Man}{ws:List En}{c s sd:Int}{u cnt:Nat}{B:List En}{C:Cks}{P:Pbs}{sure:Int}{K K':Nat->Prop}
theorem DKQ.lopen(h:DKQ wb w g m c s u cnt B C K):Calls Tryz.prog 62 #[.pointer (some ⟨g,0,none⟩)] w fun e w'=> ∃gl,e= .returned (.tuple #[.pointer (some ⟨gl,0,none⟩),.int .i64 0])/\DKR wb w' g gl m c s u cnt B C (q4h C) K/\Stay K w w':=by
 obtain⟨st,σ,φ,F,Q,R,S,⟨I,o,y⟩,U⟩:=h;obtain⟨E,N,O,e3,e4⟩:=q7J I y U;refine(y0m (E:=E) (C:=C) (c:=c-(q2G E:Int)) (s:=s) (K:=K) (w0:=wb) ⟨F,σ,S,N⟩).mono ?_;rintro e w' ⟨gl,rfl,_,⟨M,v,σ',b,J⟩,G⟩;obtain⟨r,X,Y,p3⟩:=I.relog O J b.d.okD (u':=u) (cnt':=cnt) (by omega) (by omega);have hm:r mapN=φ mapN:=p3 mapN fun k D e=>(q3V D).1 e.symm
 refine⟨gl,rfl,⟨st,σ',r,v,M,Q,R,⟨b.d,b.bF,b.ext,fun i j=>?_⟩,⟨X,by unfold z0h;rw[hm];exact o,Y⟩,⟨b.l,J.ok⟩,fun i j=>⟨fun D=>(b.k i D).2.2 j,b.bG i j⟩⟩,G⟩;rcases j with j|j
 ·exact⟨(b.k i j).1,(b.k i j).2.1⟩
 ·exact⟨b.l.lt j,fun V=>b.ap i V j⟩
structure StoP(wb W:World)(g gs gl gx rate:Nat)(m:Man)(ws:List En)(sd c s:Int)(u cnt:Nat)(B:List En)(C:Cks)(sure:Int)(P:Pbs)(K:Nat->Prop):Prop where
 i:IXG wb W g gx gl rate m ws c s u cnt B C sure (fun i=>K i\/i=gs)
 b:Blk W gs 137 #[.pointer (some ⟨gl,0,none⟩),.pointer (some ⟨gx,0,none⟩),.int .u64 sd]
 sdE:m.sd=sd
 recE:q0x 0 C=z4N P
 stE:StI sd B P
 ckE:m.ck<=q4h C
 wsE: ∀x∈ws,m.ck<=x.2.2
 k:¬K gs/\wb.heap.size<=gs
theorem StoP.grow(h:StoP wb W g gs gl gx rate m ws sd c s u cnt B C sure P K)(k:Ext W W'):StoP wb W' g gs gl gx rate m ws sd c s u cnt B C sure P K:=
 ⟨h.i.grow k,h.b.ext k,h.sdE,h.recE,h.stE,h.ckE,h.wsE,h.k⟩
theorem StoP.base(h:StoP wb W g gs gl gx rate m ws sd c s u cnt B C sure P K):Ext wb W:=h.i.base
theorem StoP.kExt(h:StoP wb W g gs gl gx rate m ws sd c s u cnt B C sure P K)(k:Ext W W'):Stay K W W':=fun i b=>h.i.kExt k i (.inl b)
theorem StoP.klt(h:StoP wb W g gs gl gx rate m ws sd c s u cnt B C sure P K): ∀i,K i->i<W.heap.size:=fun i b=>h.i.klt i (.inl b)
theorem StoP.more(h:StoP wb W g gs gl gx rate m ws sd c s u cnt B C sure P K)(k:Ext W W')(hK: ∀i,K' i->K i\/(W.heap.size<=i/\i<W'.heap.size)):StoP wb W' g gs gl gx rate m ws sd c s u cnt B C sure P K':=
 ⟨h.i.more k fun i d=>by
  rcases d with d|d
  ·exact(hK i d).imp .inl id
  ·exact .inl (.inr d),h.b.ext k,h.sdE,h.recE,h.stE,h.ckE,h.wsE,fun l=>by
  rcases hK gs l with j|j
  ·exact h.k.1 j
  ·have:=h.b.lt;omega,h.k.2⟩
theorem StoP.beside(h:StoP wb W g gs gl gx rate m ws sd c s u cnt B C sure P K)(k: ∀i,K' i->K i):StoP wb W g gs gl gx rate m ws sd c s u cnt B C sure P K':=
 ⟨h.i.beside fun i d=>d.imp (k i) id,h.b,h.sdE,h.recE,h.stE,h.ckE,h.wsE,fun j=>h.k.1 (k gs j),h.k.2⟩
theorem StoP.sideM(h:StoP wb W g gs gl gx rate m ws sd c s u cnt B C sure P K)(r:W.heap.size<=W'.heap.size)(v:Ext wb W')(k: ∀i,i<W.heap.size->¬K i->W'.heap[i]? =W.heap[i]?)(hK: ∀i,K' i->K i\/(W.heap.size<=i/\i<W'.heap.size)):
  StoP wb W' g gs gl gx rate m ws sd c s u cnt B C sure P K':=
 ⟨h.i.sideM r v (fun i d o=>k i d fun e=>o (.inl e)) fun i d=>by
  rcases d with d|d
  ·exact(hK i d).imp .inl id
  ·exact .inl (.inr d),h.b.same (k gs h.b.lt h.k.1),h.sdE,h.recE,h.stE,h.ckE,h.wsE,fun l=>by
  rcases hK gs l with j|j
  ·exact h.k.1 j
  ·have:=h.b.lt;omega,h.k.2⟩
theorem StoP.mono(h:StoP wb W g gs gl gx rate m ws sd c s u cnt B C sure P K){u' cnt':Nat}(d:u<=u')(hc:cnt<=cnt'):StoP wb W g gs gl gx rate m ws sd c s u' cnt' B C sure P K:=
 ⟨h.i.mono d hc,h.b,h.sdE,h.recE,h.stE,h.ckE,h.wsE,h.k⟩
theorem StoP.stay(h:StoP wb W g gs gl gx rate m ws sd c s u cnt B C sure P K){d:Int}{j:Nat->Prop}(r:IXG wb W' g gx gl rate m ws c s u cnt B C d (fun i=>j i\/i=gs))(y:Stay (fun i=>K i\/i=gs) W W')(v: ∀i,j i->K i\/W.heap.size<=i):StoP wb W' g gs gl gx rate m ws sd c s u cnt B C d P j:=
 ⟨r,h.b.same (y gs (.inr rfl)),h.sdE,h.recE,h.stE,h.ckE,h.wsE,fun l=>by
  rcases v gs l with o|o
  ·exact h.k.1 o
  ·have:=h.b.lt;omega,h.k.2⟩
theorem StoP.cells(h:StoP wb W g gs gl gx rate m ws sd c s u cnt B C sure P K):W.cell? ⟨gs,0,none⟩=some (.pointer (some ⟨gl,0,none⟩))/\W.cell? ⟨gs,1,none⟩=some (.pointer (some ⟨gx,0,none⟩))/\W.cell? ⟨gs,2,none⟩=some (.int .u64 sd):=⟨h.b.cell 0,h.b.cell 1,h.b.cell 2⟩
theorem StoP.okB(h:StoP wb W g gs gl gx rate m ws sd c s u cnt B C sure P K):okM B:=h.i.okB.1
theorem StoP.len(h:StoP wb W g gs gl gx rate m ws sd c s u cnt B C sure P K):B.length<=(tos (q1j P)).length:=h.stE.len h.okB.sort
theorem q7F(P:Pbs):(z4N P).length=P.length:=List.length_map _
theorem StoP.posLt(h:StoP wb W g gs gl gx rate m ws sd c s u cnt B C sure P K){y:Nat×Bt}(b:y∈P):(y.1,btB y.2)∈q0x 0 C:=by rw[h.recE];exact List.mem_map.2 ⟨y,b,rfl⟩
end
section
variable {wb w W W':World}{g gl gs gx rate:Nat}{m:Man}{ws:List En}{c s sd:Int}{u cnt:Nat}{B:List En}{C:Cks}{P:Pbs}{sure:Int}{K K':Nat->Prop}
theorem StoP.poke(h:StoP wb W g gs gl gx rate m ws sd c s u cnt B C sure P K)(hq:K q)(b:wb.heap.size<=q)(j:Nat)(v:Value):StoP wb (W.setCell ⟨q,j,none⟩ v) g gs gl gx rate m ws sd c s u cnt B C sure P K:=
 h.sideM (by rw[World.size_setCell];exact ι _) (Below.setCell h.base b _) (fun i d l=>q0J _ _ fun e=>l (e▸hq)) fun i d=> .inl d
theorem Stay.poke{K:Nat->Prop}{w W:World}(h:Stay K w W)(hq:¬K q)(j:Nat)(v:Value):Stay K w (W.setCell ⟨q,j,none⟩ v):=fun i b=>(q0J _ _ fun e=>hq (by rw[<-e];exact b)).trans (h i b)
def z2V(r:Option To):Value:=match r with
 |some t=> .tuple #[toV t,.bool true,.int .i64 0]
 |none=> .tuple #[toV to0,.bool false,.int .i64 0]
theorem z8v{e:Ev}(h:z8S e):(evB e).length<=228:=by
 obtain⟨_,b,d⟩:=q1s h.1;unfold evB;rw[q2Z (by omega),q2Z (by omega)];simp[q0G];omega
theorem z2Q : ∀{L:List Ev},(∀e∈L,z8S e)->((L.map evB).flatten).length<=228*L.length
 |[],_=>ι _
 | e::L,h=>by
  have d:=z8v (h e (.head _));have i:=z2Q (L:=L) fun x b=>h x (.tail _ b)
  rw[List.map_cons,List.flatten_cons,θ,χ];omega
theorem z4W{b:Bt}(h:z4L b):(btB b).length<=2000:=by
 obtain⟨j,l,o,r,v,y,d⟩:=q0j h.1;have i:=z2Q (L:=b.ev) fun e he=>⟨q4L d e he,h.2 e he⟩
 unfold btB;rw[q2Z (by omega),θ,θ,θ,θ,q0G,q0G,q0G];omega
theorem StoP.ent(h:StoP wb W g gs gl gx rate m ws sd c s u cnt B C sure P K)(r:x∈B)(d:List UInt8):
  ∃ (b:Bt) (k pos:Nat),z4L b/\q5O C (pos:Int)=(btB b,0)/\pos<=819200/\k<b.ev.length/\x=(q2K sd b.st,(b.fi:Int)+(k:Int),(pos:Int))/\
   q2B P d x=if b.st=d then some ⟨d,((b.fi+k:Nat):Int),b.ev.getD k ev0⟩ else none:=by
 obtain⟨y,j,k,l,rfl⟩:=mem_entsP.1 ((h.stE.ents x).1 r);have o:=h.posLt j;exact⟨y.2,k,y.1,h.stE.ok.each (List.mem_map.2 ⟨y,j,rfl⟩),z5v h.i.cOk o,z7t h.i.cOk o,l,rfl,q5I h.stE.pos j l d⟩
theorem y1h{W:World}{t:TypeId}{a b c d e:Value}(h:Blk W q t #[a,b,c,d,e])(i j l o:Value):
  (W.cell? ⟨q,0,none⟩=some a/\W.cell? ⟨q,1,none⟩=some b/\W.cell? ⟨q,2,none⟩=some c/\W.cell? ⟨q,3,none⟩=some d/\W.cell? ⟨q,4,none⟩=some e)/\
  (W.frozen? ⟨q,0,none⟩=false/\W.frozen? ⟨q,1,none⟩=false/\W.frozen? ⟨q,2,none⟩=false/\W.frozen? ⟨q,3,none⟩=false/\W.frozen? ⟨q,4,none⟩=false)/\
  (((W.setCell ⟨q,0,none⟩ i).setCell ⟨q,1,none⟩ j).frozen? ⟨q,2,none⟩=false/\((W.setCell ⟨q,0,none⟩ i).setCell ⟨q,1,none⟩ j).cell? ⟨q,2,none⟩=some c)/\
  ((((W.setCell ⟨q,0,none⟩ i).setCell ⟨q,1,none⟩ j).setCell ⟨q,2,none⟩ l).frozen? ⟨q,3,none⟩=false/\(((W.setCell ⟨q,0,none⟩ i).setCell ⟨q,1,none⟩ j).setCell ⟨q,2,none⟩ l).cell? ⟨q,3,none⟩=some d)/\
  (((((W.setCell ⟨q,0,none⟩ i).setCell ⟨q,1,none⟩ j).setCell ⟨q,2,none⟩ l).setCell ⟨q,3,none⟩ o).frozen? ⟨q,4,none⟩=false/\((((W.setCell ⟨q,0,none⟩ i).setCell ⟨q,1,none⟩ j).setCell ⟨q,2,none⟩ l).setCell ⟨q,3,none⟩ o).cell? ⟨q,4,none⟩=some e):=by
 have r:=(h.set 0 i).set 1 j;have v:=r.set 2 l;have y:=v.set 3 o;exact⟨⟨h.cell 0,h.cell 1,h.cell 2,h.cell 3,h.cell 4⟩,⟨h.free 0,h.free 1,h.free 2,h.free 3,h.free 4⟩,⟨r.free 2,r.cell 2⟩,⟨v.free 3,v.cell 3⟩,⟨y.free 4,y.cell 4⟩⟩
theorem z8w(h:StoP wb w g gs gl gx rate m ws sd c s u cnt B C sure P K)(V:x∈B)(J:List UInt8)(hs:J.length<=4611686018427387903):
  Calls Tryz.prog 119 #[.pointer (some ⟨gs,0,none⟩),enV x,.string ⟨J.toArray⟩] w fun e w'=>e= .returned (z2V (q2B P J x))/\StoP wb w' g gs gl gx rate m ws sd c s u cnt B C sure P K/\Stay K w w':=by
 obtain⟨b,k,pos,hb,g0,A0,hk,rfl,hf⟩:=h.ent V J;have e0:=z5I b hb;have x0:=z4W hb;obtain⟨q1,q2,q3,q4,q5,q6,q7⟩:=q0j hb.1;rw[hf];show Calls _ _ #[_,.agg #[.int .u64 (q2K sd b.st),.int .i64 ((b.fi:Int)+(k:Int)),.int .i64 (pos:Int)],_] _ _;generalize q2K sd b.st=xh;obtain⟨p,hp⟩: ∃p,btB b=p:=⟨_,rfl⟩
 rw[hp] at g0 e0 x0;have HG:=η (fun W=>z8L p W (by omega));rw[e0] at HG;have h0:=q0B w (.cells #[.int .u64 xh,.int .i64 ((b.fi:Int)+(k:Int)),.int .i64 (pos:Int)] 159);have O:=q0B (w.alloc (.cells #[.int .u64 xh,.int .i64 ((b.fi:Int)+(k:Int)),.int .i64 (pos:Int)] 159)) (.cells #[.string ⟨#[]⟩,.int .i64 0,.string ⟨#[]⟩,.string ⟨#[]⟩,.float .f64 0] 57);have G:=(Blk.new w 159 #[.int .u64 xh,.int .i64 ((b.fi:Int)+(k:Int)),.int .i64 (pos:Int)]).ext O;have X:=Blk.new (w.alloc (.cells #[.int .u64 xh,.int .i64 ((b.fi:Int)+(k:Int)),.int .i64 (pos:Int)] 159)) 57 #[.string ⟨#[]⟩,.int .i64 0,.string ⟨#[]⟩,.string ⟨#[]⟩,.float .f64 0];rw[ρ] at X;have w0:=h.base.size;have H0:=h.more (K':=fun i=>K i\/i=w.heap.size\/i=w.heap.size+1) (h0.trans O) fun i r=>r.imp id fun e=>by
  rw[ρ,ρ];omega
 have p0:=h.kExt (h0.trans O);have r0:¬K (w.heap.size+1):=fun e=>by have:=h.klt _ e;omega
 have HR:=η (fun W k=>(H0.grow (W':=W) k).i.read (pos:Int) (by omega) (by omega) g0);have k0:=G.cell 0;have k1:=G.cell 1;have k2:=G.cell 2;obtain⟨s0,s1,s2⟩:=H0.cells;have HH:=η H0;have n0:=η p0;have i0:=η G;have l0:=η X;have F:=η r0;have E:Hd (wb.heap.size<=w.heap.size+1):=η (by omega);clear h V hf hb e0 h0 O H0 p0 G X r0 w0 g0;go_enter Tryz.func119,Tryz.ntmps119;go_wp2_with fail;have d0:=q0A (Ext.refl _).drew s0;have d2:=q0A (Ext.refl _).drew k2
 go_region_held3 (fun W=>W.cell? ⟨gs,0,none⟩=some (.pointer (some ⟨gl,0,none⟩))/\W.cell? ⟨w.heap.size,2,none⟩=some (.int .i64 (pos:Int)))
  (first|exact m0.o|exact⟨d0,d2⟩)
  (first|(go_at_call 177;refine(HR.o _ (Ext.refl _).drew).mono ?_;rintro e w3 ⟨rfl,r,I⟩;have M:=η ((HH.o.grow (Ext.refl _).drew).stay r I fun i r=> .inl r);have o0:=η (n0.o.trans fun i r=>I i (.inl (.inl r)));have D:=η ((i0.o.ext (Ext.refl _).drew).same (I _ (.inl (.inr (.inl rfl)))));have Q:=η ((l0.o.ext (Ext.refl _).drew).same (I _ (.inl (.inr (.inr rfl)))));have m0:=η (And.intro M.o.cells.1 (D.o.cell 2));clear r I))
 clear m0 d0 d2;clear HR HH n0 i0 l0 k0 k1 k2 s0 s1 s2;generalize w.heap.size=q at*;go_wp2_with fail;refine(HG.o _).mono ?_;rintro e w4 ⟨⟨y,rfl,hy⟩,V⟩;obtain⟨x,rfl,d⟩:=hy;obtain⟨ao,cp,rfl,j⟩:=Evs.of_own d;have q0:=j.fits;have B0:=j.bound;obtain⟨st,fi,ev⟩:=b;simp only at hk q1 q2 q3 q4 q5 q6 j q0 d⊢;obtain⟨n,hn⟩: ∃n,ev.length=n:=⟨_,rfl⟩
 rw[hn] at hk q4 q6 j q0 d⊢;have l:=q0B w4 (.cells #[.string ⟨st.toArray⟩,.int .i64 (fi:Int),.slice ao n cp] 153);have N:=Blk.new w4 153 #[.string ⟨st.toArray⟩,.int .i64 (fi:Int),.slice ao n cp];have u0:=η (M.o.grow (V.trans l));have v0:=η (o0.o.trans fun i r=>M.o.kExt (V.trans l) i (.inl r));have j0:=η (D.o.ext (V.trans l));have R:=η (Q.o.ext (V.trans l));have S:=j.ext l;have k1:=j0.o.cell 1;have b0:=N.cell 0;have b1:=N.cell 1;have b2:=N.cell 2;have qi:IntKind.i64.wrap ((fi:Int)+(k:Int)-(fi:Int))=(k:Int):=by rw[ν];omega
 have C0:decide ((k:Int)<0)=false:=ε (by omega);have D0:decide ((n:Int)<=(k:Int))=false:=ε (by omega);have F0:(k:Int)<(n:Int):=by omega
 have E0:0<=(k:Int):=by omega
 have G0:=q2p;obtain⟨bb,off,rfl,c0,c1,c2⟩:=S.at hk;obtain⟨ee,Y⟩: ∃ee,ev.getD k ev0=ee:=⟨_,rfl⟩
 rw[Y] at c0 c1 c2;obtain⟨ty,da,we⟩:=ee;have t0:Hd (∀h:k<ev.length,ev[k]=⟨ty,da,we⟩):=η fun h=>by rw[<-Y,δ,γ h];rfl
 simp only at c0 c1 c2⊢;have U: ∀(W:World),W=w4.alloc (.cells #[.string ⟨st.toArray⟩,.int .i64 (fi:Int),.slice (some ⟨bb,off,none⟩) n cp] 153)-> ∀a0 a1 a2 a3 a4:Value,
   StoP wb (((((W.setCell ⟨q+1,0,none⟩ a0).setCell ⟨q+1,1,none⟩ a1).setCell ⟨q+1,2,none⟩ a2).setCell ⟨q+1,3,none⟩ a3).setCell ⟨q+1,4,none⟩ a4) g gs gl gx rate m ws sd c s u cnt B C sure P K/\
    Stay K w (((((W.setCell ⟨q+1,0,none⟩ a0).setCell ⟨q+1,1,none⟩ a1).setCell ⟨q+1,2,none⟩ a2).setCell ⟨q+1,3,none⟩ a3).setCell ⟨q+1,4,none⟩ a4):=fun W hW a0 a1 a2 a3 a4=>by
  subst hW;have e: ∀i:Nat,(fun i=>K i\/i=q\/i=q+1) (q+1):=fun _=> .inr (.inr rfl)
  exact⟨(((((u0.o.poke (e 0) E.o 0 a0).poke (e 0) E.o 1 a1).poke (e 0) E.o 2 a2).poke (e 0) E.o 3 a3).poke (e 0) E.o 4 a4).beside fun i r=> .inl r,
   ((((v0.o.poke F.o 0 a0).poke F.o 1 a1).poke F.o 2 a2).poke F.o 3 a3).poke F.o 4 a4⟩
 have HF:=η U;clear Y V l d j S N U HG o0 M D Q q7;by_cases y0:st=J
 ·subst y0
  obtain⟨⟨z0,z1,z2,z3,z4⟩,⟨f0,f1,f2,f3,f4⟩,⟨g2,d2⟩,⟨g3,d3⟩,⟨g4,d4⟩⟩:=y1h R.o (.string ⟨st.toArray⟩) (.int .i64 ((fi:Int)+(k:Int))) (.string ⟨ty.toArray⟩) (.string ⟨da.toArray⟩);go_wp2_with fail;refine q9P 9 (by kernel_rfl) (by kernel_rfl) ?_;simp only[List.take_succ_cons,List.take_zero,List.drop_succ_cons,List.drop_zero]
  repeat still_step
  refine wpStill_nil ?_;go_wp2_with fail
  ((try simp only[Exit.inBlock,Exit.then]);refine bodyPost_ret (v:= .tuple #[.agg #[.string ⟨st.toArray⟩,.int .i64 ((fi:Int)+(k:Int)),.string ⟨ty.toArray⟩,.string ⟨da.toArray⟩,.float .f64 we],.bool true,.int .i64 0]) (by rw[q0O rfl];go_simp) rfl ?_)
  obtain⟨r1,r2⟩:=HF.o _ rfl (.string ⟨st.toArray⟩) (.int .i64 ((fi:Int)+(k:Int))) (.string ⟨ty.toArray⟩) (.string ⟨da.toArray⟩) (.float .f64 we);exact⟨by rw[t0.o];rfl,r1.grow (Ext.refl _).drew,r2⟩
 ·obtain⟨⟨z0,z1,z2,z3,z4⟩,⟨f0,f1,f2,f3,f4⟩,⟨g2,d2⟩,⟨g3,d3⟩,⟨g4,d4⟩⟩:=y1h R.o (.string ⟨#[]⟩) (.int .i64 0) (.string ⟨#[]⟩) (.string ⟨#[]⟩)
  go_wp2_with fail
  ((try simp only[Exit.inBlock,Exit.then]);refine bodyPost_ret (v:= .tuple #[.agg #[.string ⟨#[]⟩,.int .i64 0,.string ⟨#[]⟩,.string ⟨#[]⟩,.float .f64 0],.bool false,.int .i64 0]) (by rw[q0O rfl];go_simp) rfl ?_)
  exact⟨rfl,HF.o _ rfl _ _ _ _ _⟩
end
section
variable {wb w W W1 W2:World}{g gl gs gx rate:Nat}{m:Man}{ws:List En}{c s sd:Int}{u cnt:Nat}{B:List En}{C:Cks}{P:Pbs}{sure:Int}{K K':Nat->Prop}
theorem StoP.row1{O I base:Nat}{vq j:Value}{R D:List Value}{l:Obj}{ti:TypeId}(h:StoP wb W g gs gl gx rate m ws sd c s u cnt B C sure P (fun i=>K i\/vq.ownBlock=some i))(S:wb.heap.size<=base)(hq:W.ownsRow base ti I vq n R)
  (J:W2.ownsRow base ti I j O D)(o:(W.alloc l).grownBy W2 vq.ownBlock)(E:j.ownBlock=vq.ownBlock\/j.ownBlock=some (W.alloc l).heap.size)(G: ∀i,K i->vq.ownBlock≠some i):
  StoP wb W2 g gs gl gx rate m ws sd c s u cnt B C sure P (fun i=>K i\/j.ownBlock=some i)/\Stay K W W2/\ ∀i,K i->j.ownBlock≠some i:=by
 have Q:=o.size;rw[ρ] at Q;have v: ∀i,vq.ownBlock=some i->base<=i/\i<W.heap.size:=q0X hq;have F: ∀i,i<W.heap.size->vq.ownBlock≠some i->W2.heap[i]? =W.heap[i]? :=fun i b r=>(o.block i (by rw[ρ];omega) fun e=>r e.symm).trans ((q0B W l).block i b)
 have d:=h.base;have y:Ext wb W2:=Below.grown (d.alloc l) o (by rw[ρ];have:=d.size;omega) fun k M=>by have:=(v k M).1;omega
 refine⟨h.sideM (by omega) y (fun i b r=>F i b fun e=>r (.inr e)) fun i b=>?_,fun i b=>F i (h.klt i (.inl b)) (G i b),fun i b e=>?_⟩
 ·rcases b with b|b
  ·exact .inl (.inl b)
  ·rcases E with k|k
   ·exact .inl (.inr (k.symm.trans b))
   ·have N:=(q0X J i b).2
    rw[k,ρ] at b
    cases b
    right;omega
 ·rcases E with k|k
  ·exact G i b (k.symm.trans e)
  ·rw[k,ρ] at e
   cases e;have:=h.klt _ (.inl b);omega
theorem q6U(h :StoP wb w g gs gl gx rate m ws sd c s u cnt B C sure P K)(d:List UInt8)(hs:d.length<=4611686018427387903)(fr tt:Int)(hl:B.length<=10000){R:List To}
  (hR:(q4n (q1j P) d).filter (fun t=>decide (max fr 0<=t.v/\t.v<=min tt 1073741824))=R):
  Calls Tryz.prog 67 #[.pointer (some ⟨gs,0,none⟩),.string ⟨d.toArray⟩,.int .i64 fr,.int .i64 tt] w fun e w'=>
   ∃v,e= .returned (.tuple #[v,.int .i64 0])/\StoP wb w' g gs gl gx rate m ws sd c s u cnt B C sure P (fun i=>K i\/v.ownBlock=some i)/\Stay K w w'/\w'.ownsRow wb.heap.size 57 5 v R.length (q3u R)/\ ∀i,K i->v.ownBlock≠some i:=by
 have E0:=h.stE.between h.okB.sort d (max fr 0) (min tt 1073741824);rw[hR] at E0;have P0:(q0m B (q2K sd d) (max fr 0) (min tt 1073741824)).length<=10000:=Ω (List.length_filter_le _ _) hl;have h0: ∀x∈q0m B (q2K sd d) (max fr 0) (min tt 1073741824),x∈B:=fun x hx=>(mem_range.1 hx).1
 have v0:=η (fun W=>z2Z sd d W hs);have y0:=η (fun W (k:Ext w W)=>(h.grow (W':=W) k).i.range (q2K sd d) fr tt hl);obtain⟨s0,s1,s2⟩:=h.cells;have HH:=η h;have T0:=h.base.size;have O0: ∀x∈q0m B (q2K sd d) (max fr 0) (min tt 1073741824),x∈B:=h0;generalize q0m B (q2K sd d) (max fr 0) (min tt 1073741824)=L at*;generalize q2K sd d=hh at*;have d1:=q0A (Ext.refl _).drew s1;have d2:=q0A (Ext.refl _).drew s2;clear h hR s0 s1 s2;go_enter Tryz.func67,Tryz.ntmps67;go_wp2_with fail
 go_region_held3 (fun W=>W.cell? ⟨gs,1,none⟩=some (.pointer (some ⟨gx,0,none⟩))/\W.cell? ⟨gs,2,none⟩=some (.int .u64 sd))
  (first|exact u0.o|exact⟨d1,d2⟩)
  (first
   |(go_at_call 86;refine(v0.o _).mono ?_;rintro e wa ⟨rfl,rfl⟩)
   |(go_at_call 118;refine(y0.o _ (Ext.refl _).drew).mono ?_;rintro e w3 ⟨v,rfl,j,F,l⟩;have e0:=η l;have w0:=η j;have j0:=η F;have u0:=η (And.intro (((HH.o.grow (Ext.refl _).drew).b.same (F _ (.inr rfl))).cell 1) (((HH.o.grow (Ext.refl _).drew).b.same (F _ (.inr rfl))).cell 2));clear j F l))
 all_goals
  clear u0 d1 d2 v0 y0;have l:=e0.o;obtain⟨ao,U,rfl⟩:=q0H l
  have I0:Hd (StoP wb w3 g gs gl gx rate m ws sd c s u cnt B C sure P (fun i=>(K i\/(Value.slice ao L.length U).ownBlock=some i)\/(Value.slice none 0 0).ownBlock=some i)):=η ((HH.o.grow (Ext.refl _).drew).stay (w0.o.beside fun i j=>by
   rcases j with((j|j)|j)|j
   ·exact .inl (.inl j)
   ·exact .inr j
   ·cases j
   ·exact .inl (.inr j)) j0.o fun i j=>by
   rcases j with(j|j)|j
   ·exact .inl j
   ·exact .inr (q0X l i j).1
   ·cases j)
  have A0:Hd (Stay K w w3):=η fun i j=>j0.o i (.inl j)
  have Q0:Hd (∀i,K i->(Value.slice ao L.length U).ownBlock≠some i):=η fun i j e=>by
   have h1:=HH.o.klt i j;have h2:w.heap.size<=i:=(q0X l i e).1;omega
  have M0:=l;have x0:Hd (L.length<=U/\U<=9223372036854775807):=η (by obtain⟨_,_,h1,h2⟩:=Ens.of_own (Own.of_row l);cases h1;exact⟨h2.fits,h2.bound⟩);have b1:=x0.o.1;have b2:=x0.o.2;clear l M0 w0 j0;go_wp2_with fail
  go_loopw [12,39] (fun o i W=> ∃(k:Nat) (v:Value),k<=L.length/\o=v/\i= .int .i64 (k:Int)/\W.ownsRow wb.heap.size 57 5 v ((L.take k).filterMap (q2B P d)).length (q3u ((L.take k).filterMap (q2B P d)))/\
   StoP wb W g gs gl gx rate m ws sd c s u cnt B C sure P (fun i=>(K i\/(Value.slice ao L.length U).ownBlock=some i)\/v.ownBlock=some i)/\Stay K w W/\W.ownsRow w.heap.size 159 3 (.slice ao L.length U) L.length (ecs L)/\ ∀i,(K i\/(Value.slice ao L.length U).ownBlock=some i)->v.ownBlock≠some i) (fun _ i _=>L.length-(intOf i).toNat)
  case atStart=>exact⟨0,_,υ _,rfl,rfl,World.ownsRow_nil _ _ _ _,I0.o,A0.o,e0.o,fun i _ e=>by cases e⟩
  case round =>
   obtain⟨k,v,hk,rfl,rfl,b0,F,o0,a0,m0⟩:=hrel;have V:=η b0;have X:=η F;have l0:=η o0;have z0:=η a0;have M:=η m0;obtain⟨oa,oc,rfl⟩:=q0H b0;by_cases S:k<L.length
   ·have hd:decide ((k:Int)<(L.length:Int))=true:=ζ (by omega)
    have q8:IntKind.i64.wrap ((k:Int)+1)=(k:Int)+1:=by rw[ν];omega
    have R0:(k:Int)<(L.length:Int):=by omega
    obtain⟨_,_,L0,g0⟩:=Ens.of_own (Own.of_row a0)
    cases L0;obtain⟨bb,off,rfl,c0,c1,c2⟩:=g0.at S;have p0:L.take (k+1)=L.take k++[L.getD k en0]:=by rw[List.take_succ_eq_append_getElem S,δ,γ S];rfl
    have r0:=h0 (L.getD k en0) (by rw[δ,γ S];exact List.getElem_mem S);obtain⟨x,hx⟩: ∃x,L.getD k en0=x:=⟨_,rfl⟩
    rw[hx] at c0 c1 c2 p0 r0
    have Y:Hd ((L.take (k+1)).filterMap (q2B P d)=(L.take k).filterMap (q2B P d)++(q2B P d x).toList):=η (by
     rw[p0,List.filterMap_append];congr 1)
    have i0:Hd (((L.take k).filterMap (q2B P d)).length<=10000):=η (Ω (List.length_filterMap_le _ _) (by rw[Θ];omega));obtain⟨x1,x2,x3⟩:=x;simp only at c0 c1 c2;have q0:=q0B wr (.cells #[.int .u64 x1,.int .i64 x2,.int .i64 x3] 159);have D:=Blk.new wr 159 #[.int .u64 x1,.int .i64 x2,.int .i64 x3];have k0:=D.cell 0;have k1:=D.cell 1;have k2:=D.cell 2;have HF:Hd (Calls Tryz.prog 119 #[.pointer (some ⟨gs,0,none⟩),.agg #[.int .u64 x1,.int .i64 x2,.int .i64 x3],.string ⟨d.toArray⟩] (wr.alloc (.cells #[.int .u64 x1,.int .i64 x2,.int .i64 x3] 159)) fun e w'=>e= .returned (z2V (q2B P d (x1,x2,x3)))/\StoP wb w' g gs gl gx rate m ws sd c s u cnt B C sure P (fun i=>(K i\/(Value.slice (some ⟨bb,off,none⟩) L.length U).ownBlock=some i)\/(Value.slice oa ((L.take k).filterMap (q2B P d)).length oc).ownBlock=some i)/\Stay (fun i=>(K i\/(Value.slice (some ⟨bb,off,none⟩) L.length U).ownBlock=some i)\/(Value.slice oa ((L.take k).filterMap (q2B P d)).length oc).ownBlock=some i) (wr.alloc (.cells #[.int .u64 x1,.int .i64 x2,.int .i64 x3] 159)) w'):=
     η (z8w (F.grow q0) r0 d hs)
    clear b0 F o0 a0 m0 g0 D p0 r0 hx;go_wp2_with fail;refine HF.o.mono ?_;rintro e w5 ⟨rfl,F0,G0⟩;have J:Stay (fun i=>(K i\/(Value.slice (some ⟨bb,off,none⟩) L.length U).ownBlock=some i)\/(Value.slice oa ((L.take k).filterMap (q2B P d)).length oc).ownBlock=some i) wr w5:=(X.o.kExt q0).trans G0;have G:=η (q1A V.o fun i j=>J i (.inr j));have d0:=η (q1A z0.o fun i j=>J i (.inl (.inr j)));have f0:=η (l0.o.trans fun i j=>J i (.inl (.inl j)));have y:=η F0;clear F0 G0 J HF q0 X V z0 l0 k0 k1 k2 c0 c1 c2;obtain⟨OL,C0⟩: ∃OL,(L.take k).filterMap (q2B P d)=OL:=⟨_,rfl⟩
    rw[C0] at G y Y i0 M⊢;obtain⟨no,n0⟩: ∃no,OL.length=no:=⟨_,rfl⟩
    rw[n0] at G y i0 M⊢;have S0:=i0.o;clear C0;obtain⟨r,hr⟩: ∃r,q2B P d (x1,x2,x3)=r:=⟨_,rfl⟩
    rw[hr] at Y⊢;clear hr
    cases r with
    | none=>
     have N:=q0B w5 (.cells #[.string ⟨#[]⟩,.int .i64 0,.string ⟨#[]⟩,.string ⟨#[]⟩,.float .f64 0] 57);have E:=η N;rw[show z2V none= .tuple #[.agg #[.string ⟨#[]⟩,.int .i64 0,.string ⟨#[]⟩,.string ⟨#[]⟩,.float .f64 0],.bool false,.int .i64 0] from rfl];clear N;have N0:=q2p;go_wp2_with fail
     go_roundw
     case rel=>
      refine⟨k+1,_,by omega,rfl,by go_num,?_,y.o.grow E.o,f0.o.trans fun i j=>y.o.kExt E.o i (.inl (.inl j)),q0K d0.o E.o,M.o⟩;rw[Y.o,show(none:Option To).toList=[] from rfl,List.append_nil,n0];exact q0K G.o E.o
     case measure=>simp[intOf];omega
    | some t=>
     obtain⟨ts,O,⟨ty,da,we⟩⟩:=t;have N:=q0B w5 (.cells #[.string ⟨ts.toArray⟩,.int .i64 O,.string ⟨ty.toArray⟩,.string ⟨da.toArray⟩,.float .f64 we] 57);have D:=Blk.new w5 57 #[.string ⟨ts.toArray⟩,.int .i64 O,.string ⟨ty.toArray⟩,.string ⟨da.toArray⟩,.float .f64 we];have t0:=D.cell 0;have t1:=D.cell 1;have t2:=D.cell 2;have t3:=D.cell 3;have t4:=D.cell 4;have E:=η N;rw[show z2V (some ⟨ts,O,⟨ty,da,we⟩⟩)= .tuple #[.agg #[.string ⟨ts.toArray⟩,.int .i64 O,.string ⟨ty.toArray⟩,.string ⟨da.toArray⟩,.float .f64 we],.bool true,.int .i64 0] from rfl];have B0:=η (y.o.grow N);have H0:Hd (wb.heap.size<=w5.heap.size):=η y.o.base.size
     have K0:Hd (Rd ((w5.alloc (.cells #[.string ⟨ts.toArray⟩,.int .i64 O,.string ⟨ty.toArray⟩,.string ⟨da.toArray⟩,.float .f64 we] 57)).alloc (.cells #[.string ⟨ts.toArray⟩,.int .i64 O,.string ⟨ty.toArray⟩,.string ⟨da.toArray⟩,.float .f64 we] 57)) (some ⟨w5.heap.size+1,0,none⟩) (toc ⟨ts,O,⟨ty,da,we⟩⟩)):=η (by
      have h:=Rd.lit (w5.alloc (.cells #[.string ⟨ts.toArray⟩,.int .i64 O,.string ⟨ty.toArray⟩,.string ⟨da.toArray⟩,.float .f64 we] 57)) #[.string ⟨ts.toArray⟩,.int .i64 O,.string ⟨ty.toArray⟩,.string ⟨da.toArray⟩,.float .f64 we] 57;rw[ρ] at h
      exact h)
     have N0:=q2p;clear N D
     go_wp2_with (at_builtin;refine q0P rfl _ _ 52 rfl wb.heap.size 57 _ 5 64 Tryz.underlying52 Tryz.infoTo (by decide) (by decide) _ no (q3u OL) rfl (q0K (q0K G.o E.o) (q0B _ _)) _ 1 1 (toc ⟨ts,O,⟨ty,da,we⟩⟩) rfl rfl (fun h=>by cases h) K0.o (by unfold toc;simp[Value.oneCell']) (by unfold maxLen;omega) (by omega) (by have:=H0.o;simp;omega) ?_;intro v2 w8 I Q D0;obtain⟨a2,k2,rfl⟩:=q0H I;have HO:=η I;have J0:=η (StoP.row1 B0.o (ι _) (q0K G.o E.o) I Q D0 M.o);clear I Q D0)
     go_roundw
     case rel=>
      obtain⟨r1,r2,r3⟩:=J0.o;refine⟨k+1,_,by omega,rfl,by go_num,?_,r1,?_,?_,r3⟩
      ·rw[Y.o,show(some (⟨ts,O,⟨ty,da,we⟩⟩:To)).toList=[⟨ts,O,⟨ty,da,we⟩⟩] from rfl,z0S,θ,n0]
       exact HO.o
      ·exact(f0.o.trans fun i j=>y.o.kExt E.o i (.inl (.inl j))).trans fun i j=>r2 i (.inl j)
      ·exact q1A (q0K d0.o E.o) fun i j=>r2 i (.inr j)
     case measure=>simp[intOf];omega
   ·obtain rfl:k=L.length:=by omega
    have hd:decide ((L.length:Int)<(L.length:Int))=false:=ε (by omega);have e9:(L.take L.length).filterMap (q2B P d)=R:=by rw[List.take_length];exact E0
    clear b0 F o0 a0 m0;rw[e9] at V X M⊢;go_wp2_with fail;go_ret2;exact⟨_,rfl,X.o.beside fun i j=>j.imp .inl id,l0.o,V.o,fun i j=>M.o i (.inl j)⟩
end
section
variable {wb w W W1 W2:World}{g gl gs gx rate:Nat}{m:Man}{ws:List En}{c s sd:Int}{u cnt:Nat}{B:List En}{C:Cks}{P:Pbs}{sure:Int}{K K':Nat->Prop}
theorem z1i(h:Blk W gs 137 #[.pointer (some ⟨gl,0,none⟩),.pointer (some ⟨gx,0,none⟩),.int .u64 sd]):Calls Tryz.prog 75 #[.pointer (some ⟨gs,0,none⟩)] W fun e w'=>e= .returned (.bool false)/\W=w':=by
 have b:=h.cell 0;clear h;go_enter Tryz.func75,Tryz.ntmps75;go_wp2_with fail;go_ret;exact⟨rfl,rfl⟩
def z3i(bs:List Bt)(str:List UInt8):Int×Int:=if q0u str=true then(((q0S bs str).length:Int)-1,0) else(-1,2)
theorem z6B(h:StoP wb w g gs gl gx rate m ws sd c s u cnt B C sure P K)(d:List UInt8)(hs:d.length<=4611686018427387903)(hl:B.length<=10000)(j0:(q0S (q1j P) d).length<=1073741824){x y:Int}(G:z3i (q1j P) d=(x,y)):
  Calls Tryz.prog 53 #[.pointer (some ⟨gs,0,none⟩),.string ⟨d.toArray⟩] w fun e w'=>e= .returned (.tuple #[.int .i64 x,.int .i64 y])/\StoP wb w' g gs gl gx rate m ws sd c s u cnt B C sure P K/\Stay K w w':=by
 have HN:=η (z1i h.b);have l:=η (q6O d w (by omega));have f0:=η (fun W=>z2Z sd d W hs);have HH:=η h;clear h;unfold z3i at G
 cases hstr:q0u d with
 | false=>
  rw[hstr,κ (by decide)] at G;injection G with h1 h2;subst h1 h2;rw[hstr] at l;go_enter Tryz.func53,Tryz.ntmps53;go_wp2_with fail;refine HN.o.mono ?_;rintro e w1 ⟨rfl,rfl⟩;go_wp2_with fail;refine l.o.mono ?_;rintro e w1 ⟨rfl,S⟩;have HX:=η S;clear S;go_wp2_with fail;go_ret2;exact⟨rfl,HH.o.grow HX.o,HH.o.kExt HX.o⟩
 | true =>
  rw[hstr,ξ rfl] at G;rw[hstr] at l;obtain⟨N,hN⟩: ∃N,(q0S (q1j P) d).length=N:=⟨_,rfl⟩
  rw[hN] at G j0;injection G with h1 h2;subst h2;have b0:=η h1;clear h1;have M:=η hN;go_enter Tryz.func53,Tryz.ntmps53;go_wp2_with fail;refine HN.o.mono ?_;rintro e w1 ⟨rfl,rfl⟩;go_wp2_with fail;refine l.o.mono ?_;rintro e w1 ⟨rfl,S⟩;have U:=η (HH.o.grow S);have g0:=η (HH.o.kExt S);obtain⟨s0,s1,s2⟩:=U.o.cells;clear S l;go_wp2_with fail;refine(f0.o _).mono ?_;rintro e o0 ⟨rfl,rfl⟩;clear s0 s1 s2;go_wp2_with fail
  go_loopw [7] (fun o W=> ∃v:Int,o= .int .i64 v/\(N:Int)-1<=v/\v<=1073741824/\ -1<=v/\StoP wb W g gs gl gx rate m ws sd c s u cnt B C sure P K/\Stay K w W) (fun o _=>(intOf o+2).toNat)
  case atStart=>exact⟨1073741824,rfl,by omega,by omega,by omega,U.o,g0.o⟩
  case round=>
   obtain⟨v,rfl,v0,v1,v2,E,c0⟩:=hrel;obtain⟨s0,s1,s2⟩:=E.cells;have e0:=η E;have h0:=η c0;have HL:=η (E.i.last (q2K sd d) v (by omega));have X:=η (fun r G=>E.stE.last E.okB (s:=d) (u:=v) (r:=r) (by rw[M.o];exact v0) G);rw[show min v 1073741824=v by omega] at HL;clear E c0;go_wp2_with fail;refine HL.o.mono ?_;rintro e w2 ⟨r,rfl,O,F,j⟩;obtain⟨l1,l2,l3,l4,l5⟩:=X.o r O;rw[M.o] at l1 l4 l5;have n0:r<=v:=by
    rcases O.2 with e|⟨y,hy,_,e1,e2⟩
    ·omega
    ·omega
   have J:=η (e0.o.stay F j fun i F=> .inl F);have Y:=η (h0.o.trans fun i F=>j i (.inl F));clear F j s0 s1 s2 HL X O;by_cases Q:r<0
   ·have hd:decide (r<0)=true:=ζ Q
    have l0:(N:Int)=0:=by have:=l3 Q;rw[<-M.o,this];rfl
    obtain rfl:x= -1:=by have:=b0.o;omega
    go_wp2_with fail
    (try rw[Exit.noGoto_ret])
    go_ret2;exact⟨rfl,J.o,Y.o⟩
   ·have hd:decide (r<0)=false:=ε Q
    have HB:=η (q6U J.o d hs r r hl rfl);rw[show max r 0=r by omega,show min r 1073741824=r by omega] at HB;have d0:=l4 (by omega);obtain⟨R,hR⟩: ∃R,(q4n (q1j P) d).filter (fun t=>decide (r<=t.v/\t.v<=r))=R:=⟨_,rfl⟩
    rw[hR] at HB d0 l5;obtain⟨s0,s1,s2⟩:=J.o.cells;clear l3 l4 hR;go_wp2_with fail;refine HB.o.mono ?_;rintro e w3 ⟨v3,rfl,E,j,I,i0⟩;obtain⟨ra,rc,rfl⟩:=q0H I;have V:=η (E.beside (K':=K) fun i F=> .inl F);have a0:=η (Y.o.trans j);clear E j I i0 HB s0 s1 s2;by_cases D:R=[]
    ·have h9:=d0 D
     have q9:IntKind.i64.wrap (r-1)=r-1:=by rw[ν];omega
     subst D;go_wp2_with fail
     go_roundw
     case rel=>exact⟨r-1,by go_num,by omega,by omega,by omega,V.o,a0.o⟩
     case measure=>simp[intOf];omega
    ·have h9:=l5 D
     obtain rfl:r=x:=by have:=b0.o;omega
     have k0:0<R.length:=List.length_pos_iff.2 D;have m0:decide (0<(R.length:Int))=true:=ζ (by omega);go_wp2_with fail
     (try rw[Exit.noGoto_ret])
     go_ret2;exact⟨rfl,V.o,a0.o⟩
end
section
variable {wb w W W1 W2:World}{g gl gs gx rate:Nat}{m:Man}{ws:List En}{c s sd:Int}{u cnt:Nat}{B:List En}{C:Cks}{P:Pbs}{sure:Int}{K K':Nat->Prop}
end
section
variable {wb w W W1 W2:World}{g gl gs gx rate:Nat}{m:Man}{ws:List En}{c s sd:Int}{u cnt:Nat}{B:List En}{C:Cks}{P:Pbs}{sure:Int}{K K':Nat->Prop}
end
def z4S(bs:List Bt)(str:List UInt8)(ex:Int)(L:List Ev):Int:=
 if q0h str 0 L≠0 then q0h str 0 L else if ex< -2 then 2 else if ex≠ -2/\ex≠((q0S bs str).length:Int)-1 then 80 else 0
theorem q2o(bs:List Bt)(s:List UInt8):(q0S bs s).length<=(tos bs).length:=by
 induction bs using q9G with
 |h0=>exact υ _
 | h1 l b ih=>
  rw[q7o,q4W,q9I,θ,q3j]
  split
  ·rw[θ];omega
  ·omega
theorem q9W{b:List UInt8}(h:q0h b 0 L=0)(l:n<=1000000):q0h b (n:Int) L=0:=by
 obtain⟨d,i,o,r,v,y,j⟩:=q0j h;unfold q0h;rw[κ (fun e=>e.elim d i),κ (by omega),κ (by omega)];exact j
section
variable {wb w W W1 W2:World}{g gl gs gx rate:Nat}{m:Man}{ws:List En}{c s sd:Int}{u cnt:Nat}{B:List En}{C:Cks}{P:Pbs}{sure:Int}{K K':Nat->Prop}
theorem StoP.added(h:StoP wb W1 g gs gl gx rate m ws sd c s u cnt B C sure P K){f x:Int}{C':Cks}{b:Bt}(v:z4L b)(G:b.fi=(q0S (q1j P) b.st).length)(V:C.length<200)(F:q0y f C (btB b)=(x,0,C')):
  ∃ pos:Nat,x=(pos:Int)/\pos<4096*200/\ ∀(W:World) (u' cnt':Nat) (d:Int) (o:Nat->Prop),IXG wb W g gx gl rate m (q1O (q0a sd pos b b.ev.length) ws) c s u' cnt' (q1O (q0a sd pos b b.ev.length) B) C' d (fun i=>o i\/i=gs)->
   Blk W gs 137 #[.pointer (some ⟨gl,0,none⟩),.pointer (some ⟨gx,0,none⟩),.int .u64 sd]->¬o gs->
   StoP wb W g gs gl gx rate m (q1O (q0a sd pos b b.ev.length) ws) sd c s u' cnt' (q1O (q0a sd pos b b.ev.length) B) C' d (P++[(pos,b)]) o:=by
 have j:=h.i.cOk;obtain⟨pos,rfl,D,N,O,Q,R,S⟩:=z0n j.size (z4W v) F;refine⟨pos,rfl,by omega,fun W u' cnt' d o I r J=>⟨I,r,h.sdE,?_,h.stE.snoc v G fun y M=>?_,?_,fun z l=>?_,⟨J,h.k.2⟩⟩⟩
 ·rw[D,h.recE];unfold z4N;rw[List.map_append];rfl
 ·have E:=z7G (q6N C 0 j.size) _ (h.posLt M)
  have U:=z3X j;simp only at E;omega
 ·have:=h.ckE;omega
 ·rcases mem_addEs.1 l with l|l
  ·unfold q0a at l
   obtain⟨k,_,rfl⟩:=List.mem_map.1 l;show m.ck<=(pos:Int);have:=h.ckE;omega
  ·exact h.wsE z l
def y1J(wb w:World)(g gs gl gx rate:Nat)(m:Man)(ws:List En)(sd c s:Int)(u cnt:Nat)(B:List En)(C:Cks)(sure:Int)(P:Pbs)(K:Nat->Prop)(str:List UInt8)(L:List Ev)(z:Int)(e:Ending)(w':World):Prop:=
 ((z ≠0/\e= .returned (.tuple #[.int .i64 0,.int .i64 z])/\StoP wb w' g gs gl gx rate m ws sd c s u cnt B C sure P K)\/
  (z=0/\e= .returned (.tuple #[.int .i64 0,.int .i64 60])/\StoP wb w' g gs gl gx rate m ws sd c s u cnt B C sure P K/\c-(u:Int)-2024<6000)\/
  (z =0/\z4L ⟨str,(q0S (q1j P) str).length,L⟩/\ ∃pos ws' B' C' sure',e= .returned (.tuple #[.int .i64 ((q0S (q1j P) str).length:Int),.int .i64 0])/\
   StoP wb w' g gs gl gx rate m ws' sd c s (u+2024) (cnt+1) B' C' sure' (P++[(pos,⟨str,(q0S (q1j P) str).length,L⟩)]) K))/\Stay K w w'
theorem z6A(h :StoP wb w g gs gl gx rate m ws sd c s u cnt B C sure P K)(d:List UInt8)(hs:d.length<=4611686018427387903)(ex:Int)(D: ∀W,Ext wb W->Stay K w W->Evs W ao n cap L)(hL:q3i L)
  (n1: ∀e∈L,e.we<18446744073709551616)(hl:B.length<=9000)(hN:(tos (q1j P)).length<=9000)(hC:C.length<200):
  Calls Tryz.prog 38 #[.pointer (some ⟨gs,0,none⟩),.string ⟨d.toArray⟩,.int .i64 ex,.slice ao n cap] w (y1J wb w g gs gl gx rate m ws sd c s u cnt B C sure P K d L (z4S (q1j P) d ex L)):=by
 have b0:=D w h.base (Stay.refl _ _);have J0:=b0.len;have b1:=b0.fits;have b2:=b0.bound;have l1:=q2o (q1j P) d;obtain⟨N,q0⟩: ∃N,(q0S (q1j P) d).length=N:=⟨_,rfl⟩
 have e0:=η q0;have O:=q0B w (.cells #[.string ⟨d.toArray⟩,.int .i64 0,.slice ao n cap] 153);have y:=Blk.new w 153 #[.string ⟨d.toArray⟩,.int .i64 0,.slice ao n cap];have Q:=η (q8W d 0 _ (b0.ext O) hs hL);have HN:=η (fun W (k:Ext (w.alloc (.cells #[.string ⟨d.toArray⟩,.int .i64 0,.slice ao n cap] 153)) W)=>z1i ((h.b.ext O).ext k));have F:=η (h.more (K':=fun i=>K i\/i=w.heap.size) O fun i j=>j.imp id fun e=>by rw[ρ];omega);have Y:=η (h.kExt O);have I0:¬K w.heap.size:=fun e=>by have:=h.klt _ e;omega
 have X0:=η I0;have c1:Hd (wb.heap.size<=w.heap.size):=η h.base.size;have k0:=y.cell 0;have k1:=y.cell 1;have k2:=y.cell 2;have x0:=η y;obtain⟨z,R⟩: ∃z,z4S (q1j P) d ex L=z:=⟨_,rfl⟩
 have HZ:=η R;rw[R];unfold z4S at R;clear I0 y b0;by_cases J:q0h d 0 L=0
 case neg=>
  rw[ξ J] at R;rw[R] at Q J;have hd:(z !=0)=true:=by simpa using J
  clear R D O;go_enter Tryz.func38,Tryz.ntmps38;go_wp2_with fail;refine Q.o.mono ?_;rintro e w1 ⟨rfl,D⟩;have I:=η D;clear D;go_wp2_with fail;refine(HN.o _ I.o).mono ?_;rintro e u0 ⟨rfl,rfl⟩;go_wp2_with fail;go_ret2;exact⟨.inl ⟨J,rfl,(F.o.grow I.o).beside fun i j=> .inl j⟩,Y.o.trans fun i j=>F.o.kExt I.o i (.inl j)⟩
 rw[κ (fun h=>h J)] at R;rw[J] at Q;obtain⟨p1,p2,p3,p4,p5,p6,p7⟩:=q0j J;by_cases a0:ex< -2
 ·rw[ξ a0] at R
  subst R;have hd:decide (ex< -2)=true:=ζ a0;clear D O;go_enter Tryz.func38,Tryz.ntmps38;go_wp2_with fail;refine Q.o.mono ?_;rintro e w1 ⟨rfl,D⟩;have I:=η D;clear D;go_wp2_with fail;refine(HN.o _ I.o).mono ?_;rintro e u0 ⟨rfl,rfl⟩;go_wp2_with fail;go_ret2;exact⟨.inl ⟨by decide,rfl,(F.o.grow I.o).beside fun i j=> .inl j⟩,Y.o.trans fun i j=>F.o.kExt I.o i (.inl j)⟩
 rw[κ a0] at R;have hd:decide (ex< -2)=false:=ε a0;have m1:q0u d=true:=by
  have:0<d.length:=List.length_pos_iff.2 p1;unfold q0u;rw[ζ (show 1<=d.length by omega),ζ p3];rfl
 have r0:z3i (q1j P) d=((N:Int)-1,0):=by unfold z3i;rw[ξ m1,q0]
 have i0:=η (fun W (k:Ext (w.alloc (.cells #[.string ⟨d.toArray⟩,.int .i64 0,.slice ao n cap] 153)) W)=>z6B (F.o.grow k) d hs (by omega) (by omega) r0);rw[q0] at R l1;have x1:N<=9000:=by omega
 by_cases U:ex≠ -2/\ex≠(N:Int)-1
 ·rw[ξ U] at R
  subst R;have e1:(ex != -2)=true:=by simpa using U.1
  have e2:(ex !=(N:Int)-1)=true:=by simpa using U.2
  clear D O;go_enter Tryz.func38,Tryz.ntmps38;go_wp2_with fail;refine Q.o.mono ?_;rintro e w1 ⟨rfl,D⟩;have I:=η D;clear D;go_wp2_with fail;refine(HN.o _ I.o).mono ?_;rintro e u0 ⟨rfl,rfl⟩;go_wp2_with fail;refine(i0.o _ I.o).mono ?_;rintro e w2 ⟨rfl,hh,l⟩;have c0:=η hh;have f0:=η l;clear hh l;go_wp2_with fail;go_ret2;exact⟨.inl ⟨by decide,rfl,c0.o.beside fun i j=> .inl j⟩,(Y.o.trans fun i j=>F.o.kExt I.o i (.inl j)).trans fun i j=>f0.o i (.inl j)⟩
 rw[κ U] at R;subst R;have p0:(ex != -2)=false\/((ex != -2)=true/\(ex !=(N:Int)-1)=false):=by
  by_cases h1:ex= -2
  ·exact .inl (by simpa using h1)
  ·by_cases h2:ex=(N:Int)-1
   ·exact .inr ⟨by simpa using h1,by simpa using h2⟩
   ·exact absurd ⟨h1,h2⟩ U
 have X:Hd (z4L ⟨d,N,L⟩):=η ⟨q9W (n:=N) J (by omega),n1⟩;have g1:=η D;have q1:IntKind.i64.wrap ((N:Int)-1+1)=(N:Int):=by rw[ν];omega
 clear a0 U O D;rcases p0 with p0|⟨p0,v1⟩
 all_goals
  go_enter Tryz.func38,Tryz.ntmps38;go_wp2_with fail;refine Q.o.mono ?_;rintro e w1 ⟨rfl,D⟩;have I:=η D;clear D;go_wp2_with fail;refine(HN.o _ I.o).mono ?_;rintro e u0 ⟨rfl,rfl⟩;go_wp2_with fail;refine(i0.o _ I.o).mono ?_;rintro e w2 ⟨rfl,hh,l⟩;have c0:=η hh;have f0:Hd (Stay K w w2):=η ((Y.o.trans fun i j=>F.o.kExt I.o i (.inl j)).trans fun i j=>l i (.inl j));have S:=η ((x0.o.ext I.o).same (l _ (.inr rfl)));clear hh l F Y x0 k0 k1 k2 I i0 HN Q;generalize w.heap.size=q at*;have f1:=S.o.free 1;have k0:=S.o.cell 0;have k1:=S.o.cell 1;have k2:=S.o.cell 2;have V:Hd (Blk (w2.setCell ⟨q,1,none⟩ (.int .i64 (N:Int))) q 153 #[.string ⟨d.toArray⟩,.int .i64 (N:Int),.slice ao n cap]):=η (S.o.set 1 (.int .i64 (N:Int)));have d0:=η (c0.o.poke (.inr rfl) c1.o 1 (.int .i64 (N:Int)));have m0:=η (f0.o.poke X0.o 1 (.int .i64 (N:Int)));have j0:=V.o.cell 0;have j1:=V.o.cell 1;have j2:=V.o.cell 2;have l0:=η (y0D (b:=⟨d,N,L⟩) _ (g1.o _ d0.o.base m0.o) X.o);have K0:=z4W X.o;obtain⟨p,hp⟩: ∃p,btB ⟨d,N,L⟩=p:=⟨_,rfl⟩
  have Y0:=η hp;rw[hp] at l0 K0;clear hp;go_wp2_with fail;refine l0.o.mono ?_;rintro e w4 ⟨rfl,D⟩;have G:=η (d0.o.grow D);have n0:=η (m0.o.trans fun i j=>d0.o.kExt D i (.inl j));have v0:=η (V.o.ext D);clear D l0 f1 k0 k1 k2 j0 j1 j2 V d0 m0 S c0 f0;have HA:=η (G.o.i.append p K0 hC);obtain⟨s0,s1,s2⟩:=G.o.cells;go_wp2_with fail;refine HA.o.mono ?_;rintro e w5 ⟨⟨f,x,C',v,F0,rfl,j⟩|⟨rfl,j,y1⟩,l⟩
  ·obtain⟨pos,rfl,L0,E⟩:=G.o.added (b:=⟨d,N,L⟩) X.o e0.o.symm hC (by rw[Y0.o];exact F0)
   have O0:=η E;have h0:=η (G.o.b.same (l gs (.inr rfl)));have P0:=η (v0.o.same (l q (.inl (.inr rfl))));have o0:=η (n0.o.trans fun i j=>l i (.inl (.inl j)));have W0:=η G.o.k.1;have u1:=η G.o.sdE;have N0: ∀k,(q1O (q0a sd pos ⟨d,N,L⟩ k) B).length<=B.length+k:=fun k=>by
    have h1:=q6F (q0a sd pos ⟨d,N,L⟩ k) B;rw[q3b] at h1;omega
   have a1:=η N0;have C0:=η (fun W=>z2Z sd d W hs);have D0:Hd (∀k,k<n->q3L (q2U sd pos ⟨d,N,L⟩ k)=true):=η (fun k hk=>z2P sd X.o.1 (by show k<L.length;omega) L0);have z0:=η (fun k=>q6h sd pos ⟨d,N,L⟩ k);have R0:Hd (∀k:Nat,q2U sd pos ⟨d,N,L⟩ k=(q2K sd d,(N:Int)+(k:Int),(pos:Int))):=η fun k=>rfl
   have T0:=η j;have r1:=h0.o.cell 2;have o1:=h0.o.cell 0;generalize q2K sd d=hh at*;clear E j l HA s0 s1 s2 F0 N0 G v0 n0;go_wp2_with fail;refine(C0.o _).mono ?_;rintro e z1 ⟨rfl,rfl⟩;clear r1 o1 C0;go_wp2_with fail
   go_loopw [83] (fun i W=> ∃k:Nat,k<=n/\i= .int .i64 (k:Int)/\IXG wb W g gx gl rate m (q1O (q0a sd pos ⟨d,N,L⟩ k) ws) c s (u+(p.length+24)) (cnt+1) (q1O (q0a sd pos ⟨d,N,L⟩ k) B) C' v (fun i=>(K i\/i=q)\/i=gs)/\Stay K w W/\
    Blk W gs 137 #[.pointer (some ⟨gl,0,none⟩),.pointer (some ⟨gx,0,none⟩),.int .u64 sd]/\Blk W q 153 #[.string ⟨d.toArray⟩,.int .i64 (N:Int),.slice ao n cap]) (fun i _=>n-(intOf i).toNat)
   case atStart=>exact⟨0,υ _,rfl,T0.o,o0.o,h0.o,P0.o⟩
   case round=>
    obtain⟨k,hk,rfl,j,t0,g0,y⟩:=hrel;have U0:=η j;have E0:=η t0;have A0:=η g0;have Q0:=η y;by_cases r0:k<n
    ·have i1:decide ((k:Int)<(n:Int))=true:=ζ (by omega)
     have E:=(j.grow (Ext.refl _).drew).add (D0.o k r0) (by have:=a1.o k;omega)
     rw [show∀M,q3R (q2U sd pos ⟨d,N,L⟩ k) (q1O (q0a sd pos ⟨d,N,L⟩ k) M)=q1O (q0a sd pos ⟨d,N,L⟩ (k+1)) M from fun M=>by
      rw[z0.o k,q3I (q0a sd pos ⟨d,N,L⟩ k)];rfl,show∀M,q3R (q2U sd pos ⟨d,N,L⟩ k) (q1O (q0a sd pos ⟨d,N,L⟩ k) M)=q1O (q0a sd pos ⟨d,N,L⟩ (k+1)) M from fun M=>by
      rw[z0.o k,q3I (q0a sd pos ⟨d,N,L⟩ k)];rfl,R0.o k] at E
     have HA:Hd (Calls Tryz.prog 87 #[.pointer (some ⟨gx,0,none⟩),.agg #[.int .u64 hh,.int .i64 ((N:Int)+(k:Int)),.int .i64 (pos:Int)]] wr.drew fun r w'=>r= .returned (.int .i64 0)/\
      IXG wb w' g gx gl rate m (q1O (q0a sd pos ⟨d,N,L⟩ (k+1)) ws) c s (u+(p.length+24)) (cnt+1) (q1O (q0a sd pos ⟨d,N,L⟩ (k+1)) B) C' v (fun i=>(K i\/i=q)\/i=gs)/\Stay (fun i=>(K i\/i=q)\/i=gs) wr.drew w'):=η E
     have q7:IntKind.i64.wrap ((N:Int)+(k:Int))=(N:Int)+(k:Int):=by rw[ν];omega
     have q8:IntKind.i64.wrap ((k:Int)+1)=(k:Int)+1:=by rw[ν];omega
     have d1:=q0A (Ext.refl _).drew (g0.cell 1);have d2:=q0A (Ext.refl _).drew (y.cell 1);clear j t0 g0 y E;go_wp2_with fail
     go_region_held3 (fun W=>W.cell? ⟨gs,1,none⟩=some (.pointer (some ⟨gx,0,none⟩))/\W.cell? ⟨q,1,none⟩=some (.int .i64 (N:Int)))
      (first|exact y0.o|exact⟨d1,d2⟩)
      (first|(go_at_call 87;refine HA.o.mono ?_;rintro e w7 ⟨rfl,j,hs⟩;have V0:=η j;have Z0:Hd (Stay K w w7):=η (E0.o.trans (fun i j=>hs i (.inl (.inl j))));have B0:=η (A0.o.same (hs gs (.inr rfl)));have w0:=η (Q0.o.same (hs q (.inl (.inr rfl))));have y0:=η (And.intro (B0.o.cell 1) (w0.o.cell 1));clear j hs))
     all_goals
      clear y0 d1 d2 HA;go_wp2_with fail
      go_roundw
      case rel=>exact⟨k+1,by omega,by go_num,V0.o,Z0.o,B0.o,w0.o⟩
      case measure=>simp[intOf];omega
    ·obtain rfl:k=n:=by omega
     have i1:decide ((k:Int)<(k:Int))=false:=ε (by omega);have k1:=y.cell 1;clear j t0 g0 y;go_wp2_with fail;go_ret2;have H0:=U0.o;rw[<-J0] at H0;have G0:=O0.o wr (u+2024) (cnt+1) v K ((H0.beside fun i j=>j.imp .inl id).mono (by omega) (ι _)) A0.o fun hk=>W0.o (.inl hk)
     have M0: ∃pos t1 B' C' v,(Ending.returned (.tuple #[.int .i64 (N:Int),.int .i64 0]))= .returned (.tuple #[.int .i64 ((q0S (q1j P) d).length:Int),.int .i64 0])/\
       StoP wb wr g gs gl gx rate m t1 sd c s (u+2024) (cnt+1) B' C' v (P++[(pos,⟨d,(q0S (q1j P) d).length,L⟩)]) K:=⟨pos,_,_,C',v,by rw[e0.o],by rw[e0.o];exact G0⟩
     exact⟨.inr (.inr ⟨rfl,by rw[e0.o];exact X.o,M0⟩),E0.o⟩
  ·have S0:=η (G.o.stay j l fun i j=> .inl j)
   have o0:=η (n0.o.trans fun i j=>l i (.inl (.inl j)));clear j l HA s0 s1 s2;go_wp2_with fail;go_ret2;exact⟨.inr (.inl ⟨rfl,rfl,S0.o.beside fun i j=> .inl j,by omega⟩),o0.o⟩
end
def q2L(str:List UInt8)(fr ct:Int):Int:=if q0u str=false\/fr<0\/ct<1 then 2 else 0
section
variable {wb w W W1 W2:World}{g gl gs gx rate:Nat}{m:Man}{ws:List En}{c s sd:Int}{u cnt:Nat}{B:List En}{C:Cks}{P:Pbs}{sure:Int}{K K':Nat->Prop}
theorem z6C(h:Blk W gs 137 #[.pointer (some ⟨gl,0,none⟩),.pointer (some ⟨gx,0,none⟩),.int .u64 sd])(b:List UInt8)(F:b.length<=4611686018427387903)(fr ct:Int):
  Calls Tryz.prog 66 #[.pointer (some ⟨gs,0,none⟩),.string ⟨b.toArray⟩,.int .i64 fr,.int .i64 ct] W fun e w'=>e= .returned (.int .i64 (q2L b fr ct))/\Ext W w':=by
 have y:=η (z1i h);have d:=η (q6O b W (by omega));clear h
 cases hstr:q0u b with
 | false=>
  have E:q2L b fr ct=2:=by unfold q2L;rw[ξ (.inl hstr)]
  rw[hstr] at d;rw[E];go_enter Tryz.func66,Tryz.ntmps66;go_wp2_with fail;refine y.o.mono ?_;rintro e w1 ⟨rfl,rfl⟩;go_wp2_with fail;refine d.o.mono ?_;rintro e w1 ⟨rfl,l⟩;have r:=η l;clear l;go_wp2_with fail;go_ret;exact⟨rfl,r.o⟩
 | true =>
  rw[hstr] at d;obtain⟨z,i⟩: ∃z,q2L b fr ct=z:=⟨_,rfl⟩
  have v:(z=2/\decide (fr<0)=true)\/(z=2/\decide (fr<0)=false/\decide (ct<1)=true)\/(z=0/\decide (fr<0)=false/\decide (ct<1)=false):=by
   unfold q2L at i;rw[hstr] at i;simp only[Bool.true_eq_false,false_or] at i
   split at i
   ·by_cases j:fr<0
    ·exact .inl ⟨i.symm,ζ j⟩
    ·exact .inr (.inl ⟨i.symm,ε j,ζ (by omega)⟩)
   ·exact .inr (.inr ⟨i.symm,ε (by omega),ε (by omega)⟩)
  rw[i];clear i hstr;rcases v with⟨rfl,j⟩|⟨rfl,j,D⟩|⟨rfl,j,D⟩
  all_goals
   go_enter Tryz.func66,Tryz.ntmps66;go_wp2_with fail;refine y.o.mono ?_;rintro e w1 ⟨rfl,rfl⟩;go_wp2_with fail;refine d.o.mono ?_;rintro e w1 ⟨rfl,l⟩;have r:=η l;clear l;go_wp2_with fail;go_ret;exact⟨rfl,r.o⟩
def q7Z(bs:List Bt)(str:List UInt8)(fr ct:Int):List To:=if q2L str fr ct=0 then q8D (q4n bs str) fr ct else []
def ToldR(wb w:World)(g gs gl gx rate:Nat)(m:Man)(ws:List En)(sd c s:Int)(u cnt:Nat)(B:List En)(C:Cks)(sure:Int)(P:Pbs)(K:Nat->Prop)(R:List To)(z:Int)(e:Ending)(w':World):Prop:=
 ∃v,e= .returned (.tuple #[v,.int .i64 z])/\StoP wb w' g gs gl gx rate m ws sd c s u cnt B C sure P (fun i=>K i\/v.ownBlock=some i)/\Stay K w w'/\w'.ownsRow wb.heap.size 57 5 v R.length (q3u R)/\ ∀i,K i->v.ownBlock≠some i
theorem StoP.slot0(h:StoP wb W g gs gl gx rate m ws sd c s u cnt B C sure P K):StoP wb W g gs gl gx rate m ws sd c s u cnt B C sure P (fun i=>K i\/(Value.slice none 0 0).ownBlock=some i):=h.beside fun i b=>b.elim id fun e=>by cases e
theorem ToldR.nil{w0:World}(h:StoP wb W g gs gl gx rate m ws sd c s u cnt B C sure P K)(b:Stay K w0 W)(z:Int):ToldR wb w0 g gs gl gx rate m ws sd c s u cnt B C sure P K [] z (.returned (.tuple #[.slice none 0 0,.int .i64 z])) W:=
 ⟨_,rfl,h.slot0,b,World.ownsRow_nil _ _ _ _,fun i _ e=>by cases e⟩
theorem z4A(h:StoP wb w g gs gl gx rate m ws sd c s u cnt B C sure P K)(d:List UInt8)(X:d.length<=4611686018427387903)(fr ct:Int)(b0: -9223372036854775808<=fr)(c0:fr<=9223372036854775807)(hl:B.length<=10000)(a0:(q0S (q1j P) d).length<=10000):
  Calls Tryz.prog 22 #[.pointer (some ⟨gs,0,none⟩),.string ⟨d.toArray⟩,.int .i64 fr,.int .i64 ct] w (ToldR wb w g gs gl gx rate m ws sd c s u cnt B C sure P K (q7Z (q1j P) d fr ct) (q2L d fr ct)):=by
 have j:=η (z6C h.b d X fr ct);have I:=η h;obtain⟨R,r⟩: ∃R,q7Z (q1j P) d fr ct=R:=⟨_,rfl⟩
 rw[r];unfold q7Z at r;by_cases i:q2L d fr ct=0
 ·have M:0<=fr/\1<=ct:=by
   unfold q2L at i
   split at i
   ·cases i
   ·omega
  rw[ξ i] at r;rw[i] at j⊢;by_cases E:1073741824<fr
  ·have hd:decide ((1073741824:Int)<fr)=true:=ζ E
   have Q:R=[]:=by rw[<-r];exact z5k (by rw[q2O];omega)
   subst Q;clear i r h;go_enter Tryz.func22,Tryz.ntmps22;go_wp2_with fail;refine j.o.mono ?_;rintro e w1 ⟨rfl,F⟩;have D:=η F;clear F;go_wp2_with fail;go_ret2;exact ToldR.nil (I.o.grow D.o) (I.o.kExt D.o) 0
  ·have hd:decide ((1073741824:Int)<fr)=false:=ε E
   obtain⟨y,S⟩: ∃y,min ct 1073741824=y:=⟨_,rfl⟩
   have d0:1<=y/\y<=1073741824:=by omega
   have q1:IntKind.i64.wrap (fr+y)=fr+y:=by rw[ν];omega
   have q2:IntKind.i64.wrap (fr+y-1)=fr+y-1:=by rw[ν];omega
   have G:=z9V (q1j P) d (f:=fr) (c:=ct) M.1 M.2 (by omega);rw[S,r] at G;have U:=η (fun W (k:Ext w W)=>q6U (h.grow k) d X fr (fr+y-1) hl G);clear i r h G;go_enter Tryz.func22,Tryz.ntmps22;go_wp2_with fail;refine j.o.mono ?_;rintro e w1 ⟨rfl,F⟩;have D:=η F;clear F;go_wp2_with fail;refine(U.o _ D.o).mono ?_;rintro e w2 ⟨v,rfl,V,N,l,J⟩;obtain⟨ra,rc,rfl⟩:=q0H l;have Y:Hd (ToldR wb w g gs gl gx rate m ws sd c s u cnt B C sure P K R 0 (.returned (.tuple #[.slice ra R.length rc,.int .i64 0])) w2):=η ⟨_,rfl,V,(I.o.kExt D.o).trans N,l,J⟩;clear V N l J U;go_wp2_with fail;go_ret2;exact Y.o
 ·rw [κ i] at r
  subst r;have O:q2L d fr ct=2:=by
   unfold q2L at i⊢
   split at i
   ·rename_i h1;rw[ξ h1]
   ·exact absurd rfl i
  rw[O] at j⊢;clear i O h;go_enter Tryz.func22,Tryz.ntmps22;go_wp2_with fail;refine j.o.mono ?_;rintro e w1 ⟨rfl,F⟩;have D:=η F;clear F;go_wp2_with fail;go_ret2;exact ToldR.nil (I.o.grow D.o) (I.o.kExt D.o) 2
end
theorem z3e{C:Cks}{P:Pbs}(h:q0x 0 C=z4N P)(pos:Int):q2J C pos=z4N (P.filter fun y=>decide (pos<=(y.1:Int))):=by
 unfold q2J;rw[h];unfold z4N;rw[List.filter_map]
 rfl
theorem q7G(sd:Int){C:Cks}{P:Pbs}(h:q0x 0 C=z4N P)(b:okBs (q1j P))(pos:Int):z0e sd (q2J C pos)=some (q4A sd (P.filter fun y=>decide (pos<=(y.1:Int)))):=by
 rw[z3e h,z0O sd fun y d=>b.each (List.mem_map.2 ⟨y,(List.mem_filter.1 d).1,rfl⟩)]
theorem q5M{sd:Int}{P:Pbs}{pos:Int}:x∈q4A sd (P.filter fun y=>decide (pos<=(y.1:Int)))↔x∈q4A sd P/\pos<=x.2.2:=by
 rw[mem_entsP,mem_entsP]
 constructor
 ·rintro⟨y,d,k,b,rfl⟩
  obtain⟨i,j⟩:=List.mem_filter.1 d;exact⟨⟨y,i,k,b,rfl⟩,by show pos<=(y.1:Int);simpa using j⟩
 ·rintro⟨⟨y,d,k,b,rfl⟩,l⟩
  exact⟨y,List.mem_filter.2 ⟨d,ζ (show pos<=(y.1:Int) from l)⟩,k,b,rfl⟩
theorem z6j{P:Pbs}(h:okBs (q1j P)):P.length<=(tos (q1j P)).length:=by
 induction P using q9G with
 |h0=>exact υ _
 | h1 l a ih=>
  obtain⟨p,b⟩:=a;rw[q4v] at h⊢;obtain⟨h1,d,_⟩:=okBs_snoc.1 h;have i:=(q0j d.1).2.1;have j:=ih h1;have o:0<b.ev.length:=List.length_pos_iff.2 i;rw[q4W,q9I,θ,θ,q3j,List.length_singleton];omega
theorem z7s{C:Cks}{P:Pbs}(j:okC C)(h:q0x 0 C=z4N P):P.Pairwise fun a b=>a.1<b.1:=by
 have i:=q6N C 0 j.size;rw[h] at i;unfold z4N at i;rw[List.pairwise_map] at i;exact i.imp fun {a b} d=>by unfold z6a at d;simp only at d;omega
section
variable {wb w W W1 W2:World}{g gl gs gx rate:Nat}{m:Man}{ws:List En}{c s sd:Int}{u cnt:Nat}{B:List En}{C:Cks}{P:Pbs}{sure:Int}{K K':Nat->Prop}
structure y1g(sd:Int)(m:Man)(B:List En)(C:Cks)(P:Pbs):Prop where
 sdE:m.sd=sd
 recE:q0x 0 C=z4N P
 ok:okBs (q1j P)
 sub: ∀x∈B,x∈q4A sd P
 all: ∀x∈q4A sd P,x∈B\/m.ck<=x.2.2
 ckE:m.ck<=q4h C
theorem z9e(h:DKQ wb w g m c s u cnt B C K)(d:y1g sd m B C P)(Y:0<=sd)(a0:sd<18446744073709551616)(c0:40<=cnt)(hN:(tos (q1j P)).length<=2000)(V:B.Nodup)(rate:Nat):
  Calls Tryz.prog 20 #[.pointer (some ⟨g,0,none⟩),.int .u64 sd,.float .f64 rate] w fun e w'=>
   ∃gs gl gx j ws B' sure,e= .returned (.tuple #[.pointer (some ⟨gs,0,none⟩),.int .i64 0])/\StoP wb w' g gs gl gx rate j ws sd c s u cnt B' C sure P K/\(j.nx<=m.nx\/j.nx=0)/\Stay K w w':=by
 have O:okC C:=by obtain⟨_,_,_,_,_,_,_,_,I⟩:=h;exact I
 have N:m.ok:=by obtain⟨st,_,_,_,rfl,_,_,⟨U,_⟩,_⟩:=h;exact U.man
 have e0:=z6j d.ok;have b0:B.length<=2000:=by
  have:=q6J V (m:=q4A sd P) fun x b=>d.sub x b
  rw[q5p] at this;omega
 have f0:(q0x 0 C).length<=2000:=by rw[d.recE,q7F];omega
 have d0:=(Man.bounds N).2.1;have HO:=η h.lopen;have g0:=h;clear h;go_enter Tryz.func20,Tryz.ntmps20;go_wp2_with fail;refine HO.o.mono ?_;rintro e w1 ⟨gl,rfl,hd,l⟩;have R:=η l;have HR:=η (z9b hd (by omega) (by omega) Y a0 rate);clear hd l HO;go_wp2_with fail;refine HR.o.mono ?_;rintro e G ⟨⟨gx,j,B2,D,an,rfl,E,X,hw⟩|⟨rfl,_,v⟩,l⟩
 case inr=>
  exfalso
  rcases v with⟨_,v⟩|v
  ·rw[q7G sd d.recE d.ok] at v;cases v
  ·rw[q7G sd d.recE d.ok] at v;cases v
 rw[q7G sd d.recE d.ok] at X;obtain rfl:=Option.some.inj X;have J:j.sd=sd/\(j.nx<=m.nx\/j.nx=0)/\StI sd (q1O (q4A sd (P.filter fun y=>decide (j.ck<=(y.1:Int)))) B2) P/\j.ck<=q4h C/\ ∀x∈q1O (q4A sd (P.filter fun y=>decide (j.ck<=(y.1:Int)))) [],j.ck<=x.2.2:=by
  have r:=z7s O d.recE;rcases hw with⟨_,rfl,h1,h2,h3,U⟩|⟨_,rfl,rfl,_⟩
  ·refine⟨h1,.inl (Int.le_refl _),⟨d.ok,r,fun x=>?_⟩,h2,fun x b=>?_⟩
   ·rw [mem_addEs,q5M,<-U]
    constructor
    ·rintro(b|b)
     ·exact b.1
     ·exact d.sub x b
    ·intro b
     rcases d.all x b with I|I
     ·exact .inr I
     ·exact .inl ⟨b,I⟩
   ·rw[mem_addEs,q5M] at b
    rcases b with b|b
    ·exact b.2
    ·cases b
  ·refine⟨rfl,.inr rfl,⟨d.ok,r,fun x=>?_⟩,(z8s O).1,fun x b=>?_⟩
   ·rw [mem_addEs,q5M]
    constructor
    ·rintro(b|b)
     ·exact b.1
     ·cases b
    ·intro b
     obtain⟨y,hy,k,hk,rfl⟩:=mem_entsP.1 b;exact .inl ⟨b,by show(0:Int)<=(y.1:Int);omega⟩
   ·rw[mem_addEs,q5M] at b
    rcases b with b|b
    ·exact b.2
    ·cases b
 obtain⟨f1,f2,f3,f4,f5⟩:=J;have F:=q0B G (.cells #[.pointer (some ⟨gl,0,none⟩),.pointer (some ⟨gx,0,none⟩),.int .u64 sd] 137);have M:¬K G.heap.size:=fun e=>by have:=E.klt _ e;omega
 have HF:Hd (StoP wb (G.alloc (.cells #[.pointer (some ⟨gl,0,none⟩),.pointer (some ⟨gx,0,none⟩),.int .u64 sd] 137)) g G.heap.size gl gx rate j _ sd c s u cnt _ C (q4h C) P K):=η
  ⟨E.more F (fun i E=>E.imp id fun e=>by rw[ρ];omega),Blk.new G _ _,f1,d.recE,f3,f4,f5,⟨M,E.base.size⟩⟩
 have S:Hd (Stay K w (G.alloc (.cells #[.pointer (some ⟨gl,0,none⟩),.pointer (some ⟨gx,0,none⟩),.int .u64 sd] 137))):=η ((R.o.trans l).trans (E.kExt F));have Q:=η f2;clear E X hw l f1 f2 f3 f4 f5 F M HR;go_wp2_with fail;go_ret2;exact⟨_,gl,gx,j,_,_,_,rfl,HF.o,Q.o,S.o⟩
end
section
variable {wb w W W':World}{g gx gl rate:Nat}{m:Man}{ws:List En}{c s:Int}{u cnt:Nat}{B:List En}{C C':Cks}{sure sd:Int}{K K':Nat->Prop}
end
section
variable {wb w W W':World}{g gx gl rate:Nat}{m:Man}{ws:List En}{c s:Int}{u cnt:Nat}{B:List En}{C C':Cks}{sure sd:Int}{K K' Z:Nat->Prop}
end
end
end Go.Proofs.YtjigghjfcbbkiaaGreatDoor
