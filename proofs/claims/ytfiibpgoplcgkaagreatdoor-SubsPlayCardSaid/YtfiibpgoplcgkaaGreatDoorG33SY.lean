/- Walks. -/
import Derived.Test.YtfiibpgoplcgkaaGreatDoorG32SY
set_option linter.unusedVariables false
set_option linter.unusedSimpArgs false
set_option maxRecDepth 100000
set_option maxHeartbeats 6400000
namespace Go.Proofs.YtfiibpgoplcgkaaGreatDoor
variable {ao:Option Addr}{cap n q:Nat}{x:En}{L:List Ev}
section
open Go.RowKit
section
variable {wb w W W':World}{g gx gl rate:Nat}{m:Man}{ws:List En}{c s:Int}{u cnt:Nat}{B:List En}{C C':Cks}{sure:Int}{K K':Nat->Prop}{st:IxSt}{σ:DM}{φ:Fls}
theorem PInv.cleanL(h:PInv st σ c s φ u cnt B):{σ with L:=σ.L.filter fun f=>!q1h st.m.L.flatten f.nm}=σ:=by
 have b:=h.noOrph;unfold q1m at b;rw[List.filter_map,List.map_eq_nil_iff,List.filter_eq_nil_iff] at b;have d:(σ.L.filter fun f=>!q1h st.m.L.flatten f.nm)=σ.L:=List.filter_eq_self.2 fun f i=>by
  have:=b f i;simp only[Function.comp] at this
  simpa using this
 rw[d]
theorem IXG.clean(h:IXG wb W g gx gl rate m ws c s u cnt B C sure K)(N:Grid W ao m.L.length cap m.L)(nx ck sd:Int):
  Calls Tryz.prog 143 #[.pointer (some ⟨g,0,none⟩),.agg #[.int .i64 nx,.int .i64 ck,.int .u64 sd,.slice ao m.L.length cap]] W fun e w'=>e= .returned (.int .i64 0)/\IXG wb w' g gx gl rate m ws c s u cnt B C sure K/\Stay K W w':=by
 obtain⟨st,σ,φ,E,rfl,rfl,G,I,J,⟨d,j⟩,y,M⟩:=h;have O:=Man.bounds d.man;have v:σ.down=false:=d.fl.up;have b:σ.fail=false:=by obtain⟨l,r,_⟩:=d.fl;exact r.fine
 refine(J.disk (σ1:=σ) (R:=fun e=>e= .returned (.int .i64 0)) fun F Q=>?_).mono ?_
 ·have hc:=z5b Q v b d.shortN (nx:=nx) (ck:=ck) (sd:=sd) N (by have:=O.2.1;omega)
  rw[d.cleanL] at hc;exact hc
 ·rintro e w' ⟨he,k1,D⟩
  exact⟨he,⟨st,σ,φ,E,rfl,rfl,G,I,k1,⟨d,j⟩,⟨y.1.same fun i o=>D i (.inr o),y.2⟩,M⟩,fun i o=>D i (.inl o)⟩
end
section
variable {wb w W W':World}{g gx gl rate:Nat}{m:Man}{ws:List En}{c s:Int}{u cnt:Nat}{B:List En}{C C':Cks}{sure:Int}{K K':Nat->Prop}{st:IxSt}{σ:DM}{φ:Fls}
theorem DKR.man(h:DKR wb W g gl m c s u cnt B C sure K):m.ok:=by obtain⟨st,σ,φ,j,F,rfl,r,hF,⟨b,i,d⟩,l,o⟩:=h;exact b.man
theorem DKR.klt(h:DKR wb W g gl m c s u cnt B C sure K): ∀i,K i->i<W.heap.size:=by obtain⟨st,σ,φ,l,F,rfl,y,hF,⟨o,d,b⟩,r,v⟩:=h;exact fun i j=>(hF.k i (.inl j)).1
theorem DKR.grow(h:DKR wb W g gl m c s u cnt B C sure K)(k:Ext W W'):DKR wb W' g gl m c s u cnt B C sure K:=by
 obtain⟨st,σ,φ,d,F,rfl,l,hF,i,b,j⟩:=h;exact⟨st,σ,φ,d,F,rfl,l,hF.grow k,i,⟨b.1.ext k,b.2⟩,j⟩
theorem DKR.kExt(h:DKR wb W g gl m c s u cnt B C sure K)(k:Ext W W'):Stay K W W':=fun i b=>k.block i (h.klt i b)
def Man.cut(m:Man):Man:=⟨m.nx,m.ck,m.sd,q0z m.L⟩
theorem Man.cut_S{m:Man}(h:m.ok):m.cut.S=m.S:=by
 show(q3S m.nx m.ck m.sd (q0z m.L)).1=_;rw[z0q h.1];rfl
theorem DKR.cut(h:DKR wb W g gl m c s u cnt B C sure K):DKR wb W g gl m.cut c s u cnt B C sure K:=by
 obtain⟨st,σ,φ,o,F,rfl,M,hF,⟨b,i,d⟩,E,G⟩:=h;have j:st.m.cut.L.flatten=st.m.L.flatten:=q1v _;refine⟨{st with m:=st.m.cut},σ,φ,o,F,rfl,M,hF,⟨⟨b.fl,⟨q5G b.man.1,b.man.2⟩,fun n I=>b.full n (by rw[<-j];exact I),fun n e he=>?_,fun nm l=>?_,b.okw,b.okB,b.mem⟩,?_,d.toCksS,d.old⟩,E,G⟩
 ·show n∈st.m.cut.L.flatten/\_
  rw[j];exact b.tb n e he
 ·show nm=mapN\/(∃n∈st.m.cut.L.flatten,_)\/_
  rw[j];exact b.only nm l
 ·rcases i with⟨h,J⟩|⟨r,v,y,D⟩
  ·exact .inl ⟨by rw[Man.cut_S b.man];exact h,J⟩
  ·exact .inr ⟨r,v,y,by show q0z st.m.L=[];rw[D];rfl⟩
theorem DKR.load(h:DKR wb W g gl m c s u cnt B C sure K):Calls Tryz.prog 199 #[.pointer (some ⟨g,0,none⟩)] W fun e w'=>
  ((∃ao cap,e= .returned (.tuple #[.agg #[.int .i64 m.nx,.int .i64 m.ck,.int .u64 m.sd,.slice ao (q0z m.L).length cap],.int .i64 0])/\Grid w' ao (q0z m.L).length cap (q0z m.L)/\0<m.nx)\/
   (∃ao cap,e= .returned (.tuple #[.agg #[.int .i64 0,.int .i64 0,.int .u64 0,.slice ao 0 cap],.int .i64 4])/\m.nx=0/\m.ck=0/\m.L=[]))/\
  DKR wb w' g gl m c s u cnt B C sure K/\Stay K W w':=by
 obtain⟨st,σ,φ,Y,F,rfl,hw,hF,⟨b,y,j⟩,J,h8⟩:=h;obtain⟨l,o,a0,r,c0,b0⟩:=b.fl
 cases hf:q0H FM.nm mapN σ.L with
 | none=>
  have G:φ mapN=none:=by rw[<-r,o.find,hf];rfl
  rcases y with⟨h,X⟩|⟨I,N,O,Q⟩
  ·rw[G] at h;cases h
  ·refine(z6R hF.d (by unfold q1j;rw[κ (by rw[o.up];decide),hf])).mono ?_
   rintro e w' ⟨a,M,rfl,hg,U⟩;obtain⟨k1,E⟩:=hF.disk U;exact⟨.inr ⟨a,M,rfl,N,O,Q⟩,⟨st,σ,φ,Y,_,rfl,hw,k1,⟨b,.inr ⟨I,N,O,Q⟩,j⟩,⟨J.1.same fun i v=>E i (.inr v),J.2⟩,h8⟩,fun i v=>E i (.inl v)⟩
 | some f=>
  have G:φ mapN=some f.da:=by rw[<-r,o.find,hf];rfl
  rcases y with⟨h,X⟩|⟨I,N,O,Q⟩
  ·have V:f.da=st.m.S:=by rw[G] at h;injection h
   have D:q3K f.da=⟨st.m.nx,st.m.ck,st.m.sd,q0z st.m.L,0⟩:=by
    rw[V];show q3K (q3S st.m.nx st.m.ck st.m.sd st.m.L).1=_;rw[q8k b.man.1];exact z8l b.man.1 b.man.2.1 b.man.2.2
   refine(z6S hF.d hf o.up).mono ?_;rw[D];rintro e w' ⟨a,M,rfl,hg,U⟩;obtain⟨k1,E⟩:=hF.disk U;have R:PInv st (q2S σ) c s φ u cnt B:=⟨Fl.tells 1 b.fl,b.man,b.full,b.tb,b.only,b.okw,b.okB,b.mem⟩
   exact⟨.inl ⟨a,M,rfl,hg,X⟩,⟨st,q2S σ,φ,Y,_,rfl,hw,k1,⟨R,.inl ⟨h,X⟩,j.toCksS.kp (Kp.tell σ) b.fl j.i,j.old⟩,⟨J.1.same fun i v=>E i (.inr v),J.2⟩,h8⟩,fun i v=>E i (.inl v)⟩
  ·rw[G] at I;cases I
end
section
variable {wb w W W':World}{g gx gl:Nat}{m:Man}{ws:List En}{c s:Int}{u cnt:Nat}{B:List En}{C C':Cks}{sure:Int}{K K':Nat->Prop}{st:IxSt}{σ:DM}{φ:Fls}
theorem DKR.ends(h:DKR wb W g gl m c s u cnt B C sure K):Calls Tryz.prog 140 #[.pointer (some ⟨gl,0,none⟩)] W fun e w'=>e= .returned (.int .i64 (q3f C))/\Ext W w':=by
 obtain⟨st,σ,φ,d,F,i,o,hF,j,b,l⟩:=h;exact(y0F b.1 b.2).mono fun e w' ⟨h,k⟩=>⟨h,k▸Ext.refl _⟩
def LyR(wb W:World)(g gl:Nat)(rate:Nat)(m:Man)(c s:Int)(u cnt:Nat)(B:List En)(C:Cks)(sure:Int)(K:Nat->Prop)(sd:Int)(e:Ending)(w':World):Prop:=
 ((∃gx B2,e= .returned (.tuple #[.pointer (some ⟨gx,0,none⟩),.int .i64 0])/\IXG wb w' g gx gl rate m.cut [] c s u cnt B2 C sure K/\(∀x,x∈B↔x∈B2)/\m.sd=sd/\m.ck<=q3f C/\0<m.nx)\/
  (∃n:Int,e= .returned (.tuple #[.pointer none,.int .i64 n])/\(n=4\/n=90)/\DKR wb w' g gl m c s u cnt B C sure K/\((m.nx=0/\m.ck=0/\m.L=[])\/m.sd≠sd\/q3f C<m.ck)))/\Stay K W w'
theorem y0X(h:DKR wb w g gl m c s u cnt B C sure K)(d0:m.L.flatten.length<=cnt)(sd:Int)(rate:Nat):
  Calls Tryz.prog 141 #[.pointer (some ⟨g,0,none⟩),.pointer (some ⟨gl,0,none⟩),.int .u64 sd,.float .f64 rate] w (LyR wb w g gl rate m c s u cnt B C sure K sd):=by
 have J:=η h.load;clear h;go_enter Tryz.func141,Tryz.ntmps141;go_wp2_with fail;refine J.o.mono ?_;rintro e w1 ⟨hl,G,N⟩;clear J;have HD:=η G;have HS:=η N;rcases hl with⟨ao,D,rfl,hg,M⟩|⟨ao,D,rfl,z⟩
 ·have HG:=η hg
  have V:=q0B w1 (.cells #[.int .i64 m.nx,.int .i64 m.ck,.int .u64 m.sd,.slice ao (q0z m.L).length D] 47);have hb:=Blk.new w1 47 #[.int .i64 m.nx,.int .i64 m.ck,.int .u64 m.sd,.slice ao (q0z m.L).length D];have b:=η (G.grow V);have r:=η (N.trans (G.kExt V));have X:=η (hg.ext V);have j:=η hb;clear G N hg V hb;go_wp2_with fail;generalize w1.alloc (.cells #[.int .i64 m.nx,.int .i64 m.ck,.int .u64 m.sd,.slice ao (q0z m.L).length D] 47)=w2 at*;generalize w1.heap.size=q at*;have Q:w2.cell? ⟨q,0,none⟩=some (.int .i64 m.nx):=j.o.cell 0;have R:w2.cell? ⟨q,1,none⟩=some (.int .i64 m.ck):=j.o.cell 1;have S:w2.cell? ⟨q,2,none⟩=some (.int .u64 m.sd):=j.o.cell 2;have U:w2.cell? ⟨q,3,none⟩=some (.slice ao (q0z m.L).length D):=j.o.cell 3;have u0:=q0C Q;have u1:=q0C R;have u2:=q0C S;have u3:=q0C U;have HE:=η (fun W (k:Ext w2 W)=>(b.o.grow k).ends);by_cases E:m.sd=sd
  ·subst E
   by_cases d:q3f C<m.ck
   ·have e0:decide (q3f C<m.ck)=true:=ζ d
    refine q0D (by kernel_rfl) (by kernel_rfl) ?_
    repeat (go_big_quiet_step (fail))
    go_big_quiet_step (exact Calls.quiet_ext (HE.o _ (ExtOf.h _)))
    repeat (go_big_quiet_step (fail))
    refine wpQuiet_nil ?_;intro I i;have l:=η (b.o.grow i);have v:=η (r.o.trans (b.o.kExt i));have F:=η d;clear i d Q R S U u0 u1 u2 u3;go_wp2_with fail;go_ret2;exact⟨.inr ⟨90,rfl,.inr rfl,l.o,.inr (.inr F.o)⟩,v.o⟩
   ·have e0:decide (q3f C<m.ck)=false:=ε d
    refine q0D (by kernel_rfl) (by kernel_rfl) ?_
    repeat (go_big_quiet_step (fail))
    go_big_quiet_step (exact Calls.quiet_ext (HE.o _ (ExtOf.h _)))
    repeat (go_big_quiet_step (fail))
    refine wpQuiet_nil ?_;intro I i;have l:=η (b.o.grow i);have v:=η (r.o.trans (b.o.kExt i));have Y:=η (X.o.ext i);have HO:=η (l.o.cut.iopen (ao:=ao) (cap:=D) Y.o (by show(q0z m.L).flatten.length<=cnt;rw[q1v];exact d0) rate);have y:=j.o.ext i;have g0:I.cell? ⟨q,0,none⟩=some (.int .i64 m.nx):=y.cell 0;have h0:I.cell? ⟨q,1,none⟩=some (.int .i64 m.ck):=y.cell 1;have i0:I.cell? ⟨q,2,none⟩=some (.int .u64 m.sd):=y.cell 2;have j0:I.cell? ⟨q,3,none⟩=some (.slice ao (q0z m.L).length D):=y.cell 3;have F:=η d;clear i d Q R S U u0 u1 u2 u3 y;go_wp2_with fail;refine HO.o.mono ?_;rintro e w4 ⟨gx,B2,rfl,hi,hm,O⟩;have HI:=η hi;have HM:=η hm;have b0:=η (v.o.trans O);clear hi hm O HO;go_wp2_with fail;go_ret2;exact⟨.inl ⟨gx,B2,rfl,HI.o,HM.o,rfl,by have:=F.o;omega,M⟩,b0.o⟩
  ·have f0:(m.sd !=sd)=true:=by simpa using E
   have a0:=η E;refine q0D (by kernel_rfl) (by kernel_rfl) ?_
   repeat (go_big_quiet_step (fail))
   (try rw[f0])
   repeat (go_big_quiet_step (fail))
   refine wpQuiet_nil ?_;intro I i;have l:=η (b.o.grow i);have v:=η (r.o.trans (b.o.kExt i));clear i E Q R S U u0 u1 u2 u3;go_wp2_with fail;go_ret2;exact⟨.inr ⟨90,rfl,.inr rfl,l.o,.inr (.inl a0.o)⟩,v.o⟩
 ·have b:=η (G.grow (q0B w1 (.cells #[.int .i64 0,.int .i64 0,.int .u64 0,.slice ao 0 D] 47)))
  have r:=η (N.trans (G.kExt (q0B w1 (.cells #[.int .i64 0,.int .i64 0,.int .u64 0,.slice ao 0 D] 47))));have HZ:=η z;clear G N z;go_wp2_with fail;go_ret2;exact⟨.inr ⟨4,rfl,.inl rfl,b.o,.inl HZ.o⟩,r.o⟩
end
theorem z1R(p:List UInt8×List UInt8->Bool)(l:List (List UInt8×List UInt8)):q2b (l.filter p)<=q2b l:=by
 induction l with
 |nil=>exact ι _
 | cons x l ih=>
  have b: ∀t,q2b (x::t)=q2b [x]+q2b t:=fun t=>by rw[<-q1O];rfl
  cases hp:p x with
  |true=>rw[List.filter_cons_of_pos hp,b,b l];omega
  |false=>rw[List.filter_cons_of_neg (by simp[hp]),b];omega
theorem z6C(q:List UInt8->Bool)(l:List (List UInt8×List UInt8))(nm:List UInt8):q0H Prod.fst nm (l.filter fun y=>q y.1)=if q nm=true then q0H Prod.fst nm l else none:=by
 induction l with
 |nil=>unfold q0H;simp
 | cons x l ih=>
  unfold q0H at ih⊢
  cases hq:q x.1 with
  | true=>
   rw[List.filter_cons,ξ hq,List.find?_cons,List.find?_cons,ih];by_cases b:(x.1==nm)=true
   ·rw[b]
    have:x.1=nm:=by simpa using b
    rw[this] at hq;simp[hq]
   ·rw[Bool.not_eq_true] at b
    rw[b]
  | false=>
   rw[List.filter_cons,κ (by simp[hq]),List.find?_cons,ih];by_cases b:(x.1==nm)=true
   ·have:x.1=nm:=by simpa using b
    rw[this] at hq;simp[hq]
   ·rw[Bool.not_eq_true] at b
    rw[b]
theorem Fl.filt{σ:DM}{c s:Int}{φ:Fls}{u cnt:Nat}(h:Fl σ c s φ u cnt)(q:List UInt8->Bool):Fl {σ with L:=σ.L.filter fun f=>q f.nm} c s (fun nm=>if q nm=true then φ nm else none) u cnt:=by
 obtain⟨l,b,d,i,j,o⟩:=h;refine⟨l.filter fun y=>q y.1,⟨b.up,b.fine,?_,b.cap,b.st⟩,d.filter _,fun nm=>?_,Ω (z1R _ _) j,Ω (List.length_filter_le _ _) o⟩
 ·rw[<-b.files,List.filter_map];rfl
 ·rw[z6C]
  cases hq:q nm with
  |true=>simp only[hq,if_true];exact i nm
  |false=>simp[hq]
def y1I(φ:Fls):Prop:=φ mapN=none/\ ∀nm,φ nm≠none->(∃l n,(l=116\/l=98)/\(0<=n/\n<=999999)/\nm=q0F l n)\/ ∃k:Nat,k<=999999/\nm=q0F 99 (k:Int)
def DKO(wb W:World)(g gl:Nat)(c s:Int)(u cnt:Nat)(C:Cks)(sure:Int)(K:Nat->Prop):Prop:=
 ∃σ φ gv F,DkF wb W g F σ (fun i=>K i\/q8P gl gv i)/\(Fl σ c s φ u cnt/\y1I φ/\CksS φ σ C sure)/\(LogM W gl g s gv (q0N C) sure/\okC C)/\(∀i,q8P gl gv i->¬K i/\wb.heap.size<=i)
def IXO(wb W:World)(g gx gl:Nat)(rate:Nat)(sd:Int)(c s:Int)(u cnt:Nat)(C:Cks)(sure:Int)(K:Nat->Prop):Prop:=
 (0<=sd/\sd<18446744073709551616)/\ ∃t σ φ gv,(∀n,t n=none)/\IxK wb W g gx ⟨⟨0,0,sd,[]⟩,rate,[],t,0⟩ σ (fun i=>K i\/q8P gl gv i)/\(Fl σ c s φ u cnt/\y1I φ/\CksS φ σ C sure)/\(LogM W gl g s gv (q0N C) sure/\okC C)/\(∀i,q8P gl gv i->¬K i/\wb.heap.size<=i)
section
variable {wb w W W':World}{g gx gl rate:Nat}{m:Man}{ws:List En}{c s:Int}{u cnt:Nat}{B:List En}{C C':Cks}{sure:Int}{K K':Nat->Prop}{st:IxSt}{σ:DM}{φ:Fls}
theorem DKR.gone(h:DKR wb W g gl m c s u cnt B C sure K):Calls Tryz.prog 136 #[.pointer (some ⟨g,0,none⟩),.string ⟨mapN.toArray⟩] W fun e w'=>
  (e= .returned (.int .i64 0)\/e= .returned (.int .i64 4))/\DKO wb w' g gl c s u cnt C sure K/\Stay K W w':=by
 obtain⟨st,σ,φ,N,F,rfl,Y,hF,⟨v,U,o⟩,E,O⟩:=h;have j: ∀nm,nm≠mapN->φ nm≠none->(∃l n,(l=116\/l=98)/\(0<=n/\n<=999999)/\nm=q0F l n)\/ ∃k:Nat,k<=999999/\nm=q0F 99 (k:Int):=fun nm J b=>by
  rcases v.only nm b with e|⟨n,b,e⟩|e
  ·exact absurd e J
  ·have:=v.range b
   rcases e with e|e
   ·exact .inl ⟨116,n,.inl rfl,⟨this.1,this.2.1⟩,e⟩
   ·exact .inl ⟨98,n,.inr rfl,⟨this.1,this.2.1⟩,e⟩
  ·exact .inr e
 refine(z3A hF.d mapN (by decide)).mono ?_;rintro e w' ⟨rfl,V⟩;obtain⟨k1,G⟩:=hF.disk V
 cases h0:φ mapN with
 | none=>
  have y:q1Q σ mapN=(4,σ):=by
   obtain⟨l,R,X,S,_⟩:=v.fl;exact R.deleteN (Fl.noFind S h0)
  rw[y] at k1⊢;exact⟨.inr rfl,⟨σ,φ,N,_,k1,⟨v.fl,⟨h0,fun nm b=>j nm (fun e=>b (by rw[e];exact h0)) b⟩,o.toCksS⟩,⟨E.1.same fun i r=>G i (.inr r),E.2⟩,O⟩,fun i r=>G i (.inl r)⟩
 | some t=>
  obtain⟨σ',M,I⟩:=v.fl.del h0;have D:=Kp.delete σ mapN;rw[M] at D;rw[M] at k1⊢;refine⟨.inl rfl,⟨σ',z9w φ mapN,N,_,k1,⟨I,⟨by unfold z9w;rw[ξ rfl],fun nm b=>?_⟩,o.toCksS.kp D v.fl fun k Q=>?_⟩,⟨E.1.same fun i r=>G i (.inr r),E.2⟩,O⟩,fun i r=>G i (.inl r)⟩
  ·unfold z9w at b
   by_cases he:nm=mapN
   ·rw[ξ he] at b;exact absurd rfl b
   ·rw[κ he] at b;exact j nm he b
  ·unfold z9w
   rw[κ (q3j Q).1];exact o.i k Q
theorem DKO.iopen(h:DKO wb W g gl c s u cnt C sure K)(sd:Int)(d:0<=sd)(j:sd<18446744073709551616)(rate:Nat):
  Calls Tryz.prog 142 #[.pointer (some ⟨g,0,none⟩),.agg #[.int .i64 0,.int .i64 0,.int .u64 sd,.slice none 0 0],.float .f64 rate] W fun e w'=>
   ∃gx,e= .returned (.tuple #[.pointer (some ⟨gx,0,none⟩),.int .i64 0])/\IXO wb w' g gx gl rate sd c s u cnt C sure K/\Stay K W w':=by
 obtain⟨σ,φ,y,F,hF,o,r,D⟩:=h;refine(z6N (m:=⟨0,0,sd,[]⟩) hF (ao:=none) (cap:=0) (Grid.empty W) (υ _) (fun x I=>by cases I) d j rate).mono ?_;have G:q0i 0 0 []=true:=by decide
 rintro e w' (⟨b,_⟩|⟨_,b,_⟩|⟨_,_,b,_⟩|⟨_,_,_,gx,t,rfl,b,v,J⟩)
 ·rw[show q0i (⟨0,0,sd,[]⟩:Man).nx (⟨0,0,sd,[]⟩:Man).ck (⟨0,0,sd,[]⟩:Man).L=true from G] at b;cases b
 ·rw[o.1.up] at b;cases b
 ·exact absurd rfl b
 ·have E: ∀n,t n=none:=fun n=>by
   have:=J n
   cases hn:t n with
   |none=>rfl
   |some e=>rw[hn] at this;cases this
  exact⟨gx,rfl,⟨⟨d,j⟩,t,σ,φ,y,E,b,o,⟨r.1.same fun i l=>v i (.inr l),r.2⟩,D⟩,fun i l=>v i (.inl l)⟩
end
section
variable {wb w W W':World}{g gx gl rate:Nat}{m:Man}{ws:List En}{c s:Int}{u cnt:Nat}{B:List En}{C C':Cks}{sure sd:Int}{K K':Nat->Prop}{st:IxSt}{σ:DM}{φ:Fls}
theorem z6h{l:UInt8}(b:l=116\/l=98){n:Int}(j:0<=n/\n<=999999):q1h [] (q0F l n)=true:=by
 have d:q2D l=true:=by rcases b with rfl|rfl<;>decide
 have i:=q2I d j;unfold q1h;rw[i];rcases b with rfl|rfl<;>simp
theorem IXO.tells(h:IXO wb W g gx gl rate sd c s u cnt C sure K):Calls Tryz.prog 62 #[.pointer (some ⟨gx,0,none⟩)] W fun e w'=>
  ∃v b,e= .returned (.agg #[.int .i64 0,.int .i64 0,.int .u64 sd,v])/\OGr w' W.heap.size 37 3 v b []/\Ext W w':=by
 obtain⟨D,t,σ,φ,l,E,⟨F,d,j,Y,q⟩,o,r,y⟩:=h;exact q7T q.i.x
theorem IXO.grow(h:IXO wb W g gx gl rate sd c s u cnt C sure K)(k:Ext W W'):IXO wb W' g gx gl rate sd c s u cnt C sure K:=by
 obtain⟨l,t,σ,φ,d,o,r,i,b,j⟩:=h;exact⟨l,t,σ,φ,d,o,r.grow k,i,⟨b.1.ext k,b.2⟩,j⟩
theorem IXO.kExt(h:IXO wb W g gx gl rate sd c s u cnt C sure K)(k:Ext W W'):Stay K W W':=by
 obtain⟨v,t,σ,φ,j,y,d,l,o,r⟩:=h;exact fun i b=>d.kExt k i (.inl b)
theorem IXO.clean(h:IXO wb W g gx gl rate sd c s u cnt C sure K)(hG:Grid W ao 0 cap []):
  Calls Tryz.prog 143 #[.pointer (some ⟨g,0,none⟩),.agg #[.int .i64 0,.int .i64 0,.int .u64 sd,.slice ao 0 cap]] W fun e w'=>e= .returned (.int .i64 0)/\IXG wb w' g gx gl rate ⟨0,0,sd,[]⟩ [] c s u cnt [] C sure K/\Stay K W w':=by
 obtain⟨⟨O,Q⟩,t,σ,φ,gv,U,h5,⟨b,⟨M,E⟩,o⟩,Y,h8⟩:=h;have V:σ.down=false:=b.up;have r:σ.fail=false:=by obtain⟨l,N,_⟩:=b;exact N.fine
 have S: ∀x∈q1m σ,x.length<=9223372036854775807:=fun x v=>by
  have X:φ x≠none:=by
   obtain⟨l,h1,_,h2,_⟩:=b;rw[h1.names] at v;rw[<-h2 x];obtain⟨y,hy,rfl⟩:=List.mem_map.1 v;intro j
   cases G:q0H Prod.fst y.1 l with
   |some z=>rw[G] at j;cases j
   |none=>exact q2H G y hy rfl
  rcases E x X with⟨l,n,_,j,rfl⟩|⟨k,J,rfl⟩
  ·rw[q0c j,χ,q0j];decide
  ·rw[q0c (by omega),χ,q0j];decide
 refine(h5.disk (σ1:={σ with L:=σ.L.filter fun f=>!q1h [] f.nm}) (R:=fun e=>e= .returned (.int .i64 0)) fun F hd=>z5b hd V r S (nx:=0) (ck:=0) (sd:=sd) hG (by simp)).mono ?_;rintro e w' ⟨he,k1,k2⟩;have hv:q0i 0 0 []=true:=by decide
 have D:=b.filt (fun nm=>!q1h [] nm);refine⟨he,⟨_,_,_,gv,rfl,rfl,rfl,υ _,k1,⟨⟨D,⟨hv,O,Q⟩,(fun n j=>by cases j),(fun n e he=>by simp only at he;rw[U n] at he;cases he),fun nm d=>?_,okM.nil,okM.nil,fun x=>?_⟩,.inr ⟨?_,rfl,rfl,rfl⟩,⟨⟨fun k J=>?_,fun f G=>o.sr f (List.mem_filter.1 G).1,o.le⟩,fun n e he=>by simp only at he;rw[U n] at he;cases he⟩⟩,⟨Y.1.same fun i I=>k2 i (.inr I),Y.2⟩,h8⟩,fun i I=>k2 i (.inl I)⟩
 ·by_cases hq:(!q1h [] nm)=true
  ·simp only[hq,if_true] at d
   rcases E nm d with⟨l,n,hl,j,rfl⟩|e
   ·rw[z6h hl j] at hq;cases hq
   ·exact .inr (.inr e)
  ·simp only[hq] at d
   exact absurd rfl d
 ·constructor
  ·intro v;cases v
  ·rintro(v|⟨n,e,he,_⟩)
   ·cases v
   ·simp only at he;rw[U n] at he;cases he
 ·simp only[z3b];exact M
 ·simp only[q8o J];exact o.i k J
end
section
variable {wb w W W':World}{g gx gl:Nat}{m:Man}{ws:List En}{c s:Int}{u cnt:Nat}{B:List En}{C C':Cks}{sure sd:Int}{K K':Nat->Prop}{st:IxSt}{σ:DM}{φ:Fls}
theorem z3M(C:Cks)(pos:Int):(q1z C pos).length<=(q0y 0 C).length:=List.length_filter_le _ _
theorem z8h{B i:List En}(h:okM i)(k: ∀x,x∈B↔x∈i):i.length<=B.length:=
 q6k (h.sort.imp fun {a b} d e=>by subst e;rw[q0e] at d;cases d) fun x j=>(k x).2 j
theorem IXO.more{rate:Nat}(h:IXO wb W g gx gl rate sd c s u cnt C sure K)(k:Ext W W')(hK: ∀i,K' i->K i\/(W.heap.size<=i/\i<W'.heap.size)):IXO wb W' g gx gl rate sd c s u cnt C sure K':=by
 obtain⟨D,t,σ,φ,o,E,r,v,j,l⟩:=h;refine⟨D,t,σ,φ,o,E,r.more k (fun i b=>?_),v,⟨j.1.ext k,j.2⟩,fun i b=>⟨fun y=>?_,(l i b).2⟩⟩
 ·rcases b with b|b
  ·exact(hK i b).imp .inl id
  ·exact .inl (.inr b)
 ·rcases hK i y with d|⟨d,_⟩
  ·exact(l i b).1 d
  ·have:=j.1.lt b;omega
def y3L(wb W:World)(g gl:Nat)(rate:Nat)(m:Man)(c s:Int)(u cnt:Nat)(B:List En)(C:Cks)(sure:Int)(K:Nat->Prop)(sd:Int)(e:Ending)(w':World):Prop:=
 ((∃ gx m' B2 D an,e= .returned (.tuple #[.pointer (some ⟨gx,0,none⟩),.bool an,.int .i64 0])/\IXG wb w' g gx gl rate m' (q1V D []) c s u cnt (q1V D B2) C sure K/\z1X sd (q1z C m'.ck)=some D/\
   ((an=false/\m'=m.cut/\m.sd=sd/\m.ck<=q3f C/\0<m.nx/\ ∀x,x∈B↔x∈B2)\/(an=true/\m'=⟨0,0,sd,[]⟩/\B2=[]/\((m.nx=0/\m.ck=0/\m.L=[])\/m.sd≠sd\/q3f C<m.ck))))\/
  (e= .returned (.tuple #[.pointer none,.bool false,.int .i64 63])/\Ext wb w'/\((m.sd=sd/\z1X sd (q1z C m.ck)=none)\/z1X sd (q1z C 0)=none)))/\Stay K W w'
theorem y0o(h:DKR wb w g gl m c s u cnt B C sure K)(o0:m.L.flatten.length<=cnt)(hB:B.length+8*(q0y 0 C).length<=40000)(p0:0<=sd)(q0:sd<18446744073709551616)(rate:Nat):
  Calls Tryz.prog 84 #[.pointer (some ⟨g,0,none⟩),.pointer (some ⟨gl,0,none⟩),.int .u64 sd,.float .f64 rate] w (y3L wb w g gl rate m c s u cnt B C sure K sd):=by
 have f0:=h.man;have hb:=Man.bounds f0;have d0:=η (y0X h o0 sd rate);have a0:=η hB;have r0: ∀(W:World) (x y z t:Value),(Instr.field 47 (.agg #[x,y,z,t]) 2).run Tryz.prog W= .ok z W:=fun _ _ _ _ _=>rfl
 clear h hB;go_enter Tryz.func84,Tryz.ntmps84;go_wp2_with fail;refine d0.o.mono ?_;rintro e w1 ⟨hl,h0⟩;have HS:=η h0;clear h0 d0;rcases hl with⟨gx,B2,rfl,b,hm,X,n0,g0⟩|⟨n,rfl,hn,hd,O⟩
 ·have HM:=η hm
  have c0:=η (z8h b.okB.1 hm);obtain⟨M,hM⟩: ∃M,m.cut=M:=⟨_,rfl⟩
  have l0:=η hM;have S:Hd (M.ck=m.ck):=η (by rw[<-hM];rfl);have e0:Hd (M.sd=sd):=η (by rw[<-hM,<-X];rfl);have j0:Hd (0<=M.ck):=η (by rw[S.o];omega);have k0:Hd (M.ck<=9223372036854775807):=η (by rw[S.o];omega);rw[hM] at b;have J:=η b;clear b hm hM;have HT:=η J.o.tells;go_wp2_with fail;refine HT.o.mono ?_;rintro e I ⟨v,vs,rfl,ho,N⟩;obtain⟨ao,Y,rfl,hg⟩:=ho.grid;have hq:=q0B I (.cells #[.int .i64 M.nx,.int .i64 M.ck,.int .u64 M.sd,.slice ao M.L.length Y] 47);have j:=Blk.new I 47 #[.int .i64 M.nx,.int .i64 M.ck,.int .u64 M.sd,.slice ao M.L.length Y];have i0:=η ((J.o.grow N).more (K':=fun i=>K i\/i=I.heap.size) hq (fun i b=>b.imp id fun e=>⟨by omega,by rw[e];exact j.lt⟩));have U:=η (HS.o.trans (J.o.kExt (N.trans hq)));have HC:=η (((J.o.grow N).more (K':=fun i=>K i\/i=I.heap.size) hq (fun i b=>b.imp id fun e=>⟨by omega,by rw[e];exact j.lt⟩)).clean (hg.ext hq) M.nx M.ck M.sd);have Q:=η j;clear ho N hg hq j HT;go_wp2_with fail;refine HC.o.mono ?_;rintro e w3 ⟨rfl,b,d⟩;have E:=η (U.o.trans (fun i b=>d i (.inl b)));have F:=Q.o.same (d _ (.inr rfl));have c1:w3.cell? ⟨I.heap.size,1,none⟩=some (.int .i64 M.ck):=F.cell 1;have HR:=η (z3j b M.ck j0.o k0.o (by have h1:=z3M C M.ck;have h2:=a0.o;have h3:=c0.o;omega));clear b d F HC;go_wp2_with fail;refine HR.o.mono ?_;rintro e w4 ⟨D,b,d,(⟨G,rfl⟩|⟨G,rfl⟩)⟩
  ·have R:=η (b.beside (K':=K) fun i b=> .inl b)
   have r:=η (E.o.trans (fun i b=>d i (.inl b)));have l:=η G;clear b d G;go_wp2_with fail;go_ret3;exact⟨.inl ⟨gx,_,_,D,_,rfl,R.o,by rw[<-e0.o];exact l.o,.inl ⟨rfl,l0.o.symm,X,n0,g0,HM.o⟩⟩,r.o⟩
  ·have V:=η b.base
   have r:=η (E.o.trans (fun i b=>d i (.inl b)));have l:=η G;clear b d G;go_wp2_with fail;go_ret3;exact⟨.inr ⟨rfl,V.o,.inl ⟨X,by rw[<-S.o,<-e0.o];exact l.o⟩⟩,r.o⟩
 ·have HD:=η hd;have HW:=η O
  have b0:=η hd.gone;clear hd O;rcases hn with rfl|rfl
  all_goals
   go_wp2_with fail;refine b0.o.mono ?_;rintro e w5 ⟨he,hd,d⟩;have HO:=η (hd.iopen sd p0 q0 rate);have m0:=η (HS.o.trans d);clear hd d;rcases he with rfl|rfl
   all_goals
    go_wp2_with fail;refine HO.o.mono ?_;rintro e w6 ⟨gx,rfl,b,d⟩;have J:=η b;have HS:=η (m0.o.trans d);clear b d HO b0;have HT:=η J.o.tells;go_wp2_with fail;refine HT.o.mono ?_;rintro e I ⟨v,vs,rfl,ho,N⟩;obtain⟨ao,Y,rfl,hg⟩:=ho.grid;have hq:=q0B I (.cells #[.int .i64 0,.int .i64 0,.int .u64 sd,.slice ao 0 Y] 47);have j:=Blk.new I 47 #[.int .i64 0,.int .i64 0,.int .u64 sd,.slice ao 0 Y];have i0:=η ((J.o.grow N).more (K':=fun i=>K i\/i=I.heap.size) hq (fun i b=>b.imp id fun e=>⟨by omega,by rw[e];exact j.lt⟩));have U:=η (HS.o.trans (J.o.kExt (N.trans hq)));have HC:=η (((J.o.grow N).more (K':=fun i=>K i\/i=I.heap.size) hq (fun i b=>b.imp id fun e=>⟨by omega,by rw[e];exact j.lt⟩)).clean (ao:=ao) (cap:=Y) (hg.ext hq));have Q:=η j;clear ho N hg hq j HT;go_wp2_with fail;refine HC.o.mono ?_;rintro e w3 ⟨rfl,b,d⟩;have E:=η (U.o.trans (fun i b=>d i (.inl b)));have F:=Q.o.same (d _ (.inr rfl));have c1:w3.cell? ⟨I.heap.size,1,none⟩=some (.int .i64 0):=F.cell 1;have HR:=η (z3j b 0 (by decide) (by decide) (by have h1:=z3M C 0;have h2:=a0.o;rw[List.length_nil];omega));clear b d F HC;go_wp2_with fail;refine HR.o.mono ?_;rintro e w4 ⟨D,b,d,(⟨G,rfl⟩|⟨G,rfl⟩)⟩
    ·have R:=η (b.beside (K':=K) fun i b=> .inl b)
     have r:=η (E.o.trans (fun i b=>d i (.inl b)));have l:=η G;clear b d G;go_wp2_with fail;go_ret3;exact⟨.inl ⟨gx,_,_,D,_,rfl,R.o,l.o,.inr ⟨rfl,rfl,rfl,HW.o⟩⟩,r.o⟩
    ·have V:=η b.base
     have r:=η (E.o.trans (fun i b=>d i (.inl b)));have l:=η G;clear b d G;go_wp2_with fail;go_ret3;exact⟨.inr ⟨rfl,V.o,.inr l.o⟩,r.o⟩
end
def DKQ(wb W:World)(g:Nat)(m:Man)(c s:Int)(u cnt:Nat)(B:List En)(C:Cks)(K:Nat->Prop):Prop:=
 ∃st σ φ F,st.m=m/\st.w=[]/\DkF wb W g F σ K/\(PInv st σ c s φ u cnt B/\q9E φ m/\z9g st φ σ C 0)/\okC C
section
variable {wb w W W':World}{g gl gs gx rate:Nat}{m:Man}{ws:List En}{c s sd:Int}{u cnt:Nat}{B:List En}{C:Cks}{P:Pbs}{sure:Int}{K K':Nat->Prop}
theorem DKQ.lopen(h:DKQ wb w g m c s u cnt B C K):Calls Tryz.prog 83 #[.pointer (some ⟨g,0,none⟩)] w fun e w'=> ∃gl,e= .returned (.tuple #[.pointer (some ⟨gl,0,none⟩),.int .i64 0])/\DKR wb w' g gl m c s u cnt B C (q3f C) K/\Stay K w w':=by
 obtain⟨st,σ,φ,F,Q,R,S,⟨I,r,o⟩,U⟩:=h;obtain⟨E,N,O,e3,e4⟩:=q7p I o.toCksS U;refine(y2E (E:=E) (C:=C) (c:=c-(q2a E:Int)) (s:=s) (K:=K) (w0:=wb) ⟨F,σ,S,N⟩).mono ?_;rintro e w' ⟨gl,rfl,_,⟨M,v,σ',b,J⟩,G⟩;obtain⟨y,X,Y,p3⟩:=I.relog O J b.d.okD (u':=u) (cnt':=cnt) (by omega) (by omega);have hm:y mapN=φ mapN:=p3 mapN fun k D e=>(q3j D).1 e.symm
 refine⟨gl,rfl,⟨st,σ',y,v,M,Q,R,⟨b.d,b.bF,b.ext,fun i j=>?_⟩,⟨X,by unfold q9E;rw[hm];exact r,Y,o.old⟩,⟨b.l,J.ok⟩,fun i j=>⟨fun D=>(b.k i D).2.2 j,b.bG i j⟩⟩,G⟩;rcases j with j|j
 ·exact⟨(b.k i j).1,(b.k i j).2.1⟩
 ·exact⟨b.l.lt j,fun V=>b.ap i V j⟩
structure StoP(wb W:World)(g gs gl gx rate:Nat)(m:Man)(ws:List En)(sd c s:Int)(u cnt:Nat)(B:List En)(C:Cks)(sure:Int)(P:Pbs)(K:Nat->Prop):Prop where
 i:IXG wb W g gx gl rate m ws c s u cnt B C sure (fun i=>K i\/i=gs)
 b:Blk W gs 131 #[.pointer (some ⟨gl,0,none⟩),.pointer (some ⟨gx,0,none⟩),.int .u64 sd]
 sdE:m.sd=sd
 recE:q0y 0 C=q9q P
 stE:StI sd B P
 ckE:m.ck<=q3f C
 wsE: ∀x∈ws,m.ck<=x.2.2
 ckS:m.ck<=sure
 k:¬K gs/\wb.heap.size<=gs
theorem StoP.grow(h:StoP wb W g gs gl gx rate m ws sd c s u cnt B C sure P K)(k:Ext W W'):StoP wb W' g gs gl gx rate m ws sd c s u cnt B C sure P K:=
 ⟨h.i.grow k,h.b.ext k,h.sdE,h.recE,h.stE,h.ckE,h.wsE,h.ckS,h.k⟩
theorem StoP.base(h:StoP wb W g gs gl gx rate m ws sd c s u cnt B C sure P K):Ext wb W:=h.i.base
theorem StoP.kExt(h:StoP wb W g gs gl gx rate m ws sd c s u cnt B C sure P K)(k:Ext W W'):Stay K W W':=fun i b=>h.i.kExt k i (.inl b)
theorem StoP.klt(h:StoP wb W g gs gl gx rate m ws sd c s u cnt B C sure P K): ∀i,K i->i<W.heap.size:=fun i b=>h.i.klt i (.inl b)
theorem StoP.more(h:StoP wb W g gs gl gx rate m ws sd c s u cnt B C sure P K)(k:Ext W W')(hK: ∀i,K' i->K i\/(W.heap.size<=i/\i<W'.heap.size)):StoP wb W' g gs gl gx rate m ws sd c s u cnt B C sure P K':=
 ⟨h.i.more k fun i d=>by
  rcases d with d|d
  ·exact(hK i d).imp .inl id
  ·exact .inl (.inr d),h.b.ext k,h.sdE,h.recE,h.stE,h.ckE,h.wsE,h.ckS,fun l=>by
  rcases hK gs l with j|j
  ·exact h.k.1 j
  ·have:=h.b.lt;omega,h.k.2⟩
theorem StoP.beside(h:StoP wb W g gs gl gx rate m ws sd c s u cnt B C sure P K)(k: ∀i,K' i->K i):StoP wb W g gs gl gx rate m ws sd c s u cnt B C sure P K':=
 ⟨h.i.beside fun i d=>d.imp (k i) id,h.b,h.sdE,h.recE,h.stE,h.ckE,h.wsE,h.ckS,fun j=>h.k.1 (k gs j),h.k.2⟩
theorem StoP.sideM(h:StoP wb W g gs gl gx rate m ws sd c s u cnt B C sure P K)(r:W.heap.size<=W'.heap.size)(v:Ext wb W')(k: ∀i,i<W.heap.size->¬K i->W'.heap[i]? =W.heap[i]?)(hK: ∀i,K' i->K i\/(W.heap.size<=i/\i<W'.heap.size)):
  StoP wb W' g gs gl gx rate m ws sd c s u cnt B C sure P K':=
 ⟨h.i.sideM r v (fun i d o=>k i d fun e=>o (.inl e)) fun i d=>by
  rcases d with d|d
  ·exact(hK i d).imp .inl id
  ·exact .inl (.inr d),h.b.same (k gs h.b.lt h.k.1),h.sdE,h.recE,h.stE,h.ckE,h.wsE,h.ckS,fun l=>by
  rcases hK gs l with j|j
  ·exact h.k.1 j
  ·have:=h.b.lt;omega,h.k.2⟩
theorem StoP.mono(h:StoP wb W g gs gl gx rate m ws sd c s u cnt B C sure P K){u' cnt':Nat}(d:u<=u')(hc:cnt<=cnt'):StoP wb W g gs gl gx rate m ws sd c s u' cnt' B C sure P K:=
 ⟨h.i.mono d hc,h.b,h.sdE,h.recE,h.stE,h.ckE,h.wsE,h.ckS,h.k⟩
theorem StoP.stay(h:StoP wb W g gs gl gx rate m ws sd c s u cnt B C sure P K){d:Int}{j:Nat->Prop}(v:IXG wb W' g gx gl rate m ws c s u cnt B C d (fun i=>j i\/i=gs))(D:Stay (fun i=>K i\/i=gs) W W')(y: ∀i,j i->K i\/W.heap.size<=i)(o:sure<=d:=by exact Int.le_refl _):StoP wb W' g gs gl gx rate m ws sd c s u cnt B C d P j:=
 ⟨v,h.b.same (D gs (.inr rfl)),h.sdE,h.recE,h.stE,h.ckE,h.wsE,Int.le_trans h.ckS o,fun l=>by
  rcases y gs l with r|r
  ·exact h.k.1 r
  ·have:=h.b.lt;omega,h.k.2⟩
theorem StoP.cells(h:StoP wb W g gs gl gx rate m ws sd c s u cnt B C sure P K):W.cell? ⟨gs,0,none⟩=some (.pointer (some ⟨gl,0,none⟩))/\W.cell? ⟨gs,1,none⟩=some (.pointer (some ⟨gx,0,none⟩))/\W.cell? ⟨gs,2,none⟩=some (.int .u64 sd):=⟨h.b.cell 0,h.b.cell 1,h.b.cell 2⟩
theorem StoP.okB(h:StoP wb W g gs gl gx rate m ws sd c s u cnt B C sure P K):okM B:=h.i.okB.1
theorem StoP.len(h:StoP wb W g gs gl gx rate m ws sd c s u cnt B C sure P K):B.length<=(tos (q1a P)).length:=h.stE.len h.okB.sort
theorem q7i(P:Pbs):(q9q P).length=P.length:=List.length_map _
theorem StoP.posLt(h:StoP wb W g gs gl gx rate m ws sd c s u cnt B C sure P K){y:Nat×Bt}(b:y∈P):(y.1,btB y.2)∈q0y 0 C:=by rw[h.recE];exact List.mem_map.2 ⟨y,b,rfl⟩
end
section
variable {wb w W W':World}{g gl gs gx rate:Nat}{m:Man}{ws:List En}{c s sd:Int}{u cnt:Nat}{B:List En}{C:Cks}{P:Pbs}{sure:Int}{K K':Nat->Prop}
theorem StoP.poke(h:StoP wb W g gs gl gx rate m ws sd c s u cnt B C sure P K)(hq:K q)(b:wb.heap.size<=q)(j:Nat)(v:Value):StoP wb (W.setCell ⟨q,j,none⟩ v) g gs gl gx rate m ws sd c s u cnt B C sure P K:=
 h.sideM (by rw[World.size_setCell];exact ι _) (Below.setCell h.base b _) (fun i d l=>q0L _ _ fun e=>l (e▸hq)) fun i d=> .inl d
theorem Stay.poke{K:Nat->Prop}{w W:World}(h:Stay K w W)(hq:¬K q)(j:Nat)(v:Value):Stay K w (W.setCell ⟨q,j,none⟩ v):=fun i b=>(q0L _ _ fun e=>hq (by rw[<-e];exact b)).trans (h i b)
def z3L(r:Option To):Value:=match r with
 |some t=> .tuple #[toV t,.bool true,.int .i64 0]
 |none=> .tuple #[toV to0,.bool false,.int .i64 0]
theorem y0H{e:Ev}(h:z6d e):(evB e).length<=228:=by
 obtain⟨_,b,d⟩:=q1W h.1;unfold evB;rw[q1d (by omega),q1d (by omega)];simp[q0G];omega
theorem z3G : ∀{L:List Ev},(∀e∈L,z6d e)->((L.map evB).flatten).length<=228*L.length
 |[],_=>ι _
 | e::L,h=>by
  have d:=y0H (h e (.head _));have i:=z3G (L:=L) fun x b=>h x (.tail _ b)
  rw[List.map_cons,List.flatten_cons,θ,χ];omega
theorem z2q{b:Bt}(h:z2G b):(btB b).length<=2000:=by
 obtain⟨j,l,o,r,v,y,d⟩:=q0Y h.1;have i:=z3G (L:=b.ev) fun e he=>⟨q3t d e he,h.2 e he⟩
 unfold btB;rw[q1d (by omega),θ,θ,θ,θ,q0G,q0G,q0G];omega
theorem StoP.ent(h:StoP wb W g gs gl gx rate m ws sd c s u cnt B C sure P K)(o:x∈B)(str:List UInt8):
  ∃ (b:Bt) (k pos:Nat),z2G b/\q5i C (pos:Int)=(btB b,0)/\pos<=819200/\k<b.ev.length/\x=(q2V sd b.st,(b.fi:Int)+(k:Int),(pos:Int))/\
   q2O P str x=if b.st=str then some ⟨str,((b.fi+k:Nat):Int),b.ev.getD k ev0⟩ else none:=by
 obtain⟨y,d,k,j,rfl⟩:=mem_entsP.1 ((h.stE.ents x).1 o);have l:=h.posLt d;exact⟨y.2,k,y.1,h.stE.ok.each (List.mem_map.2 ⟨y,d,rfl⟩),z6v h.i.cOk l,z3h h.i.cOk l,j,rfl,q5b h.stE.pos d j str⟩
theorem y3C{W:World}{t:TypeId}{a b c d e:Value}(h:Blk W q t #[a,b,c,d,e])(i j l o:Value):
  (W.cell? ⟨q,0,none⟩=some a/\W.cell? ⟨q,1,none⟩=some b/\W.cell? ⟨q,2,none⟩=some c/\W.cell? ⟨q,3,none⟩=some d/\W.cell? ⟨q,4,none⟩=some e)/\
  (W.frozen? ⟨q,0,none⟩=false/\W.frozen? ⟨q,1,none⟩=false/\W.frozen? ⟨q,2,none⟩=false/\W.frozen? ⟨q,3,none⟩=false/\W.frozen? ⟨q,4,none⟩=false)/\
  (((W.setCell ⟨q,0,none⟩ i).setCell ⟨q,1,none⟩ j).frozen? ⟨q,2,none⟩=false/\((W.setCell ⟨q,0,none⟩ i).setCell ⟨q,1,none⟩ j).cell? ⟨q,2,none⟩=some c)/\
  ((((W.setCell ⟨q,0,none⟩ i).setCell ⟨q,1,none⟩ j).setCell ⟨q,2,none⟩ l).frozen? ⟨q,3,none⟩=false/\(((W.setCell ⟨q,0,none⟩ i).setCell ⟨q,1,none⟩ j).setCell ⟨q,2,none⟩ l).cell? ⟨q,3,none⟩=some d)/\
  (((((W.setCell ⟨q,0,none⟩ i).setCell ⟨q,1,none⟩ j).setCell ⟨q,2,none⟩ l).setCell ⟨q,3,none⟩ o).frozen? ⟨q,4,none⟩=false/\((((W.setCell ⟨q,0,none⟩ i).setCell ⟨q,1,none⟩ j).setCell ⟨q,2,none⟩ l).setCell ⟨q,3,none⟩ o).cell? ⟨q,4,none⟩=some e):=by
 have r:=(h.set 0 i).set 1 j;have v:=r.set 2 l;have y:=v.set 3 o;exact⟨⟨h.cell 0,h.cell 1,h.cell 2,h.cell 3,h.cell 4⟩,⟨h.free 0,h.free 1,h.free 2,h.free 3,h.free 4⟩,⟨r.free 2,r.cell 2⟩,⟨v.free 3,v.cell 3⟩,⟨y.free 4,y.cell 4⟩⟩
theorem y0I(h:StoP wb w g gs gl gx rate m ws sd c s u cnt B C sure P K)(U:x∈B)(str:List UInt8)(hs:str.length<=4611686018427387903):
  Calls Tryz.prog 113 #[.pointer (some ⟨gs,0,none⟩),enV x,.string ⟨str.toArray⟩] w fun e w'=>e= .returned (z3L (q2O P str x))/\StoP wb w' g gs gl gx rate m ws sd c s u cnt B C sure P K/\Stay K w w':=by
 obtain⟨b,k,pos,hb,e0,y0,hk,rfl,hf⟩:=h.ent U str;have Y:=z1q b hb;have w0:=z2q hb;obtain⟨q1,q2,q3,q4,q5,q6,q7⟩:=q0Y hb.1;rw[hf];show Calls _ _ #[_,.agg #[.int .u64 (q2V sd b.st),.int .i64 ((b.fi:Int)+(k:Int)),.int .i64 (pos:Int)],_] _ _;generalize q2V sd b.st=xh;obtain⟨p,hp⟩: ∃p,btB b=p:=⟨_,rfl⟩
 rw[hp] at e0 Y w0;have HG:=η (fun W=>z5T p W (by omega));rw[Y] at HG;have g0:=q0B w (.cells #[.int .u64 xh,.int .i64 ((b.fi:Int)+(k:Int)),.int .i64 (pos:Int)] 165);have N:=q0B (w.alloc (.cells #[.int .u64 xh,.int .i64 ((b.fi:Int)+(k:Int)),.int .i64 (pos:Int)] 165)) (.cells #[.string ⟨#[]⟩,.int .i64 0,.string ⟨#[]⟩,.string ⟨#[]⟩,.float .f64 0] 69);have G:=(Blk.new w 165 #[.int .u64 xh,.int .i64 ((b.fi:Int)+(k:Int)),.int .i64 (pos:Int)]).ext N;have V:=Blk.new (w.alloc (.cells #[.int .u64 xh,.int .i64 ((b.fi:Int)+(k:Int)),.int .i64 (pos:Int)] 165)) 69 #[.string ⟨#[]⟩,.int .i64 0,.string ⟨#[]⟩,.string ⟨#[]⟩,.float .f64 0];rw[ρ] at V;have v0:=h.base.size;have H0:=h.more (K':=fun i=>K i\/i=w.heap.size\/i=w.heap.size+1) (g0.trans N) fun i r=>r.imp id fun e=>by
  rw[ρ,ρ];omega
 have o0:=h.kExt (g0.trans N);have q0:¬K (w.heap.size+1):=fun e=>by have:=h.klt _ e;omega
 have HR:=η (fun W k=>(H0.grow (W':=W) k).i.read (pos:Int) (by omega) (by omega) e0);have k0:=G.cell 0;have k1:=G.cell 1;have k2:=G.cell 2;obtain⟨s0,s1,s2⟩:=H0.cells;have HH:=η H0;have m0:=η o0;have h0:=η G;have j0:=η V;have F:=η q0;have E:Hd (wb.heap.size<=w.heap.size+1):=η (by omega);clear h U hf hb Y g0 N H0 o0 G V q0 v0 e0;go_enter Tryz.func113,Tryz.ntmps113;go_wp2_with fail;have d0:=q0A (Ext.refl _).drew s0;have d2:=q0A (Ext.refl _).drew k2
 go_region_held3 (fun W=>W.cell? ⟨gs,0,none⟩=some (.pointer (some ⟨gl,0,none⟩))/\W.cell? ⟨w.heap.size,2,none⟩=some (.int .i64 (pos:Int)))
  (first|exact l0.o|exact⟨d0,d2⟩)
  (first|(go_at_call 181;refine(HR.o _ (Ext.refl _).drew).mono ?_;rintro e w3 ⟨rfl,r,I⟩;have J:=η ((HH.o.grow (Ext.refl _).drew).stay r I fun i r=> .inl r);have n0:=η (m0.o.trans fun i r=>I i (.inl (.inl r)));have D:=η ((h0.o.ext (Ext.refl _).drew).same (I _ (.inl (.inr (.inl rfl)))));have O:=η ((j0.o.ext (Ext.refl _).drew).same (I _ (.inl (.inr (.inr rfl)))));have l0:=η (And.intro J.o.cells.1 (D.o.cell 2));clear r I))
 clear l0 d0 d2;clear HR HH m0 h0 j0 k0 k1 k2 s0 s1 s2;generalize w.heap.size=q at*;go_wp2_with fail;refine(HG.o _).mono ?_;rintro e w4 ⟨⟨y,rfl,hy⟩,U⟩;obtain⟨x,rfl,d⟩:=hy;obtain⟨ao,cp,rfl,j⟩:=Evs.of_own d;have p0:=j.fits;have A0:=j.bound;obtain⟨st,fi,ev⟩:=b;simp only at hk q1 q2 q3 q4 q5 q6 j p0 d⊢;obtain⟨n,hn⟩: ∃n,ev.length=n:=⟨_,rfl⟩
 rw[hn] at hk q4 q6 j p0 d⊢;have l:=q0B w4 (.cells #[.string ⟨st.toArray⟩,.int .i64 (fi:Int),.slice ao n cp] 160);have M:=Blk.new w4 160 #[.string ⟨st.toArray⟩,.int .i64 (fi:Int),.slice ao n cp];have t0:=η (J.o.grow (U.trans l));have u0:=η (n0.o.trans fun i r=>J.o.kExt (U.trans l) i (.inl r));have i0:=η (D.o.ext (U.trans l));have Q:=η (O.o.ext (U.trans l));have R:=j.ext l;have k1:=i0.o.cell 1;have b0:=M.cell 0;have b1:=M.cell 1;have b2:=M.cell 2;have qi:IntKind.i64.wrap ((fi:Int)+(k:Int)-(fi:Int))=(k:Int):=by rw[ν];omega
 have B0:decide ((k:Int)<0)=false:=ε (by omega);have C0:decide ((n:Int)<=(k:Int))=false:=ε (by omega);have E0:(k:Int)<(n:Int):=by omega
 have D0:0<=(k:Int):=by omega
 have F0:=q2C;obtain⟨bb,off,rfl,c0,c1,c2⟩:=R.at hk;obtain⟨ee,X⟩: ∃ee,ev.getD k ev0=ee:=⟨_,rfl⟩
 rw[X] at c0 c1 c2;obtain⟨ty,da,we⟩:=ee;have r0:Hd (∀h:k<ev.length,ev[k]=⟨ty,da,we⟩):=η fun h=>by rw[<-X,δ,γ h];rfl
 simp only at c0 c1 c2⊢;have S: ∀(W:World),W=w4.alloc (.cells #[.string ⟨st.toArray⟩,.int .i64 (fi:Int),.slice (some ⟨bb,off,none⟩) n cp] 160)-> ∀a0 a1 a2 a3 a4:Value,
   StoP wb (((((W.setCell ⟨q+1,0,none⟩ a0).setCell ⟨q+1,1,none⟩ a1).setCell ⟨q+1,2,none⟩ a2).setCell ⟨q+1,3,none⟩ a3).setCell ⟨q+1,4,none⟩ a4) g gs gl gx rate m ws sd c s u cnt B C sure P K/\
    Stay K w (((((W.setCell ⟨q+1,0,none⟩ a0).setCell ⟨q+1,1,none⟩ a1).setCell ⟨q+1,2,none⟩ a2).setCell ⟨q+1,3,none⟩ a3).setCell ⟨q+1,4,none⟩ a4):=fun W hW a0 a1 a2 a3 a4=>by
  subst hW;have e: ∀i:Nat,(fun i=>K i\/i=q\/i=q+1) (q+1):=fun _=> .inr (.inr rfl)
  exact⟨(((((t0.o.poke (e 0) E.o 0 a0).poke (e 0) E.o 1 a1).poke (e 0) E.o 2 a2).poke (e 0) E.o 3 a3).poke (e 0) E.o 4 a4).beside fun i r=> .inl r,
   ((((u0.o.poke F.o 0 a0).poke F.o 1 a1).poke F.o 2 a2).poke F.o 3 a3).poke F.o 4 a4⟩
 have HF:=η S;clear X U l d j R M S HG n0 J D O q7;by_cases x0:st=str
 ·subst x0
  obtain⟨⟨z0,z1,z2,z3,z4⟩,⟨f0,f1,f2,f3,f4⟩,⟨g2,d2⟩,⟨g3,d3⟩,⟨g4,d4⟩⟩:=y3C Q.o (.string ⟨st.toArray⟩) (.int .i64 ((fi:Int)+(k:Int))) (.string ⟨ty.toArray⟩) (.string ⟨da.toArray⟩);go_wp2_with fail;refine q5t 9 (by kernel_rfl) (by kernel_rfl) ?_;simp only[List.take_succ_cons,List.take_zero,List.drop_succ_cons,List.drop_zero]
  repeat still_step
  refine wpStill_nil ?_;go_wp2_with fail
  ((try simp only[Exit.inBlock,Exit.then]);refine bodyPost_ret (v:= .tuple #[.agg #[.string ⟨st.toArray⟩,.int .i64 ((fi:Int)+(k:Int)),.string ⟨ty.toArray⟩,.string ⟨da.toArray⟩,.float .f64 we],.bool true,.int .i64 0]) (by rw[q0T rfl];go_simp) rfl ?_)
  obtain⟨r1,r2⟩:=HF.o _ rfl (.string ⟨st.toArray⟩) (.int .i64 ((fi:Int)+(k:Int))) (.string ⟨ty.toArray⟩) (.string ⟨da.toArray⟩) (.float .f64 we);exact⟨by rw[r0.o];rfl,r1.grow (Ext.refl _).drew,r2⟩
 ·obtain⟨⟨z0,z1,z2,z3,z4⟩,⟨f0,f1,f2,f3,f4⟩,⟨g2,d2⟩,⟨g3,d3⟩,⟨g4,d4⟩⟩:=y3C Q.o (.string ⟨#[]⟩) (.int .i64 0) (.string ⟨#[]⟩) (.string ⟨#[]⟩)
  go_wp2_with fail
  ((try simp only[Exit.inBlock,Exit.then]);refine bodyPost_ret (v:= .tuple #[.agg #[.string ⟨#[]⟩,.int .i64 0,.string ⟨#[]⟩,.string ⟨#[]⟩,.float .f64 0],.bool false,.int .i64 0]) (by rw[q0T rfl];go_simp) rfl ?_)
  exact⟨rfl,HF.o _ rfl _ _ _ _ _⟩
end
section
variable {wb w W W1 W2:World}{g gl gs gx rate:Nat}{m:Man}{ws:List En}{c s sd:Int}{u cnt:Nat}{B:List En}{C:Cks}{P:Pbs}{sure:Int}{K K':Nat->Prop}
theorem StoP.row1{n1 I base:Nat}{vq j:Value}{Q D:List Value}{l:Obj}{ti:TypeId}(h:StoP wb W g gs gl gx rate m ws sd c s u cnt B C sure P (fun i=>K i\/vq.ownBlock=some i))(R:wb.heap.size<=base)(hq:W.ownsRow base ti I vq n Q)
  (J:W2.ownsRow base ti I j n1 D)(o:(W.alloc l).grownBy W2 vq.ownBlock)(E:j.ownBlock=vq.ownBlock\/j.ownBlock=some (W.alloc l).heap.size)(G: ∀i,K i->vq.ownBlock≠some i):
  StoP wb W2 g gs gl gx rate m ws sd c s u cnt B C sure P (fun i=>K i\/j.ownBlock=some i)/\Stay K W W2/\ ∀i,K i->j.ownBlock≠some i:=by
 have O:=o.size;rw[ρ] at O;have v: ∀i,vq.ownBlock=some i->base<=i/\i<W.heap.size:=q0U hq;have F: ∀i,i<W.heap.size->vq.ownBlock≠some i->W2.heap[i]? =W.heap[i]? :=fun i b r=>(o.block i (by rw[ρ];omega) fun e=>r e.symm).trans ((q0B W l).block i b)
 have d:=h.base;have y:Ext wb W2:=Below.grown (d.alloc l) o (by rw[ρ];have:=d.size;omega) fun k M=>by have:=(v k M).1;omega
 refine⟨h.sideM (by omega) y (fun i b r=>F i b fun e=>r (.inr e)) fun i b=>?_,fun i b=>F i (h.klt i (.inl b)) (G i b),fun i b e=>?_⟩
 ·rcases b with b|b
  ·exact .inl (.inl b)
  ·rcases E with k|k
   ·exact .inl (.inr (k.symm.trans b))
   ·have N:=(q0U J i b).2
    rw[k,ρ] at b
    cases b
    right;omega
 ·rcases E with k|k
  ·exact G i b (k.symm.trans e)
  ·rw[k,ρ] at e
   cases e;have:=h.klt _ (.inl b);omega
theorem q6v(h :StoP wb w g gs gl gx rate m ws sd c s u cnt B C sure P K)(str:List UInt8)(hs:str.length<=4611686018427387903)(fr tt:Int)(hl:B.length<=10000){R:List To}
  (hR:(q4G (q1a P) str).filter (fun t=>decide (max fr 0<=t.v/\t.v<=min tt 1073741824))=R):
  Calls Tryz.prog 65 #[.pointer (some ⟨gs,0,none⟩),.string ⟨str.toArray⟩,.int .i64 fr,.int .i64 tt] w fun e w'=>
   ∃v,e= .returned (.tuple #[v,.int .i64 0])/\StoP wb w' g gs gl gx rate m ws sd c s u cnt B C sure P (fun i=>K i\/v.ownBlock=some i)/\Stay K w w'/\w'.ownsRow wb.heap.size 69 5 v R.length (q2q R)/\ ∀i,K i->v.ownBlock≠some i:=by
 have D0:=h.stE.between h.okB.sort str (max fr 0) (min tt 1073741824);rw[hR] at D0;have O0:(q0s B (q2V sd str) (max fr 0) (min tt 1073741824)).length<=10000:=Ω (List.length_filter_le _ _) hl;have g0: ∀x∈q0s B (q2V sd str) (max fr 0) (min tt 1073741824),x∈B:=fun x hx=>(mem_range.1 hx).1
 have u0:=η (fun W=>z3P sd str W hs);have x0:=η (fun W (k:Ext w W)=>(h.grow (W':=W) k).i.range (q2V sd str) fr tt hl);obtain⟨s0,s1,s2⟩:=h.cells;have HH:=η h;have S0:=h.base.size;have N0: ∀x∈q0s B (q2V sd str) (max fr 0) (min tt 1073741824),x∈B:=g0;generalize q0s B (q2V sd str) (max fr 0) (min tt 1073741824)=L at*;generalize q2V sd str=hh at*;have d1:=q0A (Ext.refl _).drew s1;have d2:=q0A (Ext.refl _).drew s2;clear h hR s0 s1 s2;go_enter Tryz.func65,Tryz.ntmps65;go_wp2_with fail
 go_region_held3 (fun W=>W.cell? ⟨gs,1,none⟩=some (.pointer (some ⟨gx,0,none⟩))/\W.cell? ⟨gs,2,none⟩=some (.int .u64 sd))
  (first|exact r0.o|exact⟨d1,d2⟩)
  (first
   |(go_at_call 89;refine(u0.o _).mono ?_;rintro e wa ⟨rfl,rfl⟩)
   |(go_at_call 112;refine(x0.o _ (Ext.refl _).drew).mono ?_;rintro e w3 ⟨v,rfl,d,E,j⟩;have d0:=η j;have v0:=η d;have i0:=η E;have r0:=η (And.intro (((HH.o.grow (Ext.refl _).drew).b.same (E _ (.inr rfl))).cell 1) (((HH.o.grow (Ext.refl _).drew).b.same (E _ (.inr rfl))).cell 2));clear d E j))
 all_goals
  clear r0 d1 d2 u0 x0;have j:=d0.o;obtain⟨ao,S,rfl⟩:=q0E j
  have H0:Hd (StoP wb w3 g gs gl gx rate m ws sd c s u cnt B C sure P (fun i=>(K i\/(Value.slice ao L.length S).ownBlock=some i)\/(Value.slice none 0 0).ownBlock=some i)):=η ((HH.o.grow (Ext.refl _).drew).stay (v0.o.beside fun i d=>by
   rcases d with((d|d)|d)|d
   ·exact .inl (.inl d)
   ·exact .inr d
   ·cases d
   ·exact .inl (.inr d)) i0.o fun i d=>by
   rcases d with(d|d)|d
   ·exact .inl d
   ·exact .inr (q0U j i d).1
   ·cases d)
  have z0:Hd (Stay K w w3):=η fun i d=>i0.o i (.inl d)
  have P0:Hd (∀i,K i->(Value.slice ao L.length S).ownBlock≠some i):=η fun i d e=>by
   have h1:=HH.o.klt i d;have h2:w.heap.size<=i:=(q0U j i e).1;omega
  have L0:=j;have w0:Hd (L.length<=S/\S<=9223372036854775807):=η (by obtain⟨_,_,h1,h2⟩:=Ens.of_own (Own.of_row j);cases h1;exact⟨h2.fits,h2.bound⟩);have b1:=w0.o.1;have b2:=w0.o.2;clear j L0 v0 i0;go_wp2_with fail
  go_loopw [12,39] (fun o i W=> ∃(k:Nat) (v:Value),k<=L.length/\o=v/\i= .int .i64 (k:Int)/\W.ownsRow wb.heap.size 69 5 v ((L.take k).filterMap (q2O P str)).length (q2q ((L.take k).filterMap (q2O P str)))/\
   StoP wb W g gs gl gx rate m ws sd c s u cnt B C sure P (fun i=>(K i\/(Value.slice ao L.length S).ownBlock=some i)\/v.ownBlock=some i)/\Stay K w W/\W.ownsRow w.heap.size 165 3 (.slice ao L.length S) L.length (ecs L)/\ ∀i,(K i\/(Value.slice ao L.length S).ownBlock=some i)->v.ownBlock≠some i) (fun _ i _=>L.length-(intOf i).toNat)
  case atStart=>exact⟨0,_,υ _,rfl,rfl,World.ownsRow_nil _ _ _ _,H0.o,z0.o,d0.o,fun i _ e=>by cases e⟩
  case round =>
   obtain⟨k,v,hk,rfl,rfl,a0,E,n0,Y,l0⟩:=hrel;have U:=η a0;have V:=η E;have j0:=η n0;have y0:=η Y;have J:=η l0;obtain⟨oa,oc,rfl⟩:=q0E a0;by_cases Q:k<L.length
   ·have hd:decide ((k:Int)<(L.length:Int))=true:=ζ (by omega)
    have q8:IntKind.i64.wrap ((k:Int)+1)=(k:Int)+1:=by rw[ν];omega
    have Q0:(k:Int)<(L.length:Int):=by omega
    obtain⟨_,_,K0,f0⟩:=Ens.of_own (Own.of_row Y)
    cases K0;obtain⟨bb,off,rfl,c0,c1,c2⟩:=f0.at Q;have o0:L.take (k+1)=L.take k++[L.getD k en0]:=by rw[List.take_succ_eq_append_getElem Q,δ,γ Q];rfl
    have q0:=g0 (L.getD k en0) (by rw[δ,γ Q];exact List.getElem_mem Q);obtain⟨x,hx⟩: ∃x,L.getD k en0=x:=⟨_,rfl⟩
    rw[hx] at c0 c1 c2 o0 q0
    have X:Hd ((L.take (k+1)).filterMap (q2O P str)=(L.take k).filterMap (q2O P str)++(q2O P str x).toList):=η (by
     rw[o0,List.filterMap_append];congr 1)
    have h0:Hd (((L.take k).filterMap (q2O P str)).length<=10000):=η (Ω (List.length_filterMap_le _ _) (by rw[Θ];omega));obtain⟨x1,x2,x3⟩:=x;simp only at c0 c1 c2;have p0:=q0B wr (.cells #[.int .u64 x1,.int .i64 x2,.int .i64 x3] 165);have y:=Blk.new wr 165 #[.int .u64 x1,.int .i64 x2,.int .i64 x3];have k0:=y.cell 0;have k1:=y.cell 1;have k2:=y.cell 2;have HF:Hd (Calls Tryz.prog 113 #[.pointer (some ⟨gs,0,none⟩),.agg #[.int .u64 x1,.int .i64 x2,.int .i64 x3],.string ⟨str.toArray⟩] (wr.alloc (.cells #[.int .u64 x1,.int .i64 x2,.int .i64 x3] 165)) fun e w'=>e= .returned (z3L (q2O P str (x1,x2,x3)))/\StoP wb w' g gs gl gx rate m ws sd c s u cnt B C sure P (fun i=>(K i\/(Value.slice (some ⟨bb,off,none⟩) L.length S).ownBlock=some i)\/(Value.slice oa ((L.take k).filterMap (q2O P str)).length oc).ownBlock=some i)/\Stay (fun i=>(K i\/(Value.slice (some ⟨bb,off,none⟩) L.length S).ownBlock=some i)\/(Value.slice oa ((L.take k).filterMap (q2O P str)).length oc).ownBlock=some i) (wr.alloc (.cells #[.int .u64 x1,.int .i64 x2,.int .i64 x3] 165)) w'):=
     η (y0I (E.grow p0) q0 str hs)
    clear a0 E n0 Y l0 f0 y o0 q0 hx;go_wp2_with fail;refine HF.o.mono ?_;rintro e w5 ⟨rfl,E0,F0⟩;have I:Stay (fun i=>(K i\/(Value.slice (some ⟨bb,off,none⟩) L.length S).ownBlock=some i)\/(Value.slice oa ((L.take k).filterMap (q2O P str)).length oc).ownBlock=some i) wr w5:=(V.o.kExt p0).trans F0;have F:=η (q0f U.o fun i d=>I i (.inr d));have b0:=η (q0f y0.o fun i d=>I i (.inl (.inr d)));have e0:=η (j0.o.trans fun i d=>I i (.inl (.inl d)));have l:=η E0;clear E0 F0 I HF p0 V U y0 j0 k0 k1 k2 c0 c1 c2;obtain⟨OL,B0⟩: ∃OL,(L.take k).filterMap (q2O P str)=OL:=⟨_,rfl⟩
    rw[B0] at F l X h0 J⊢;obtain⟨no,m0⟩: ∃no,OL.length=no:=⟨_,rfl⟩
    rw[m0] at F l h0 J⊢;have R0:=h0.o;clear B0;obtain⟨r,hr⟩: ∃r,q2O P str (x1,x2,x3)=r:=⟨_,rfl⟩
    rw[hr] at X⊢;clear hr
    cases r with
    | none=>
     have M:=q0B w5 (.cells #[.string ⟨#[]⟩,.int .i64 0,.string ⟨#[]⟩,.string ⟨#[]⟩,.float .f64 0] 69);have D:=η M;rw[show z3L none= .tuple #[.agg #[.string ⟨#[]⟩,.int .i64 0,.string ⟨#[]⟩,.string ⟨#[]⟩,.float .f64 0],.bool false,.int .i64 0] from rfl];clear M;have M0:=q2C;go_wp2_with fail
     go_roundw
     case rel=>
      refine⟨k+1,_,by omega,rfl,by go_num,?_,l.o.grow D.o,e0.o.trans fun i d=>l.o.kExt D.o i (.inl (.inl d)),q0J b0.o D.o,J.o⟩;rw[X.o,show(none:Option To).toList=[] from rfl,List.append_nil,m0];exact q0J F.o D.o
     case measure=>simp[intOf];omega
    | some t=>
     obtain⟨ts,N,⟨ty,da,we⟩⟩:=t;have M:=q0B w5 (.cells #[.string ⟨ts.toArray⟩,.int .i64 N,.string ⟨ty.toArray⟩,.string ⟨da.toArray⟩,.float .f64 we] 69);have y:=Blk.new w5 69 #[.string ⟨ts.toArray⟩,.int .i64 N,.string ⟨ty.toArray⟩,.string ⟨da.toArray⟩,.float .f64 we];have t0:=y.cell 0;have t1:=y.cell 1;have t2:=y.cell 2;have t3:=y.cell 3;have t4:=y.cell 4;have D:=η M;rw[show z3L (some ⟨ts,N,⟨ty,da,we⟩⟩)= .tuple #[.agg #[.string ⟨ts.toArray⟩,.int .i64 N,.string ⟨ty.toArray⟩,.string ⟨da.toArray⟩,.float .f64 we],.bool true,.int .i64 0] from rfl];have A0:=η (l.o.grow M);have G0:Hd (wb.heap.size<=w5.heap.size):=η l.o.base.size
     have J0:Hd (Rd ((w5.alloc (.cells #[.string ⟨ts.toArray⟩,.int .i64 N,.string ⟨ty.toArray⟩,.string ⟨da.toArray⟩,.float .f64 we] 69)).alloc (.cells #[.string ⟨ts.toArray⟩,.int .i64 N,.string ⟨ty.toArray⟩,.string ⟨da.toArray⟩,.float .f64 we] 69)) (some ⟨w5.heap.size+1,0,none⟩) (toc ⟨ts,N,⟨ty,da,we⟩⟩)):=η (by
      have h:=Rd.lit (w5.alloc (.cells #[.string ⟨ts.toArray⟩,.int .i64 N,.string ⟨ty.toArray⟩,.string ⟨da.toArray⟩,.float .f64 we] 69)) #[.string ⟨ts.toArray⟩,.int .i64 N,.string ⟨ty.toArray⟩,.string ⟨da.toArray⟩,.float .f64 we] 69;rw[ρ] at h
      exact h)
     have M0:=q2C;clear M y
     go_wp2_with (at_builtin;refine q0M rfl _ _ 36 rfl wb.heap.size 69 _ 5 64 Tryz.underlying36 Tryz.infoTo (by decide) (by decide) _ no (q2q OL) rfl (q0J (q0J F.o D.o) (q0B _ _)) _ 1 1 (toc ⟨ts,N,⟨ty,da,we⟩⟩) rfl rfl (fun h=>by cases h) J0.o (by unfold toc;simp[Value.oneCell']) (by unfold maxLen;omega) (by omega) (by have:=G0.o;simp;omega) ?_;intro v2 w8 G O C0;obtain⟨a2,k2,rfl⟩:=q0E G;have HO:=η G;have I0:=η (StoP.row1 A0.o (ι _) (q0J F.o D.o) G O C0 J.o);clear G O C0)
     go_roundw
     case rel=>
      obtain⟨r1,r2,r3⟩:=I0.o;refine⟨k+1,_,by omega,rfl,by go_num,?_,r1,?_,?_,r3⟩
      ·rw[X.o,show(some (⟨ts,N,⟨ty,da,we⟩⟩:To)).toList=[⟨ts,N,⟨ty,da,we⟩⟩] from rfl,q5q,θ,m0]
       exact HO.o
      ·exact(e0.o.trans fun i d=>l.o.kExt D.o i (.inl (.inl d))).trans fun i d=>r2 i (.inl d)
      ·exact q0f (q0J b0.o D.o) fun i d=>r2 i (.inr d)
     case measure=>simp[intOf];omega
   ·obtain rfl:k=L.length:=by omega
    have hd:decide ((L.length:Int)<(L.length:Int))=false:=ε (by omega);have e9:(L.take L.length).filterMap (q2O P str)=R:=by rw[List.take_length];exact D0
    clear a0 E n0 Y l0;rw[e9] at U V J⊢;go_wp2_with fail;go_ret2;exact⟨_,rfl,V.o.beside fun i d=>d.imp .inl id,j0.o,U.o,fun i d=>J.o i (.inl d)⟩
end
section
variable {wb w W W1 W2:World}{g gl gs gx rate:Nat}{m:Man}{ws:List En}{c s sd:Int}{u cnt:Nat}{B:List En}{C:Cks}{P:Pbs}{sure:Int}{K K':Nat->Prop}
theorem q9x(h:Blk W gs 131 #[.pointer (some ⟨gl,0,none⟩),.pointer (some ⟨gx,0,none⟩),.int .u64 sd]):Calls Tryz.prog 61 #[.pointer (some ⟨gs,0,none⟩)] W fun e w'=>e= .returned (.bool false)/\W=w':=by
 have b:=h.cell 0;clear h;go_enter Tryz.func61,Tryz.ntmps61;go_wp2_with fail;go_ret;exact⟨rfl,rfl⟩
def z4i(bs:List Bt)(str:List UInt8):Int×Int:=if q1M str=true then(((q0R bs str).length:Int)-1,0) else(-1,2)
theorem z7D(h:StoP wb w g gs gl gx rate m ws sd c s u cnt B C sure P K)(str:List UInt8)(hs:str.length<=4611686018427387903)(hl:B.length<=10000)(i0:(q0R (q1a P) str).length<=1073741824){x y:Int}(F:z4i (q1a P) str=(x,y)):
  Calls Tryz.prog 52 #[.pointer (some ⟨gs,0,none⟩),.string ⟨str.toArray⟩] w fun e w'=>e= .returned (.tuple #[.int .i64 x,.int .i64 y])/\StoP wb w' g gs gl gx rate m ws sd c s u cnt B C sure P K/\Stay K w w':=by
 have HN:=η (q9x h.b);have j:=η (q9z str w (by omega));have e0:=η (fun W=>z3P sd str W hs);have HH:=η h;clear h;unfold z4i at F
 cases hstr:q1M str with
 | false=>
  rw[hstr,κ (by decide)] at F;injection F with h1 h2;subst h1 h2;rw[hstr] at j;go_enter Tryz.func52,Tryz.ntmps52;go_wp2_with fail;refine HN.o.mono ?_;rintro e w1 ⟨rfl,rfl⟩;go_wp2_with fail;refine j.o.mono ?_;rintro e w1 ⟨rfl,Q⟩;have HX:=η Q;clear Q;go_wp2_with fail;go_ret2;exact⟨rfl,HH.o.grow HX.o,HH.o.kExt HX.o⟩
 | true =>
  rw[hstr,ξ rfl] at F;rw[hstr] at j;obtain⟨N,hN⟩: ∃N,(q0R (q1a P) str).length=N:=⟨_,rfl⟩
  rw[hN] at F i0;injection F with h1 h2;subst h2;have a0:=η h1;clear h1;have J:=η hN;go_enter Tryz.func52,Tryz.ntmps52;go_wp2_with fail;refine HN.o.mono ?_;rintro e w1 ⟨rfl,rfl⟩;go_wp2_with fail;refine j.o.mono ?_;rintro e w1 ⟨rfl,Q⟩;have S:=η (HH.o.grow Q);have f0:=η (HH.o.kExt Q);obtain⟨s0,s1,s2⟩:=S.o.cells;clear Q j;go_wp2_with fail;refine(e0.o _).mono ?_;rintro e n0 ⟨rfl,rfl⟩;clear s0 s1 s2;go_wp2_with fail
  go_loopw [7] (fun o W=> ∃v:Int,o= .int .i64 v/\(N:Int)-1<=v/\v<=1073741824/\ -1<=v/\StoP wb W g gs gl gx rate m ws sd c s u cnt B C sure P K/\Stay K w W) (fun o _=>(intOf o+2).toNat)
  case atStart=>exact⟨1073741824,rfl,by omega,by omega,by omega,S.o,f0.o⟩
  case round=>
   obtain⟨v,rfl,v0,v1,v2,D,b0⟩:=hrel;obtain⟨s0,s1,s2⟩:=D.cells;have d0:=η D;have g0:=η b0;have HL:=η (D.i.last (q2V sd str) v (by omega));have V:=η (fun r F=>D.stE.last D.okB (s:=str) (u:=v) (r:=r) (by rw[J.o];exact v0) F);rw[show min v 1073741824=v by omega] at HL;clear D b0;go_wp2_with fail;refine HL.o.mono ?_;rintro e w2 ⟨r,rfl,M,E,d⟩;obtain⟨l1,l2,l3,l4,l5⟩:=V.o r M;rw[J.o] at l1 l4 l5;have m0:r<=v:=by
    rcases M.2 with e|⟨y,hy,_,e1,e2⟩
    ·omega
    ·omega
   have I:=η (d0.o.stay E d fun i E=> .inl E);have X:=η (g0.o.trans fun i E=>d i (.inl E));clear E d s0 s1 s2 HL V M;by_cases O:r<0
   ·have hd:decide (r<0)=true:=ζ O
    have k0:(N:Int)=0:=by have:=l3 O;rw[<-J.o,this];rfl
    obtain rfl:x= -1:=by have:=a0.o;omega
    go_wp2_with fail
    (try rw[Exit.noGoto_ret])
    go_ret2;exact⟨rfl,I.o,X.o⟩
   ·have hd:decide (r<0)=false:=ε O
    have HB:=η (q6v I.o str hs r r hl rfl);rw[show max r 0=r by omega,show min r 1073741824=r by omega] at HB;have c0:=l4 (by omega);obtain⟨R,hR⟩: ∃R,(q4G (q1a P) str).filter (fun t=>decide (r<=t.v/\t.v<=r))=R:=⟨_,rfl⟩
    rw[hR] at HB c0 l5;obtain⟨s0,s1,s2⟩:=I.o.cells;clear l3 l4 hR;go_wp2_with fail;refine HB.o.mono ?_;rintro e w3 ⟨v3,rfl,D,d,G,h0⟩;obtain⟨ra,rc,rfl⟩:=q0E G;have U:=η (D.beside (K':=K) fun i E=> .inl E);have Y:=η (X.o.trans d);clear D d G h0 HB s0 s1 s2;by_cases l:R=[]
    ·have h9:=c0 l
     have q9:IntKind.i64.wrap (r-1)=r-1:=by rw[ν];omega
     subst l;go_wp2_with fail
     go_roundw
     case rel=>exact⟨r-1,by go_num,by omega,by omega,by omega,U.o,Y.o⟩
     case measure=>simp[intOf];omega
    ·have h9:=l5 l
     obtain rfl:r=x:=by have:=a0.o;omega
     have j0:0<R.length:=List.length_pos_iff.2 l;have l0:decide (0<(R.length:Int))=true:=ζ (by omega);go_wp2_with fail
     (try rw[Exit.noGoto_ret])
     go_ret2;exact⟨rfl,U.o,Y.o⟩
end
theorem z4e(C:Cks):q1z C 0=q0y 0 C:=List.filter_eq_self.2 fun r _=>by simp
theorem z5v{w:World}{B:Nat}{e:TypeId}{b:Nat}(j:L.length=n)(h:Own w B e 3 (.slice ao n b) n (q4V L)):Evs w ao n b L:=by
 subst j;obtain⟨_,_,d,i⟩:=Evs.of_own h
 cases d;exact i
theorem z7S(b:Bt)(k:Nat):q4L b.st b.fi (b.ev.take (k+1))=q4L b.st b.fi (b.ev.take k)++(if h:k<b.ev.length then [⟨b.st,((b.fi+k:Nat):Int),b.ev[k]⟩] else []):=by
 split
 ·rename_i h
  rw[List.take_succ_eq_append_getElem h,q3y,Θ,Nat.min_eq_left (by omega)]
  rfl
 ·rename_i h
  rw[Δ (by omega),Δ (by omega),List.append_nil]
section
variable {wb w W W1 W2:World}{g gl gs gx rate:Nat}{m:Man}{ws:List En}{c s sd:Int}{u cnt:Nat}{B:List En}{C:Cks}{P:Pbs}{sure:Int}{K K':Nat->Prop}
theorem y2O(h :StoP wb w g gs gl gx rate m ws sd c s u cnt B C sure P K){T:List To}(hT:tos (q1a P)=T)(hN:T.length<=10000):
  Calls Tryz.prog 51 #[.pointer (some ⟨gs,0,none⟩)] w fun e w'=>
   ∃v,e= .returned (.tuple #[v,.int .i64 0])/\StoP wb w' g gs gl gx rate m ws sd c s u cnt B C sure P (fun i=>K i\/v.ownBlock=some i)/\Stay K w w'/\w'.ownsRow wb.heap.size 69 5 v T.length (q2q T)/\ ∀i,K i->v.ownBlock≠some i:=by
 have HN:=η (q9x h.b);have F0:okC C:=h.i.cOk;have h0:q1z C 0=q9q P:=(z4e C).trans h.recE;have X0: ∀y∈P,z2G y.2:=fun y hy=>h.stE.ok.each (List.mem_map.2 ⟨y,hy,rfl⟩)
 have HH:Hd (StoP wb w g gs gl gx rate m ws sd c s u cnt B C sure P (fun i=>K i\/(Value.slice none 0 0).ownBlock=some i)):=η (h.beside fun i d=>d.elim id fun e=>by cases e);have Z0:=η h;clear h;go_enter Tryz.func51,Tryz.ntmps51;go_wp2_with fail;refine HN.o.mono ?_;rintro e w1 ⟨rfl,rfl⟩;go_wp2_with fail
 go_loopw [4,5] (fun o p W=> ∃(j:Nat) (v:Value) (pos:Int),j<=P.length/\o=v/\p= .int .i64 pos/\0<=pos/\pos<=9223372036854775807/\q1z C pos=q9q (P.drop j)/\W.ownsRow wb.heap.size 69 5 v (tos (q1a (P.take j))).length (q2q (tos (q1a (P.take j))))/\
  StoP wb W g gs gl gx rate m ws sd c s u cnt B C sure P (fun i=>K i\/v.ownBlock=some i)/\Stay K w W/\ ∀i,K i->v.ownBlock≠some i) (fun _ p _=>(q1z C (intOf p)).length)
 case atStart=>exact⟨0,_,0,υ _,rfl,rfl,by omega,by omega,h0,World.ownsRow_nil _ _ _ _,HH.o,Stay.refl _ _,fun i _ e=>by cases e⟩
 case round =>
  obtain⟨j,v,pos,hj,rfl,rfl,q0,q1,y0,M,G,S,R⟩:=hrel;have E:=η M;have I:=η G;have Y:=η S;have F:=η R;have V:=η y0;obtain⟨oa,oc,rfl⟩:=q0E M;have r:=G.i.next pos (by omega) q1 rfl;rw[q8c,y0] at r;obtain⟨s0,s1,s2⟩:=G.cells;have V0:(tos (q1a (P.take j))).length<=10000:=by
   rw[<-hT] at hN;have e:q1a P=q1a (P.take j)++q1a (P.drop j):=by unfold q1a;rw[<-List.map_append,List.take_append_drop]
   rw[e,q2Y,θ] at hN;omega
  clear M G S R y0;rcases Nat.lt_or_ge j P.length with g0|d1
  ·have x0 :=List.drop_eq_getElem_cons g0
   have z0:P.take (j+1)=P.take j++[P[j]]:=List.take_succ_eq_append_getElem g0;have hy:P[j]∈P:=List.getElem_mem g0;obtain⟨y,N0⟩: ∃y,P[j]=y:=⟨_,rfl⟩
   rw[N0] at x0 z0 hy;obtain⟨a,b⟩:=y;have p0:=X0 _ hy;rw[x0,show q9q ((a,b)::P.drop (j+1))=(a,btB b)::q9q (P.drop (j+1)) from rfl] at r V;have J0:=z2q p0;have n0:=z1q b p0;obtain⟨p1,p2,p3,p4,p5,p6,p7⟩:=q0Y p0.1;have h1:a<=819200:=z3h F0 (I.o.posLt hy);have G0:q1z C ((a:Int)+((btB b).length:Int)+12)=q9q (P.drop (j+1)):=q8d F0 V.o;have M0:tos (q1a (P.take (j+1)))=tos (q1a (P.take j))++q4L b.st b.fi b.ev:=by rw[z0,q3e,q2Y,q6J];rfl
   have v0:=η M0;have u0:=η G0;simp only at J0 n0 p1 p2 p3 p4 p5 p6 p7;obtain⟨p,hp⟩: ∃p,btB b=p:=⟨_,rfl⟩
   rw[hp] at J0 n0 r V u0;have o0:q9k ((a,p)::q9q (P.drop (j+1))).head? = .tuple #[.string ⟨p.toArray⟩,.int .i64 (a:Int),.int .i64 ((a:Int)+(p.length:Int)+12),.int .i64 0]:=rfl;rw[o0] at r;have N:=η r;have HG:=η (fun W=>z5T p W (by omega));rw[n0] at HG;obtain⟨OT,D0⟩: ∃OT,tos (q1a (P.take j))=OT:=⟨_,rfl⟩
   rw[D0] at E I F V0 N v0⊢;clear r o0 p0 n0 G0 M0 D0 N0 x0 z0 hp hy;go_wp2_with fail;refine N.o.mono ?_;rintro e w2 ⟨rfl,d,hs⟩;have Q:=η (I.o.stay d hs fun i d=> .inl d);have l0:=η (Y.o.trans fun i d=>hs i (.inl (.inl d)));have J:=η (q0f E.o fun i d=>hs i (.inl (.inr d)));clear d hs N s0 s1 s2;go_wp2_with fail;refine(HG.o _).mono ?_;rintro e w3 ⟨⟨y,rfl,hy⟩,hx⟩;obtain⟨ev,rfl,l⟩:=hy;obtain⟨ao,cp,rfl⟩:=l.slice;obtain⟨n,hn⟩: ∃n,b.ev.length=n:=⟨_,rfl⟩
   rw[hn] at l p4 p6⊢;obtain⟨st,fi,ev⟩:=b;simp only at p1 p2 p3 p4 p5 p6 p7 hn l v0⊢;have i0:=q0B w3 (.cells #[.string ⟨st.toArray⟩,.int .i64 (fi:Int),.slice ao n cp] 160);obtain⟨q,hq⟩: ∃q,w3.heap.size=q:=⟨_,rfl⟩
   have D:=Blk.new w3 160 #[.string ⟨st.toArray⟩,.int .i64 (fi:Int),.slice ao n cp];have Y0:=hx.size;have W0:=Q.o.base.size;have O: ∀i,(Value.slice ao n cp).ownBlock=some i->w2.heap.size<=i/\i<w3.heap.size:=l.lt
   have Q0:=η (Q.o.more (K':=fun i=>(K i\/i=q\/(Value.slice ao n cp).ownBlock=some i)\/(Value.slice oa OT.length oc).ownBlock=some i) (hx.trans i0) fun i d=>by
    rw[ρ];rcases d with(d|d|d)|d
    ·exact .inl (.inl d)
    ·right;omega
    ·right;have:=O i d;omega
    ·exact .inl (.inr d))
   have U0:Hd (Stay K w (w3.alloc (.cells #[.string ⟨st.toArray⟩,.int .i64 (fi:Int),.slice ao n cp] 160))):=η (l0.o.trans fun i d=>Q.o.kExt (hx.trans i0) i (.inl d));have C0:=η (q0J J.o (hx.trans i0));have t0:=η (l.ext i0);rw[hq] at D;have A0:=η D;have B0:Hd (∀i,(K i\/i=q\/(Value.slice ao n cp).ownBlock=some i)->(Value.slice oa OT.length oc).ownBlock≠some i):=η fun i d e=>by
    have:=(q0U J.o i e).2;rcases d with d|d|d
    ·exact F.o i d e
    ·omega
    ·have:=O i d;omega
   have k0:=D.cell 0;have k1:=D.cell 1;have k2:=D.cell 2;rw[<-hq] at k0 k1 k2;have b0:=z5v hn t0.o;have b1:=b0.fits;have b2:=b0.bound;clear b0 hx l D Y0 W0 O Q l0 J HG i0;go_wp2_with fail;clear hq;generalize w3.alloc (.cells #[.string ⟨st.toArray⟩,.int .i64 (fi:Int),.slice ao n cp] 160)=w4 at*
   go_loopw [4,44] (fun o i W=> ∃(k:Nat) (v:Value),k<=n/\o=v/\i= .int .i64 (k:Int)/\W.ownsRow wb.heap.size 69 5 v (OT++q4L st fi (ev.take k)).length (q2q (OT++q4L st fi (ev.take k)))/\
    StoP wb W g gs gl gx rate m ws sd c s u cnt B C sure P (fun i=>(K i\/i=q\/(Value.slice ao n cp).ownBlock=some i)\/v.ownBlock=some i)/\Stay K w W/\Own W w2.heap.size 67 3 (.slice ao n cp) n (q4V ev)/\
    Blk W q 160 #[.string ⟨st.toArray⟩,.int .i64 (fi:Int),.slice ao n cp]/\ ∀i,(K i\/i=q\/(Value.slice ao n cp).ownBlock=some i)->v.ownBlock≠some i) (fun _ i _=>n-(intOf i).toNat)
   case atStart=>exact⟨0,_,υ _,rfl,rfl,by rw[List.take_zero,show q4L st fi []=[] from rfl,List.append_nil];exact C0.o,Q0.o,U0.o,t0.o,A0.o,B0.o⟩
   case round=>
    obtain⟨k,v,hk,rfl,rfl,M,G,S,r0,D,R⟩:=hrel;have E:=η M;have I:=η G;have Y:=η S;have R0:=η r0;have O0:=η D;have F:=η R;obtain⟨oa,oc,rfl⟩:=q0E M;by_cases g0:k<n
    ·have hd:decide ((k:Int)<(n:Int))=true:=ζ (by omega)
     have q8:IntKind.i64.wrap ((k:Int)+1)=(k:Int)+1:=by rw[ν];omega
     have q7:IntKind.i64.wrap ((fi:Int)+(k:Int))=(fi:Int)+(k:Int):=by rw[ν];omega
     have g1:(k:Int)<(n:Int):=by omega
     obtain⟨bb,off,rfl,c0,c1,c2⟩:=(z5v hn r0).at g0;have I0:k<ev.length:=by omega
     have U:=z7S ⟨st,fi,ev⟩ k;rw[dif_pos I0] at U;simp only at U;have H0:ev.getD k ev0=ev[k]:=by rw[δ,γ I0];rfl
     rw[H0] at c0 c1 c2;obtain⟨x,hx⟩: ∃x,ev[k]=x:=⟨_,rfl⟩
     rw[hx] at c0 c1 c2 U;obtain⟨ty,da,we⟩:=x;simp only at c0 c1 c2;have a1:=η U;have j0:=q0B wr (.cells #[.string ⟨ty.toArray⟩,.string ⟨da.toArray⟩,.float .f64 we] 67);have m0:=Blk.new wr 67 #[.string ⟨ty.toArray⟩,.string ⟨da.toArray⟩,.float .f64 we];have e0:=m0.cell 0;have e1:=m0.cell 1;have e2:=m0.cell 2;have f0:=(D.ext j0).cell 0;have f1:=(D.ext j0).cell 1;have a0:=η j0;have X:=η (G.grow j0);have P0:Hd (wb.heap.size<=wr.heap.size):=η G.base.size;have L0:(OT++q4L st fi (ev.take k)).length<=10008:=by rw[θ,q1b,Θ];omega
     have T0:Hd (Rd ((wr.alloc (.cells #[.string ⟨ty.toArray⟩,.string ⟨da.toArray⟩,.float .f64 we] 67)).alloc (.cells #[.string ⟨st.toArray⟩,.int .i64 ((fi:Int)+(k:Int)),.string ⟨ty.toArray⟩,.string ⟨da.toArray⟩,.float .f64 we] 69)) (some ⟨wr.heap.size+1,0,none⟩) (toc ⟨st,(fi:Int)+(k:Int),⟨ty,da,we⟩⟩)):=η (by
      have h:=Rd.lit (wr.alloc (.cells #[.string ⟨ty.toArray⟩,.string ⟨da.toArray⟩,.float .f64 we] 67)) #[.string ⟨st.toArray⟩,.int .i64 ((fi:Int)+(k:Int)),.string ⟨ty.toArray⟩,.string ⟨da.toArray⟩,.float .f64 we] 69;rw[ρ] at h
      exact h)
     obtain⟨OL,w0⟩: ∃OL,OT++q4L st fi (ev.take k)=OL:=⟨_,rfl⟩
     have r:Hd (OT++q4L st fi (ev.take (k+1))=OL++[⟨st,(fi:Int)+(k:Int),⟨ty,da,we⟩⟩]):=η (by rw[U,<-List.append_assoc,w0];rfl);rw[w0] at E X F L0⊢;obtain⟨no,K0⟩: ∃no,OL.length=no:=⟨_,rfl⟩
     rw[K0] at E X F L0⊢;have i1:=q2C;clear M G S r0 D R j0 m0 H0 hx U w0
     go_wp2_with (at_builtin;refine q0M rfl _ _ 36 rfl wb.heap.size 69 _ 5 64 Tryz.underlying36 Tryz.infoTo (by decide) (by decide) _ no (q2q OL) rfl (q0J (q0J E.o a0.o) (q0B _ _)) _ 1 1 (toc ⟨st,(fi:Int)+(k:Int),⟨ty,da,we⟩⟩) rfl rfl (fun h=>by cases h) T0.o (by unfold toc;simp[Value.oneCell']) (by unfold maxLen;omega) (by omega) (by have:=P0.o;simp;omega) ?_;intro v2 w8 l d0 E0;obtain⟨a2,k2,rfl⟩:=q0E l;have HO:=η l;have S0:=η (StoP.row1 X.o (ι _) (q0J E.o a0.o) l d0 E0 F.o);clear l d0 E0)
     go_roundw
     case rel=>
      obtain⟨r1,r2,r3⟩:=S0.o;refine⟨k+1,_,by omega,rfl,by go_num,?_,r1,?_,?_,?_,r3⟩
      ·rw[r.o,q5q,θ,K0]
       exact HO.o
      ·exact(Y.o.trans fun i d=>I.o.kExt a0.o i (.inl (.inl d))).trans fun i d=>r2 i (.inl d)
      ·exact(R0.o.ext a0.o).same fun i d=>r2 i (.inr (.inr d))
      ·exact(O0.o.ext a0.o).same (r2 q (.inr (.inl rfl)))
     case measure=>simp[intOf];omega
    ·obtain rfl:k=n:=by omega
     have hd:decide ((k:Int)<(k:Int))=false:=ε (by omega);have e9:OT++q4L st fi (ev.take k)=tos (q1a (P.take (j+1))):=by rw[v0.o,Δ (by omega)]
     clear M G S r0 D R;rw[e9] at E I F⊢;go_wp2_with fail
     go_roundw
     case rel=>
      exact⟨j+1,_,(a:Int)+(p.length:Int)+12,by omega,rfl,rfl,by omega,by omega,u0.o,E.o,I.o.beside fun i d=>d.imp .inl id,Y.o,fun i d=>F.o i (.inl d)⟩
     case measure=>simp only[intOf];rw[u0.o,V.o];simp
  ·obtain rfl:j=P.length:=by omega
   rw[List.drop_length] at r V;have o0:q9k (q9q ([]:Pbs)).head? = .tuple #[.string ⟨#[]⟩,.int .i64 0,.int .i64 0,.int .i64 4]:=rfl;rw[o0] at r;have N:=η r;clear r;have e9:tos (q1a (P.take P.length))=T:=by rw[List.take_length];exact hT
   rw[e9] at E I F N⊢;go_wp2_with fail;refine N.o.mono ?_;rintro e w2 ⟨rfl,d,hs⟩;have Q:=η (I.o.stay d hs fun i d=> .inl d);have l0:=η (Y.o.trans fun i d=>hs i (.inl (.inl d)));have J:=η (q0f E.o fun i d=>hs i (.inl (.inr d)));clear d hs N s0 s1 s2;go_wp2_with fail
   (try rw[Exit.noGoto_ret])
   go_ret2;exact⟨_,rfl,Q.o,l0.o,J.o,F.o⟩
end
section
variable {wb w W W1 W2:World}{g gl gs gx rate:Nat}{m:Man}{ws:List En}{c s sd:Int}{u cnt:Nat}{B:List En}{C:Cks}{P:Pbs}{sure:Int}{K K':Nat->Prop}
def y3N(y:Nat×Bt):Int:=(y.1:Int)+((btB y.2).length:Int)+12
end
def q8R(bs:List Bt)(str:List UInt8)(ex:Int)(L:List Ev):Int:=
 if q0O str 0 L≠0 then q0O str 0 L else if ex< -2 then 2 else if ex≠ -2/\ex≠((q0R bs str).length:Int)-1 then 80 else 0
theorem q1r(bs:List Bt)(s:List UInt8):(q0R bs s).length<=(tos bs).length:=by
 induction bs using q9w with
 |h0=>exact υ _
 | h1 l b ih=>
  rw[q8Y,q2Y,q6J,θ,q4C]
  split
  ·rw[θ];omega
  ·omega
theorem q4P{str:List UInt8}(h:q0O str 0 L=0)(j:n<=1000000):q0O str (n:Int) L=0:=by
 obtain⟨b,d,l,o,r,v,i⟩:=q0Y h;unfold q0O;rw[κ (fun e=>e.elim b d),κ (by omega),κ (by omega)];exact i
section
variable {wb w W W1 W2:World}{g gl gs gx rate:Nat}{m:Man}{ws:List En}{c s sd:Int}{u cnt:Nat}{B:List En}{C:Cks}{P:Pbs}{sure:Int}{K K':Nat->Prop}
theorem StoP.added(h:StoP wb W1 g gs gl gx rate m ws sd c s u cnt B C sure P K){f x:Int}{C':Cks}{b:Bt}(D:z2G b)(I:b.fi=(q0R (q1a P) b.st).length)(X:C.length<200)(G:q1E f C (btB b)=(x,0,C')):
  ∃ pos:Nat,x=(pos:Int)/\pos<4096*200/\ ∀(W:World) (u' cnt':Nat) (d:Int) (o:Nat->Prop),IXG wb W g gx gl rate m (q1V (q0g sd pos b b.ev.length) ws) c s u' cnt' (q1V (q0g sd pos b b.ev.length) B) C' d (fun i=>o i\/i=gs)->
   Blk W gs 131 #[.pointer (some ⟨gl,0,none⟩),.pointer (some ⟨gx,0,none⟩),.int .u64 sd]->¬o gs->m.ck<=d->
   StoP wb W g gs gl gx rate m (q1V (q0g sd pos b b.ev.length) ws) sd c s u' cnt' (q1V (q0g sd pos b b.ev.length) B) C' d (P++[(pos,b)]) o:=by
 have j:=h.i.cOk;obtain⟨pos,rfl,E,O,Q,R,S,U⟩:=z1f j.size (z2q D) G;refine⟨pos,rfl,by omega,fun W u' cnt' d o J r M v=>⟨J,r,h.sdE,?_,h.stE.snoc D I fun y N=>?_,?_,fun z l=>?_,v,⟨M,h.k.2⟩⟩⟩
 ·rw[E,h.recE];unfold q9q;rw[List.map_append];rfl
 ·have F:=z8L (q6o C 0 j.size) _ (h.posLt N)
  have V:=z5q j;simp only at F;omega
 ·have:=h.ckE;omega
 ·rcases mem_addEs.1 l with l|l
  ·unfold q0g at l
   obtain⟨k,_,rfl⟩:=List.mem_map.1 l;show m.ck<=(pos:Int);have:=h.ckE;omega
  ·exact h.wsE z l
def y2f(wb w:World)(g gs gl gx rate:Nat)(m:Man)(ws:List En)(sd c s:Int)(u cnt:Nat)(B:List En)(C:Cks)(sure:Int)(P:Pbs)(K:Nat->Prop)(str:List UInt8)(L:List Ev)(z:Int)(e:Ending)(w':World):Prop:=
 ((z ≠0/\e= .returned (.tuple #[.int .i64 0,.int .i64 z])/\StoP wb w' g gs gl gx rate m ws sd c s u cnt B C sure P K)\/
  (z=0/\e= .returned (.tuple #[.int .i64 0,.int .i64 60])/\StoP wb w' g gs gl gx rate m ws sd c s u cnt B C sure P K/\c-(u:Int)-2024<6000)\/
  (z =0/\z2G ⟨str,(q0R (q1a P) str).length,L⟩/\ ∃pos ws' B' C' sure',e= .returned (.tuple #[.int .i64 ((q0R (q1a P) str).length:Int),.int .i64 0])/\
   StoP wb w' g gs gl gx rate m ws' sd c s (u+2024) (cnt+1) B' C' sure' (P++[(pos,⟨str,(q0R (q1a P) str).length,L⟩)]) K/\sure<=sure'))/\Stay K w w'
theorem z7C(h :StoP wb w g gs gl gx rate m ws sd c s u cnt B C sure P K)(str:List UInt8)(hs:str.length<=4611686018427387903)(ex:Int)(y: ∀W,Ext wb W->Stay K w W->Evs W ao n cap L)(hL:q1D L)
  (o1: ∀e∈L,e.we<18446744073709551616)(hl:B.length<=9000)(hN:(tos (q1a P)).length<=9000)(hC:C.length<200):
  Calls Tryz.prog 38 #[.pointer (some ⟨gs,0,none⟩),.string ⟨str.toArray⟩,.int .i64 ex,.slice ao n cap] w (y2f wb w g gs gl gx rate m ws sd c s u cnt B C sure P K str L (q8R (q1a P) str ex L)):=by
 have a0:=y w h.base (Stay.refl _ _);have K0:=a0.len;have b1:=a0.fits;have b2:=a0.bound;have m1:=q1r (q1a P) str;obtain⟨N,p0⟩: ∃N,(q0R (q1a P) str).length=N:=⟨_,rfl⟩
 have d0:=η p0;have J:=q0B w (.cells #[.string ⟨str.toArray⟩,.int .i64 0,.slice ao n cap] 160);have v:=Blk.new w 160 #[.string ⟨str.toArray⟩,.int .i64 0,.slice ao n cap];have O:=η (q9I str 0 _ (a0.ext J) hs hL);have HN:=η (fun W (k:Ext (w.alloc (.cells #[.string ⟨str.toArray⟩,.int .i64 0,.slice ao n cap] 160)) W)=>q9x ((h.b.ext J).ext k));have F:=η (h.more (K':=fun i=>K i\/i=w.heap.size) J fun i d=>d.imp id fun e=>by rw[ρ];omega);have X:=η (h.kExt J);have J0:¬K w.heap.size:=fun e=>by have:=h.klt _ e;omega
 have Y0:=η J0;have g1:Hd (wb.heap.size<=w.heap.size):=η h.base.size;have k0:=v.cell 0;have k1:=v.cell 1;have k2:=v.cell 2;have x0:=η v;obtain⟨z,Q⟩: ∃z,q8R (q1a P) str ex L=z:=⟨_,rfl⟩
 have HZ:=η Q;rw[Q];unfold q8R at Q;clear J0 v a0;by_cases I:q0O str 0 L=0
 case neg=>
  rw[ξ I] at Q;rw[Q] at O I;have hd:(z !=0)=true:=by simpa using I
  clear Q y J;go_enter Tryz.func38,Tryz.ntmps38;go_wp2_with fail;refine O.o.mono ?_;rintro e w1 ⟨rfl,y⟩;have G:=η y;clear y;go_wp2_with fail;refine(HN.o _ G.o).mono ?_;rintro e u0 ⟨rfl,rfl⟩;go_wp2_with fail;go_ret2;exact⟨.inl ⟨I,rfl,(F.o.grow G.o).beside fun i d=> .inl d⟩,X.o.trans fun i d=>F.o.kExt G.o i (.inl d)⟩
 rw[κ (fun h=>h I)] at Q;rw[I] at O;obtain⟨p1,p2,p3,p4,p5,p6,p7⟩:=q0Y I;by_cases Y:ex< -2
 ·rw[ξ Y] at Q
  subst Q;have hd:decide (ex< -2)=true:=ζ Y;clear y J;go_enter Tryz.func38,Tryz.ntmps38;go_wp2_with fail;refine O.o.mono ?_;rintro e w1 ⟨rfl,y⟩;have G:=η y;clear y;go_wp2_with fail;refine(HN.o _ G.o).mono ?_;rintro e u0 ⟨rfl,rfl⟩;go_wp2_with fail;go_ret2;exact⟨.inl ⟨by decide,rfl,(F.o.grow G.o).beside fun i d=> .inl d⟩,X.o.trans fun i d=>F.o.kExt G.o i (.inl d)⟩
 rw[κ Y] at Q;have hd:decide (ex< -2)=false:=ε Y;have n1:q1M str=true:=by
  have:0<str.length:=List.length_pos_iff.2 p1;unfold q1M;rw[ζ (show 1<=str.length by omega),ζ p3];rfl
 have q0:z4i (q1a P) str=((N:Int)-1,0):=by unfold z4i;rw[ξ n1,p0]
 have h0:=η (fun W (k:Ext (w.alloc (.cells #[.string ⟨str.toArray⟩,.int .i64 0,.slice ao n cap] 160)) W)=>z7D (F.o.grow k) str hs (by omega) (by omega) q0);rw[p0] at Q m1;have y1:N<=9000:=by omega
 by_cases S:ex≠ -2/\ex≠(N:Int)-1
 ·rw[ξ S] at Q
  subst Q;have e1:(ex != -2)=true:=by simpa using S.1
  have e2:(ex !=(N:Int)-1)=true:=by simpa using S.2
  clear y J;go_enter Tryz.func38,Tryz.ntmps38;go_wp2_with fail;refine O.o.mono ?_;rintro e w1 ⟨rfl,y⟩;have G:=η y;clear y;go_wp2_with fail;refine(HN.o _ G.o).mono ?_;rintro e u0 ⟨rfl,rfl⟩;go_wp2_with fail;refine(h0.o _ G.o).mono ?_;rintro e w2 ⟨rfl,hh,l⟩;have b0:=η hh;have e0:=η l;clear hh l;go_wp2_with fail;go_ret2;exact⟨.inl ⟨by decide,rfl,b0.o.beside fun i d=> .inl d⟩,(X.o.trans fun i d=>F.o.kExt G.o i (.inl d)).trans fun i d=>e0.o i (.inl d)⟩
 rw[κ S] at Q;subst Q;have o0:(ex != -2)=false\/((ex != -2)=true/\(ex !=(N:Int)-1)=false):=by
  by_cases h1:ex= -2
  ·exact .inl (by simpa using h1)
  ·by_cases h2:ex=(N:Int)-1
   ·exact .inr ⟨by simpa using h1,by simpa using h2⟩
   ·exact absurd ⟨h1,h2⟩ S
 have V:Hd (z2G ⟨str,N,L⟩):=η ⟨q4P (n:=N) I (by omega),o1⟩;have i1:=η y;have q1:IntKind.i64.wrap ((N:Int)-1+1)=(N:Int):=by rw[ν];omega
 clear Y S J y;rcases o0 with o0|⟨o0,x1⟩
 all_goals
  go_enter Tryz.func38,Tryz.ntmps38;go_wp2_with fail;refine O.o.mono ?_;rintro e w1 ⟨rfl,y⟩;have G:=η y;clear y;go_wp2_with fail;refine(HN.o _ G.o).mono ?_;rintro e u0 ⟨rfl,rfl⟩;go_wp2_with fail;refine(h0.o _ G.o).mono ?_;rintro e w2 ⟨rfl,hh,l⟩;have b0:=η hh;have e0:Hd (Stay K w w2):=η ((X.o.trans fun i d=>F.o.kExt G.o i (.inl d)).trans fun i d=>l i (.inl d));have R:=η ((x0.o.ext G.o).same (l _ (.inr rfl)));clear hh l F X x0 k0 k1 k2 G h0 HN O;generalize w.heap.size=q at*;have f1:=R.o.free 1;have k0:=R.o.cell 0;have k1:=R.o.cell 1;have k2:=R.o.cell 2;have U:Hd (Blk (w2.setCell ⟨q,1,none⟩ (.int .i64 (N:Int))) q 160 #[.string ⟨str.toArray⟩,.int .i64 (N:Int),.slice ao n cap]):=η (R.o.set 1 (.int .i64 (N:Int)));have c0:=η (b0.o.poke (.inr rfl) g1.o 1 (.int .i64 (N:Int)));have l0:=η (e0.o.poke Y0.o 1 (.int .i64 (N:Int)));have j0:=U.o.cell 0;have j1:=U.o.cell 1;have j2:=U.o.cell 2;have i0:=η (y1T (b:=⟨str,N,L⟩) _ (i1.o _ c0.o.base l0.o) V.o);have L0:=z2q V.o;obtain⟨p,hp⟩: ∃p,btB ⟨str,N,L⟩=p:=⟨_,rfl⟩
  have Z0:=η hp;rw[hp] at i0 L0;clear hp;go_wp2_with fail;refine i0.o.mono ?_;rintro e w4 ⟨rfl,y⟩;have E:=η (c0.o.grow y);have m0:=η (l0.o.trans fun i d=>c0.o.kExt y i (.inl d));have v0:=η (U.o.ext y);clear y i0 f1 k0 k1 k2 j0 j1 j2 U c0 l0 R b0 e0;have HA:=η (E.o.i.append p L0 hC);obtain⟨s0,s1,s2⟩:=E.o.cells;go_wp2_with fail;refine HA.o.mono ?_;rintro e w5 ⟨⟨f,x,C',j,G0,rfl,d,r0⟩|⟨rfl,d,z1⟩,l⟩
  ·obtain⟨pos,rfl,M0,D⟩:=E.o.added (b:=⟨str,N,L⟩) V.o d0.o.symm hC (by rw[Z0.o];exact G0)
   have P0:=η D;have F0:=η (And.intro r0 (Int.le_trans E.o.ckS r0));clear r0;have g0:=η (E.o.b.same (l gs (.inr rfl)));have Q0:=η (v0.o.same (l q (.inl (.inr rfl))));have n0:=η (m0.o.trans fun i d=>l i (.inl (.inl d)));have X0:=η E.o.k.1;have v1:=η E.o.sdE;have O0: ∀k,(q1V (q0g sd pos ⟨str,N,L⟩ k) B).length<=B.length+k:=fun k=>by
    have h1:=q6g (q0g sd pos ⟨str,N,L⟩ k) B;rw[q3r] at h1;omega
   have c1:=η O0;have C0:=η (fun W=>z3P sd str W hs);have D0:Hd (∀k,k<n->q3W (q2e sd pos ⟨str,N,L⟩ k)=true):=η (fun k hk=>z3F sd V.o.1 (by show k<L.length;omega) M0);have z0:=η (fun k=>q7J sd pos ⟨str,N,L⟩ k);have S0:Hd (∀k:Nat,q2e sd pos ⟨str,N,L⟩ k=(q2V sd str,(N:Int)+(k:Int),(pos:Int))):=η fun k=>rfl
   have U0:=η d;have t1:=g0.o.cell 2;have r1:=g0.o.cell 0;generalize q2V sd str=hh at*;clear D d l HA s0 s1 s2 G0 O0 E v0 m0;go_wp2_with fail;refine(C0.o _).mono ?_;rintro e A1 ⟨rfl,rfl⟩;clear t1 r1 C0;go_wp2_with fail
   go_loopw [83] (fun i W=> ∃k:Nat,k<=n/\i= .int .i64 (k:Int)/\IXG wb W g gx gl rate m (q1V (q0g sd pos ⟨str,N,L⟩ k) ws) c s (u+(p.length+24)) (cnt+1) (q1V (q0g sd pos ⟨str,N,L⟩ k) B) C' j (fun i=>(K i\/i=q)\/i=gs)/\Stay K w W/\
    Blk W gs 131 #[.pointer (some ⟨gl,0,none⟩),.pointer (some ⟨gx,0,none⟩),.int .u64 sd]/\Blk W q 160 #[.string ⟨str.toArray⟩,.int .i64 (N:Int),.slice ao n cap]) (fun i _=>n-(intOf i).toNat)
   case atStart=>exact⟨0,υ _,rfl,U0.o,n0.o,g0.o,Q0.o⟩
   case round=>
    obtain⟨k,hk,rfl,d,t0,f0,v⟩:=hrel;have V0:=η d;have E0:=η t0;have A0:=η f0;have R0:=η v;by_cases q0:k<n
    ·have l1:decide ((k:Int)<(n:Int))=true:=ζ (by omega)
     have D:=(d.grow (Ext.refl _).drew).add (D0.o k q0) (by have:=c1.o k;omega)
     rw [show∀M,q3d (q2e sd pos ⟨str,N,L⟩ k) (q1V (q0g sd pos ⟨str,N,L⟩ k) M)=q1V (q0g sd pos ⟨str,N,L⟩ (k+1)) M from fun M=>by
      rw[z0.o k,q3U (q0g sd pos ⟨str,N,L⟩ k)];rfl,show∀M,q3d (q2e sd pos ⟨str,N,L⟩ k) (q1V (q0g sd pos ⟨str,N,L⟩ k) M)=q1V (q0g sd pos ⟨str,N,L⟩ (k+1)) M from fun M=>by
      rw[z0.o k,q3U (q0g sd pos ⟨str,N,L⟩ k)];rfl,S0.o k] at D
     have HA:Hd (Calls Tryz.prog 90 #[.pointer (some ⟨gx,0,none⟩),.agg #[.int .u64 hh,.int .i64 ((N:Int)+(k:Int)),.int .i64 (pos:Int)]] wr.drew fun r w'=>r= .returned (.int .i64 0)/\
      IXG wb w' g gx gl rate m (q1V (q0g sd pos ⟨str,N,L⟩ (k+1)) ws) c s (u+(p.length+24)) (cnt+1) (q1V (q0g sd pos ⟨str,N,L⟩ (k+1)) B) C' j (fun i=>(K i\/i=q)\/i=gs)/\Stay (fun i=>(K i\/i=q)\/i=gs) wr.drew w'):=η D
     have q7:IntKind.i64.wrap ((N:Int)+(k:Int))=(N:Int)+(k:Int):=by rw[ν];omega
     have q8:IntKind.i64.wrap ((k:Int)+1)=(k:Int)+1:=by rw[ν];omega
     have d1:=q0A (Ext.refl _).drew (f0.cell 1);have d2:=q0A (Ext.refl _).drew (v.cell 1);clear d t0 f0 v D;go_wp2_with fail
     go_region_held3 (fun W=>W.cell? ⟨gs,1,none⟩=some (.pointer (some ⟨gx,0,none⟩))/\W.cell? ⟨q,1,none⟩=some (.int .i64 (N:Int)))
      (first|exact y0.o|exact⟨d1,d2⟩)
      (first|(go_at_call 90;refine HA.o.mono ?_;rintro e w7 ⟨rfl,d,hs⟩;have W0:=η d;have a1:Hd (Stay K w w7):=η (E0.o.trans (fun i d=>hs i (.inl (.inl d))));have B0:=η (A0.o.same (hs gs (.inr rfl)));have w0:=η (R0.o.same (hs q (.inl (.inr rfl))));have y0:=η (And.intro (B0.o.cell 1) (w0.o.cell 1));clear d hs))
     all_goals
      clear y0 d1 d2 HA;go_wp2_with fail
      go_roundw
      case rel=>exact⟨k+1,by omega,by go_num,W0.o,a1.o,B0.o,w0.o⟩
      case measure=>simp[intOf];omega
    ·obtain rfl:k=n:=by omega
     have l1:decide ((k:Int)<(k:Int))=false:=ε (by omega);have k1:=v.cell 1;clear d t0 f0 v;go_wp2_with fail;go_ret2;have I0:=V0.o;rw[<-K0] at I0;have H0:=P0.o wr (u+2024) (cnt+1) j K ((I0.beside fun i d=>d.imp .inl id).mono (by omega) (ι _)) A0.o (fun hk=>X0.o (.inl hk)) F0.o.2;have N0: ∃pos u1 B' C' j,(Ending.returned (.tuple #[.int .i64 (N:Int),.int .i64 0]))= .returned (.tuple #[.int .i64 ((q0R (q1a P) str).length:Int),.int .i64 0])/\
       StoP wb wr g gs gl gx rate m u1 sd c s (u+2024) (cnt+1) B' C' j (P++[(pos,⟨str,(q0R (q1a P) str).length,L⟩)]) K/\sure<=j:=⟨pos,_,_,C',j,by rw[d0.o],by rw[d0.o];exact H0,F0.o.1⟩
     exact⟨.inr (.inr ⟨rfl,by rw[d0.o];exact V.o,N0⟩),E0.o⟩
  ·have T0:=η (E.o.stay d l fun i d=> .inl d)
   have n0:=η (m0.o.trans fun i d=>l i (.inl (.inl d)));clear d l HA s0 s1 s2;go_wp2_with fail;go_ret2;exact⟨.inr (.inl ⟨rfl,rfl,T0.o.beside fun i d=> .inl d,by omega⟩),n0.o⟩
end
def q1Z(str:List UInt8)(fr ct:Int):Int:=if q1M str=false\/fr<0\/ct<1 then 2 else 0
section
variable {wb w W W1 W2:World}{g gl gs gx rate:Nat}{m:Man}{ws:List En}{c s sd:Int}{u cnt:Nat}{B:List En}{C:Cks}{P:Pbs}{sure:Int}{K K':Nat->Prop}
theorem z7E(h:Blk W gs 131 #[.pointer (some ⟨gl,0,none⟩),.pointer (some ⟨gx,0,none⟩),.int .u64 sd])(str:List UInt8)(E:str.length<=4611686018427387903)(fr ct:Int):
  Calls Tryz.prog 64 #[.pointer (some ⟨gs,0,none⟩),.string ⟨str.toArray⟩,.int .i64 fr,.int .i64 ct] W fun e w'=>e= .returned (.int .i64 (q1Z str fr ct))/\Ext W w':=by
 have v:=η (q9x h);have b:=η (q9z str W (by omega));clear h
 cases hstr:q1M str with
 | false=>
  have D:q1Z str fr ct=2:=by unfold q1Z;rw[ξ (.inl hstr)]
  rw[hstr] at b;rw[D];go_enter Tryz.func64,Tryz.ntmps64;go_wp2_with fail;refine v.o.mono ?_;rintro e w1 ⟨rfl,rfl⟩;go_wp2_with fail;refine b.o.mono ?_;rintro e w1 ⟨rfl,j⟩;have l:=η j;clear j;go_wp2_with fail;go_ret;exact⟨rfl,l.o⟩
 | true =>
  rw[hstr] at b;obtain⟨z,d⟩: ∃z,q1Z str fr ct=z:=⟨_,rfl⟩
  have r:(z=2/\decide (fr<0)=true)\/(z=2/\decide (fr<0)=false/\decide (ct<1)=true)\/(z=0/\decide (fr<0)=false/\decide (ct<1)=false):=by
   unfold q1Z at d;rw[hstr] at d;simp only[Bool.true_eq_false,false_or] at d
   split at d
   ·by_cases i:fr<0
    ·exact .inl ⟨d.symm,ζ i⟩
    ·exact .inr (.inl ⟨d.symm,ε i,ζ (by omega)⟩)
   ·exact .inr (.inr ⟨d.symm,ε (by omega),ε (by omega)⟩)
  rw[d];clear d hstr;rcases r with⟨rfl,i⟩|⟨rfl,i,y⟩|⟨rfl,i,y⟩
  all_goals
   go_enter Tryz.func64,Tryz.ntmps64;go_wp2_with fail;refine v.o.mono ?_;rintro e w1 ⟨rfl,rfl⟩;go_wp2_with fail;refine b.o.mono ?_;rintro e w1 ⟨rfl,j⟩;have l:=η j;clear j;go_wp2_with fail;go_ret;exact⟨rfl,l.o⟩
def q3h(bs:List Bt)(str:List UInt8)(fr ct:Int):List To:=if q1Z str fr ct=0 then q5B (q4G bs str) fr ct else []
def ToldR(wb w:World)(g gs gl gx rate:Nat)(m:Man)(ws:List En)(sd c s:Int)(u cnt:Nat)(B:List En)(C:Cks)(sure:Int)(P:Pbs)(K:Nat->Prop)(R:List To)(z:Int)(e:Ending)(w':World):Prop:=
 ∃v,e= .returned (.tuple #[v,.int .i64 z])/\StoP wb w' g gs gl gx rate m ws sd c s u cnt B C sure P (fun i=>K i\/v.ownBlock=some i)/\Stay K w w'/\w'.ownsRow wb.heap.size 69 5 v R.length (q2q R)/\ ∀i,K i->v.ownBlock≠some i
theorem StoP.slot0(h:StoP wb W g gs gl gx rate m ws sd c s u cnt B C sure P K):StoP wb W g gs gl gx rate m ws sd c s u cnt B C sure P (fun i=>K i\/(Value.slice none 0 0).ownBlock=some i):=h.beside fun i b=>b.elim id fun e=>by cases e
theorem ToldR.nil{w0:World}(h:StoP wb W g gs gl gx rate m ws sd c s u cnt B C sure P K)(b:Stay K w0 W)(z:Int):ToldR wb w0 g gs gl gx rate m ws sd c s u cnt B C sure P K [] z (.returned (.tuple #[.slice none 0 0,.int .i64 z])) W:=
 ⟨_,rfl,h.slot0,b,World.ownsRow_nil _ _ _ _,fun i _ e=>by cases e⟩
theorem z5A(h:StoP wb w g gs gl gx rate m ws sd c s u cnt B C sure P K)(str:List UInt8)(V:str.length<=4611686018427387903)(fr ct:Int)(b0: -9223372036854775808<=fr)(c0:fr<=9223372036854775807)(hl:B.length<=10000)(a0:(q0R (q1a P) str).length<=10000):
  Calls Tryz.prog 18 #[.pointer (some ⟨gs,0,none⟩),.string ⟨str.toArray⟩,.int .i64 fr,.int .i64 ct] w (ToldR wb w g gs gl gx rate m ws sd c s u cnt B C sure P K (q3h (q1a P) str fr ct) (q1Z str fr ct)):=by
 have i:=η (z7E h.b str V fr ct);have G:=η h;obtain⟨R,l⟩: ∃R,q3h (q1a P) str fr ct=R:=⟨_,rfl⟩
 rw[l];unfold q3h at l;by_cases d:q1Z str fr ct=0
 ·have J:0<=fr/\1<=ct:=by
   unfold q1Z at d
   split at d
   ·cases d
   ·omega
  rw[ξ d] at l;rw[d] at i⊢;by_cases D:1073741824<fr
  ·have hd:decide ((1073741824:Int)<fr)=true:=ζ D
   have O:R=[]:=by rw[<-l];exact z6k (by rw[q1L];omega)
   subst O;clear d l h;go_enter Tryz.func18,Tryz.ntmps18;go_wp2_with fail;refine i.o.mono ?_;rintro e w1 ⟨rfl,E⟩;have y:=η E;clear E;go_wp2_with fail;go_ret2;exact ToldR.nil (G.o.grow y.o) (G.o.kExt y.o) 0
  ·have hd:decide ((1073741824:Int)<fr)=false:=ε D
   obtain⟨r,Q⟩: ∃r,min ct 1073741824=r:=⟨_,rfl⟩
   have d0:1<=r/\r<=1073741824:=by omega
   have q1:IntKind.i64.wrap (fr+r)=fr+r:=by rw[ν];omega
   have q2:IntKind.i64.wrap (fr+r-1)=fr+r-1:=by rw[ν];omega
   have F:=y0g (q1a P) str (f:=fr) (c:=ct) J.1 J.2 (by omega);rw[Q,l] at F;have S:=η (fun W (k:Ext w W)=>q6v (h.grow k) str V fr (fr+r-1) hl F);clear d l h F;go_enter Tryz.func18,Tryz.ntmps18;go_wp2_with fail;refine i.o.mono ?_;rintro e w1 ⟨rfl,E⟩;have y:=η E;clear E;go_wp2_with fail;refine(S.o _ y.o).mono ?_;rintro e w2 ⟨v,rfl,U,M,j,I⟩;obtain⟨ra,rc,rfl⟩:=q0E j;have X:Hd (ToldR wb w g gs gl gx rate m ws sd c s u cnt B C sure P K R 0 (.returned (.tuple #[.slice ra R.length rc,.int .i64 0])) w2):=η ⟨_,rfl,U,(G.o.kExt y.o).trans M,j,I⟩;clear U M j I S;go_wp2_with fail;go_ret2;exact X.o
 ·rw [κ d] at l
  subst l;have N:q1Z str fr ct=2:=by
   unfold q1Z at d⊢
   split at d
   ·rename_i Y;rw[ξ Y]
   ·exact absurd rfl d
  rw[N] at i⊢;clear d N h;go_enter Tryz.func18,Tryz.ntmps18;go_wp2_with fail;refine i.o.mono ?_;rintro e w1 ⟨rfl,E⟩;have y:=η E;clear E;go_wp2_with fail;go_ret2;exact ToldR.nil (G.o.grow y.o) (G.o.kExt y.o) 2
end
theorem z4d{C:Cks}{P:Pbs}(h:q0y 0 C=q9q P)(pos:Int):q1z C pos=q9q (P.filter fun y=>decide (pos<=(y.1:Int))):=by
 unfold q1z;rw[h];unfold q9q;rw[List.filter_map]
 rfl
theorem q7m(sd:Int){C:Cks}{P:Pbs}(h:q0y 0 C=q9q P)(b:okBs (q1a P))(pos:Int):z1X sd (q1z C pos)=some (q4U sd (P.filter fun y=>decide (pos<=(y.1:Int)))):=by
 rw[z4d h,z1G sd fun y d=>b.each (List.mem_map.2 ⟨y,(List.mem_filter.1 d).1,rfl⟩)]
theorem q5f{sd:Int}{P:Pbs}{pos:Int}:x∈q4U sd (P.filter fun y=>decide (pos<=(y.1:Int)))↔x∈q4U sd P/\pos<=x.2.2:=by
 rw[mem_entsP,mem_entsP]
 constructor
 ·rintro⟨y,d,k,b,rfl⟩
  obtain⟨i,j⟩:=List.mem_filter.1 d;exact⟨⟨y,i,k,b,rfl⟩,by show pos<=(y.1:Int);simpa using j⟩
 ·rintro⟨⟨y,d,k,b,rfl⟩,l⟩
  exact⟨y,List.mem_filter.2 ⟨d,ζ (show pos<=(y.1:Int) from l)⟩,k,b,rfl⟩
theorem z7p{P:Pbs}(h:okBs (q1a P)):P.length<=(tos (q1a P)).length:=by
 induction P using q9w with
 |h0=>exact υ _
 | h1 l a ih=>
  obtain⟨p,b⟩:=a;rw[q3e] at h⊢;obtain⟨h1,d,_⟩:=okBs_snoc.1 h;have i:=(q0Y d.1).2.1;have j:=ih h1;have o:0<b.ev.length:=List.length_pos_iff.2 i;rw[q2Y,q6J,θ,θ,q4C,List.length_singleton];omega
theorem z8z{C:Cks}{P:Pbs}(j:okC C)(h:q0y 0 C=q9q P):P.Pairwise fun a b=>a.1<b.1:=by
 have i:=q6o C 0 j.size;rw[h] at i;unfold q9q at i;rw[List.pairwise_map] at i;exact i.imp fun {a b} d=>by unfold z7f at d;simp only at d;omega
section
variable {wb w W W1 W2:World}{g gl gs gx rate:Nat}{m:Man}{ws:List En}{c s sd:Int}{u cnt:Nat}{B:List En}{C:Cks}{P:Pbs}{sure:Int}{K K':Nat->Prop}
structure y3A(sd:Int)(m:Man)(B:List En)(C:Cks)(P:Pbs):Prop where
 sdE:m.sd=sd
 recE:q0y 0 C=q9q P
 ok:okBs (q1a P)
 sub: ∀x∈B,x∈q4U sd P
 all: ∀x∈q4U sd P,x∈B\/m.ck<=x.2.2
 ckE:m.ck<=q3f C
theorem y0r(h:DKQ wb w g m c s u cnt B C K)(d:y3A sd m B C P)(a0:0<=sd)(b0:sd<18446744073709551616)(d0:40<=cnt)(hN:(tos (q1a P)).length<=2000)(X:B.Nodup)(rate:Nat):
  Calls Tryz.prog 33 #[.pointer (some ⟨g,0,none⟩),.int .u64 sd,.float .f64 rate] w fun e w'=>
   ∃gs gl gx j ws B' sure,e= .returned (.tuple #[.pointer (some ⟨gs,0,none⟩),.int .i64 0])/\StoP wb w' g gs gl gx rate j ws sd c s u cnt B' C sure P K/\(j.nx<=m.nx\/j.nx=0)/\Stay K w w':=by
 have O:okC C:=by obtain⟨_,_,_,_,_,_,_,_,I⟩:=h;exact I
 have N:m.ok:=by obtain⟨st,_,_,_,rfl,_,_,⟨V,_⟩,_⟩:=h;exact V.man
 have f0:=z7p d.ok;have c0:B.length<=2000:=by
  have:=q6k X (m:=q4U sd P) fun x b=>d.sub x b
  rw[q6Q] at this;omega
 have g0:(q0y 0 C).length<=2000:=by rw[d.recE,q7i];omega
 have e0:=(Man.bounds N).2.1;have HO:=η h.lopen;have h0:=h;clear h;go_enter Tryz.func33,Tryz.ntmps33;go_wp2_with fail;refine HO.o.mono ?_;rintro e w1 ⟨gl,rfl,hd,l⟩;have R:=η l;have HR:=η (y0o hd (by omega) (by omega) a0 b0 rate);clear hd l HO;go_wp2_with fail;refine HR.o.mono ?_;rintro e G ⟨⟨gx,j,B2,D,an,rfl,E,Y,hw⟩|⟨rfl,_,v⟩,l⟩
 case inr=>
  exfalso
  rcases v with⟨_,v⟩|v
  ·rw[q7m sd d.recE d.ok] at v;cases v
  ·rw[q7m sd d.recE d.ok] at v;cases v
 rw[q7m sd d.recE d.ok] at Y;obtain rfl:=Option.some.inj Y;have J:j.sd=sd/\(j.nx<=m.nx\/j.nx=0)/\StI sd (q1V (q4U sd (P.filter fun y=>decide (j.ck<=(y.1:Int)))) B2) P/\j.ck<=q3f C/\ ∀x∈q1V (q4U sd (P.filter fun y=>decide (j.ck<=(y.1:Int)))) [],j.ck<=x.2.2:=by
  have r:=z8z O d.recE;rcases hw with⟨_,rfl,h1,h2,h3,V⟩|⟨_,rfl,rfl,_⟩
  ·refine⟨h1,.inl (Int.le_refl _),⟨d.ok,r,fun x=>?_⟩,h2,fun x b=>?_⟩
   ·rw [mem_addEs,q5f,<-V]
    constructor
    ·rintro(b|b)
     ·exact b.1
     ·exact d.sub x b
    ·intro b
     rcases d.all x b with I|I
     ·exact .inr I
     ·exact .inl ⟨b,I⟩
   ·rw[mem_addEs,q5f] at b
    rcases b with b|b
    ·exact b.2
    ·cases b
  ·refine⟨rfl,.inr rfl,⟨d.ok,r,fun x=>?_⟩,(y0E O).1,fun x b=>?_⟩
   ·rw [mem_addEs,q5f]
    constructor
    ·rintro(b|b)
     ·exact b.1
     ·cases b
    ·intro b
     obtain⟨y,hy,k,hk,rfl⟩:=mem_entsP.1 b;exact .inl ⟨b,by show(0:Int)<=(y.1:Int);omega⟩
   ·rw[mem_addEs,q5f] at b
    rcases b with b|b
    ·exact b.2
    ·cases b
 obtain⟨f1,f2,f3,U,f5⟩:=J;have F:=q0B G (.cells #[.pointer (some ⟨gl,0,none⟩),.pointer (some ⟨gx,0,none⟩),.int .u64 sd] 131);have M:¬K G.heap.size:=fun e=>by have:=E.klt _ e;omega
 have HF:Hd (StoP wb (G.alloc (.cells #[.pointer (some ⟨gl,0,none⟩),.pointer (some ⟨gx,0,none⟩),.int .u64 sd] 131)) g G.heap.size gl gx rate j _ sd c s u cnt _ C (q3f C) P K):=η
  ⟨E.more F (fun i E=>E.imp id fun e=>by rw[ρ];omega),Blk.new G _ _,f1,d.recE,f3,U,f5,U,⟨M,E.base.size⟩⟩
 have S:Hd (Stay K w (G.alloc (.cells #[.pointer (some ⟨gl,0,none⟩),.pointer (some ⟨gx,0,none⟩),.int .u64 sd] 131))):=η ((R.o.trans l).trans (E.kExt F));have Q:=η f2;clear E Y hw l f1 f2 f3 U f5 F M HR;go_wp2_with fail;go_ret2;exact⟨_,gl,gx,j,_,_,_,rfl,HF.o,Q.o,S.o⟩
end
section
variable {wb w W W':World}{g gx gl rate:Nat}{m:Man}{ws:List En}{c s:Int}{u cnt:Nat}{B:List En}{C C':Cks}{sure sd:Int}{K K':Nat->Prop}
end
section
variable {wb w W W':World}{g gx gl rate:Nat}{m:Man}{ws:List En}{c s:Int}{u cnt:Nat}{B:List En}{C C':Cks}{sure sd:Int}{K K' Z:Nat->Prop}
end
end
end Go.Proofs.YtfiibpgoplcgkaaGreatDoor
