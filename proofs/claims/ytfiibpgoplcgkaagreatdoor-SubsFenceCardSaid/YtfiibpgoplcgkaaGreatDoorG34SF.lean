/- Walks. -/
import Derived.Test.YtfiibpgoplcgkaaGreatDoorG33SF
import Derived.Shelf.SlicesQ.Reverse
import Derived.Ground.SlgnProg
set_option linter.unusedVariables false
set_option linter.unusedSimpArgs false
set_option maxRecDepth 100000
set_option maxHeartbeats 6400000
namespace Go.Proofs.YtfiibpgoplcgkaaGreatDoor
variable {q:Nat}{x:En}
section
open Go.RowKit
section
variable {wb w W W':World}{g gx gl rate:Nat}{m:Man}{ws:List En}{c s:Int}{u cnt:Nat}{B:List En}{C C':Cks}{sure:Int}{K K':Nat->Prop}{st:IxSt}{σ:DM}{φ:Fls}
theorem PInv.cleanL(h:PInv st σ c s φ u cnt B):{σ with L:=σ.L.filter fun f=>!q1X st.m.L.flatten f.nm}=σ:=by
 have b:=h.noOrph;unfold q1d at b;rw[List.filter_map,List.map_eq_nil_iff,List.filter_eq_nil_iff] at b;have d:(σ.L.filter fun f=>!q1X st.m.L.flatten f.nm)=σ.L:=List.filter_eq_self.2 fun f i=>by
  have:=b f i;simp only[Function.comp] at this
  simpa using this
 rw[d]
theorem IXG.clean(h:IXG wb W g gx gl rate m ws c s u cnt B C sure K){ao:Option Addr}{cap:Nat}(O:Grid W ao m.L.length cap m.L)(nx ck sd:Int):
  Calls Tryz.prog 143 #[.pointer (some ⟨g,0,none⟩),.agg #[.int .i64 nx,.int .i64 ck,.int .u64 sd,.slice ao m.L.length cap]] W fun e w'=>e= .returned (.int .i64 0)/\IXG wb w' g gx gl rate m ws c s u cnt B C sure K/\Stay K W w':=by
 obtain⟨st,σ,φ,G,rfl,rfl,I,J,M,⟨d,j⟩,y,N⟩:=h;have Q:=Man.bounds d.man;have v:σ.down=false:=d.fl.up;have b:σ.fail=false:=by obtain⟨l,r,_⟩:=d.fl;exact r.fine
 refine(M.disk (σ1:=σ) (R:=fun e=>e= .returned (.int .i64 0)) fun F S=>?_).mono ?_
 ·have hc:=z4m S v b d.shortN (nx:=nx) (ck:=ck) (sd:=sd) O (by have:=Q.2.1;omega)
  rw[d.cleanL] at hc;exact hc
 ·rintro e w' ⟨he,U,D⟩
  exact⟨he,⟨st,σ,φ,G,rfl,rfl,I,J,U,⟨d,j⟩,⟨y.1.same fun i o=>D i (.inr o),y.2⟩,N⟩,fun i o=>D i (.inl o)⟩
end
section
variable {wb w W W':World}{g gx gl rate:Nat}{m:Man}{ws:List En}{c s:Int}{u cnt:Nat}{B:List En}{C C':Cks}{sure:Int}{K K':Nat->Prop}{st:IxSt}{σ:DM}{φ:Fls}
theorem DKR.man(h:DKR wb W g gl m c s u cnt B C sure K):m.ok:=by obtain⟨st,σ,φ,j,F,rfl,r,hF,⟨b,i,d⟩,l,o⟩:=h;exact b.man
theorem DKR.klt(h:DKR wb W g gl m c s u cnt B C sure K): ∀i,K i->i<W.heap.size:=by obtain⟨st,σ,φ,l,F,rfl,y,hF,⟨o,d,b⟩,r,v⟩:=h;exact fun i j=>(hF.k i (.inl j)).1
theorem DKR.grow(h:DKR wb W g gl m c s u cnt B C sure K)(k:Ext W W'):DKR wb W' g gl m c s u cnt B C sure K:=by
 obtain⟨st,σ,φ,d,F,rfl,l,hF,i,b,j⟩:=h;exact⟨st,σ,φ,d,F,rfl,l,hF.grow k,i,⟨b.1.ext k,b.2⟩,j⟩
theorem DKR.kExt(h:DKR wb W g gl m c s u cnt B C sure K)(k:Ext W W'):Stay K W W':=fun i b=>k.block i (h.klt i b)
def Man.cut(m:Man):Man:=⟨m.nx,m.ck,m.sd,q0s m.L⟩
theorem Man.cut_S{m:Man}(h:m.ok):m.cut.S=m.S:=by
 show(q3J m.nx m.ck m.sd (q0s m.L)).1=_;rw[z0F h.1];rfl
theorem DKR.cut(h:DKR wb W g gl m c s u cnt B C sure K):DKR wb W g gl m.cut c s u cnt B C sure K:=by
 obtain⟨st,σ,φ,o,F,rfl,N,hF,⟨b,i,d⟩,G,I⟩:=h;have j:st.m.cut.L.flatten=st.m.L.flatten:=q1k _;refine⟨{st with m:=st.m.cut},σ,φ,o,F,rfl,N,hF,⟨⟨b.fl,⟨q4p b.man.1,b.man.2⟩,fun n J=>b.full n (by rw[<-j];exact J),fun n e he=>?_,fun nm l=>?_,b.okw,b.okB,b.mem⟩,?_,d.toCksS,d.old⟩,G,I⟩
 ·show n∈st.m.cut.L.flatten/\_
  rw[j];exact b.tb n e he
 ·show nm=mapN\/(∃n∈st.m.cut.L.flatten,_)\/_
  rw[j];exact b.only nm l
 ·rcases i with⟨h,M⟩|⟨r,v,y,D⟩
  ·exact .inl ⟨by rw[Man.cut_S b.man];exact h,M⟩
  ·exact .inr ⟨r,v,y,by show q0s st.m.L=[];rw[D];rfl⟩
theorem DKR.load(h:DKR wb W g gl m c s u cnt B C sure K):Calls Tryz.prog 199 #[.pointer (some ⟨g,0,none⟩)] W fun e w'=>
  ((∃ao cap,e= .returned (.tuple #[.agg #[.int .i64 m.nx,.int .i64 m.ck,.int .u64 m.sd,.slice ao (q0s m.L).length cap],.int .i64 0])/\Grid w' ao (q0s m.L).length cap (q0s m.L)/\0<m.nx)\/
   (∃ao cap,e= .returned (.tuple #[.agg #[.int .i64 0,.int .i64 0,.int .u64 0,.slice ao 0 cap],.int .i64 4])/\m.nx=0/\m.ck=0/\m.L=[]))/\
  DKR wb w' g gl m c s u cnt B C sure K/\Stay K W w':=by
 obtain⟨st,σ,φ,gv,F,rfl,hw,hF,⟨b,y,j⟩,M,h8⟩:=h;obtain⟨l,o,a0,r,c0,b0⟩:=b.fl
 cases hf:q0F FM.nm mapN σ.L with
 | none=>
  have I:φ mapN=none:=by rw[<-r,o.find,hf];rfl
  rcases y with⟨h,Y⟩|⟨J,O,Q,R⟩
  ·rw[I] at h;cases h
  ·refine(z5a hF.d (by unfold q1Z;rw[κ (by rw[o.up];decide),hf])).mono ?_
   rintro e w' ⟨a,N,rfl,hg,V⟩;obtain⟨k1,G⟩:=hF.disk V;exact⟨.inr ⟨a,N,rfl,O,Q,R⟩,⟨st,σ,φ,gv,_,rfl,hw,k1,⟨b,.inr ⟨J,O,Q,R⟩,j⟩,⟨M.1.same fun i v=>G i (.inr v),M.2⟩,h8⟩,fun i v=>G i (.inl v)⟩
 | some f=>
  have I:φ mapN=some f.da:=by rw[<-r,o.find,hf];rfl
  rcases y with⟨h,Y⟩|⟨J,O,Q,R⟩
  ·have X:f.da=st.m.S:=by rw[I] at h;injection h
   have D:q3A f.da=⟨st.m.nx,st.m.ck,st.m.sd,q0s st.m.L,0⟩:=by
    rw[X];show q3A (q3J st.m.nx st.m.ck st.m.sd st.m.L).1=_;rw[q8B b.man.1];exact z7k b.man.1 b.man.2.1 b.man.2.2
   refine(z5b hF.d hf o.up).mono ?_;rw[D];rintro e w' ⟨a,N,rfl,hg,V⟩;obtain⟨k1,G⟩:=hF.disk V;have U:PInv st (q2H σ) c s φ u cnt B:=⟨Fl.tells 1 b.fl,b.man,b.full,b.tb,b.only,b.okw,b.okB,b.mem⟩
   exact⟨.inl ⟨a,N,rfl,hg,Y⟩,⟨st,q2H σ,φ,gv,_,rfl,hw,k1,⟨U,.inl ⟨h,Y⟩,j.toCksS.kp (Kp.tell σ) b.fl j.i,j.old⟩,⟨M.1.same fun i v=>G i (.inr v),M.2⟩,h8⟩,fun i v=>G i (.inl v)⟩
  ·rw[I] at J;cases J
end
section
variable {wb w W W':World}{g gx gl:Nat}{m:Man}{ws:List En}{c s:Int}{u cnt:Nat}{B:List En}{C C':Cks}{sure:Int}{K K':Nat->Prop}{st:IxSt}{σ:DM}{φ:Fls}
theorem DKR.ends(h:DKR wb W g gl m c s u cnt B C sure K):Calls Tryz.prog 140 #[.pointer (some ⟨gl,0,none⟩)] W fun e w'=>e= .returned (.int .i64 (q3W C))/\Ext W w':=by
 obtain⟨st,σ,φ,d,F,i,o,hF,j,b,l⟩:=h;exact(z8x b.1 b.2).mono fun e w' ⟨h,k⟩=>⟨h,k▸Ext.refl _⟩
def LyR(wb W:World)(g gl:Nat)(rate:Nat)(m:Man)(c s:Int)(u cnt:Nat)(B:List En)(C:Cks)(sure:Int)(K:Nat->Prop)(sd:Int)(e:Ending)(w':World):Prop:=
 ((∃gx B2,e= .returned (.tuple #[.pointer (some ⟨gx,0,none⟩),.int .i64 0])/\IXG wb w' g gx gl rate m.cut [] c s u cnt B2 C sure K/\(∀x,x∈B↔x∈B2)/\m.sd=sd/\m.ck<=q3W C/\0<m.nx)\/
  (∃n:Int,e= .returned (.tuple #[.pointer none,.int .i64 n])/\(n=4\/n=90)/\DKR wb w' g gl m c s u cnt B C sure K/\((m.nx=0/\m.ck=0/\m.L=[])\/m.sd≠sd\/q3W C<m.ck)))/\Stay K W w'
theorem z9Q(h:DKR wb w g gl m c s u cnt B C sure K)(e0:m.L.flatten.length<=cnt)(sd:Int)(rate:Nat):
  Calls Tryz.prog 141 #[.pointer (some ⟨g,0,none⟩),.pointer (some ⟨gl,0,none⟩),.int .u64 sd,.float .f64 rate] w (LyR wb w g gl rate m c s u cnt B C sure K sd):=by
 have M:=η h.load;clear h;go_enter Tryz.func141,Tryz.ntmps141;go_wp2_with fail;refine M.o.mono ?_;rintro e w1 ⟨hl,I,O⟩;clear M;have HD:=η I;have HS:=η O;rcases hl with⟨ao,D,rfl,hg,N⟩|⟨ao,D,rfl,z⟩
 ·have HG:=η hg
  have X:=q0B w1 (.cells #[.int .i64 m.nx,.int .i64 m.ck,.int .u64 m.sd,.slice ao (q0s m.L).length D] 47);have hb:=Blk.new w1 47 #[.int .i64 m.nx,.int .i64 m.ck,.int .u64 m.sd,.slice ao (q0s m.L).length D];have b:=η (I.grow X);have r:=η (O.trans (I.kExt X));have Y:=η (hg.ext X);have j:=η hb;clear I O hg X hb;go_wp2_with fail;generalize w1.alloc (.cells #[.int .i64 m.nx,.int .i64 m.ck,.int .u64 m.sd,.slice ao (q0s m.L).length D] 47)=w2 at*;generalize w1.heap.size=q at*;have R:w2.cell? ⟨q,0,none⟩=some (.int .i64 m.nx):=j.o.cell 0;have S:w2.cell? ⟨q,1,none⟩=some (.int .i64 m.ck):=j.o.cell 1;have U:w2.cell? ⟨q,2,none⟩=some (.int .u64 m.sd):=j.o.cell 2;have V:w2.cell? ⟨q,3,none⟩=some (.slice ao (q0s m.L).length D):=j.o.cell 3;have u0:=q0C R;have u1:=q0C S;have u2:=q0C U;have u3:=q0C V;have HE:=η (fun W (k:Ext w2 W)=>(b.o.grow k).ends);by_cases F:m.sd=sd
  ·subst F
   by_cases d:q3W C<m.ck
   ·have f0:decide (q3W C<m.ck)=true:=ζ d
    refine q0D (by kernel_rfl) (by kernel_rfl) ?_
    repeat (go_big_quiet_step (fail))
    go_big_quiet_step (exact Calls.quiet_ext (HE.o _ (ExtOf.h _)))
    repeat (go_big_quiet_step (fail))
    refine wpQuiet_nil ?_;intro J i;have l:=η (b.o.grow i);have v:=η (r.o.trans (b.o.kExt i));have G:=η d;clear i d R S U V u0 u1 u2 u3;go_wp2_with fail;go_ret2;exact⟨.inr ⟨90,rfl,.inr rfl,l.o,.inr (.inr G.o)⟩,v.o⟩
   ·have f0:decide (q3W C<m.ck)=false:=ε d
    refine q0D (by kernel_rfl) (by kernel_rfl) ?_
    repeat (go_big_quiet_step (fail))
    go_big_quiet_step (exact Calls.quiet_ext (HE.o _ (ExtOf.h _)))
    repeat (go_big_quiet_step (fail))
    refine wpQuiet_nil ?_;intro J i;have l:=η (b.o.grow i);have v:=η (r.o.trans (b.o.kExt i));have a0:=η (Y.o.ext i);have HO:=η (l.o.cut.iopen (ao:=ao) (cap:=D) a0.o (by show(q0s m.L).flatten.length<=cnt;rw[q1k];exact e0) rate);have y:=j.o.ext i;have h0:J.cell? ⟨q,0,none⟩=some (.int .i64 m.nx):=y.cell 0;have i0:J.cell? ⟨q,1,none⟩=some (.int .i64 m.ck):=y.cell 1;have j0:J.cell? ⟨q,2,none⟩=some (.int .u64 m.sd):=y.cell 2;have l0:J.cell? ⟨q,3,none⟩=some (.slice ao (q0s m.L).length D):=y.cell 3;have G:=η d;clear i d R S U V u0 u1 u2 u3 y;go_wp2_with fail;refine HO.o.mono ?_;rintro e w4 ⟨gx,B2,rfl,hi,hm,Q⟩;have HI:=η hi;have HM:=η hm;have d0:=η (v.o.trans Q);clear hi hm Q HO;go_wp2_with fail;go_ret2;exact⟨.inl ⟨gx,B2,rfl,HI.o,HM.o,rfl,by have:=G.o;omega,N⟩,d0.o⟩
  ·have g0:(m.sd !=sd)=true:=by simpa using F
   have b0:=η F;refine q0D (by kernel_rfl) (by kernel_rfl) ?_
   repeat (go_big_quiet_step (fail))
   (try rw[g0])
   repeat (go_big_quiet_step (fail))
   refine wpQuiet_nil ?_;intro J i;have l:=η (b.o.grow i);have v:=η (r.o.trans (b.o.kExt i));clear i F R S U V u0 u1 u2 u3;go_wp2_with fail;go_ret2;exact⟨.inr ⟨90,rfl,.inr rfl,l.o,.inr (.inl b0.o)⟩,v.o⟩
 ·have b:=η (I.grow (q0B w1 (.cells #[.int .i64 0,.int .i64 0,.int .u64 0,.slice ao 0 D] 47)))
  have r:=η (O.trans (I.kExt (q0B w1 (.cells #[.int .i64 0,.int .i64 0,.int .u64 0,.slice ao 0 D] 47))));have HZ:=η z;clear I O z;go_wp2_with fail;go_ret2;exact⟨.inr ⟨4,rfl,.inl rfl,b.o,.inl HZ.o⟩,r.o⟩
end
theorem z0d(p:List UInt8×List UInt8->Bool)(l:List (List UInt8×List UInt8)):q2R (l.filter p)<=q2R l:=by
 induction l with
 |nil=>exact ι _
 | cons x l ih=>
  have b: ∀t,q2R (x::t)=q2R [x]+q2R t:=fun t=>by rw[<-q1I];rfl
  cases hp:p x with
  |true=>rw[List.filter_cons_of_pos hp,b,b l];omega
  |false=>rw[List.filter_cons_of_neg (by simp[hp]),b];omega
theorem z5K(q:List UInt8->Bool)(l:List (List UInt8×List UInt8))(nm:List UInt8):q0F Prod.fst nm (l.filter fun y=>q y.1)=if q nm=true then q0F Prod.fst nm l else none:=by
 induction l with
 |nil=>unfold q0F;simp
 | cons x l ih=>
  unfold q0F at ih⊢
  cases hq:q x.1 with
  | true=>
   rw[List.filter_cons,ξ hq,List.find?_cons,List.find?_cons,ih];by_cases b:(x.1==nm)=true
   ·rw[b]
    have:x.1=nm:=by simpa using b
    rw[this] at hq;simp[hq]
   ·rw[Bool.not_eq_true] at b
    rw[b]
  | false=>
   rw[List.filter_cons,κ (by simp[hq]),List.find?_cons,ih];by_cases b:(x.1==nm)=true
   ·have:x.1=nm:=by simpa using b
    rw[this] at hq;simp[hq]
   ·rw[Bool.not_eq_true] at b
    rw[b]
theorem Fl.filt{σ:DM}{c s:Int}{φ:Fls}{u cnt:Nat}(h:Fl σ c s φ u cnt)(q:List UInt8->Bool):Fl {σ with L:=σ.L.filter fun f=>q f.nm} c s (fun nm=>if q nm=true then φ nm else none) u cnt:=by
 obtain⟨l,b,d,i,j,o⟩:=h;refine⟨l.filter fun y=>q y.1,⟨b.up,b.fine,?_,b.cap,b.st⟩,d.filter _,fun nm=>?_,Ω (z0d _ _) j,Ω (List.length_filter_le _ _) o⟩
 ·rw[<-b.files,List.filter_map];rfl
 ·rw[z5K]
  cases hq:q nm with
  |true=>simp only[hq,if_true];exact i nm
  |false=>simp[hq]
def z9y(φ:Fls):Prop:=φ mapN=none/\ ∀nm,φ nm≠none->(∃l n,(l=116\/l=98)/\(0<=n/\n<=999999)/\nm=q0E l n)\/ ∃k:Nat,k<=999999/\nm=q0E 99 (k:Int)
def DKO(wb W:World)(g gl:Nat)(c s:Int)(u cnt:Nat)(C:Cks)(sure:Int)(K:Nat->Prop):Prop:=
 ∃σ φ gv F,DkF wb W g F σ (fun i=>K i\/q7k gl gv i)/\(Fl σ c s φ u cnt/\z9y φ/\CksS φ σ C sure)/\(LogM W gl g s gv (q0L C) sure/\okC C)/\(∀i,q7k gl gv i->¬K i/\wb.heap.size<=i)
def IXO(wb W:World)(g gx gl:Nat)(rate:Nat)(sd:Int)(c s:Int)(u cnt:Nat)(C:Cks)(sure:Int)(K:Nat->Prop):Prop:=
 (0<=sd/\sd<18446744073709551616)/\ ∃t σ φ gv,(∀n,t n=none)/\IxK wb W g gx ⟨⟨0,0,sd,[]⟩,rate,[],t,0⟩ σ (fun i=>K i\/q7k gl gv i)/\(Fl σ c s φ u cnt/\z9y φ/\CksS φ σ C sure)/\(LogM W gl g s gv (q0L C) sure/\okC C)/\(∀i,q7k gl gv i->¬K i/\wb.heap.size<=i)
section
variable {wb w W W':World}{g gx gl rate:Nat}{m:Man}{ws:List En}{c s:Int}{u cnt:Nat}{B:List En}{C C':Cks}{sure:Int}{K K':Nat->Prop}{st:IxSt}{σ:DM}{φ:Fls}
theorem DKR.gone(h:DKR wb W g gl m c s u cnt B C sure K):Calls Tryz.prog 136 #[.pointer (some ⟨g,0,none⟩),.string ⟨mapN.toArray⟩] W fun e w'=>
  (e= .returned (.int .i64 0)\/e= .returned (.int .i64 4))/\DKO wb w' g gl c s u cnt C sure K/\Stay K W w':=by
 obtain⟨st,σ,φ,Q,F,rfl,hw,hF,⟨v,X,o⟩,G,R⟩:=h;have j: ∀nm,nm≠mapN->φ nm≠none->(∃l n,(l=116\/l=98)/\(0<=n/\n<=999999)/\nm=q0E l n)\/ ∃k:Nat,k<=999999/\nm=q0E 99 (k:Int):=fun nm N b=>by
  rcases v.only nm b with e|⟨n,b,e⟩|e
  ·exact absurd e N
  ·have:=v.range b
   rcases e with e|e
   ·exact .inl ⟨116,n,.inl rfl,⟨this.1,this.2.1⟩,e⟩
   ·exact .inl ⟨98,n,.inr rfl,⟨this.1,this.2.1⟩,e⟩
  ·exact .inr e
 refine(z2M hF.d mapN (by decide)).mono ?_;rintro e w' ⟨rfl,Y⟩;obtain⟨I,J⟩:=hF.disk Y
 cases h0:φ mapN with
 | none=>
  have y:q1K σ mapN=(4,σ):=by
   obtain⟨l,U,a2,V,_⟩:=v.fl;exact U.deleteN (Fl.noFind V h0)
  rw[y] at I⊢;exact⟨.inr rfl,⟨σ,φ,Q,_,I,⟨v.fl,⟨h0,fun nm b=>j nm (fun e=>b (by rw[e];exact h0)) b⟩,o.toCksS⟩,⟨G.1.same fun i r=>J i (.inr r),G.2⟩,R⟩,fun i r=>J i (.inl r)⟩
 | some t=>
  obtain⟨σ',O,M⟩:=v.fl.del h0;have D:=Kp.delete σ mapN;rw[O] at D;rw[O] at I⊢;refine⟨.inl rfl,⟨σ',z8n φ mapN,Q,_,I,⟨M,⟨by unfold z8n;rw[ξ rfl],fun nm b=>?_⟩,o.toCksS.kp D v.fl fun k S=>?_⟩,⟨G.1.same fun i r=>J i (.inr r),G.2⟩,R⟩,fun i r=>J i (.inl r)⟩
  ·unfold z8n at b
   by_cases he:nm=mapN
   ·rw[ξ he] at b;exact absurd rfl b
   ·rw[κ he] at b;exact j nm he b
  ·unfold z8n
   rw[κ (q3Z S).1];exact o.i k S
theorem DKO.iopen(h:DKO wb W g gl c s u cnt C sure K)(sd:Int)(d:0<=sd)(j:sd<18446744073709551616)(rate:Nat):
  Calls Tryz.prog 142 #[.pointer (some ⟨g,0,none⟩),.agg #[.int .i64 0,.int .i64 0,.int .u64 sd,.slice none 0 0],.float .f64 rate] W fun e w'=>
   ∃gx,e= .returned (.tuple #[.pointer (some ⟨gx,0,none⟩),.int .i64 0])/\IXO wb w' g gx gl rate sd c s u cnt C sure K/\Stay K W w':=by
 obtain⟨σ,φ,y,F,hF,o,r,D⟩:=h;refine(z5W (m:=⟨0,0,sd,[]⟩) hF (ao:=none) (cap:=0) (Grid.empty W) (υ _) (fun x J=>by cases J) d j rate).mono ?_;have I:q0c 0 0 []=true:=by decide
 rintro e w' (⟨b,_⟩|⟨_,b,_⟩|⟨_,_,b,_⟩|⟨_,_,_,gx,t,rfl,b,v,M⟩)
 ·rw[show q0c (⟨0,0,sd,[]⟩:Man).nx (⟨0,0,sd,[]⟩:Man).ck (⟨0,0,sd,[]⟩:Man).L=true from I] at b;cases b
 ·rw[o.1.up] at b;cases b
 ·exact absurd rfl b
 ·have G: ∀n,t n=none:=fun n=>by
   have:=M n
   cases hn:t n with
   |none=>rfl
   |some e=>rw[hn] at this;cases this
  exact⟨gx,rfl,⟨⟨d,j⟩,t,σ,φ,y,G,b,o,⟨r.1.same fun i l=>v i (.inr l),r.2⟩,D⟩,fun i l=>v i (.inl l)⟩
end
section
variable {wb w W W':World}{g gx gl rate:Nat}{m:Man}{ws:List En}{c s:Int}{u cnt:Nat}{B:List En}{C C':Cks}{sure sd:Int}{K K':Nat->Prop}{st:IxSt}{σ:DM}{φ:Fls}
theorem z5o{l:UInt8}(b:l=116\/l=98){n:Int}(j:0<=n/\n<=999999):q1X [] (q0E l n)=true:=by
 have d:q1r l=true:=by rcases b with rfl|rfl<;>decide
 have i:=q1x d j;unfold q1X;rw[i];rcases b with rfl|rfl<;>simp
theorem IXO.tells(h:IXO wb W g gx gl rate sd c s u cnt C sure K):Calls Tryz.prog 62 #[.pointer (some ⟨gx,0,none⟩)] W fun e w'=>
  ∃v b,e= .returned (.agg #[.int .i64 0,.int .i64 0,.int .u64 sd,v])/\OGr w' W.heap.size 37 3 v b []/\Ext W w':=by
 obtain⟨D,t,σ,φ,l,G,⟨F,d,j,Y,q⟩,o,r,y⟩:=h;exact q6u q.i.x
theorem IXO.grow(h:IXO wb W g gx gl rate sd c s u cnt C sure K)(k:Ext W W'):IXO wb W' g gx gl rate sd c s u cnt C sure K:=by
 obtain⟨l,t,σ,φ,d,o,r,i,b,j⟩:=h;exact⟨l,t,σ,φ,d,o,r.grow k,i,⟨b.1.ext k,b.2⟩,j⟩
theorem IXO.kExt(h:IXO wb W g gx gl rate sd c s u cnt C sure K)(k:Ext W W'):Stay K W W':=by
 obtain⟨v,t,σ,φ,j,y,d,l,o,r⟩:=h;exact fun i b=>d.kExt k i (.inl b)
theorem IXO.clean(h:IXO wb W g gx gl rate sd c s u cnt C sure K){ao:Option Addr}{cap:Nat}(hG:Grid W ao 0 cap []):
  Calls Tryz.prog 143 #[.pointer (some ⟨g,0,none⟩),.agg #[.int .i64 0,.int .i64 0,.int .u64 sd,.slice ao 0 cap]] W fun e w'=>e= .returned (.int .i64 0)/\IXG wb w' g gx gl rate ⟨0,0,sd,[]⟩ [] c s u cnt [] C sure K/\Stay K W w':=by
 obtain⟨⟨Q,S⟩,t,σ,φ,gv,V,h5,⟨b,⟨N,G⟩,o⟩,h7,h8⟩:=h;have X:σ.down=false:=b.up;have r:σ.fail=false:=by obtain⟨l,O,_⟩:=b;exact O.fine
 have U: ∀x∈q1d σ,x.length<=9223372036854775807:=fun x v=>by
  have Y:φ x≠none:=by
   obtain⟨l,h1,_,h2,_⟩:=b;rw[h1.names] at v;rw[<-h2 x];obtain⟨y,hy,rfl⟩:=List.mem_map.1 v;intro j
   cases I:q0F Prod.fst y.1 l with
   |some z=>rw[I] at j;cases j
   |none=>exact q1w I y hy rfl
  rcases G x Y with⟨l,n,_,j,rfl⟩|⟨k,M,rfl⟩
  ·rw[q0W j,χ,q0e];decide
  ·rw[q0W (by omega),χ,q0e];decide
 refine(h5.disk (σ1:={σ with L:=σ.L.filter fun f=>!q1X [] f.nm}) (R:=fun e=>e= .returned (.int .i64 0)) fun F hd=>z4m hd X r U (nx:=0) (ck:=0) (sd:=sd) hG (by simp)).mono ?_;rintro e w' ⟨he,k1,k2⟩;have hv:q0c 0 0 []=true:=by decide
 have D:=b.filt (fun nm=>!q1X [] nm);refine⟨he,⟨_,_,_,gv,rfl,rfl,rfl,υ _,k1,⟨⟨D,⟨hv,Q,S⟩,(fun n j=>by cases j),(fun n e he=>by simp only at he;rw[V n] at he;cases he),fun nm d=>?_,okM.nil,okM.nil,fun x=>?_⟩,.inr ⟨?_,rfl,rfl,rfl⟩,⟨⟨fun k M=>?_,fun f I=>o.sr f (List.mem_filter.1 I).1,o.le⟩,fun n e he=>by simp only at he;rw[V n] at he;cases he⟩⟩,⟨h7.1.same fun i J=>k2 i (.inr J),h7.2⟩,h8⟩,fun i J=>k2 i (.inl J)⟩
 ·by_cases hq:(!q1X [] nm)=true
  ·simp only[hq,if_true] at d
   rcases G nm d with⟨l,n,hl,j,rfl⟩|e
   ·rw[z5o hl j] at hq;cases hq
   ·exact .inr (.inr e)
  ·simp only[hq] at d
   exact absurd rfl d
 ·constructor
  ·intro v;cases v
  ·rintro(v|⟨n,e,he,_⟩)
   ·cases v
   ·simp only at he;rw[V n] at he;cases he
 ·simp only[z2p];exact N
 ·simp only[q8F M];exact o.i k M
end
section
variable {wb w W W':World}{g gx gl:Nat}{m:Man}{ws:List En}{c s:Int}{u cnt:Nat}{B:List En}{C C':Cks}{sure sd:Int}{K K':Nat->Prop}{st:IxSt}{σ:DM}{φ:Fls}
theorem z2a(C:Cks)(pos:Int):(q2L C pos).length<=(q0u 0 C).length:=List.length_filter_le _ _
theorem z7g{B i:List En}(h:okM i)(k: ∀x,x∈B↔x∈i):i.length<=B.length:=
 q6P (h.sort.imp fun {a b} d e=>by subst e;rw[q0Z] at d;cases d) fun x j=>(k x).2 j
theorem IXO.more{rate:Nat}(h:IXO wb W g gx gl rate sd c s u cnt C sure K)(k:Ext W W')(hK: ∀i,K' i->K i\/(W.heap.size<=i/\i<W'.heap.size)):IXO wb W' g gx gl rate sd c s u cnt C sure K':=by
 obtain⟨D,t,σ,φ,o,F,r,v,j,l⟩:=h;refine⟨D,t,σ,φ,o,F,r.more k (fun i b=>?_),v,⟨j.1.ext k,j.2⟩,fun i b=>⟨fun y=>?_,(l i b).2⟩⟩
 ·rcases b with b|b
  ·exact(hK i b).imp .inl id
  ·exact .inl (.inr b)
 ·rcases hK i y with d|⟨d,_⟩
  ·exact(l i b).1 d
  ·have:=j.1.lt b;omega
def y1y(wb W:World)(g gl:Nat)(rate:Nat)(m:Man)(c s:Int)(u cnt:Nat)(B:List En)(C:Cks)(sure:Int)(K:Nat->Prop)(sd:Int)(e:Ending)(w':World):Prop:=
 ((∃ gx m' B2 D an,e= .returned (.tuple #[.pointer (some ⟨gx,0,none⟩),.bool an,.int .i64 0])/\IXG wb w' g gx gl rate m' (q1P D []) c s u cnt (q1P D B2) C sure K/\z0k sd (q2L C m'.ck)=some D/\
   ((an=false/\m'=m.cut/\m.sd=sd/\m.ck<=q3W C/\0<m.nx/\ ∀x,x∈B↔x∈B2)\/(an=true/\m'=⟨0,0,sd,[]⟩/\B2=[]/\((m.nx=0/\m.ck=0/\m.L=[])\/m.sd≠sd\/q3W C<m.ck))))\/
  (e= .returned (.tuple #[.pointer none,.bool false,.int .i64 63])/\Ext wb w'/\((m.sd=sd/\z0k sd (q2L C m.ck)=none)\/z0k sd (q2L C 0)=none)))/\Stay K W w'
theorem z9e(h:DKR wb w g gl m c s u cnt B C sure K)(p0:m.L.flatten.length<=cnt)(hB:B.length+8*(q0u 0 C).length<=40000)(q0:0<=sd)(r0:sd<18446744073709551616)(rate:Nat):
  Calls Tryz.prog 84 #[.pointer (some ⟨g,0,none⟩),.pointer (some ⟨gl,0,none⟩),.int .u64 sd,.float .f64 rate] w (y1y wb w g gl rate m c s u cnt B C sure K sd):=by
 have f0:=h.man;have hb:=Man.bounds f0;have d0:=η (z9Q h p0 sd rate);have a0:=η hB;have s0: ∀(W:World) (x y z t:Value),(Instr.field 47 (.agg #[x,y,z,t]) 2).run Tryz.prog W= .ok z W:=fun _ _ _ _ _=>rfl
 clear h hB;go_enter Tryz.func84,Tryz.ntmps84;go_wp2_with fail;refine d0.o.mono ?_;rintro e w1 ⟨hl,h0⟩;have HS:=η h0;clear h0 d0;rcases hl with⟨gx,B2,rfl,b,hm,Y,o0,g0⟩|⟨n,rfl,hn,hd,Q⟩
 ·have HM:=η hm
  have c0:=η (z7g b.okB.1 hm);obtain⟨M,hM⟩: ∃M,m.cut=M:=⟨_,rfl⟩
  have m0:=η hM;have U:Hd (M.ck=m.ck):=η (by rw[<-hM];rfl);have e0:Hd (M.sd=sd):=η (by rw[<-hM,<-Y];rfl);have j0:Hd (0<=M.ck):=η (by rw[U.o];omega);have l0:Hd (M.ck<=9223372036854775807):=η (by rw[U.o];omega);rw[hM] at b;have N:=η b;clear b hm hM;have HT:=η N.o.tells;go_wp2_with fail;refine HT.o.mono ?_;rintro e J ⟨v,vs,rfl,ho,O⟩;obtain⟨ao,cp,rfl,hg⟩:=ho.grid;have hq:=q0B J (.cells #[.int .i64 M.nx,.int .i64 M.ck,.int .u64 M.sd,.slice ao M.L.length cp] 47);have j:=Blk.new J 47 #[.int .i64 M.nx,.int .i64 M.ck,.int .u64 M.sd,.slice ao M.L.length cp];have i0:=η ((N.o.grow O).more (K':=fun i=>K i\/i=J.heap.size) hq (fun i b=>b.imp id fun e=>⟨by omega,by rw[e];exact j.lt⟩));have V:=η (HS.o.trans (N.o.kExt (O.trans hq)));have HC:=η (((N.o.grow O).more (K':=fun i=>K i\/i=J.heap.size) hq (fun i b=>b.imp id fun e=>⟨by omega,by rw[e];exact j.lt⟩)).clean (hg.ext hq) M.nx M.ck M.sd);have R:=η j;clear ho O hg hq j HT;go_wp2_with fail;refine HC.o.mono ?_;rintro e w3 ⟨rfl,b,d⟩;have F:=η (V.o.trans (fun i b=>d i (.inl b)));have G:=R.o.same (d _ (.inr rfl));have c1:w3.cell? ⟨J.heap.size,1,none⟩=some (.int .i64 M.ck):=G.cell 1;have HR:=η (z2v b M.ck j0.o l0.o (by have h1:=z2a C M.ck;have h2:=a0.o;have h3:=c0.o;omega));clear b d G HC;go_wp2_with fail;refine HR.o.mono ?_;rintro e w4 ⟨D,b,d,(⟨I,rfl⟩|⟨I,rfl⟩)⟩
  ·have S:=η (b.beside (K':=K) fun i b=> .inl b)
   have r:=η (F.o.trans (fun i b=>d i (.inl b)));have l:=η I;clear b d I;go_wp2_with fail;go_ret3;exact⟨.inl ⟨gx,_,_,D,_,rfl,S.o,by rw[<-e0.o];exact l.o,.inl ⟨rfl,m0.o.symm,Y,o0,g0,HM.o⟩⟩,r.o⟩
  ·have X:=η b.base
   have r:=η (F.o.trans (fun i b=>d i (.inl b)));have l:=η I;clear b d I;go_wp2_with fail;go_ret3;exact⟨.inr ⟨rfl,X.o,.inl ⟨Y,by rw[<-U.o,<-e0.o];exact l.o⟩⟩,r.o⟩
 ·have HD:=η hd;have HW:=η Q
  have b0:=η hd.gone;clear hd Q;rcases hn with rfl|rfl
  all_goals
   go_wp2_with fail;refine b0.o.mono ?_;rintro e w5 ⟨he,hd,d⟩;have HO:=η (hd.iopen sd q0 r0 rate);have n0:=η (HS.o.trans d);clear hd d;rcases he with rfl|rfl
   all_goals
    go_wp2_with fail;refine HO.o.mono ?_;rintro e w6 ⟨gx,rfl,b,d⟩;have N:=η b;have HS:=η (n0.o.trans d);clear b d HO b0;have HT:=η N.o.tells;go_wp2_with fail;refine HT.o.mono ?_;rintro e J ⟨v,vs,rfl,ho,O⟩;obtain⟨ao,cp,rfl,hg⟩:=ho.grid;have hq:=q0B J (.cells #[.int .i64 0,.int .i64 0,.int .u64 sd,.slice ao 0 cp] 47);have j:=Blk.new J 47 #[.int .i64 0,.int .i64 0,.int .u64 sd,.slice ao 0 cp];have i0:=η ((N.o.grow O).more (K':=fun i=>K i\/i=J.heap.size) hq (fun i b=>b.imp id fun e=>⟨by omega,by rw[e];exact j.lt⟩));have V:=η (HS.o.trans (N.o.kExt (O.trans hq)));have HC:=η (((N.o.grow O).more (K':=fun i=>K i\/i=J.heap.size) hq (fun i b=>b.imp id fun e=>⟨by omega,by rw[e];exact j.lt⟩)).clean (ao:=ao) (cap:=cp) (hg.ext hq));have R:=η j;clear ho O hg hq j HT;go_wp2_with fail;refine HC.o.mono ?_;rintro e w3 ⟨rfl,b,d⟩;have F:=η (V.o.trans (fun i b=>d i (.inl b)));have G:=R.o.same (d _ (.inr rfl));have c1:w3.cell? ⟨J.heap.size,1,none⟩=some (.int .i64 0):=G.cell 1;have HR:=η (z2v b 0 (by decide) (by decide) (by have h1:=z2a C 0;have h2:=a0.o;rw[List.length_nil];omega));clear b d G HC;go_wp2_with fail;refine HR.o.mono ?_;rintro e w4 ⟨D,b,d,(⟨I,rfl⟩|⟨I,rfl⟩)⟩
    ·have S:=η (b.beside (K':=K) fun i b=> .inl b)
     have r:=η (F.o.trans (fun i b=>d i (.inl b)));have l:=η I;clear b d I;go_wp2_with fail;go_ret3;exact⟨.inl ⟨gx,_,_,D,_,rfl,S.o,l.o,.inr ⟨rfl,rfl,rfl,HW.o⟩⟩,r.o⟩
    ·have X:=η b.base
     have r:=η (F.o.trans (fun i b=>d i (.inl b)));have l:=η I;clear b d I;go_wp2_with fail;go_ret3;exact⟨.inr ⟨rfl,X.o,.inr l.o⟩,r.o⟩
end
def DKQ(wb W:World)(g:Nat)(m:Man)(c s:Int)(u cnt:Nat)(B:List En)(C:Cks)(K:Nat->Prop):Prop:=
 ∃st σ φ F,st.m=m/\st.w=[]/\DkF wb W g F σ K/\(PInv st σ c s φ u cnt B/\q8V φ m/\z8Y st φ σ C 0)/\okC C
section
variable {wb w W W':World}{g gl gs gx rate:Nat}{m:Man}{ws:List En}{c s sd:Int}{u cnt:Nat}{B:List En}{C:Cks}{P:Pbs}{sure:Int}{K K':Nat->Prop}
theorem DKQ.lopen(h:DKQ wb w g m c s u cnt B C K):Calls Tryz.prog 83 #[.pointer (some ⟨g,0,none⟩)] w fun e w'=> ∃gl,e= .returned (.tuple #[.pointer (some ⟨gl,0,none⟩),.int .i64 0])/\DKR wb w' g gl m c s u cnt B C (q3W C) K/\Stay K w w':=by
 obtain⟨st,σ,φ,F,Q,R,S,⟨I,r,o⟩,U⟩:=h;obtain⟨E,N,O,e3,e4⟩:=q7N I o.toCksS U;refine(y0t (E:=E) (C:=C) (c:=c-(q2Q E:Int)) (s:=s) (K:=K) (w0:=wb) ⟨F,σ,S,N⟩).mono ?_;rintro e w' ⟨gl,rfl,_,⟨M,v,σ',b,J⟩,G⟩;obtain⟨y,X,Y,p3⟩:=I.relog O J b.d.okD (u':=u) (cnt':=cnt) (by omega) (by omega);have hm:y mapN=φ mapN:=p3 mapN fun k D e=>(q3Z D).1 e.symm
 refine⟨gl,rfl,⟨st,σ',y,v,M,Q,R,⟨b.d,b.bF,b.ext,fun i j=>?_⟩,⟨X,by unfold q8V;rw[hm];exact r,Y,o.old⟩,⟨b.l,J.ok⟩,fun i j=>⟨fun D=>(b.k i D).2.2 j,b.bG i j⟩⟩,G⟩;rcases j with j|j
 ·exact⟨(b.k i j).1,(b.k i j).2.1⟩
 ·exact⟨b.l.lt j,fun V=>b.ap i V j⟩
structure StoP(wb W:World)(g gs gl gx rate:Nat)(m:Man)(ws:List En)(sd c s:Int)(u cnt:Nat)(B:List En)(C:Cks)(sure:Int)(P:Pbs)(K:Nat->Prop):Prop where
 i:IXG wb W g gx gl rate m ws c s u cnt B C sure (fun i=>K i\/i=gs)
 b:Blk W gs 131 #[.pointer (some ⟨gl,0,none⟩),.pointer (some ⟨gx,0,none⟩),.int .u64 sd]
 sdE:m.sd=sd
 recE:q0u 0 C=z4X P
 stE:StI sd B P
 ckE:m.ck<=q3W C
 wsE: ∀x∈ws,m.ck<=x.2.2
 ckS:m.ck<=sure
 k:¬K gs/\wb.heap.size<=gs
theorem StoP.grow(h:StoP wb W g gs gl gx rate m ws sd c s u cnt B C sure P K)(k:Ext W W'):StoP wb W' g gs gl gx rate m ws sd c s u cnt B C sure P K:=
 ⟨h.i.grow k,h.b.ext k,h.sdE,h.recE,h.stE,h.ckE,h.wsE,h.ckS,h.k⟩
theorem StoP.base(h:StoP wb W g gs gl gx rate m ws sd c s u cnt B C sure P K):Ext wb W:=h.i.base
theorem StoP.kExt(h:StoP wb W g gs gl gx rate m ws sd c s u cnt B C sure P K)(k:Ext W W'):Stay K W W':=fun i b=>h.i.kExt k i (.inl b)
theorem StoP.klt(h:StoP wb W g gs gl gx rate m ws sd c s u cnt B C sure P K): ∀i,K i->i<W.heap.size:=fun i b=>h.i.klt i (.inl b)
theorem StoP.more(h:StoP wb W g gs gl gx rate m ws sd c s u cnt B C sure P K)(k:Ext W W')(hK: ∀i,K' i->K i\/(W.heap.size<=i/\i<W'.heap.size)):StoP wb W' g gs gl gx rate m ws sd c s u cnt B C sure P K':=
 ⟨h.i.more k fun i d=>by
  rcases d with d|d
  ·exact(hK i d).imp .inl id
  ·exact .inl (.inr d),h.b.ext k,h.sdE,h.recE,h.stE,h.ckE,h.wsE,h.ckS,fun l=>by
  rcases hK gs l with j|j
  ·exact h.k.1 j
  ·have:=h.b.lt;omega,h.k.2⟩
theorem StoP.beside(h:StoP wb W g gs gl gx rate m ws sd c s u cnt B C sure P K)(k: ∀i,K' i->K i):StoP wb W g gs gl gx rate m ws sd c s u cnt B C sure P K':=
 ⟨h.i.beside fun i d=>d.imp (k i) id,h.b,h.sdE,h.recE,h.stE,h.ckE,h.wsE,h.ckS,fun j=>h.k.1 (k gs j),h.k.2⟩
theorem StoP.sideM(h:StoP wb W g gs gl gx rate m ws sd c s u cnt B C sure P K)(r:W.heap.size<=W'.heap.size)(v:Ext wb W')(k: ∀i,i<W.heap.size->¬K i->W'.heap[i]? =W.heap[i]?)(hK: ∀i,K' i->K i\/(W.heap.size<=i/\i<W'.heap.size)):
  StoP wb W' g gs gl gx rate m ws sd c s u cnt B C sure P K':=
 ⟨h.i.sideM r v (fun i d o=>k i d fun e=>o (.inl e)) fun i d=>by
  rcases d with d|d
  ·exact(hK i d).imp .inl id
  ·exact .inl (.inr d),h.b.same (k gs h.b.lt h.k.1),h.sdE,h.recE,h.stE,h.ckE,h.wsE,h.ckS,fun l=>by
  rcases hK gs l with j|j
  ·exact h.k.1 j
  ·have:=h.b.lt;omega,h.k.2⟩
theorem StoP.mono(h:StoP wb W g gs gl gx rate m ws sd c s u cnt B C sure P K){u' cnt':Nat}(d:u<=u')(hc:cnt<=cnt'):StoP wb W g gs gl gx rate m ws sd c s u' cnt' B C sure P K:=
 ⟨h.i.mono d hc,h.b,h.sdE,h.recE,h.stE,h.ckE,h.wsE,h.ckS,h.k⟩
theorem StoP.stay(h:StoP wb W g gs gl gx rate m ws sd c s u cnt B C sure P K){d:Int}{j:Nat->Prop}(v:IXG wb W' g gx gl rate m ws c s u cnt B C d (fun i=>j i\/i=gs))(D:Stay (fun i=>K i\/i=gs) W W')(y: ∀i,j i->K i\/W.heap.size<=i)(o:sure<=d:=by exact Int.le_refl _):StoP wb W' g gs gl gx rate m ws sd c s u cnt B C d P j:=
 ⟨v,h.b.same (D gs (.inr rfl)),h.sdE,h.recE,h.stE,h.ckE,h.wsE,Int.le_trans h.ckS o,fun l=>by
  rcases y gs l with r|r
  ·exact h.k.1 r
  ·have:=h.b.lt;omega,h.k.2⟩
theorem StoP.cells(h:StoP wb W g gs gl gx rate m ws sd c s u cnt B C sure P K):W.cell? ⟨gs,0,none⟩=some (.pointer (some ⟨gl,0,none⟩))/\W.cell? ⟨gs,1,none⟩=some (.pointer (some ⟨gx,0,none⟩))/\W.cell? ⟨gs,2,none⟩=some (.int .u64 sd):=⟨h.b.cell 0,h.b.cell 1,h.b.cell 2⟩
theorem StoP.okB(h:StoP wb W g gs gl gx rate m ws sd c s u cnt B C sure P K):okM B:=h.i.okB.1
theorem StoP.len(h:StoP wb W g gs gl gx rate m ws sd c s u cnt B C sure P K):B.length<=(tos (q1l P)).length:=h.stE.len h.okB.sort
theorem q7J(P:Pbs):(z4X P).length=P.length:=List.length_map _
theorem StoP.posLt(h:StoP wb W g gs gl gx rate m ws sd c s u cnt B C sure P K){y:Nat×Bt}(b:y∈P):(y.1,btB y.2)∈q0u 0 C:=by rw[h.recE];exact List.mem_map.2 ⟨y,b,rfl⟩
end
section
variable {wb w W W':World}{g gl gs gx rate:Nat}{m:Man}{ws:List En}{c s sd:Int}{u cnt:Nat}{B:List En}{C:Cks}{P:Pbs}{sure:Int}{K K':Nat->Prop}
theorem StoP.poke(h:StoP wb W g gs gl gx rate m ws sd c s u cnt B C sure P K)(hq:K q)(b:wb.heap.size<=q)(j:Nat)(v:Value):StoP wb (W.setCell ⟨q,j,none⟩ v) g gs gl gx rate m ws sd c s u cnt B C sure P K:=
 h.sideM (by rw[World.size_setCell];exact ι _) (Below.setCell h.base b _) (fun i d l=>q0J _ _ fun e=>l (e▸hq)) fun i d=> .inl d
theorem Stay.poke{K:Nat->Prop}{w W:World}(h:Stay K w W)(hq:¬K q)(j:Nat)(v:Value):Stay K w (W.setCell ⟨q,j,none⟩ v):=fun i b=>(q0J _ _ fun e=>hq (by rw[<-e];exact b)).trans (h i b)
def z2Z(r:Option To):Value:=match r with
 |some t=> .tuple #[toV t,.bool true,.int .i64 0]
 |none=> .tuple #[toV to0,.bool false,.int .i64 0]
theorem z8z{e:Ev}(h:z8S e):(evB e).length<=228:=by
 obtain⟨_,b,d⟩:=q2J h.1;unfold evB;rw[q2X (by omega),q2X (by omega)];simp[q0G];omega
theorem z2S : ∀{L:List Ev},(∀e∈L,z8S e)->((L.map evB).flatten).length<=228*L.length
 |[],_=>ι _
 | e::L,h=>by
  have d:=z8z (h e (.head _));have i:=z2S (L:=L) fun x b=>h x (.tail _ b)
  rw[List.map_cons,List.flatten_cons,θ,χ];omega
theorem z4f{b:Bt}(h:z4V b):(btB b).length<=2000:=by
 obtain⟨j,l,o,r,v,y,d⟩:=q0t h.1;have i:=z2S (L:=b.ev) fun e he=>⟨q5H d e he,h.2 e he⟩
 unfold btB;rw[q2X (by omega),θ,θ,θ,θ,q0G,q0G,q0G];omega
theorem StoP.ent(h:StoP wb W g gs gl gx rate m ws sd c s u cnt B C sure P K)(r:x∈B)(d:List UInt8):
  ∃ (b:Bt) (k pos:Nat),z4V b/\q5P C (pos:Int)=(btB b,0)/\pos<=819200/\k<b.ev.length/\x=(q2M sd b.st,(b.fi:Int)+(k:Int),(pos:Int))/\
   q2D P d x=if b.st=d then some ⟨d,((b.fi+k:Nat):Int),b.ev.getD k ev0⟩ else none:=by
 obtain⟨y,j,k,l,rfl⟩:=mem_entsP.1 ((h.stE.ents x).1 r);have o:=h.posLt j;exact⟨y.2,k,y.1,h.stE.ok.each (List.mem_map.2 ⟨y,j,rfl⟩),z6C h.i.cOk o,z7z h.i.cOk o,l,rfl,q5J h.stE.pos j l d⟩
theorem y1p{W:World}{t:TypeId}{a b c d e:Value}(h:Blk W q t #[a,b,c,d,e])(i j l o:Value):
  (W.cell? ⟨q,0,none⟩=some a/\W.cell? ⟨q,1,none⟩=some b/\W.cell? ⟨q,2,none⟩=some c/\W.cell? ⟨q,3,none⟩=some d/\W.cell? ⟨q,4,none⟩=some e)/\
  (W.frozen? ⟨q,0,none⟩=false/\W.frozen? ⟨q,1,none⟩=false/\W.frozen? ⟨q,2,none⟩=false/\W.frozen? ⟨q,3,none⟩=false/\W.frozen? ⟨q,4,none⟩=false)/\
  (((W.setCell ⟨q,0,none⟩ i).setCell ⟨q,1,none⟩ j).frozen? ⟨q,2,none⟩=false/\((W.setCell ⟨q,0,none⟩ i).setCell ⟨q,1,none⟩ j).cell? ⟨q,2,none⟩=some c)/\
  ((((W.setCell ⟨q,0,none⟩ i).setCell ⟨q,1,none⟩ j).setCell ⟨q,2,none⟩ l).frozen? ⟨q,3,none⟩=false/\(((W.setCell ⟨q,0,none⟩ i).setCell ⟨q,1,none⟩ j).setCell ⟨q,2,none⟩ l).cell? ⟨q,3,none⟩=some d)/\
  (((((W.setCell ⟨q,0,none⟩ i).setCell ⟨q,1,none⟩ j).setCell ⟨q,2,none⟩ l).setCell ⟨q,3,none⟩ o).frozen? ⟨q,4,none⟩=false/\((((W.setCell ⟨q,0,none⟩ i).setCell ⟨q,1,none⟩ j).setCell ⟨q,2,none⟩ l).setCell ⟨q,3,none⟩ o).cell? ⟨q,4,none⟩=some e):=by
 have r:=(h.set 0 i).set 1 j;have v:=r.set 2 l;have y:=v.set 3 o;exact⟨⟨h.cell 0,h.cell 1,h.cell 2,h.cell 3,h.cell 4⟩,⟨h.free 0,h.free 1,h.free 2,h.free 3,h.free 4⟩,⟨r.free 2,r.cell 2⟩,⟨v.free 3,v.cell 3⟩,⟨y.free 4,y.cell 4⟩⟩
theorem z9C(h:StoP wb w g gs gl gx rate m ws sd c s u cnt B C sure P K)(X:x∈B)(M:List UInt8)(hs:M.length<=4611686018427387903):
  Calls Tryz.prog 113 #[.pointer (some ⟨gs,0,none⟩),enV x,.string ⟨M.toArray⟩] w fun e w'=>e= .returned (z2Z (q2D P M x))/\StoP wb w' g gs gl gx rate m ws sd c s u cnt B C sure P K/\Stay K w w':=by
 obtain⟨b,k,pos,hb,h0,B0,hk,rfl,hf⟩:=h.ent X M;have g0:=z5S b hb;have y0:=z4f hb;obtain⟨q1,q2,q3,q4,q5,q6,q7⟩:=q0t hb.1;rw[hf];show Calls _ _ #[_,.agg #[.int .u64 (q2M sd b.st),.int .i64 ((b.fi:Int)+(k:Int)),.int .i64 (pos:Int)],_] _ _;generalize q2M sd b.st=xh;obtain⟨p,hp⟩: ∃p,btB b=p:=⟨_,rfl⟩
 rw[hp] at h0 g0 y0;have HG:=η (fun W=>z8K p W (by omega));rw[g0] at HG;have i0:=q0B w (.cells #[.int .u64 xh,.int .i64 ((b.fi:Int)+(k:Int)),.int .i64 (pos:Int)] 165);have Q:=q0B (w.alloc (.cells #[.int .u64 xh,.int .i64 ((b.fi:Int)+(k:Int)),.int .i64 (pos:Int)] 165)) (.cells #[.string ⟨#[]⟩,.int .i64 0,.string ⟨#[]⟩,.string ⟨#[]⟩,.float .f64 0] 69);have I:=(Blk.new w 165 #[.int .u64 xh,.int .i64 ((b.fi:Int)+(k:Int)),.int .i64 (pos:Int)]).ext Q;have Y:=Blk.new (w.alloc (.cells #[.int .u64 xh,.int .i64 ((b.fi:Int)+(k:Int)),.int .i64 (pos:Int)] 165)) 69 #[.string ⟨#[]⟩,.int .i64 0,.string ⟨#[]⟩,.string ⟨#[]⟩,.float .f64 0];rw[ρ] at Y;have x0:=h.base.size;have H0:=h.more (K':=fun i=>K i\/i=w.heap.size\/i=w.heap.size+1) (i0.trans Q) fun i r=>r.imp id fun e=>by
  rw[ρ,ρ];omega
 have q0:=h.kExt (i0.trans Q);have t0:¬K (w.heap.size+1):=fun e=>by have:=h.klt _ e;omega
 have HR:=η (fun W k=>(H0.grow (W':=W) k).i.read (pos:Int) (by omega) (by omega) h0);have k0:=I.cell 0;have k1:=I.cell 1;have k2:=I.cell 2;obtain⟨s0,s1,s2⟩:=H0.cells;have HH:=η H0;have o0:=η q0;have j0:=η I;have m0:=η Y;have G:=η t0;have F:Hd (wb.heap.size<=w.heap.size+1):=η (by omega);clear h X hf hb g0 i0 Q H0 q0 I Y t0 x0 h0;go_enter Tryz.func113,Tryz.ntmps113;go_wp2_with fail;have d0:=q0A (Ext.refl _).drew s0;have d2:=q0A (Ext.refl _).drew k2
 go_region_held3 (fun W=>W.cell? ⟨gs,0,none⟩=some (.pointer (some ⟨gl,0,none⟩))/\W.cell? ⟨w.heap.size,2,none⟩=some (.int .i64 (pos:Int)))
  (first|exact n0.o|exact⟨d0,d2⟩)
  (first|(go_at_call 181;refine(HR.o _ (Ext.refl _).drew).mono ?_;rintro e w3 ⟨rfl,r,J⟩;have N:=η ((HH.o.grow (Ext.refl _).drew).stay r J fun i r=> .inl r);have p0:=η (o0.o.trans fun i r=>J i (.inl (.inl r)));have D:=η ((j0.o.ext (Ext.refl _).drew).same (J _ (.inl (.inr (.inl rfl)))));have R:=η ((m0.o.ext (Ext.refl _).drew).same (J _ (.inl (.inr (.inr rfl)))));have n0:=η (And.intro N.o.cells.1 (D.o.cell 2));clear r J))
 clear n0 d0 d2;clear HR HH o0 j0 m0 k0 k1 k2 s0 s1 s2;generalize w.heap.size=q at*;go_wp2_with fail;refine(HG.o _).mono ?_;rintro e w4 ⟨⟨y,rfl,hy⟩,X⟩;obtain⟨x,rfl,d⟩:=hy;obtain⟨ao,cp,rfl,j⟩:=Evs.of_own d;have r0:=j.fits;have C0:=j.bound;obtain⟨st,fi,ev⟩:=b;simp only at hk q1 q2 q3 q4 q5 q6 j r0 d⊢;obtain⟨n,hn⟩: ∃n,ev.length=n:=⟨_,rfl⟩
 rw[hn] at hk q4 q6 j r0 d⊢;have l:=q0B w4 (.cells #[.string ⟨st.toArray⟩,.int .i64 (fi:Int),.slice ao n cp] 160);have O:=Blk.new w4 160 #[.string ⟨st.toArray⟩,.int .i64 (fi:Int),.slice ao n cp];have v0:=η (N.o.grow (X.trans l));have w0:=η (p0.o.trans fun i r=>N.o.kExt (X.trans l) i (.inl r));have l0:=η (D.o.ext (X.trans l));have S:=η (R.o.ext (X.trans l));have U:=j.ext l;have k1:=l0.o.cell 1;have b0:=O.cell 0;have b1:=O.cell 1;have b2:=O.cell 2;have qi:IntKind.i64.wrap ((fi:Int)+(k:Int)-(fi:Int))=(k:Int):=by rw[ν];omega
 have D0:decide ((k:Int)<0)=false:=ε (by omega);have E0:decide ((n:Int)<=(k:Int))=false:=ε (by omega);have G0:(k:Int)<(n:Int):=by omega
 have F0:0<=(k:Int):=by omega
 have I0:=q3k;obtain⟨bb,off,rfl,c0,c1,c2⟩:=U.at hk;obtain⟨ee,e0⟩: ∃ee,ev.getD k ev0=ee:=⟨_,rfl⟩
 rw[e0] at c0 c1 c2;obtain⟨ty,da,we⟩:=ee;have u0:Hd (∀h:k<ev.length,ev[k]=⟨ty,da,we⟩):=η fun h=>by rw[<-e0,δ,γ h];rfl
 simp only at c0 c1 c2⊢;have V: ∀(W:World),W=w4.alloc (.cells #[.string ⟨st.toArray⟩,.int .i64 (fi:Int),.slice (some ⟨bb,off,none⟩) n cp] 160)-> ∀a0 a1 a2 a3 a4:Value,
   StoP wb (((((W.setCell ⟨q+1,0,none⟩ a0).setCell ⟨q+1,1,none⟩ a1).setCell ⟨q+1,2,none⟩ a2).setCell ⟨q+1,3,none⟩ a3).setCell ⟨q+1,4,none⟩ a4) g gs gl gx rate m ws sd c s u cnt B C sure P K/\
    Stay K w (((((W.setCell ⟨q+1,0,none⟩ a0).setCell ⟨q+1,1,none⟩ a1).setCell ⟨q+1,2,none⟩ a2).setCell ⟨q+1,3,none⟩ a3).setCell ⟨q+1,4,none⟩ a4):=fun W hW a0 a1 a2 a3 a4=>by
  subst hW;have e: ∀i:Nat,(fun i=>K i\/i=q\/i=q+1) (q+1):=fun _=> .inr (.inr rfl)
  exact⟨(((((v0.o.poke (e 0) F.o 0 a0).poke (e 0) F.o 1 a1).poke (e 0) F.o 2 a2).poke (e 0) F.o 3 a3).poke (e 0) F.o 4 a4).beside fun i r=> .inl r,
   ((((w0.o.poke G.o 0 a0).poke G.o 1 a1).poke G.o 2 a2).poke G.o 3 a3).poke G.o 4 a4⟩
 have HF:=η V;clear e0 X l d j U O V HG p0 N D R q7;by_cases A0:st=M
 ·subst A0
  obtain⟨⟨z0,z1,z2,z3,z4⟩,⟨f0,f1,f2,f3,f4⟩,⟨g2,d2⟩,⟨g3,d3⟩,⟨g4,d4⟩⟩:=y1p S.o (.string ⟨st.toArray⟩) (.int .i64 ((fi:Int)+(k:Int))) (.string ⟨ty.toArray⟩) (.string ⟨da.toArray⟩);go_wp2_with fail;refine q9T 9 (by kernel_rfl) (by kernel_rfl) ?_;simp only[List.take_succ_cons,List.take_zero,List.drop_succ_cons,List.drop_zero]
  repeat still_step
  refine wpStill_nil ?_;go_wp2_with fail
  ((try simp only[Exit.inBlock,Exit.then]);refine bodyPost_ret (v:= .tuple #[.agg #[.string ⟨st.toArray⟩,.int .i64 ((fi:Int)+(k:Int)),.string ⟨ty.toArray⟩,.string ⟨da.toArray⟩,.float .f64 we],.bool true,.int .i64 0]) (by rw[q0O rfl];go_simp) rfl ?_)
  obtain⟨r1,r2⟩:=HF.o _ rfl (.string ⟨st.toArray⟩) (.int .i64 ((fi:Int)+(k:Int))) (.string ⟨ty.toArray⟩) (.string ⟨da.toArray⟩) (.float .f64 we);exact⟨by rw[u0.o];rfl,r1.grow (Ext.refl _).drew,r2⟩
 ·obtain⟨⟨z0,z1,z2,z3,z4⟩,⟨f0,f1,f2,f3,f4⟩,⟨g2,d2⟩,⟨g3,d3⟩,⟨g4,d4⟩⟩:=y1p S.o (.string ⟨#[]⟩) (.int .i64 0) (.string ⟨#[]⟩) (.string ⟨#[]⟩)
  go_wp2_with fail
  ((try simp only[Exit.inBlock,Exit.then]);refine bodyPost_ret (v:= .tuple #[.agg #[.string ⟨#[]⟩,.int .i64 0,.string ⟨#[]⟩,.string ⟨#[]⟩,.float .f64 0],.bool false,.int .i64 0]) (by rw[q0O rfl];go_simp) rfl ?_)
  exact⟨rfl,HF.o _ rfl _ _ _ _ _⟩
end
section
variable {wb w W W1 W2:World}{g gl gs gx rate:Nat}{m:Man}{ws:List En}{c s sd:Int}{u cnt:Nat}{B:List En}{C:Cks}{P:Pbs}{sure:Int}{K K':Nat->Prop}
theorem StoP.row1{n R M base:Nat}{d l:Value}{U F:List Value}{o:Obj}{ti:TypeId}(h:StoP wb W g gs gl gx rate m ws sd c s u cnt B C sure P (fun i=>K i\/d.ownBlock=some i))(V:wb.heap.size<=base)(hq:W.ownsRow base ti M d n U)
  (N:W2.ownsRow base ti M l R F)(r:(W.alloc o).grownBy W2 d.ownBlock)(G:l.ownBlock=d.ownBlock\/l.ownBlock=some (W.alloc o).heap.size)(J: ∀i,K i->d.ownBlock≠some i):
  StoP wb W2 g gs gl gx rate m ws sd c s u cnt B C sure P (fun i=>K i\/l.ownBlock=some i)/\Stay K W W2/\ ∀i,K i->l.ownBlock≠some i:=by
 have S:=r.size;rw[ρ] at S;have y: ∀i,d.ownBlock=some i->base<=i/\i<W.heap.size:=q0d hq;have I: ∀i,i<W.heap.size->d.ownBlock≠some i->W2.heap[i]? =W.heap[i]? :=fun i b v=>(r.block i (by rw[ρ];omega) fun e=>v e.symm).trans ((q0B W o).block i b)
 have j:=h.base;have D:Ext wb W2:=Below.grown (j.alloc o) r (by rw[ρ];have:=j.size;omega) fun k O=>by have:=(y k O).1;omega
 refine⟨h.sideM (by omega) D (fun i b v=>I i b fun e=>v (.inr e)) fun i b=>?_,fun i b=>I i (h.klt i (.inl b)) (J i b),fun i b e=>?_⟩
 ·rcases b with b|b
  ·exact .inl (.inl b)
  ·rcases G with k|k
   ·exact .inl (.inr (k.symm.trans b))
   ·have Q:=(q0d N i b).2
    rw[k,ρ] at b
    cases b
    right;omega
 ·rcases G with k|k
  ·exact J i b (k.symm.trans e)
  ·rw[k,ρ] at e
   cases e;have:=h.klt _ (.inl b);omega
theorem q6a(h :StoP wb w g gs gl gx rate m ws sd c s u cnt B C sure P K)(d:List UInt8)(hs:d.length<=4611686018427387903)(fr tt:Int)(hl:B.length<=10000){R:List To}
  (hR:(q5Z (q1l P) d).filter (fun t=>decide (max fr 0<=t.v/\t.v<=min tt 1073741824))=R):
  Calls Tryz.prog 65 #[.pointer (some ⟨gs,0,none⟩),.string ⟨d.toArray⟩,.int .i64 fr,.int .i64 tt] w fun e w'=>
   ∃v,e= .returned (.tuple #[v,.int .i64 0])/\StoP wb w' g gs gl gx rate m ws sd c s u cnt B C sure P (fun i=>K i\/v.ownBlock=some i)/\Stay K w w'/\w'.ownsRow wb.heap.size 69 5 v R.length (q4h R)/\ ∀i,K i->v.ownBlock≠some i:=by
 have F0:=h.stE.between h.okB.sort d (max fr 0) (min tt 1073741824);rw[hR] at F0;have Q0:(q0n B (q2M sd d) (max fr 0) (min tt 1073741824)).length<=10000:=Ω (List.length_filter_le _ _) hl;have i0: ∀x∈q0n B (q2M sd d) (max fr 0) (min tt 1073741824),x∈B:=fun x hx=>(mem_range.1 hx).1
 have w0:=η (fun W=>z2d sd d W hs);have z0:=η (fun W (k:Ext w W)=>(h.grow (W':=W) k).i.range (q2M sd d) fr tt hl);obtain⟨s0,s1,s2⟩:=h.cells;have HH:=η h;have U0:=h.base.size;have P0: ∀x∈q0n B (q2M sd d) (max fr 0) (min tt 1073741824),x∈B:=i0;generalize q0n B (q2M sd d) (max fr 0) (min tt 1073741824)=L at*;generalize q2M sd d=hh at*;have d1:=q0A (Ext.refl _).drew s1;have d2:=q0A (Ext.refl _).drew s2;clear h hR s0 s1 s2;go_enter Tryz.func65,Tryz.ntmps65;go_wp2_with fail
 go_region_held3 (fun W=>W.cell? ⟨gs,1,none⟩=some (.pointer (some ⟨gx,0,none⟩))/\W.cell? ⟨gs,2,none⟩=some (.int .u64 sd))
  (first|exact v0.o|exact⟨d1,d2⟩)
  (first
   |(go_at_call 89;refine(w0.o _).mono ?_;rintro e wa ⟨rfl,rfl⟩)
   |(go_at_call 112;refine(z0.o _ (Ext.refl _).drew).mono ?_;rintro e w3 ⟨v,rfl,j,G,l⟩;have f0:=η l;have x0:=η j;have l0:=η G;have v0:=η (And.intro (((HH.o.grow (Ext.refl _).drew).b.same (G _ (.inr rfl))).cell 1) (((HH.o.grow (Ext.refl _).drew).b.same (G _ (.inr rfl))).cell 2));clear j G l))
 all_goals
  clear v0 d1 d2 w0 z0;have l:=f0.o;obtain⟨ao,V,rfl⟩:=q0H l
  have J0:Hd (StoP wb w3 g gs gl gx rate m ws sd c s u cnt B C sure P (fun i=>(K i\/(Value.slice ao L.length V).ownBlock=some i)\/(Value.slice none 0 0).ownBlock=some i)):=η ((HH.o.grow (Ext.refl _).drew).stay (x0.o.beside fun i j=>by
   rcases j with((j|j)|j)|j
   ·exact .inl (.inl j)
   ·exact .inr j
   ·cases j
   ·exact .inl (.inr j)) l0.o fun i j=>by
   rcases j with(j|j)|j
   ·exact .inl j
   ·exact .inr (q0d l i j).1
   ·cases j)
  have B0:Hd (Stay K w w3):=η fun i j=>l0.o i (.inl j)
  have R0:Hd (∀i,K i->(Value.slice ao L.length V).ownBlock≠some i):=η fun i j e=>by
   have h1:=HH.o.klt i j;have h2:w.heap.size<=i:=(q0d l i e).1;omega
  have N0:=l;have y0:Hd (L.length<=V/\V<=9223372036854775807):=η (by obtain⟨_,_,h1,h2⟩:=Ens.of_own (Own.of_row l);cases h1;exact⟨h2.fits,h2.bound⟩);have b1:=y0.o.1;have b2:=y0.o.2;clear l N0 x0 l0;go_wp2_with fail
  go_loopw [12,39] (fun o i W=> ∃(k:Nat) (v:Value),k<=L.length/\o=v/\i= .int .i64 (k:Int)/\W.ownsRow wb.heap.size 69 5 v ((L.take k).filterMap (q2D P d)).length (q4h ((L.take k).filterMap (q2D P d)))/\
   StoP wb W g gs gl gx rate m ws sd c s u cnt B C sure P (fun i=>(K i\/(Value.slice ao L.length V).ownBlock=some i)\/v.ownBlock=some i)/\Stay K w W/\W.ownsRow w.heap.size 165 3 (.slice ao L.length V) L.length (ecs L)/\ ∀i,(K i\/(Value.slice ao L.length V).ownBlock=some i)->v.ownBlock≠some i) (fun _ i _=>L.length-(intOf i).toNat)
  case atStart=>exact⟨0,_,υ _,rfl,rfl,World.ownsRow_nil _ _ _ _,J0.o,B0.o,f0.o,fun i _ e=>by cases e⟩
  case round =>
   obtain⟨k,v,hk,rfl,rfl,d0,G,p0,b0,n0⟩:=hrel;have X:=η d0;have Y:=η G;have m0:=η p0;have A0:=η b0;have N:=η n0;obtain⟨oa,oc,rfl⟩:=q0H d0;by_cases U:k<L.length
   ·have hd:decide ((k:Int)<(L.length:Int))=true:=ζ (by omega)
    have q8:IntKind.i64.wrap ((k:Int)+1)=(k:Int)+1:=by rw[ν];omega
    have S0:(k:Int)<(L.length:Int):=by omega
    obtain⟨_,_,M0,h0⟩:=Ens.of_own (Own.of_row b0)
    cases M0;obtain⟨bb,off,rfl,c0,c1,c2⟩:=h0.at U;have q0:L.take (k+1)=L.take k++[L.getD k en0]:=by rw[List.take_succ_eq_append_getElem U,δ,γ U];rfl
    have u0:=i0 (L.getD k en0) (by rw[δ,γ U];exact List.getElem_mem U);obtain⟨x,hx⟩: ∃x,L.getD k en0=x:=⟨_,rfl⟩
    rw[hx] at c0 c1 c2 q0 u0
    have a0:Hd ((L.take (k+1)).filterMap (q2D P d)=(L.take k).filterMap (q2D P d)++(q2D P d x).toList):=η (by
     rw[q0,List.filterMap_append];congr 1)
    have j0:Hd (((L.take k).filterMap (q2D P d)).length<=10000):=η (Ω (List.length_filterMap_le _ _) (by rw[Θ];omega));obtain⟨x1,x2,x3⟩:=x;simp only at c0 c1 c2;have r0:=q0B wr (.cells #[.int .u64 x1,.int .i64 x2,.int .i64 x3] 165);have D:=Blk.new wr 165 #[.int .u64 x1,.int .i64 x2,.int .i64 x3];have k0:=D.cell 0;have k1:=D.cell 1;have k2:=D.cell 2;have HF:Hd (Calls Tryz.prog 113 #[.pointer (some ⟨gs,0,none⟩),.agg #[.int .u64 x1,.int .i64 x2,.int .i64 x3],.string ⟨d.toArray⟩] (wr.alloc (.cells #[.int .u64 x1,.int .i64 x2,.int .i64 x3] 165)) fun e w'=>e= .returned (z2Z (q2D P d (x1,x2,x3)))/\StoP wb w' g gs gl gx rate m ws sd c s u cnt B C sure P (fun i=>(K i\/(Value.slice (some ⟨bb,off,none⟩) L.length V).ownBlock=some i)\/(Value.slice oa ((L.take k).filterMap (q2D P d)).length oc).ownBlock=some i)/\Stay (fun i=>(K i\/(Value.slice (some ⟨bb,off,none⟩) L.length V).ownBlock=some i)\/(Value.slice oa ((L.take k).filterMap (q2D P d)).length oc).ownBlock=some i) (wr.alloc (.cells #[.int .u64 x1,.int .i64 x2,.int .i64 x3] 165)) w'):=
     η (z9C (G.grow r0) u0 d hs)
    clear d0 G p0 b0 n0 h0 D q0 u0 hx;go_wp2_with fail;refine HF.o.mono ?_;rintro e w5 ⟨rfl,G0,H0⟩;have M:Stay (fun i=>(K i\/(Value.slice (some ⟨bb,off,none⟩) L.length V).ownBlock=some i)\/(Value.slice oa ((L.take k).filterMap (q2D P d)).length oc).ownBlock=some i) wr w5:=(Y.o.kExt r0).trans H0;have I:=η (q1H X.o fun i j=>M i (.inr j));have e0:=η (q1H A0.o fun i j=>M i (.inl (.inr j)));have g0:=η (m0.o.trans fun i j=>M i (.inl (.inl j)));have y:=η G0;clear G0 H0 M HF r0 Y X A0 m0 k0 k1 k2 c0 c1 c2;obtain⟨OL,D0⟩: ∃OL,(L.take k).filterMap (q2D P d)=OL:=⟨_,rfl⟩
    rw[D0] at I y a0 j0 N⊢;obtain⟨no,o0⟩: ∃no,OL.length=no:=⟨_,rfl⟩
    rw[o0] at I y j0 N⊢;have T0:=j0.o;clear D0;obtain⟨r,hr⟩: ∃r,q2D P d (x1,x2,x3)=r:=⟨_,rfl⟩
    rw[hr] at a0⊢;clear hr
    cases r with
    | none=>
     have O:=q0B w5 (.cells #[.string ⟨#[]⟩,.int .i64 0,.string ⟨#[]⟩,.string ⟨#[]⟩,.float .f64 0] 69);have F:=η O;rw[show z2Z none= .tuple #[.agg #[.string ⟨#[]⟩,.int .i64 0,.string ⟨#[]⟩,.string ⟨#[]⟩,.float .f64 0],.bool false,.int .i64 0] from rfl];clear O;have O0:=q3k;go_wp2_with fail
     go_roundw
     case rel=>
      refine⟨k+1,_,by omega,rfl,by go_num,?_,y.o.grow F.o,g0.o.trans fun i j=>y.o.kExt F.o i (.inl (.inl j)),q0K e0.o F.o,N.o⟩;rw[a0.o,show(none:Option To).toList=[] from rfl,List.append_nil,o0];exact q0K I.o F.o
     case measure=>simp[intOf];omega
    | some t=>
     obtain⟨ts,Q,⟨ty,da,we⟩⟩:=t;have O:=q0B w5 (.cells #[.string ⟨ts.toArray⟩,.int .i64 Q,.string ⟨ty.toArray⟩,.string ⟨da.toArray⟩,.float .f64 we] 69);have D:=Blk.new w5 69 #[.string ⟨ts.toArray⟩,.int .i64 Q,.string ⟨ty.toArray⟩,.string ⟨da.toArray⟩,.float .f64 we];have t0:=D.cell 0;have t1:=D.cell 1;have t2:=D.cell 2;have t3:=D.cell 3;have t4:=D.cell 4;have F:=η O;rw[show z2Z (some ⟨ts,Q,⟨ty,da,we⟩⟩)= .tuple #[.agg #[.string ⟨ts.toArray⟩,.int .i64 Q,.string ⟨ty.toArray⟩,.string ⟨da.toArray⟩,.float .f64 we],.bool true,.int .i64 0] from rfl];have C0:=η (y.o.grow O);have I0:Hd (wb.heap.size<=w5.heap.size):=η y.o.base.size
     have L0:Hd (Rd ((w5.alloc (.cells #[.string ⟨ts.toArray⟩,.int .i64 Q,.string ⟨ty.toArray⟩,.string ⟨da.toArray⟩,.float .f64 we] 69)).alloc (.cells #[.string ⟨ts.toArray⟩,.int .i64 Q,.string ⟨ty.toArray⟩,.string ⟨da.toArray⟩,.float .f64 we] 69)) (some ⟨w5.heap.size+1,0,none⟩) (toc ⟨ts,Q,⟨ty,da,we⟩⟩)):=η (by
      have h:=Rd.lit (w5.alloc (.cells #[.string ⟨ts.toArray⟩,.int .i64 Q,.string ⟨ty.toArray⟩,.string ⟨da.toArray⟩,.float .f64 we] 69)) #[.string ⟨ts.toArray⟩,.int .i64 Q,.string ⟨ty.toArray⟩,.string ⟨da.toArray⟩,.float .f64 we] 69;rw[ρ] at h
      exact h)
     have O0:=q3k;clear O D
     go_wp2_with (at_builtin;refine q0Q rfl _ _ 36 rfl wb.heap.size 69 _ 5 64 Tryz.underlying36 Tryz.infoTo (by decide) (by decide) _ no (q4h OL) rfl (q0K (q0K I.o F.o) (q0B _ _)) _ 1 1 (toc ⟨ts,Q,⟨ty,da,we⟩⟩) rfl rfl (fun h=>by cases h) L0.o (by unfold toc;simp[Value.oneCell']) (by unfold maxLen;omega) (by omega) (by have:=I0.o;simp;omega) ?_;intro v2 w8 J S E0;obtain⟨a2,k2,rfl⟩:=q0H J;have HO:=η J;have K0:=η (StoP.row1 C0.o (ι _) (q0K I.o F.o) J S E0 N.o);clear J S E0)
     go_roundw
     case rel=>
      obtain⟨r1,r2,r3⟩:=K0.o;refine⟨k+1,_,by omega,rfl,by go_num,?_,r1,?_,?_,r3⟩
      ·rw[a0.o,show(some (⟨ts,Q,⟨ty,da,we⟩⟩:To)).toList=[⟨ts,Q,⟨ty,da,we⟩⟩] from rfl,z6T,θ,o0]
       exact HO.o
      ·exact(g0.o.trans fun i j=>y.o.kExt F.o i (.inl (.inl j))).trans fun i j=>r2 i (.inl j)
      ·exact q1H (q0K e0.o F.o) fun i j=>r2 i (.inr j)
     case measure=>simp[intOf];omega
   ·obtain rfl:k=L.length:=by omega
    have hd:decide ((L.length:Int)<(L.length:Int))=false:=ε (by omega);have e9:(L.take L.length).filterMap (q2D P d)=R:=by rw[List.take_length];exact F0
    clear d0 G p0 b0 n0;rw[e9] at X Y N⊢;go_wp2_with fail;go_ret2;exact⟨_,rfl,Y.o.beside fun i j=>j.imp .inl id,m0.o,X.o,fun i j=>N.o i (.inl j)⟩
end
section
variable {wb w W W1 W2:World}{g gl gs gx rate:Nat}{m:Man}{ws:List En}{c s sd:Int}{u cnt:Nat}{B:List En}{C:Cks}{P:Pbs}{sure:Int}{K K':Nat->Prop}
theorem z1i(h:Blk W gs 131 #[.pointer (some ⟨gl,0,none⟩),.pointer (some ⟨gx,0,none⟩),.int .u64 sd]):Calls Tryz.prog 61 #[.pointer (some ⟨gs,0,none⟩)] W fun e w'=>e= .returned (.bool false)/\W=w':=by
 have b:=h.cell 0;clear h;go_enter Tryz.func61,Tryz.ntmps61;go_wp2_with fail;go_ret;exact⟨rfl,rfl⟩
def z3w(bs:List Bt)(str:List UInt8):Int×Int:=if q1a str=true then(((q0T bs str).length:Int)-1,0) else(-1,2)
theorem z6I(h:StoP wb w g gs gl gx rate m ws sd c s u cnt B C sure P K)(d:List UInt8)(hs:d.length<=4611686018427387903)(hl:B.length<=10000)(l0:(q0T (q1l P) d).length<=1073741824){x y:Int}(I:z3w (q1l P) d=(x,y)):
  Calls Tryz.prog 52 #[.pointer (some ⟨gs,0,none⟩),.string ⟨d.toArray⟩] w fun e w'=>e= .returned (.tuple #[.int .i64 x,.int .i64 y])/\StoP wb w' g gs gl gx rate m ws sd c s u cnt B C sure P K/\Stay K w w':=by
 have HN:=η (z1i h.b);have l:=η (q9M d w (by omega));have g0:=η (fun W=>z2d sd d W hs);have HH:=η h;clear h;unfold z3w at I
 cases hstr:q1a d with
 | false=>
  rw[hstr,κ (by decide)] at I;injection I with h1 h2;subst h1 h2;rw[hstr] at l;go_enter Tryz.func52,Tryz.ntmps52;go_wp2_with fail;refine HN.o.mono ?_;rintro e w1 ⟨rfl,rfl⟩;go_wp2_with fail;refine l.o.mono ?_;rintro e w1 ⟨rfl,U⟩;have HX:=η U;clear U;go_wp2_with fail;go_ret2;exact⟨rfl,HH.o.grow HX.o,HH.o.kExt HX.o⟩
 | true =>
  rw[hstr,ξ rfl] at I;rw[hstr] at l;obtain⟨N,hN⟩: ∃N,(q0T (q1l P) d).length=N:=⟨_,rfl⟩
  rw[hN] at I l0;injection I with h1 h2;subst h2;have c0:=η h1;clear h1;have O:=η hN;go_enter Tryz.func52,Tryz.ntmps52;go_wp2_with fail;refine HN.o.mono ?_;rintro e w1 ⟨rfl,rfl⟩;go_wp2_with fail;refine l.o.mono ?_;rintro e w1 ⟨rfl,U⟩;have V:=η (HH.o.grow U);have h0:=η (HH.o.kExt U);obtain⟨s0,s1,s2⟩:=V.o.cells;clear U l;go_wp2_with fail;refine(g0.o _).mono ?_;rintro e q0 ⟨rfl,rfl⟩;clear s0 s1 s2;go_wp2_with fail
  go_loopw [7] (fun o W=> ∃v:Int,o= .int .i64 v/\(N:Int)-1<=v/\v<=1073741824/\ -1<=v/\StoP wb W g gs gl gx rate m ws sd c s u cnt B C sure P K/\Stay K w W) (fun o _=>(intOf o+2).toNat)
  case atStart=>exact⟨1073741824,rfl,by omega,by omega,by omega,V.o,h0.o⟩
  case round=>
   obtain⟨v,rfl,v0,v1,v2,F,d0⟩:=hrel;obtain⟨s0,s1,s2⟩:=F.cells;have f0:=η F;have i0:=η d0;have HL:=η (F.i.last (q2M sd d) v (by omega));have Y:=η (fun r I=>F.stE.last F.okB (s:=d) (u:=v) (r:=r) (by rw[O.o];exact v0) I);rw[show min v 1073741824=v by omega] at HL;clear F d0;go_wp2_with fail;refine HL.o.mono ?_;rintro e w2 ⟨r,rfl,Q,G,j⟩;obtain⟨l1,l2,l3,l4,l5⟩:=Y.o r Q;rw[O.o] at l1 l4 l5;have p0:r<=v:=by
    rcases Q.2 with e|⟨y,hy,_,e1,e2⟩
    ·omega
    ·omega
   have M:=η (f0.o.stay G j fun i G=> .inl G);have a0:=η (i0.o.trans fun i G=>j i (.inl G));clear G j s0 s1 s2 HL Y Q;by_cases S:r<0
   ·have hd:decide (r<0)=true:=ζ S
    have n0:(N:Int)=0:=by have:=l3 S;rw[<-O.o,this];rfl
    obtain rfl:x= -1:=by have:=c0.o;omega
    go_wp2_with fail
    (try rw[Exit.noGoto_ret])
    go_ret2;exact⟨rfl,M.o,a0.o⟩
   ·have hd:decide (r<0)=false:=ε S
    have HB:=η (q6a M.o d hs r r hl rfl);rw[show max r 0=r by omega,show min r 1073741824=r by omega] at HB;have e0:=l4 (by omega);obtain⟨R,hR⟩: ∃R,(q5Z (q1l P) d).filter (fun t=>decide (r<=t.v/\t.v<=r))=R:=⟨_,rfl⟩
    rw[hR] at HB e0 l5;obtain⟨s0,s1,s2⟩:=M.o.cells;clear l3 l4 hR;go_wp2_with fail;refine HB.o.mono ?_;rintro e w3 ⟨v3,rfl,F,j,J,j0⟩;obtain⟨ra,rc,rfl⟩:=q0H J;have X:=η (F.beside (K':=K) fun i G=> .inl G);have b0:=η (a0.o.trans j);clear F j J j0 HB s0 s1 s2;by_cases D:R=[]
    ·have h9:=e0 D
     have q9:IntKind.i64.wrap (r-1)=r-1:=by rw[ν];omega
     subst D;go_wp2_with fail
     go_roundw
     case rel=>exact⟨r-1,by go_num,by omega,by omega,by omega,X.o,b0.o⟩
     case measure=>simp[intOf];omega
    ·have h9:=l5 D
     obtain rfl:r=x:=by have:=c0.o;omega
     have m0:0<R.length:=List.length_pos_iff.2 D;have o0:decide (0<(R.length:Int))=true:=ζ (by omega);go_wp2_with fail
     (try rw[Exit.noGoto_ret])
     go_ret2;exact⟨rfl,X.o,b0.o⟩
end
section
variable {wb w W W1 W2:World}{g gl gs gx rate:Nat}{m:Man}{ws:List En}{c s sd:Int}{u cnt:Nat}{B:List En}{C:Cks}{P:Pbs}{sure:Int}{K K':Nat->Prop}
end
section
variable {wb w W W1 W2:World}{g gl gs gx rate:Nat}{m:Man}{ws:List En}{c s sd:Int}{u cnt:Nat}{B:List En}{C:Cks}{P:Pbs}{sure:Int}{K K':Nat->Prop}
def y2B(y:Nat×Bt):Int:=(y.1:Int)+((btB y.2).length:Int)+12
end
def q9Y(bs:List Bt)(str:List UInt8)(ex:Int)(L:List Ev):Int:=
 if q0X str 0 L≠0 then q0X str 0 L else if ex< -2 then 2 else if ex≠ -2/\ex≠((q0T bs str).length:Int)-1 then 80 else 0
theorem q3O(bs:List Bt)(s:List UInt8):(q0T bs s).length<=(tos bs).length:=by
 induction bs using q9K with
 |h0=>exact υ _
 | h1 l b ih=>
  rw[q2r,q4b,q9N,θ,q3q]
  split
  ·rw[θ];omega
  ·omega
theorem q9b{b:List UInt8}{L:List Ev}{n:Nat}(h:q0X b 0 L=0)(l:n<=1000000):q0X b (n:Int) L=0:=by
 obtain⟨d,i,o,r,v,y,j⟩:=q0t h;unfold q0X;rw[κ (fun e=>e.elim d i),κ (by omega),κ (by omega)];exact j
section
variable {wb w W W1 W2:World}{g gl gs gx rate:Nat}{m:Man}{ws:List En}{c s sd:Int}{u cnt:Nat}{B:List En}{C:Cks}{P:Pbs}{sure:Int}{K K':Nat->Prop}
theorem StoP.added(h:StoP wb W1 g gs gl gx rate m ws sd c s u cnt B C sure P K){f x:Int}{C':Cks}{b:Bt}(D:z4V b)(J:b.fi=(q0T (q1l P) b.st).length)(Y:C.length<200)(I:q0z f C (btB b)=(x,0,C')):
  ∃ pos:Nat,x=(pos:Int)/\pos<4096*200/\ ∀(W:World) (u' cnt':Nat) (d:Int) (o:Nat->Prop),IXG wb W g gx gl rate m (q1P (q0a sd pos b b.ev.length) ws) c s u' cnt' (q1P (q0a sd pos b b.ev.length) B) C' d (fun i=>o i\/i=gs)->
   Blk W gs 131 #[.pointer (some ⟨gl,0,none⟩),.pointer (some ⟨gx,0,none⟩),.int .u64 sd]->¬o gs->m.ck<=d->
   StoP wb W g gs gl gx rate m (q1P (q0a sd pos b b.ev.length) ws) sd c s u' cnt' (q1P (q0a sd pos b b.ev.length) B) C' d (P++[(pos,b)]) o:=by
 have j:=h.i.cOk;obtain⟨pos,rfl,F,Q,R,S,U,V⟩:=z0s j.size (z4f D) I;refine⟨pos,rfl,by omega,fun W u' cnt' d o M r N v=>⟨M,r,h.sdE,?_,h.stE.snoc D J fun y O=>?_,?_,fun z l=>?_,v,⟨N,h.k.2⟩⟩⟩
 ·rw[F,h.recE];unfold z4X;rw[List.map_append];rfl
 ·have G:=z7L (q6T C 0 j.size) _ (h.posLt O)
  have X:=z5A j;simp only at G;omega
 ·have:=h.ckE;omega
 ·rcases mem_addEs.1 l with l|l
  ·unfold q0a at l
   obtain⟨k,_,rfl⟩:=List.mem_map.1 l;show m.ck<=(pos:Int);have:=h.ckE;omega
  ·exact h.wsE z l
def y1Q(wb w:World)(g gs gl gx rate:Nat)(m:Man)(ws:List En)(sd c s:Int)(u cnt:Nat)(B:List En)(C:Cks)(sure:Int)(P:Pbs)(K:Nat->Prop)(str:List UInt8)(L:List Ev)(z:Int)(e:Ending)(w':World):Prop:=
 ((z ≠0/\e= .returned (.tuple #[.int .i64 0,.int .i64 z])/\StoP wb w' g gs gl gx rate m ws sd c s u cnt B C sure P K)\/
  (z=0/\e= .returned (.tuple #[.int .i64 0,.int .i64 60])/\StoP wb w' g gs gl gx rate m ws sd c s u cnt B C sure P K/\c-(u:Int)-2024<6000)\/
  (z =0/\z4V ⟨str,(q0T (q1l P) str).length,L⟩/\ ∃pos ws' B' C' sure',e= .returned (.tuple #[.int .i64 ((q0T (q1l P) str).length:Int),.int .i64 0])/\
   StoP wb w' g gs gl gx rate m ws' sd c s (u+2024) (cnt+1) B' C' sure' (P++[(pos,⟨str,(q0T (q1l P) str).length,L⟩)]) K/\sure<=sure'))/\Stay K w w'
theorem z6H(h :StoP wb w g gs gl gx rate m ws sd c s u cnt B C sure P K)(d:List UInt8)(hs:d.length<=4611686018427387903)(ex:Int){ao:Option Addr}{n cap:Nat}{L:List Ev}(D: ∀W,Ext wb W->Stay K w W->Evs W ao n cap L)(hL:q3p L)
  (t1: ∀e∈L,e.we<18446744073709551616)(hl:B.length<=9000)(hN:(tos (q1l P)).length<=9000)(hC:C.length<200):
  Calls Tryz.prog 38 #[.pointer (some ⟨gs,0,none⟩),.string ⟨d.toArray⟩,.int .i64 ex,.slice ao n cap] w (y1Q wb w g gs gl gx rate m ws sd c s u cnt B C sure P K d L (q9Y (q1l P) d ex L)):=by
 have c0:=D w h.base (Stay.refl _ _);have M0:=c0.len;have b1:=c0.fits;have b2:=c0.bound;have o1:=q3O (q1l P) d;obtain⟨N,r0⟩: ∃N,(q0T (q1l P) d).length=N:=⟨_,rfl⟩
 have f0:=η r0;have Q:=q0B w (.cells #[.string ⟨d.toArray⟩,.int .i64 0,.slice ao n cap] 160);have y:=Blk.new w 160 #[.string ⟨d.toArray⟩,.int .i64 0,.slice ao n cap];have R:=η (q8Y d 0 _ (c0.ext Q) hs hL);have HN:=η (fun W (k:Ext (w.alloc (.cells #[.string ⟨d.toArray⟩,.int .i64 0,.slice ao n cap] 160)) W)=>z1i ((h.b.ext Q).ext k));have I:=η (h.more (K':=fun i=>K i\/i=w.heap.size) Q fun i j=>j.imp id fun e=>by rw[ρ];omega);have a0:=η (h.kExt Q);have L0:¬K w.heap.size:=fun e=>by have:=h.klt _ e;omega
 have a1:=η L0;have l1:Hd (wb.heap.size<=w.heap.size):=η h.base.size;have k0:=y.cell 0;have k1:=y.cell 1;have k2:=y.cell 2;have z0:=η y;obtain⟨z,S⟩: ∃z,q9Y (q1l P) d ex L=z:=⟨_,rfl⟩
 have HZ:=η S;rw[S];unfold q9Y at S;clear L0 y c0;by_cases O:q0X d 0 L=0
 case neg=>
  rw[ξ O] at S;rw[S] at R O;have hd:(z !=0)=true:=by simpa using O
  clear S D Q;go_enter Tryz.func38,Tryz.ntmps38;go_wp2_with fail;refine R.o.mono ?_;rintro e w1 ⟨rfl,D⟩;have J:=η D;clear D;go_wp2_with fail;refine(HN.o _ J.o).mono ?_;rintro e w0 ⟨rfl,rfl⟩;go_wp2_with fail;go_ret2;exact⟨.inl ⟨O,rfl,(I.o.grow J.o).beside fun i j=> .inl j⟩,a0.o.trans fun i j=>I.o.kExt J.o i (.inl j)⟩
 rw[κ (fun h=>h O)] at S;rw[O] at R;obtain⟨p1,p2,p3,p4,p5,p6,p7⟩:=q0t O;by_cases b0:ex< -2
 ·rw[ξ b0] at S
  subst S;have hd:decide (ex< -2)=true:=ζ b0;clear D Q;go_enter Tryz.func38,Tryz.ntmps38;go_wp2_with fail;refine R.o.mono ?_;rintro e w1 ⟨rfl,D⟩;have J:=η D;clear D;go_wp2_with fail;refine(HN.o _ J.o).mono ?_;rintro e w0 ⟨rfl,rfl⟩;go_wp2_with fail;go_ret2;exact⟨.inl ⟨by decide,rfl,(I.o.grow J.o).beside fun i j=> .inl j⟩,a0.o.trans fun i j=>I.o.kExt J.o i (.inl j)⟩
 rw[κ b0] at S;have hd:decide (ex< -2)=false:=ε b0;have r1:q1a d=true:=by
  have:0<d.length:=List.length_pos_iff.2 p1;unfold q1a;rw[ζ (show 1<=d.length by omega),ζ p3];rfl
 have t0:z3w (q1l P) d=((N:Int)-1,0):=by unfold z3w;rw[ξ r1,r0]
 have l0:=η (fun W (k:Ext (w.alloc (.cells #[.string ⟨d.toArray⟩,.int .i64 0,.slice ao n cap] 160)) W)=>z6I (I.o.grow k) d hs (by omega) (by omega) t0);rw[r0] at S o1;have A1:N<=9000:=by omega
 by_cases V:ex≠ -2/\ex≠(N:Int)-1
 ·rw[ξ V] at S
  subst S;have e1:(ex != -2)=true:=by simpa using V.1
  have e2:(ex !=(N:Int)-1)=true:=by simpa using V.2
  clear D Q;go_enter Tryz.func38,Tryz.ntmps38;go_wp2_with fail;refine R.o.mono ?_;rintro e w1 ⟨rfl,D⟩;have J:=η D;clear D;go_wp2_with fail;refine(HN.o _ J.o).mono ?_;rintro e w0 ⟨rfl,rfl⟩;go_wp2_with fail;refine(l0.o _ J.o).mono ?_;rintro e w2 ⟨rfl,hh,v⟩;have d0:=η hh;have g0:=η v;clear hh v;go_wp2_with fail;go_ret2;exact⟨.inl ⟨by decide,rfl,d0.o.beside fun i j=> .inl j⟩,(a0.o.trans fun i j=>I.o.kExt J.o i (.inl j)).trans fun i j=>g0.o i (.inl j)⟩
 rw[κ V] at S;subst S;have q0:(ex != -2)=false\/((ex != -2)=true/\(ex !=(N:Int)-1)=false):=by
  by_cases h1:ex= -2
  ·exact .inl (by simpa using h1)
  ·by_cases h2:ex=(N:Int)-1
   ·exact .inr ⟨by simpa using h1,by simpa using h2⟩
   ·exact absurd ⟨h1,h2⟩ V
 have Y:Hd (z4V ⟨d,N,L⟩):=η ⟨q9b (n:=N) O (by omega),t1⟩;have m1:=η D;have q1:IntKind.i64.wrap ((N:Int)-1+1)=(N:Int):=by rw[ν];omega
 clear b0 V Q D;rcases q0 with q0|⟨q0,z1⟩
 all_goals
  go_enter Tryz.func38,Tryz.ntmps38;go_wp2_with fail;refine R.o.mono ?_;rintro e w1 ⟨rfl,D⟩;have J:=η D;clear D;go_wp2_with fail;refine(HN.o _ J.o).mono ?_;rintro e w0 ⟨rfl,rfl⟩;go_wp2_with fail;refine(l0.o _ J.o).mono ?_;rintro e w2 ⟨rfl,hh,v⟩;have d0:=η hh;have g0:Hd (Stay K w w2):=η ((a0.o.trans fun i j=>I.o.kExt J.o i (.inl j)).trans fun i j=>v i (.inl j));have U:=η ((z0.o.ext J.o).same (v _ (.inr rfl)));clear hh v I a0 z0 k0 k1 k2 J l0 HN R;generalize w.heap.size=q at*;have f1:=U.o.free 1;have k0:=U.o.cell 0;have k1:=U.o.cell 1;have k2:=U.o.cell 2;have X:Hd (Blk (w2.setCell ⟨q,1,none⟩ (.int .i64 (N:Int))) q 160 #[.string ⟨d.toArray⟩,.int .i64 (N:Int),.slice ao n cap]):=η (U.o.set 1 (.int .i64 (N:Int)));have e0:=η (d0.o.poke (.inr rfl) l1.o 1 (.int .i64 (N:Int)));have n0:=η (g0.o.poke a1.o 1 (.int .i64 (N:Int)));have j0:=X.o.cell 0;have j1:=X.o.cell 1;have j2:=X.o.cell 2;have m0:=η (y0I (b:=⟨d,N,L⟩) _ (m1.o _ e0.o.base n0.o) Y.o);have N0:=z4f Y.o;obtain⟨p,hp⟩: ∃p,btB ⟨d,N,L⟩=p:=⟨_,rfl⟩
  have c1:=η hp;rw[hp] at m0 N0;clear hp;go_wp2_with fail;refine m0.o.mono ?_;rintro e w4 ⟨rfl,D⟩;have G:=η (e0.o.grow D);have o0:=η (n0.o.trans fun i j=>e0.o.kExt D i (.inl j));have x0:=η (X.o.ext D);clear D m0 f1 k0 k1 k2 j0 j1 j2 X e0 n0 U d0 g0;have HA:=η (G.o.i.append p N0 hC);obtain⟨s0,s1,s2⟩:=G.o.cells;go_wp2_with fail;refine HA.o.mono ?_;rintro e w5 ⟨⟨f,x,C',l,I0,rfl,j,u0⟩|⟨rfl,j,B1⟩,v⟩
  ·obtain⟨pos,rfl,O0,F⟩:=G.o.added (b:=⟨d,N,L⟩) Y.o f0.o.symm hC (by rw[c1.o];exact I0)
   have R0:=η F;have H0:=η (And.intro u0 (Int.le_trans G.o.ckS u0));clear u0;have i0:=η (G.o.b.same (v gs (.inr rfl)));have S0:=η (x0.o.same (v q (.inl (.inr rfl))));have p0:=η (o0.o.trans fun i j=>v i (.inl (.inl j)));have Z0:=η G.o.k.1;have y1:=η G.o.sdE;have Q0: ∀k,(q1P (q0a sd pos ⟨d,N,L⟩ k) B).length<=B.length+k:=fun k=>by
    have h1:=q6L (q0a sd pos ⟨d,N,L⟩ k) B;rw[q3h] at h1;omega
   have i1:=η Q0;have E0:=η (fun W=>z2d sd d W hs);have F0:Hd (∀k,k<n->q3P (q2U sd pos ⟨d,N,L⟩ k)=true):=η (fun k hk=>z2R sd Y.o.1 (by show k<L.length;omega) O0);have B0:=η (fun k=>q6n sd pos ⟨d,N,L⟩ k);have U0:Hd (∀k:Nat,q2U sd pos ⟨d,N,L⟩ k=(q2M sd d,(N:Int)+(k:Int),(pos:Int))):=η fun k=>rfl
   have W0:=η j;have v1:=i0.o.cell 2;have u1:=i0.o.cell 0;generalize q2M sd d=hh at*;clear F j v HA s0 s1 s2 I0 Q0 G x0 o0;go_wp2_with fail;refine(E0.o _).mono ?_;rintro e C1 ⟨rfl,rfl⟩;clear v1 u1 E0;go_wp2_with fail
   go_loopw [83] (fun i W=> ∃k:Nat,k<=n/\i= .int .i64 (k:Int)/\IXG wb W g gx gl rate m (q1P (q0a sd pos ⟨d,N,L⟩ k) ws) c s (u+(p.length+24)) (cnt+1) (q1P (q0a sd pos ⟨d,N,L⟩ k) B) C' l (fun i=>(K i\/i=q)\/i=gs)/\Stay K w W/\
    Blk W gs 131 #[.pointer (some ⟨gl,0,none⟩),.pointer (some ⟨gx,0,none⟩),.int .u64 sd]/\Blk W q 160 #[.string ⟨d.toArray⟩,.int .i64 (N:Int),.slice ao n cap]) (fun i _=>n-(intOf i).toNat)
   case atStart=>exact⟨0,υ _,rfl,W0.o,p0.o,i0.o,S0.o⟩
   case round=>
    obtain⟨k,hk,rfl,j,v0,h0,y⟩:=hrel;have X0:=η j;have G0:=η v0;have C0:=η h0;have T0:=η y;by_cases t0:k<n
    ·have n1:decide ((k:Int)<(n:Int))=true:=ζ (by omega)
     have F:=(j.grow (Ext.refl _).drew).add (F0.o k t0) (by have:=i1.o k;omega)
     rw [show∀M,q3V (q2U sd pos ⟨d,N,L⟩ k) (q1P (q0a sd pos ⟨d,N,L⟩ k) M)=q1P (q0a sd pos ⟨d,N,L⟩ (k+1)) M from fun M=>by
      rw[B0.o k,q3L (q0a sd pos ⟨d,N,L⟩ k)];rfl,show∀M,q3V (q2U sd pos ⟨d,N,L⟩ k) (q1P (q0a sd pos ⟨d,N,L⟩ k) M)=q1P (q0a sd pos ⟨d,N,L⟩ (k+1)) M from fun M=>by
      rw[B0.o k,q3L (q0a sd pos ⟨d,N,L⟩ k)];rfl,U0.o k] at F
     have HA:Hd (Calls Tryz.prog 90 #[.pointer (some ⟨gx,0,none⟩),.agg #[.int .u64 hh,.int .i64 ((N:Int)+(k:Int)),.int .i64 (pos:Int)]] wr.drew fun r w'=>r= .returned (.int .i64 0)/\
      IXG wb w' g gx gl rate m (q1P (q0a sd pos ⟨d,N,L⟩ (k+1)) ws) c s (u+(p.length+24)) (cnt+1) (q1P (q0a sd pos ⟨d,N,L⟩ (k+1)) B) C' l (fun i=>(K i\/i=q)\/i=gs)/\Stay (fun i=>(K i\/i=q)\/i=gs) wr.drew w'):=η F
     have q7:IntKind.i64.wrap ((N:Int)+(k:Int))=(N:Int)+(k:Int):=by rw[ν];omega
     have q8:IntKind.i64.wrap ((k:Int)+1)=(k:Int)+1:=by rw[ν];omega
     have d1:=q0A (Ext.refl _).drew (h0.cell 1);have d2:=q0A (Ext.refl _).drew (y.cell 1);clear j v0 h0 y F;go_wp2_with fail
     go_region_held3 (fun W=>W.cell? ⟨gs,1,none⟩=some (.pointer (some ⟨gx,0,none⟩))/\W.cell? ⟨q,1,none⟩=some (.int .i64 (N:Int)))
      (first|exact A0.o|exact⟨d1,d2⟩)
      (first|(go_at_call 90;refine HA.o.mono ?_;rintro e w7 ⟨rfl,j,hs⟩;have Y0:=η j;have g1:Hd (Stay K w w7):=η (G0.o.trans (fun i j=>hs i (.inl (.inl j))));have D0:=η (C0.o.same (hs gs (.inr rfl)));have y0:=η (T0.o.same (hs q (.inl (.inr rfl))));have A0:=η (And.intro (D0.o.cell 1) (y0.o.cell 1));clear j hs))
     all_goals
      clear A0 d1 d2 HA;go_wp2_with fail
      go_roundw
      case rel=>exact⟨k+1,by omega,by go_num,Y0.o,g1.o,D0.o,y0.o⟩
      case measure=>simp[intOf];omega
    ·obtain rfl:k=n:=by omega
     have n1:decide ((k:Int)<(k:Int))=false:=ε (by omega);have k1:=y.cell 1;clear j v0 h0 y;go_wp2_with fail;go_ret2;have K0:=X0.o;rw[<-M0] at K0;have J0:=R0.o wr (u+2024) (cnt+1) l K ((K0.beside fun i j=>j.imp .inl id).mono (by omega) (ι _)) C0.o (fun hk=>Z0.o (.inl hk)) H0.o.2;have P0: ∃pos x1 B' C' l,(Ending.returned (.tuple #[.int .i64 (N:Int),.int .i64 0]))= .returned (.tuple #[.int .i64 ((q0T (q1l P) d).length:Int),.int .i64 0])/\
       StoP wb wr g gs gl gx rate m x1 sd c s (u+2024) (cnt+1) B' C' l (P++[(pos,⟨d,(q0T (q1l P) d).length,L⟩)]) K/\sure<=l:=⟨pos,_,_,C',l,by rw[f0.o],by rw[f0.o];exact J0,H0.o.1⟩
     exact⟨.inr (.inr ⟨rfl,by rw[f0.o];exact Y.o,P0⟩),G0.o⟩
  ·have V0:=η (G.o.stay j v fun i j=> .inl j)
   have p0:=η (o0.o.trans fun i j=>v i (.inl (.inl j)));clear j v HA s0 s1 s2;go_wp2_with fail;go_ret2;exact⟨.inr (.inl ⟨rfl,rfl,V0.o.beside fun i j=> .inl j,by omega⟩),p0.o⟩
end
def q1z(str:List UInt8)(fr ct:Int):Int:=if q1a str=false\/fr<0\/ct<1 then 2 else 0
section
variable {wb w W W1 W2:World}{g gl gs gx rate:Nat}{m:Man}{ws:List En}{c s sd:Int}{u cnt:Nat}{B:List En}{C:Cks}{P:Pbs}{sure:Int}{K K':Nat->Prop}
theorem z6J(h:Blk W gs 131 #[.pointer (some ⟨gl,0,none⟩),.pointer (some ⟨gx,0,none⟩),.int .u64 sd])(b:List UInt8)(G:b.length<=4611686018427387903)(fr ct:Int):
  Calls Tryz.prog 64 #[.pointer (some ⟨gs,0,none⟩),.string ⟨b.toArray⟩,.int .i64 fr,.int .i64 ct] W fun e w'=>e= .returned (.int .i64 (q1z b fr ct))/\Ext W w':=by
 have y:=η (z1i h);have d:=η (q9M b W (by omega));clear h
 cases hstr:q1a b with
 | false=>
  have F:q1z b fr ct=2:=by unfold q1z;rw[ξ (.inl hstr)]
  rw[hstr] at d;rw[F];go_enter Tryz.func64,Tryz.ntmps64;go_wp2_with fail;refine y.o.mono ?_;rintro e w1 ⟨rfl,rfl⟩;go_wp2_with fail;refine d.o.mono ?_;rintro e w1 ⟨rfl,l⟩;have r:=η l;clear l;go_wp2_with fail;go_ret;exact⟨rfl,r.o⟩
 | true =>
  rw[hstr] at d;obtain⟨z,i⟩: ∃z,q1z b fr ct=z:=⟨_,rfl⟩
  have v:(z=2/\decide (fr<0)=true)\/(z=2/\decide (fr<0)=false/\decide (ct<1)=true)\/(z=0/\decide (fr<0)=false/\decide (ct<1)=false):=by
   unfold q1z at i;rw[hstr] at i;simp only[Bool.true_eq_false,false_or] at i
   split at i
   ·by_cases j:fr<0
    ·exact .inl ⟨i.symm,ζ j⟩
    ·exact .inr (.inl ⟨i.symm,ε j,ζ (by omega)⟩)
   ·exact .inr (.inr ⟨i.symm,ε (by omega),ε (by omega)⟩)
  rw[i];clear i hstr;rcases v with⟨rfl,j⟩|⟨rfl,j,D⟩|⟨rfl,j,D⟩
  all_goals
   go_enter Tryz.func64,Tryz.ntmps64;go_wp2_with fail;refine y.o.mono ?_;rintro e w1 ⟨rfl,rfl⟩;go_wp2_with fail;refine d.o.mono ?_;rintro e w1 ⟨rfl,l⟩;have r:=η l;clear l;go_wp2_with fail;go_ret;exact⟨rfl,r.o⟩
def q6H(bs:List Bt)(str:List UInt8)(fr ct:Int):List To:=if q1z str fr ct=0 then q8G (q5Z bs str) fr ct else []
def ToldR(wb w:World)(g gs gl gx rate:Nat)(m:Man)(ws:List En)(sd c s:Int)(u cnt:Nat)(B:List En)(C:Cks)(sure:Int)(P:Pbs)(K:Nat->Prop)(R:List To)(z:Int)(e:Ending)(w':World):Prop:=
 ∃v,e= .returned (.tuple #[v,.int .i64 z])/\StoP wb w' g gs gl gx rate m ws sd c s u cnt B C sure P (fun i=>K i\/v.ownBlock=some i)/\Stay K w w'/\w'.ownsRow wb.heap.size 69 5 v R.length (q4h R)/\ ∀i,K i->v.ownBlock≠some i
theorem StoP.slot0(h:StoP wb W g gs gl gx rate m ws sd c s u cnt B C sure P K):StoP wb W g gs gl gx rate m ws sd c s u cnt B C sure P (fun i=>K i\/(Value.slice none 0 0).ownBlock=some i):=h.beside fun i b=>b.elim id fun e=>by cases e
theorem ToldR.nil{w0:World}(h:StoP wb W g gs gl gx rate m ws sd c s u cnt B C sure P K)(b:Stay K w0 W)(z:Int):ToldR wb w0 g gs gl gx rate m ws sd c s u cnt B C sure P K [] z (.returned (.tuple #[.slice none 0 0,.int .i64 z])) W:=
 ⟨_,rfl,h.slot0,b,World.ownsRow_nil _ _ _ _,fun i _ e=>by cases e⟩
theorem z4J(h:StoP wb w g gs gl gx rate m ws sd c s u cnt B C sure P K)(d:List UInt8)(Y:d.length<=4611686018427387903)(fr ct:Int)(b0: -9223372036854775808<=fr)(c0:fr<=9223372036854775807)(hl:B.length<=10000)(a0:(q0T (q1l P) d).length<=10000):
  Calls Tryz.prog 18 #[.pointer (some ⟨gs,0,none⟩),.string ⟨d.toArray⟩,.int .i64 fr,.int .i64 ct] w (ToldR wb w g gs gl gx rate m ws sd c s u cnt B C sure P K (q6H (q1l P) d fr ct) (q1z d fr ct)):=by
 have j:=η (z6J h.b d Y fr ct);have J:=η h;obtain⟨R,r⟩: ∃R,q6H (q1l P) d fr ct=R:=⟨_,rfl⟩
 rw[r];unfold q6H at r;by_cases i:q1z d fr ct=0
 ·have N:0<=fr/\1<=ct:=by
   unfold q1z at i
   split at i
   ·cases i
   ·omega
  rw[ξ i] at r;rw[i] at j⊢;by_cases F:1073741824<fr
  ·have hd:decide ((1073741824:Int)<fr)=true:=ζ F
   have S:R=[]:=by rw[<-r];exact z5r (by rw[q2P];omega)
   subst S;clear i r h;go_enter Tryz.func18,Tryz.ntmps18;go_wp2_with fail;refine j.o.mono ?_;rintro e w1 ⟨rfl,G⟩;have D:=η G;clear G;go_wp2_with fail;go_ret2;exact ToldR.nil (J.o.grow D.o) (J.o.kExt D.o) 0
  ·have hd:decide ((1073741824:Int)<fr)=false:=ε F
   obtain⟨y,U⟩: ∃y,min ct 1073741824=y:=⟨_,rfl⟩
   have d0:1<=y/\y<=1073741824:=by omega
   have q1:IntKind.i64.wrap (fr+y)=fr+y:=by rw[ν];omega
   have q2:IntKind.i64.wrap (fr+y-1)=fr+y-1:=by rw[ν];omega
   have I:=z9Y (q1l P) d (f:=fr) (c:=ct) N.1 N.2 (by omega);rw[U,r] at I;have V:=η (fun W (k:Ext w W)=>q6a (h.grow k) d Y fr (fr+y-1) hl I);clear i r h I;go_enter Tryz.func18,Tryz.ntmps18;go_wp2_with fail;refine j.o.mono ?_;rintro e w1 ⟨rfl,G⟩;have D:=η G;clear G;go_wp2_with fail;refine(V.o _ D.o).mono ?_;rintro e w2 ⟨v,rfl,X,O,l,M⟩;obtain⟨ra,rc,rfl⟩:=q0H l;have HF:Hd (ToldR wb w g gs gl gx rate m ws sd c s u cnt B C sure P K R 0 (.returned (.tuple #[.slice ra R.length rc,.int .i64 0])) w2):=η ⟨_,rfl,X,(J.o.kExt D.o).trans O,l,M⟩;clear X O l M V;go_wp2_with fail;go_ret2;exact HF.o
 ·rw [κ i] at r
  subst r;have Q:q1z d fr ct=2:=by
   unfold q1z at i⊢
   split at i
   ·rename_i h1;rw[ξ h1]
   ·exact absurd rfl i
  rw[Q] at j⊢;clear i Q h;go_enter Tryz.func18,Tryz.ntmps18;go_wp2_with fail;refine j.o.mono ?_;rintro e w1 ⟨rfl,G⟩;have D:=η G;clear G;go_wp2_with fail;go_ret2;exact ToldR.nil (J.o.grow D.o) (J.o.kExt D.o) 2
end
end
end Go.Proofs.YtfiibpgoplcgkaaGreatDoor
namespace Go.Proofs
open Go.Shelf
def Tryz.reverseTold_ren :Go.Shelf.Ren:=⟨fun|35=>106|n=>n,fun|22=>36|23=>69|3=>3|4=>4|0=>0|n=>n,fun|n=>n⟩
theorem Tryz.reverseTold :Go.Proofs.SlLaysE0.n35 Tryz.prog Tryz.reverseTold_ren:={
 mixed:=by kernel_rfl
 f35:=⟨Tryz.f106.name,by decide,Tryz.func106.trans (congrArg some (by kernel_rfl))⟩
 t0:=Tryz.underlying0
 a0:=Tryz.isAgg0
 z0:=Tryz.sizeOf0
 v0:=Tryz.zeroValue0
 t3:=Tryz.underlying3
 a3:=Tryz.isAgg3
 z3:=Tryz.sizeOf3
 v3:=Tryz.zeroValue3
 t4:=Tryz.underlying4
 a4:=Tryz.isAgg4
 z4:=Tryz.sizeOf4
 v4:=Tryz.zeroValue4
 t22:=Tryz.underlying36
 a22:=Tryz.isAgg36
 z22:=Tryz.sizeOf36
 v22:=Tryz.zeroValue36}
end Go.Proofs
namespace Go.Proofs.YtfiibpgoplcgkaaGreatDoor
variable {k cap:Nat}{e t:TypeId}{ao:Option Addr}{L:List Ev}{E:Oth}
section
open Go.RowKit Go.Sort Go.Lib
theorem z1d{w:World}{base:Nat}{g n q:Nat}{cs:List Value}{F:Array Value}(h:w.ownsRow base e k (.slice (some ⟨g,0,none⟩) n cap) n cs)(hF:F.size=n*k):
  (putRow id (Sort.ahead w q) g 0 F).ownsRow base e k (.slice (some ⟨g,0,none⟩) n cap) n F.toList:=by
 rcases h.2 with⟨i,_⟩|⟨M,o,b,i,D,G,v,hm,J,N⟩
 ·cases i
 ·injection i with d _ y
  injection d with d;injection d with d;subst d;subst y;have I:n*k<=cap*k:=Nat.mul_le_mul_right k v;refine⟨by simpa using hF,.inr ⟨g,cap,putCells id 0 F b,rfl,D,?_,v,hm,by simpa [putCells] using J,?_⟩⟩
  ·simp[putRow,mapBlock,Sort.ahead,Array.getElem?_modify,G,onCells]
  ·apply List.ext_getElem?
   intro j;rw[List.getElem?_take,Array.getElem?_toList,Array.getElem?_toList];by_cases r:j<n*k
   ·have l:j<b.size:=by omega
    simp only[ξ r,putCells,Array.getElem?_mapIdx,Array.getElem?_eq_getElem l,Option.map_some];rw[ξ (by omega),Array.getElem?_eq_getElem (by omega)];simp[getElem!_pos,show j<F.size by omega]
   ·rw[κ r,Array.getElem?_eq_none (by omega)]
theorem q9H{w:World}{base:Nat}{g n:Nat}{cs:List Value}(h:w.ownsRow base e k (.slice (some ⟨g,0,none⟩) n cap) n cs):Holds id w g 0 cs.toArray:=by
 have D:=h.1;rcases h.2 with⟨i,_⟩|⟨J,o,d,i,M,r,F,hm,N,I⟩
 ·cases i
 ·injection i with b _ v
  injection b with b;injection b with b;subst b;subst v;have G:n*k<=cap*k:=Nat.mul_le_mul_right k F;intro j y;have l:j<n*k:=by simpa [D] using y
  refine⟨?_,by simp[World.frozen?,r]⟩;have b:(d.toList.take (n*k))[j]? =cs[j]? :=by rw[I]
  rw[List.getElem?_take,ξ l,Array.getElem?_toList] at b;simp only[World.cell?,r,Nat.zero_add];simp only[Option.isSome_none,Bool.false_eq_true,if_false];rw[b,γ (by omega)];simp[getElem!_pos,show j<cs.length by omega]
instance : Inhabited To:=⟨to0⟩
theorem q9s(T:List To):flatK toc 5 T.toArray=(q4h T).toArray:=by
 have b:(flatK toc 5 T.toArray).size=T.length*5:=by simp[flatK]
 refine ext_get! (by rw[b];simp[q7S]) fun t i=>?_
 rw[b] at i;rw[get_flatK _ _ _ _ (by simpa using i)];have d:=q4s T (t/5) (t % 5) (by omega) (Nat.mod_lt _ (by decide));rw[show t/5*5+t % 5=t by omega] at d;have j:t/5<T.length:=by omega
 rw[show(T.toArray)[t/5]! =T.getD (t/5) to0 by simp[getElem!_pos,j,δ]];rw[show(q4h T).toArray[t]! =((q4h T)[t]?).getD default by simp only[getElem!_def,List.getElem?_toArray];cases (q4h T)[t]? <;>rfl,d];simp only[getElem!_def]
 cases (toc (T.getD (t/5) to0))[t % 5]? <;>rfl
theorem z6F{w:World}{base:Nat}{v:Value}{T:List To}(h:w.ownsRow base 69 5 v T.length (q4h T))(J:T.length<=9223372036854775807):
  Calls Tryz.prog 106 #[v] w fun e w'=>e= .returned (.tuple #[])/\w'.ownsRow base 69 5 v T.length (q4h T.reverse)/\(∀w0,Below w0.heap.size w0 w->w0.heap.size<=base->Below w0.heap.size w0 w')/\
   (∀i,v.ownBlock≠some i->w'.heap[i]? =w.heap[i]?)/\w.heap.size<=w'.heap.size:=by
 rcases h.2 with⟨rfl,y⟩|⟨g,cap,l,rfl,S,U,N,O,Q,R⟩
 ·have D:T=[]:=List.length_eq_zero_iff.1 y
  subst D;refine(AnyQ.slices_Reverse_empty Tryz.reverseTold none 0 w).mono ?_;rintro e w' ⟨rfl,rfl⟩;exact⟨rfl,h,fun _ b _=>b,fun _ _=>rfl,ι _⟩
 ·have j:=AnyQ.slices_Reverse Tryz.reverseTold 5 Tryz.isAgg69 Tryz.sizeOf69 toc (fun _=>rfl) (fun x u M=>z8H [x] u (by simpa [q4h] using M)) g 0 cap T.toArray w (by unfold HoldsK;rw[q9s];exact q9H h) (by simpa using J)
  have o:T.toArray.size=T.length:=by simp
  rw[o] at j;refine j.mono ?_;rintro e w' ⟨rfl,q,rfl⟩;have r:putRowK toc 5 (Sort.ahead w q) g 0 T.toArray.reverse=putRow id (Sort.ahead w q) g 0 (q4h T.reverse).toArray:=by
   unfold putRowK;rw[show T.toArray.reverse=T.reverse.toArray by simp,q9s]
  rw[r];refine⟨rfl,?_,fun w0 b I=>below_putRow b (by omega),fun i G=>?_,?_⟩
  ·have:=z1d (q:=q) (F:=(q4h T.reverse).toArray) h (by simp[q7S])
   simpa using this
  ·have d:g≠i:=fun e=>G (by rw[e];rfl)
   simp[putRow,mapBlock,Sort.ahead,Array.getElem?_modify,d]
  ·simp[Sort.ahead]
def z8i(bs:List Bt)(str:List UInt8)(fr ct:Int):List To:=if q1z str fr ct=0 then(z0N (q5Z bs str) fr ct).reverse else []
section
variable {wb w W W1 W2:World}{g gl gs gx rate:Nat}{m:Man}{ws:List En}{c s sd:Int}{u cnt:Nat}{B:List En}{C:Cks}{P:Pbs}{sure:Int}{K K':Nat->Prop}
theorem z1e(h:StoP wb w g gs gl gx rate m ws sd c s u cnt B C sure P K)(d:List UInt8)(hs:d.length<=4611686018427387903)(fr ct:Int)(g0:fr<=9223372036854775807)(f0:ct<=9223372036854775807)(hl:B.length<=10000)(d0:(q0T (q1l P) d).length<=10000):
  Calls Tryz.prog 54 #[.pointer (some ⟨gs,0,none⟩),.string ⟨d.toArray⟩,.int .i64 fr,.int .i64 ct] w (ToldR wb w g gs gl gx rate m ws sd c s u cnt B C sure P K (z8i (q1l P) d fr ct) (q1z d fr ct)):=by
 have y:=η (z6J h.b d hs fr ct);have HH:=η h;obtain⟨R,F⟩: ∃R,z8i (q1l P) d fr ct=R:=⟨_,rfl⟩
 rw[F];unfold z8i at F;by_cases r:q1z d fr ct=0
 ·have V:0<=fr/\1<=ct:=by
   unfold q1z at r
   split at r
   ·cases r
   ·omega
  rw[ξ r] at F;rw[r] at y⊢;have q1:IntKind.i64.wrap (fr-ct)=fr-ct:=by rw[ν];omega
  have q2:IntKind.i64.wrap (fr-ct+1)=fr-ct+1:=by rw[ν];omega
  have D:=z5s (q1l P) d (f:=fr) (c:=ct) V.1 V.2 (by omega);obtain⟨G,Q⟩: ∃G,z0N (q5Z (q1l P) d) fr ct=G:=⟨_,rfl⟩
  rw[Q] at D F;have e0:G.length<=10000:=by
   rw[<-D];refine Ω (List.length_filter_le _ _) ?_;rw[q2P];exact d0
  have HB:=η (fun W (k:Ext w W)=>q6a (h.grow k) d hs (fr-ct+1) fr hl D);have M:Hd (G.reverse=R):=η F;clear r F h D Q;go_enter Tryz.func54,Tryz.ntmps54;go_wp2_with fail;refine y.o.mono ?_;rintro e w1 ⟨rfl,hx⟩;have O:=η hx;clear hx;go_wp2_with fail;refine(HB.o _ O.o).mono ?_;rintro e w2 ⟨v,rfl,hh,Y,j,U⟩;obtain⟨ra,rc,rfl⟩:=q0H j;have N:=η (z6F j (by omega));have J:=η hh;have c0:=η ((HH.o.kExt O.o).trans Y);have I:=η U;clear hh Y j U HB;go_wp2_with fail;refine N.o.mono ?_;rintro e w3 ⟨rfl,j,S,l,a0⟩;rw[M.o] at j;have X:R.length=G.length:=by rw[<-M.o,List.length_reverse]
  have HF:Hd (ToldR wb w g gs gl gx rate m ws sd c s u cnt B C sure P K R 0 (.returned (.tuple #[.slice ra G.length rc,.int .i64 0])) w3):=η
   ⟨_,rfl,J.o.sideM a0 (S wb J.o.base (ι _)) (fun i hi hn=>l i fun e=>hn (.inr e)) fun i hi=> .inl hi,c0.o.trans fun i hi=>l i (I.o i hi),by rw[X];exact j,I.o⟩
  clear j S l a0 N;go_wp2_with fail;go_ret2;exact HF.o
 ·rw [κ r] at F
  subst F;have b0:q1z d fr ct=2:=by
   unfold q1z at r⊢
   split at r
   ·rename_i h1;rw[ξ h1]
   ·exact absurd rfl r
  rw[b0] at y⊢;clear r b0 h;go_enter Tryz.func54,Tryz.ntmps54;go_wp2_with fail;refine y.o.mono ?_;rintro e w1 ⟨rfl,hx⟩;have O:=η hx;clear hx;go_wp2_with fail;go_ret2;exact ToldR.nil (HH.o.grow O.o) (HH.o.kExt O.o) 2
end
end
section
open Go.RowKit
theorem z3s{C:Cks}{P:Pbs}(h:q0u 0 C=z4X P)(pos:Int):q2L C pos=z4X (P.filter fun y=>decide (pos<=(y.1:Int))):=by
 unfold q2L;rw[h];unfold z4X;rw[List.filter_map]
 rfl
theorem q7K(sd:Int){C:Cks}{P:Pbs}(h:q0u 0 C=z4X P)(b:okBs (q1l P))(pos:Int):z0k sd (q2L C pos)=some (q4F sd (P.filter fun y=>decide (pos<=(y.1:Int)))):=by
 rw[z3s h,z0V sd fun y d=>b.each (List.mem_map.2 ⟨y,(List.mem_filter.1 d).1,rfl⟩)]
theorem q5N{sd:Int}{P:Pbs}{pos:Int}{x:En}:x∈q4F sd (P.filter fun y=>decide (pos<=(y.1:Int)))↔x∈q4F sd P/\pos<=x.2.2:=by
 rw[mem_entsP,mem_entsP]
 constructor
 ·rintro⟨y,d,k,b,rfl⟩
  obtain⟨i,j⟩:=List.mem_filter.1 d;exact⟨⟨y,i,k,b,rfl⟩,by show pos<=(y.1:Int);simpa using j⟩
 ·rintro⟨⟨y,d,k,b,rfl⟩,l⟩
  exact⟨y,List.mem_filter.2 ⟨d,ζ (show pos<=(y.1:Int) from l)⟩,k,b,rfl⟩
theorem z6p{P:Pbs}(h:okBs (q1l P)):P.length<=(tos (q1l P)).length:=by
 induction P using q9K with
 |h0=>exact υ _
 | h1 l a ih=>
  obtain⟨p,b⟩:=a;rw[q4B] at h⊢;obtain⟨h1,d,_⟩:=okBs_snoc.1 h;have i:=(q0t d.1).2.1;have j:=ih h1;have o:0<b.ev.length:=List.length_pos_iff.2 i;rw[q4b,q9N,θ,θ,q3q,List.length_singleton];omega
theorem z7y{C:Cks}{P:Pbs}(j:okC C)(h:q0u 0 C=z4X P):P.Pairwise fun a b=>a.1<b.1:=by
 have i:=q6T C 0 j.size;rw[h] at i;unfold z4X at i;rw[List.pairwise_map] at i;exact i.imp fun {a b} d=>by unfold z6h at d;simp only at d;omega
section
variable {wb w W W1 W2:World}{g gl gs gx rate:Nat}{m:Man}{ws:List En}{c s sd:Int}{u cnt:Nat}{B:List En}{C:Cks}{P:Pbs}{sure:Int}{K K':Nat->Prop}
structure y1n(sd:Int)(m:Man)(B:List En)(C:Cks)(P:Pbs):Prop where
 sdE:m.sd=sd
 recE:q0u 0 C=z4X P
 ok:okBs (q1l P)
 sub: ∀x∈B,x∈q4F sd P
 all: ∀x∈q4F sd P,x∈B\/m.ck<=x.2.2
 ckE:m.ck<=q3W C
theorem z9h(h:DKQ wb w g m c s u cnt B C K)(d:y1n sd m B C P)(a0:0<=sd)(b0:sd<18446744073709551616)(d0:40<=cnt)(hN:(tos (q1l P)).length<=2000)(Y:B.Nodup)(rate:Nat):
  Calls Tryz.prog 33 #[.pointer (some ⟨g,0,none⟩),.int .u64 sd,.float .f64 rate] w fun e w'=>
   ∃gs gl gx j ws B' sure,e= .returned (.tuple #[.pointer (some ⟨gs,0,none⟩),.int .i64 0])/\StoP wb w' g gs gl gx rate j ws sd c s u cnt B' C sure P K/\(j.nx<=m.nx\/j.nx=0)/\Stay K w w':=by
 have Q:okC C:=by obtain⟨_,_,_,_,_,_,_,_,J⟩:=h;exact J
 have O:m.ok:=by obtain⟨st,_,_,_,rfl,_,_,⟨X,_⟩,_⟩:=h;exact X.man
 have f0:=z6p d.ok;have c0:B.length<=2000:=by
  have:=q6P Y (m:=q4F sd P) fun x b=>d.sub x b
  rw[q5t] at this;omega
 have g0:(q0u 0 C).length<=2000:=by rw[d.recE,q7J];omega
 have e0:=(Man.bounds O).2.1;have HO:=η h.lopen;have h0:=h;clear h;go_enter Tryz.func33,Tryz.ntmps33;go_wp2_with fail;refine HO.o.mono ?_;rintro e w1 ⟨gl,rfl,hd,l⟩;have S:=η l;have HR:=η (z9e hd (by omega) (by omega) a0 b0 rate);clear hd l HO;go_wp2_with fail;refine HR.o.mono ?_;rintro e I ⟨⟨gx,j,B2,D,an,rfl,F,hr,hw⟩|⟨rfl,_,v⟩,l⟩
 case inr=>
  exfalso
  rcases v with⟨_,v⟩|v
  ·rw[q7K sd d.recE d.ok] at v;cases v
  ·rw[q7K sd d.recE d.ok] at v;cases v
 rw[q7K sd d.recE d.ok] at hr;obtain rfl:=Option.some.inj hr;have M:j.sd=sd/\(j.nx<=m.nx\/j.nx=0)/\StI sd (q1P (q4F sd (P.filter fun y=>decide (j.ck<=(y.1:Int)))) B2) P/\j.ck<=q3W C/\ ∀x∈q1P (q4F sd (P.filter fun y=>decide (j.ck<=(y.1:Int)))) [],j.ck<=x.2.2:=by
  have r:=z7y Q d.recE;rcases hw with⟨_,rfl,h1,h2,h3,X⟩|⟨_,rfl,rfl,_⟩
  ·refine⟨h1,.inl (Int.le_refl _),⟨d.ok,r,fun x=>?_⟩,h2,fun x b=>?_⟩
   ·rw [mem_addEs,q5N,<-X]
    constructor
    ·rintro(b|b)
     ·exact b.1
     ·exact d.sub x b
    ·intro b
     rcases d.all x b with J|J
     ·exact .inr J
     ·exact .inl ⟨b,J⟩
   ·rw[mem_addEs,q5N] at b
    rcases b with b|b
    ·exact b.2
    ·cases b
  ·refine⟨rfl,.inr rfl,⟨d.ok,r,fun x=>?_⟩,(z8w Q).1,fun x b=>?_⟩
   ·rw [mem_addEs,q5N]
    constructor
    ·rintro(b|b)
     ·exact b.1
     ·cases b
    ·intro b
     obtain⟨y,hy,k,hk,rfl⟩:=mem_entsP.1 b;exact .inl ⟨b,by show(0:Int)<=(y.1:Int);omega⟩
   ·rw[mem_addEs,q5N] at b
    rcases b with b|b
    ·exact b.2
    ·cases b
 obtain⟨f1,f2,f3,V,f5⟩:=M;have G:=q0B I (.cells #[.pointer (some ⟨gl,0,none⟩),.pointer (some ⟨gx,0,none⟩),.int .u64 sd] 131);have N:¬K I.heap.size:=fun e=>by have:=F.klt _ e;omega
 have HF:Hd (StoP wb (I.alloc (.cells #[.pointer (some ⟨gl,0,none⟩),.pointer (some ⟨gx,0,none⟩),.int .u64 sd] 131)) g I.heap.size gl gx rate j _ sd c s u cnt _ C (q3W C) P K):=η
  ⟨F.more G (fun i F=>F.imp id fun e=>by rw[ρ];omega),Blk.new I _ _,f1,d.recE,f3,V,f5,V,⟨N,F.base.size⟩⟩
 have U:Hd (Stay K w (I.alloc (.cells #[.pointer (some ⟨gl,0,none⟩),.pointer (some ⟨gx,0,none⟩),.int .u64 sd] 131))):=η ((S.o.trans l).trans (F.kExt G));have R:=η f2;clear F hr hw l f1 f2 f3 V f5 G N HR;go_wp2_with fail;go_ret2;exact⟨_,gl,gx,j,_,_,_,rfl,HF.o,R.o,U.o⟩
end
theorem q9e : ∀(C:Cks) (b:Nat),(∀ps∈C,ps≠[])->C.length<=(q0u b C).length
 |[],_,_=>ι _
 | ps::t,b,h=>by
  have d:=q9e t (b+4096) fun q hq=>h q (.tail _ hq)
  have i:0<ps.length:=List.length_pos_iff.2 (h ps (.head _));rw[q0u,θ,q4L,χ];omega
theorem z3a{C:Cks}(h:okC C):C.length<=(q0u 0 C).length+1:=by
 rcases List.eq_nil_or_concat C with rfl|⟨D,ps,rfl⟩
 ·exact υ _
 ·rw[List.concat_eq_append] at*
  have d:=q9e D 0 fun b hq=>h.full b (by simpa using hq)
  rw[q2t,θ,θ,List.length_singleton];omega
theorem z6U{bs:List Bt}(h:okBs bs):(tos bs).length<=8*bs.length:=by
 induction bs using q9K with
 |h0=>exact ι _
 | h1 l b ih=>
  obtain⟨h1,d,_⟩:=okBs_snoc.1 h;have i:=(q0t d.1).2.2.2.1;have j:=ih h1;rw[q4b,q9N,θ,q3q,θ,List.length_singleton];omega
def SKS(wb W:World)(g gs rate:Nat)(sd c s:Int)(u n:Nat)(bs:List Bt)(k:Nat)(K:Nat->Prop):Prop:=
 ∃gl gx m ws B C sure P,StoP wb W g gs gl gx rate m ws sd c s u (40+3*n) B C sure P K/\q1l P=bs/\m.nx<=n/\bs.length<=n/\(k<=bs.length/\ ∀y∈P.take k,y2B y<=sure)/\0<=sd/\sd<18446744073709551616
abbrev SK(wb W:World)(g gs rate:Nat)(sd c s:Int)(u n:Nat)(bs:List Bt)(K:Nat->Prop):Prop:=SKS wb W g gs rate sd c s u n bs 0 K
def SQ(wb W:World)(g:Nat)(sd c s:Int)(u n:Nat)(bs:List Bt)(K:Nat->Prop):Prop:=
 ∃m B C P,DKQ wb W g m c s u (40+3*n) B C K/\y1n sd m B C P/\B.Nodup/\q1l P=bs/\m.nx<=n/\bs.length<=n/\0<=sd/\sd<18446744073709551616
section
variable {wb w W W':World}{g gs rate u n:Nat}{sd c s:Int}{bs:List Bt}{k0:Nat}{K K':Nat->Prop}
theorem StoP.bounds{gl gx:Nat}{m:Man}{ws:List En}{cnt:Nat}{B:List En}{C:Cks}{sure:Int}{P:Pbs}(h:StoP wb W g gs gl gx rate m ws sd c s u cnt B C sure P K)(d:q1l P=bs)(v:bs.length<=n):
  (tos bs).length<=8*n/\B.length<=8*n/\C.length<=n+1/\okBs bs:=by
 have b:okBs bs:=d▸h.stE.ok;have o:=z6U b;have j:=h.len;rw[d] at j;have l:=z3a h.i.cOk;rw[h.recE,q7J] at l;have r:bs.length=P.length:=by rw[<-d];exact List.length_map _
 exact⟨by omega,by omega,by omega,b⟩
theorem SKS.ok(h:SKS wb W g gs rate sd c s u n bs k0 K):okBs bs:=by
 obtain⟨gl,gx,m,ws,B,C,sure,P,b,d,_,i,_⟩:=h;exact(b.bounds d i).2.2.2
theorem SKS.few(h:SKS wb W g gs rate sd c s u n bs k0 K):bs.length<=n/\(tos bs).length<=8*n:=by
 obtain⟨gl,gx,m,ws,B,C,sure,P,d,i,_,b,_⟩:=h;exact⟨b,(d.bounds i b).1⟩
theorem SKS.base(h:SKS wb W g gs rate sd c s u n bs k0 K):Ext wb W:=by
 obtain⟨gl,gx,m,ws,B,C,sure,P,b,_⟩:=h;exact b.base
theorem SKS.klt(h:SKS wb W g gs rate sd c s u n bs k0 K): ∀i,K i->i<W.heap.size:=by
 obtain⟨gl,gx,m,ws,B,C,sure,P,b,_⟩:=h;exact b.klt
theorem SKS.grow(h:SKS wb W g gs rate sd c s u n bs k0 K)(k:Ext W W'):SKS wb W' g gs rate sd c s u n bs k0 K:=by
 obtain⟨gl,gx,m,ws,B,C,sure,P,b,d⟩:=h;exact⟨gl,gx,m,ws,B,C,sure,P,b.grow k,d⟩
theorem SKS.kExt(h:SKS wb W g gs rate sd c s u n bs k0 K)(k:Ext W W'):Stay K W W':=fun i b=>k.block i (h.klt i b)
theorem SKS.more(h:SKS wb W g gs rate sd c s u n bs k0 K)(k:Ext W W')(hK: ∀i,K' i->K i\/(W.heap.size<=i/\i<W'.heap.size)):SKS wb W' g gs rate sd c s u n bs k0 K':=by
 obtain⟨gl,gx,m,ws,B,C,sure,P,b,d⟩:=h;exact⟨gl,gx,m,ws,B,C,sure,P,b.more k hK,d⟩
theorem SKS.beside(h:SKS wb W g gs rate sd c s u n bs k0 K)(k: ∀i,K' i->K i):SKS wb W g gs rate sd c s u n bs k0 K':=by
 obtain⟨gl,gx,m,ws,B,C,sure,P,b,d⟩:=h;exact⟨gl,gx,m,ws,B,C,sure,P,b.beside k,d⟩
theorem SKS.sideM(h:SKS wb W g gs rate sd c s u n bs k0 K)(j:W.heap.size<=W'.heap.size)(l:Ext wb W')(k: ∀i,i<W.heap.size->¬K i->W'.heap[i]? =W.heap[i]?)(hK: ∀i,K' i->K i\/(W.heap.size<=i/\i<W'.heap.size)):SKS wb W' g gs rate sd c s u n bs k0 K':=by
 obtain⟨gl,gx,m,ws,B,C,sure,P,b,d⟩:=h;exact⟨gl,gx,m,ws,B,C,sure,P,b.sideM j l k hK,d⟩
theorem SKS.mono(h:SKS wb W g gs rate sd c s u n bs k0 K){u' b:Nat}(v:u<=u')(r:n<=b):SKS wb W g gs rate sd c s u' b bs k0 K:=by
 obtain⟨gl,gx,m,ws,B,C,sure,P,d,i,l,o,j⟩:=h;exact⟨gl,gx,m,ws,B,C,sure,P,d.mono (by omega) (by omega),i,by omega,by omega,j⟩
def y1l(wb w:World)(g gs rate:Nat)(sd c s:Int)(u n:Nat)(bs:List Bt)(k0:Nat)(K:Nat->Prop)(R:List To)(z:Int)(e:Ending)(w':World):Prop:=
 ∃v,e= .returned (.tuple #[v,.int .i64 z])/\SKS wb w' g gs rate sd c s u n bs k0 (fun i=>K i\/v.ownBlock=some i)/\Stay K w w'/\w'.ownsRow wb.heap.size 69 5 v R.length (q4h R)/\ ∀i,K i->v.ownBlock≠some i
theorem SKS.last(h:SKS wb w g gs rate sd c s u n bs k0 K)(G:n<=1000)(b:List UInt8)(r:b.length<=4611686018427387903){x y:Int}(o:z3w bs b=(x,y)):
  Calls Tryz.prog 52 #[.pointer (some ⟨gs,0,none⟩),.string ⟨b.toArray⟩] w fun e w'=>e= .returned (.tuple #[.int .i64 x,.int .i64 y])/\SKS wb w' g gs rate sd c s u n bs k0 K/\Stay K w w':=by
 obtain⟨gl,gx,m,ws,B,C,sure,P,d,rfl,j,i,l⟩:=h;obtain⟨b1,b2,b3,b4⟩:=d.bounds rfl i;have F:=q3O (q1l P) b;refine(z6I d b r (by omega) (by omega) o).mono ?_;rintro e w' ⟨rfl,v,D⟩;exact⟨rfl,⟨gl,gx,m,ws,B,C,sure,P,v,rfl,j,i,l⟩,D⟩
theorem SKS.forward(h:SKS wb w g gs rate sd c s u n bs k0 K)(I:n<=1000)(b:List UInt8)(y:b.length<=4611686018427387903)(fr ct:Int)(d: -9223372036854775808<=fr)(i:fr<=9223372036854775807):
  Calls Tryz.prog 18 #[.pointer (some ⟨gs,0,none⟩),.string ⟨b.toArray⟩,.int .i64 fr,.int .i64 ct] w (y1l wb w g gs rate sd c s u n bs k0 K (q6H bs b fr ct) (q1z b fr ct)):=by
 obtain⟨gl,gx,m,ws,B,C,sure,P,j,rfl,o,l,r⟩:=h;obtain⟨b1,b2,b3,b4⟩:=j.bounds rfl l;have G:=q3O (q1l P) b;refine(z4J j b y fr ct d i (by omega) (by omega)).mono ?_;rintro e w' ⟨v,rfl,D,F⟩;exact⟨v,rfl,⟨gl,gx,m,ws,B,C,sure,P,D,rfl,o,l,r⟩,F⟩
theorem SKS.backward(h:SKS wb w g gs rate sd c s u n bs k0 K)(I:n<=1000)(b:List UInt8)(y:b.length<=4611686018427387903)(fr ct:Int)(i:fr<=9223372036854775807)(d:ct<=9223372036854775807):
  Calls Tryz.prog 54 #[.pointer (some ⟨gs,0,none⟩),.string ⟨b.toArray⟩,.int .i64 fr,.int .i64 ct] w (y1l wb w g gs rate sd c s u n bs k0 K (z8i bs b fr ct) (q1z b fr ct)):=by
 obtain⟨gl,gx,m,ws,B,C,sure,P,j,rfl,o,l,r⟩:=h;obtain⟨b1,b2,b3,b4⟩:=j.bounds rfl l;have G:=q3O (q1l P) b;refine(z1e j b y fr ct i d (by omega) (by omega)).mono ?_;rintro e w' ⟨v,rfl,D,F⟩;exact⟨v,rfl,⟨gl,gx,m,ws,B,C,sure,P,D,rfl,o,l,r⟩,F⟩
theorem SKS.append(h:SKS wb w g gs rate sd c s u n bs k0 K)(V:n<=86)(b:List UInt8)(M:b.length<=4611686018427387903)(ex:Int)(N: ∀W,Ext wb W->Stay K w W->Evs W ao k cap L)(J:q3p L)
  (o: ∀e∈L,e.we<18446744073709551616){z:Int}(O:q9Y bs b ex L=z):
  Calls Tryz.prog 38 #[.pointer (some ⟨gs,0,none⟩),.string ⟨b.toArray⟩,.int .i64 ex,.slice ao k cap] w fun e w'=>
   ∃ x y d,e= .returned (.tuple #[.int .i64 x,.int .i64 y])/\SKS wb w' g gs rate sd c s (u+2024) (n+1) d k0 K/\Stay K w w'/\
    ((z≠0/\x=0/\y=z/\d=bs)\/(z=0/\x=0/\y=60/\d=bs/\c-(u:Int)-2024<6000)\/(z=0/\x=((q0T bs b).length:Int)/\y=0/\d=bs++[⟨b,(q0T bs b).length,L⟩])):=by
 obtain⟨gl,gx,m,ws,B,C,sure,P,F,rfl,S,I,l⟩:=h;obtain⟨b1,b2,b3,b4⟩:=F.bounds rfl I;have R:=q3O (q1l P) b;refine(z6H F b M ex N J o (by omega) (by omega) (by omega)).mono ?_;rw[O];rintro e w' ⟨⟨k0,rfl,j⟩|⟨rfl,rfl,j,Q⟩|⟨rfl,Q,pos,D,B',C',i,rfl,j,v⟩,r⟩
 ·exact⟨_,_,_,rfl,⟨gl,gx,m,ws,B,C,sure,P,j.mono (by omega) (by omega),rfl,by omega,by omega,l⟩,r,.inl ⟨k0,rfl,rfl,rfl⟩⟩
 ·exact⟨_,_,_,rfl,⟨gl,gx,m,ws,B,C,sure,P,j.mono (by omega) (by omega),rfl,by omega,by omega,l⟩,r,.inr (.inl ⟨rfl,rfl,rfl,rfl,by omega⟩)⟩
 ·exact⟨_,_,_,rfl,⟨gl,gx,m,D,B',C',i,_,j.mono (by omega) (by omega),rfl,by omega,by rw[q4B,θ,List.length_singleton];omega,⟨by rw[q4B,θ,List.length_singleton];omega,fun y G=>by
   have U:P.length=(q1l P).length:=(List.length_map _).symm;rw[List.take_append_of_le_length (by omega)] at G
   exact Int.le_trans (l.1.2 y G) v⟩,l.2⟩,r,.inr (.inr ⟨rfl,rfl,rfl,q4B _ _ _⟩)⟩
theorem SQ.open(h:SQ wb w g sd c s u n bs K)(J:n<=200)(rate:Nat):Calls Tryz.prog 33 #[.pointer (some ⟨g,0,none⟩),.int .u64 sd,.float .f64 rate] w fun e w'=>
  ∃gs,e= .returned (.tuple #[.pointer (some ⟨gs,0,none⟩),.int .i64 0])/\SK wb w' g gs rate sd c s u n bs K/\Stay K w w':=by
 obtain⟨m,B,C,P,j,b,l,rfl,G,o,d,i⟩:=h;have I:=z6U b.ok;refine(z9h j b d i (by omega) (by omega) l rate).mono ?_;rintro e w' ⟨gs,gl,gx,F,ws,B',sure,rfl,v,M,D⟩;exact⟨gs,rfl,⟨gl,gx,F,ws,B',C,sure,P,v,rfl,by omega,o,⟨υ _,fun y r=>by cases r⟩,d,i⟩,D⟩
theorem DkK.sq(h:DkK noO wb w g c s [] K)(sd:Int)(d:0<=sd)(i:sd<18446744073709551616):SQ wb w g sd c s 0 0 [] K:=by
 obtain⟨F,σ,r,j⟩:=h;have o:Pl σ c s []:=by have:=j.pl;simpa [q2Q,noO,q2R,q5a,q3H,q3u] using this
 have v:q0c 0 0 []=true:=by decide
 refine⟨⟨0,0,sd,[]⟩,[],[],[],⟨⟨⟨0,0,sd,[]⟩,0,[],fun _=>none,0⟩,σ,fun _=>none,F,rfl,rfl,r,⟨⟨⟨[],o,List.Pairwise.nil,fun _=>rfl,υ _,υ _⟩,⟨v,d,i⟩,(fun n l=>by cases l),(fun n e he=>by cases he),(fun nm l=>absurd rfl l),okM.nil,okM.nil,fun x=>?_⟩,.inr ⟨rfl,rfl,rfl,rfl⟩,⟨⟨fun k _=>by simp,j.sr,j.le⟩,fun n e he=>by cases he⟩⟩,okC.nil⟩,
  ⟨rfl,rfl,okBs.nil,(fun x b=>by cases b),(fun x b=>by cases b),by show(0:Int)<=q3W [];rw[q8f];decide⟩,List.nodup_nil,rfl,Int.le_refl _,ι _,d,i⟩
 constructor
 ·intro b;cases b
 ·rintro(b|⟨n,e,he,_⟩)
  ·cases b
  ·cases he
end
section
variable {wb w W W':World}{g gx gl rate:Nat}{m:Man}{ws:List En}{c s:Int}{u cnt:Nat}{B:List En}{C C':Cks}{sure sd:Int}{K K':Nat->Prop}
end
section
variable {wb w W W':World}{g gx gl rate:Nat}{m:Man}{ws:List En}{c s:Int}{u cnt:Nat}{B:List En}{C C':Cks}{sure sd:Int}{K K' Z:Nat->Prop}
end
theorem DkK.rebase{j wb w:World}{g:Nat}{c s:Int}{C:Cks}{K:Nat->Prop}(h:DkK E wb w g c s C K)(k:Ext j wb):DkK E j w g c s C K:=by
 obtain⟨F,σ,b,l⟩:=h;have r:=k.size;exact⟨F,σ,⟨b.d,fun i o=>by have:=b.bF i o;omega,k.trans b.ext,b.k⟩,l⟩
theorem DkK.base{wb w:World}{g:Nat}{c s:Int}{C:Cks}{K:Nat->Prop}(h:DkK E wb w g c s C K):Ext wb w:=by
 obtain⟨F,σ,b,d⟩:=h;exact b.ext
theorem Blk.rd{w:World}{b:Nat}{cs:Array Value}(h:Blk w b t cs):Rd w (some ⟨b,0,none⟩) cs.toList:=fun j u d=>⟨b,0,rfl,by rw[Nat.zero_add,h.cell j];simpa using d⟩
theorem Blk.evs{w:World}{b:Nat}(h:Blk w b t (q5e L).toArray)(i:k<=L.length)(j:L.length<=1000000):Evs w (some ⟨b,0,none⟩) k L.length (L.take k):=by
 refine⟨by rw[Θ];omega,i,by omega,(fun e=>by cases e),?_⟩;have d:=h.rd.take (k*3);have e:(q5e L).take (k*3)=q5e (L.take k):=by
  conv=>lhs;rw[<-List.take_append_drop k L,q6o]
  exact List.take_left' (by rw[z0y,Θ];omega)
 rw[<-e]
 simpa using d
theorem z6V{w:World}{B:Nat}{n b:Nat}{L:List To}(h:w.ownsRow B e 5 (.slice ao n b) L.length (q4h L)):Tos w ao n b L/\n=L.length:=by
 obtain⟨a,c,d,i⟩:=Tos.of_own (Own.of_row h)
 cases d;exact⟨i,rfl⟩
abbrev evA :Ev:=⟨[97],[],0⟩
abbrev z8L :Ev:=⟨[98],[],0⟩
abbrev st1 :Bt:=⟨[115],0,[evA,z8L]⟩
theorem y2L :q9Y [] [115] (-1) [evA,z8L]=0:=by decide
theorem z3D(h: ∀e∈L,e.ty.length<=300/\e.da.length<=300):q3p L:=fun e he=>by have:=h e he;omega
variable {w :World}{p:Option Addr}
end
section
open Go.RowKit
section
variable {wb w W W1 W2:World}{g gs rate u n:Nat}{sd c s:Int}{bs:List Bt}{K K':Nat->Prop}
end
section
variable {wb w W W':World}{g gs gw rate u n:Nat}{sd c s:Int}{bs:List Bt}{K K':Nat->Prop}
end
end
end Go.Proofs.YtfiibpgoplcgkaaGreatDoor
