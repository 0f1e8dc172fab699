/- Walks. -/
import Derived.Test.YteabhdclmodefaaGreatDoorG35CX
set_option linter.unusedVariables false
set_option linter.unusedSimpArgs false
set_option maxRecDepth 100000
set_option maxHeartbeats 6400000
namespace Go.Proofs.YteabhdclmodefaaGreatDoor
variable {ao:Option Addr}{cap n q:Nat}{x:En}{L:List Ev}
section
open Go.RowKit
section
variable {wb w W W':World}{g gx gl rate:Nat}{m:Man}{ws:List En}{c s:Int}{u cnt:Nat}{B:List En}{C C':Cks}{sure:Int}{K K':Nat->Prop}{st:IxSt}{σ:DM}{φ:Fls}
theorem PInv.cleanL(h:PInv st σ c s φ u cnt B):{σ with L:=σ.L.filter fun f=>!q1g st.m.L.flatten f.nm}=σ:=by
 have h1:=h.noOrph;unfold q1l at h1;rw[List.filter_map,List.map_eq_nil_iff,List.filter_eq_nil_iff] at h1;have h2:(σ.L.filter fun f=>!q1g st.m.L.flatten f.nm)=σ.L:=List.filter_eq_self.2 fun f b=>by
  have:=h1 f b;simp only[Function.comp] at this
  simpa using this
 rw[h2]
theorem IXG.clean(h:IXG wb W g gx gl rate m ws c s u cnt B C sure K)(J:Grid W ao m.L.length cap m.L)(nx ck sd:Int):
  Calls Tryz.prog 115 #[.pointer (some ⟨g,0,none⟩),.agg #[.int .i64 nx,.int .i64 ck,.int .u64 sd,.slice ao m.L.length cap]] W fun e w'=>e= .returned (.int .i64 0)/\IXG wb w' g gx gl rate m ws c s u cnt B C sure K/\Stay K W w':=by
 obtain⟨st,σ,φ,E,rfl,rfl,h3,h4,G,⟨d,j⟩,y,I⟩:=h;have M:=Man.bounds d.man;have v:σ.down=false:=d.fl.up;have b:σ.fail=false:=by obtain⟨l,r,_⟩:=d.fl;exact r.fine
 refine(G.disk (σ1:=σ) (R:=fun e=>e= .returned (.int .i64 0)) fun F N=>?_).mono ?_
 ·have hc:=z4u N v b d.shortN (nx:=nx) (ck:=ck) (sd:=sd) J (by have:=M.2.1;omega)
  rw[d.cleanL] at hc;exact hc
 ·rintro e w' ⟨he,O,D⟩
  exact⟨he,⟨st,σ,φ,E,rfl,rfl,h3,h4,O,⟨d,j⟩,⟨y.1.same fun i o=>D i (.inr o),y.2⟩,I⟩,fun i o=>D i (.inl o)⟩
end
section
variable {wb w W W':World}{g gx gl rate:Nat}{m:Man}{ws:List En}{c s:Int}{u cnt:Nat}{B:List En}{C C':Cks}{sure:Int}{K K':Nat->Prop}{st:IxSt}{σ:DM}{φ:Fls}
theorem DKR.man(h:DKR wb W g gl m c s u cnt B C sure K):m.ok:=by obtain⟨st,σ,φ,j,F,rfl,r,hF,⟨b,i,d⟩,l,o⟩:=h;exact b.man
theorem DKR.klt(h:DKR wb W g gl m c s u cnt B C sure K): ∀i,K i->i<W.heap.size:=by obtain⟨st,σ,φ,l,F,rfl,y,hF,⟨o,d,b⟩,r,v⟩:=h;exact fun i j=>(hF.k i (.inl j)).1
theorem DKR.grow(h:DKR wb W g gl m c s u cnt B C sure K)(k:Ext W W'):DKR wb W' g gl m c s u cnt B C sure K:=by
 obtain⟨st,σ,φ,d,F,rfl,l,hF,i,b,j⟩:=h;exact⟨st,σ,φ,d,F,rfl,l,hF.grow k,i,⟨b.1.ext k,b.2⟩,j⟩
theorem DKR.kExt(h:DKR wb W g gl m c s u cnt B C sure K)(k:Ext W W'):Stay K W W':=fun i b=>k.block i (h.klt i b)
def Man.cut(m:Man):Man:=⟨m.nx,m.ck,m.sd,q0w m.L⟩
theorem Man.cut_S{m:Man}(h:m.ok):m.cut.S=m.S:=by
 show(q3M m.nx m.ck m.sd (q0w m.L)).1=_;rw[z0O h.1];rfl
theorem DKR.cut(h:DKR wb W g gl m c s u cnt B C sure K):DKR wb W g gl m.cut c s u cnt B C sure K:=by
 obtain⟨st,σ,φ,o,F,rfl,E,hF,⟨b,i,d⟩,r,v⟩:=h;have j:st.m.cut.L.flatten=st.m.L.flatten:=q1s _;refine⟨{st with m:=st.m.cut},σ,φ,o,F,rfl,E,hF,⟨⟨b.fl,⟨q4w b.man.1,b.man.2⟩,fun n y=>b.full n (by rw[<-j];exact y),fun n e he=>?_,fun nm l=>?_,b.okw,b.okB,b.mem⟩,?_,d⟩,r,v⟩
 ·show n∈st.m.cut.L.flatten/\_
  rw[j];exact b.tb n e he
 ·show nm=mapN\/(∃n∈st.m.cut.L.flatten,_)\/_
  rw[j];exact b.only nm l
 ·rcases i with⟨h,D⟩|⟨h1,h2,h3,h4⟩
  ·exact .inl ⟨by rw[Man.cut_S b.man];exact h,D⟩
  ·exact .inr ⟨h1,h2,h3,by show q0w st.m.L=[];rw[h4];rfl⟩
theorem DKR.load(h:DKR wb W g gl m c s u cnt B C sure K):Calls Tryz.prog 160 #[.pointer (some ⟨g,0,none⟩)] W fun e w'=>
  ((∃ao cap,e= .returned (.tuple #[.agg #[.int .i64 m.nx,.int .i64 m.ck,.int .u64 m.sd,.slice ao (q0w m.L).length cap],.int .i64 0])/\Grid w' ao (q0w m.L).length cap (q0w m.L)/\0<m.nx)\/
   (∃ao cap,e= .returned (.tuple #[.agg #[.int .i64 0,.int .i64 0,.int .u64 0,.slice ao 0 cap],.int .i64 4])/\m.nx=0/\m.ck=0/\m.L=[]))/\
  DKR wb w' g gl m c s u cnt B C sure K/\Stay K W w':=by
 obtain⟨st,σ,φ,U,F,rfl,hw,hF,⟨b,y,v⟩,I,V⟩:=h;obtain⟨l,j,Y,o,b0,a0⟩:=b.fl
 cases hf:q0I FM.nm mapN σ.L with
 | none=>
  have G:φ mapN=none:=by rw[<-o,j.find,hf];rfl
  rcases y with⟨h,Q⟩|⟨h1,h2,h3,h4⟩
  ·rw[G] at h;cases h
  ·refine(z5k hF.d (by unfold q1h;rw[κ (by rw[j.up];decide),hf])).mono ?_
   rintro e w' ⟨a,J,rfl,X,N⟩;obtain⟨R,E⟩:=hF.disk N;exact⟨.inr ⟨a,J,rfl,h2,h3,h4⟩,⟨st,σ,φ,U,_,rfl,hw,R,⟨b,.inr ⟨h1,h2,h3,h4⟩,v⟩,⟨I.1.same fun i r=>E i (.inr r),I.2⟩,V⟩,fun i r=>E i (.inl r)⟩
 | some f=>
  have G:φ mapN=some f.da:=by rw[<-o,j.find,hf];rfl
  rcases y with⟨h,Q⟩|⟨h1,h2,h3,h4⟩
  ·have O:f.da=st.m.S:=by rw[G] at h;injection h
   have D:q3F f.da=⟨st.m.nx,st.m.ck,st.m.sd,q0w st.m.L,0⟩:=by
    rw[O];show q3F (q3M st.m.nx st.m.ck st.m.sd st.m.L).1=_;rw[q8P b.man.1];exact z7x b.man.1 b.man.2.1 b.man.2.2
   refine(z5l hF.d hf j.up).mono ?_;rw[D];rintro e w' ⟨a,J,rfl,X,N⟩;obtain⟨R,E⟩:=hF.disk N;have M:PInv st (q2X σ) c s φ u cnt B:=⟨Fl.tells 1 b.fl,b.man,b.full,b.tb,b.only,b.okw,b.okB,b.mem⟩
   exact⟨.inl ⟨a,J,rfl,X,Q⟩,⟨st,q2X σ,φ,U,_,rfl,hw,R,⟨M,.inl ⟨h,Q⟩,v⟩,⟨I.1.same fun i r=>E i (.inr r),I.2⟩,V⟩,fun i r=>E i (.inl r)⟩
  ·rw[G] at h1;cases h1
end
section
variable {wb w W W':World}{g gx gl:Nat}{m:Man}{ws:List En}{c s:Int}{u cnt:Nat}{B:List En}{C C':Cks}{sure:Int}{K K':Nat->Prop}{st:IxSt}{σ:DM}{φ:Fls}
theorem DKR.ends(h:DKR wb W g gl m c s u cnt B C sure K):Calls Tryz.prog 111 #[.pointer (some ⟨gl,0,none⟩)] W fun e w'=>e= .returned (.int .i64 (q4t C))/\Ext W w':=by
 obtain⟨st,σ,φ,d,F,h1,l,hF,i,b,j⟩:=h;exact(z9K b.1 b.2).mono fun e w' ⟨h,k⟩=>⟨h,k▸Ext.refl _⟩
def LyR(wb W:World)(g gl:Nat)(rate:Nat)(m:Man)(c s:Int)(u cnt:Nat)(B:List En)(C:Cks)(sure:Int)(K:Nat->Prop)(sd:Int)(e:Ending)(w':World):Prop:=
 ((∃gx B2,e= .returned (.tuple #[.pointer (some ⟨gx,0,none⟩),.int .i64 0])/\IXG wb w' g gx gl rate m.cut [] c s u cnt B2 C sure K/\(∀x,x∈B↔x∈B2)/\m.sd=sd/\m.ck<=q4t C/\0<m.nx)\/
  (∃n:Int,e= .returned (.tuple #[.pointer none,.int .i64 n])/\(n=4\/n=90)/\DKR wb w' g gl m c s u cnt B C sure K/\((m.nx=0/\m.ck=0/\m.L=[])\/m.sd≠sd\/q4t C<m.ck)))/\Stay K W w'
theorem z9Z(h:DKR wb w g gl m c s u cnt B C sure K)(d0:m.L.flatten.length<=cnt)(sd:Int)(rate:Nat):
  Calls Tryz.prog 112 #[.pointer (some ⟨g,0,none⟩),.pointer (some ⟨gl,0,none⟩),.int .u64 sd,.float .f64 rate] w (LyR wb w g gl rate m c s u cnt B C sure K sd):=by
 have J:=η h.load;clear h;go_enter Tryz.func112,Tryz.ntmps112;go_wp2_with fail;refine J.o.mono ?_;rintro e w1 ⟨hl,G,N⟩;clear J;have HD:=η G;have HS:=η N;rcases hl with⟨ao,D,rfl,hg,M⟩|⟨ao,D,rfl,z⟩
 ·have HG:=η hg
  have V:=q0B w1 (.cells #[.int .i64 m.nx,.int .i64 m.ck,.int .u64 m.sd,.slice ao (q0w m.L).length D] 182);have hb:=Blk.new w1 182 #[.int .i64 m.nx,.int .i64 m.ck,.int .u64 m.sd,.slice ao (q0w m.L).length D];have b:=η (G.grow V);have r:=η (N.trans (G.kExt V));have X:=η (hg.ext V);have j:=η hb;clear G N hg V hb;go_wp2_with fail;generalize w1.alloc (.cells #[.int .i64 m.nx,.int .i64 m.ck,.int .u64 m.sd,.slice ao (q0w m.L).length D] 182)=w2 at*;generalize w1.heap.size=q at*;have Q:w2.cell? ⟨q,0,none⟩=some (.int .i64 m.nx):=j.o.cell 0;have R:w2.cell? ⟨q,1,none⟩=some (.int .i64 m.ck):=j.o.cell 1;have S:w2.cell? ⟨q,2,none⟩=some (.int .u64 m.sd):=j.o.cell 2;have U:w2.cell? ⟨q,3,none⟩=some (.slice ao (q0w m.L).length D):=j.o.cell 3;have u0:=q0C Q;have u1:=q0C R;have u2:=q0C S;have u3:=q0C U;have HE:=η (fun W (k:Ext w2 W)=>(b.o.grow k).ends);by_cases E:m.sd=sd
  ·subst E
   by_cases d:q4t C<m.ck
   ·have e0:decide (q4t C<m.ck)=true:=ζ d
    refine q0D (by kernel_rfl) (by kernel_rfl) ?_
    repeat (go_big_quiet_step (fail))
    go_big_quiet_step (exact Calls.quiet_ext (HE.o _ (ExtOf.h _)))
    repeat (go_big_quiet_step (fail))
    refine wpQuiet_nil ?_;intro I i;have l:=η (b.o.grow i);have v:=η (r.o.trans (b.o.kExt i));have F:=η d;clear i d Q R S U u0 u1 u2 u3;go_wp2_with fail;go_ret2;exact⟨.inr ⟨90,rfl,.inr rfl,l.o,.inr (.inr F.o)⟩,v.o⟩
   ·have e0:decide (q4t C<m.ck)=false:=ε d
    refine q0D (by kernel_rfl) (by kernel_rfl) ?_
    repeat (go_big_quiet_step (fail))
    go_big_quiet_step (exact Calls.quiet_ext (HE.o _ (ExtOf.h _)))
    repeat (go_big_quiet_step (fail))
    refine wpQuiet_nil ?_;intro I i;have l:=η (b.o.grow i);have v:=η (r.o.trans (b.o.kExt i));have Y:=η (X.o.ext i);have HO:=η (l.o.cut.iopen (ao:=ao) (cap:=D) Y.o (by show(q0w m.L).flatten.length<=cnt;rw[q1s];exact d0) rate);have y:=j.o.ext i;have g0:I.cell? ⟨q,0,none⟩=some (.int .i64 m.nx):=y.cell 0;have h0:I.cell? ⟨q,1,none⟩=some (.int .i64 m.ck):=y.cell 1;have i0:I.cell? ⟨q,2,none⟩=some (.int .u64 m.sd):=y.cell 2;have j0:I.cell? ⟨q,3,none⟩=some (.slice ao (q0w m.L).length D):=y.cell 3;have F:=η d;clear i d Q R S U u0 u1 u2 u3 y;go_wp2_with fail;refine HO.o.mono ?_;rintro e w4 ⟨gx,B2,rfl,hi,hm,O⟩;have HI:=η hi;have HM:=η hm;have b0:=η (v.o.trans O);clear hi hm O HO;go_wp2_with fail;go_ret2;exact⟨.inl ⟨gx,B2,rfl,HI.o,HM.o,rfl,by have:=F.o;omega,M⟩,b0.o⟩
  ·have f0:(m.sd !=sd)=true:=by simpa using E
   have a0:=η E;refine q0D (by kernel_rfl) (by kernel_rfl) ?_
   repeat (go_big_quiet_step (fail))
   (try rw[f0])
   repeat (go_big_quiet_step (fail))
   refine wpQuiet_nil ?_;intro I i;have l:=η (b.o.grow i);have v:=η (r.o.trans (b.o.kExt i));clear i E Q R S U u0 u1 u2 u3;go_wp2_with fail;go_ret2;exact⟨.inr ⟨90,rfl,.inr rfl,l.o,.inr (.inl a0.o)⟩,v.o⟩
 ·have b:=η (G.grow (q0B w1 (.cells #[.int .i64 0,.int .i64 0,.int .u64 0,.slice ao 0 D] 182)))
  have r:=η (N.trans (G.kExt (q0B w1 (.cells #[.int .i64 0,.int .i64 0,.int .u64 0,.slice ao 0 D] 182))));have HZ:=η z;clear G N z;go_wp2_with fail;go_ret2;exact⟨.inr ⟨4,rfl,.inl rfl,b.o,.inl HZ.o⟩,r.o⟩
end
theorem z0o(p:List UInt8×List UInt8->Bool)(l:List (List UInt8×List UInt8)):q2Y (l.filter p)<=q2Y l:=by
 induction l with
 |nil=>exact ι _
 | cons x l ih=>
  have h1: ∀t,q2Y (x::t)=q2Y [x]+q2Y t:=fun t=>by rw[<-q1M];rfl
  cases hp:p x with
  |true=>rw[List.filter_cons_of_pos hp,h1,h1 l];omega
  |false=>rw[List.filter_cons_of_neg (by simp[hp]),h1];omega
theorem z5W(q:List UInt8->Bool)(l:List (List UInt8×List UInt8))(nm:List UInt8):q0I Prod.fst nm (l.filter fun y=>q y.1)=if q nm=true then q0I Prod.fst nm l else none:=by
 induction l with
 |nil=>unfold q0I;simp
 | cons x l ih=>
  unfold q0I at ih⊢
  cases hq:q x.1 with
  | true=>
   rw[List.filter_cons,ξ hq,List.find?_cons,List.find?_cons,ih];by_cases b:(x.1==nm)=true
   ·rw[b]
    have:x.1=nm:=by simpa using b
    rw[this] at hq;simp[hq]
   ·rw[Bool.not_eq_true] at b
    rw[b]
  | false=>
   rw[List.filter_cons,κ (by simp[hq]),List.find?_cons,ih];by_cases b:(x.1==nm)=true
   ·have:x.1=nm:=by simpa using b
    rw[this] at hq;simp[hq]
   ·rw[Bool.not_eq_true] at b
    rw[b]
theorem Fl.filt{σ:DM}{c s:Int}{φ:Fls}{u cnt:Nat}(h:Fl σ c s φ u cnt)(q:List UInt8->Bool):Fl {σ with L:=σ.L.filter fun f=>q f.nm} c s (fun nm=>if q nm=true then φ nm else none) u cnt:=by
 obtain⟨l,b,d,i,j,o⟩:=h;refine⟨l.filter fun y=>q y.1,⟨b.up,b.fine,?_,b.cap,b.st⟩,d.filter _,fun nm=>?_,Ω (z0o _ _) j,Ω (List.length_filter_le _ _) o⟩
 ·rw[<-b.files,List.filter_map];rfl
 ·rw[z5W]
  cases hq:q nm with
  |true=>simp only[hq,if_true];exact i nm
  |false=>simp[hq]
def y0J(φ:Fls):Prop:=φ mapN=none/\ ∀nm,φ nm≠none->(∃l n,(l=116\/l=98)/\(0<=n/\n<=999999)/\nm=q0E l n)\/ ∃k:Nat,k<=999999/\nm=q0E 99 (k:Int)
def DKO(wb W:World)(g gl:Nat)(c s:Int)(u cnt:Nat)(C:Cks)(sure:Int)(K:Nat->Prop):Prop:=
 ∃σ φ gv F,DkF wb W g F σ (fun i=>K i\/q7z gl gv i)/\(Fl σ c s φ u cnt/\y0J φ/\q8i φ C)/\(LogM W gl g s gv (q0N C) sure/\okC C)/\(∀i,q7z gl gv i->¬K i/\wb.heap.size<=i)
def IXO(wb W:World)(g gx gl:Nat)(rate:Nat)(sd:Int)(c s:Int)(u cnt:Nat)(C:Cks)(sure:Int)(K:Nat->Prop):Prop:=
 (0<=sd/\sd<18446744073709551616)/\ ∃t σ φ gv,(∀n,t n=none)/\IxK wb W g gx ⟨⟨0,0,sd,[]⟩,rate,[],t,0⟩ σ (fun i=>K i\/q7z gl gv i)/\(Fl σ c s φ u cnt/\y0J φ/\q8i φ C)/\(LogM W gl g s gv (q0N C) sure/\okC C)/\(∀i,q7z gl gv i->¬K i/\wb.heap.size<=i)
section
variable {wb w W W':World}{g gx gl rate:Nat}{m:Man}{ws:List En}{c s:Int}{u cnt:Nat}{B:List En}{C C':Cks}{sure:Int}{K K':Nat->Prop}{st:IxSt}{σ:DM}{φ:Fls}
theorem DKR.gone(h:DKR wb W g gl m c s u cnt B C sure K):Calls Tryz.prog 107 #[.pointer (some ⟨g,0,none⟩),.string ⟨mapN.toArray⟩] W fun e w'=>
  (e= .returned (.int .i64 0)\/e= .returned (.int .i64 4))/\DKO wb w' g gl c s u cnt C sure K/\Stay K W w':=by
 obtain⟨st,σ,φ,M,F,rfl,Y,hF,⟨r,U,v⟩,D,N⟩:=h;have j: ∀nm,nm≠mapN->φ nm≠none->(∃l n,(l=116\/l=98)/\(0<=n/\n<=999999)/\nm=q0E l n)\/ ∃k:Nat,k<=999999/\nm=q0E 99 (k:Int):=fun nm J b=>by
  rcases r.only nm b with e|⟨n,b,e⟩|e
  ·exact absurd e J
  ·have:=r.range b
   rcases e with e|e
   ·exact .inl ⟨116,n,.inl rfl,⟨this.1,this.2.1⟩,e⟩
   ·exact .inl ⟨98,n,.inr rfl,⟨this.1,this.2.1⟩,e⟩
  ·exact .inr e
 refine(z2X hF.d mapN (by decide)).mono ?_;rintro e w' ⟨rfl,V⟩;obtain⟨E,G⟩:=hF.disk V
 cases h0:φ mapN with
 | none=>
  have y:q1a σ mapN=(4,σ):=by
   obtain⟨l,Q,X,R,_⟩:=r.fl;exact Q.deleteN (Fl.noFind R h0)
  rw[y] at E⊢;exact⟨.inr rfl,⟨σ,φ,M,_,E,⟨r.fl,⟨h0,fun nm b=>j nm (fun e=>b (by rw[e];exact h0)) b⟩,v⟩,⟨D.1.same fun i o=>G i (.inr o),D.2⟩,N⟩,fun i o=>G i (.inl o)⟩
 | some t=>
  obtain⟨σ',S,I⟩:=r.fl.del h0;rw[S] at E⊢;refine⟨.inl rfl,⟨σ',z9D φ mapN,M,_,E,⟨I,⟨by unfold z9D;rw[ξ rfl],fun nm b=>?_⟩,fun k O=>?_⟩,⟨D.1.same fun i o=>G i (.inr o),D.2⟩,N⟩,fun i o=>G i (.inl o)⟩
  ·unfold z9D at b
   by_cases he:nm=mapN
   ·rw[ξ he] at b;exact absurd rfl b
   ·rw[κ he] at b;exact j nm he b
  ·unfold z9D
   rw[κ (q3b O).1];exact v k O
theorem DKO.iopen(h:DKO wb W g gl c s u cnt C sure K)(sd:Int)(d:0<=sd)(j:sd<18446744073709551616)(rate:Nat):
  Calls Tryz.prog 113 #[.pointer (some ⟨g,0,none⟩),.agg #[.int .i64 0,.int .i64 0,.int .u64 sd,.slice none 0 0],.float .f64 rate] W fun e w'=>
   ∃gx,e= .returned (.tuple #[.pointer (some ⟨gx,0,none⟩),.int .i64 0])/\IXO wb w' g gx gl rate sd c s u cnt C sure K/\Stay K W w':=by
 obtain⟨σ,φ,y,F,hF,o,r,D⟩:=h;refine(z5f (m:=⟨0,0,sd,[]⟩) hF (ao:=none) (cap:=0) (Grid.empty W) (υ _) (fun x I=>by cases I) d j rate).mono ?_;have G:q0e 0 0 []=true:=by decide
 rintro e w' (⟨b,_⟩|⟨_,b,_⟩|⟨_,_,b,_⟩|⟨_,_,_,gx,t,rfl,b,v,J⟩)
 ·rw[show q0e (⟨0,0,sd,[]⟩:Man).nx (⟨0,0,sd,[]⟩:Man).ck (⟨0,0,sd,[]⟩:Man).L=true from G] at b;cases b
 ·rw[o.1.up] at b;cases b
 ·exact absurd rfl b
 ·have E: ∀n,t n=none:=fun n=>by
   have:=J n
   cases hn:t n with
   |none=>rfl
   |some e=>rw[hn] at this;cases this
  exact⟨gx,rfl,⟨⟨d,j⟩,t,σ,φ,y,E,b,o,⟨r.1.same fun i l=>v i (.inr l),r.2⟩,D⟩,fun i l=>v i (.inl l)⟩
end
section
variable {wb w W W':World}{g gx gl rate:Nat}{m:Man}{ws:List En}{c s:Int}{u cnt:Nat}{B:List En}{C C':Cks}{sure sd:Int}{K K':Nat->Prop}{st:IxSt}{σ:DM}{φ:Fls}
theorem z5y{l:UInt8}(b:l=116\/l=98){n:Int}(j:0<=n/\n<=999999):q1g [] (q0E l n)=true:=by
 have d:q2B l=true:=by rcases b with rfl|rfl<;>decide
 have i:=q2G d j;unfold q1g;rw[i];rcases b with rfl|rfl<;>simp
theorem IXO.tells(h:IXO wb W g gx gl rate sd c s u cnt C sure K):Calls Tryz.prog 114 #[.pointer (some ⟨gx,0,none⟩)] W fun e w'=>
  ∃v b,e= .returned (.agg #[.int .i64 0,.int .i64 0,.int .u64 sd,v])/\OGr w' W.heap.size 73 3 v b []/\Ext W w':=by
 obtain⟨D,t,σ,φ,l,E,⟨F,d,j,Y,q⟩,o,r,y⟩:=h;exact q7F q.i.x
theorem IXO.grow(h:IXO wb W g gx gl rate sd c s u cnt C sure K)(k:Ext W W'):IXO wb W' g gx gl rate sd c s u cnt C sure K:=by
 obtain⟨l,t,σ,φ,d,o,r,i,b,j⟩:=h;exact⟨l,t,σ,φ,d,o,r.grow k,i,⟨b.1.ext k,b.2⟩,j⟩
theorem IXO.kExt(h:IXO wb W g gx gl rate sd c s u cnt C sure K)(k:Ext W W'):Stay K W W':=by
 obtain⟨v,t,σ,φ,j,y,d,l,o,r⟩:=h;exact fun i b=>d.kExt k i (.inl b)
theorem IXO.clean(h:IXO wb W g gx gl rate sd c s u cnt C sure K)(hG:Grid W ao 0 cap []):
  Calls Tryz.prog 115 #[.pointer (some ⟨g,0,none⟩),.agg #[.int .i64 0,.int .i64 0,.int .u64 sd,.slice ao 0 cap]] W fun e w'=>e= .returned (.int .i64 0)/\IXG wb w' g gx gl rate ⟨0,0,sd,[]⟩ [] c s u cnt [] C sure K/\Stay K W w':=by
 obtain⟨⟨N,O⟩,t,σ,φ,gv,X,h5,⟨b,⟨J,D⟩,E⟩,V,h8⟩:=h;have S:σ.down=false:=b.up;have o:σ.fail=false:=by obtain⟨l,M,_⟩:=b;exact M.fine
 have Q: ∀x∈q1l σ,x.length<=9223372036854775807:=fun x r=>by
  have U:φ x≠none:=by
   obtain⟨l,h1,_,h2,_⟩:=b;rw[h1.names] at r;rw[<-h2 x];obtain⟨y,hy,rfl⟩:=List.mem_map.1 r;intro j
   cases hf:q0I Prod.fst y.1 l with
   |some z=>rw[hf] at j;cases j
   |none=>exact q2F hf y hy rfl
  rcases D x U with⟨l,n,_,j,rfl⟩|⟨k,I,rfl⟩
  ·rw[q0Y j,χ,q0f];decide
  ·rw[q0Y (by omega),χ,q0f];decide
 refine(h5.disk (σ1:={σ with L:=σ.L.filter fun f=>!q1g [] f.nm}) (R:=fun e=>e= .returned (.int .i64 0)) fun F hd=>z4u hd S o Q (nx:=0) (ck:=0) (sd:=sd) hG (by simp)).mono ?_;rintro e w' ⟨he,k1,Y⟩;have hv:q0e 0 0 []=true:=by decide
 have v:=b.filt (fun nm=>!q1g [] nm);refine⟨he,⟨_,_,_,gv,rfl,rfl,rfl,υ _,k1,⟨⟨v,⟨hv,N,O⟩,(fun n j=>by cases j),(fun n e he=>by simp only at he;rw[X n] at he;cases he),fun nm d=>?_,okM.nil,okM.nil,fun x=>?_⟩,.inr ⟨?_,rfl,rfl,rfl⟩,fun k I=>?_⟩,⟨V.1.same fun i G=>Y i (.inr G),V.2⟩,h8⟩,fun i G=>Y i (.inl G)⟩
 ·by_cases hq:(!q1g [] nm)=true
  ·simp only[hq,if_true] at d
   rcases D nm d with⟨l,n,hl,j,rfl⟩|e
   ·rw[z5y hl j] at hq;cases hq
   ·exact .inr (.inr e)
  ·simp only[hq] at d
   exact absurd rfl d
 ·constructor
  ·intro r;cases r
  ·rintro(r|⟨n,e,he,_⟩)
   ·cases r
   ·simp only at he;rw[X n] at he;cases he
 ·simp only[z2y];exact J
 ·simp only[q8S I];exact E k I
end
section
variable {wb w W W':World}{g gx gl:Nat}{m:Man}{ws:List En}{c s:Int}{u cnt:Nat}{B:List En}{C C':Cks}{sure sd:Int}{K K':Nat->Prop}{st:IxSt}{σ:DM}{φ:Fls}
theorem z2l(C:Cks)(pos:Int):(q1y C pos).length<=(q1B 0 C).length:=List.length_filter_le _ _
theorem z7t{B i:List En}(h:okM i)(k: ∀x,x∈B↔x∈i):i.length<=B.length:=
 q6b (h.sort.imp fun {a b} d e=>by subst e;rw[q0a] at d;cases d) fun x j=>(k x).2 j
theorem IXO.more{rate:Nat}(h:IXO wb W g gx gl rate sd c s u cnt C sure K)(k:Ext W W')(hK: ∀i,K' i->K i\/(W.heap.size<=i/\i<W'.heap.size)):IXO wb W' g gx gl rate sd c s u cnt C sure K':=by
 obtain⟨D,t,σ,φ,o,E,r,v,j,l⟩:=h;refine⟨D,t,σ,φ,o,E,r.more k (fun i b=>?_),v,⟨j.1.ext k,j.2⟩,fun i b=>⟨fun y=>?_,(l i b).2⟩⟩
 ·rcases b with b|b
  ·exact(hK i b).imp .inl id
  ·exact .inl (.inr b)
 ·rcases hK i y with d|⟨d,_⟩
  ·exact(l i b).1 d
  ·have:=j.1.lt b;omega
def y2E(wb W:World)(g gl:Nat)(rate:Nat)(m:Man)(c s:Int)(u cnt:Nat)(B:List En)(C:Cks)(sure:Int)(K:Nat->Prop)(sd:Int)(e:Ending)(w':World):Prop:=
 ((∃ gx m' B2 D an,e= .returned (.tuple #[.pointer (some ⟨gx,0,none⟩),.bool an,.int .i64 0])/\IXG wb w' g gx gl rate m' (q1T D []) c s u cnt (q1T D B2) C sure K/\z0u sd (q1y C m'.ck)=some D/\
   ((an=false/\m'=m.cut/\m.sd=sd/\m.ck<=q4t C/\0<m.nx/\ ∀x,x∈B↔x∈B2)\/(an=true/\m'=⟨0,0,sd,[]⟩/\B2=[]/\((m.nx=0/\m.ck=0/\m.L=[])\/m.sd≠sd\/q4t C<m.ck))))\/
  (e= .returned (.tuple #[.pointer none,.bool false,.int .i64 63])/\Ext wb w'/\((m.sd=sd/\z0u sd (q1y C m.ck)=none)\/z0u sd (q1y C 0)=none)))/\Stay K W w'
theorem z9o(h:DKR wb w g gl m c s u cnt B C sure K)(o0:m.L.flatten.length<=cnt)(hB:B.length+8*(q1B 0 C).length<=40000)(p0:0<=sd)(q0:sd<18446744073709551616)(rate:Nat):
  Calls Tryz.prog 70 #[.pointer (some ⟨g,0,none⟩),.pointer (some ⟨gl,0,none⟩),.int .u64 sd,.float .f64 rate] w (y2E wb w g gl rate m c s u cnt B C sure K sd):=by
 have f0:=h.man;have hb:=Man.bounds f0;have d0:=η (z9Z h o0 sd rate);have a0:=η hB;have r0: ∀(W:World) (x y z t:Value),(Instr.field 182 (.agg #[x,y,z,t]) 2).run Tryz.prog W= .ok z W:=fun _ _ _ _ _=>rfl
 clear h hB;go_enter Tryz.func70,Tryz.ntmps70;go_wp2_with fail;refine d0.o.mono ?_;rintro e w1 ⟨hl,h0⟩;have HS:=η h0;clear h0 d0;rcases hl with⟨gx,B2,rfl,b,hm,X,n0,g0⟩|⟨n,rfl,hn,hd,O⟩
 ·have HM:=η hm
  have c0:=η (z7t b.okB.1 hm);obtain⟨M,hM⟩: ∃M,m.cut=M:=⟨_,rfl⟩
  have l0:=η hM;have S:Hd (M.ck=m.ck):=η (by rw[<-hM];rfl);have e0:Hd (M.sd=sd):=η (by rw[<-hM,<-X];rfl);have j0:Hd (0<=M.ck):=η (by rw[S.o];omega);have k0:Hd (M.ck<=9223372036854775807):=η (by rw[S.o];omega);rw[hM] at b;have J:=η b;clear b hm hM;have HT:=η J.o.tells;go_wp2_with fail;refine HT.o.mono ?_;rintro e I ⟨v,vs,rfl,ho,N⟩;obtain⟨ao,Y,rfl,hg⟩:=ho.grid;have hq:=q0B I (.cells #[.int .i64 M.nx,.int .i64 M.ck,.int .u64 M.sd,.slice ao M.L.length Y] 182);have j:=Blk.new I 182 #[.int .i64 M.nx,.int .i64 M.ck,.int .u64 M.sd,.slice ao M.L.length Y];have i0:=η ((J.o.grow N).more (K':=fun i=>K i\/i=I.heap.size) hq (fun i b=>b.imp id fun e=>⟨by omega,by rw[e];exact j.lt⟩));have U:=η (HS.o.trans (J.o.kExt (N.trans hq)));have HC:=η (((J.o.grow N).more (K':=fun i=>K i\/i=I.heap.size) hq (fun i b=>b.imp id fun e=>⟨by omega,by rw[e];exact j.lt⟩)).clean (hg.ext hq) M.nx M.ck M.sd);have Q:=η j;clear ho N hg hq j HT;go_wp2_with fail;refine HC.o.mono ?_;rintro e w3 ⟨rfl,b,d⟩;have E:=η (U.o.trans (fun i b=>d i (.inl b)));have F:=Q.o.same (d _ (.inr rfl));have c1:w3.cell? ⟨I.heap.size,1,none⟩=some (.int .i64 M.ck):=F.cell 1;have HR:=η (z3G b M.ck j0.o k0.o (by have h1:=z2l C M.ck;have h2:=a0.o;have h3:=c0.o;omega));clear b d F HC;go_wp2_with fail;refine HR.o.mono ?_;rintro e w4 ⟨D,b,d,(⟨G,rfl⟩|⟨G,rfl⟩)⟩
  ·have R:=η (b.beside (K':=K) fun i b=> .inl b)
   have r:=η (E.o.trans (fun i b=>d i (.inl b)));have l:=η G;clear b d G;go_wp2_with fail;go_ret3;exact⟨.inl ⟨gx,_,_,D,_,rfl,R.o,by rw[<-e0.o];exact l.o,.inl ⟨rfl,l0.o.symm,X,n0,g0,HM.o⟩⟩,r.o⟩
  ·have V:=η b.base
   have r:=η (E.o.trans (fun i b=>d i (.inl b)));have l:=η G;clear b d G;go_wp2_with fail;go_ret3;exact⟨.inr ⟨rfl,V.o,.inl ⟨X,by rw[<-S.o,<-e0.o];exact l.o⟩⟩,r.o⟩
 ·have HD:=η hd;have HW:=η O
  have b0:=η hd.gone;clear hd O;rcases hn with rfl|rfl
  all_goals
   go_wp2_with fail;refine b0.o.mono ?_;rintro e w5 ⟨he,hd,d⟩;have HO:=η (hd.iopen sd p0 q0 rate);have m0:=η (HS.o.trans d);clear hd d;rcases he with rfl|rfl
   all_goals
    go_wp2_with fail;refine HO.o.mono ?_;rintro e w6 ⟨gx,rfl,b,d⟩;have J:=η b;have HS:=η (m0.o.trans d);clear b d HO b0;have HT:=η J.o.tells;go_wp2_with fail;refine HT.o.mono ?_;rintro e I ⟨v,vs,rfl,ho,N⟩;obtain⟨ao,Y,rfl,hg⟩:=ho.grid;have hq:=q0B I (.cells #[.int .i64 0,.int .i64 0,.int .u64 sd,.slice ao 0 Y] 182);have j:=Blk.new I 182 #[.int .i64 0,.int .i64 0,.int .u64 sd,.slice ao 0 Y];have i0:=η ((J.o.grow N).more (K':=fun i=>K i\/i=I.heap.size) hq (fun i b=>b.imp id fun e=>⟨by omega,by rw[e];exact j.lt⟩));have U:=η (HS.o.trans (J.o.kExt (N.trans hq)));have HC:=η (((J.o.grow N).more (K':=fun i=>K i\/i=I.heap.size) hq (fun i b=>b.imp id fun e=>⟨by omega,by rw[e];exact j.lt⟩)).clean (ao:=ao) (cap:=Y) (hg.ext hq));have Q:=η j;clear ho N hg hq j HT;go_wp2_with fail;refine HC.o.mono ?_;rintro e w3 ⟨rfl,b,d⟩;have E:=η (U.o.trans (fun i b=>d i (.inl b)));have F:=Q.o.same (d _ (.inr rfl));have c1:w3.cell? ⟨I.heap.size,1,none⟩=some (.int .i64 0):=F.cell 1;have HR:=η (z3G b 0 (by decide) (by decide) (by have h1:=z2l C 0;have h2:=a0.o;rw[List.length_nil];omega));clear b d F HC;go_wp2_with fail;refine HR.o.mono ?_;rintro e w4 ⟨D,b,d,(⟨G,rfl⟩|⟨G,rfl⟩)⟩
    ·have R:=η (b.beside (K':=K) fun i b=> .inl b)
     have r:=η (E.o.trans (fun i b=>d i (.inl b)));have l:=η G;clear b d G;go_wp2_with fail;go_ret3;exact⟨.inl ⟨gx,_,_,D,_,rfl,R.o,l.o,.inr ⟨rfl,rfl,rfl,HW.o⟩⟩,r.o⟩
    ·have V:=η b.base
     have r:=η (E.o.trans (fun i b=>d i (.inl b)));have l:=η G;clear b d G;go_wp2_with fail;go_ret3;exact⟨.inr ⟨rfl,V.o,.inr l.o⟩,r.o⟩
end
def DKQ(wb W:World)(g:Nat)(m:Man)(c s:Int)(u cnt:Nat)(B:List En)(C:Cks)(K:Nat->Prop):Prop:=
 ∃st σ φ F,st.m=m/\st.w=[]/\DkF wb W g F σ K/\(PInv st σ c s φ u cnt B/\z0w φ m/\q8i φ C)/\okC C
section
variable {wb w W W':World}{g gl gs gx rate:Nat}{m:Man}{ws:List En}{c s sd:Int}{u cnt:Nat}{B:List En}{C:Cks}{P:Pbs}{sure:Int}{K K':Nat->Prop}
theorem DKQ.lopen(h:DKQ wb w g m c s u cnt B C K):Calls Tryz.prog 69 #[.pointer (some ⟨g,0,none⟩)] w fun e w'=> ∃gl,e= .returned (.tuple #[.pointer (some ⟨gl,0,none⟩),.int .i64 0])/\DKR wb w' g gl m c s u cnt B C (q4t C) K/\Stay K w w':=by
 obtain⟨st,σ,φ,F,h1,h2,h3,⟨h4,o,y⟩,O⟩:=h;obtain⟨E,M,N,V,X⟩:=q7b h4 y O;refine(y1C (E:=E) (C:=C) (c:=c-(q2Q E:Int)) (s:=s) (K:=K) (w0:=wb) ⟨F,σ,h3,M⟩).mono ?_;rintro e w' ⟨gl,rfl,_,⟨J,v,σ',b,I⟩,G⟩;obtain⟨r,R,S,U⟩:=h4.relog N I b.d.okD (u':=u) (cnt':=cnt) (by omega) (by omega);have hm:r mapN=φ mapN:=U mapN fun k D e=>(q3b D).1 e.symm
 refine⟨gl,rfl,⟨st,σ',r,v,J,h1,h2,⟨b.d,b.bF,b.ext,fun i j=>?_⟩,⟨R,by unfold z0w;rw[hm];exact o,S⟩,⟨b.l,I.ok⟩,fun i j=>⟨fun D=>(b.k i D).2.2 j,b.bG i j⟩⟩,G⟩;rcases j with j|j
 ·exact⟨(b.k i j).1,(b.k i j).2.1⟩
 ·exact⟨b.l.lt j,fun Q=>b.ap i Q j⟩
structure StoP(wb W:World)(g gs gl gx rate:Nat)(m:Man)(ws:List En)(sd c s:Int)(u cnt:Nat)(B:List En)(C:Cks)(sure:Int)(P:Pbs)(K:Nat->Prop):Prop where
 i:IXG wb W g gx gl rate m ws c s u cnt B C sure (fun i=>K i\/i=gs)
 b:Blk W gs 116 #[.pointer (some ⟨gl,0,none⟩),.pointer (some ⟨gx,0,none⟩),.int .u64 sd]
 sdE:m.sd=sd
 recE:q1B 0 C=q9T P
 stE:StI sd B P
 ckE:m.ck<=q4t C
 wsE: ∀x∈ws,m.ck<=x.2.2
 k:¬K gs/\wb.heap.size<=gs
theorem StoP.grow(h:StoP wb W g gs gl gx rate m ws sd c s u cnt B C sure P K)(k:Ext W W'):StoP wb W' g gs gl gx rate m ws sd c s u cnt B C sure P K:=
 ⟨h.i.grow k,h.b.ext k,h.sdE,h.recE,h.stE,h.ckE,h.wsE,h.k⟩
theorem StoP.base(h:StoP wb W g gs gl gx rate m ws sd c s u cnt B C sure P K):Ext wb W:=h.i.base
theorem StoP.kExt(h:StoP wb W g gs gl gx rate m ws sd c s u cnt B C sure P K)(k:Ext W W'):Stay K W W':=fun i b=>h.i.kExt k i (.inl b)
theorem StoP.klt(h:StoP wb W g gs gl gx rate m ws sd c s u cnt B C sure P K): ∀i,K i->i<W.heap.size:=fun i b=>h.i.klt i (.inl b)
theorem StoP.more(h:StoP wb W g gs gl gx rate m ws sd c s u cnt B C sure P K)(k:Ext W W')(hK: ∀i,K' i->K i\/(W.heap.size<=i/\i<W'.heap.size)):StoP wb W' g gs gl gx rate m ws sd c s u cnt B C sure P K':=
 ⟨h.i.more k fun i d=>by
  rcases d with d|d
  ·exact(hK i d).imp .inl id
  ·exact .inl (.inr d),h.b.ext k,h.sdE,h.recE,h.stE,h.ckE,h.wsE,fun j=>by
  rcases hK gs j with h1|h1
  ·exact h.k.1 h1
  ·have:=h.b.lt;omega,h.k.2⟩
theorem StoP.beside(h:StoP wb W g gs gl gx rate m ws sd c s u cnt B C sure P K)(k: ∀i,K' i->K i):StoP wb W g gs gl gx rate m ws sd c s u cnt B C sure P K':=
 ⟨h.i.beside fun i d=>d.imp (k i) id,h.b,h.sdE,h.recE,h.stE,h.ckE,h.wsE,fun j=>h.k.1 (k gs j),h.k.2⟩
theorem StoP.sideM(h:StoP wb W g gs gl gx rate m ws sd c s u cnt B C sure P K)(o:W.heap.size<=W'.heap.size)(r:Ext wb W')(k: ∀i,i<W.heap.size->¬K i->W'.heap[i]? =W.heap[i]?)(hK: ∀i,K' i->K i\/(W.heap.size<=i/\i<W'.heap.size)):
  StoP wb W' g gs gl gx rate m ws sd c s u cnt B C sure P K':=
 ⟨h.i.sideM o r (fun i d l=>k i d fun e=>l (.inl e)) fun i d=>by
  rcases d with d|d
  ·exact(hK i d).imp .inl id
  ·exact .inl (.inr d),h.b.same (k gs h.b.lt h.k.1),h.sdE,h.recE,h.stE,h.ckE,h.wsE,fun j=>by
  rcases hK gs j with h1|h1
  ·exact h.k.1 h1
  ·have:=h.b.lt;omega,h.k.2⟩
theorem StoP.mono(h:StoP wb W g gs gl gx rate m ws sd c s u cnt B C sure P K){u' cnt':Nat}(d:u<=u')(hc:cnt<=cnt'):StoP wb W g gs gl gx rate m ws sd c s u' cnt' B C sure P K:=
 ⟨h.i.mono d hc,h.b,h.sdE,h.recE,h.stE,h.ckE,h.wsE,h.k⟩
theorem StoP.stay(h:StoP wb W g gs gl gx rate m ws sd c s u cnt B C sure P K){d:Int}{j:Nat->Prop}(o:IXG wb W' g gx gl rate m ws c s u cnt B C d (fun i=>j i\/i=gs))(v:Stay (fun i=>K i\/i=gs) W W')(r: ∀i,j i->K i\/W.heap.size<=i):StoP wb W' g gs gl gx rate m ws sd c s u cnt B C d P j:=
 ⟨o,h.b.same (v gs (.inr rfl)),h.sdE,h.recE,h.stE,h.ckE,h.wsE,fun l=>by
  rcases r gs l with h1|h1
  ·exact h.k.1 h1
  ·have:=h.b.lt;omega,h.k.2⟩
theorem StoP.cells(h:StoP wb W g gs gl gx rate m ws sd c s u cnt B C sure P K):W.cell? ⟨gs,0,none⟩=some (.pointer (some ⟨gl,0,none⟩))/\W.cell? ⟨gs,1,none⟩=some (.pointer (some ⟨gx,0,none⟩))/\W.cell? ⟨gs,2,none⟩=some (.int .u64 sd):=⟨h.b.cell 0,h.b.cell 1,h.b.cell 2⟩
theorem StoP.okB(h:StoP wb W g gs gl gx rate m ws sd c s u cnt B C sure P K):okM B:=h.i.okB.1
theorem StoP.len(h:StoP wb W g gs gl gx rate m ws sd c s u cnt B C sure P K):B.length<=(tos (q1t P)).length:=h.stE.len h.okB.sort
theorem q7V(P:Pbs):(q9T P).length=P.length:=List.length_map _
theorem StoP.posLt(h:StoP wb W g gs gl gx rate m ws sd c s u cnt B C sure P K){y:Nat×Bt}(b:y∈P):(y.1,btB y.2)∈q1B 0 C:=by rw[h.recE];exact List.mem_map.2 ⟨y,b,rfl⟩
end
section
variable {wb w W W':World}{g gl gs gx rate:Nat}{m:Man}{ws:List En}{c s sd:Int}{u cnt:Nat}{B:List En}{C:Cks}{P:Pbs}{sure:Int}{K K':Nat->Prop}
theorem StoP.poke(h:StoP wb W g gs gl gx rate m ws sd c s u cnt B C sure P K)(hq:K q)(b:wb.heap.size<=q)(j:Nat)(v:Value):StoP wb (W.setCell ⟨q,j,none⟩ v) g gs gl gx rate m ws sd c s u cnt B C sure P K:=
 h.sideM (by rw[World.size_setCell];exact ι _) (Below.setCell h.base b _) (fun i d l=>q0L _ _ fun e=>l (e▸hq)) fun i d=> .inl d
theorem Stay.poke{K:Nat->Prop}{w W:World}(h:Stay K w W)(hq:¬K q)(j:Nat)(v:Value):Stay K w (W.setCell ⟨q,j,none⟩ v):=fun i b=>(q0L _ _ fun e=>hq (by rw[<-e];exact b)).trans (h i b)
def z2k(r:Option To):Value:=match r with
 |some t=> .tuple #[toV t,.bool true,.int .i64 0]
 |none=> .tuple #[toV to0,.bool false,.int .i64 0]
theorem z9L{e:Ev}(h:z4c e):(evB e).length<=228:=by
 obtain⟨_,h3,h4⟩:=q2E h.1;unfold evB;rw[q1X (by omega),q1X (by omega)];simp[q0F];omega
theorem z2f : ∀{L:List Ev},(∀e∈L,z4c e)->((L.map evB).flatten).length<=228*L.length
 |[],_=>ι _
 | e::L,h=>by
  have h1:=z9L (h e (.head _));have h2:=z2f (L:=L) fun x b=>h x (.tail _ b)
  rw[List.map_cons,List.flatten_cons,θ,χ];omega
theorem z2N{b:Bt}(h:z4H b):(btB b).length<=2000:=by
 obtain⟨i,j,l,o,r,v,d⟩:=q0x h.1;have h1:=z2f (L:=b.ev) fun e he=>⟨q6X d e he,h.2 e he⟩
 unfold btB;rw[q1X (by omega),θ,θ,θ,θ,q0F,q0F,q0F];omega
theorem StoP.ent(h:StoP wb W g gs gl gx rate m ws sd c s u cnt B C sure P K)(r:x∈B)(d:List UInt8):
  ∃ (b:Bt) (k pos:Nat),z4H b/\q5c C (pos:Int)=(btB b,0)/\pos<=819200/\k<b.ev.length/\x=(q2U sd b.st,(b.fi:Int)+(k:Int),(pos:Int))/\
   q2M P d x=if b.st=d then some ⟨d,((b.fi+k:Nat):Int),b.ev.getD k ev0⟩ else none:=by
 obtain⟨y,j,k,l,rfl⟩:=mem_entsP.1 ((h.stE.ents x).1 r);have o:=h.posLt j;exact⟨y.2,k,y.1,h.stE.ok.each (List.mem_map.2 ⟨y,j,rfl⟩),z6K h.i.cOk o,z3D h.i.cOk o,l,rfl,q5W h.stE.pos j l d⟩
theorem y1z{W:World}{t:TypeId}{a b c d e:Value}(h:Blk W q t #[a,b,c,d,e])(i j l o:Value):
  (W.cell? ⟨q,0,none⟩=some a/\W.cell? ⟨q,1,none⟩=some b/\W.cell? ⟨q,2,none⟩=some c/\W.cell? ⟨q,3,none⟩=some d/\W.cell? ⟨q,4,none⟩=some e)/\
  (W.frozen? ⟨q,0,none⟩=false/\W.frozen? ⟨q,1,none⟩=false/\W.frozen? ⟨q,2,none⟩=false/\W.frozen? ⟨q,3,none⟩=false/\W.frozen? ⟨q,4,none⟩=false)/\
  (((W.setCell ⟨q,0,none⟩ i).setCell ⟨q,1,none⟩ j).frozen? ⟨q,2,none⟩=false/\((W.setCell ⟨q,0,none⟩ i).setCell ⟨q,1,none⟩ j).cell? ⟨q,2,none⟩=some c)/\
  ((((W.setCell ⟨q,0,none⟩ i).setCell ⟨q,1,none⟩ j).setCell ⟨q,2,none⟩ l).frozen? ⟨q,3,none⟩=false/\(((W.setCell ⟨q,0,none⟩ i).setCell ⟨q,1,none⟩ j).setCell ⟨q,2,none⟩ l).cell? ⟨q,3,none⟩=some d)/\
  (((((W.setCell ⟨q,0,none⟩ i).setCell ⟨q,1,none⟩ j).setCell ⟨q,2,none⟩ l).setCell ⟨q,3,none⟩ o).frozen? ⟨q,4,none⟩=false/\((((W.setCell ⟨q,0,none⟩ i).setCell ⟨q,1,none⟩ j).setCell ⟨q,2,none⟩ l).setCell ⟨q,3,none⟩ o).cell? ⟨q,4,none⟩=some e):=by
 have h2:=(h.set 0 i).set 1 j;have h3:=h2.set 2 l;have h4:=h3.set 3 o;exact⟨⟨h.cell 0,h.cell 1,h.cell 2,h.cell 3,h.cell 4⟩,⟨h.free 0,h.free 1,h.free 2,h.free 3,h.free 4⟩,⟨h2.free 2,h2.cell 2⟩,⟨h3.free 3,h3.cell 3⟩,⟨h4.free 4,h4.cell 4⟩⟩
theorem z9M(h:StoP wb w g gs gl gx rate m ws sd c s u cnt B C sure P K)(V:x∈B)(J:List UInt8)(hs:J.length<=4611686018427387903):
  Calls Tryz.prog 170 #[.pointer (some ⟨gs,0,none⟩),enV x,.string ⟨J.toArray⟩] w fun e w'=>e= .returned (z2k (q2M P J x))/\StoP wb w' g gs gl gx rate m ws sd c s u cnt B C sure P K/\Stay K w w':=by
 obtain⟨b,k,pos,hb,g0,A0,hk,rfl,hf⟩:=h.ent V J;have e0:=z1Q b hb;have x0:=z2N hb;obtain⟨q1,q2,q3,q4,q5,q6,q7⟩:=q0x hb.1;rw[hf];show Calls _ _ #[_,.agg #[.int .u64 (q2U sd b.st),.int .i64 ((b.fi:Int)+(k:Int)),.int .i64 (pos:Int)],_] _ _;generalize q2U sd b.st=xh;obtain⟨p,hp⟩: ∃p,btB b=p:=⟨_,rfl⟩
 rw[hp] at g0 e0 x0;have HG:=η (fun W=>z4k p W (by omega));rw[e0] at HG;have h0:=q0B w (.cells #[.int .u64 xh,.int .i64 ((b.fi:Int)+(k:Int)),.int .i64 (pos:Int)] 145);have O:=q0B (w.alloc (.cells #[.int .u64 xh,.int .i64 ((b.fi:Int)+(k:Int)),.int .i64 (pos:Int)] 145)) (.cells #[.string ⟨#[]⟩,.int .i64 0,.string ⟨#[]⟩,.string ⟨#[]⟩,.float .f64 0] 68);have G:=(Blk.new w 145 #[.int .u64 xh,.int .i64 ((b.fi:Int)+(k:Int)),.int .i64 (pos:Int)]).ext O;have X:=Blk.new (w.alloc (.cells #[.int .u64 xh,.int .i64 ((b.fi:Int)+(k:Int)),.int .i64 (pos:Int)] 145)) 68 #[.string ⟨#[]⟩,.int .i64 0,.string ⟨#[]⟩,.string ⟨#[]⟩,.float .f64 0];rw[ρ] at X;have w0:=h.base.size;have H0:=h.more (K':=fun i=>K i\/i=w.heap.size\/i=w.heap.size+1) (h0.trans O) fun i r=>r.imp id fun e=>by
  rw[ρ,ρ];omega
 have p0:=h.kExt (h0.trans O);have r0:¬K (w.heap.size+1):=fun e=>by have:=h.klt _ e;omega
 have HR:=η (fun W k=>(H0.grow (W':=W) k).i.read (pos:Int) (by omega) (by omega) g0);have k0:=G.cell 0;have k1:=G.cell 1;have k2:=G.cell 2;obtain⟨s0,s1,s2⟩:=H0.cells;have HH:=η H0;have n0:=η p0;have i0:=η G;have l0:=η X;have F:=η r0;have E:Hd (wb.heap.size<=w.heap.size+1):=η (by omega);clear h V hf hb e0 h0 O H0 p0 G X r0 w0 g0;go_enter Tryz.func170,Tryz.ntmps170;go_wp2_with fail;have d0:=q0A (Ext.refl _).drew s0;have d2:=q0A (Ext.refl _).drew k2
 go_region_held3 (fun W=>W.cell? ⟨gs,0,none⟩=some (.pointer (some ⟨gl,0,none⟩))/\W.cell? ⟨w.heap.size,2,none⟩=some (.int .i64 (pos:Int)))
  (first|exact m0.o|exact⟨d0,d2⟩)
  (first|(go_at_call 226;refine(HR.o _ (Ext.refl _).drew).mono ?_;rintro e w3 ⟨rfl,r,I⟩;have M:=η ((HH.o.grow (Ext.refl _).drew).stay r I fun i r=> .inl r);have o0:=η (n0.o.trans fun i r=>I i (.inl (.inl r)));have D:=η ((i0.o.ext (Ext.refl _).drew).same (I _ (.inl (.inr (.inl rfl)))));have Q:=η ((l0.o.ext (Ext.refl _).drew).same (I _ (.inl (.inr (.inr rfl)))));have m0:=η (And.intro M.o.cells.1 (D.o.cell 2));clear r I))
 clear m0 d0 d2;clear HR HH n0 i0 l0 k0 k1 k2 s0 s1 s2;generalize w.heap.size=q at*;go_wp2_with fail;refine(HG.o _).mono ?_;rintro e w4 ⟨⟨y,rfl,hy⟩,V⟩;obtain⟨x,rfl,d⟩:=hy;obtain⟨ao,cp,rfl,j⟩:=Evs.of_own d;have q0:=j.fits;have B0:=j.bound;obtain⟨st,fi,ev⟩:=b;simp only at hk q1 q2 q3 q4 q5 q6 j q0 d⊢;obtain⟨n,hn⟩: ∃n,ev.length=n:=⟨_,rfl⟩
 rw[hn] at hk q4 q6 j q0 d⊢;have l:=q0B w4 (.cells #[.string ⟨st.toArray⟩,.int .i64 (fi:Int),.slice ao n cp] 119);have N:=Blk.new w4 119 #[.string ⟨st.toArray⟩,.int .i64 (fi:Int),.slice ao n cp];have u0:=η (M.o.grow (V.trans l));have v0:=η (o0.o.trans fun i r=>M.o.kExt (V.trans l) i (.inl r));have j0:=η (D.o.ext (V.trans l));have R:=η (Q.o.ext (V.trans l));have S:=j.ext l;have k1:=j0.o.cell 1;have b0:=N.cell 0;have b1:=N.cell 1;have b2:=N.cell 2;have qi:IntKind.i64.wrap ((fi:Int)+(k:Int)-(fi:Int))=(k:Int):=by rw[ν];omega
 have C0:decide ((k:Int)<0)=false:=ε (by omega);have D0:decide ((n:Int)<=(k:Int))=false:=ε (by omega);have F0:(k:Int)<(n:Int):=by omega
 have E0:0<=(k:Int):=by omega
 have G0:=q1j;obtain⟨bb,off,rfl,c0,c1,c2⟩:=S.at hk;obtain⟨ee,Y⟩: ∃ee,ev.getD k ev0=ee:=⟨_,rfl⟩
 rw[Y] at c0 c1 c2;obtain⟨ty,da,we⟩:=ee;have t0:Hd (∀h:k<ev.length,ev[k]=⟨ty,da,we⟩):=η fun h=>by rw[<-Y,δ,γ h];rfl
 simp only at c0 c1 c2⊢;have U: ∀(W:World),W=w4.alloc (.cells #[.string ⟨st.toArray⟩,.int .i64 (fi:Int),.slice (some ⟨bb,off,none⟩) n cp] 119)-> ∀a0 a1 a2 a3 a4:Value,
   StoP wb (((((W.setCell ⟨q+1,0,none⟩ a0).setCell ⟨q+1,1,none⟩ a1).setCell ⟨q+1,2,none⟩ a2).setCell ⟨q+1,3,none⟩ a3).setCell ⟨q+1,4,none⟩ a4) g gs gl gx rate m ws sd c s u cnt B C sure P K/\
    Stay K w (((((W.setCell ⟨q+1,0,none⟩ a0).setCell ⟨q+1,1,none⟩ a1).setCell ⟨q+1,2,none⟩ a2).setCell ⟨q+1,3,none⟩ a3).setCell ⟨q+1,4,none⟩ a4):=fun W hW a0 a1 a2 a3 a4=>by
  subst hW;have e: ∀i:Nat,(fun i=>K i\/i=q\/i=q+1) (q+1):=fun _=> .inr (.inr rfl)
  exact⟨(((((u0.o.poke (e 0) E.o 0 a0).poke (e 0) E.o 1 a1).poke (e 0) E.o 2 a2).poke (e 0) E.o 3 a3).poke (e 0) E.o 4 a4).beside fun i r=> .inl r,
   ((((v0.o.poke F.o 0 a0).poke F.o 1 a1).poke F.o 2 a2).poke F.o 3 a3).poke F.o 4 a4⟩
 have HF:=η U;clear Y V l d j S N U HG o0 M D Q q7;by_cases y0:st=J
 ·subst y0
  obtain⟨⟨z0,z1,z2,z3,z4⟩,⟨f0,f1,f2,f3,f4⟩,⟨g2,d2⟩,⟨g3,d3⟩,⟨g4,d4⟩⟩:=y1z R.o (.string ⟨st.toArray⟩) (.int .i64 ((fi:Int)+(k:Int))) (.string ⟨ty.toArray⟩) (.string ⟨da.toArray⟩);go_wp2_with fail;refine q5j 9 (by kernel_rfl) (by kernel_rfl) ?_;simp only[List.take_succ_cons,List.take_zero,List.drop_succ_cons,List.drop_zero]
  repeat still_step
  refine wpStill_nil ?_;go_wp2_with fail
  ((try simp only[Exit.inBlock,Exit.then]);refine bodyPost_ret (v:= .tuple #[.agg #[.string ⟨st.toArray⟩,.int .i64 ((fi:Int)+(k:Int)),.string ⟨ty.toArray⟩,.string ⟨da.toArray⟩,.float .f64 we],.bool true,.int .i64 0]) (by rw[q0J rfl];go_simp) rfl ?_)
  obtain⟨r1,r2⟩:=HF.o _ rfl (.string ⟨st.toArray⟩) (.int .i64 ((fi:Int)+(k:Int))) (.string ⟨ty.toArray⟩) (.string ⟨da.toArray⟩) (.float .f64 we);exact⟨by rw[t0.o];rfl,r1.grow (Ext.refl _).drew,r2⟩
 ·obtain⟨⟨z0,z1,z2,z3,z4⟩,⟨f0,f1,f2,f3,f4⟩,⟨g2,d2⟩,⟨g3,d3⟩,⟨g4,d4⟩⟩:=y1z R.o (.string ⟨#[]⟩) (.int .i64 0) (.string ⟨#[]⟩) (.string ⟨#[]⟩)
  go_wp2_with fail
  ((try simp only[Exit.inBlock,Exit.then]);refine bodyPost_ret (v:= .tuple #[.agg #[.string ⟨#[]⟩,.int .i64 0,.string ⟨#[]⟩,.string ⟨#[]⟩,.float .f64 0],.bool false,.int .i64 0]) (by rw[q0J rfl];go_simp) rfl ?_)
  exact⟨rfl,HF.o _ rfl _ _ _ _ _⟩
end
section
variable {wb w W W1 W2:World}{g gl gs gx rate:Nat}{m:Man}{ws:List En}{c s sd:Int}{u cnt:Nat}{B:List En}{C:Cks}{P:Pbs}{sure:Int}{K K':Nat->Prop}
theorem StoP.row1{O I base:Nat}{vq j:Value}{R D:List Value}{l:Obj}{J:TypeId}(h:StoP wb W g gs gl gx rate m ws sd c s u cnt B C sure P (fun i=>K i\/vq.ownBlock=some i))(S:wb.heap.size<=base)(hq:W.ownsRow base J I vq n R)
  (h2:W2.ownsRow base J I j O D)(o:(W.alloc l).grownBy W2 vq.ownBlock)(E:j.ownBlock=vq.ownBlock\/j.ownBlock=some (W.alloc l).heap.size)(G: ∀i,K i->vq.ownBlock≠some i):
  StoP wb W2 g gs gl gx rate m ws sd c s u cnt B C sure P (fun i=>K i\/j.ownBlock=some i)/\Stay K W W2/\ ∀i,K i->j.ownBlock≠some i:=by
 have Q:=o.size;rw[ρ] at Q;have v: ∀i,vq.ownBlock=some i->base<=i/\i<W.heap.size:=q0U hq;have F: ∀i,i<W.heap.size->vq.ownBlock≠some i->W2.heap[i]? =W.heap[i]? :=fun i b r=>(o.block i (by rw[ρ];omega) fun e=>r e.symm).trans ((q0B W l).block i b)
 have d:=h.base;have y:Ext wb W2:=Below.grown (d.alloc l) o (by rw[ρ];have:=d.size;omega) fun k M=>by have:=(v k M).1;omega
 refine⟨h.sideM (by omega) y (fun i b r=>F i b fun e=>r (.inr e)) fun i b=>?_,fun i b=>F i (h.klt i (.inl b)) (G i b),fun i b e=>?_⟩
 ·rcases b with b|b
  ·exact .inl (.inl b)
  ·rcases E with k|k
   ·exact .inl (.inr (k.symm.trans b))
   ·have N:=(q0U h2 i b).2
    rw[k,ρ] at b
    cases b
    right;omega
 ·rcases E with k|k
  ·exact G i b (k.symm.trans e)
  ·rw[k,ρ] at e
   cases e;have:=h.klt _ (.inl b);omega
theorem z4j(h :StoP wb w g gs gl gx rate m ws sd c s u cnt B C sure P K)(d:List UInt8)(hs:d.length<=4611686018427387903)(fr tt:Int)(hl:B.length<=10000){R:List To}
  (hR:(z6p (q1t P) d).filter (fun t=>decide (max fr 0<=t.v/\t.v<=min tt 1073741824))=R):
  Calls Tryz.prog 118 #[.pointer (some ⟨gs,0,none⟩),.string ⟨d.toArray⟩,.int .i64 fr,.int .i64 tt] w fun e w'=>
   ∃v,e= .returned (.tuple #[v,.int .i64 0])/\StoP wb w' g gs gl gx rate m ws sd c s u cnt B C sure P (fun i=>K i\/v.ownBlock=some i)/\Stay K w w'/\w'.ownsRow wb.heap.size 68 5 v R.length (q4g R)/\ ∀i,K i->v.ownBlock≠some i:=by
 have E0:=h.stE.between h.okB.sort d (max fr 0) (min tt 1073741824);rw[hR] at E0;have P0:(q0r B (q2U sd d) (max fr 0) (min tt 1073741824)).length<=10000:=Ω (List.length_filter_le _ _) hl;have h0: ∀x∈q0r B (q2U sd d) (max fr 0) (min tt 1073741824),x∈B:=fun x hx=>(mem_range.1 hx).1
 have v0:=η (fun W=>z2o sd d W hs);have y0:=η (fun W (k:Ext w W)=>(h.grow (W':=W) k).i.range (q2U sd d) fr tt hl);obtain⟨s0,s1,s2⟩:=h.cells;have HH:=η h;have T0:=h.base.size;have O0: ∀x∈q0r B (q2U sd d) (max fr 0) (min tt 1073741824),x∈B:=h0;generalize q0r B (q2U sd d) (max fr 0) (min tt 1073741824)=L at*;generalize q2U sd d=hh at*;have d1:=q0A (Ext.refl _).drew s1;have d2:=q0A (Ext.refl _).drew s2;clear h hR s0 s1 s2;go_enter Tryz.func118,Tryz.ntmps118;go_wp2_with fail
 go_region_held3 (fun W=>W.cell? ⟨gs,1,none⟩=some (.pointer (some ⟨gx,0,none⟩))/\W.cell? ⟨gs,2,none⟩=some (.int .u64 sd))
  (first|exact u0.o|exact⟨d1,d2⟩)
  (first
   |(go_at_call 75;refine(v0.o _).mono ?_;rintro e wa ⟨rfl,rfl⟩)
   |(go_at_call 169;refine(y0.o _ (Ext.refl _).drew).mono ?_;rintro e w3 ⟨v,rfl,j,F,l⟩;have e0:=η l;have w0:=η j;have j0:=η F;have u0:=η (And.intro (((HH.o.grow (Ext.refl _).drew).b.same (F _ (.inr rfl))).cell 1) (((HH.o.grow (Ext.refl _).drew).b.same (F _ (.inr rfl))).cell 2));clear j F l))
 all_goals
  clear u0 d1 d2 v0 y0;have l:=e0.o;obtain⟨ao,U,rfl⟩:=q0G l
  have I0:Hd (StoP wb w3 g gs gl gx rate m ws sd c s u cnt B C sure P (fun i=>(K i\/(Value.slice ao L.length U).ownBlock=some i)\/(Value.slice none 0 0).ownBlock=some i)):=η ((HH.o.grow (Ext.refl _).drew).stay (w0.o.beside fun i j=>by
   rcases j with((j|j)|j)|j
   ·exact .inl (.inl j)
   ·exact .inr j
   ·cases j
   ·exact .inl (.inr j)) j0.o fun i j=>by
   rcases j with(j|j)|j
   ·exact .inl j
   ·exact .inr (q0U l i j).1
   ·cases j)
  have A0:Hd (Stay K w w3):=η fun i j=>j0.o i (.inl j)
  have Q0:Hd (∀i,K i->(Value.slice ao L.length U).ownBlock≠some i):=η fun i j e=>by
   have h1:=HH.o.klt i j;have h2:w.heap.size<=i:=(q0U l i e).1;omega
  have M0:=l;have x0:Hd (L.length<=U/\U<=9223372036854775807):=η (by obtain⟨_,_,h1,h2⟩:=Ens.of_own (Own.of_row l);cases h1;exact⟨h2.fits,h2.bound⟩);have b1:=x0.o.1;have b2:=x0.o.2;clear l M0 w0 j0;go_wp2_with fail
  go_loopw [12,39] (fun o i W=> ∃(k:Nat) (v:Value),k<=L.length/\o=v/\i= .int .i64 (k:Int)/\W.ownsRow wb.heap.size 68 5 v ((L.take k).filterMap (q2M P d)).length (q4g ((L.take k).filterMap (q2M P d)))/\
   StoP wb W g gs gl gx rate m ws sd c s u cnt B C sure P (fun i=>(K i\/(Value.slice ao L.length U).ownBlock=some i)\/v.ownBlock=some i)/\Stay K w W/\W.ownsRow w.heap.size 145 3 (.slice ao L.length U) L.length (ecs L)/\ ∀i,(K i\/(Value.slice ao L.length U).ownBlock=some i)->v.ownBlock≠some i) (fun _ i _=>L.length-(intOf i).toNat)
  case atStart=>exact⟨0,_,υ _,rfl,rfl,World.ownsRow_nil _ _ _ _,I0.o,A0.o,e0.o,fun i _ e=>by cases e⟩
  case round =>
   obtain⟨k,v,hk,rfl,rfl,b0,F,o0,a0,m0⟩:=hrel;have V:=η b0;have X:=η F;have l0:=η o0;have z0:=η a0;have M:=η m0;obtain⟨oa,oc,rfl⟩:=q0G b0;by_cases S:k<L.length
   ·have hd:decide ((k:Int)<(L.length:Int))=true:=ζ (by omega)
    have q8:IntKind.i64.wrap ((k:Int)+1)=(k:Int)+1:=by rw[ν];omega
    have R0:(k:Int)<(L.length:Int):=by omega
    obtain⟨_,_,L0,g0⟩:=Ens.of_own (Own.of_row a0)
    cases L0;obtain⟨bb,off,rfl,c0,c1,c2⟩:=g0.at S;have p0:L.take (k+1)=L.take k++[L.getD k en0]:=by rw[List.take_succ_eq_append_getElem S,δ,γ S];rfl
    have r0:=h0 (L.getD k en0) (by rw[δ,γ S];exact List.getElem_mem S);obtain⟨x,hx⟩: ∃x,L.getD k en0=x:=⟨_,rfl⟩
    rw[hx] at c0 c1 c2 p0 r0
    have Y:Hd ((L.take (k+1)).filterMap (q2M P d)=(L.take k).filterMap (q2M P d)++(q2M P d x).toList):=η (by
     rw[p0,List.filterMap_append];congr 1)
    have i0:Hd (((L.take k).filterMap (q2M P d)).length<=10000):=η (Ω (List.length_filterMap_le _ _) (by rw[Θ];omega));obtain⟨x1,x2,x3⟩:=x;simp only at c0 c1 c2;have q0:=q0B wr (.cells #[.int .u64 x1,.int .i64 x2,.int .i64 x3] 145);have D:=Blk.new wr 145 #[.int .u64 x1,.int .i64 x2,.int .i64 x3];have k0:=D.cell 0;have k1:=D.cell 1;have k2:=D.cell 2;have HF:Hd (Calls Tryz.prog 170 #[.pointer (some ⟨gs,0,none⟩),.agg #[.int .u64 x1,.int .i64 x2,.int .i64 x3],.string ⟨d.toArray⟩] (wr.alloc (.cells #[.int .u64 x1,.int .i64 x2,.int .i64 x3] 145)) fun e w'=>e= .returned (z2k (q2M P d (x1,x2,x3)))/\StoP wb w' g gs gl gx rate m ws sd c s u cnt B C sure P (fun i=>(K i\/(Value.slice (some ⟨bb,off,none⟩) L.length U).ownBlock=some i)\/(Value.slice oa ((L.take k).filterMap (q2M P d)).length oc).ownBlock=some i)/\Stay (fun i=>(K i\/(Value.slice (some ⟨bb,off,none⟩) L.length U).ownBlock=some i)\/(Value.slice oa ((L.take k).filterMap (q2M P d)).length oc).ownBlock=some i) (wr.alloc (.cells #[.int .u64 x1,.int .i64 x2,.int .i64 x3] 145)) w'):=
     η (z9M (F.grow q0) r0 d hs)
    clear b0 F o0 a0 m0 g0 D p0 r0 hx;go_wp2_with fail;refine HF.o.mono ?_;rintro e w5 ⟨rfl,F0,G0⟩;have J:Stay (fun i=>(K i\/(Value.slice (some ⟨bb,off,none⟩) L.length U).ownBlock=some i)\/(Value.slice oa ((L.take k).filterMap (q2M P d)).length oc).ownBlock=some i) wr w5:=(X.o.kExt q0).trans G0;have G:=η (q1F V.o fun i j=>J i (.inr j));have d0:=η (q1F z0.o fun i j=>J i (.inl (.inr j)));have f0:=η (l0.o.trans fun i j=>J i (.inl (.inl j)));have y:=η F0;clear F0 G0 J HF q0 X V z0 l0 k0 k1 k2 c0 c1 c2;obtain⟨OL,C0⟩: ∃OL,(L.take k).filterMap (q2M P d)=OL:=⟨_,rfl⟩
    rw[C0] at G y Y i0 M⊢;obtain⟨no,n0⟩: ∃no,OL.length=no:=⟨_,rfl⟩
    rw[n0] at G y i0 M⊢;have S0:=i0.o;clear C0;obtain⟨r,hr⟩: ∃r,q2M P d (x1,x2,x3)=r:=⟨_,rfl⟩
    rw[hr] at Y⊢;clear hr
    cases r with
    | none=>
     have N:=q0B w5 (.cells #[.string ⟨#[]⟩,.int .i64 0,.string ⟨#[]⟩,.string ⟨#[]⟩,.float .f64 0] 68);have E:=η N;rw[show z2k none= .tuple #[.agg #[.string ⟨#[]⟩,.int .i64 0,.string ⟨#[]⟩,.string ⟨#[]⟩,.float .f64 0],.bool false,.int .i64 0] from rfl];clear N;have N0:=q1j;go_wp2_with fail
     go_roundw
     case rel=>
      refine⟨k+1,_,by omega,rfl,by go_num,?_,y.o.grow E.o,f0.o.trans fun i j=>y.o.kExt E.o i (.inl (.inl j)),q0H d0.o E.o,M.o⟩;rw[Y.o,show(none:Option To).toList=[] from rfl,List.append_nil,n0];exact q0H G.o E.o
     case measure=>simp[intOf];omega
    | some t=>
     obtain⟨ts,O,⟨ty,da,we⟩⟩:=t;have N:=q0B w5 (.cells #[.string ⟨ts.toArray⟩,.int .i64 O,.string ⟨ty.toArray⟩,.string ⟨da.toArray⟩,.float .f64 we] 68);have D:=Blk.new w5 68 #[.string ⟨ts.toArray⟩,.int .i64 O,.string ⟨ty.toArray⟩,.string ⟨da.toArray⟩,.float .f64 we];have t0:=D.cell 0;have t1:=D.cell 1;have t2:=D.cell 2;have t3:=D.cell 3;have t4:=D.cell 4;have E:=η N;rw[show z2k (some ⟨ts,O,⟨ty,da,we⟩⟩)= .tuple #[.agg #[.string ⟨ts.toArray⟩,.int .i64 O,.string ⟨ty.toArray⟩,.string ⟨da.toArray⟩,.float .f64 we],.bool true,.int .i64 0] from rfl];have B0:=η (y.o.grow N);have H0:Hd (wb.heap.size<=w5.heap.size):=η y.o.base.size
     have K0:Hd (Rd ((w5.alloc (.cells #[.string ⟨ts.toArray⟩,.int .i64 O,.string ⟨ty.toArray⟩,.string ⟨da.toArray⟩,.float .f64 we] 68)).alloc (.cells #[.string ⟨ts.toArray⟩,.int .i64 O,.string ⟨ty.toArray⟩,.string ⟨da.toArray⟩,.float .f64 we] 68)) (some ⟨w5.heap.size+1,0,none⟩) (toc ⟨ts,O,⟨ty,da,we⟩⟩)):=η (by
      have h:=Rd.lit (w5.alloc (.cells #[.string ⟨ts.toArray⟩,.int .i64 O,.string ⟨ty.toArray⟩,.string ⟨da.toArray⟩,.float .f64 we] 68)) #[.string ⟨ts.toArray⟩,.int .i64 O,.string ⟨ty.toArray⟩,.string ⟨da.toArray⟩,.float .f64 we] 68;rw[ρ] at h
      exact h)
     have N0:=q1j;clear N D
     go_wp2_with (at_builtin;refine q0M rfl _ _ 22 rfl wb.heap.size 68 _ 5 64 Tryz.underlying22 Tryz.infoTo (by decide) (by decide) _ no (q4g OL) rfl (q0H (q0H G.o E.o) (q0B _ _)) _ 1 1 (toc ⟨ts,O,⟨ty,da,we⟩⟩) rfl rfl (fun h=>by cases h) K0.o (by unfold toc;simp[Value.oneCell']) (by unfold maxLen;omega) (by omega) (by have:=H0.o;simp;omega) ?_;intro v2 w8 I Q D0;obtain⟨a2,k2,rfl⟩:=q0G I;have HO:=η I;have J0:=η (StoP.row1 B0.o (ι _) (q0H G.o E.o) I Q D0 M.o);clear I Q D0)
     go_roundw
     case rel=>
      obtain⟨r1,r2,r3⟩:=J0.o;refine⟨k+1,_,by omega,rfl,by go_num,?_,r1,?_,?_,r3⟩
      ·rw[Y.o,show(some (⟨ts,O,⟨ty,da,we⟩⟩:To)).toList=[⟨ts,O,⟨ty,da,we⟩⟩] from rfl,q4T,θ,n0]
       exact HO.o
      ·exact(f0.o.trans fun i j=>y.o.kExt E.o i (.inl (.inl j))).trans fun i j=>r2 i (.inl j)
      ·exact q1F (q0H d0.o E.o) fun i j=>r2 i (.inr j)
     case measure=>simp[intOf];omega
   ·obtain rfl:k=L.length:=by omega
    have hd:decide ((L.length:Int)<(L.length:Int))=false:=ε (by omega);have e9:(L.take L.length).filterMap (q2M P d)=R:=by rw[List.take_length];exact E0
    clear b0 F o0 a0 m0;rw[e9] at V X M⊢;go_wp2_with fail;go_ret2;exact⟨_,rfl,X.o.beside fun i j=>j.imp .inl id,l0.o,V.o,fun i j=>M.o i (.inl j)⟩
end
section
variable {wb w W W1 W2:World}{g gl gs gx rate:Nat}{m:Man}{ws:List En}{c s sd:Int}{u cnt:Nat}{B:List En}{C:Cks}{P:Pbs}{sure:Int}{K K':Nat->Prop}
theorem z1v(h:Blk W gs 116 #[.pointer (some ⟨gl,0,none⟩),.pointer (some ⟨gx,0,none⟩),.int .u64 sd]):Calls Tryz.prog 59 #[.pointer (some ⟨gs,0,none⟩)] W fun e w'=>e= .returned (.bool false)/\W=w':=by
 have b:=h.cell 0;clear h;go_enter Tryz.func59,Tryz.ntmps59;go_wp2_with fail;go_ret;exact⟨rfl,rfl⟩
def z7s(bs:List Bt)(str:List UInt8):Int×Int:=if q1J str=true then(((q1U bs str).length:Int)-1,0) else(-1,2)
theorem z9s(h:StoP wb w g gs gl gx rate m ws sd c s u cnt B C sure P K)(d:List UInt8)(hs:d.length<=4611686018427387903)(hl:B.length<=10000)(j0:(q1U (q1t P) d).length<=1073741824){x y:Int}(G:z7s (q1t P) d=(x,y)):
  Calls Tryz.prog 72 #[.pointer (some ⟨gs,0,none⟩),.string ⟨d.toArray⟩] w fun e w'=>e= .returned (.tuple #[.int .i64 x,.int .i64 y])/\StoP wb w' g gs gl gx rate m ws sd c s u cnt B C sure P K/\Stay K w w':=by
 have HN:=η (z1v h.b);have l:=η (q9Z d w (by omega));have f0:=η (fun W=>z2o sd d W hs);have HH:=η h;clear h;unfold z7s at G
 cases hstr:q1J d with
 | false=>
  rw[hstr,κ (by decide)] at G;injection G with h1 h2;subst h1 h2;rw[hstr] at l;go_enter Tryz.func72,Tryz.ntmps72;go_wp2_with fail;refine HN.o.mono ?_;rintro e w1 ⟨rfl,rfl⟩;go_wp2_with fail;refine l.o.mono ?_;rintro e w1 ⟨rfl,S⟩;have HX:=η S;clear S;go_wp2_with fail;go_ret2;exact⟨rfl,HH.o.grow HX.o,HH.o.kExt HX.o⟩
 | true =>
  rw[hstr,ξ rfl] at G;rw[hstr] at l;obtain⟨N,hN⟩: ∃N,(q1U (q1t P) d).length=N:=⟨_,rfl⟩
  rw[hN] at G j0;injection G with h1 h2;subst h2;have b0:=η h1;clear h1;have M:=η hN;go_enter Tryz.func72,Tryz.ntmps72;go_wp2_with fail;refine HN.o.mono ?_;rintro e w1 ⟨rfl,rfl⟩;go_wp2_with fail;refine l.o.mono ?_;rintro e w1 ⟨rfl,S⟩;have U:=η (HH.o.grow S);have g0:=η (HH.o.kExt S);obtain⟨s0,s1,s2⟩:=U.o.cells;clear S l;go_wp2_with fail;refine(f0.o _).mono ?_;rintro e o0 ⟨rfl,rfl⟩;clear s0 s1 s2;go_wp2_with fail
  go_loopw [7] (fun o W=> ∃v:Int,o= .int .i64 v/\(N:Int)-1<=v/\v<=1073741824/\ -1<=v/\StoP wb W g gs gl gx rate m ws sd c s u cnt B C sure P K/\Stay K w W) (fun o _=>(intOf o+2).toNat)
  case atStart=>exact⟨1073741824,rfl,by omega,by omega,by omega,U.o,g0.o⟩
  case round=>
   obtain⟨v,rfl,v0,v1,v2,E,c0⟩:=hrel;obtain⟨s0,s1,s2⟩:=E.cells;have e0:=η E;have h0:=η c0;have HL:=η (E.i.last (q2U sd d) v (by omega));have X:=η (fun r G=>E.stE.last E.okB (s:=d) (u:=v) (r:=r) (by rw[M.o];exact v0) G);rw[show min v 1073741824=v by omega] at HL;clear E c0;go_wp2_with fail;refine HL.o.mono ?_;rintro e w2 ⟨r,rfl,O,F,j⟩;obtain⟨l1,l2,l3,l4,l5⟩:=X.o r O;rw[M.o] at l1 l4 l5;have n0:r<=v:=by
    rcases O.2 with e|⟨y,hy,_,e1,e2⟩
    ·omega
    ·omega
   have J:=η (e0.o.stay F j fun i F=> .inl F);have Y:=η (h0.o.trans fun i F=>j i (.inl F));clear F j s0 s1 s2 HL X O;by_cases Q:r<0
   ·have hd:decide (r<0)=true:=ζ Q
    have l0:(N:Int)=0:=by have:=l3 Q;rw[<-M.o,this];rfl
    obtain rfl:x= -1:=by have:=b0.o;omega
    go_wp2_with fail
    (try rw[Exit.noGoto_ret])
    go_ret2;exact⟨rfl,J.o,Y.o⟩
   ·have hd:decide (r<0)=false:=ε Q
    have HB:=η (z4j J.o d hs r r hl rfl);rw[show max r 0=r by omega,show min r 1073741824=r by omega] at HB;have d0:=l4 (by omega);obtain⟨R,hR⟩: ∃R,(z6p (q1t P) d).filter (fun t=>decide (r<=t.v/\t.v<=r))=R:=⟨_,rfl⟩
    rw[hR] at HB d0 l5;obtain⟨s0,s1,s2⟩:=J.o.cells;clear l3 l4 hR;go_wp2_with fail;refine HB.o.mono ?_;rintro e w3 ⟨v3,rfl,E,j,I,i0⟩;obtain⟨ra,rc,rfl⟩:=q0G I;have V:=η (E.beside (K':=K) fun i F=> .inl F);have a0:=η (Y.o.trans j);clear E j I i0 HB s0 s1 s2;by_cases D:R=[]
    ·have h9:=d0 D
     have q9:IntKind.i64.wrap (r-1)=r-1:=by rw[ν];omega
     subst D;go_wp2_with fail
     go_roundw
     case rel=>exact⟨r-1,by go_num,by omega,by omega,by omega,V.o,a0.o⟩
     case measure=>simp[intOf];omega
    ·have h9:=l5 D
     obtain rfl:r=x:=by have:=b0.o;omega
     have k0:0<R.length:=List.length_pos_iff.2 D;have m0:decide (0<(R.length:Int))=true:=ζ (by omega);go_wp2_with fail
     (try rw[Exit.noGoto_ret])
     go_ret2;exact⟨rfl,V.o,a0.o⟩
end
theorem z3w(C:Cks):q1y C 0=q1B 0 C:=List.filter_eq_self.2 fun r _=>by simp
theorem z5Q{w:World}{B:Nat}{e:TypeId}{b:Nat}(i:L.length=n)(h:Own w B e 3 (.slice ao n b) n (q6O L)):Evs w ao n b L:=by
 subst i;obtain⟨_,_,d,h2⟩:=Evs.of_own h
 cases d;exact h2
theorem z6d(b:Bt)(k:Nat):q6c b.st b.fi (b.ev.take (k+1))=q6c b.st b.fi (b.ev.take k)++(if h:k<b.ev.length then [⟨b.st,((b.fi+k:Nat):Int),b.ev[k]⟩] else []):=by
 split
 ·rename_i h
  rw[List.take_succ_eq_append_getElem h,q4x,Θ,Nat.min_eq_left (by omega)]
  rfl
 ·rename_i h
  rw[Δ (by omega),Δ (by omega),List.append_nil]
section
variable {wb w W W1 W2:World}{g gl gs gx rate:Nat}{m:Man}{ws:List En}{c s sd:Int}{u cnt:Nat}{B:List En}{C:Cks}{P:Pbs}{sure:Int}{K K':Nat->Prop}
theorem y1N(h :StoP wb w g gs gl gx rate m ws sd c s u cnt B C sure P K){T:List To}(hT:tos (q1t P)=T)(hN:T.length<=10000):
  Calls Tryz.prog 20 #[.pointer (some ⟨gs,0,none⟩)] w fun e w'=>
   ∃v,e= .returned (.tuple #[v,.int .i64 0])/\StoP wb w' g gs gl gx rate m ws sd c s u cnt B C sure P (fun i=>K i\/v.ownBlock=some i)/\Stay K w w'/\w'.ownsRow wb.heap.size 68 5 v T.length (q4g T)/\ ∀i,K i->v.ownBlock≠some i:=by
 have HN:=η (z1v h.b);have F0:okC C:=h.i.cOk;have h0:q1y C 0=q9T P:=(z3w C).trans h.recE;have X0: ∀y∈P,z4H y.2:=fun y hy=>h.stE.ok.each (List.mem_map.2 ⟨y,hy,rfl⟩)
 have HH:Hd (StoP wb w g gs gl gx rate m ws sd c s u cnt B C sure P (fun i=>K i\/(Value.slice none 0 0).ownBlock=some i)):=η (h.beside fun i d=>d.elim id fun e=>by cases e);have Z0:=η h;clear h;go_enter Tryz.func20,Tryz.ntmps20;go_wp2_with fail;refine HN.o.mono ?_;rintro e w1 ⟨rfl,rfl⟩;go_wp2_with fail
 go_loopw [4,5] (fun o p W=> ∃(j:Nat) (v:Value) (pos:Int),j<=P.length/\o=v/\p= .int .i64 pos/\0<=pos/\pos<=9223372036854775807/\q1y C pos=q9T (P.drop j)/\W.ownsRow wb.heap.size 68 5 v (tos (q1t (P.take j))).length (q4g (tos (q1t (P.take j))))/\
  StoP wb W g gs gl gx rate m ws sd c s u cnt B C sure P (fun i=>K i\/v.ownBlock=some i)/\Stay K w W/\ ∀i,K i->v.ownBlock≠some i) (fun _ p _=>(q1y C (intOf p)).length)
 case atStart=>exact⟨0,_,0,υ _,rfl,rfl,by omega,by omega,h0,World.ownsRow_nil _ _ _ _,HH.o,Stay.refl _ _,fun i _ e=>by cases e⟩
 case round =>
  obtain⟨j,v,pos,hj,rfl,rfl,q0,q1,y0,M,G,S,R⟩:=hrel;have E:=η M;have I:=η G;have Y:=η S;have F:=η R;have V:=η y0;obtain⟨oa,oc,rfl⟩:=q0G M;have r:=G.i.next pos (by omega) q1 rfl;rw[q8J,y0] at r;obtain⟨s0,s1,s2⟩:=G.cells;have V0:(tos (q1t (P.take j))).length<=10000:=by
   rw[<-hT] at hN;have e:q1t P=q1t (P.take j)++q1t (P.drop j):=by unfold q1t;rw[<-List.map_append,List.take_append_drop]
   rw[e,q2z,θ] at hN;omega
  clear M G S R y0;rcases Nat.lt_or_ge j P.length with g0|d1
  ·have x0 :=List.drop_eq_getElem_cons g0
   have z0:P.take (j+1)=P.take j++[P[j]]:=List.take_succ_eq_append_getElem g0;have hy:P[j]∈P:=List.getElem_mem g0;obtain⟨y,N0⟩: ∃y,P[j]=y:=⟨_,rfl⟩
   rw[N0] at x0 z0 hy;obtain⟨a,b⟩:=y;have p0:=X0 _ hy;rw[x0,show q9T ((a,b)::P.drop (j+1))=(a,btB b)::q9T (P.drop (j+1)) from rfl] at r V;have J0:=z2N p0;have n0:=z1Q b p0;obtain⟨p1,p2,p3,p4,p5,p6,p7⟩:=q0x p0.1;have i1:a<=819200:=z3D F0 (I.o.posLt hy);have G0:q1y C ((a:Int)+((btB b).length:Int)+12)=q9T (P.drop (j+1)):=q8K F0 V.o;have M0:tos (q1t (P.take (j+1)))=tos (q1t (P.take j))++q6c b.st b.fi b.ev:=by rw[z0,q4C,q2z,q7h];rfl
   have v0:=η M0;have u0:=η G0;simp only at J0 n0 p1 p2 p3 p4 p5 p6 p7;obtain⟨p,hp⟩: ∃p,btB b=p:=⟨_,rfl⟩
   rw[hp] at J0 n0 r V u0;have o0:q9L ((a,p)::q9T (P.drop (j+1))).head? = .tuple #[.string ⟨p.toArray⟩,.int .i64 (a:Int),.int .i64 ((a:Int)+(p.length:Int)+12),.int .i64 0]:=rfl;rw[o0] at r;have N:=η r;have HG:=η (fun W=>z4k p W (by omega));rw[n0] at HG;obtain⟨OT,D0⟩: ∃OT,tos (q1t (P.take j))=OT:=⟨_,rfl⟩
   rw[D0] at E I F V0 N v0⊢;clear r o0 p0 n0 G0 M0 D0 N0 x0 z0 hp hy;go_wp2_with fail;refine N.o.mono ?_;rintro e w2 ⟨rfl,d,hs⟩;have Q:=η (I.o.stay d hs fun i d=> .inl d);have l0:=η (Y.o.trans fun i d=>hs i (.inl (.inl d)));have J:=η (q1F E.o fun i d=>hs i (.inl (.inr d)));clear d hs N s0 s1 s2;go_wp2_with fail;refine(HG.o _).mono ?_;rintro e w3 ⟨⟨y,rfl,hy⟩,hx⟩;obtain⟨ev,rfl,l⟩:=hy;obtain⟨ao,cp,rfl⟩:=l.slice;obtain⟨n,hn⟩: ∃n,b.ev.length=n:=⟨_,rfl⟩
   rw[hn] at l p4 p6⊢;obtain⟨st,fi,ev⟩:=b;simp only at p1 p2 p3 p4 p5 p6 p7 hn l v0⊢;have i0:=q0B w3 (.cells #[.string ⟨st.toArray⟩,.int .i64 (fi:Int),.slice ao n cp] 119);obtain⟨q,hq⟩: ∃q,w3.heap.size=q:=⟨_,rfl⟩
   have D:=Blk.new w3 119 #[.string ⟨st.toArray⟩,.int .i64 (fi:Int),.slice ao n cp];have Y0:=hx.size;have W0:=Q.o.base.size;have O: ∀i,(Value.slice ao n cp).ownBlock=some i->w2.heap.size<=i/\i<w3.heap.size:=l.lt
   have Q0:=η (Q.o.more (K':=fun i=>(K i\/i=q\/(Value.slice ao n cp).ownBlock=some i)\/(Value.slice oa OT.length oc).ownBlock=some i) (hx.trans i0) fun i d=>by
    rw[ρ];rcases d with(d|d|d)|d
    ·exact .inl (.inl d)
    ·right;omega
    ·right;have:=O i d;omega
    ·exact .inl (.inr d))
   have U0:Hd (Stay K w (w3.alloc (.cells #[.string ⟨st.toArray⟩,.int .i64 (fi:Int),.slice ao n cp] 119))):=η (l0.o.trans fun i d=>Q.o.kExt (hx.trans i0) i (.inl d));have C0:=η (q0H J.o (hx.trans i0));have t0:=η (l.ext i0);rw[hq] at D;have A0:=η D;have B0:Hd (∀i,(K i\/i=q\/(Value.slice ao n cp).ownBlock=some i)->(Value.slice oa OT.length oc).ownBlock≠some i):=η fun i d e=>by
    have:=(q0U J.o i e).2;rcases d with d|d|d
    ·exact F.o i d e
    ·omega
    ·have:=O i d;omega
   have k0:=D.cell 0;have k1:=D.cell 1;have k2:=D.cell 2;rw[<-hq] at k0 k1 k2;have b0:=z5Q hn t0.o;have b1:=b0.fits;have b2:=b0.bound;clear b0 hx l D Y0 W0 O Q l0 J HG i0;go_wp2_with fail;clear hq;generalize w3.alloc (.cells #[.string ⟨st.toArray⟩,.int .i64 (fi:Int),.slice ao n cp] 119)=w4 at*
   go_loopw [4,44] (fun o i W=> ∃(k:Nat) (v:Value),k<=n/\o=v/\i= .int .i64 (k:Int)/\W.ownsRow wb.heap.size 68 5 v (OT++q6c st fi (ev.take k)).length (q4g (OT++q6c st fi (ev.take k)))/\
    StoP wb W g gs gl gx rate m ws sd c s u cnt B C sure P (fun i=>(K i\/i=q\/(Value.slice ao n cp).ownBlock=some i)\/v.ownBlock=some i)/\Stay K w W/\Own W w2.heap.size 66 3 (.slice ao n cp) n (q6O ev)/\
    Blk W q 119 #[.string ⟨st.toArray⟩,.int .i64 (fi:Int),.slice ao n cp]/\ ∀i,(K i\/i=q\/(Value.slice ao n cp).ownBlock=some i)->v.ownBlock≠some i) (fun _ i _=>n-(intOf i).toNat)
   case atStart=>exact⟨0,_,υ _,rfl,rfl,by rw[List.take_zero,show q6c st fi []=[] from rfl,List.append_nil];exact C0.o,Q0.o,U0.o,t0.o,A0.o,B0.o⟩
   case round=>
    obtain⟨k,v,hk,rfl,rfl,M,G,S,r0,D,R⟩:=hrel;have E:=η M;have I:=η G;have Y:=η S;have R0:=η r0;have O0:=η D;have F:=η R;obtain⟨oa,oc,rfl⟩:=q0G M;by_cases g0:k<n
    ·have hd:decide ((k:Int)<(n:Int))=true:=ζ (by omega)
     have q8:IntKind.i64.wrap ((k:Int)+1)=(k:Int)+1:=by rw[ν];omega
     have q7:IntKind.i64.wrap ((fi:Int)+(k:Int))=(fi:Int)+(k:Int):=by rw[ν];omega
     have g1:(k:Int)<(n:Int):=by omega
     obtain⟨bb,off,rfl,c0,c1,c2⟩:=(z5Q hn r0).at g0;have I0:k<ev.length:=by omega
     have U:=z6d ⟨st,fi,ev⟩ k;rw[dif_pos I0] at U;simp only at U;have H0:ev.getD k ev0=ev[k]:=by rw[δ,γ I0];rfl
     rw[H0] at c0 c1 c2;obtain⟨x,hx⟩: ∃x,ev[k]=x:=⟨_,rfl⟩
     rw[hx] at c0 c1 c2 U;obtain⟨ty,da,we⟩:=x;simp only at c0 c1 c2;have a1:=η U;have j0:=q0B wr (.cells #[.string ⟨ty.toArray⟩,.string ⟨da.toArray⟩,.float .f64 we] 66);have m0:=Blk.new wr 66 #[.string ⟨ty.toArray⟩,.string ⟨da.toArray⟩,.float .f64 we];have e0:=m0.cell 0;have e1:=m0.cell 1;have e2:=m0.cell 2;have f0:=(D.ext j0).cell 0;have f1:=(D.ext j0).cell 1;have a0:=η j0;have X:=η (G.grow j0);have P0:Hd (wb.heap.size<=wr.heap.size):=η G.base.size;have L0:(OT++q6c st fi (ev.take k)).length<=10008:=by rw[θ,q4y,Θ];omega
     have T0:Hd (Rd ((wr.alloc (.cells #[.string ⟨ty.toArray⟩,.string ⟨da.toArray⟩,.float .f64 we] 66)).alloc (.cells #[.string ⟨st.toArray⟩,.int .i64 ((fi:Int)+(k:Int)),.string ⟨ty.toArray⟩,.string ⟨da.toArray⟩,.float .f64 we] 68)) (some ⟨wr.heap.size+1,0,none⟩) (toc ⟨st,(fi:Int)+(k:Int),⟨ty,da,we⟩⟩)):=η (by
      have h:=Rd.lit (wr.alloc (.cells #[.string ⟨ty.toArray⟩,.string ⟨da.toArray⟩,.float .f64 we] 66)) #[.string ⟨st.toArray⟩,.int .i64 ((fi:Int)+(k:Int)),.string ⟨ty.toArray⟩,.string ⟨da.toArray⟩,.float .f64 we] 68;rw[ρ] at h
      exact h)
     obtain⟨OL,w0⟩: ∃OL,OT++q6c st fi (ev.take k)=OL:=⟨_,rfl⟩
     have r:Hd (OT++q6c st fi (ev.take (k+1))=OL++[⟨st,(fi:Int)+(k:Int),⟨ty,da,we⟩⟩]):=η (by rw[U,<-List.append_assoc,w0];rfl);rw[w0] at E X F L0⊢;obtain⟨no,K0⟩: ∃no,OL.length=no:=⟨_,rfl⟩
     rw[K0] at E X F L0⊢;have j1:=q1j;clear M G S r0 D R j0 m0 H0 hx U w0
     go_wp2_with (at_builtin;refine q0M rfl _ _ 22 rfl wb.heap.size 68 _ 5 64 Tryz.underlying22 Tryz.infoTo (by decide) (by decide) _ no (q4g OL) rfl (q0H (q0H E.o a0.o) (q0B _ _)) _ 1 1 (toc ⟨st,(fi:Int)+(k:Int),⟨ty,da,we⟩⟩) rfl rfl (fun h=>by cases h) T0.o (by unfold toc;simp[Value.oneCell']) (by unfold maxLen;omega) (by omega) (by have:=P0.o;simp;omega) ?_;intro v2 w8 l d0 E0;obtain⟨a2,k2,rfl⟩:=q0G l;have HO:=η l;have S0:=η (StoP.row1 X.o (ι _) (q0H E.o a0.o) l d0 E0 F.o);clear l d0 E0)
     go_roundw
     case rel=>
      obtain⟨r1,r2,r3⟩:=S0.o;refine⟨k+1,_,by omega,rfl,by go_num,?_,r1,?_,?_,?_,r3⟩
      ·rw[r.o,q4T,θ,K0]
       exact HO.o
      ·exact(Y.o.trans fun i d=>I.o.kExt a0.o i (.inl (.inl d))).trans fun i d=>r2 i (.inl d)
      ·exact(R0.o.ext a0.o).same fun i d=>r2 i (.inr (.inr d))
      ·exact(O0.o.ext a0.o).same (r2 q (.inr (.inl rfl)))
     case measure=>simp[intOf];omega
    ·obtain rfl:k=n:=by omega
     have hd:decide ((k:Int)<(k:Int))=false:=ε (by omega);have e9:OT++q6c st fi (ev.take k)=tos (q1t (P.take (j+1))):=by rw[v0.o,Δ (by omega)]
     clear M G S r0 D R;rw[e9] at E I F⊢;go_wp2_with fail
     go_roundw
     case rel=>
      exact⟨j+1,_,(a:Int)+(p.length:Int)+12,by omega,rfl,rfl,by omega,by omega,u0.o,E.o,I.o.beside fun i d=>d.imp .inl id,Y.o,fun i d=>F.o i (.inl d)⟩
     case measure=>simp only[intOf];rw[u0.o,V.o];simp
  ·obtain rfl:j=P.length:=by omega
   rw[List.drop_length] at r V;have o0:q9L (q9T ([]:Pbs)).head? = .tuple #[.string ⟨#[]⟩,.int .i64 0,.int .i64 0,.int .i64 4]:=rfl;rw[o0] at r;have N:=η r;clear r;have e9:tos (q1t (P.take P.length))=T:=by rw[List.take_length];exact hT
   rw[e9] at E I F N⊢;go_wp2_with fail;refine N.o.mono ?_;rintro e w2 ⟨rfl,d,hs⟩;have Q:=η (I.o.stay d hs fun i d=> .inl d);have l0:=η (Y.o.trans fun i d=>hs i (.inl (.inl d)));have J:=η (q1F E.o fun i d=>hs i (.inl (.inr d)));clear d hs N s0 s1 s2;go_wp2_with fail
   (try rw[Exit.noGoto_ret])
   go_ret2;exact⟨_,rfl,Q.o,l0.o,J.o,F.o⟩
end
section
variable {wb w W W1 W2:World}{g gl gs gx rate:Nat}{m:Man}{ws:List En}{c s sd:Int}{u cnt:Nat}{B:List En}{C:Cks}{P:Pbs}{sure:Int}{K K':Nat->Prop}
end
def y0P(bs:List Bt)(str:List UInt8)(ex:Int)(L:List Ev):Int:=
 if q0l str 0 L≠0 then q0l str 0 L else if ex< -2 then 2 else if ex≠ -2/\ex≠((q1U bs str).length:Int)-1 then 80 else 0
theorem z2g(d:List Bt)(s:List UInt8):(q1U d s).length<=(tos d).length:=by
 induction d using q9X with
 |h0=>exact υ _
 | h1 l b ih=>
  rw[q8F,q2z,q7h,θ,q3o]
  split
  ·rw[θ];omega
  ·omega
theorem q9l{b:List UInt8}(h:q0l b 0 L=0)(l:n<=1000000):q0l b (n:Int) L=0:=by
 obtain⟨d,i,o,r,v,y,j⟩:=q0x h;unfold q0l;rw[κ (fun e=>e.elim d i),κ (by omega),κ (by omega)];exact j
section
variable {wb w W W1 W2:World}{g gl gs gx rate:Nat}{m:Man}{ws:List En}{c s sd:Int}{u cnt:Nat}{B:List En}{C:Cks}{P:Pbs}{sure:Int}{K K':Nat->Prop}
theorem StoP.added(h:StoP wb W1 g gs gl gx rate m ws sd c s u cnt B C sure P K){f x:Int}{C':Cks}{b:Bt}(v:z4H b)(F:b.fi=(q1U (q1t P) b.st).length)(Q:C.length<200)(E:q1D f C (btB b)=(x,0,C')):
  ∃ pos:Nat,x=(pos:Int)/\pos<4096*200/\ ∀(W:World) (u' cnt':Nat) (d:Int) (o:Nat->Prop),IXG wb W g gx gl rate m (q1T (q0b sd pos b b.ev.length) ws) c s u' cnt' (q1T (q0b sd pos b b.ev.length) B) C' d (fun i=>o i\/i=gs)->
   Blk W gs 116 #[.pointer (some ⟨gl,0,none⟩),.pointer (some ⟨gx,0,none⟩),.int .u64 sd]->¬o gs->
   StoP wb W g gs gl gx rate m (q1T (q0b sd pos b b.ev.length) ws) sd c s u' cnt' (q1T (q0b sd pos b b.ev.length) B) C' d (P++[(pos,b)]) o:=by
 have j:=h.i.cOk;obtain⟨pos,rfl,h1,h2,h3,h4,M,N⟩:=z1B j.size (z2N v) E;refine⟨pos,rfl,by omega,fun W u' cnt' d o G r I=>⟨G,r,h.sdE,?_,h.stE.snoc v F fun y J=>?_,?_,fun z l=>?_,⟨I,h.k.2⟩⟩⟩
 ·rw[h1,h.recE];unfold q9T;rw[List.map_append];rfl
 ·have D:=z7Z (q6g C 0 j.size) _ (h.posLt J)
  have O:=z3q j;simp only at D;omega
 ·have:=h.ckE;omega
 ·rcases mem_addEs.1 l with l|l
  ·unfold q0b at l
   obtain⟨k,_,rfl⟩:=List.mem_map.1 l;show m.ck<=(pos:Int);have:=h.ckE;omega
  ·exact h.wsE z l
def y1e(wb w:World)(g gs gl gx rate:Nat)(m:Man)(ws:List En)(sd c s:Int)(u cnt:Nat)(B:List En)(C:Cks)(sure:Int)(P:Pbs)(K:Nat->Prop)(str:List UInt8)(L:List Ev)(z:Int)(e:Ending)(w':World):Prop:=
 ((z ≠0/\e= .returned (.tuple #[.int .i64 0,.int .i64 z])/\StoP wb w' g gs gl gx rate m ws sd c s u cnt B C sure P K)\/
  (z=0/\e= .returned (.tuple #[.int .i64 0,.int .i64 60])/\StoP wb w' g gs gl gx rate m ws sd c s u cnt B C sure P K/\c-(u:Int)-2024<6000)\/
  (z =0/\z4H ⟨str,(q1U (q1t P) str).length,L⟩/\ ∃pos ws' B' C' sure',e= .returned (.tuple #[.int .i64 ((q1U (q1t P) str).length:Int),.int .i64 0])/\
   StoP wb w' g gs gl gx rate m ws' sd c s (u+2024) (cnt+1) B' C' sure' (P++[(pos,⟨str,(q1U (q1t P) str).length,L⟩)]) K))/\Stay K w w'
theorem z6U(h :StoP wb w g gs gl gx rate m ws sd c s u cnt B C sure P K)(d:List UInt8)(hs:d.length<=4611686018427387903)(ex:Int)(D: ∀W,Ext wb W->Stay K w W->Evs W ao n cap L)(hL:q4c L)
  (n1: ∀e∈L,e.we<18446744073709551616)(hl:B.length<=9000)(hN:(tos (q1t P)).length<=9000)(hC:C.length<200):
  Calls Tryz.prog 27 #[.pointer (some ⟨gs,0,none⟩),.string ⟨d.toArray⟩,.int .i64 ex,.slice ao n cap] w (y1e wb w g gs gl gx rate m ws sd c s u cnt B C sure P K d L (y0P (q1t P) d ex L)):=by
 have b0:=D w h.base (Stay.refl _ _);have J0:=b0.len;have b1:=b0.fits;have b2:=b0.bound;have l1:=z2g (q1t P) d;obtain⟨N,q0⟩: ∃N,(q1U (q1t P) d).length=N:=⟨_,rfl⟩
 have e0:=η q0;have O:=q0B w (.cells #[.string ⟨d.toArray⟩,.int .i64 0,.slice ao n cap] 119);have y:=Blk.new w 119 #[.string ⟨d.toArray⟩,.int .i64 0,.slice ao n cap];have Q:=η (q8l d 0 _ (b0.ext O) hs hL);have HN:=η (fun W (k:Ext (w.alloc (.cells #[.string ⟨d.toArray⟩,.int .i64 0,.slice ao n cap] 119)) W)=>z1v ((h.b.ext O).ext k));have F:=η (h.more (K':=fun i=>K i\/i=w.heap.size) O fun i j=>j.imp id fun e=>by rw[ρ];omega);have Y:=η (h.kExt O);have I0:¬K w.heap.size:=fun e=>by have:=h.klt _ e;omega
 have X0:=η I0;have c1:Hd (wb.heap.size<=w.heap.size):=η h.base.size;have k0:=y.cell 0;have k1:=y.cell 1;have k2:=y.cell 2;have x0:=η y;obtain⟨z,R⟩: ∃z,y0P (q1t P) d ex L=z:=⟨_,rfl⟩
 have HZ:=η R;rw[R];unfold y0P at R;clear I0 y b0;by_cases J:q0l d 0 L=0
 case neg=>
  rw[ξ J] at R;rw[R] at Q J;have hd:(z !=0)=true:=by simpa using J
  clear R D O;go_enter Tryz.func27,Tryz.ntmps27;go_wp2_with fail;refine Q.o.mono ?_;rintro e w1 ⟨rfl,D⟩;have I:=η D;clear D;go_wp2_with fail;refine(HN.o _ I.o).mono ?_;rintro e u0 ⟨rfl,rfl⟩;go_wp2_with fail;go_ret2;exact⟨.inl ⟨J,rfl,(F.o.grow I.o).beside fun i j=> .inl j⟩,Y.o.trans fun i j=>F.o.kExt I.o i (.inl j)⟩
 rw[κ (fun h=>h J)] at R;rw[J] at Q;obtain⟨p1,p2,p3,p4,p5,p6,p7⟩:=q0x J;by_cases a0:ex< -2
 ·rw[ξ a0] at R
  subst R;have hd:decide (ex< -2)=true:=ζ a0;clear D O;go_enter Tryz.func27,Tryz.ntmps27;go_wp2_with fail;refine Q.o.mono ?_;rintro e w1 ⟨rfl,D⟩;have I:=η D;clear D;go_wp2_with fail;refine(HN.o _ I.o).mono ?_;rintro e u0 ⟨rfl,rfl⟩;go_wp2_with fail;go_ret2;exact⟨.inl ⟨by decide,rfl,(F.o.grow I.o).beside fun i j=> .inl j⟩,Y.o.trans fun i j=>F.o.kExt I.o i (.inl j)⟩
 rw[κ a0] at R;have hd:decide (ex< -2)=false:=ε a0;have m1:q1J d=true:=by
  have:0<d.length:=List.length_pos_iff.2 p1;unfold q1J;rw[ζ (show 1<=d.length by omega),ζ p3];rfl
 have r0:z7s (q1t P) d=((N:Int)-1,0):=by unfold z7s;rw[ξ m1,q0]
 have i0:=η (fun W (k:Ext (w.alloc (.cells #[.string ⟨d.toArray⟩,.int .i64 0,.slice ao n cap] 119)) W)=>z9s (F.o.grow k) d hs (by omega) (by omega) r0);rw[q0] at R l1;have x1:N<=9000:=by omega
 by_cases U:ex≠ -2/\ex≠(N:Int)-1
 ·rw[ξ U] at R
  subst R;have e1:(ex != -2)=true:=by simpa using U.1
  have e2:(ex !=(N:Int)-1)=true:=by simpa using U.2
  clear D O;go_enter Tryz.func27,Tryz.ntmps27;go_wp2_with fail;refine Q.o.mono ?_;rintro e w1 ⟨rfl,D⟩;have I:=η D;clear D;go_wp2_with fail;refine(HN.o _ I.o).mono ?_;rintro e u0 ⟨rfl,rfl⟩;go_wp2_with fail;refine(i0.o _ I.o).mono ?_;rintro e w2 ⟨rfl,hh,l⟩;have c0:=η hh;have f0:=η l;clear hh l;go_wp2_with fail;go_ret2;exact⟨.inl ⟨by decide,rfl,c0.o.beside fun i j=> .inl j⟩,(Y.o.trans fun i j=>F.o.kExt I.o i (.inl j)).trans fun i j=>f0.o i (.inl j)⟩
 rw[κ U] at R;subst R;have p0:(ex != -2)=false\/((ex != -2)=true/\(ex !=(N:Int)-1)=false):=by
  by_cases h1:ex= -2
  ·exact .inl (by simpa using h1)
  ·by_cases h2:ex=(N:Int)-1
   ·exact .inr ⟨by simpa using h1,by simpa using h2⟩
   ·exact absurd ⟨h1,h2⟩ U
 have X:Hd (z4H ⟨d,N,L⟩):=η ⟨q9l (n:=N) J (by omega),n1⟩;have g1:=η D;have q1:IntKind.i64.wrap ((N:Int)-1+1)=(N:Int):=by rw[ν];omega
 clear a0 U O D;rcases p0 with p0|⟨p0,v1⟩
 all_goals
  go_enter Tryz.func27,Tryz.ntmps27;go_wp2_with fail;refine Q.o.mono ?_;rintro e w1 ⟨rfl,D⟩;have I:=η D;clear D;go_wp2_with fail;refine(HN.o _ I.o).mono ?_;rintro e u0 ⟨rfl,rfl⟩;go_wp2_with fail;refine(i0.o _ I.o).mono ?_;rintro e w2 ⟨rfl,hh,l⟩;have c0:=η hh;have f0:Hd (Stay K w w2):=η ((Y.o.trans fun i j=>F.o.kExt I.o i (.inl j)).trans fun i j=>l i (.inl j));have S:=η ((x0.o.ext I.o).same (l _ (.inr rfl)));clear hh l F Y x0 k0 k1 k2 I i0 HN Q;generalize w.heap.size=q at*;have f1:=S.o.free 1;have k0:=S.o.cell 0;have k1:=S.o.cell 1;have k2:=S.o.cell 2;have V:Hd (Blk (w2.setCell ⟨q,1,none⟩ (.int .i64 (N:Int))) q 119 #[.string ⟨d.toArray⟩,.int .i64 (N:Int),.slice ao n cap]):=η (S.o.set 1 (.int .i64 (N:Int)));have d0:=η (c0.o.poke (.inr rfl) c1.o 1 (.int .i64 (N:Int)));have m0:=η (f0.o.poke X0.o 1 (.int .i64 (N:Int)));have j0:=V.o.cell 0;have j1:=V.o.cell 1;have j2:=V.o.cell 2;have l0:=η (y0S (b:=⟨d,N,L⟩) _ (g1.o _ d0.o.base m0.o) X.o);have K0:=z2N X.o;obtain⟨p,hp⟩: ∃p,btB ⟨d,N,L⟩=p:=⟨_,rfl⟩
  have Y0:=η hp;rw[hp] at l0 K0;clear hp;go_wp2_with fail;refine l0.o.mono ?_;rintro e w4 ⟨rfl,D⟩;have G:=η (d0.o.grow D);have n0:=η (m0.o.trans fun i j=>d0.o.kExt D i (.inl j));have v0:=η (V.o.ext D);clear D l0 f1 k0 k1 k2 j0 j1 j2 V d0 m0 S c0 f0;have HA:=η (G.o.i.append p K0 hC);obtain⟨s0,s1,s2⟩:=G.o.cells;go_wp2_with fail;refine HA.o.mono ?_;rintro e w5 ⟨⟨f,x,C',v,F0,rfl,j⟩|⟨rfl,j,y1⟩,l⟩
  ·obtain⟨pos,rfl,L0,E⟩:=G.o.added (b:=⟨d,N,L⟩) X.o e0.o.symm hC (by rw[Y0.o];exact F0)
   have O0:=η E;have h0:=η (G.o.b.same (l gs (.inr rfl)));have P0:=η (v0.o.same (l q (.inl (.inr rfl))));have o0:=η (n0.o.trans fun i j=>l i (.inl (.inl j)));have W0:=η G.o.k.1;have u1:=η G.o.sdE;have N0: ∀k,(q1T (q0b sd pos ⟨d,N,L⟩ k) B).length<=B.length+k:=fun k=>by
    have h1:=q6U (q0b sd pos ⟨d,N,L⟩ k) B;rw[q3h] at h1;omega
   have a1:=η N0;have C0:=η (fun W=>z2o sd d W hs);have D0:Hd (∀k,k<n->q3Q (q2c sd pos ⟨d,N,L⟩ k)=true):=η (fun k hk=>z2e sd X.o.1 (by show k<L.length;omega) L0);have z0:=η (fun k=>q6z sd pos ⟨d,N,L⟩ k);have R0:Hd (∀k:Nat,q2c sd pos ⟨d,N,L⟩ k=(q2U sd d,(N:Int)+(k:Int),(pos:Int))):=η fun k=>rfl
   have T0:=η j;have r1:=h0.o.cell 2;have o1:=h0.o.cell 0;generalize q2U sd d=hh at*;clear E j l HA s0 s1 s2 F0 N0 G v0 n0;go_wp2_with fail;refine(C0.o _).mono ?_;rintro e z1 ⟨rfl,rfl⟩;clear r1 o1 C0;go_wp2_with fail
   go_loopw [83] (fun i W=> ∃k:Nat,k<=n/\i= .int .i64 (k:Int)/\IXG wb W g gx gl rate m (q1T (q0b sd pos ⟨d,N,L⟩ k) ws) c s (u+(p.length+24)) (cnt+1) (q1T (q0b sd pos ⟨d,N,L⟩ k) B) C' v (fun i=>(K i\/i=q)\/i=gs)/\Stay K w W/\
    Blk W gs 116 #[.pointer (some ⟨gl,0,none⟩),.pointer (some ⟨gx,0,none⟩),.int .u64 sd]/\Blk W q 119 #[.string ⟨d.toArray⟩,.int .i64 (N:Int),.slice ao n cap]) (fun i _=>n-(intOf i).toNat)
   case atStart=>exact⟨0,υ _,rfl,T0.o,o0.o,h0.o,P0.o⟩
   case round=>
    obtain⟨k,hk,rfl,j,t0,g0,y⟩:=hrel;have U0:=η j;have E0:=η t0;have A0:=η g0;have Q0:=η y;by_cases r0:k<n
    ·have i1:decide ((k:Int)<(n:Int))=true:=ζ (by omega)
     have E:=(j.grow (Ext.refl _).drew).add (D0.o k r0) (by have:=a1.o k;omega)
     rw [show∀M,q3X (q2c sd pos ⟨d,N,L⟩ k) (q1T (q0b sd pos ⟨d,N,L⟩ k) M)=q1T (q0b sd pos ⟨d,N,L⟩ (k+1)) M from fun M=>by
      rw[z0.o k,q3O (q0b sd pos ⟨d,N,L⟩ k)];rfl,show∀M,q3X (q2c sd pos ⟨d,N,L⟩ k) (q1T (q0b sd pos ⟨d,N,L⟩ k) M)=q1T (q0b sd pos ⟨d,N,L⟩ (k+1)) M from fun M=>by
      rw[z0.o k,q3O (q0b sd pos ⟨d,N,L⟩ k)];rfl,R0.o k] at E
     have HA:Hd (Calls Tryz.prog 76 #[.pointer (some ⟨gx,0,none⟩),.agg #[.int .u64 hh,.int .i64 ((N:Int)+(k:Int)),.int .i64 (pos:Int)]] wr.drew fun r w'=>r= .returned (.int .i64 0)/\
      IXG wb w' g gx gl rate m (q1T (q0b sd pos ⟨d,N,L⟩ (k+1)) ws) c s (u+(p.length+24)) (cnt+1) (q1T (q0b sd pos ⟨d,N,L⟩ (k+1)) B) C' v (fun i=>(K i\/i=q)\/i=gs)/\Stay (fun i=>(K i\/i=q)\/i=gs) wr.drew w'):=η E
     have q7:IntKind.i64.wrap ((N:Int)+(k:Int))=(N:Int)+(k:Int):=by rw[ν];omega
     have q8:IntKind.i64.wrap ((k:Int)+1)=(k:Int)+1:=by rw[ν];omega
     have d1:=q0A (Ext.refl _).drew (g0.cell 1);have d2:=q0A (Ext.refl _).drew (y.cell 1);clear j t0 g0 y E;go_wp2_with fail
     go_region_held3 (fun W=>W.cell? ⟨gs,1,none⟩=some (.pointer (some ⟨gx,0,none⟩))/\W.cell? ⟨q,1,none⟩=some (.int .i64 (N:Int)))
      (first|exact y0.o|exact⟨d1,d2⟩)
      (first|(go_at_call 76;refine HA.o.mono ?_;rintro e w7 ⟨rfl,j,hs⟩;have V0:=η j;have Z0:Hd (Stay K w w7):=η (E0.o.trans (fun i j=>hs i (.inl (.inl j))));have B0:=η (A0.o.same (hs gs (.inr rfl)));have w0:=η (Q0.o.same (hs q (.inl (.inr rfl))));have y0:=η (And.intro (B0.o.cell 1) (w0.o.cell 1));clear j hs))
     all_goals
      clear y0 d1 d2 HA;go_wp2_with fail
      go_roundw
      case rel=>exact⟨k+1,by omega,by go_num,V0.o,Z0.o,B0.o,w0.o⟩
      case measure=>simp[intOf];omega
    ·obtain rfl:k=n:=by omega
     have i1:decide ((k:Int)<(k:Int))=false:=ε (by omega);have k1:=y.cell 1;clear j t0 g0 y;go_wp2_with fail;go_ret2;have H0:=U0.o;rw[<-J0] at H0;have G0:=O0.o wr (u+2024) (cnt+1) v K ((H0.beside fun i j=>j.imp .inl id).mono (by omega) (ι _)) A0.o fun hk=>W0.o (.inl hk)
     have M0: ∃pos t1 B' C' v,(Ending.returned (.tuple #[.int .i64 (N:Int),.int .i64 0]))= .returned (.tuple #[.int .i64 ((q1U (q1t P) d).length:Int),.int .i64 0])/\
       StoP wb wr g gs gl gx rate m t1 sd c s (u+2024) (cnt+1) B' C' v (P++[(pos,⟨d,(q1U (q1t P) d).length,L⟩)]) K:=⟨pos,_,_,C',v,by rw[e0.o],by rw[e0.o];exact G0⟩
     exact⟨.inr (.inr ⟨rfl,by rw[e0.o];exact X.o,M0⟩),E0.o⟩
  ·have S0:=η (G.o.stay j l fun i j=> .inl j)
   have o0:=η (n0.o.trans fun i j=>l i (.inl (.inl j)));clear j l HA s0 s1 s2;go_wp2_with fail;go_ret2;exact⟨.inr (.inl ⟨rfl,rfl,S0.o.beside fun i j=> .inl j,by omega⟩),o0.o⟩
end
section
variable {wb w W W1 W2:World}{g gl gs gx rate:Nat}{m:Man}{ws:List En}{c s sd:Int}{u cnt:Nat}{B:List En}{C:Cks}{P:Pbs}{sure:Int}{K K':Nat->Prop}
end
theorem z3v{C:Cks}{P:Pbs}(h:q1B 0 C=q9T P)(pos:Int):q1y C pos=q9T (P.filter fun y=>decide (pos<=(y.1:Int))):=by
 unfold q1y;rw[h];unfold q9T;rw[List.filter_map]
 rfl
theorem q7Y(sd:Int){C:Cks}{P:Pbs}(h:q1B 0 C=q9T P)(b:okBs (q1t P))(pos:Int):z0u sd (q1y C pos)=some (q4H sd (P.filter fun y=>decide (pos<=(y.1:Int)))):=by
 rw[z3v h,z0f sd fun y d=>b.each (List.mem_map.2 ⟨y,(List.mem_filter.1 d).1,rfl⟩)]
theorem q5a{sd:Int}{P:Pbs}{pos:Int}:x∈q4H sd (P.filter fun y=>decide (pos<=(y.1:Int)))↔x∈q4H sd P/\pos<=x.2.2:=by
 rw[mem_entsP,mem_entsP]
 constructor
 ·rintro⟨y,d,k,b,rfl⟩
  obtain⟨h1,h2⟩:=List.mem_filter.1 d;exact⟨⟨y,h1,k,b,rfl⟩,by show pos<=(y.1:Int);simpa using h2⟩
 ·rintro⟨⟨y,d,k,b,rfl⟩,i⟩
  exact⟨y,List.mem_filter.2 ⟨d,ζ (show pos<=(y.1:Int) from i)⟩,k,b,rfl⟩
theorem z6z{P:Pbs}(h:okBs (q1t P)):P.length<=(tos (q1t P)).length:=by
 induction P using q9X with
 |h0=>exact υ _
 | h1 l a ih=>
  obtain⟨p,b⟩:=a;rw[q4C] at h⊢;obtain⟨h1,h2,_⟩:=okBs_snoc.1 h;have h3:=(q0x h2.1).2.1;have h4:=ih h1;have d:0<b.ev.length:=List.length_pos_iff.2 h3;rw[q2z,q7h,θ,θ,q3o,List.length_singleton];omega
theorem z8L{C:Cks}{P:Pbs}(i:okC C)(h:q1B 0 C=q9T P):P.Pairwise fun a b=>a.1<b.1:=by
 have h1:=q6g C 0 i.size;rw[h] at h1;unfold q9T at h1;rw[List.pairwise_map] at h1;exact h1.imp fun {a b} d=>by unfold z6q at d;simp only at d;omega
section
variable {wb w W W1 W2:World}{g gl gs gx rate:Nat}{m:Man}{ws:List En}{c s sd:Int}{u cnt:Nat}{B:List En}{C:Cks}{P:Pbs}{sure:Int}{K K':Nat->Prop}
structure y1y(sd:Int)(m:Man)(B:List En)(C:Cks)(P:Pbs):Prop where
 sdE:m.sd=sd
 recE:q1B 0 C=q9T P
 ok:okBs (q1t P)
 sub: ∀x∈B,x∈q4H sd P
 all: ∀x∈q4H sd P,x∈B\/m.ck<=x.2.2
 ckE:m.ck<=q4t C
theorem z9t(h:DKQ wb w g m c s u cnt B C K)(d:y1y sd m B C P)(X:0<=sd)(Y:sd<18446744073709551616)(b0:40<=cnt)(hN:(tos (q1t P)).length<=2000)(U:B.Nodup)(rate:Nat):
  Calls Tryz.prog 26 #[.pointer (some ⟨g,0,none⟩),.int .u64 sd,.float .f64 rate] w fun e w'=>
   ∃gs gl gx j ws B' sure,e= .returned (.tuple #[.pointer (some ⟨gs,0,none⟩),.int .i64 0])/\StoP wb w' g gs gl gx rate j ws sd c s u cnt B' C sure P K/\(j.nx<=m.nx\/j.nx=0)/\Stay K w w':=by
 have O:okC C:=by obtain⟨_,_,_,_,_,_,_,_,I⟩:=h;exact I
 have N:m.ok:=by obtain⟨st,_,_,_,rfl,_,_,⟨h4,_⟩,_⟩:=h;exact h4.man
 have d0:=z6z d.ok;have a0:B.length<=2000:=by
  have:=q6b U (m:=q4H sd P) fun x b=>d.sub x b
  rw[q6B] at this;omega
 have e0:(q1B 0 C).length<=2000:=by rw[d.recE,q7V];omega
 have c0:=(Man.bounds N).2.1;have HO:=η h.lopen;have f0:=h;clear h;go_enter Tryz.func26,Tryz.ntmps26;go_wp2_with fail;refine HO.o.mono ?_;rintro e w1 ⟨gl,rfl,hd,l⟩;have R:=η l;have HR:=η (z9o hd (by omega) (by omega) X Y rate);clear hd l HO;go_wp2_with fail;refine HR.o.mono ?_;rintro e G ⟨⟨gx,j,B2,D,an,rfl,E,V,hw⟩|⟨rfl,_,v⟩,l⟩
 case inr=>
  exfalso
  rcases v with⟨_,v⟩|v
  ·rw[q7Y sd d.recE d.ok] at v;cases v
  ·rw[q7Y sd d.recE d.ok] at v;cases v
 rw[q7Y sd d.recE d.ok] at V;obtain rfl:=Option.some.inj V;have J:j.sd=sd/\(j.nx<=m.nx\/j.nx=0)/\StI sd (q1T (q4H sd (P.filter fun y=>decide (j.ck<=(y.1:Int)))) B2) P/\j.ck<=q4t C/\ ∀x∈q1T (q4H sd (P.filter fun y=>decide (j.ck<=(y.1:Int)))) [],j.ck<=x.2.2:=by
  have r:=z8L O d.recE;rcases hw with⟨_,rfl,h1,h2,h3,h4⟩|⟨_,rfl,rfl,_⟩
  ·refine⟨h1,.inl (Int.le_refl _),⟨d.ok,r,fun x=>?_⟩,h2,fun x b=>?_⟩
   ·rw [mem_addEs,q5a,<-h4]
    constructor
    ·rintro(b|b)
     ·exact b.1
     ·exact d.sub x b
    ·intro b
     rcases d.all x b with I|I
     ·exact .inr I
     ·exact .inl ⟨b,I⟩
   ·rw[mem_addEs,q5a] at b
    rcases b with b|b
    ·exact b.2
    ·cases b
  ·refine⟨rfl,.inr rfl,⟨d.ok,r,fun x=>?_⟩,(z9J O).1,fun x b=>?_⟩
   ·rw [mem_addEs,q5a]
    constructor
    ·rintro(b|b)
     ·exact b.1
     ·cases b
    ·intro b
     obtain⟨y,hy,k,hk,rfl⟩:=mem_entsP.1 b;exact .inl ⟨b,by show(0:Int)<=(y.1:Int);omega⟩
   ·rw[mem_addEs,q5a] at b
    rcases b with b|b
    ·exact b.2
    ·cases b
 obtain⟨f1,f2,f3,f4,f5⟩:=J;have F:=q0B G (.cells #[.pointer (some ⟨gl,0,none⟩),.pointer (some ⟨gx,0,none⟩),.int .u64 sd] 116);have M:¬K G.heap.size:=fun e=>by have:=E.klt _ e;omega
 have HF:Hd (StoP wb (G.alloc (.cells #[.pointer (some ⟨gl,0,none⟩),.pointer (some ⟨gx,0,none⟩),.int .u64 sd] 116)) g G.heap.size gl gx rate j _ sd c s u cnt _ C (q4t C) P K):=η
  ⟨E.more F (fun i E=>E.imp id fun e=>by rw[ρ];omega),Blk.new G _ _,f1,d.recE,f3,f4,f5,⟨M,E.base.size⟩⟩
 have S:Hd (Stay K w (G.alloc (.cells #[.pointer (some ⟨gl,0,none⟩),.pointer (some ⟨gx,0,none⟩),.int .u64 sd] 116))):=η ((R.o.trans l).trans (E.kExt F));have Q:=η f2;clear E V hw l f1 f2 f3 f4 f5 F M HR;go_wp2_with fail;go_ret2;exact⟨_,gl,gx,j,_,_,_,rfl,HF.o,Q.o,S.o⟩
end
section
variable {wb w W W':World}{g gx gl rate:Nat}{m:Man}{ws:List En}{c s:Int}{u cnt:Nat}{B:List En}{C C':Cks}{sure sd:Int}{K K':Nat->Prop}
end
section
variable {wb w W W':World}{g gx gl rate:Nat}{m:Man}{ws:List En}{c s:Int}{u cnt:Nat}{B:List En}{C C':Cks}{sure sd:Int}{K K' Z:Nat->Prop}
end
end
end Go.Proofs.YteabhdclmodefaaGreatDoor
