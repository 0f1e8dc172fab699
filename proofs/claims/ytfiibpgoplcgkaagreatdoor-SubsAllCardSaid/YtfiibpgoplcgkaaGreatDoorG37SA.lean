/- Walks. -/
import Derived.Test.YtfiibpgoplcgkaaGreatDoorG17SA
import Derived.Test.YtfiibpgoplcgkaaGreatDoorG36SA
import Derived.Deep.RegionHeldLaw
set_option linter.unusedVariables false
set_option linter.unusedSimpArgs false
set_option maxRecDepth 100000
set_option maxHeartbeats 12800000
namespace Go.Proofs.YtfiibpgoplcgkaaGreatDoor
variable {ct k:Int}
section
open Go.RowKit
def SubI(W:World)(gu gs:Nat)(st own:List UInt8)(a v t:Int):Prop:=Blk W gu 167 #[.pointer (some ⟨gs,0,none⟩),.string ⟨st.toArray⟩,.string ⟨own.toArray⟩,.int .i64 a,.int .i64 v,.int .i64 t]
section
variable {wb w W W':World}{g gs gu rate u n:Nat}{sd c s a v t:Int}{bs:List Bt}{K K':Nat->Prop}{st own:List UInt8}{p:Option Addr}
theorem SubI.lt(h:SubI W gu gs st own a v t):gu<W.heap.size:=Blk.lt h
theorem SubI.ext(h:SubI W gu gs st own a v t)(k:Ext W W'):SubI W' gu gs st own a v t:=Blk.ext h k
theorem SubI.same(h:SubI W gu gs st own a v t)(k:W'.heap[gu]? =W.heap[gu]?):SubI W' gu gs st own a v t:=Blk.same h k
theorem q4p(h:SubI w gu gs st own a v t):Calls Tryz.prog 94 #[.pointer (some ⟨gu,0,none⟩)] w fun e w'=>e= .returned (.bool false)/\w=w':=by
 have k0:=Blk.cell h 0;clear h;go_enter Tryz.func94,Tryz.ntmps94;go_wp2_with fail;go_ret;exact⟨rfl,rfl⟩
theorem z2u(h:SubI w gu gs st own a v t):Calls Tryz.prog 42 #[.pointer (some ⟨gu,0,none⟩)] w fun e w'=>e= .returned (.int .i64 a)/\w=w':=by
 have b:=η (q4p h);have d:=Blk.cell h 3;clear h;go_enter Tryz.func42,Tryz.ntmps42;go_wp2_with fail;refine b.o.mono ?_;rintro e w1 ⟨rfl,rfl⟩;go_wp2_with fail;go_ret;exact⟨rfl,rfl⟩
theorem z1d(h:SubI w gu gs st own a v t):Calls Tryz.prog 43 #[.pointer (some ⟨gu,0,none⟩)] w fun e w'=>e= .returned (.int .i64 t)/\w=w':=by
 have b:=η (q4p h);have d:=Blk.cell h 5;clear h;go_enter Tryz.func43,Tryz.ntmps43;go_wp2_with fail;refine b.o.mono ?_;rintro e w1 ⟨rfl,rfl⟩;go_wp2_with fail;go_ret;exact⟨rfl,rfl⟩
theorem z7j(h:SubI w gu gs st own a v t):Calls Tryz.prog 49 #[.pointer (some ⟨gu,0,none⟩)] w fun e w'=>e= .returned (.tuple #[])/\w'=w.setCell ⟨gu,5,none⟩ (.int .i64 a):=by
 have b:=η (q4p h);have i:=Blk.cell h 3;have j:=Blk.cell h 5;have d:=Blk.free h 5;clear h;go_enter Tryz.func49,Tryz.ntmps49;go_wp2_with fail;refine b.o.mono ?_;rintro e w1 ⟨rfl,rfl⟩;go_wp2_with fail
 go_end0
 exact⟨rfl,rfl⟩
theorem SKS.pokeJ{wb W:World}{g gs rate u n k0:Nat}{sd c s:Int}{bs:List Bt}{K:Nat->Prop}(h:SKS wb W g gs rate sd c s u n bs k0 K){x:Nat}(hK:K x)(d:wb.heap.size<=x)(j:Nat)(v:Value):SKS wb (W.setCell ⟨x,j,none⟩ v) g gs rate sd c s u n bs k0 K:=
 h.sideM (by rw[World.size_setCell];exact ι _) ((OffS.set (F:=fun i=>i=x) W rfl j v).ext h.base fun i b=>by rw[b];exact d) (fun i b l=>heap_setCell_other _ _ _ _ fun e=>l (by rw[show i=x from e];exact hK)) fun i b=> .inl b
theorem z6e{bs:List Bt}{st:List UInt8}{fr:Int}(h:q2M st fr ct≠0):q3y bs st fr ct=[]:=κ h
theorem z1c{k0:Nat}(h:SKS wb w g gs rate sd c s u n bs k0 (fun i=>K i\/i=gu))(hn:n<=1000)(hg:¬K gu)(G:wb.heap.size<=gu)(d:SubI w gu gs st own a v t)(hs:st.length<=4611686018427387903)(b0:0<=t)(c0:t<=2147483648)(k:Int):
  Calls Tryz.prog 40 #[.pointer (some ⟨gu,0,none⟩),.int .i64 k] w fun e w'=> ∃x,e= .returned (.tuple #[x,.int .i64 (q2M st t k)])/\
   SKS wb w' g gs rate sd c s u n bs k0 (fun i=>(K i\/i=gu)\/x.ownBlock=some i)/\Stay K w w'/\w'.ownsRow wb.heap.size 69 5 x (q3y bs st t k).length (q5B (q3y bs st t k))/\(∀i,(K i\/i=gu)->x.ownBlock≠some i)/\
   SubI w' gu gs st own a v (t+((q3y bs st t k).length:Int)):=by
 have HN:=η (q4p d);by_cases I:k<1
 ·have hd:decide (k<(1:Int))=true:=ζ I
  have y:q2M st t k=2:=ξ (.inr (.inr I));have E:q3y bs st t k=[]:=z6e (by rw[y];decide);rw[y,E];have HS:=η h;have N:=η d;clear h d I y E;go_enter Tryz.func40,Tryz.ntmps40;go_wp2_with fail;refine HN.o.mono ?_;rintro e w1 ⟨rfl,rfl⟩;go_wp2_with fail;go_ret2;exact⟨.slice none 0 0,rfl,HS.o.beside (fun i d=>d.elim id fun e=>by cases e),fun i _=>rfl,World.ownsRow_nil _ _ _ _,(fun i _ e=>by cases e),by have:=N.o;show SubI w gu gs st own a v (t+0);rw[Int.add_zero];exact this⟩
 have hd:decide (k<(1:Int))=false:=ε I;have V:(q3y bs st t k).length<=8000:=by
  have C:=h.few;have q:=q3E bs st;have D:=y0k (bs:=bs) (st:=st) (fr:=t) (ct:=k);omega
 have M:=η ((h.grow (Ext.refl w).drew).forward hn st hs t k (by omega) (by omega));have l:SubI w.drew gu gs st own a v t:=d.ext (Ext.refl w).drew;have N:=η l;have k0:=Blk.cell l 0;have k1:=Blk.cell l 1;have Z:=Blk.cell l 5;have B:=η (fun h=>z6e (bs:=bs) (st:=st) (fr:=t) (ct:=k) h);obtain⟨F,hF⟩: ∃F,q3y bs st t k=F:=⟨_,rfl⟩
 obtain⟨z,Y⟩: ∃z,q2M st t k=z:=⟨_,rfl⟩
 rw[hF,Y] at M B;rw[hF] at V⊢;rw[Y];clear h d I l hF Y;go_enter Tryz.func40,Tryz.ntmps40;go_wp2_with fail;refine HN.o.mono ?_;rintro e w1 ⟨rfl,rfl⟩;go_wp2_with fail;have U:Hd (∀W:World,W.heap[gu]? =w.drew.heap[gu]? ->(W.cell? ⟨gu,0,none⟩=some (.pointer (some ⟨gs,0,none⟩))/\W.cell? ⟨gu,1,none⟩=some (.string ⟨st.toArray⟩)/\W.cell? ⟨gu,5,none⟩=some (.int .i64 t))):=η fun W h=>by
  have G:=N.o.same h;exact⟨Blk.cell G 0,Blk.cell G 1,Blk.cell G 5⟩
 refine q1U (fun W:World=>(W.cell? ⟨gu,0,none⟩=some (.pointer (some ⟨gs,0,none⟩))/\W.cell? ⟨gu,1,none⟩=some (.string ⟨st.toArray⟩)/\W.cell? ⟨gu,5,none⟩=some (.int .i64 t))) 17 (by kernel_rfl) ⟨k0,k1,Z⟩ (fun b=>?_);refine q0W 0 b (fun b=>?_)
 try simp only[Act.put,π,ψ,ω]
 refine q0W 1 b (fun b=>?_)
 try simp only[Act.put,π,ψ,ω]
 refine q0W 2 b (fun b=>?_)
 try simp only[Act.put,π,ψ,ω]
 refine q2x 3 b (fun b=>?_)
 try simp only[Act.put,π,ψ,ω]
 refine q0W 4 b (fun b=>?_)
 try simp only[Act.put,π,ψ,ω]
 refine q0W 5 b (fun b=>?_)
 try simp only[Act.put,π,ψ,ω]
 refine q0W 6 b (fun b=>?_)
 try simp only[Act.put,π,ψ,ω]
 refine q2x 7 b (fun b=>?_)
 try simp only[Act.put,π,ψ,ω]
 refine q0W 8 b (fun b=>?_)
 try simp only[Act.put,π,ψ,ω]
 refine q0W 9 b (fun b=>?_)
 try simp only[Act.put,π,ψ,ω]
 refine q0W 10 b (fun b=>?_)
 try simp only[Act.put,π,ψ,ω]
 refine q2x 11 b (fun b=>?_)
 try simp only[Act.put,π,ψ,ω]
 refine q0W 12 b (fun b=>?_)
 try simp only[Act.put,π,ψ,ω]
 refine q0e (i:=13) (by kernel_rfl) rfl (fun K9 hK=>?_)
 go_simp
 go_at_call 18
 refine M.o.mono ?_;rintro e J ⟨x,rfl,C,q,D,O⟩;obtain⟨fa,fc,rfl⟩:=q0G D;have j:=N.o.same (q gu (.inr rfl));clear b k0 k1 Z;refine hK.out _ _ (U.o _ (q gu (.inr rfl))) (fun b=>?_);clear hK K9
 try simp only[Act.put,π,ψ,ω]
 refine q0W 14 b (fun b=>?_)
 try simp only[Act.put,π,ψ,ω]
 refine q0W 15 b (fun b=>?_)
 try simp only[Act.put,π,ψ,ω]
 refine q0W 16 b (fun b=>?_)
 try simp only[Act.put,π,ψ,ω]
 refine q1k (by kernel_rfl) ?_
 try simp only[List.drop_succ_cons,List.drop_zero]
 clear b;by_cases r:z=0
 case neg=>
  have a0:(z !=0)=true:=by simpa using r
  have S:=η (B.o r);have Q:=η (C.beside (K':=fun i=>(K i\/i=gu)\/(Value.slice none 0 0).ownBlock=some i) fun i d=>d.elim .inl fun e=>by cases e);have R:Hd (Stay K w J):=η fun i d=>q i (.inl d)
  have m:=η j;clear C q D O j M;go_wp2_with fail;go_ret2;rw[S.o];exact⟨.slice none 0 0,rfl,Q.o,R.o,World.ownsRow_nil _ _ _ _,(fun i _ e=>by cases e),by show SubI J gu gs st own a v (t+0);rw[Int.add_zero];exact m.o⟩
 ·subst r
  have q1:IntKind.i64.wrap (t+(F.length:Int))=t+(F.length:Int):=by rw[ν];omega
  have Z:=Blk.cell j 5;have f5:=Blk.free j 5;have Q:=η (C.pokeJ (x:=gu) (.inl (.inr rfl)) G 5 (.int .i64 (t+(F.length:Int))));have R:Hd (Stay K w (J.setCell ⟨gu,5,none⟩ (.int .i64 (t+(F.length:Int))))):=η fun i d=>(Below.heap_setCell _ _ _ _ fun e=>hg (by rw[<-show i=gu from e];exact d)).trans (q i (.inl d))
  have H3:=η (q0z D (w':=J.setCell ⟨gu,5,none⟩ (.int .i64 (t+(F.length:Int)))) fun i d=>Below.heap_setCell _ _ _ _ fun e=>O gu (.inr rfl) (d.trans (congrArg some e)));have m:Hd (SubI (J.setCell ⟨gu,5,none⟩ (.int .i64 (t+(F.length:Int)))) gu gs st own a v (t+(F.length:Int))):=η (Blk.set j 5 _);have H4:=η O;clear C q D O j M;go_wp2_with fail;go_ret2;exact⟨_,rfl,Q.o,R.o,H3.o,H4.o,m.o⟩
def q6L(t:Int):Ev:=⟨[97,116],Lib.decDigits t.toNat,0⟩
def z3J(bs:List Bt)(own:List UInt8)(a v t:Int):Int:=if t=a then 0 else z4V bs own v [q6L t]
def z5n(bs:List Bt)(own:List UInt8)(a v t:Int):List Bt:=if t=a then bs else if z4V bs own v [q6L t]=0 then bs++[⟨own,(q0N bs own).length,[q6L t]⟩] else bs
def z5m(bs:List Bt)(own:List UInt8)(a v t:Int):Int:=if z3J bs own a v t=0 then t else a
def z9v(bs:List Bt)(own:List UInt8)(a v t:Int):Int:=if t=a then v else if z4V bs own v [q6L t]=0 then((q0N bs own).length:Int) else v
theorem z4L{k0:Nat}(h:SKS wb w g gs rate sd c s u n bs k0 (fun i=>K i\/i=gu))(hn:n<=86)(p0:(u:Int)+8024<=c)(hg:¬K gu)(S:wb.heap.size<=gu)(j:SubI w gu gs st own a v t)(hs:own.length<=4611686018427387903)(s0:0<=t)(t0:t<=1073741825)(hw:SbW w):
  Calls Tryz.prog 41 #[.pointer (some ⟨gu,0,none⟩)] w fun e w'=>e= .returned (.int .i64 (z3J bs own a v t))/\
   SKS wb w' g gs rate sd c s (u+2024) (n+1) (z5n bs own a v t) k0 (fun i=>K i\/i=gu)/\Stay K w w'/\SubI w' gu gs st own (z5m bs own a v t) (z9v bs own a v t) t:=by
 have HN:=η (q4p j);have c0:=η h;have k5:=Blk.cell j 5;have k3:=Blk.cell j 3;have u5:=q0D k5;have u3:=q0D k3;have N:=η j;by_cases d:t=a
 ·have hd:(t==a)=true:=by simpa using d
  have HZ:Hd (z3J bs own a v t=0/\z5n bs own a v t=bs/\z5m bs own a v t=t/\z9v bs own a v t=v):=η (by
   have h0:z3J bs own a v t=0:=ξ d
   exact⟨h0,ξ d,by unfold z5m;rw[ξ h0],ξ d⟩)
  have a0:=η h;have m0:=η d;clear h j d;go_enter Tryz.func41,Tryz.ntmps41;go_wp2_with fail;refine HN.o.mono ?_;rintro e w1 ⟨rfl,rfl⟩;go_wp2_with fail;refine q0E (by kernel_rfl) (by kernel_rfl) ?_
  repeat (go_big_quiet_step (fail))
  refine wpQuiet_nil ?_;intro w2 q;have G:=η q;clear q u5 u3 k5 k3;go_wp2_with fail;go_ret;obtain⟨z1,z2,z3,z4⟩:=HZ.o;rw[z1,z2,z3,z4];have hh:=N.o.ext G.o;rw[<-m0.o] at hh;exact⟨rfl,(a0.o.grow G.o).mono (by omega) (by omega),fun i j=>a0.o.kExt G.o i (.inl j),hh⟩
 have hd:(t==a)=false:=beq_eq_false_iff_ne.2 d;obtain⟨z,hz⟩: ∃z,z4V bs own v [q6L t]=z:=⟨_,rfl⟩
 have HZ:Hd (z3J bs own a v t=z/\z5n bs own a v t=(if z=0 then bs++[⟨own,(q0N bs own).length,[q6L t]⟩] else bs)/\z5m bs own a v t=(if z=0 then t else a)/\z9v bs own a v t=(if z=0 then((q0N bs own).length:Int) else v)):=η (by
  have h0:z3J bs own a v t=z:=by unfold z3J;rw[κ d,hz]
  exact⟨h0,by unfold z5n;rw[κ d,hz],by unfold z5m;rw[h0],by unfold z9v;rw[κ d,hz]⟩)
 obtain⟨F,i0⟩: ∃F:Nat,t=(F:Int):=⟨t.toNat,by omega⟩
 have HT:=η (fun W (k:Ext w W)=>y0C F (by omega) W (hw.1.ext k));have hE:q6L t=⟨[97,116],Lib.decDigits F,0⟩:=by rw[i0];rfl
 obtain⟨D,hD⟩: ∃D,Lib.decDigits F=D:=⟨_,rfl⟩
 have q0:D.length<=11:=by rw[<-hD];have:=z0n (n:=F) (by omega);omega
 rw[hD] at HT hE;have HE:=η hE;have o0:=η hz;subst i0;clear h j d hz hD hE hw;go_enter Tryz.func41,Tryz.ntmps41;go_wp2_with fail;refine HN.o.mono ?_;rintro e w1 ⟨rfl,rfl⟩;go_wp2_with fail;refine q0E (by kernel_rfl) (by kernel_rfl) ?_
 repeat (go_big_quiet_step (fail))
 refine wpQuiet_nil ?_;intro w2 q;have G:=η q;have C:Hd (Ext w w2.drew):=η q.drew;have O:=η (N.o.ext C.o);have B:Hd (∀W:World,W.heap[gu]? =w2.drew.heap[gu]? ->(W.cell? ⟨gu,0,none⟩=some (.pointer (some ⟨gs,0,none⟩))/\W.cell? ⟨gu,2,none⟩=some (.string ⟨own.toArray⟩)/\W.cell? ⟨gu,4,none⟩=some (.int .i64 v)/\W.cell? ⟨gu,5,none⟩=some (.int .i64 (F:Int)))):=η fun W h=>by
  have S:=O.o.same h;exact⟨Blk.cell S 0,Blk.cell S 2,Blk.cell S 4,Blk.cell S 5⟩
 clear q u5 u3 k5 k3;go_wp2_with fail;refine q1U (fun W:World=>(W.cell? ⟨gu,0,none⟩=some (.pointer (some ⟨gs,0,none⟩))/\W.cell? ⟨gu,2,none⟩=some (.string ⟨own.toArray⟩)/\W.cell? ⟨gu,4,none⟩=some (.int .i64 v)/\W.cell? ⟨gu,5,none⟩=some (.int .i64 (F:Int)))) 23 (by kernel_rfl) (B.o _ rfl) (fun b=>?_);refine q0W 0 b (fun b=>?_)
 try simp only[Act.put,π,ψ,ω]
 refine q0W 1 b (fun b=>?_)
 try simp only[Act.put,π,ψ,ω]
 refine q0W 2 b (fun b=>?_)
 try simp only[Act.put,π,ψ,ω]
 refine q2x 3 b (fun b=>?_)
 try simp only[Act.put,π,ψ,ω]
 refine q0W 4 b (fun b=>?_)
 try simp only[Act.put,π,ψ,ω]
 refine q0W 5 b (fun b=>?_)
 try simp only[Act.put,π,ψ,ω]
 refine q0W 6 b (fun b=>?_)
 try simp only[Act.put,π,ψ,ω]
 refine q2x 7 b (fun b=>?_)
 try simp only[Act.put,π,ψ,ω]
 refine q0W 8 b (fun b=>?_)
 try simp only[Act.put,π,ψ,ω]
 refine q0W 9 b (fun b=>?_)
 try simp only[Act.put,π,ψ,ω]
 refine q0W 10 b (fun b=>?_)
 try simp only[Act.put,π,ψ,ω]
 refine q2x 11 b (fun b=>?_)
 try simp only[Act.put,π,ψ,ω]
 refine q0W 12 b (fun b=>?_)
 try simp only[Act.put,π,ψ,ω]
 refine q0W 13 b (fun b=>?_)
 try simp only[Act.put,π,ψ,ω]
 refine q0W 14 b (fun b=>?_)
 try simp only[Act.put,π,ψ,ω]
 refine q2x 15 b (fun b=>?_)
 try simp only[Act.put,π,ψ,ω]
 refine q0e (i:=16) (by kernel_rfl) rfl (fun K9 hK=>?_)
 go_simp
 go_at_call 95
 refine(HT.o _ C.o).mono ?_;rintro e w3 ⟨rfl,hx⟩;have Q:=η (C.o.trans hx);have U:=hx.block gu O.o.lt;clear b;refine hK.out _ _ (B.o _ U) (fun b=>?_);clear hK K9
 try simp only[Act.put,π,ψ,ω]
 refine q0W 17 b (fun b=>?_)
 try simp only[Act.put,π,ψ,ω]
 have J:=q0B w3 (.cells #[.string ⟨#[97,116]⟩,.string ⟨D.toArray⟩,.float .f64 0] 67);have e0:=Blk.new w3 67 #[.string ⟨#[97,116]⟩,.string ⟨D.toArray⟩,.float .f64 0];have g0:=c0.o.grow Q.o;have f0:=g0.more (K':=fun i=>(K i\/i=gu)\/i=w3.heap.size) J fun i j=>j.imp id fun e=>⟨by omega,by rw[ρ];omega⟩
 have R:=f0.append hn own hs v (z:=z) (L:=[⟨[97,116],D,0⟩]) (fun W _ ss=>(by
  have:=(e0.same (ss _ (.inr rfl))).evs (L:=[⟨[97,116],D,0⟩]) (k:=1) (by simp) (by simp)
  rwa [Δ (by simp)] at this)) (fun e he=>by rw[List.mem_singleton.1 he];exact⟨by simp,by show D.length<=_;omega⟩) (fun e he=>by rw[List.mem_singleton.1 he];show(0:Nat)<_;omega) (by rw[<-HE.o];exact o0.o)
 rw[<-HE.o] at R;have Z:=η R;have n0:=η (Q.o.trans J);have Y:=(J.block gu (by have:=(N.o.ext Q.o).lt;exact this)).trans U;have j0:=η Y;clear J e0 g0 f0 R U;refine q0e (i:=18) (by kernel_rfl) rfl (fun K9 hK=>?_)
 go_simp
 refine hK.out _ _ (B.o _ Y) (fun b=>?_);clear hK K9
 try simp only[Act.put,π,ψ,ω]
 refine q0e (i:=19) (by kernel_rfl) rfl (fun K9 hK=>?_)
 go_simp
 go_at_call 38
 refine Z.o.mono ?_;rintro e w5 ⟨x,y,d0,rfl,h1,h2,l⟩;have V:=(h2 gu (.inl (.inr rfl))).trans j0.o;have b0:=η (h1.beside (K':=fun i=>K i\/i=gu) fun i j=> .inl j);have M:Hd (Stay (fun i=>K i\/i=gu) w w5):=η fun i j=>(h2 i (.inl j)).trans (c0.o.kExt n0.o i j)
 have r:=η (O.o.same V);clear b Y;refine hK.out _ _ (B.o _ V) (fun b=>?_);clear hK K9 h1 h2 V Z
 try simp only[Act.put,π,ψ,ω]
 refine q0W 20 b (fun b=>?_)
 try simp only[Act.put,π,ψ,ω]
 refine q0W 21 b (fun b=>?_)
 try simp only[Act.put,π,ψ,ω]
 refine q0W 22 b (fun b=>?_)
 try simp only[Act.put,π,ψ,ω]
 refine q1k (by kernel_rfl) ?_
 try simp only[List.drop_succ_cons,List.drop_zero]
 clear b B;by_cases m:z=0
 case neg=>
  obtain⟨rfl,rfl,rfl⟩:x=0/\y=z/\d0=bs:=by
   rcases l with⟨_,l,h4,h5⟩|⟨l,_⟩|⟨l,_⟩
   ·exact⟨l,h4,h5⟩
   ·exact absurd l m
   ·exact absurd l m
  have r0:(y !=0)=true:=by simpa using m
  clear l;go_wp2_with fail;go_ret;obtain⟨z1,z2,z3,z4⟩:=HZ.o;rw[z1,z2,z3,z4,κ m,κ m,κ m];exact⟨rfl,b0.o,fun i j=>M.o i (.inl j),r.o⟩
 ·subst m
  obtain⟨rfl,rfl,rfl⟩:x=((q0N bs own).length:Int)/\y=0/\d0=bs++[⟨own,(q0N bs own).length,[q6L (F:Int)]⟩]:=by
   rcases l with⟨l,_⟩|⟨_,_,_,_,l⟩|⟨_,l,h4,h5⟩
   ·exact absurd rfl l
   ·omega
   ·exact⟨l,h4,h5⟩
  have k5:=Blk.cell r.o 5;have k3:=Blk.cell r.o 3;have f3:=Blk.free r.o 3;have I:=Blk.set r.o 3 (.int .i64 (F:Int));have k4:=Blk.cell I 4;have f4:=Blk.free I 4;have l0:=η (Blk.set I 4 (.int .i64 ((q0N bs own).length:Int)));generalize q0N bs own=E at*;clear l I;go_wp2_with fail;go_ret;obtain⟨z1,z2,z3,z4⟩:=HZ.o;rw[z1,z2,z3,z4]
  try simp only[if_true]
  exact⟨rfl,(b0.o.pokeJ (x:=gu) (.inr rfl) S 3 _).pokeJ (x:=gu) (.inr rfl) S 4 _,fun i j=>((Below.heap_setCell _ _ _ _ fun e=>hg (by rw[<-show i=gu from e];exact j)).trans (Below.heap_setCell _ _ _ _ fun e=>hg (by rw[<-show i=gu from e];exact j))).trans (M.o i (.inl j)),l0.o⟩
end
theorem z3g{bs:List Bt}{st:List UInt8}{nx:Int}(h:q2M st nx ct=0):q3y bs st nx ct=((q5Y bs st).drop nx.toNat).take ct.toNat:=by unfold q3y;rw[ξ h];rfl
theorem z8Q{bs:List Bt}{st:List UInt8}{M:Int}(h:q2M st M ct=0)(b:0<=M)(i:M<((q0N bs st).length:Int))(d:1<=ct):y0W bs st M ct=(((q5Y bs st).take (M+1).toNat).reverse).take ct.toNat:=by
 unfold y0W z1Q;rw[ξ h,List.take_reverse,Θ,q2N,Nat.min_eq_left (by omega),List.drop_take]
 congr 2
 ·omega
 ·congr 1;omega
def z1p(bs:List Bt)(own:List UInt8):Ev:=(q0N bs own).getD ((q0N bs own).length-1) ev0
def z4K(e:Ev):Bool:=decide (e.ty=[97,116])&&(q8T e.da).isSome
def z2t(bs:List Bt)(name st:List UInt8):Int:=if name=[]\/31<name.length\/q1n st=false\/st=126::name then 2 else if (q0N bs (126::name)).length=0 then 0 else if z4K (z1p bs (126::name))=true then 0 else 10
def z5V(bs:List Bt)(name:List UInt8):Int:=if (q0N bs (126::name)).length=0 then 0 else(((q8T (z1p bs (126::name)).da).getD 0:Nat):Int)
theorem q6r{s:List UInt8}(h:q1n s=true):1<=s.length/\s.length<=32:=by
 unfold q1n at h;rw[Ξ] at h;exact⟨of_decide_eq_true h.1,of_decide_eq_true h.2⟩
theorem z9G(bs:List Bt)(st:List UInt8){len:Nat}(j:q1n st=true)(b:(q0N bs st).length=len+1)(m:len<=1000000):y0W bs st (len:Int) 1=[⟨st,(len:Int),z1p bs st⟩]/\q2M st (len:Int) 1=0:=by
 have d:q2M st (len:Int) 1=0:=κ (by rintro(h|h|h);rw[j] at h;cases h;omega;omega);refine⟨?_,d⟩;rw[z8Q d (by omega) (by omega) (by omega),show((len:Int)+1).toNat=len+1 by omega];have l:(q5Y bs st).length=len+1:=by rw[q2N,b]
 have i:=q7y st (q0N bs st) 0 len (by omega);have e:(q5Y bs st).take (len+1)=(q5Y bs st).take len++[(q5Y bs st).getD len to0]:=by
  rw[List.take_succ_eq_append_getElem (by omega),δ,γ (by omega)];rfl
 rw[e,List.reverse_append];show [(q5Y bs st).getD len to0]=_;unfold q5Y;rw[i];unfold z1p;rw[b,Nat.zero_add]
 rfl
section
variable {wb w W W':World}{g gs gu b3 bu rate u n:Nat}{sd c s a v t:Int}{bs:List Bt}{K K':Nat->Prop}{st own:List UInt8}{p:Option Addr}
theorem z7k{k0:Nat}(h:SKS wb w g gs rate sd c s u n bs k0 K)(hn:n<=1000)(h3:K b3)(hu:K bu)(hg:K gu)(p0:b3≠gu)(x0:bu≠gu)(c0:wb.heap.size<=gu)(q:SubI w gu gs st own 0 (-1) 0)(Y:Blk w b3 32 #[.pointer (some ⟨gs,0,none⟩)])(Z:Blk w bu 103 #[.pointer (some ⟨gu,0,none⟩)])
  (w0:q1n own=true){len:Nat}(hl:(q0N bs own).length=len+1)(hw:SbW wb):
  Calls Tryz.prog 92 #[.int .i64 (len:Int),.pointer (some ⟨b3,0,none⟩),.pointer (some ⟨bu,0,none⟩)] w fun e w'=>
   e = .returned (.int .i64 (if z4K (z1p bs own)=true then 0 else 10))/\SKS wb w' g gs rate sd c s u n bs k0 K/\(∀i,K i->i≠gu->w'.heap[i]? =w.heap[i]?)/\
    (z4K (z1p bs own)=true->SubI w' gu gs st own (((q8T (z1p bs own).da).getD 0:Nat):Int) (len:Int) (((q8T (z1p bs own).da).getD 0:Nat):Int)):=by
 have u0:=h.few;have D0:=q3E bs own;obtain⟨q0,r0⟩:=z9G bs own w0 hl (by omega);have K0:=q6r w0;have a0:=h.grow (Ext.refl w).drew|>.backward hn own (by omega) (len:Int) 1 (by omega) (by decide);rw[q0,r0] at a0;have M:=η a0;have HS:=η h;obtain⟨E,hE⟩: ∃E,z1p bs own=E:=⟨_,rfl⟩
 have J:E.da.length<=1000000:=by
  have hm:z1p bs own∈q0N bs own:=by
   unfold z1p;rw[δ,γ (by omega)];exact List.getElem_mem _
  rw[hE] at hm;obtain⟨l,E0,F0⟩:=List.mem_flatten.1 hm;obtain⟨b,C0,rfl⟩:=List.mem_map.1 E0;have H0:=h.ok.each (List.mem_filter.1 C0).1;have:=(q2c (q5o (q1B H0.1).2.2.2.2.2.2 _ F0)).2.2;omega
 rw[hE] at M⊢;have S:Hd (∀W:World,(∀i,K i->W.heap[i]? =w.heap[i]?)->(W.cell? ⟨b3,0,none⟩=some (.pointer (some ⟨gs,0,none⟩))/\W.cell? ⟨bu,0,none⟩=some (.pointer (some ⟨gu,0,none⟩))/\W.cell? ⟨gu,2,none⟩=some (.string ⟨own.toArray⟩))):=η fun W h=>
  ⟨(Y.same (h b3 h3)).cell 0,(Z.same (h bu hu)).cell 0,Blk.cell (q.same (h gu hg)) 2⟩
 have HI:=η q;have j0:=η Z;have i0:=η Y;have HW:=η (fun W (k:Ext wb W)=>hw.ext k);obtain⟨bq,b0⟩: ∃b,z4K E=b:=⟨_,rfl⟩
 obtain⟨xq,g0⟩: ∃x:Nat,(q8T E.da).getD 0=x:=⟨_,rfl⟩
 rw[b0,g0];obtain⟨zq,h0⟩: ∃z:Int,(if bq=true then(0:Int) else 10)=z:=⟨_,rfl⟩
 rw[h0];have N:=η b0;have B0:=η g0;have V:=η h0;clear h q Y Z a0 q0 r0 hE hw u0 D0 b0 g0 h0;obtain⟨ty,da,we⟩:=E;simp only at J;go_enter Tryz.func92,Tryz.ntmps92;go_wp2_with fail;refine q1U (fun W:World=>(W.cell? ⟨b3,0,none⟩=some (.pointer (some ⟨gs,0,none⟩))/\W.cell? ⟨bu,0,none⟩=some (.pointer (some ⟨gu,0,none⟩))/\W.cell? ⟨gu,2,none⟩=some (.string ⟨own.toArray⟩))) 10 (by kernel_rfl) (S.o _ fun i _=>rfl) (fun d=>?_);refine q2x 0 d (fun d=>?_)
 try simp only[Act.put,π,ψ,ω]
 refine q2x 1 d (fun d=>?_)
 try simp only[Act.put,π,ψ,ω]
 refine q0W 2 d (fun d=>?_)
 try simp only[Act.put,π,ψ,ω]
 refine q0W 3 d (fun d=>?_)
 try simp only[Act.put,π,ψ,ω]
 refine q2x 4 d (fun d=>?_)
 try simp only[Act.put,π,ψ,ω]
 refine q0W 5 d (fun d=>?_)
 try simp only[Act.put,π,ψ,ω]
 refine q0e (i:=6) (by kernel_rfl) rfl (fun K9 hK=>?_)
 go_simp
 go_at_call 54
 refine M.o.mono ?_;rintro e w2 ⟨x,rfl,h1,h2,o0,h4⟩;have y:w2.ownsRow wb.heap.size 69 5 x 1 (q5B [⟨own,(len:Int),⟨ty,da,we⟩⟩]):=o0;obtain⟨fa,fc,rfl⟩:=q0G y;have e0: ∀i,K i->w2.heap[i]? =w.heap[i]? :=fun i q=>h2 i q
 clear d o0;refine hK.out _ _ (S.o _ e0) (fun d=>?_);clear hK K9
 try simp only[Act.put,π,ψ,ω]
 refine q0W 7 d (fun d=>?_)
 try simp only[Act.put,π,ψ,ω]
 refine q0W 8 d (fun d=>?_)
 try simp only[Act.put,π,ψ,ω]
 refine q0W 9 d (fun d=>?_)
 try simp only[Act.put,π,ψ,ω]
 refine q1k (by kernel_rfl) ?_
 try simp only[List.drop_succ_cons,List.drop_zero]
 clear d;obtain⟨bb,off,rfl,d0,d1,d2,d3,d4⟩:=(q5b (n:=1) (L:=[⟨own,(len:Int),⟨ty,da,we⟩⟩]) y).1.at (i:=0) (by decide);simp only[List.getD_cons_zero,Nat.zero_mul,Nat.add_zero] at d0 d1 d2 d3 d4;have R:=η (h1.beside (K':=K) fun i q=> .inl q);have n0:=η e0;have l0:=η (z5J da J w2 (HW.o _ h1.base));clear h1 h2 y h4 e0 M;by_cases f0:ty=[97,116]
 case neg=>
  have J0:(ty==[97,116])=false:=beq_eq_false_iff_ne.2 f0;have HZ:Hd (z4K ⟨ty,da,we⟩=false):=η (by unfold z4K;rw[ε f0];rfl);have I:bq=false:=N.o.symm.trans HZ.o;have hz:zq=10:=by rw[<-V.o,I];rfl
  subst I;subst hz;go_wp2_with fail;go_ret;exact⟨rfl,R.o,(fun i q _=>n0.o i q),fun h=>by cases h⟩
 subst f0;have HZ:Hd (z4K ⟨[97,116],da,we⟩=(q8T da).isSome):=η (by unfold z4K;rw[ζ rfl];rfl);go_wp2_with fail;refine l0.o.mono ?_;rintro e r ⟨nv,nb,rfl,hx,v0⟩;have m0:=η (R.o.grow hx);have j:Hd (∀i,K i->r.heap[i]? =w.heap[i]?):=η fun i q=>(R.o.kExt hx i q).trans (n0.o i q)
 have Q:=η v0;clear hx v0 l0 d0 d1 d2 d3 d4
 cases nb with
 | false=>
  have U:Hd (z4K ⟨[97,116],da,we⟩=false):=η (by rw[HZ.o,Q.o.2 rfl];rfl);have I:bq=false:=N.o.symm.trans U.o;have hz:zq=10:=by rw[<-V.o,I];rfl
  subst I;subst hz;go_wp2_with fail;go_ret;exact⟨rfl,m0.o,(fun i q _=>j.o i q),fun h=>by cases h⟩
 | true=>
  obtain⟨D,I0⟩:=Q.o.1 rfl;obtain⟨m,rfl⟩: ∃m:Nat,nv=(m:Int):=⟨nv.toNat,by omega⟩
  rw[Int.toNat_natCast] at D;have U:Hd (z4K ⟨[97,116],da,we⟩=true):=η (by rw[HZ.o,D];rfl);have HQ:Hd ((q8T da).getD 0=m):=η (by rw[D];rfl);clear D I0 Q;have I:bq=true:=N.o.symm.trans U.o;have hx:xq=m:=B0.o.symm.trans HQ.o;have hz:zq=0:=by rw[<-V.o,I];rfl
  subst I;subst hz;obtain rfl:m=xq:=hx.symm;have hc:=S.o r.drew j.o;go_wp2_with fail;have O:=η (HI.o.same (j.o gu hg));refine q1U (fun W:World=>(W.cell? ⟨b3,0,none⟩=some (.pointer (some ⟨gs,0,none⟩))/\W.cell? ⟨bu,0,none⟩=some (.pointer (some ⟨gu,0,none⟩))/\W.cell? ⟨gu,2,none⟩=some (.string ⟨own.toArray⟩))) 12 (by kernel_rfl) hc (fun d=>?_);refine q2x 0 d (fun d=>?_)
  try simp only[Act.put,π,ψ,ω]
  refine q2x 1 d (fun d=>?_)
  try simp only[Act.put,π,ψ,ω]
  refine q2x 2 d (fun d=>?_)
  try simp only[Act.put,π,ψ,ω]
  refine q0W 3 d (fun d=>?_)
  try simp only[Act.put,π,ψ,ω]
  refine q0W 4 d (fun d=>?_)
  try simp only[Act.put,π,ψ,ω]
  refine q0W 5 d (fun d=>?_)
  try simp only[Act.put,π,ψ,ω]
  refine q0W 6 d (fun d=>?_)
  try simp only[Act.put,π,ψ,ω]
  refine q0W 7 d (fun d=>?_)
  try simp only[Act.put,π,ψ,ω]
  have k3:=Blk.cell O.o 3;have f3:=Blk.free O.o 3;have B:=Blk.set O.o 3 (.int .i64 (m:Int));have k5:=Blk.cell B 5;have f5:=Blk.free B 5;have C:=Blk.set B 5 (.int .i64 (m:Int));have k4:=Blk.cell C 4;have f4:=Blk.free C 4;have y0:Hd (SubI (((r.setCell ⟨gu,3,none⟩ (.int .i64 (m:Int))).setCell ⟨gu,5,none⟩ (.int .i64 (m:Int))).setCell ⟨gu,4,none⟩ (.int .i64 (len:Int))) gu gs st own (m:Int) (len:Int) (m:Int)):=η (Blk.set C 4 (.int .i64 (len:Int)));have A0:=η (((m0.o.pokeJ (x:=gu) hg c0 3 (.int .i64 (m:Int))).pokeJ (x:=gu) hg c0 5 (.int .i64 (m:Int))).pokeJ (x:=gu) hg c0 4 (.int .i64 (len:Int)));have F:Hd (∀i,i≠gu->(r.setCell ⟨gu,3,none⟩ (.int .i64 (m:Int))).heap[i]? =r.heap[i]?):=η fun i q=>by
   rw[Below.heap_setCell _ _ _ _ q]
  have G:Hd (∀i,i≠gu->((r.setCell ⟨gu,3,none⟩ (.int .i64 (m:Int))).setCell ⟨gu,5,none⟩ (.int .i64 (m:Int))).heap[i]? =r.heap[i]?):=η fun i q=>by
   rw[Below.heap_setCell _ _ _ _ q,Below.heap_setCell _ _ _ _ q]
  have z0:Hd (∀i,i≠gu->(((r.setCell ⟨gu,3,none⟩ (.int .i64 (m:Int))).setCell ⟨gu,5,none⟩ (.int .i64 (m:Int))).setCell ⟨gu,4,none⟩ (.int .i64 (len:Int))).heap[i]? =r.heap[i]?):=η fun i q=>by
   rw[Below.heap_setCell _ _ _ _ q,Below.heap_setCell _ _ _ _ q,Below.heap_setCell _ _ _ _ q]
  have s0:((r.setCell ⟨gu,3,none⟩ (.int .i64 (m:Int))).drew.cell? ⟨b3,0,none⟩=some (.pointer (some ⟨gs,0,none⟩))/\(r.setCell ⟨gu,3,none⟩ (.int .i64 (m:Int))).drew.cell? ⟨bu,0,none⟩=some (.pointer (some ⟨gu,0,none⟩))/\(r.setCell ⟨gu,3,none⟩ (.int .i64 (m:Int))).drew.cell? ⟨gu,2,none⟩=some (.string ⟨own.toArray⟩)):=
   ⟨Blk.cell (i0.o.same ((F.o b3 p0).trans (j.o b3 h3))) 0,Blk.cell (j0.o.same ((F.o bu x0).trans (j.o bu hu))) 0,Blk.cell B 2⟩
  have t0:(((r.setCell ⟨gu,3,none⟩ (.int .i64 (m:Int))).setCell ⟨gu,5,none⟩ (.int .i64 (m:Int))).drew.cell? ⟨b3,0,none⟩=some (.pointer (some ⟨gs,0,none⟩))/\((r.setCell ⟨gu,3,none⟩ (.int .i64 (m:Int))).setCell ⟨gu,5,none⟩ (.int .i64 (m:Int))).drew.cell? ⟨bu,0,none⟩=some (.pointer (some ⟨gu,0,none⟩))/\((r.setCell ⟨gu,3,none⟩ (.int .i64 (m:Int))).setCell ⟨gu,5,none⟩ (.int .i64 (m:Int))).drew.cell? ⟨gu,2,none⟩=some (.string ⟨own.toArray⟩)):=
   ⟨Blk.cell (i0.o.same ((G.o b3 p0).trans (j.o b3 h3))) 0,Blk.cell (j0.o.same ((G.o bu x0).trans (j.o bu hu))) 0,Blk.cell C 2⟩
  refine q0e (i:=8) (by kernel_rfl) rfl (fun K9 hK=>?_)
  go_simp
  refine hK.out _ _ s0 (fun d=>?_);clear hK K9
  try simp only[Act.put,π,ψ,ω]
  refine q0W 9 d (fun d=>?_)
  try simp only[Act.put,π,ψ,ω]
  refine q0W 10 d (fun d=>?_)
  try simp only[Act.put,π,ψ,ω]
  refine q0e (i:=11) (by kernel_rfl) rfl (fun K9 hK=>?_)
  go_simp
  refine hK.out _ _ t0 (fun d=>?_);clear hK K9
  try simp only[Act.put,π,ψ,ω]
  refine q1k (by kernel_rfl) ?_
  try simp only[List.drop_succ_cons,List.drop_zero]
  clear d hc s0 t0;clear B C;go_wp2_with fail;go_ret;exact⟨rfl,A0.o.grow (Ext.refl _).drew,(fun i q G0=>(z0.o i G0).trans (j.o i q)),SubI.ext y0.o (Ext.refl _).drew⟩
end
theorem q6E{k0:Nat}{wb w:World}{g gs rate u n:Nat}{sd c s:Int}{bs:List Bt}{K:Nat->Prop}(h:SKS wb w g gs rate sd c s u n bs k0 K)(hn:n<=1000)(name st:List UInt8)(h1:name.length<=4611686018427387903)(h2:st.length<=4611686018427387903)(hw:SbW wb):
  Calls Tryz.prog 39 #[.pointer (some ⟨gs,0,none⟩),.string ⟨name.toArray⟩,.string ⟨st.toArray⟩] w fun e w'=>Ext wb w'/\Stay K w w'/\
   ((z2t bs name st≠0/\e= .returned (.tuple #[.pointer none,.int .i64 (z2t bs name st)])/\SKS wb w' g gs rate sd c s u n bs k0 K)\/
   (z2t bs name st=0/\ ∃gu,e= .returned (.tuple #[.pointer (some ⟨gu,0,none⟩),.int .i64 0])/\SubI w' gu gs st (126::name) (z5V bs name) (((q0N bs (126::name)).length:Int)-1) (z5V bs name)/\¬K gu/\wb.heap.size<=gu/\SKS wb w' g gs rate sd c s u n bs k0 (fun i=>K i\/i=gu))):=by
 have T0: ∀(fn:Fn) (first cap:Array Value) (w:World),(Instr.makeFunc fn first cap).run Tryz.prog w= .ok (.func fn first cap) w:=fun _ _ _ _=>rfl
 have z0:(⟨#[126]⟩:ByteArray)++⟨name.toArray⟩=⟨(126::name).toArray⟩:=by rw[show(#[126]:Array UInt8)=[126].toArray from rfl,ByteArray.mk_append_mk];simp
 obtain⟨own,ho⟩: ∃own,126::name=own:=⟨_,rfl⟩
 rw[ho] at z0⊢;have G0:own.length=name.length+1:=by rw[<-ho];rfl
 obtain⟨zn,b0⟩: ∃z,z2t bs name st=z:=⟨_,rfl⟩
 obtain⟨an,V⟩: ∃z,z5V bs name=z:=⟨_,rfl⟩
 rw[b0,V];unfold z2t at b0;unfold z5V at V;rw[ho] at b0 V;have hX:=q7g w (.cells #[.pointer (some ⟨gs,0,none⟩)] 32) (.cells #[.pointer (some ⟨gs,0,none⟩),.string ⟨st.toArray⟩,.string ⟨own.toArray⟩,.int .i64 0,.int .i64 (-1),.int .i64 0] 167) (.cells #[.pointer (some ⟨w.heap.size+1,0,none⟩)] 103);obtain⟨w0,F⟩: ∃w0,((w.alloc (.cells #[.pointer (some ⟨gs,0,none⟩)] 32)).alloc (.cells #[.pointer (some ⟨gs,0,none⟩),.string ⟨st.toArray⟩,.string ⟨own.toArray⟩,.int .i64 0,.int .i64 (-1),.int .i64 0] 167)).alloc (.cells #[.pointer (some ⟨w.heap.size+1,0,none⟩)] 103)=w0:=⟨_,rfl⟩
 rw[F] at hX;have u0:Blk w0 w.heap.size 32 #[.pointer (some ⟨gs,0,none⟩)]:=by rw[<-F];exact((Blk.new w _ _).ext (q0B _ _)).ext (q0B _ _)
 have x0:SubI w0 (w.heap.size+1) gs st own 0 (-1) 0:=by
  rw[<-F];have:=Blk.new (w.alloc (.cells #[.pointer (some ⟨gs,0,none⟩)] 32)) 167 #[.pointer (some ⟨gs,0,none⟩),.string ⟨st.toArray⟩,.string ⟨own.toArray⟩,.int .i64 0,.int .i64 (-1),.int .i64 0];rw[ρ] at this;exact this.ext (q0B _ _)
 have v0:Blk w0 (w.heap.size+1+1) 103 #[.pointer (some ⟨w.heap.size+1,0,none⟩)]:=by
  rw[<-F];have:=Blk.new ((w.alloc (.cells #[.pointer (some ⟨gs,0,none⟩)] 32)).alloc (.cells #[.pointer (some ⟨gs,0,none⟩),.string ⟨st.toArray⟩,.string ⟨own.toArray⟩,.int .i64 0,.int .i64 (-1),.int .i64 0] 167)) 103 #[.pointer (some ⟨w.heap.size+1,0,none⟩)];rw[ρ,ρ] at this;exact this
 have R0:w.heap.size+1+1+1=w0.heap.size:=by rw[<-F,ρ,ρ,ρ]
 have S0:=h.base.size;have y0:SKS wb w0 g gs rate sd c s u n bs k0 (fun i=>K i\/i=w.heap.size\/i=w.heap.size+1\/i=w.heap.size+1+1):=h.more hX fun i m=>by
  rcases m with m|m
  ·exact .inl m
  ·exact .inr ⟨by omega,by omega⟩
 have d0:Hd (∀j,¬K (w.heap.size+j)):=η fun j hj=>by have:=h.klt _ hj;omega
 have S:Hd (Stay K w w0):=η (h.kExt hX);obtain⟨b3,A0⟩: ∃b,w.heap.size=b:=⟨_,rfl⟩
 obtain⟨gu,F0⟩: ∃b,w.heap.size+1=b:=⟨_,rfl⟩
 obtain⟨bu,B0⟩: ∃b,w.heap.size+1+1=b:=⟨_,rfl⟩
 have m0:=η F;have Q0:=η (And.intro A0 (And.intro F0 B0));have I:=η y0;have n0:=η u0;have q0:=η x0;have p0:=η v0;have HZ:=η b0;have HA:=η V;have HO:=η G0;have M0:=η (fun W (k:Ext wb W)=>hw.ext k);have i0:=η (z0N st w0 (by omega));clear b0 V h y0 u0 x0 v0 hX hw F A0 F0 B0 ho G0;go_enter Tryz.func39,Tryz.ntmps39;by_cases E:name=[]
 ·have hd:(name==([]:List UInt8))=true:=by rw[E];rfl
  have q:Hd (zn=2):=η (by have:=HZ.o;rw[ξ (.inl E)] at this;exact this.symm);clear E;go_wp2_with fail;go_ret2;rw[m0.o];exact⟨I.o.base,S.o,.inl ⟨by rw[q.o];decide,by rw[q.o];rfl,I.o.beside fun i m=> .inl m⟩⟩
 have hd:(name==([]:List UInt8))=false:=beq_eq_false_iff_ne.2 E;by_cases g0:31<name.length
 ·have hl:decide ((31:Int)<(name.length:Int))=true:=ζ (by omega)
  have q:Hd (zn=2):=η (by have:=HZ.o;rw[ξ (.inr (.inl g0))] at this;exact this.symm);clear E g0;go_wp2_with fail;go_ret2;rw[m0.o];exact⟨I.o.base,S.o,.inl ⟨by rw[q.o];decide,by rw[q.o];rfl,I.o.beside fun i m=> .inl m⟩⟩
 have hl:decide ((31:Int)<(name.length:Int))=false:=ε (by omega);have s0:=η E;have j0:=η g0;clear E g0;go_wp2_with fail;rw[m0.o];refine i0.o.mono ?_;rintro e w1 ⟨rfl,M⟩;have C:=η (I.o.grow M);have D:Hd (Stay K w w1):=η fun i m=>(I.o.kExt M i (.inl m)).trans (S.o i m)
 have N:=η (n0.o.ext M);have c0:=η (q0.o.ext M);have G:=η (p0.o.ext M);clear M i0;obtain⟨vs,a0⟩: ∃b,q1n st=b:=⟨_,rfl⟩
 rw[a0]
 cases vs with
 | false=>
  have q:Hd (zn=2):=η (by have:=HZ.o;rw[ξ (.inr (.inr (.inl a0)))] at this;exact this.symm);clear a0;go_wp2_with fail;go_ret2;exact⟨C.o.base,D.o,.inl ⟨by rw[q.o];decide,by rw[q.o];rfl,C.o.beside fun i m=> .inl m⟩⟩
 |true=>
 have O0:=η a0;clear a0;have kb:=G.o.cell 0;have kg:=Blk.cell c0.o 2;by_cases J:st=own
 ·have D0:(st==own)=true:=by rw[J];exact beq_self_eq_true _
  have q:Hd (zn=2):=η (by have:=HZ.o;rw[ξ (.inr (.inr (.inr J)))] at this;exact this.symm);clear J;go_wp2_with fail;go_ret2;exact⟨C.o.base,D.o,.inl ⟨by rw[q.o];decide,by rw[q.o];rfl,C.o.beside fun i m=> .inl m⟩⟩
 have D0:(st==own)=false:=beq_eq_false_iff_ne.2 J;have N0:=η J;clear J;have Y:q1n own=true:=by
  have h1:=s0.o;have h2:=j0.o;have h3:=HO.o;have:name.length≠0:=fun e=>h1 (List.length_eq_zero_iff.1 e)
  unfold q1n;rw[ζ (by omega),ζ (by omega)];rfl
 have L0:=η Y;have h0:=η ((C.o.grow (Ext.refl _).drew).last hn own (by have:=j0.o;have:=HO.o;omega) (x:=((q0N bs own).length:Int)-1) (y:=0) (by unfold z2P;rw[ξ Y]));have l0:Hd (∀W:World,(∀i,(K i\/i=w.heap.size\/i=w.heap.size+1\/i=w.heap.size+1+1)->W.heap[i]? =w1.heap[i]?)->(W.cell? ⟨w.heap.size,0,none⟩=some (.pointer (some ⟨gs,0,none⟩))/\W.cell? ⟨w.heap.size+1+1,0,none⟩=some (.pointer (some ⟨w.heap.size+1,0,none⟩))/\W.cell? ⟨w.heap.size+1,2,none⟩=some (.string ⟨own.toArray⟩))):=η fun W h=>
  ⟨(N.o.same (h _ (.inr (.inl rfl)))).cell 0,(G.o.same (h _ (.inr (.inr (.inr rfl))))).cell 0,Blk.cell (c0.o.same (h _ (.inr (.inr (.inl rfl))))) 2⟩
 clear Y;go_wp2_with fail;clear kb kg hd hl z0 D0;refine q1U (fun W:World=>(W.cell? ⟨w.heap.size,0,none⟩=some (.pointer (some ⟨gs,0,none⟩))/\W.cell? ⟨w.heap.size+1+1,0,none⟩=some (.pointer (some ⟨w.heap.size+1,0,none⟩))/\W.cell? ⟨w.heap.size+1,2,none⟩=some (.string ⟨own.toArray⟩))) 9 (by kernel_rfl) (l0.o _ fun i _=>rfl) (fun d=>?_);refine q2x 0 d (fun d=>?_)
 try simp only[Act.put,π,ψ,ω]
 refine q2x 1 d (fun d=>?_)
 try simp only[Act.put,π,ψ,ω]
 refine q0W 2 d (fun d=>?_)
 try simp only[Act.put,π,ψ,ω]
 refine q0W 3 d (fun d=>?_)
 try simp only[Act.put,π,ψ,ω]
 refine q2x 4 d (fun d=>?_)
 try simp only[Act.put,π,ψ,ω]
 refine q0e (i:=5) (by kernel_rfl) rfl (fun K9 hK=>?_)
 go_simp
 go_at_call 52
 refine h0.o.mono ?_;rintro e w2 ⟨rfl,h1,h2⟩;have e0:=η h1;have B:=η h2;clear d h1 h2 h0;refine hK.out _ _ (l0.o _ fun i m=>B.o i m) (fun d=>?_);clear hK K9
 try simp only[Act.put,π,ψ,ω]
 refine q0W 6 d (fun d=>?_)
 try simp only[Act.put,π,ψ,ω]
 refine q0W 7 d (fun d=>?_)
 try simp only[Act.put,π,ψ,ω]
 refine q0W 8 d (fun d=>?_)
 try simp only[Act.put,π,ψ,ω]
 refine q1k (by kernel_rfl) ?_
 try simp only[List.drop_succ_cons,List.drop_zero]
 clear d;have o0:=η (N.o.same (B.o _ (.inr (.inl rfl))));have r0:=η (c0.o.same (B.o _ (.inr (.inr (.inl rfl)))));have O:=η (G.o.same (B.o _ (.inr (.inr (.inr rfl)))))
 have t0:Hd (zn=if (q0N bs own).length=0 then 0 else if z4K (z1p bs own)=true then 0 else 10):=η (by
  have:=HZ.o;rw[κ] at this
  ·exact this.symm
  ·rintro(h|h|h|h)
   ·exact s0.o h
   ·exact j0.o h
   ·rw[O0.o] at h;cases h
   ·exact N0.o h)
 clear HZ l0 N c0 G n0 q0 p0;obtain⟨len,r⟩: ∃l,(q0N bs own).length=l:=⟨_,rfl⟩
 rw[r]
 cases len with
 | zero=>
  have C0:decide ((0:Int)<=((0:Nat):Int)-1)=false:=by decide
  have q:Hd (zn=0):=η (by have:=t0.o;rw[ξ r] at this;exact this);have H0:Hd (an=0):=η (by have:=HA.o;rw[ξ r] at this;exact this.symm);have kb:=O.o.cell 0;have Q:=η r;clear r;go_wp2_with fail;go_ret2;exact⟨e0.o.base,fun i m=>(B.o i (.inl m)).trans (D.o i m),.inr ⟨q.o,_,rfl,by rw[H0.o,Q.o];exact r0.o,d0.o 1,by omega,e0.o.beside fun i m=>m.elim .inl fun e=> .inr (.inr (.inl e))⟩⟩
 | succ len=>
  have C0:decide ((0:Int)<=((len+1:Nat):Int)-1)=true:=ζ (by omega);have P0:=q3E bs own;have E0:=e0.o.few;have q1:((len+1:Nat):Int)-1=(len:Int):=by omega
  rw[q1] at C0⊢;have Q:=η r;have HC:=η (z7k (b3:=w.heap.size) (gu:=w.heap.size+1) (bu:=w.heap.size+1+1) e0.o hn (.inr (.inl rfl)) (.inr (.inr (.inr rfl))) (.inr (.inr (.inl rfl))) (by omega) (by omega) (by omega) r0.o o0.o O.o L0.o r (M0.o wb (Ext.refl _)));clear r q1 P0 E0;go_wp2_with fail;refine HC.o.mono ?_;rintro e w3 ⟨rfl,h1,h2,h3⟩;have f0:=η h1;have U:=η h2;have J0:=η h3;have kb:=(O.o.same (U.o _ (.inr (.inr (.inr rfl))) (by omega))).cell 0;clear h1 h2 h3 HC;obtain⟨vb,Z⟩: ∃b,z4K (z1p bs own)=b:=⟨_,rfl⟩
  rw[Z];have R:Hd (zn=if vb=true then 0 else 10):=η (by have:=t0.o;rw[κ (by rw[Q.o];omega),Z] at this;exact this);have I0:Hd (an=(((q8T (z1p bs own).da).getD 0:Nat):Int)):=η (by have:=HA.o;rw[κ (by rw[Q.o];omega)] at this;exact this.symm)
  cases vb with
  | false=>
   clear Z;go_wp2_with fail;go_ret2;exact⟨f0.o.base,fun i m=>((U.o i (.inl m) fun e=>d0.o 1 (by rw[<-e];exact m)).trans (B.o i (.inl m))).trans (D.o i m),.inl ⟨by rw[R.o];decide,by rw[R.o];rfl,f0.o.beside fun i m=> .inl m⟩⟩
  | true=>
   have K0:=η (J0.o Z);clear Z;go_wp2_with fail;go_ret2;exact⟨f0.o.base,fun i m=>((U.o i (.inl m) fun e=>d0.o 1 (by rw[<-e];exact m)).trans (B.o i (.inl m))).trans (D.o i m),.inr ⟨by rw[R.o];rfl,_,rfl,by rw[I0.o,Q.o,show((len+1:Nat):Int)-1=(len:Int) by omega];exact K0.o,d0.o 1,by omega,f0.o.beside fun i m=>m.elim .inl fun e=> .inr (.inr (.inl e))⟩⟩
theorem z5r{s:List UInt8}(d:q1n s=true){t:Nat}(j:t<=1073741825):q0h s 0 [q6L (t:Int)]=0:=by
 have h:=q6r d;have i:=z0n (n:=t) (by omega);unfold q0h;rw[κ (by rintro(b|b);rw[b] at h;exact absurd h.1 (by decide);cases b),κ (by rintro(b|b);omega;exact absurd b (by show ¬8<1;decide)),κ (by rintro(b|b);cases b;exact absurd b (by show ¬(1073741824-(1:Int)<0);decide))];have he:q0q (q6L (t:Int)).ty (q6L (t:Int)).da=0:=by
  show q0q [97,116] (Lib.decDigits (t:Int).toNat)=0;rw[Int.toNat_natCast];unfold q0q;rw[κ (by decide),κ (by decide),κ (by omega)]
 unfold q7f;rw[ξ he]
 rfl
theorem z7F{k:Nat}(h:k<=1073741824):q8T (q6L (k:Int)).da=some k:=numU_iff.2 ⟨by show Lib.decDigits k=Lib.decDigits (k:Int).toNat;rw[Int.toNat_natCast],h⟩
theorem q5p(a b:List Bt)(s:List UInt8):q0N (a++b) s=q0N a s++q0N b s:=by
 unfold q0N;rw[List.filter_append,List.map_append,List.flatten_append]
structure AllI(bs:List Bt)(k0:Nat)(a v t:Int):Prop where
 k:k0<=bs.length
 sure:q0N bs [126,102]=q0N (bs.take k0) [126,102]
 kn:(q0N bs [126,102]=[]/\a=0)\/ ∃E,q0N bs [126,102]=E++[q6L a]
 v:v=((q0N bs [126,102]).length:Int)-1
 a0:0<=a
 at_:a<=t
 ts:t<=((q0N bs [115]).length:Int)
 as_:a<=((q0N (bs.take k0) [115]).length:Int)
section
variable {bs :List Bt}{k0:Nat}{a v t:Int}
theorem AllI.start :AllI [] 0 0 (-1) 0:=⟨ι _,rfl,.inl ⟨rfl,rfl⟩,rfl,by omega,by omega,by decide,by decide⟩
theorem AllI.app(h:AllI bs k0 a v t)(fi:Nat)(L:List Ev):AllI (bs++[⟨[115],fi,L⟩]) k0 a v t:=by
 have e:(bs++[(⟨[115],fi,L⟩:Bt)]).take k0=bs.take k0:=List.take_append_of_le_length h.k;have b:q0N (bs++[(⟨[115],fi,L⟩:Bt)]) [126,102]=q0N bs [126,102]:=by rw[q3K,κ (by show ¬([115]:List UInt8)=[126,102];decide)]
 refine⟨by rw[θ];have:=h.k;omega,by rw[e,b];exact h.sure,by rw[b];exact h.kn,by rw[b];exact h.v,h.a0,h.at_,?_,by rw[e];exact h.as_⟩;rw[q3K,ξ rfl,θ];have:=h.ts;omega
theorem q6T(bs:List Bt){t:Int}(j:0<=t)(d:1<=k)(i:t<=((q0N bs [115]).length:Int)):q2M [115] t k=0/\((q3y bs [115] t k).length:Int)=min k (((q0N bs [115]).length:Int)-t):=by
 have b:q2M [115] t k=0:=κ (by rintro(h|h|h);cases h;omega;omega);refine⟨b,?_⟩;rw[z3g b,Θ,List.length_drop,q2N];omega
theorem AllI.next(h:AllI bs k0 a v t)(b:1<=k):AllI bs k0 a v (t+((q3y bs [115] t k).length:Int)):=by
 have d:=(q6T bs (by have:=h.a0;have:=h.at_;omega) b h.ts).2;have i:=h.at_;have j:=h.ts;exact⟨h.k,h.sure,h.kn,h.v,h.a0,by omega,by omega,h.as_⟩
theorem AllI.as2(h:AllI bs k0 a v t):a<=((q0N bs [115]).length:Int):=by have:=h.at_;have:=h.ts;omega
theorem AllI.back(h:AllI bs k0 a v t):AllI bs k0 a v a:=⟨h.k,h.sure,h.kn,h.v,h.a0,Int.le_refl _,h.as2,h.as_⟩
theorem AllI.flush(h:AllI bs k0 a v t):AllI bs bs.length a v t:=by
 have e:bs.take bs.length=bs:=Δ (ι _);exact⟨ι _,by rw[e],h.kn,h.v,h.a0,h.at_,h.ts,by rw[e];exact h.as2⟩
theorem AllI.ack(h:AllI bs k0 a v t)(r:t<=1073741825):z3J bs [126,102] a v t=0/\z5m bs [126,102] a v t=t/\AllI (z5n bs [126,102] a v t) (z5n bs [126,102] a v t).length t (z9v bs [126,102] a v t) t:=by
 have o:=h.a0;have q:=h.at_;have x:=h.v;by_cases e:t=a
 ·have en:z3J bs [126,102] a v t=0:=ξ e
  refine⟨en,by unfold z5m;rw[ξ en],?_⟩;unfold z5n z9v;rw[ξ e,ξ e,e];exact h.flush.back
 ·have b:z4V bs [126,102] v [q6L t]=0:=by
   have m:=z5r (s:=[126,102]) (by decide) (t:=t.toNat) (by omega);rw[show((t.toNat:Nat):Int)=t by omega] at m;unfold z4V;rw[κ (by rw[m];decide),κ (by omega),κ (by omega)]
  have en:z3J bs [126,102] a v t=0:=by unfold z3J;rw[κ e,b]
  refine⟨en,by unfold z5m;rw[ξ en],?_⟩;unfold z5n z9v;rw[κ e,ξ b,κ e,ξ b];have d:q0N (bs++[(⟨[126,102],(q0N bs [126,102]).length,[q6L t]⟩:Bt)]) [126,102]=q0N bs [126,102]++[q6L t]:=by rw[q3K,ξ rfl]
  have i:q0N (bs++[(⟨[126,102],(q0N bs [126,102]).length,[q6L t]⟩:Bt)]) [115]=q0N bs [115]:=by rw[q3K,κ (by show ¬([126,102]:List UInt8)=[115];decide)]
  have j: ∀l:List Bt,l.take l.length=l:=fun l=>Δ (ι _)
  refine⟨ι _,by rw[j],.inr ⟨_,d⟩,by rw[d,θ];simp,by omega,Int.le_refl _,by rw[i];exact h.ts,by rw[j,i];exact h.ts⟩
theorem AllI.crash(h:AllI bs k0 a v t){j:Nat}(G:k0<=j)(I:j<=bs.length)(F:a<=1073741824):z2t (bs.take j) [102] [115]=0/\z5V (bs.take j) [102]=a/\AllI (bs.take j) j a (((q0N (bs.take j) [126,102]).length:Int)-1) a:=by
 have C:=h.a0;have m:bs.take j=bs.take k0++(bs.drop k0).take (j-k0):=by
  rw[<-List.take_append_drop k0 (bs.take j),List.take_take,List.drop_take,show min k0 j=k0 by omega]
 have o:q0N (bs.drop k0) [126,102]=[]:=by
  have b:=h.sure
  conv at b=>lhs;rw[<-List.take_append_drop k0 bs,q5p]
  have i:=congrArg List.length b;rw[θ] at i;exact List.length_eq_zero_iff.1 (by omega)
 have B:q0N ((bs.drop k0).take (j-k0)) [126,102]=[]:=by
  conv at o=>lhs;rw[<-List.take_append_drop (j-k0) (bs.drop k0),q5p]
  exact(List.append_eq_nil_iff.1 o).1
 have d:q0N (bs.take j) [126,102]=q0N bs [126,102]:=by rw[m,q5p,B,List.append_nil,<-h.sure]
 have q:a<=((q0N (bs.take j) [115]).length:Int):=by
  rw[m,q5p,θ];have:=h.as_;omega
 have r:(bs.take j).take j=bs.take j:=by rw[List.take_take,Nat.min_self]
 have y:z2t (bs.take j) [102] [115]=0/\z5V (bs.take j) [102]=a:=by
  unfold z2t z5V;rw[κ (by decide),show((126:UInt8)::[102])=[126,102] from rfl,d];rcases h.kn with⟨b,i⟩|⟨E,b⟩
  ·rw[b,i];exact⟨rfl,rfl⟩
  ·have l:z1p (bs.take j) [126,102]=q6L a:=by
    unfold z1p;rw[d,b,θ];simp
   have x:q8T (q6L a).da=some a.toNat:=by
    have:=z7F (k:=a.toNat) (by omega)
    rwa [show((a.toNat:Nat):Int)=a by omega] at this
   have D:z4K (q6L a)=true:=by unfold z4K;rw[x];rfl
   rw[b,l,D,x,κ (by rw[θ];simp),ξ rfl,κ (by rw[θ];simp)];exact⟨rfl,by show((a.toNat:Nat):Int)=a;omega⟩
 exact⟨y.1,y.2,by rw[Θ];omega,by rw[r],by rw[d];exact h.kn,rfl,C,Int.le_refl _,q,by rw[r];exact q⟩
end
structure SAI(W0 W:World)(g gs gu rate:Nat)(sd s:Int)(u n:Nat)(bs:List Bt)(k0:Nat)(a v t:Int)(X:Nat->Prop):Prop where
 sk:SKS W0 W g gs rate sd 1048576 s u n bs k0 (fun i=>X i\/i=gu)
 su:SubI W gu gs [115] [126,102] a v t
 al:AllI bs k0 a v t
 nx:¬X gu/\W0.heap.size<=gu
structure SAJ(W0 W:World)(g gs gu rate:Nat)(sd s:Int)(u n:Nat)(bs:List Bt)(a v t:Int)(X:Nat->Prop):Prop where
 sk:SKS W0 W g gs rate sd 1048576 s u n bs 0 (fun i=>X i\/i=gu)
 su:SubI W gu gs [115] [126,102] a v t
 al:AllI bs bs.length a v t
 nx:¬X gu/\W0.heap.size<=gu
section
variable {W0 w W W':World}{g gs gu rate u n:Nat}{sd s:Int}{bs:List Bt}{k0:Nat}{a v t:Int}{X X':Nat->Prop}
theorem SAI.base(h:SAI W0 W g gs gu rate sd s u n bs k0 a v t X):Ext W0 W:=h.sk.base
theorem SAI.more(h:SAI W0 W g gs gu rate sd s u n bs k0 a v t X)(k:Ext W W')(j: ∀i,X' i->X i\/(W.heap.size<=i/\i<W'.heap.size)):SAI W0 W' g gs gu rate sd s u n bs k0 a v t X':=
 ⟨h.sk.more k fun i b=>by
  rcases b with b|b
  ·exact(j i b).imp .inl id
  ·exact .inl (.inr b),h.su.ext k,h.al,fun e=>by
  rcases j gu e with d|⟨d,_⟩
  ·exact h.nx.1 d
  ·have:=h.sk.klt gu (.inr rfl);omega,h.nx.2⟩
theorem SAI.few(h:SAI W0 W g gs gu rate sd s u n bs k0 a v t X):((q0N bs [115]).length:Int)<=8*n:=by
 have b:=h.sk.few.2;have d:=q3E bs [115];omega
theorem SAI.t0(h:SAI W0 W g gs gu rate sd s u n bs k0 a v t X):0<=t:=by have:=h.al.a0;have:=h.al.at_;omega
theorem SAI.at_c(h:SAI W0 w g gs gu rate sd s u n bs k0 a v t X):Calls Tryz.prog 42 #[.pointer (some ⟨gu,0,none⟩)] w fun e w'=>e= .returned (.int .i64 a)/\w=w':=z2u h.su
theorem SAI.told_c(h:SAI W0 w g gs gu rate sd s u n bs k0 a v t X):Calls Tryz.prog 43 #[.pointer (some ⟨gu,0,none⟩)] w fun e w'=>e= .returned (.int .i64 t)/\w=w':=z1d h.su
theorem SAI.flush_c(h:SAI W0 w g gs gu rate sd s u n bs k0 a v t X):Calls Tryz.prog 53 #[.pointer (some ⟨gs,0,none⟩)] w fun e w'=>e= .returned (.int .i64 0)/\SAI W0 w' g gs gu rate sd s u n bs bs.length a v t X/\Stay X w w':=
 h.sk.flushS.mono fun e w' ⟨d,j,b⟩=>⟨d,⟨j,h.su.same (b gu (.inr rfl)),h.al.flush,h.nx⟩,fun i l=>b i (.inl l)⟩
theorem SAI.last_c(h:SAI W0 w g gs gu rate sd s u n bs k0 a v t X)(m:n<=1000):Calls Tryz.prog 52 #[.pointer (some ⟨gs,0,none⟩),.string ⟨[115].toArray⟩] w fun e w'=>e= .returned (.tuple #[.int .i64 (((q0N bs [115]).length:Int)-1),.int .i64 0])/\SAI W0 w' g gs gu rate sd s u n bs k0 a v t X/\Stay X w w':=
 (h.sk.last m [115] (by decide) (x:=((q0N bs [115]).length:Int)-1) (y:=0) (by unfold z2P;rw[ξ (by rfl)])).mono fun e w' ⟨d,j,b⟩=>⟨d,⟨j,h.su.same (b gu (.inr rfl)),h.al,h.nx⟩,fun i l=>b i (.inl l)⟩
theorem SAI.ack_c(h:SAI W0 w g gs gu rate sd s u n bs k0 a v t X)(r:n<=86)(x:(u:Int)+8024<=1048576)(C:SbW w):Calls Tryz.prog 41 #[.pointer (some ⟨gu,0,none⟩)] w fun e w'=>e= .returned (.int .i64 0)/\(∃b D,SAJ W0 w' g gs gu rate sd s (u+2024) (n+1) b t D t X)/\Stay X w w':=by
 have E:=h.few;have y:=h.t0;have B:=h.al.ts;obtain⟨j,l,m⟩:=h.al.ack (by omega);refine(z4L h.sk r x h.nx.1 h.nx.2 h.su (by decide) y (by omega) C).mono ?_;rintro e w' ⟨d,o,q,i⟩;rw[j] at d;rw[l] at i;exact⟨d,⟨_,_,⟨o.less (υ _),i,m,h.nx⟩⟩,q⟩
theorem SAJ.flush_c(h:SAJ W0 w g gs gu rate sd s u n bs a v t X):Calls Tryz.prog 53 #[.pointer (some ⟨gs,0,none⟩)] w fun e w'=>e= .returned (.int .i64 0)/\SAI W0 w' g gs gu rate sd s u n bs bs.length a v t X/\Stay X w w':=
 h.sk.flushS.mono fun e w' ⟨d,j,b⟩=>⟨d,⟨j,h.su.same (b gu (.inr rfl)),h.al,h.nx⟩,fun i l=>b i (.inl l)⟩
theorem SAI.next_c(h:SAI W0 w g gs gu rate sd s u n bs k0 a v t X)(C:n<=1000)(m:1<=k):Calls Tryz.prog 40 #[.pointer (some ⟨gu,0,none⟩),.int .i64 k] w fun e w'=> ∃x,e= .returned (.tuple #[x,.int .i64 0])/\
  SAI W0 w' g gs gu rate sd s u n bs k0 a v (t+((q3y bs [115] t k).length:Int)) (fun i=>X i\/x.ownBlock=some i)/\Stay X w w'/\w'.ownsRow W0.heap.size 69 5 x (q3y bs [115] t k).length (q5B (q3y bs [115] t k))/\(∀i,X i->x.ownBlock≠some i):=by
 have E:=h.few;have o:=h.t0;have d:=h.al.ts;have D:=(q6T bs o m d).1;refine(z1c h.sk C h.nx.1 h.nx.2 h.su (by decide) o (by omega) k).mono ?_;rintro e w' ⟨x,j,q,r,y,l,B⟩;rw[D] at j;exact⟨x,j,⟨q.beside fun i b=>by rcases b with(b|b)|b;exact .inl (.inl b);exact .inr b;exact .inl (.inr b),B,h.al.next m,fun e=>e.elim h.nx.1 (l gu (.inr rfl)),h.nx.2⟩,r,y,fun i b=>l i (.inl b)⟩
theorem SAI.back_c(h:SAI W0 w g gs gu rate sd s u n bs k0 a v t X):Calls Tryz.prog 49 #[.pointer (some ⟨gu,0,none⟩)] w fun e w'=>e= .returned (.tuple #[])/\SAI W0 w' g gs gu rate sd s u n bs k0 a v a X/\Stay X w w':=by
 refine(z7j h.su).mono ?_;rintro e w' ⟨b,rfl⟩;exact⟨b,⟨h.sk.pokeJ (.inr rfl) h.nx.2 5 _,Blk.set h.su 5 (.int .i64 a),h.al.back,h.nx⟩,fun i d=>heap_setCell_other _ _ _ _ fun e=>h.nx.1 (by rw[<-show i=gu from e];exact d)⟩
theorem SAI.app_c(h:SAI W0 w g gs gu rate sd s u n bs k0 a v t X)(C:n<=86){ao:Option Addr}{m cap:Nat}{L:List Ev}(D: ∀W,Ext W0 W->Stay X w W->Evs W ao m cap L)(B:q3g L)(o: ∀e∈L,e.we<18446744073709551616):
  Calls Tryz.prog 38 #[.pointer (some ⟨gs,0,none⟩),.string ⟨[115].toArray⟩,.int .i64 (-2),.slice ao m cap] w fun e w'=>(∃x y,e= .returned (.tuple #[.int .i64 x,.int .i64 y]))/\(∃b,SAI W0 w' g gs gu rate sd s (u+2024) (n+1) b k0 a v t X)/\Stay X w w':=by
 refine(h.sk.append C [115] (by decide) (-2) (fun W d j=>D W d fun i l=>j i (.inl l)) B o rfl).mono ?_;rintro e w' ⟨x,y,b,d,j,q,r⟩;refine⟨⟨x,y,d⟩,⟨b,j,h.su.same (q gu (.inr rfl)),?_,h.nx⟩,fun i l=>q i (.inl l)⟩;rcases r with⟨_,_,_,rfl⟩|⟨_,_,_,rfl,_⟩|⟨_,_,_,rfl⟩
 ·exact h.al
 ·exact h.al
 ·exact h.al.app _ _
def SAD(W0 W:World)(g:Nat)(sd s:Int)(u n:Nat)(bs:List Bt)(k0:Nat)(a v t:Int)(X:Nat->Prop):Prop:=SKD W0 W g sd 1048576 s u n bs k0 X/\AllI bs k0 a v t
theorem SAI.crash_c(h:SAI W0 w g gs gu rate sd s u n bs k0 a v t X){d:Option Addr}{kn j:Nat}{x:List Int}(r:Ints w d kn j x)(b: ∀a,d=some a->X a.block):
  Calls Tryz.prog 31 #[.pointer (some ⟨g,0,none⟩),.slice d kn j] w fun e w'=>e= .returned (.int .i64 0)/\SAD W0 w' g sd s u n bs k0 a v t X/\Stay X w w':=
 ((h.sk.beside (K':=X) fun i q=> .inl q).crash r b).mono fun e w' ⟨l,m,o⟩=>⟨l,⟨m,h.al⟩,o⟩
def SAX(W0 W:World)(g:Nat)(sd s:Int)(u n:Nat)(bs:List Bt)(a:Int)(X:Nat->Prop):Prop:=
 SQX W0 W g sd 1048576 s u n bs X/\z2t bs [102] [115]=0/\z5V bs [102]=a/\AllI bs bs.length a (((q0N bs [126,102]).length:Int)-1) a
theorem SAD.start_c(h:SAD W0 w g sd s u n bs k0 a v t X)(B:0<=s/\s<1000000)(y:a<=1073741824):
  Calls Tryz.prog 32 #[.pointer (some ⟨g,0,none⟩)] w fun e w'=>e= .returned (.int .i64 0)/\(∃b,SAX W0 w' g sd (s+1) u n b a X)/\Stay X w w':=by
 refine(h.1.start B).mono ?_;rintro e w' ⟨o,⟨j,q,d,r⟩,x⟩;obtain⟨i,l,m⟩:=h.2.crash q d y;exact⟨o,⟨_,r,i,l,by rw[Θ,Nat.min_eq_left d];exact m⟩,x⟩
def SAO(W0 W:World)(g gs rate:Nat)(sd s:Int)(u n:Nat)(bs:List Bt)(a:Int)(X:Nat->Prop):Prop:=
 SKS W0 W g gs rate sd 1048576 s u n bs bs.length X/\z2t bs [102] [115]=0/\z5V bs [102]=a/\AllI bs bs.length a (((q0N bs [126,102]).length:Int)-1) a
theorem SAX.open_c(h:SAX W0 w g sd s u n bs a X)(j:n<=200)(l:(u:Int)+4096<=1048576)(rate:Nat):
  Calls Tryz.prog 33 #[.pointer (some ⟨g,0,none⟩),.int .u64 sd,.float .f64 rate] w fun e w'=> ∃gs,e= .returned (.tuple #[.pointer (some ⟨gs,0,none⟩),.int .i64 0])/\SAO W0 w' g gs rate sd s u n bs a X/\Stay X w w':=
 (h.1.open j l rate).mono fun e w' ⟨gs,b,d,i⟩=>⟨gs,b,⟨d,h.2⟩,i⟩
theorem SAO.sub_c(h:SAO W0 w g gs rate sd s u n bs a X)(q:n<=1000)(r:SbW W0):
  Calls Tryz.prog 39 #[.pointer (some ⟨gs,0,none⟩),.string ⟨[102].toArray⟩,.string ⟨[115].toArray⟩] w fun e w'=> ∃gu,e= .returned (.tuple #[.pointer (some ⟨gu,0,none⟩),.int .i64 0])/\(∃v,SAI W0 w' g gs gu rate sd s u n bs bs.length a v a X)/\Stay X w w':=by
 refine(q6E h.1 q [102] [115] (by decide) (by decide) r).mono ?_;rintro e w' ⟨x,d,⟨i,_⟩|⟨_,gu,j,b,l,m,o⟩⟩
 ·exact absurd h.2.1 i
 ·rw[h.2.2.1] at b
  exact⟨gu,j,⟨_,o,b,h.2.2.2,l,m⟩,d⟩
end
end
end Go.Proofs.YtfiibpgoplcgkaaGreatDoor
