/- Walks. -/
import Derived.Lib.OthersKept
import Derived.Test.YtfiibpgoplcgkaaGreatDoorG34SY
import Derived.Test.YtfiibpgoplcgkaaGreatDoorG17SY
set_option linter.unusedVariables false
set_option linter.unusedSimpArgs false
set_option maxRecDepth 100000
set_option maxHeartbeats 12800000
namespace Go.Proofs.YtfiibpgoplcgkaaGreatDoor
variable {fr ct:Int}
section
open Go.RowKit
section
variable {wb w W W':World}{g gs rate u n:Nat}{sd c s:Int}{bs:List Bt}{K K':Nat->Prop}
theorem SKS.pokeK(h:SK wb W g gs rate sd c s u n bs K){x:Nat}(hK:K x)(d:wb.heap.size<=x)(j:Nat)(v:Value):SK wb (W.setCell ⟨x,j,none⟩ v) g gs rate sd c s u n bs K:=by
 refine h.sideM (by rw[World.size_setCell];exact ι _) (Below.setCell h.base d v) (fun i b l=>?_) fun i b=> .inl b
 exact heap_setCell_other W ⟨x,j,none⟩ i v fun e=>l (by have:i=x:=e;rw[this];exact hK)
theorem y0J{bs:List Bt}{st:List UInt8}:(q3h bs st fr ct).length<=(q0R bs st).length:=by
 unfold q3h q5B
 split
 ·rw[Θ,List.length_drop,q1L];omega
 ·simp
end
def SubI(W:World)(gu gs:Nat)(st own:List UInt8)(a v t:Int):Prop:=Blk W gu 167 #[.pointer (some ⟨gs,0,none⟩),.string ⟨st.toArray⟩,.string ⟨own.toArray⟩,.int .i64 a,.int .i64 v,.int .i64 t]
section
variable {wb w W W':World}{g gs gu rate u n:Nat}{sd c s a v t:Int}{bs:List Bt}{K K':Nat->Prop}{st own:List UInt8}{p:Option Addr}
theorem SubI.lt(h:SubI W gu gs st own a v t):gu<W.heap.size:=Blk.lt h
theorem SubI.ext(h:SubI W gu gs st own a v t)(k:Ext W W'):SubI W' gu gs st own a v t:=Blk.ext h k
theorem SubI.same(h:SubI W gu gs st own a v t)(k:W'.heap[gu]? =W.heap[gu]?):SubI W' gu gs st own a v t:=Blk.same h k
theorem q4e(h:SubI w gu gs st own a v t):Calls Tryz.prog 94 #[.pointer (some ⟨gu,0,none⟩)] w fun e w'=>e= .returned (.bool false)/\w=w':=by
 have k0:=Blk.cell h 0;clear h;go_enter Tryz.func94,Tryz.ntmps94;go_wp2_with fail;go_ret;exact⟨rfl,rfl⟩
theorem z2Z(h:SubI w gu gs st own a v t):Calls Tryz.prog 42 #[.pointer (some ⟨gu,0,none⟩)] w fun e w'=>e= .returned (.int .i64 a)/\w=w':=by
 have b:=η (q4e h);have d:=Blk.cell h 3;clear h;go_enter Tryz.func42,Tryz.ntmps42;go_wp2_with fail;refine b.o.mono ?_;rintro e w1 ⟨rfl,rfl⟩;go_wp2_with fail;go_ret;exact⟨rfl,rfl⟩
theorem z1J(h:SubI w gu gs st own a v t):Calls Tryz.prog 43 #[.pointer (some ⟨gu,0,none⟩)] w fun e w'=>e= .returned (.int .i64 t)/\w=w':=by
 have b:=η (q4e h);have d:=Blk.cell h 5;clear h;go_enter Tryz.func43,Tryz.ntmps43;go_wp2_with fail;refine b.o.mono ?_;rintro e w1 ⟨rfl,rfl⟩;go_wp2_with fail;go_ret;exact⟨rfl,rfl⟩
theorem z7J(h:SubI w gu gs st own a v t):Calls Tryz.prog 49 #[.pointer (some ⟨gu,0,none⟩)] w fun e w'=>e= .returned (.tuple #[])/\w'=w.setCell ⟨gu,5,none⟩ (.int .i64 a):=by
 have b:=η (q4e h);have i:=Blk.cell h 3;have j:=Blk.cell h 5;have d:=Blk.free h 5;clear h;go_enter Tryz.func49,Tryz.ntmps49;go_wp2_with fail;refine b.o.mono ?_;rintro e w1 ⟨rfl,rfl⟩;go_wp2_with fail
 go_end0
 exact⟨rfl,rfl⟩
theorem q9U{bs:List Bt}{st:List UInt8}(h:q1Z st fr ct≠0):q3h bs st fr ct=[]:=κ h
theorem z7K(h:SK wb w g gs rate sd c s u n bs (fun i=>K i\/i=gu))(hn:n<=1000)(hg:¬K gu)(G:wb.heap.size<=gu)(d:SubI w gu gs st own a v t)(hs:st.length<=4611686018427387903)(b0:0<=t)(c0:t<=2147483648)(k:Int):
  Calls Tryz.prog 40 #[.pointer (some ⟨gu,0,none⟩),.int .i64 k] w fun e w'=> ∃x,e= .returned (.tuple #[x,.int .i64 (q1Z st t k)])/\
   SK wb w' g gs rate sd c s u n bs (fun i=>(K i\/i=gu)\/x.ownBlock=some i)/\Stay K w w'/\w'.ownsRow wb.heap.size 69 5 x (q3h bs st t k).length (q2q (q3h bs st t k))/\(∀i,(K i\/i=gu)->x.ownBlock≠some i)/\
   SubI w' gu gs st own a v (t+((q3h bs st t k).length:Int)):=by
 have Z:=η (q4e d);by_cases I:k<1
 ·have hd:decide (k<(1:Int))=true:=ζ I
  have y:q1Z st t k=2:=ξ (.inr (.inr I));have E:q3h bs st t k=[]:=q9U (by rw[y];decide);rw[y,E];have HS:=η h;have N:=η d;clear h d I y E;go_enter Tryz.func40,Tryz.ntmps40;go_wp2_with fail;refine Z.o.mono ?_;rintro e w1 ⟨rfl,rfl⟩;go_wp2_with fail;go_ret2;exact⟨.slice none 0 0,rfl,HS.o.beside (fun i d=>d.elim id fun e=>by cases e),fun i _=>rfl,World.ownsRow_nil _ _ _ _,(fun i _ e=>by cases e),by have:=N.o;show SubI w gu gs st own a v (t+0);rw[Int.add_zero];exact this⟩
 have hd:decide (k<(1:Int))=false:=ε I;have V:(q3h bs st t k).length<=8000:=by
  have C:=h.few;have q:=q1r bs st;have D:=y0J (bs:=bs) (st:=st) (fr:=t) (ct:=k);omega
 have M:=η ((h.grow (Ext.refl w).drew).forward hn st hs t k (by omega) (by omega));have l:SubI w.drew gu gs st own a v t:=d.ext (Ext.refl w).drew;have N:=η l;have k0:=Blk.cell l 0;have k1:=Blk.cell l 1;have Y:=Blk.cell l 5;have B:=η (fun h=>q9U (bs:=bs) (st:=st) (fr:=t) (ct:=k) h);obtain⟨F,hF⟩: ∃F,q3h bs st t k=F:=⟨_,rfl⟩
 obtain⟨z,X⟩: ∃z,q1Z st t k=z:=⟨_,rfl⟩
 rw[hF,X] at M B;rw[hF] at V⊢;rw[X];clear h d I l hF X;go_enter Tryz.func40,Tryz.ntmps40;go_wp2_with fail;refine Z.o.mono ?_;rintro e w1 ⟨rfl,rfl⟩;go_wp2_with fail;have U:Hd (∀W:World,W.heap[gu]? =w.drew.heap[gu]? ->(W.cell? ⟨gu,0,none⟩=some (.pointer (some ⟨gs,0,none⟩))/\W.cell? ⟨gu,1,none⟩=some (.string ⟨st.toArray⟩)/\W.cell? ⟨gu,5,none⟩=some (.int .i64 t))):=η fun W h=>by
  have G:=N.o.same h;exact⟨Blk.cell G 0,Blk.cell G 1,Blk.cell G 5⟩
 refine q0v (fun W:World=>(W.cell? ⟨gu,0,none⟩=some (.pointer (some ⟨gs,0,none⟩))/\W.cell? ⟨gu,1,none⟩=some (.string ⟨st.toArray⟩)/\W.cell? ⟨gu,5,none⟩=some (.int .i64 t))) 17 (by kernel_rfl) ⟨k0,k1,Y⟩ (fun b=>?_);refine q0I 0 b (fun b=>?_)
 try simp only[Act.put,π,ψ,ω]
 refine q0I 1 b (fun b=>?_)
 try simp only[Act.put,π,ψ,ω]
 refine q0I 2 b (fun b=>?_)
 try simp only[Act.put,π,ψ,ω]
 refine q1u 3 b (fun b=>?_)
 try simp only[Act.put,π,ψ,ω]
 refine q0I 4 b (fun b=>?_)
 try simp only[Act.put,π,ψ,ω]
 refine q0I 5 b (fun b=>?_)
 try simp only[Act.put,π,ψ,ω]
 refine q0I 6 b (fun b=>?_)
 try simp only[Act.put,π,ψ,ω]
 refine q1u 7 b (fun b=>?_)
 try simp only[Act.put,π,ψ,ω]
 refine q0I 8 b (fun b=>?_)
 try simp only[Act.put,π,ψ,ω]
 refine q0I 9 b (fun b=>?_)
 try simp only[Act.put,π,ψ,ω]
 refine q0I 10 b (fun b=>?_)
 try simp only[Act.put,π,ψ,ω]
 refine q1u 11 b (fun b=>?_)
 try simp only[Act.put,π,ψ,ω]
 refine q0I 12 b (fun b=>?_)
 try simp only[Act.put,π,ψ,ω]
 refine q0Q (i:=13) (by kernel_rfl) rfl (fun K9 hK=>?_)
 go_simp
 go_at_call 18
 refine M.o.mono ?_;rintro e J ⟨x,rfl,C,q,D,O⟩;obtain⟨fa,fc,rfl⟩:=q0E D;have j:=N.o.same (q gu (.inr rfl));clear b k0 k1 Y;refine hK.out _ _ (U.o _ (q gu (.inr rfl))) (fun b=>?_);clear hK K9
 try simp only[Act.put,π,ψ,ω]
 refine q0I 14 b (fun b=>?_)
 try simp only[Act.put,π,ψ,ω]
 refine q0I 15 b (fun b=>?_)
 try simp only[Act.put,π,ψ,ω]
 refine q0I 16 b (fun b=>?_)
 try simp only[Act.put,π,ψ,ω]
 refine q1I (by kernel_rfl) ?_
 try simp only[List.drop_succ_cons,List.drop_zero]
 clear b;by_cases r:z=0
 case neg=>
  have a0:(z !=0)=true:=by simpa using r
  have S:=η (B.o r);have Q:=η (C.beside (K':=fun i=>(K i\/i=gu)\/(Value.slice none 0 0).ownBlock=some i) fun i d=>d.elim .inl fun e=>by cases e);have R:Hd (Stay K w J):=η fun i d=>q i (.inl d)
  have m:=η j;clear C q D O j M;go_wp2_with fail;go_ret2;rw[S.o];exact⟨.slice none 0 0,rfl,Q.o,R.o,World.ownsRow_nil _ _ _ _,(fun i _ e=>by cases e),by show SubI J gu gs st own a v (t+0);rw[Int.add_zero];exact m.o⟩
 ·subst r
  have q1:IntKind.i64.wrap (t+(F.length:Int))=t+(F.length:Int):=by rw[ν];omega
  have Y:=Blk.cell j 5;have f5:=Blk.free j 5;have Q:=η (C.pokeK (x:=gu) (.inl (.inr rfl)) G 5 (.int .i64 (t+(F.length:Int))));have R:Hd (Stay K w (J.setCell ⟨gu,5,none⟩ (.int .i64 (t+(F.length:Int))))):=η fun i d=>(Below.heap_setCell _ _ _ _ fun e=>hg (by rw[<-show i=gu from e];exact d)).trans (q i (.inl d))
  have H3:=η (q0f D (w':=J.setCell ⟨gu,5,none⟩ (.int .i64 (t+(F.length:Int)))) fun i d=>Below.heap_setCell _ _ _ _ fun e=>O gu (.inr rfl) (d.trans (congrArg some e)));have m:Hd (SubI (J.setCell ⟨gu,5,none⟩ (.int .i64 (t+(F.length:Int)))) gu gs st own a v (t+(F.length:Int))):=η (Blk.set j 5 _);have H4:=η O;clear C q D O j M;go_wp2_with fail;go_ret2;exact⟨_,rfl,Q.o,R.o,H3.o,H4.o,m.o⟩
def q8I(t:Int):Ev:=⟨[97,116],Lib.decDigits t.toNat,0⟩
def q9F(bs:List Bt)(own:List UInt8)(a v t:Int):Int:=if t=a then 0 else q8R bs own v [q8I t]
def z0L(bs:List Bt)(own:List UInt8)(a v t:Int):List Bt:=if t=a then bs else if q8R bs own v [q8I t]=0 then bs++[⟨own,(q0R bs own).length,[q8I t]⟩] else bs
def z0K(bs:List Bt)(own:List UInt8)(a v t:Int):Int:=if q9F bs own a v t=0 then t else a
def z7c(bs:List Bt)(own:List UInt8)(a v t:Int):Int:=if t=a then v else if q8R bs own v [q8I t]=0 then((q0R bs own).length:Int) else v
theorem z9I(h:SK wb w g gs rate sd c s u n bs (fun i=>K i\/i=gu))(hn:n<=86)(n0:(u:Int)+8024<=c)(hg:¬K gu)(S:wb.heap.size<=gu)(j:SubI w gu gs st own a v t)(hs:own.length<=4611686018427387903)(q0:0<=t)(r0:t<=1073741825)(hw:SbW w):
  Calls Tryz.prog 41 #[.pointer (some ⟨gu,0,none⟩)] w fun e w'=>e= .returned (.int .i64 (q9F bs own a v t))/\
   SK wb w' g gs rate sd c s (u+2024) (n+1) (z0L bs own a v t) (fun i=>K i\/i=gu)/\Stay K w w'/\SubI w' gu gs st own (z0K bs own a v t) (z7c bs own a v t) t:=by
 have HN:=η (q4e j);have b0:=η h;have k5:=Blk.cell j 5;have k3:=Blk.cell j 3;have u5:=q0C k5;have u3:=q0C k3;have N:=η j;by_cases d:t=a
 ·have hd:(t==a)=true:=by simpa using d
  have HZ:Hd (q9F bs own a v t=0/\z0L bs own a v t=bs/\z0K bs own a v t=t/\z7c bs own a v t=v):=η (by
   have h0:q9F bs own a v t=0:=ξ d
   exact⟨h0,ξ d,by unfold z0K;rw[ξ h0],ξ d⟩)
  have Z:=η h;have k0:=η d;clear h j d;go_enter Tryz.func41,Tryz.ntmps41;go_wp2_with fail;refine HN.o.mono ?_;rintro e w1 ⟨rfl,rfl⟩;go_wp2_with fail;refine q0D (by kernel_rfl) (by kernel_rfl) ?_
  repeat (go_big_quiet_step (fail))
  refine wpQuiet_nil ?_;intro w2 q;have G:=η q;clear q u5 u3 k5 k3;go_wp2_with fail;go_ret;obtain⟨z1,z2,z3,z4⟩:=HZ.o;rw[z1,z2,z3,z4];have hh:=N.o.ext G.o;rw[<-k0.o] at hh;exact⟨rfl,(Z.o.grow G.o).mono (by omega) (by omega),fun i j=>Z.o.kExt G.o i (.inl j),hh⟩
 have hd:(t==a)=false:=beq_eq_false_iff_ne.2 d;obtain⟨z,hz⟩: ∃z,q8R bs own v [q8I t]=z:=⟨_,rfl⟩
 have HZ:Hd (q9F bs own a v t=z/\z0L bs own a v t=(if z=0 then bs++[⟨own,(q0R bs own).length,[q8I t]⟩] else bs)/\z0K bs own a v t=(if z=0 then t else a)/\z7c bs own a v t=(if z=0 then((q0R bs own).length:Int) else v)):=η (by
  have h0:q9F bs own a v t=z:=by unfold q9F;rw[κ d,hz]
  exact⟨h0,by unfold z0L;rw[κ d,hz],by unfold z0K;rw[h0],by unfold z7c;rw[κ d,hz]⟩)
 obtain⟨F,g0⟩: ∃F:Nat,t=(F:Int):=⟨t.toNat,by omega⟩
 have HT:=η (fun W (k:Ext w W)=>z9W F (by omega) W (hw.1.ext k));have hE:q8I t=⟨[97,116],Lib.decDigits F,0⟩:=by rw[g0];rfl
 obtain⟨D,hD⟩: ∃D,Lib.decDigits F=D:=⟨_,rfl⟩
 have o0:D.length<=11:=by rw[<-hD];have:=q4S (n:=F) (by omega);omega
 rw[hD] at HT hE;have HE:=η hE;have m0:=η hz;subst g0;clear h j d hz hD hE hw;go_enter Tryz.func41,Tryz.ntmps41;go_wp2_with fail;refine HN.o.mono ?_;rintro e w1 ⟨rfl,rfl⟩;go_wp2_with fail;refine q0D (by kernel_rfl) (by kernel_rfl) ?_
 repeat (go_big_quiet_step (fail))
 refine wpQuiet_nil ?_;intro w2 q;have G:=η q;have C:Hd (Ext w w2.drew):=η q.drew;have O:=η (N.o.ext C.o);have B:Hd (∀W:World,W.heap[gu]? =w2.drew.heap[gu]? ->(W.cell? ⟨gu,0,none⟩=some (.pointer (some ⟨gs,0,none⟩))/\W.cell? ⟨gu,2,none⟩=some (.string ⟨own.toArray⟩)/\W.cell? ⟨gu,4,none⟩=some (.int .i64 v)/\W.cell? ⟨gu,5,none⟩=some (.int .i64 (F:Int)))):=η fun W h=>by
  have S:=O.o.same h;exact⟨Blk.cell S 0,Blk.cell S 2,Blk.cell S 4,Blk.cell S 5⟩
 clear q u5 u3 k5 k3;go_wp2_with fail;refine q0v (fun W:World=>(W.cell? ⟨gu,0,none⟩=some (.pointer (some ⟨gs,0,none⟩))/\W.cell? ⟨gu,2,none⟩=some (.string ⟨own.toArray⟩)/\W.cell? ⟨gu,4,none⟩=some (.int .i64 v)/\W.cell? ⟨gu,5,none⟩=some (.int .i64 (F:Int)))) 23 (by kernel_rfl) (B.o _ rfl) (fun b=>?_);refine q0I 0 b (fun b=>?_)
 try simp only[Act.put,π,ψ,ω]
 refine q0I 1 b (fun b=>?_)
 try simp only[Act.put,π,ψ,ω]
 refine q0I 2 b (fun b=>?_)
 try simp only[Act.put,π,ψ,ω]
 refine q1u 3 b (fun b=>?_)
 try simp only[Act.put,π,ψ,ω]
 refine q0I 4 b (fun b=>?_)
 try simp only[Act.put,π,ψ,ω]
 refine q0I 5 b (fun b=>?_)
 try simp only[Act.put,π,ψ,ω]
 refine q0I 6 b (fun b=>?_)
 try simp only[Act.put,π,ψ,ω]
 refine q1u 7 b (fun b=>?_)
 try simp only[Act.put,π,ψ,ω]
 refine q0I 8 b (fun b=>?_)
 try simp only[Act.put,π,ψ,ω]
 refine q0I 9 b (fun b=>?_)
 try simp only[Act.put,π,ψ,ω]
 refine q0I 10 b (fun b=>?_)
 try simp only[Act.put,π,ψ,ω]
 refine q1u 11 b (fun b=>?_)
 try simp only[Act.put,π,ψ,ω]
 refine q0I 12 b (fun b=>?_)
 try simp only[Act.put,π,ψ,ω]
 refine q0I 13 b (fun b=>?_)
 try simp only[Act.put,π,ψ,ω]
 refine q0I 14 b (fun b=>?_)
 try simp only[Act.put,π,ψ,ω]
 refine q1u 15 b (fun b=>?_)
 try simp only[Act.put,π,ψ,ω]
 refine q0Q (i:=16) (by kernel_rfl) rfl (fun K9 hK=>?_)
 go_simp
 go_at_call 95
 refine(HT.o _ C.o).mono ?_;rintro e w3 ⟨rfl,hx⟩;have Q:=η (C.o.trans hx);have U:=hx.block gu O.o.lt;clear b;refine hK.out _ _ (B.o _ U) (fun b=>?_);clear hK K9
 try simp only[Act.put,π,ψ,ω]
 refine q0I 17 b (fun b=>?_)
 try simp only[Act.put,π,ψ,ω]
 have J:=q0B w3 (.cells #[.string ⟨#[97,116]⟩,.string ⟨D.toArray⟩,.float .f64 0] 67);have d0:=Blk.new w3 67 #[.string ⟨#[97,116]⟩,.string ⟨D.toArray⟩,.float .f64 0];have f0:=b0.o.grow Q.o;have e0:=f0.more (K':=fun i=>(K i\/i=gu)\/i=w3.heap.size) J fun i j=>j.imp id fun e=>⟨by omega,by rw[ρ];omega⟩
 have R:=e0.append hn own hs v (z:=z) (L:=[⟨[97,116],D,0⟩]) (fun W _ ss=>(by
  have:=(d0.same (ss _ (.inr rfl))).evs (L:=[⟨[97,116],D,0⟩]) (k:=1) (by simp) (by simp)
  rwa [Δ (by simp)] at this)) (fun e he=>by rw[List.mem_singleton.1 he];exact⟨by simp,by show D.length<=_;omega⟩) (fun e he=>by rw[List.mem_singleton.1 he];show(0:Nat)<_;omega) (by rw[<-HE.o];exact m0.o)
 rw[<-HE.o] at R;have Y:=η R;have l0:=η (Q.o.trans J);have X:=(J.block gu (by have:=(N.o.ext Q.o).lt;exact this)).trans U;have i0:=η X;clear J d0 f0 e0 R U;refine q0Q (i:=18) (by kernel_rfl) rfl (fun K9 hK=>?_)
 go_simp
 refine hK.out _ _ (B.o _ X) (fun b=>?_);clear hK K9
 try simp only[Act.put,π,ψ,ω]
 refine q0Q (i:=19) (by kernel_rfl) rfl (fun K9 hK=>?_)
 go_simp
 go_at_call 38
 refine Y.o.mono ?_;rintro e w5 ⟨x,y,c0,rfl,h1,h2,l⟩;have V:=(h2 gu (.inl (.inr rfl))).trans i0.o;have a0:=η (h1.beside (K':=fun i=>K i\/i=gu) fun i j=> .inl j);have M:Hd (Stay (fun i=>K i\/i=gu) w w5):=η fun i j=>(h2 i (.inl j)).trans (b0.o.kExt l0.o i j)
 have r:=η (O.o.same V);clear b X;refine hK.out _ _ (B.o _ V) (fun b=>?_);clear hK K9 h1 h2 V Y
 try simp only[Act.put,π,ψ,ω]
 refine q0I 20 b (fun b=>?_)
 try simp only[Act.put,π,ψ,ω]
 refine q0I 21 b (fun b=>?_)
 try simp only[Act.put,π,ψ,ω]
 refine q0I 22 b (fun b=>?_)
 try simp only[Act.put,π,ψ,ω]
 refine q1I (by kernel_rfl) ?_
 try simp only[List.drop_succ_cons,List.drop_zero]
 clear b B;by_cases m:z=0
 case neg=>
  obtain⟨rfl,rfl,rfl⟩:x=0/\y=z/\c0=bs:=by
   rcases l with⟨_,l,h4,h5⟩|⟨l,_⟩|⟨l,_⟩
   ·exact⟨l,h4,h5⟩
   ·exact absurd l m
   ·exact absurd l m
  have p0:(y !=0)=true:=by simpa using m
  clear l;go_wp2_with fail;go_ret;obtain⟨z1,z2,z3,z4⟩:=HZ.o;rw[z1,z2,z3,z4,κ m,κ m,κ m];exact⟨rfl,a0.o,fun i j=>M.o i (.inl j),r.o⟩
 ·subst m
  obtain⟨rfl,rfl,rfl⟩:x=((q0R bs own).length:Int)/\y=0/\c0=bs++[⟨own,(q0R bs own).length,[q8I (F:Int)]⟩]:=by
   rcases l with⟨l,_⟩|⟨_,_,_,_,l⟩|⟨_,l,h4,h5⟩
   ·exact absurd rfl l
   ·omega
   ·exact⟨l,h4,h5⟩
  have k5:=Blk.cell r.o 5;have k3:=Blk.cell r.o 3;have f3:=Blk.free r.o 3;have I:=Blk.set r.o 3 (.int .i64 (F:Int));have k4:=Blk.cell I 4;have f4:=Blk.free I 4;have j0:=η (Blk.set I 4 (.int .i64 ((q0R bs own).length:Int)));generalize q0R bs own=E at*;clear l I;go_wp2_with fail;go_ret;obtain⟨z1,z2,z3,z4⟩:=HZ.o;rw[z1,z2,z3,z4]
  try simp only[if_true]
  exact⟨rfl,(a0.o.pokeK (x:=gu) (.inr rfl) S 3 _).pokeK (x:=gu) (.inr rfl) S 4 _,fun i j=>((Below.heap_setCell _ _ _ _ fun e=>hg (by rw[<-show i=gu from e];exact j)).trans (Below.heap_setCell _ _ _ _ fun e=>hg (by rw[<-show i=gu from e];exact j))).trans (M.o i (.inl j)),j0.o⟩
end
section
variable {wb w W W':World}{g gs rate u n:Nat}{sd c s:Int}{bs:List Bt}{K K':Nat->Prop}
end
section
variable {wb w W W':World}{g gs rate u n:Nat}{sd c s:Int}{bs:List Bt}{K K':Nat->Prop}
end
theorem z8T{bs:List Bt}{st:List UInt8}{nx:Int}(h:q1Z st nx ct=0):q3h bs st nx ct=((q4G bs st).drop nx.toNat).take ct.toNat:=by unfold q3h;rw[ξ h];rfl
theorem z7q{bs:List Bt}{st:List UInt8}{M:Int}(h:q1Z st M ct=0)(b:0<=M)(i:M<((q0R bs st).length:Int))(d:1<=ct):z9r bs st M ct=(((q4G bs st).take (M+1).toNat).reverse).take ct.toNat:=by
 unfold z9r z0y;rw[ξ h,List.take_reverse,Θ,q1L,Nat.min_eq_left (by omega),List.drop_take]
 congr 2
 ·omega
 ·congr 1;omega
def q8O(bs:List Bt)(own:List UInt8):Ev:=(q0R bs own).getD ((q0R bs own).length-1) ev0
def z1Y(e:Ev):Bool:=decide (e.ty=[97,116])&&(q5A e.da).isSome
def q8G(bs:List Bt)(name st:List UInt8):Int:=if name=[]\/31<name.length\/q1M st=false\/st=126::name then 2 else if (q0R bs (126::name)).length=0 then 0 else if z1Y (q8O bs (126::name))=true then 0 else 10
def z1I(bs:List Bt)(name:List UInt8):Int:=if (q0R bs (126::name)).length=0 then 0 else(((q5A (q8O bs (126::name)).da).getD 0:Nat):Int)
theorem z1H{s:List UInt8}(h:q1M s=true):1<=s.length/\s.length<=32:=by
 unfold q1M at h;rw[Ξ] at h;exact⟨of_decide_eq_true h.1,of_decide_eq_true h.2⟩
theorem z8g(bs:List Bt)(st:List UInt8){len:Nat}(j:q1M st=true)(b:(q0R bs st).length=len+1)(m:len<=1000000):z9r bs st (len:Int) 1=[⟨st,(len:Int),q8O bs st⟩]/\q1Z st (len:Int) 1=0:=by
 have d:q1Z st (len:Int) 1=0:=κ (by rintro(h|h|h);rw[j] at h;cases h;omega;omega);refine⟨?_,d⟩;rw[z7q d (by omega) (by omega) (by omega),show((len:Int)+1).toNat=len+1 by omega];have l:(q4G bs st).length=len+1:=by rw[q1L,b]
 have i:=q5g st (q0R bs st) 0 len (by omega);have e:(q4G bs st).take (len+1)=(q4G bs st).take len++[(q4G bs st).getD len to0]:=by
  rw[List.take_succ_eq_append_getElem (by omega),δ,γ (by omega)];rfl
 rw[e,List.reverse_append];show [(q4G bs st).getD len to0]=_;unfold q4G;rw[i];unfold q8O;rw[b,Nat.zero_add]
 rfl
section
variable {wb w W W':World}{g gs gu b3 bu rate u n:Nat}{sd c s a v t:Int}{bs:List Bt}{K K':Nat->Prop}{st own:List UInt8}{p:Option Addr}
theorem z7L(h:SK wb w g gs rate sd c s u n bs K)(hn:n<=1000)(h3:K b3)(hu:K bu)(hg:K gu)(n0:b3≠gu)(v0:bu≠gu)(b0:wb.heap.size<=gu)(q:SubI w gu gs st own 0 (-1) 0)(X:Blk w b3 32 #[.pointer (some ⟨gs,0,none⟩)])(Y:Blk w bu 103 #[.pointer (some ⟨gu,0,none⟩)])
  (u0:q1M own=true){len:Nat}(hl:(q0R bs own).length=len+1)(hw:SbW wb):
  Calls Tryz.prog 92 #[.int .i64 (len:Int),.pointer (some ⟨b3,0,none⟩),.pointer (some ⟨bu,0,none⟩)] w fun e w'=>
   e = .returned (.int .i64 (if z1Y (q8O bs own)=true then 0 else 10))/\SK wb w' g gs rate sd c s u n bs K/\(∀i,K i->i≠gu->w'.heap[i]? =w.heap[i]?)/\
    (z1Y (q8O bs own)=true->SubI w' gu gs st own (((q5A (q8O bs own).da).getD 0:Nat):Int) (len:Int) (((q5A (q8O bs own).da).getD 0:Nat):Int)):=by
 have s0:=h.few;have B0:=q1r bs own;obtain⟨o0,p0⟩:=z8g bs own u0 hl (by omega);have I0:=z1H u0;have Z:=h.grow (Ext.refl w).drew|>.backward hn own (by omega) (len:Int) 1 (by omega) (by decide);rw[o0,p0] at Z;have M:=η Z;have HS:=η h;obtain⟨E,hE⟩: ∃E,q8O bs own=E:=⟨_,rfl⟩
 have J:E.da.length<=1000000:=by
  have hm:q8O bs own∈q0R bs own:=by
   unfold q8O;rw[δ,γ (by omega)];exact List.getElem_mem _
  rw[hE] at hm;obtain⟨l,C0,D0⟩:=List.mem_flatten.1 hm;obtain⟨b,A0,rfl⟩:=List.mem_map.1 C0;have F0:=h.ok.each (List.mem_filter.1 A0).1;have:=(q1W (q3t (q0Y F0.1).2.2.2.2.2.2 _ D0)).2.2;omega
 rw[hE] at M⊢;have S:Hd (∀W:World,(∀i,K i->W.heap[i]? =w.heap[i]?)->(W.cell? ⟨b3,0,none⟩=some (.pointer (some ⟨gs,0,none⟩))/\W.cell? ⟨bu,0,none⟩=some (.pointer (some ⟨gu,0,none⟩))/\W.cell? ⟨gu,2,none⟩=some (.string ⟨own.toArray⟩))):=η fun W h=>
  ⟨(X.same (h b3 h3)).cell 0,(Y.same (h bu hu)).cell 0,Blk.cell (q.same (h gu hg)) 2⟩
 have HI:=η q;have i0:=η Y;have h0:=η X;have HW:=η (fun W (k:Ext wb W)=>hw.ext k);obtain⟨bq,a0⟩: ∃b,z1Y E=b:=⟨_,rfl⟩
 obtain⟨xq,f0⟩: ∃x:Nat,(q5A E.da).getD 0=x:=⟨_,rfl⟩
 rw[a0,f0];obtain⟨zq,g0⟩: ∃z:Int,(if bq=true then(0:Int) else 10)=z:=⟨_,rfl⟩
 rw[g0];have N:=η a0;have z0:=η f0;have V:=η g0;clear h q X Y Z o0 p0 hE hw s0 B0 a0 f0 g0;obtain⟨ty,da,we⟩:=E;simp only at J;go_enter Tryz.func92,Tryz.ntmps92;go_wp2_with fail;refine q0v (fun W:World=>(W.cell? ⟨b3,0,none⟩=some (.pointer (some ⟨gs,0,none⟩))/\W.cell? ⟨bu,0,none⟩=some (.pointer (some ⟨gu,0,none⟩))/\W.cell? ⟨gu,2,none⟩=some (.string ⟨own.toArray⟩))) 10 (by kernel_rfl) (S.o _ fun i _=>rfl) (fun d=>?_);refine q1u 0 d (fun d=>?_)
 try simp only[Act.put,π,ψ,ω]
 refine q1u 1 d (fun d=>?_)
 try simp only[Act.put,π,ψ,ω]
 refine q0I 2 d (fun d=>?_)
 try simp only[Act.put,π,ψ,ω]
 refine q0I 3 d (fun d=>?_)
 try simp only[Act.put,π,ψ,ω]
 refine q1u 4 d (fun d=>?_)
 try simp only[Act.put,π,ψ,ω]
 refine q0I 5 d (fun d=>?_)
 try simp only[Act.put,π,ψ,ω]
 refine q0Q (i:=6) (by kernel_rfl) rfl (fun K9 hK=>?_)
 go_simp
 go_at_call 54
 refine M.o.mono ?_;rintro e w2 ⟨x,rfl,h1,h2,m0,h4⟩;have y:w2.ownsRow wb.heap.size 69 5 x 1 (q2q [⟨own,(len:Int),⟨ty,da,we⟩⟩]):=m0;obtain⟨fa,fc,rfl⟩:=q0E y;have c0: ∀i,K i->w2.heap[i]? =w.heap[i]? :=fun i q=>h2 i q
 clear d m0;refine hK.out _ _ (S.o _ c0) (fun d=>?_);clear hK K9
 try simp only[Act.put,π,ψ,ω]
 refine q0I 7 d (fun d=>?_)
 try simp only[Act.put,π,ψ,ω]
 refine q0I 8 d (fun d=>?_)
 try simp only[Act.put,π,ψ,ω]
 refine q0I 9 d (fun d=>?_)
 try simp only[Act.put,π,ψ,ω]
 refine q1I (by kernel_rfl) ?_
 try simp only[List.drop_succ_cons,List.drop_zero]
 clear d;obtain⟨bb,off,rfl,d0,d1,d2,d3,d4⟩:=(q2Z (n:=1) (L:=[⟨own,(len:Int),⟨ty,da,we⟩⟩]) y).1.at (i:=0) (by decide);simp only[List.getD_cons_zero,Nat.zero_mul,Nat.add_zero] at d0 d1 d2 d3 d4;have R:=η (h1.beside (K':=K) fun i q=> .inl q);have l0:=η c0;have j0:=η (z4q da J w2 (HW.o _ h1.base));clear h1 h2 y h4 c0 M;by_cases e0:ty=[97,116]
 case neg=>
  have H0:(ty==[97,116])=false:=beq_eq_false_iff_ne.2 e0;have HZ:Hd (z1Y ⟨ty,da,we⟩=false):=η (by unfold z1Y;rw[ε e0];rfl);have I:bq=false:=N.o.symm.trans HZ.o;have hz:zq=10:=by rw[<-V.o,I];rfl
  subst I;subst hz;go_wp2_with fail;go_ret;exact⟨rfl,R.o,(fun i q _=>l0.o i q),fun h=>by cases h⟩
 subst e0;have HZ:Hd (z1Y ⟨[97,116],da,we⟩=(q5A da).isSome):=η (by unfold z1Y;rw[ζ rfl];rfl);go_wp2_with fail;refine j0.o.mono ?_;rintro e r ⟨nv,nb,rfl,hx,t0⟩;have k0:=η (R.o.grow hx);have j:Hd (∀i,K i->r.heap[i]? =w.heap[i]?):=η fun i q=>(R.o.kExt hx i q).trans (l0.o i q)
 have Q:=η t0;clear hx t0 j0 d0 d1 d2 d3 d4
 cases nb with
 | false=>
  have U:Hd (z1Y ⟨[97,116],da,we⟩=false):=η (by rw[HZ.o,Q.o.2 rfl];rfl);have I:bq=false:=N.o.symm.trans U.o;have hz:zq=10:=by rw[<-V.o,I];rfl
  subst I;subst hz;go_wp2_with fail;go_ret;exact⟨rfl,k0.o,(fun i q _=>j.o i q),fun h=>by cases h⟩
 | true=>
  obtain⟨D,G0⟩:=Q.o.1 rfl;obtain⟨m,rfl⟩: ∃m:Nat,nv=(m:Int):=⟨nv.toNat,by omega⟩
  rw[Int.toNat_natCast] at D;have U:Hd (z1Y ⟨[97,116],da,we⟩=true):=η (by rw[HZ.o,D];rfl);have HQ:Hd ((q5A da).getD 0=m):=η (by rw[D];rfl);clear D G0 Q;have I:bq=true:=N.o.symm.trans U.o;have hx:xq=m:=z0.o.symm.trans HQ.o;have hz:zq=0:=by rw[<-V.o,I];rfl
  subst I;subst hz;obtain rfl:m=xq:=hx.symm;have hc:=S.o r.drew j.o;go_wp2_with fail;have O:=η (HI.o.same (j.o gu hg));refine q0v (fun W:World=>(W.cell? ⟨b3,0,none⟩=some (.pointer (some ⟨gs,0,none⟩))/\W.cell? ⟨bu,0,none⟩=some (.pointer (some ⟨gu,0,none⟩))/\W.cell? ⟨gu,2,none⟩=some (.string ⟨own.toArray⟩))) 12 (by kernel_rfl) hc (fun d=>?_);refine q1u 0 d (fun d=>?_)
  try simp only[Act.put,π,ψ,ω]
  refine q1u 1 d (fun d=>?_)
  try simp only[Act.put,π,ψ,ω]
  refine q1u 2 d (fun d=>?_)
  try simp only[Act.put,π,ψ,ω]
  refine q0I 3 d (fun d=>?_)
  try simp only[Act.put,π,ψ,ω]
  refine q0I 4 d (fun d=>?_)
  try simp only[Act.put,π,ψ,ω]
  refine q0I 5 d (fun d=>?_)
  try simp only[Act.put,π,ψ,ω]
  refine q0I 6 d (fun d=>?_)
  try simp only[Act.put,π,ψ,ω]
  refine q0I 7 d (fun d=>?_)
  try simp only[Act.put,π,ψ,ω]
  have k3:=Blk.cell O.o 3;have f3:=Blk.free O.o 3;have B:=Blk.set O.o 3 (.int .i64 (m:Int));have k5:=Blk.cell B 5;have f5:=Blk.free B 5;have C:=Blk.set B 5 (.int .i64 (m:Int));have k4:=Blk.cell C 4;have f4:=Blk.free C 4;have w0:Hd (SubI (((r.setCell ⟨gu,3,none⟩ (.int .i64 (m:Int))).setCell ⟨gu,5,none⟩ (.int .i64 (m:Int))).setCell ⟨gu,4,none⟩ (.int .i64 (len:Int))) gu gs st own (m:Int) (len:Int) (m:Int)):=η (Blk.set C 4 (.int .i64 (len:Int)));have y0:=η (((k0.o.pokeK (x:=gu) hg b0 3 (.int .i64 (m:Int))).pokeK (x:=gu) hg b0 5 (.int .i64 (m:Int))).pokeK (x:=gu) hg b0 4 (.int .i64 (len:Int)));have F:Hd (∀i,i≠gu->(r.setCell ⟨gu,3,none⟩ (.int .i64 (m:Int))).heap[i]? =r.heap[i]?):=η fun i q=>by
   rw[Below.heap_setCell _ _ _ _ q]
  have G:Hd (∀i,i≠gu->((r.setCell ⟨gu,3,none⟩ (.int .i64 (m:Int))).setCell ⟨gu,5,none⟩ (.int .i64 (m:Int))).heap[i]? =r.heap[i]?):=η fun i q=>by
   rw[Below.heap_setCell _ _ _ _ q,Below.heap_setCell _ _ _ _ q]
  have x0:Hd (∀i,i≠gu->(((r.setCell ⟨gu,3,none⟩ (.int .i64 (m:Int))).setCell ⟨gu,5,none⟩ (.int .i64 (m:Int))).setCell ⟨gu,4,none⟩ (.int .i64 (len:Int))).heap[i]? =r.heap[i]?):=η fun i q=>by
   rw[Below.heap_setCell _ _ _ _ q,Below.heap_setCell _ _ _ _ q,Below.heap_setCell _ _ _ _ q]
  have q0:((r.setCell ⟨gu,3,none⟩ (.int .i64 (m:Int))).drew.cell? ⟨b3,0,none⟩=some (.pointer (some ⟨gs,0,none⟩))/\(r.setCell ⟨gu,3,none⟩ (.int .i64 (m:Int))).drew.cell? ⟨bu,0,none⟩=some (.pointer (some ⟨gu,0,none⟩))/\(r.setCell ⟨gu,3,none⟩ (.int .i64 (m:Int))).drew.cell? ⟨gu,2,none⟩=some (.string ⟨own.toArray⟩)):=
   ⟨Blk.cell (h0.o.same ((F.o b3 n0).trans (j.o b3 h3))) 0,Blk.cell (i0.o.same ((F.o bu v0).trans (j.o bu hu))) 0,Blk.cell B 2⟩
  have r0:(((r.setCell ⟨gu,3,none⟩ (.int .i64 (m:Int))).setCell ⟨gu,5,none⟩ (.int .i64 (m:Int))).drew.cell? ⟨b3,0,none⟩=some (.pointer (some ⟨gs,0,none⟩))/\((r.setCell ⟨gu,3,none⟩ (.int .i64 (m:Int))).setCell ⟨gu,5,none⟩ (.int .i64 (m:Int))).drew.cell? ⟨bu,0,none⟩=some (.pointer (some ⟨gu,0,none⟩))/\((r.setCell ⟨gu,3,none⟩ (.int .i64 (m:Int))).setCell ⟨gu,5,none⟩ (.int .i64 (m:Int))).drew.cell? ⟨gu,2,none⟩=some (.string ⟨own.toArray⟩)):=
   ⟨Blk.cell (h0.o.same ((G.o b3 n0).trans (j.o b3 h3))) 0,Blk.cell (i0.o.same ((G.o bu v0).trans (j.o bu hu))) 0,Blk.cell C 2⟩
  refine q0Q (i:=8) (by kernel_rfl) rfl (fun K9 hK=>?_)
  go_simp
  refine hK.out _ _ q0 (fun d=>?_);clear hK K9
  try simp only[Act.put,π,ψ,ω]
  refine q0I 9 d (fun d=>?_)
  try simp only[Act.put,π,ψ,ω]
  refine q0I 10 d (fun d=>?_)
  try simp only[Act.put,π,ψ,ω]
  refine q0Q (i:=11) (by kernel_rfl) rfl (fun K9 hK=>?_)
  go_simp
  refine hK.out _ _ r0 (fun d=>?_);clear hK K9
  try simp only[Act.put,π,ψ,ω]
  refine q1I (by kernel_rfl) ?_
  try simp only[List.drop_succ_cons,List.drop_zero]
  clear d hc q0 r0;clear B C;go_wp2_with fail;go_ret;exact⟨rfl,y0.o.grow (Ext.refl _).drew,(fun i q E0=>(x0.o i E0).trans (j.o i q)),SubI.ext w0.o (Ext.refl _).drew⟩
end
theorem q5o{wb w:World}{g gs rate u n:Nat}{sd c s:Int}{bs:List Bt}{K:Nat->Prop}(h:SK wb w g gs rate sd c s u n bs K)(hn:n<=1000)(name st:List UInt8)(h1:name.length<=4611686018427387903)(h2:st.length<=4611686018427387903)(hw:SbW wb):
  Calls Tryz.prog 39 #[.pointer (some ⟨gs,0,none⟩),.string ⟨name.toArray⟩,.string ⟨st.toArray⟩] w fun e w'=>Ext wb w'/\Stay K w w'/\
   ((q8G bs name st≠0/\e= .returned (.tuple #[.pointer none,.int .i64 (q8G bs name st)])/\SK wb w' g gs rate sd c s u n bs K)\/
   (q8G bs name st=0/\ ∃gu,e= .returned (.tuple #[.pointer (some ⟨gu,0,none⟩),.int .i64 0])/\SubI w' gu gs st (126::name) (z1I bs name) (((q0R bs (126::name)).length:Int)-1) (z1I bs name)/\¬K gu/\wb.heap.size<=gu/\SK wb w' g gs rate sd c s u n bs (fun i=>K i\/i=gu))):=by
 have R0: ∀(fn:Fn) (first cap:Array Value) (w:World),(Instr.makeFunc fn first cap).run Tryz.prog w= .ok (.func fn first cap) w:=fun _ _ _ _=>rfl
 have x0:(⟨#[126]⟩:ByteArray)++⟨name.toArray⟩=⟨(126::name).toArray⟩:=by rw[show(#[126]:Array UInt8)=[126].toArray from rfl,ByteArray.mk_append_mk];simp
 obtain⟨own,ho⟩: ∃own,126::name=own:=⟨_,rfl⟩
 rw[ho] at x0⊢;have E0:own.length=name.length+1:=by rw[<-ho];rfl
 obtain⟨zn,a0⟩: ∃z,q8G bs name st=z:=⟨_,rfl⟩
 obtain⟨an,V⟩: ∃z,z1I bs name=z:=⟨_,rfl⟩
 rw[a0,V];unfold q8G at a0;unfold z1I at V;rw[ho] at a0 V;have hX:=q7O w (.cells #[.pointer (some ⟨gs,0,none⟩)] 32) (.cells #[.pointer (some ⟨gs,0,none⟩),.string ⟨st.toArray⟩,.string ⟨own.toArray⟩,.int .i64 0,.int .i64 (-1),.int .i64 0] 167) (.cells #[.pointer (some ⟨w.heap.size+1,0,none⟩)] 103);obtain⟨w0,F⟩: ∃w0,((w.alloc (.cells #[.pointer (some ⟨gs,0,none⟩)] 32)).alloc (.cells #[.pointer (some ⟨gs,0,none⟩),.string ⟨st.toArray⟩,.string ⟨own.toArray⟩,.int .i64 0,.int .i64 (-1),.int .i64 0] 167)).alloc (.cells #[.pointer (some ⟨w.heap.size+1,0,none⟩)] 103)=w0:=⟨_,rfl⟩
 rw[F] at hX;have s0:Blk w0 w.heap.size 32 #[.pointer (some ⟨gs,0,none⟩)]:=by rw[<-F];exact((Blk.new w _ _).ext (q0B _ _)).ext (q0B _ _)
 have u0:SubI w0 (w.heap.size+1) gs st own 0 (-1) 0:=by
  rw[<-F];have:=Blk.new (w.alloc (.cells #[.pointer (some ⟨gs,0,none⟩)] 32)) 167 #[.pointer (some ⟨gs,0,none⟩),.string ⟨st.toArray⟩,.string ⟨own.toArray⟩,.int .i64 0,.int .i64 (-1),.int .i64 0];rw[ρ] at this;exact this.ext (q0B _ _)
 have t0:Blk w0 (w.heap.size+1+1) 103 #[.pointer (some ⟨w.heap.size+1,0,none⟩)]:=by
  rw[<-F];have:=Blk.new ((w.alloc (.cells #[.pointer (some ⟨gs,0,none⟩)] 32)).alloc (.cells #[.pointer (some ⟨gs,0,none⟩),.string ⟨st.toArray⟩,.string ⟨own.toArray⟩,.int .i64 0,.int .i64 (-1),.int .i64 0] 167)) 103 #[.pointer (some ⟨w.heap.size+1,0,none⟩)];rw[ρ,ρ] at this;exact this
 have P0:w.heap.size+1+1+1=w0.heap.size:=by rw[<-F,ρ,ρ,ρ]
 have Q0:=h.base.size;have v0:SK wb w0 g gs rate sd c s u n bs (fun i=>K i\/i=w.heap.size\/i=w.heap.size+1\/i=w.heap.size+1+1):=h.more hX fun i m=>by
  rcases m with m|m
  ·exact .inl m
  ·exact .inr ⟨by omega,by omega⟩
 have c0:Hd (∀j,¬K (w.heap.size+j)):=η fun j hj=>by have:=h.klt _ hj;omega
 have S:Hd (Stay K w w0):=η (h.kExt hX);obtain⟨b3,y0⟩: ∃b,w.heap.size=b:=⟨_,rfl⟩
 obtain⟨gu,D0⟩: ∃b,w.heap.size+1=b:=⟨_,rfl⟩
 obtain⟨bu,z0⟩: ∃b,w.heap.size+1+1=b:=⟨_,rfl⟩
 have k0:=η F;have O0:=η (And.intro y0 (And.intro D0 z0));have I:=η v0;have l0:=η s0;have o0:=η u0;have n0:=η t0;have HZ:=η a0;have HA:=η V;have HO:=η E0;have K0:=η (fun W (k:Ext wb W)=>hw.ext k);have h0:=η (q9z st w0 (by omega));clear a0 V h v0 s0 u0 t0 hX hw F y0 D0 z0 ho E0;go_enter Tryz.func39,Tryz.ntmps39;by_cases E:name=[]
 ·have hd:(name==([]:List UInt8))=true:=by rw[E];rfl
  have q:Hd (zn=2):=η (by have:=HZ.o;rw[ξ (.inl E)] at this;exact this.symm);clear E;go_wp2_with fail;go_ret2;rw[k0.o];exact⟨I.o.base,S.o,.inl ⟨by rw[q.o];decide,by rw[q.o];rfl,I.o.beside fun i m=> .inl m⟩⟩
 have hd:(name==([]:List UInt8))=false:=beq_eq_false_iff_ne.2 E;by_cases f0:31<name.length
 ·have hl:decide ((31:Int)<(name.length:Int))=true:=ζ (by omega)
  have q:Hd (zn=2):=η (by have:=HZ.o;rw[ξ (.inr (.inl f0))] at this;exact this.symm);clear E f0;go_wp2_with fail;go_ret2;rw[k0.o];exact⟨I.o.base,S.o,.inl ⟨by rw[q.o];decide,by rw[q.o];rfl,I.o.beside fun i m=> .inl m⟩⟩
 have hl:decide ((31:Int)<(name.length:Int))=false:=ε (by omega);have q0:=η E;have i0:=η f0;clear E f0;go_wp2_with fail;rw[k0.o];refine h0.o.mono ?_;rintro e w1 ⟨rfl,M⟩;have C:=η (I.o.grow M);have D:Hd (Stay K w w1):=η fun i m=>(I.o.kExt M i (.inl m)).trans (S.o i m)
 have N:=η (l0.o.ext M);have b0:=η (o0.o.ext M);have G:=η (n0.o.ext M);clear M h0;obtain⟨vs,Z⟩: ∃b,q1M st=b:=⟨_,rfl⟩
 rw[Z]
 cases vs with
 | false=>
  have q:Hd (zn=2):=η (by have:=HZ.o;rw[ξ (.inr (.inr (.inl Z)))] at this;exact this.symm);clear Z;go_wp2_with fail;go_ret2;exact⟨C.o.base,D.o,.inl ⟨by rw[q.o];decide,by rw[q.o];rfl,C.o.beside fun i m=> .inl m⟩⟩
 |true=>
 have M0:=η Z;clear Z;have kb:=G.o.cell 0;have kg:=Blk.cell b0.o 2;by_cases J:st=own
 ·have B0:(st==own)=true:=by rw[J];exact beq_self_eq_true _
  have q:Hd (zn=2):=η (by have:=HZ.o;rw[ξ (.inr (.inr (.inr J)))] at this;exact this.symm);clear J;go_wp2_with fail;go_ret2;exact⟨C.o.base,D.o,.inl ⟨by rw[q.o];decide,by rw[q.o];rfl,C.o.beside fun i m=> .inl m⟩⟩
 have B0:(st==own)=false:=beq_eq_false_iff_ne.2 J;have L0:=η J;clear J;have X:q1M own=true:=by
  have h1:=q0.o;have h2:=i0.o;have h3:=HO.o;have:name.length≠0:=fun e=>h1 (List.length_eq_zero_iff.1 e)
  unfold q1M;rw[ζ (by omega),ζ (by omega)];rfl
 have J0:=η X;have g0:=η ((C.o.grow (Ext.refl _).drew).last hn own (by have:=i0.o;have:=HO.o;omega) (x:=((q0R bs own).length:Int)-1) (y:=0) (by unfold z4i;rw[ξ X]));have j0:Hd (∀W:World,(∀i,(K i\/i=w.heap.size\/i=w.heap.size+1\/i=w.heap.size+1+1)->W.heap[i]? =w1.heap[i]?)->(W.cell? ⟨w.heap.size,0,none⟩=some (.pointer (some ⟨gs,0,none⟩))/\W.cell? ⟨w.heap.size+1+1,0,none⟩=some (.pointer (some ⟨w.heap.size+1,0,none⟩))/\W.cell? ⟨w.heap.size+1,2,none⟩=some (.string ⟨own.toArray⟩))):=η fun W h=>
  ⟨(N.o.same (h _ (.inr (.inl rfl)))).cell 0,(G.o.same (h _ (.inr (.inr (.inr rfl))))).cell 0,Blk.cell (b0.o.same (h _ (.inr (.inr (.inl rfl))))) 2⟩
 clear X;go_wp2_with fail;clear kb kg hd hl x0 B0;refine q0v (fun W:World=>(W.cell? ⟨w.heap.size,0,none⟩=some (.pointer (some ⟨gs,0,none⟩))/\W.cell? ⟨w.heap.size+1+1,0,none⟩=some (.pointer (some ⟨w.heap.size+1,0,none⟩))/\W.cell? ⟨w.heap.size+1,2,none⟩=some (.string ⟨own.toArray⟩))) 9 (by kernel_rfl) (j0.o _ fun i _=>rfl) (fun d=>?_);refine q1u 0 d (fun d=>?_)
 try simp only[Act.put,π,ψ,ω]
 refine q1u 1 d (fun d=>?_)
 try simp only[Act.put,π,ψ,ω]
 refine q0I 2 d (fun d=>?_)
 try simp only[Act.put,π,ψ,ω]
 refine q0I 3 d (fun d=>?_)
 try simp only[Act.put,π,ψ,ω]
 refine q1u 4 d (fun d=>?_)
 try simp only[Act.put,π,ψ,ω]
 refine q0Q (i:=5) (by kernel_rfl) rfl (fun K9 hK=>?_)
 go_simp
 go_at_call 52
 refine g0.o.mono ?_;rintro e w2 ⟨rfl,h1,h2⟩;have d0:=η h1;have B:=η h2;clear d h1 h2 g0;refine hK.out _ _ (j0.o _ fun i m=>B.o i m) (fun d=>?_);clear hK K9
 try simp only[Act.put,π,ψ,ω]
 refine q0I 6 d (fun d=>?_)
 try simp only[Act.put,π,ψ,ω]
 refine q0I 7 d (fun d=>?_)
 try simp only[Act.put,π,ψ,ω]
 refine q0I 8 d (fun d=>?_)
 try simp only[Act.put,π,ψ,ω]
 refine q1I (by kernel_rfl) ?_
 try simp only[List.drop_succ_cons,List.drop_zero]
 clear d;have m0:=η (N.o.same (B.o _ (.inr (.inl rfl))));have p0:=η (b0.o.same (B.o _ (.inr (.inr (.inl rfl)))));have O:=η (G.o.same (B.o _ (.inr (.inr (.inr rfl)))))
 have r0:Hd (zn=if (q0R bs own).length=0 then 0 else if z1Y (q8O bs own)=true then 0 else 10):=η (by
  have:=HZ.o;rw[κ] at this
  ·exact this.symm
  ·rintro(h|h|h|h)
   ·exact q0.o h
   ·exact i0.o h
   ·rw[M0.o] at h;cases h
   ·exact L0.o h)
 clear HZ j0 N b0 G l0 o0 n0;obtain⟨len,r⟩: ∃l,(q0R bs own).length=l:=⟨_,rfl⟩
 rw[r]
 cases len with
 | zero=>
  have A0:decide ((0:Int)<=((0:Nat):Int)-1)=false:=by decide
  have q:Hd (zn=0):=η (by have:=r0.o;rw[ξ r] at this;exact this);have F0:Hd (an=0):=η (by have:=HA.o;rw[ξ r] at this;exact this.symm);have kb:=O.o.cell 0;have Q:=η r;clear r;go_wp2_with fail;go_ret2;exact⟨d0.o.base,fun i m=>(B.o i (.inl m)).trans (D.o i m),.inr ⟨q.o,_,rfl,by rw[F0.o,Q.o];exact p0.o,c0.o 1,by omega,d0.o.beside fun i m=>m.elim .inl fun e=> .inr (.inr (.inl e))⟩⟩
 | succ len=>
  have A0:decide ((0:Int)<=((len+1:Nat):Int)-1)=true:=ζ (by omega);have N0:=q1r bs own;have C0:=d0.o.few;have q1:((len+1:Nat):Int)-1=(len:Int):=by omega
  rw[q1] at A0⊢;have Q:=η r;have HC:=η (z7L (b3:=w.heap.size) (gu:=w.heap.size+1) (bu:=w.heap.size+1+1) d0.o hn (.inr (.inl rfl)) (.inr (.inr (.inr rfl))) (.inr (.inr (.inl rfl))) (by omega) (by omega) (by omega) p0.o m0.o O.o J0.o r (K0.o wb (Ext.refl _)));clear r q1 N0 C0;go_wp2_with fail;refine HC.o.mono ?_;rintro e w3 ⟨rfl,h1,h2,h3⟩;have e0:=η h1;have U:=η h2;have H0:=η h3;have kb:=(O.o.same (U.o _ (.inr (.inr (.inr rfl))) (by omega))).cell 0;clear h1 h2 h3 HC;obtain⟨vb,Y⟩: ∃b,z1Y (q8O bs own)=b:=⟨_,rfl⟩
  rw[Y];have R:Hd (zn=if vb=true then 0 else 10):=η (by have:=r0.o;rw[κ (by rw[Q.o];omega),Y] at this;exact this);have G0:Hd (an=(((q5A (q8O bs own).da).getD 0:Nat):Int)):=η (by have:=HA.o;rw[κ (by rw[Q.o];omega)] at this;exact this.symm)
  cases vb with
  | false=>
   clear Y;go_wp2_with fail;go_ret2;exact⟨e0.o.base,fun i m=>((U.o i (.inl m) fun e=>c0.o 1 (by rw[<-e];exact m)).trans (B.o i (.inl m))).trans (D.o i m),.inl ⟨by rw[R.o];decide,by rw[R.o];rfl,e0.o.beside fun i m=> .inl m⟩⟩
  | true=>
   have I0:=η (H0.o Y);clear Y;go_wp2_with fail;go_ret2;exact⟨e0.o.base,fun i m=>((U.o i (.inl m) fun e=>c0.o 1 (by rw[<-e];exact m)).trans (B.o i (.inl m))).trans (D.o i m),.inr ⟨by rw[R.o];rfl,_,rfl,by rw[G0.o,Q.o,show((len+1:Nat):Int)-1=(len:Int) by omega];exact I0.o,c0.o 1,by omega,e0.o.beside fun i m=>m.elim .inl fun e=> .inr (.inr (.inl e))⟩⟩
end
end Go.Proofs.YtfiibpgoplcgkaaGreatDoor
