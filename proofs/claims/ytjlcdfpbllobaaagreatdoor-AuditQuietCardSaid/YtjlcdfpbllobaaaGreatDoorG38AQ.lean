/- Plain laws. -/
import Derived.Lib.ItoaNum
import Derived.Shelf.Strconv.Itoa3
import Derived.Shelf.Strings.Search1
import Derived.Lib.AppendIntMem
import Derived.Lib.OthersKept
import Derived.Test.YtjlcdfpbllobaaaGreatDoorG37AQ
set_option linter.unusedVariables false
set_option linter.unusedSimpArgs false
set_option maxRecDepth 100000
set_option maxHeartbeats 12800000
namespace Go.Proofs.YtjlcdfpbllobaaaGreatDoor
section
open Go.RowKit
structure Cur where
 st:List UInt8
 nx:Int
 dn:Bool
deriving DecidableEq
def y4u(c:Cur):Bool:=q1U c.st&&decide (c.nx<=1073741824)&&(decide (0<=c.nx)||(c.dn&&decide (c.nx= -1)))
theorem y3S{c:Cur}(h:y4u c=true):q1U c.st=true/\ -1<=c.nx/\c.nx<=1073741824:=by
 unfold y4u at h;simp only[Ξ,Bool.or_eq_true,decide_eq_true_iff] at h;refine⟨h.1.1,?_,h.1.2⟩;rcases h.2 with h|h<;>omega
end
end Go.Proofs.YtjlcdfpbllobaaaGreatDoor
namespace Go.Proofs
open Go.Shelf
end Go.Proofs
namespace Go.Proofs.YtjlcdfpbllobaaaGreatDoor
variable {x:Smm}{st:List UInt8}{nx ct:Int}{B i:Nat}
section
open Go.RowKit
theorem z5r(st:List UInt8)(nx:Int)(dn:Bool):y4u ⟨st,nx,dn⟩=true↔q1U st=true/\nx<=1073741824/\(0<=nx\/(dn=true/\nx= -1)):=by
 unfold y4u;simp only[Ξ,Bool.or_eq_true,decide_eq_true_iff];exact⟨fun h=>⟨h.1.1,h.1.2,h.2⟩,fun h=>⟨⟨h.1,h.2.1⟩,h.2.2⟩⟩
section
variable {wb w W W':World}{g gs rate u n:Nat}{sd c s:Int}{bs:List Bt}{K K':Nat->Prop}
theorem SK.pokeK(h:SK wb W g gs rate sd c s u n bs K){x:Nat}(hK:K x)(d:wb.heap.size<=x)(j:Nat)(v:Value):SK wb (W.setCell ⟨x,j,none⟩ v) g gs rate sd c s u n bs K:=by
 refine h.sideM (by rw[World.size_setCell];exact ι _) (Below.setCell h.base d v) (fun i b l=>?_) fun i b=> .inl b
 exact heap_setCell_other W ⟨x,j,none⟩ i v fun e=>l (by have:i=x:=e;rw[this];exact hK)
theorem z9T{dn:Bool}(hm:y4u ⟨st,nx,dn⟩=true)(b:0<=nx)(h1:1<=ct):q3Z st nx ct=0:=by
 unfold q3Z;refine κ ?_;have:=(y3S hm).1;rintro(h|h|h)
 ·simp only at this;rw[this] at h;cases h
 ·omega
 ·omega
end
section
variable {wb w W W':World}{g gs rate u n:Nat}{sd c s:Int}{bs:List Bt}{K K':Nat->Prop}
end
section
variable {wb w W W':World}{g gs rate u n:Nat}{sd c s:Int}{bs:List Bt}{K K':Nat->Prop}
end
theorem y1D{bs:List Bt}(h:q3Z st nx ct=0):y2z bs st nx ct=((q3K bs st).drop nx.toNat).take ct.toNat:=by unfold y2z;rw[ξ h];rfl
theorem y0Y{bs:List Bt}{M:Int}(h:q3Z st M ct=0)(b:0<=M)(d:M<((q0U bs st).length:Int))(h1:1<=ct):y2l bs st M ct=(((q3K bs st).take (M+1).toNat).reverse).take ct.toNat:=by
 unfold y2l z3J;rw[ξ h,List.take_reverse,Θ,q1M,Nat.min_eq_left (by omega),List.drop_take]
 congr 2
 ·omega
 ·congr 1;omega
section
variable {wb w W W':World}{g gs rate u n:Nat}{sd c s:Int}{bs:List Bt}{K K':Nat->Prop}
theorem y3A(b:q1U st=true)(d:(q0U bs st).length<=1000000):y2z bs st 0 1073741824=q3K bs st/\q3Z st 0 1073741824=0:=by
 have h:=z9T (dn:=false) (nx:=0) (ct:=1073741824) ((z5r st 0 false).2 ⟨b,by decide,.inl (by decide)⟩) (by decide) (by decide);refine⟨?_,h⟩;rw[y1D h];show((q3K bs st).drop 0).take 1073741824=q3K bs st;rw[List.drop_zero,Δ (by rw[q1M];omega)]
theorem y2m{len:Nat}(d:q1U st=true)(b:(q0U bs st).length=len)(j:1<=len)(h1:len<=1000000):y2l bs st ((len:Int)-1) 1073741824=(q3K bs st).reverse/\q3Z st ((len:Int)-1) 1073741824=0:=by
 have h:=z9T (dn:=true) (nx:=(len:Int)-1) (ct:=1073741824) ((z5r st ((len:Int)-1) true).2 ⟨d,by omega,.inl (by omega)⟩) (by omega) (by decide);refine⟨?_,h⟩;rw[y0Y h (by omega) (by omega) (by decide),show((len:Int)-1+1).toNat=len by omega];show(((q3K bs st).take len).reverse).take 1073741824=_;rw[Δ (l:=q3K bs st) (by rw[q1M,b];exact ι _),Δ (by rw[List.length_reverse,q1M,b];omega)]
theorem y4q(h:SK wb w g gs rate sd c s u n bs K)(hn:n<=1000){len:Nat}(hs:q1U st=true)(hl:(q0U bs st).length=len)(h0:1<=len):
  Calls Tryz.prog 40 #[.pointer (some ⟨gs,0,none⟩),.string ⟨st.toArray⟩] w fun e w'=> ∃(fa:Option Addr) (fc:Nat) (ba:Option Addr) (bc:Nat),e= .returned (.tuple #[.agg #[.string ⟨st.toArray⟩,.int .i64 ((len:Int)-1),.slice fa len fc,.slice ba len bc],.int .i64 0])/\
   SK wb w' g gs rate sd c s u n bs (fun i=>(K i\/(Value.slice fa len fc).ownBlock=some i)\/(Value.slice ba len bc).ownBlock=some i)/\Stay K w w'/\
   w'.ownsRow wb.heap.size 99 5 (.slice fa len fc) len (q2K (q3K bs st))/\w'.ownsRow wb.heap.size 99 5 (.slice ba len bc) len (q2K (q3K bs st).reverse)/\
   (∀i,K i->(Value.slice fa len fc).ownBlock≠some i)/\(∀i,(K i\/(Value.slice fa len fc).ownBlock=some i)->(Value.slice ba len bc).ownBlock≠some i):=by
 have F0:=(q6Q hs).2;have n0:=h.few;have A0:=q4f bs st;have o0:len<=1000000:=by omega
 have d0:=η (y3A (bs:=bs) hs (by rw[hl];exact o0));have c0:=η (y2m (bs:=bs) hs hl h0 o0);have u0:Hd (z4R bs st=((len:Int)-1,0)):=η (by unfold z4R;rw[ξ hs,hl]);have j0:Hd ((q3K bs st).length=len):=η (by rw[q1M,hl]);generalize q3K bs st=T at*;have hmx:max ((len:Int)-1) 0=(len:Int)-1:=by omega
 have I:=q0B w (.cells #[.string ⟨#[]⟩,.int .i64 0,.slice none 0 0,.slice none 0 0] 43);have E:=Blk.new w 43 #[.string ⟨#[]⟩,.int .i64 0,.slice none 0 0,.slice none 0 0];obtain⟨W1,z0⟩: ∃W1,w.alloc (.cells #[.string ⟨#[]⟩,.int .i64 0,.slice none 0 0,.slice none 0 0] 43)=W1:=⟨_,rfl⟩
 rw[z0] at I E;obtain⟨bR,F⟩: ∃bR,w.heap.size=bR:=⟨_,rfl⟩
 rw[F] at E;have B0:=I.size;have h1:=h.more (K':=fun i=>K i\/i=bR) I fun i d=>d.imp id fun e=>⟨by omega,by have:=E.lt;omega⟩
 have t0:Hd (∀i,K i->i≠bR):=η fun i d e=>by have:=h.klt i d;omega
 have q:Hd (wb.heap.size<=bR):=η (by have:=h.base.size;omega);have y0:Hd (Stay K w W1):=η (h.kExt I);have HL:=η (h1.last hn st (by omega) u0.o);have s0:=η E;have j:=η F;clear h h1 n0 A0 I E B0 F hl hs;go_enter Tryz.func40,Tryz.ntmps40;go_wp2_with fail;refine HL.o.mono ?_;rintro e J ⟨rfl,y,C⟩;have Y:=q0B J (.cells #[.string ⟨st.toArray⟩,.int .i64 ((len:Int)-1),.slice none 0 0,.slice none 0 0] 43);have O:=Blk.new J 43 #[.string ⟨st.toArray⟩,.int .i64 ((len:Int)-1),.slice none 0 0,.slice none 0 0];obtain⟨m,G⟩: ∃m,J.heap.size=m:=⟨_,rfl⟩
 rw[G] at O;have h3:=y.more (K':=fun i=>(K i\/i=bR)\/i=m) Y fun i d=>d.imp id fun e=>⟨by omega,by have:=O.lt;omega⟩
 have U:Hd (∀i,(K i\/i=bR)->i≠m):=η fun i d e=>by have:=y.klt i d;omega
 have R:Hd (wb.heap.size<=m):=η (by have:=y.base.size;omega);have e0:Hd (Stay (fun i=>K i\/i=bR) W1 (J.alloc (.cells #[.string ⟨st.toArray⟩,.int .i64 ((len:Int)-1),.slice none 0 0,.slice none 0 0] 43))):=η (C.trans (y.kExt Y));have hF:=h3.forward hn st (by omega) 0 1073741824 (by decide) (by decide);rw[d0.o.1,d0.o.2] at hF;have HF:=η hF;have b0:=η O;have b:=η G;clear y C Y O G h3 hF HL;go_wp2_with fail;refine HF.o.mono ?_;rintro e w4 ⟨v,rfl,y,C,Q,Z⟩;rw[j0.o] at Q;obtain⟨fa,fc,rfl⟩:=q0E Q;have N:=b0.o.same (C m (.inr rfl));have d2:=q0a b.o (N.cell 2);have e2:w4.frozen? ⟨J.heap.size,2,none⟩=false:=by rw[b.o];exact N.free 2
 have h5:=(y.pokeK (x:=m) (.inl (.inr rfl)) R.o 2 (.slice fa len fc))
 have p0:=q0L Q (w':=w4.setCell ⟨m,2,none⟩ (.slice fa len fc)) fun i d=>Below.heap_setCell _ _ _ _ fun e=>Z m (.inr rfl) (d.trans (congrArg some e))
 have q0:Stay (fun i=>K i\/i=bR) W1 (w4.setCell ⟨m,2,none⟩ (.slice fa len fc)):=fun i d=>(Below.heap_setCell _ _ _ _ (U.o i d)).trans ((C i (.inl d)).trans (e0.o i d))
 have m0:=N.set 2 (.slice fa len fc);have k0: ∀i,((K i\/i=bR)\/i=m)->(Value.slice fa len fc).ownBlock≠some i:=Z;have hB:=h5.backward hn st (by omega) ((len:Int)-1) 1073741824 (by omega) (by decide);rw[c0.o.1,c0.o.2] at hB;have H5:=η hB;have v0:=η p0;have g0:=η q0;have a0:=η m0;have S:=η k0;rw[<-b.o] at H5;clear y C Q Z N h5 p0 q0 m0 k0 hB HF b0 e0;go_wp2_with fail;refine H5.o.mono ?_;rintro e w6 ⟨v,rfl,y,C,Q,Z⟩;rw[b.o] at y C Z;rw[List.length_reverse,j0.o] at Q;obtain⟨ba,bc,rfl⟩:=q0E Q;have D:=a0.o.same (C m (.inl (.inr rfl)));have V:=(s0.o.same (g0.o bR (.inr rfl))).same (C bR (.inl (.inl (.inr rfl))));have d3:=q0a b.o (D.cell 3);have e3:w6.frozen? ⟨J.heap.size,3,none⟩=false:=by rw[b.o];exact D.free 3
 have r:=D.set 3 (.slice ba len bc);have D0:=η r;have C0:=η D;have E0:=η V;have H6:=η y;have i0:=η C;have x0:=η Q;have M:=η Z;have l0:=q0a b.o (r.cell 0);have l1:=q0a b.o (r.cell 1);have l2:=q0a b.o (r.cell 2);have l3:=q0a b.o (r.cell 3);rw[<-b.o] at l0 l1 l2 l3;have l:=V.o (U.o bR (.inr rfl)) 3 (.slice ba len bc);have r0:=q0a j.o (l.cell 0);have r1:=q0a j.o (l.cell 1);have r2:=q0a j.o (l.cell 2);have r3:=q0a j.o (l.cell 3);rw[<-b.o] at r0 r1 r2 r3;have f0:(w6.setCell ⟨J.heap.size,3,none⟩ (.slice ba len bc)).frozen? ⟨w.heap.size,0,none⟩=false:=by rw[b.o,j.o];exact l.free 0
 have f1:(w6.setCell ⟨J.heap.size,3,none⟩ (.slice ba len bc)).frozen? ⟨w.heap.size,1,none⟩=false:=by rw[b.o,j.o];exact l.free 1
 have f2:(w6.setCell ⟨J.heap.size,3,none⟩ (.slice ba len bc)).frozen? ⟨w.heap.size,2,none⟩=false:=by rw[b.o,j.o];exact l.free 2
 have f3:(w6.setCell ⟨J.heap.size,3,none⟩ (.slice ba len bc)).frozen? ⟨w.heap.size,3,none⟩=false:=by rw[b.o,j.o];exact l.free 3
 clear y C Q Z D V r l H5 a0;go_wp2_with fail
 ((try simp only[Exit.inBlock,Exit.then]);refine bodyPost_ret (v:= .tuple #[.agg #[.string ⟨st.toArray⟩,.int .i64 ((len:Int)-1),.slice fa len fc,.slice ba len bc],.int .i64 0]) (by rw[q0m rfl];go_simp) rfl ?_)
 rw[b.o,j.o];have X: ∀i,i≠bR->i≠m->(((((w6.setCell ⟨m,3,none⟩ (.slice ba len bc)).setCell ⟨bR,0,none⟩ (.string ⟨st.toArray⟩)).setCell ⟨bR,1,none⟩ (.int .i64 ((len:Int)-1))).setCell ⟨bR,2,none⟩ (.slice fa len fc)).setCell ⟨bR,3,none⟩ (.slice ba len bc)).heap[i]? =w6.heap[i]? :=fun i h1 h2=>by
  rw[Below.heap_setCell _ _ _ _ h1,Below.heap_setCell _ _ _ _ h1,Below.heap_setCell _ _ _ _ h1,Below.heap_setCell _ _ _ _ h1,Below.heap_setCell _ _ _ _ h2]
 have hk:=((((H6.o.pokeK (x:=m) (.inl (.inl (.inr rfl))) R.o 3 (.slice ba len bc)).pokeK (x:=bR) (.inl (.inl (.inl (.inr rfl)))) q.o 0 (.string ⟨st.toArray⟩)).pokeK (x:=bR) (.inl (.inl (.inl (.inr rfl)))) q.o 1 (.int .i64 ((len:Int)-1))).pokeK (x:=bR) (.inl (.inl (.inl (.inr rfl)))) q.o 2 (.slice fa len fc)).pokeK (x:=bR) (.inl (.inl (.inl (.inr rfl)))) q.o 3 (.slice ba len bc);refine⟨fa,fc,ba,bc,rfl,hk.beside fun i d=>?_,fun i d=>?_,q0L (q0L v0.o fun i d=>i0.o i (.inr d)) fun i d=>X i ?_ ?_,q0L x0.o fun i d=>X i ?_ ?_,fun i d=>S.o i (.inl (.inl d)),fun i d=>?_⟩
 ·rcases d with(d|d)|d
  ·exact .inl (.inl (.inl (.inl d)))
  ·exact .inl (.inr d)
  ·exact .inr d
 ·exact(X i (t0.o i d) (U.o i (.inl d))).trans ((i0.o i (.inl (.inl (.inl d)))).trans ((g0.o i (.inl d)).trans (y0.o i d)))
 ·exact fun e=>S.o bR (.inl (.inr rfl)) (d.trans (congrArg some e))
 ·exact fun e=>S.o m (.inr rfl) (d.trans (congrArg some e))
 ·exact fun e=>M.o bR (.inl (.inl (.inr rfl))) (d.trans (congrArg some e))
 ·exact fun e=>M.o m (.inl (.inr rfl)) (d.trans (congrArg some e))
 ·rcases d with d|d
  ·exact M.o i (.inl (.inl (.inl d)))
  ·exact M.o i (.inr d)
end
def q2t(L:List To):List (List UInt8):=L.foldl (fun acc t=>if t.s∈acc then acc else acc++[t.s]) []
theorem q4j(L:List To)(t:To):q2t (L++[t])=if t.s∈q2t L then q2t L else q2t L++[t.s]:=by
 unfold q2t;rw[List.foldl_append];rfl
theorem z0m : ∀(L:List To) (t:To),t∈L->t.s∈q2t L:=fun L=>by
 induction L using q5Y with
 |h0=>intro t h;cases h
 | h1 L x ih=>
  intro t h;rw[q4j];rcases List.mem_append.1 h with h|h
  ·have:=ih t h
   split
   ·exact this
   ·exact List.mem_append_left _ this
  ·rw[List.mem_singleton.1 h]
   split
   ·rename_i h1;exact h1
   ·exact List.mem_append_right _ (.head _)
theorem q7s : ∀(L:List To),(q2t L).Nodup:=fun L=>by
 induction L using q5Y with
 |h0=>exact List.nodup_nil
 | h1 L x ih=>
  rw[q4j]
  split
  ·exact ih
  ·rename_i h
   refine List.nodup_append.2 ⟨ih,List.nodup_cons.2 ⟨(fun h=>by cases h),List.nodup_nil⟩,fun a d b j e=>?_⟩;rw[List.mem_singleton.1 j] at e;exact h (e▸d)
theorem z0n(L:List To):(q2t L).length<=L.length:=by
 induction L using q5Y with
 |h0=>exact ι _
 | h1 L x ih=>
  rw[q4j,θ]
  split
  ·omega
  ·rw[θ];simp;omega
def InA(A:List Smm)(i:Nat):Prop:= ∃x∈A,(Value.slice x.fa x.fn x.fc).ownBlock=some i\/(Value.slice x.ba x.bn x.bc).ownBlock=some i
structure SeenA(W:World)(B:Nat)(bs:List Bt)(A:List Smm):Prop where
 st: ∀x∈A,q1U x.nm=true/\1<=(q0U bs x.nm).length/\x.la=((q0U bs x.nm).length:Int)-1/\x.fn=(q0U bs x.nm).length/\x.bn=(q0U bs x.nm).length/\x.F=q3K bs x.nm/\x.B=(q3K bs x.nm).reverse
 fo: ∀x∈A,W.ownsRow B 99 5 (.slice x.fa x.fn x.fc) x.F.length (q2K x.F)
 bk: ∀x∈A,W.ownsRow B 99 5 (.slice x.ba x.bn x.bc) x.B.length (q2K x.B)
theorem SeenA.same{W j:World}{bs:List Bt}{A:List Smm}(h:SeenA W B bs A)(k: ∀i,InA A i->j.heap[i]? =W.heap[i]?):SeenA j B bs A:=
 ⟨h.st,fun x b=>q0L (h.fo x b) fun i d=>k i ⟨x,b,.inl d⟩,fun x b=>q0L (h.bk x b) fun i d=>k i ⟨x,b,.inr d⟩⟩
theorem SeenA.sms{W:World}{base:Nat}{bs:List Bt}{A:List Smm}(h:SeenA W B bs A){so:Option Addr}{sn sc:Nat}(j:W.ownsRow base 43 4 (.slice so sn sc) A.length (z0H A)):Sms W so sn sc A:=by
 obtain⟨ao,cap,d,h1,h2,h3,h4⟩:=(Own.of_row j).rd
 cases d;exact⟨rfl,h1,h2,h3,h4,fun x b=>(q1n (h.fo x b)).2▸(q1n (h.fo x b)).1,fun x b=>(q1n (h.bk x b)).1⟩
theorem z1D{bs:List Bt}(h:okBs bs){t:To}(j:t∈tos bs):q1U t.s=true/\1<=(q0U bs t.s).length:=by
 obtain⟨b,d,k,o,rfl⟩:=mem_tos.1 j;obtain⟨l,r,rfl⟩:=List.append_of_mem d;obtain⟨h1,h2⟩:=h l b r rfl;obtain⟨m,q,v,_⟩:=q0p h1.1;simp only;refine⟨?_,?_⟩
 ·unfold q1U
  have:=List.length_pos_iff.2 m;simp;omega
 ·rw[q3P,θ,show b::r=[b]++r from rfl,q3P,θ]
  have e:q0U [b] b.st=b.ev:=by unfold q0U;simp
  rw[e];omega
def KKO(K:Nat->Prop)(bR bV:Nat)(al:Value)(A:List Smm)(i:Nat):Prop:=((K i\/i=bR)\/(al.ownBlock=some i\/i=bV))\/InA A i
structure OfI(wb w0 W:World)(g gs rate:Nat)(sd c s:Int)(u n:Nat)(bs:List Bt)(K:Nat->Prop)(aa:Option Addr)(an ac bR bV k:Nat)(A:List Smm)(so:Option Addr)(sc:Nat):Prop where
 sk:SK wb W g gs rate sd c s u n bs (fun i=>KKO K bR bV (.slice aa an ac) A i\/(Value.slice so A.length sc).ownBlock=some i)
 stay:Stay K w0 W
 boxR:Blk W bR 25 #[.slice none 0 0,.slice none 0 0]
 boxV:Blk W bV 25 #[.slice aa an ac,.slice so A.length sc]
 all:W.ownsRow wb.heap.size 99 5 (.slice aa an ac) an (q2K (tos bs))
 row:W.ownsRow wb.heap.size 43 4 (.slice so A.length sc) A.length (z0H A)
 seen:SeenA W wb.heap.size bs A
 apart: ∀i,KKO K bR bV (.slice aa an ac) A i->(Value.slice so A.length sc).ownBlock≠some i
 names:A.map Smm.nm=q2t ((tos bs).take k)
section
variable {wb w0 w W W2:World}{g gs rate u n:Nat}{sd c s:Int}{bs:List Bt}{K:Nat->Prop}{aa so:Option Addr}{an ac bR bV k sc:Nat}{A:List Smm}
theorem OfI.grow(h:OfI wb w0 W g gs rate sd c s u n bs K aa an ac bR bV k A so sc)(e:Ext W W2):OfI wb w0 W2 g gs rate sd c s u n bs K aa an ac bR bV k A so sc:=by
 have d:=h.sk.klt;exact⟨h.sk.grow e,fun i b=>(e.block i (d i (.inl (.inl (.inl (.inl b)))))).trans (h.stay i b),h.boxR.ext e,h.boxV.ext e,q0G h.all e,q0G h.row e,h.seen.same fun i b=>e.block i (d i (.inl (.inr b))),h.apart,h.names⟩
theorem OfI.next(h:OfI wb w0 W g gs rate sd c s u n bs K aa an ac bR bV k A so sc)(e:A.map Smm.nm=q2t ((tos bs).take (k+1))):OfI wb w0 W g gs rate sd c s u n bs K aa an ac bR bV (k+1) A so sc:=
 ⟨h.sk,h.stay,h.boxR,h.boxV,h.all,h.row,h.seen,h.apart,e⟩
theorem Tryz.infoSm :(Tryz.prog.info? 43).map (fun i=>(i.zero,i.size,i.bytes))=some (some (.agg #[.string ⟨#[]⟩,.int .i64 0,.slice none 0 0,.slice none 0 0]),4,72):=by kernel_rfl
theorem z9s(A:List Smm)(x:Smm):z0H (A++[x])=z0H A++smc x:=by rw[q9d];unfold z0H;simp
theorem z5B{A:List Smm}(h:InA (A++[x]) i):InA A i\/(Value.slice x.fa x.fn x.fc).ownBlock=some i\/(Value.slice x.ba x.bn x.bc).ownBlock=some i:=by
 obtain⟨y,h1,h2⟩:=h;rcases List.mem_append.1 h1 with h1|h1
 ·exact .inl ⟨y,h1,h2⟩
 ·rw[List.mem_singleton.1 h1] at h2;exact .inr h2
theorem OfI.add{l d:World}{q:Option Addr}{m:Nat}{O o2:Obj}(h:OfI wb w0 W g gs rate sd c s u n bs K aa an ac bR bV k A so sc)
  (s1:SK wb l g gs rate sd c s u n bs (fun i=>((KKO K bR bV (.slice aa an ac) A i\/(Value.slice so A.length sc).ownBlock=some i)\/(Value.slice x.fa x.fn x.fc).ownBlock=some i)\/(Value.slice x.ba x.bn x.bc).ownBlock=some i))
  (s2:Stay (fun i=>KKO K bR bV (.slice aa an ac) A i\/(Value.slice so A.length sc).ownBlock=some i) W l)
  (s3:l.ownsRow wb.heap.size 99 5 (.slice x.fa x.fn x.fc) x.F.length (q2K x.F))(s4:l.ownsRow wb.heap.size 99 5 (.slice x.ba x.bn x.bc) x.B.length (q2K x.B))
  (s5: ∀i,(KKO K bR bV (.slice aa an ac) A i\/(Value.slice so A.length sc).ownBlock=some i)->(Value.slice x.fa x.fn x.fc).ownBlock≠some i)(s6: ∀i,((KKO K bR bV (.slice aa an ac) A i\/(Value.slice so A.length sc).ownBlock=some i)\/(Value.slice x.fa x.fn x.fc).ownBlock=some i)->(Value.slice x.ba x.bn x.bc).ownBlock≠some i)
  (Z:q1U x.nm=true/\1<=(q0U bs x.nm).length/\x.la=((q0U bs x.nm).length:Int)-1/\x.fn=(q0U bs x.nm).length/\x.bn=(q0U bs x.nm).length/\x.F=q3K bs x.nm/\x.B=(q3K bs x.nm).reverse)
  (Y:d.ownsRow wb.heap.size 43 4 (.slice q (A.length+1) m) (A.length+1) (z0H A++smc x))(hg:((l.alloc O).alloc o2).grownBy d (Value.slice so A.length sc).ownBlock)
  (V:(Value.slice q (A.length+1) m).ownBlock=(Value.slice so A.length sc).ownBlock\/(Value.slice q (A.length+1) m).ownBlock=some ((l.alloc O).alloc o2).heap.size)
  (U:wb.heap.size<=bV)(M:bR≠bV)(J: ∀i,((K i\/i=bR)\/(Value.slice aa an ac).ownBlock=some i)->i≠bV)(X:A.map Smm.nm++[x.nm]=q2t ((tos bs).take (k+1))):
  OfI wb w0 (d.setCell ⟨bV,1,none⟩ (.slice q (A.length+1) m)) g gs rate sd c s u n bs K aa an ac bR bV (k+1) (A++[x]) q m:=by
 have S: ∀i,KKO K bR bV (.slice aa an ac) A i->l.heap[i]? =W.heap[i]? :=fun i b=>s2 i (.inl b)
 have v:Ext l (l.alloc O):=q0B l O
 have k8:SK wb (l.alloc O) g gs rate sd c s u n bs (fun i=>KKO K bR bV (.slice aa an ac) (A++[x]) i\/(Value.slice so A.length sc).ownBlock=some i):=(s1.beside fun i b=>by
  rcases b with(b|b)|b
  ·exact .inl (.inl (.inl (.inl b)))
  ·rcases z5B b with b|b|b
   ·exact .inl (.inl (.inl (.inr b)))
   ·exact .inl (.inr b)
   ·exact .inr b
  ·exact .inl (.inl (.inr b))).grow v
 have r7:=q0L h.row fun i b=>s2 i (.inr b)
 obtain⟨a0,I,R⟩:=k8.row1 (ι _) (q0G r7 v) Y hg V (fun i b e=>by
  rcases b with b|b
  ·exact h.apart i (.inl b) e
  ·rcases z5B b with b|b|b
   ·exact h.apart i (.inr b) e
   ·exact s5 i (.inr e) b
   ·exact s6 i (.inl (.inr e)) b)
 have kV:KKO K bR bV (.slice aa an ac) (A++[x]) bV:= .inl (.inr (.inr rfl))
 have D: ∀i,KKO K bR bV (.slice aa an ac) A i->d.heap[i]? =W.heap[i]? :=fun i b=>(I i (by
  rcases b with b|b
  ·exact .inl b
  ·obtain⟨y,h1,h2⟩:=b;exact .inr ⟨y,List.mem_append_left _ h1,h2⟩)).trans ((v.block i (s1.klt i (.inl (.inl (.inl b))))).trans (S i b))
 have j:Blk d bV 25 #[.slice aa an ac,.slice so A.length sc]:=h.boxV.same (D bV (.inl (.inr (.inr rfl))));have r: ∀i,i≠bV->(d.setCell ⟨bV,1,none⟩ (.slice q (A.length+1) m)).heap[i]? =d.heap[i]? :=fun i b=>Below.heap_setCell _ _ _ _ b
 have Q:(A++[x]).length=A.length+1:=by rw[θ];rfl
 have E:=q0L h.all fun i b=>D i (.inl (.inr (.inl b)))
 have G: ∀y∈A++[x],d.ownsRow wb.heap.size 99 5 (.slice y.fa y.fn y.fc) y.F.length (q2K y.F)/\d.ownsRow wb.heap.size 99 5 (.slice y.ba y.bn y.bc) y.B.length (q2K y.B):=fun y C=>by
  have N: ∀i,((Value.slice y.fa y.fn y.fc).ownBlock=some i\/(Value.slice y.ba y.bn y.bc).ownBlock=some i)->KKO K bR bV (.slice aa an ac) (A++[x]) i:=fun i b=> .inr ⟨y,C,b⟩
  have h7:l.ownsRow wb.heap.size 99 5 (.slice y.fa y.fn y.fc) y.F.length (q2K y.F)/\l.ownsRow wb.heap.size 99 5 (.slice y.ba y.bn y.bc) y.B.length (q2K y.B):=by
   rcases List.mem_append.1 C with h1|h1
   ·exact⟨q0L (h.seen.fo y h1) fun i b=>S i (.inr ⟨y,h1,.inl b⟩),q0L (h.seen.bk y h1) fun i b=>S i (.inr ⟨y,h1,.inr b⟩)⟩
   ·rw[List.mem_singleton.1 h1];exact⟨s3,s4⟩
  exact⟨q0L (q0G h7.1 v) fun i b=>I i (N i (.inl b)),q0L (q0G h7.2 v) fun i b=>I i (N i (.inr b))⟩
 refine⟨?_,fun i b=>?_,?_,?_,?_,?_,⟨fun y C=>?_,fun y C=>?_,fun y C=>?_⟩,?_,?_⟩
 ·rw[Q];exact a0.pokeK (x:=bV) (.inl kV) U 1 _
 ·exact(r i (J i (.inl (.inl b)))).trans ((D i (.inl (.inl (.inl b)))).trans (h.stay i b))
 ·exact(h.boxR.same (D bR (.inl (.inl (.inr rfl))))).o M _ _
 ·rw[Q];exact j.set 1 _
 ·exact q0L E fun i b=>r i (J i (.inr b))
 ·rw[Q,z9s];exact q0L Y fun i b=>r i fun e=>j.apart Y (by decide) (b.trans (congrArg some e))
 ·rcases List.mem_append.1 C with h1|h1
  ·exact h.seen.st y h1
  ·rw[List.mem_singleton.1 h1];exact Z
 ·exact q0L (G y C).1 fun i b=>r i fun e=>j.apart (G y C).1 (by decide) (b.trans (congrArg some e))
 ·exact q0L (G y C).2 fun i b=>r i fun e=>j.apart (G y C).2 (by decide) (b.trans (congrArg some e))
 ·rw[Q];exact R
 ·rw[List.map_append];exact X
theorem y6Q(h : SK wb w g gs rate sd c s u n bs K)(hn:n<=1000):
  Calls Tryz.prog 13 #[.pointer (some ⟨gs,0,none⟩)] w fun e w'=> ∃(aa:Option Addr) (ac:Nat) (so:Option Addr) (sc:Nat) (A:List Smm),e= .returned (.tuple #[.agg #[.slice aa (tos bs).length ac,.slice so A.length sc],.int .i64 0])/\
   SK wb w' g gs rate sd c s u n bs (fun i=>((K i\/(Value.slice aa (tos bs).length ac).ownBlock=some i)\/InA A i)\/(Value.slice so A.length sc).ownBlock=some i)/\Stay K w w'/\
   w'.ownsRow wb.heap.size 99 5 (.slice aa (tos bs).length ac) (tos bs).length (q2K (tos bs))/\w'.ownsRow wb.heap.size 43 4 (.slice so A.length sc) A.length (z0H A)/\SeenA w' wb.heap.size bs A/\A.map Smm.nm=q2t (tos bs):=by
 have R0:=h.few;have U0:=h.ok;have t1:Hd (∀t∈tos bs,q1U t.s=true/\1<=(q0U bs t.s).length):=η fun t ht=>z1D U0 ht
 have d0:=q0B w (.cells #[.slice none 0 0,.slice none 0 0] 25);have S:=Blk.new w 25 #[.slice none 0 0,.slice none 0 0];obtain⟨W1,A1⟩: ∃W1,w.alloc (.cells #[.slice none 0 0,.slice none 0 0] 25)=W1:=⟨_,rfl⟩
 rw[A1] at d0 S;obtain⟨bR,U⟩: ∃bR,w.heap.size=bR:=⟨_,rfl⟩
 rw[U] at S;have F1:=d0.size;have h1:=h.more (K':=fun i=>K i\/i=bR) d0 fun i b=>b.imp id fun e=>⟨by omega,by have:=S.lt;omega⟩
 have i1:Hd (∀i,K i->i≠bR):=η fun i b e=>by have:=h.klt i b;omega
 have o0:Hd (wb.heap.size<=bR):=η (by have:=h.base.size;omega);have I0:Hd (Stay K w W1):=η (h.kExt d0);have HA:=η (h1.all hn);have C0:=η S;have r:=η U;have C1:(tos bs).length<=8000:=by omega
 obtain⟨an,R⟩: ∃an,(tos bs).length=an:=⟨_,rfl⟩
 rw[R] at C1⊢;have i0:=η R;clear h h1 d0 S F1 U U0 R0 R;go_enter Tryz.func13,Tryz.ntmps13;go_wp2_with fail
 go_step3
 go_wp2_with fail;refine HA.o.mono ?_;rintro e w2 ⟨v,rfl,s1,s2,s3,s4⟩;rw[i0.o] at s3;obtain⟨aa,ac,rfl⟩:=q0E s3;have e0:=q0B w2 (.cells #[.slice aa an ac,.slice none 0 0] 25);have k0:=Blk.new w2 25 #[.slice aa an ac,.slice none 0 0];obtain⟨bV,X⟩: ∃bV,w2.heap.size=bV:=⟨_,rfl⟩
 rw[X] at k0;have V0:OfI wb w (w2.alloc (.cells #[.slice aa an ac,.slice none 0 0] 25)) g gs rate sd c s u n bs K aa an ac bR bV 0 [] none 0:=by
  refine⟨(s1.more (K':=fun i=>KKO K bR bV (.slice aa an ac) [] i\/(Value.slice none 0 0).ownBlock=some i) e0 fun i b=>?_),fun i b=>(e0.block i (s1.klt i (.inl (.inl b)))).trans ((s2 i (.inl b)).trans (I0.o i b)),(C0.o.same (s2 bR (.inr rfl))).ext e0,k0,q0G s3 e0,⟨rfl,.inl ⟨rfl,rfl⟩⟩,⟨(fun x D=>by cases D),(fun x D=>by cases D),(fun x D=>by cases D)⟩,(fun i b e=>by cases e),by rw[List.take_zero];rfl⟩;rcases b with((b|b|b)|⟨x,D,_⟩)|b
  ·exact .inl (.inl b)
  ·exact .inl (.inr b)
  ·exact .inr ⟨by omega,by have:=k0.lt;omega⟩
  ·cases D
  ·cases b
 have L0:Hd (bR≠bV):=η fun e=>by have:=s1.klt bR (.inl (.inr rfl));omega
 have E0:Hd (wb.heap.size<=bV):=η (by have:=s1.base.size;omega);have j1:Hd (∀i,((K i\/i=bR)\/(Value.slice aa an ac).ownBlock=some i)->i≠bV):=η fun i b e=>by have:=s1.klt i b;omega
 have q0:=η V0;have q:=η X;clear s1 s2 s3 s4 e0 k0 X V0 HA C0 I0;go_wp2_with fail
 go_step3
 go_wp2_with fail
 go_loopw [26] (fun i W=> ∃(k:Nat) (A:List Smm) (so:Option Addr) (sc:Nat),i= .int .i64 (k:Int)/\k<=an/\Hd (OfI wb w W g gs rate sd c s u n bs K aa an ac bR bV k A so sc)) (fun i _=>an-(intOf i).toNat)
 case atStart=>exact⟨0,[],none,0,rfl,υ _,q0⟩
 case round =>
  clear q0;obtain⟨k,A,so,sc,rfl,hk,HO⟩:=hrel;by_cases S0:k<an
  ·have hd : decide ((k:Int)<(an:Int))=true:=ζ (by omega)
   have O1:(k:Int)<(an:Int):=by omega
   have q1:IntKind.i64.wrap ((k:Int)+1)=(k:Int)+1:=by rw[ν];omega
   have l:=HO.o;have l0:k<(tos bs).length:=by rw[i0.o];exact S0
   have hT:=(q1n (n:=an) (L:=tos bs) (by rw[i0.o];exact l.all)).1;have s0:=q4G (A:=tos bs) (i:=k) (d:=to0) l0;obtain⟨I,J⟩:=t1.o _ s0;have X0:(tos bs).take (k+1)=(tos bs).take k++[(tos bs).getD k to0]:=by
    rw[List.take_succ_eq_append_getElem l0,δ,γ l0];rfl
   have C:q2t ((tos bs).take (k+1))=if ((tos bs).getD k to0).s∈A.map Smm.nm then A.map Smm.nm else A.map Smm.nm++[((tos bs).getD k to0).s]:=by rw[X0,q4j,<-l.names]
   have L1:A.length<=k:=by
    rw[<-List.length_map (f:=Smm.nm),l.names];exact Ω (z0n _) (List.length_take_le _ _)
   obtain⟨ab,af,rfl,c0,c1,c2,c3,c4⟩:=hT.at S0;obtain⟨t,W0⟩: ∃t,(tos bs).getD k to0=t:=⟨_,rfl⟩
   rw[W0] at c0 c1 c2 c3 c4 I J C;obtain⟨ts,tv,⟨ty,da,we⟩⟩:=t;simp only at c0 c1 c2 c3 c4 I J C;have B0:=q0B wr (.cells #[.string ⟨ts.toArray⟩,.int .i64 tv,.string ⟨ty.toArray⟩,.string ⟨da.toArray⟩,.float .f64 we] 99);have j0:=Blk.new wr 99 #[.string ⟨ts.toArray⟩,.int .i64 tv,.string ⟨ty.toArray⟩,.string ⟨da.toArray⟩,.float .f64 we];obtain⟨WT,B1⟩: ∃WT,wr.alloc (.cells #[.string ⟨ts.toArray⟩,.int .i64 tv,.string ⟨ty.toArray⟩,.string ⟨da.toArray⟩,.float .f64 we] 99)=WT:=⟨_,rfl⟩
   rw[B1] at B0 j0;obtain⟨bT,V⟩: ∃bT,wr.heap.size=bT:=⟨_,rfl⟩
   rw[V] at j0;have N:=l.grow B0;have g1:=q0a q.o (N.boxV.cell 1);have p0:=η V;have D0:=η j0;have v0:=η N;have G0:=η C;have J0:=η I;have K0:=η J;have y0:=η (N.seen.sms N.row);have M1:=y0.o.bound;have N1:=y0.o.fits;have Q1:=q2T;clear l hT s0 X0 W0 B0 j0 V N I J C l0 HO;go_wp2_with fail
   go_loopw [33] (fun j W=> ∃m:Nat,j= .int .i64 (m:Int)/\m<=A.length/\Ext WT W/\Hd (∀y∈A.take m,y.nm≠ts)) (fun j _=>A.length-(intOf j).toNat)
   case atStart=>exact⟨0,rfl,υ _,Ext.refl _,η (fun y hy=>by cases hy)⟩
   case round =>
    obtain⟨m,rfl,hm,D,HN⟩:=hrel;have HX:=η D;clear g1 c0 c1 c2 c3 c4;by_cases m0:m<A.length
    ·have D1:decide ((m:Int)<(A.length:Int))=true:=ζ (by omega)
     have P1:(m:Int)<(A.length:Int):=by omega
     have q2:IntKind.i64.wrap ((m:Int)+1)=(m:Int)+1:=by rw[ν];omega
     obtain⟨sb,sf,rfl,x0,x1,x2,x3,_,_⟩:=(y0.o.ext D).at m0;have A0:A.take (m+1)=A.take m++[A.getD m sm0]:=by
      rw[List.take_succ_eq_append_getElem m0,δ,γ m0];rfl
     have z0:=q4G (A:=A) (i:=m) (d:=sm0) m0;obtain⟨y,Z0⟩: ∃y,A.getD m sm0=y:=⟨_,rfl⟩
     rw[Z0] at x0 x1 x2 x3 A0 z0;obtain⟨nm,la,fa,fn,fc,F,ba,bn,bc,B⟩:=y;simp only at x0 x1 x2 x3;have Y:=(D0.o.ext D).ext (q0B wr (.cells #[.string ⟨nm.toArray⟩,.int .i64 la,.slice fa fn fc,.slice ba bn bc] 43));have t0:=q0a p0.o (Y.cell 0);have v1:=η A0;have l1:=η z0;have N0:=η (D.trans (q0B wr (.cells #[.string ⟨nm.toArray⟩,.int .i64 la,.slice fa fn fc,.slice ba bn bc] 43)));clear D A0 z0 Z0 Y;by_cases he:nm=ts
     ·subst he
      have e1:(nm==nm)=true:=beq_self_eq_true nm;go_wp2_with fail
      go_roundw
      case measure=>simp[intOf];omega
      case rel=>
       have E1:nm∈A.map Smm.nm:=List.mem_map.2 ⟨_,l1.o,rfl⟩;exact⟨k+1,A,some ⟨sb,sf,none⟩,sc,by go_num,by omega,η ((v0.o.grow N0.o).next (by rw[G0.o,ξ E1]))⟩
     ·have e1:(nm==ts)=false:=beq_eq_false_iff_ne.2 he
      have m1:=η he;clear he;go_wp2_with fail
      go_roundw
      case measure=>simp[intOf];omega
      case rel=>
       exact⟨m+1,by go_num,by omega,N0.o,η fun y hy=>by
        rw[v1.o] at hy;rcases List.mem_append.1 hy with hy|hy
        ·exact HN.o y hy
        ·rw[List.mem_singleton.1 hy];exact m1.o⟩
    ·have e:A.length=m:=by omega
     subst e;have D1:decide ((A.length:Int)<(A.length:Int))=false:=ε (by omega);have T0:ts∉A.map Smm.nm:=fun h=>by
      obtain⟨y,h1,h2⟩:=List.mem_map.1 h;exact HN.o y (by rw[Δ (ι _)];exact h1) h2
     have C:=G0.o;rw[κ T0] at C;have H0:=η C;have l:=v0.o.grow D;have HO:=η l;have Y:=D0.o.ext D;have t0:=q0a p0.o (Y.cell 0);obtain⟨len,Z⟩: ∃len,(q0U bs ts).length=len:=⟨_,rfl⟩
     have F0:=η (y4q l.sk hn J0.o Z (by have:=K0.o;omega));have G:=η Z;clear T0 C l Y D Z v0 HX;go_wp2_with fail;refine F0.o.mono ?_;rintro e w7 ⟨fa,fc,ba,bc,rfl,s1,s2,s3,s4,s5,s6⟩;obtain⟨W8,O0⟩: ∃W8,w7.alloc (.cells #[.string ⟨ts.toArray⟩,.int .i64 ((len:Int)-1),.slice fa len fc,.slice ba len bc] 43)=W8:=⟨_,rfl⟩
     have M:=Blk.new w7 43 #[.string ⟨ts.toArray⟩,.int .i64 ((len:Int)-1),.slice fa len fc,.slice ba len bc];have h0:=q0B w7 (.cells #[.string ⟨ts.toArray⟩,.int .i64 ((len:Int)-1),.slice fa len fc,.slice ba len bc] 43);rw[O0] at M h0;have Q:=(HO.o.boxV.same (s2 bV (.inl (.inl (.inr (.inr rfl)))))).ext h0;have g0:=q0a q.o (Q.cell 0);have g1:=q0a q.o (Q.cell 1);have o1:=η (show Rd (W8.alloc (.cells #[.string ⟨ts.toArray⟩,.int .i64 ((len:Int)-1),.slice fa len fc,.slice ba len bc] 43)) (some ⟨W8.heap.size,0,none⟩) (smc ⟨ts,(len:Int)-1,fa,len,fc,q3K bs ts,ba,len,bc,(q3K bs ts).reverse⟩) from Rd.lit W8 #[.string ⟨ts.toArray⟩,.int .i64 ((len:Int)-1),.slice fa len fc,.slice ba len bc] 43);have u0:=q0G (q0L HO.o.row fun i b=>s2 i (.inr b)) h0;have p1:=η (q0G u0 (q0B W8 (.cells #[.string ⟨ts.toArray⟩,.int .i64 ((len:Int)-1),.slice fa len fc,.slice ba len bc] 43)));have u1:Hd (wb.heap.size<=(W8.alloc (.cells #[.string ⟨ts.toArray⟩,.int .i64 ((len:Int)-1),.slice fa len fc,.slice ba len bc] 43)).heap.size):=η (by have:=s1.base.size;have:=h0.size;rw[ρ];omega);have H1:=η s1;have H2:=η s2;have H3:=η s3;have H4:=η s4;have H5:=η s5;have H6:=η s6;have M0:=η O0;have w1:=η Q;have k1:=η (Q.ext (q0B W8 (.cells #[.string ⟨ts.toArray⟩,.int .i64 ((len:Int)-1),.slice fa len fc,.slice ba len bc] 43))).lt;clear s1 s2 s3 s4 s5 s6 h0 Q u0 F0;have b0:=M.cell 0;have b1:=M.cell 1;have b2:=M.cell 2;have b3:=M.cell 3;clear M
     go_wp2_with (at_builtin;refine q0I rfl _ _ 23 rfl wb.heap.size 43 _ 4 72 Tryz.underlying23 Tryz.infoSm (by decide) (by decide) _ A.length (z0H A) rfl p1.o _ 1 1 (smc ⟨ts,(len:Int)-1,fa,len,fc,q3K bs ts,ba,len,bc,(q3K bs ts).reverse⟩) rfl rfl (fun h=>by cases h) o1.o (by unfold smc;simp[Value.oneCell']) (by unfold maxLen;omega) (by omega) u1.o ?_;intro v2 J1 a0 E Q0;obtain⟨I1,G1,rfl⟩:=q0E a0;have O:=(w1.o.ext (q0B W8 _)).same (E.block bV k1.o fun e=>HO.o.apart bV (.inl (.inr (.inr rfl))) e.symm);have y1:=q0a q.o (O.cell 1);have z1:J1.frozen? ⟨w2.heap.size,1,none⟩=false:=(by rw[q.o];exact O.free 1);have n1:=η a0;have d1:=η E;have a1:=η Q0;clear a0 E Q0 O)
     go_roundw
     case measure=>simp[intOf];omega
     case rel=>
      rw[q.o];have Y0:(q3K bs ts).length=len:=by rw[q1M,G.o]
      have P0:=HO.o.add (x:=⟨ts,(len:Int)-1,fa,len,fc,q3K bs ts,ba,len,bc,(q3K bs ts).reverse⟩) H1.o H2.o (by rw[Y0];exact H3.o) (by rw[List.length_reverse,Y0];exact H4.o) H5.o H6.o ⟨J0.o,K0.o,by rw[G.o],G.o.symm,G.o.symm,rfl,rfl⟩ n1.o (by rw[M0.o];exact d1.o) (by rw[M0.o];exact a1.o) E0.o L0.o j1.o H0.o.symm;exact⟨k+1,A++[⟨ts,(len:Int)-1,fa,len,fc,q3K bs ts,ba,len,bc,(q3K bs ts).reverse⟩],I1,G1,by go_num,by omega,η P0⟩
  ·have e:an=k:=by omega
   subst e;have hd:decide ((an:Int)<(an:Int))=false:=ε (by omega);have l:=HO.o;have g0:=q0a q.o (l.boxV.cell 0);have g1:=q0a q.o (l.boxV.cell 1);have r0:=q0a r.o (l.boxR.cell 0);have r1:=q0a r.o (l.boxR.cell 1);have f0:wr.frozen? ⟨w.heap.size,0,none⟩=false:=by rw[r.o];exact l.boxR.free 0
   have f1:wr.frozen? ⟨w.heap.size,1,none⟩=false:=by rw[r.o];exact l.boxR.free 1
   clear l;go_wp2_with fail;have HI:=η (show A.map Smm.nm=q2t (tos bs) by rw[HO.o.names,Δ (by rw[i0.o];exact ι _)]);rw[Exit.noGoto_ret]
   ((try simp only[Exit.inBlock,Exit.then]);refine bodyPost_ret (v:= .tuple #[.agg #[.slice aa an ac,.slice so A.length sc],.int .i64 0]) (by rw[q0m rfl];go_simp) rfl ?_)
   rw[r.o];have l:=HO.o;have K1: ∀i,KKO K bR bV (.slice aa an ac) A i->i≠bR->((wr.setCell ⟨bR,0,none⟩ (.slice aa an ac)).setCell ⟨bR,1,none⟩ (.slice so A.length sc)).heap[i]? =wr.heap[i]? :=fun i _ b=>by
    rw[Below.heap_setCell _ _ _ _ b,Below.heap_setCell _ _ _ _ b]
   have n0: ∀i,i≠bR->((wr.setCell ⟨bR,0,none⟩ (.slice aa an ac)).setCell ⟨bR,1,none⟩ (.slice so A.length sc)).heap[i]? =wr.heap[i]? :=fun i b=>by
    rw[Below.heap_setCell _ _ _ _ b,Below.heap_setCell _ _ _ _ b]
   have kR:KKO K bR bV (.slice aa an ac) A bR\/(Value.slice so A.length sc).ownBlock=some bR:= .inl (.inl (.inl (.inr rfl)));have hk:=(l.sk.pokeK (x:=bR) kR o0.o 0 (.slice aa an ac)).pokeK (x:=bR) kR o0.o 1 (.slice so A.length sc);refine⟨aa,ac,so,sc,A,rfl,hk.beside fun i b=>?_,fun i b=>(n0 i (i1.o i b)).trans (l.stay i b),q0L l.all fun i b=>n0 i fun e=>l.boxR.apart l.all (by decide) (b.trans (congrArg some e)),q0L l.row fun i b=>n0 i fun e=>l.boxR.apart l.row (by decide) (b.trans (congrArg some e)),l.seen.same fun i b=>n0 i fun e=>?_,HI.o⟩
   ·rcases b with((b|b)|b)|b
    ·exact .inl (.inl (.inl (.inl b)))
    ·exact .inl (.inl (.inr (.inl b)))
    ·exact .inl (.inr b)
    ·exact .inr b
   ·obtain⟨y,h1,h2⟩:=b
    rcases h2 with h2|h2
    ·exact l.boxR.apart (l.seen.fo y h1) (by decide) (h2.trans (congrArg some e))
    ·exact l.boxR.apart (l.seen.bk y h1) (by decide) (h2.trans (congrArg some e))
end
abbrev qB :Bt:=⟨[115],0,[evA]⟩
abbrev qT :To:=⟨[115],0,evA⟩
theorem y3j :z6b [] [115] (-1) [evA]=0:=by decide
theorem y3k :tos [qB]=[qT]:=rfl
theorem y3i :q2t [qT]=[[115]]:=rfl
theorem y3e(fa:Option Addr)(fn fc:Nat)(ba:Option Addr)(bn bc:Nat):q4t [qT] [⟨[115],0,fa,fn,fc,[qT],ba,bn,bc,[qT]⟩]=[]:=by
 simp[q4t,q3c,q2Y,z0O,z2E,q3E,y0L,q5E,one?,q3B,sameTo_iff]
theorem y3f(fa:Option Addr)(fn fc:Nat)(ba:Option Addr)(bn bc:Nat):q4t [qT] [⟨[115],5,fa,fn,fc,[qT],ba,bn,bc,[qT]⟩]=[⟨4,[115],5⟩]:=by
 simp[q4t,q3c,q2Y,z0O,z2E,q3E,y0L,q5E,one?,q3B,sameTo_iff]
theorem y3g :q4t [⟨[115],1,ev0⟩] []=[⟨1,[115],0⟩,⟨2,[115],0⟩]:=by
 simp[q4t,q3c,q2Y,z0O,z2E,q3E,y0L,q5E,one?,q3B]
theorem y1s{W:World}{so:Option Addr}{sc:Nat}(Y:W.ownsRow B 43 4 (.slice so 1 sc) 1 (z0H [x]))(C:W.ownsRow B 99 5 (.slice x.fa x.fn x.fc) x.F.length (q2K x.F))(R:W.ownsRow B 99 5 (.slice x.ba x.bn x.bc) x.B.length (q2K x.B))(v:Int):
  ∃g,so=some ⟨g,0,none⟩/\W.cell? ⟨g,1,none⟩=some (.int .i64 x.la)/\W.frozen? ⟨g,1,none⟩=false/\(1:Int)<=(sc:Int)/\B<=g/\(∀(i:Nat) (t:TypeId) (D:Nat) (B':Nat) (u:Value) (E:Nat) (xs:List Value),W.ownsRow B' t E u D xs->t≠43->u.ownBlock≠some g)/\Sms (W.setCell ⟨g,1,none⟩ (.int .i64 v)) (some ⟨g,0,none⟩) 1 sc [⟨x.nm,v,x.fa,x.fn,x.fc,x.F,x.ba,x.bn,x.bc,x.B⟩]:=by
 have d:Sms W so 1 sc [x]:=by
  obtain⟨ao,cap,J,h1,h2,h3,h4⟩:=(Own.of_row Y).rd
  cases J;exact⟨rfl,h1,h2,h3,h4,fun y r=>by rw[List.mem_singleton.1 r];exact(q1n C).2▸(q1n C).1,fun y r=>by rw[List.mem_singleton.1 r];exact(q1n R).1⟩
 obtain⟨b,off,J,Z,G,c2,c3,_,_⟩:=d.at (i:=0) (by decide);rcases Y.2 with⟨h1,h2⟩|⟨g,cap,I,M,hB,hg,h1,h2,h3,h4⟩
 ·cases h2
 ·cases J
  have eg:b=g:=by injection M with N;injection N with O;injection O
  subst eg;have eo:off=0:=by injection M with N;injection N with O;injection O
  subst eo;have ec:sc=cap:=by injection M
  subst ec;have q:Blk W b 43 I:=hg;have Q: ∀(i:Nat) (t:TypeId) (D:Nat) (B':Nat) (u:Value) (E:Nat) (xs:List Value),W.ownsRow B' t E u D xs->t≠43->u.ownBlock≠some b:=fun i t D B' u E xs ho X=>q.apart ho X
  have l:=q.set 1 (.int .i64 v);have hc: ∀j,j≠1->(W.setCell ⟨b,1,none⟩ (.int .i64 v)).cell? ⟨b,j,none⟩=W.cell? ⟨b,j,none⟩:=fun j o=>by
   rw[l.cell j,q.cell j,Array.getElem?_setIfInBounds_ne (Ne.symm o)]
  have S:(W.setCell ⟨b,1,none⟩ (.int .i64 v)).cell? ⟨b,1,none⟩=some (.int .i64 v):=by
   rw[l.cell 1,Array.getElem?_setIfInBounds_self_of_lt];have:=q.cell 1;rw[show(0+0*4+1)=1 from rfl] at G;rw[G] at this;exact(Array.getElem?_eq_some_iff.1 this.symm).1
  have U:=d.fits;refine⟨b,rfl,G,q.free 1,by omega,hB,Q,⟨rfl,d.fits,d.bound,(fun h=>by cases h),fun j u o=>?_,fun y r=>?_,fun y r=>?_⟩⟩
  ·refine⟨b,0,rfl,?_⟩
   have a0:j<4:=by
    have:=(List.getElem?_eq_some_iff.1 o).1;rw[q9g] at this;simpa using this
   rw[Nat.zero_add];have m:j=0\/j=1\/j=2\/j=3:=by omega
   rcases m with rfl|rfl|rfl|rfl
   ·rw[hc 0 (by decide),<-o];exact Z
   ·rw[S,<-o];rfl
   ·rw[hc 2 (by decide),<-o];exact c2
   ·rw[hc 3 (by decide),<-o];exact c3
  ·rw[List.mem_singleton.1 r]
   have:=q0L C (w':=W.setCell ⟨b,1,none⟩ (.int .i64 v)) fun i V=>Below.heap_setCell _ _ _ _ fun e=>q.apart C (by decide) (V.trans (congrArg some e))
   exact(q1n this).2▸(q1n this).1
  ·rw[List.mem_singleton.1 r]
   have:=q0L R (w':=W.setCell ⟨b,1,none⟩ (.int .i64 v)) fun i V=>Below.heap_setCell _ _ _ _ fun e=>q.apart R (by decide) (V.trans (congrArg some e))
   exact(q1n this).1
theorem z1Y : ∀(L:List Fi) (i j:Nat),i<L.length->j<3->(q5c L)[i*3+j]? =(fic (L.getD i fi0))[j]?
 |[],i,j,h,_=>by simp at h
 | k::L,0,j,_,hj=>by
  rw[show q5c (k::L)=fic k++q5c L from rfl,List.getElem?_append_left (by simp[fic];omega)];simp
 | k::L,i+1,j,h,hj=>by
  rw[show q5c (k::L)=fic k++q5c L from rfl,List.getElem?_append_right (by simp[fic];omega),show(i+1)*3+j-(fic k).length=i*3+j from by simp[fic];omega,z1Y L i j (by simpa using h) hj];simp
theorem y2w{w:World}{n r vc:Nat}{va:Option Addr}{L:List Fi}(h:w.ownsRow B 38 3 (.slice va r vc) n (q5c L))(d:i<L.length):
  ∃b off,va=some ⟨b,off,none⟩/\w.cell? ⟨b,off+i*3,none⟩=some (.int .i64 (L.getD i fi0).cd)/\w.cell? ⟨b,off+i*3+1,none⟩=some (.string ⟨(L.getD i fi0).st.toArray⟩)/\w.cell? ⟨b,off+i*3+2,none⟩=some (.int .i64 (L.getD i fi0).at'):=by
 have j:=z9m h;have k0:=z1Y L i 0 d (by decide);have k1:=z1Y L i 1 d (by decide);have q:=z1Y L i 2 d (by decide);obtain⟨b,off,rfl,o⟩:=j _ _ k0;obtain⟨_,_,l,h1⟩:=j _ _ k1
 cases l;obtain⟨_,_,m,h2⟩:=j _ _ q
 cases m;exact⟨b,off,rfl,o,h1,h2⟩
abbrev qX(fa:Option Addr)(fc:Nat)(ba:Option Addr)(bc:Nat)(v:Int):Smm:=⟨[115],v,fa,1,fc,[qT],ba,1,bc,[qT]⟩
theorem z9c{wb w:World}{g gs rate u n:Nat}{sd c s:Int}{K:Nat->Prop}(h:SK wb w g gs rate sd c s u n [qB] K)(E:n<=1000):
  Calls Tryz.prog 13 #[.pointer (some ⟨gs,0,none⟩)] w fun e w'=> ∃(aa:Option Addr) (ac:Nat) (so:Option Addr) (sc:Nat) (fa:Option Addr) (fc:Nat) (ba:Option Addr) (bc:Nat),e= .returned (.tuple #[.agg #[.slice aa 1 ac,.slice so 1 sc],.int .i64 0])/\Ext wb w'/\
   w'.ownsRow wb.heap.size 99 5 (.slice aa 1 ac) 1 (q2K [qT])/\w'.ownsRow wb.heap.size 43 4 (.slice so 1 sc) 1 (z0H [qX fa fc ba bc 0])/\w'.ownsRow wb.heap.size 99 5 (.slice fa 1 fc) 1 (q2K [qT])/\w'.ownsRow wb.heap.size 99 5 (.slice ba 1 bc) 1 (q2K [qT]):=by
 refine(y6Q h E).mono ?_;rintro e I ⟨aa,ac,so,sc,A,rfl,k1,_,v,G,o,j⟩;rw[y3k] at v j;rw[y3i] at j;have D:A.length=1:=by
  have:=congrArg List.length j;rw[List.length_map] at this;exact this
 obtain⟨x,rfl⟩:=List.length_eq_one_iff.1 D;have d:x.nm=[115]:=by
  have:=congrArg List.head? j
  simpa using this
 obtain⟨_,_,h3,h4,l,m,b⟩:=o.st x (.head _);have r:=o.fo x (.head _);have q:=o.bk x (.head _);obtain⟨nm,la,fa,fn,fc,F,ba,bn,bc,B⟩:=x;simp only at d h3 h4 l m b r q;subst d;have y:(q0U [qB] [115]).length=1:=rfl;have C:q3K [qB] [115]=[qT]:=rfl;rw[y] at h3 h4 l;rw[C] at m b;have b:B=[qT]:=b;have h3:la=0:=by omega
 subst m b h3 h4 l;exact⟨aa,ac,so,sc,fa,fc,ba,bc,rfl,k1.base,v,G,r,q⟩
theorem z9b{W:World}{so:Option Addr}{sc:Nat}{fa:Option Addr}{fc:Nat}{ba:Option Addr}{bc:Nat}(m:W.ownsRow B 43 4 (.slice so 1 sc) 1 (z0H [qX fa fc ba bc 0]))(l:W.ownsRow B 99 5 (.slice fa 1 fc) 1 (q2K [qT]))(j:W.ownsRow B 99 5 (.slice ba 1 bc) 1 (q2K [qT])):Sms W so 1 sc [qX fa fc ba bc 0]:=by
 obtain⟨ao,cap,d,h1,h2,h3,h4⟩:=(Own.of_row m).rd
 cases d;exact⟨rfl,h1,h2,h3,h4,fun y b=>by rw[List.mem_singleton.1 b];exact(q1n (L:=[qT]) l).1,fun y b=>by rw[List.mem_singleton.1 b];exact(q1n (L:=[qT]) j).1⟩
theorem y3h(w:World):Calls Tryz.prog 9 #[] w fun e w'=>e= .returned (.bool true)/\Ext w w':=by
 have HO:=η (z0p 0 0 0 w (by decide) (by decide));go_enter Tryz.func9,Tryz.ntmps9;go_wp2_with fail;refine HO.o.mono ?_;rintro e w1 ⟨g,gs,rfl,Y⟩;have x0:=q0B w1 (.cells #[.string ⟨#[97]⟩,.string ⟨#[]⟩,.float .f64 0] 97);have n0:=Blk.new w1 97 #[.string ⟨#[97]⟩,.string ⟨#[]⟩,.float .f64 0];have r0:=Y.more (K':=fun i=>i=w1.heap.size) x0 fun i hi=> .inr (by rw[ρ];omega)
 have c0:=η (r0.append (by omega) [115] (by decide) (-1) (L:=[evA]) (fun W _ hs=>(by
  have:=(n0.same (hs _ rfl)).evs (L:=[evA]) (k:=1) (by decide) (by decide)
  rwa [Δ (by decide)] at this)) (z6Q (by decide)) (by decide) y3j)
 clear Y x0 n0 r0 HO;go_wp2_with fail;refine c0.o.mono ?_;rintro e w2 ⟨x,y,D0,rfl,Y,_,h3⟩;rcases h3 with⟨h3,_⟩|⟨_,_,_,_,h3⟩|⟨_,rfl,rfl,rfl⟩
 ·exact absurd rfl h3
 ·omega
 rw[List.nil_append,show(⟨[115],(q0U [] [115]).length,[evA]⟩:Bt)=qB from rfl] at Y;have f0:=η (z9c (Y.beside (K':=noI) fun i hi=>hi.elim) (by omega));clear Y c0;go_wp2_with fail;refine f0.o.mono ?_;rintro e w4 ⟨aa,ac,so,sc,fa,fc,ba,bc,rfl,i0,k3,k4,hf,hb⟩;have l:=q0B w4 (.cells #[.slice aa 1 ac,.slice so 1 sc] 25);have b:=Blk.new w4 25 #[.slice aa 1 ac,.slice so 1 sc];obtain⟨W4,j0⟩: ∃W4,w4.alloc (.cells #[.slice aa 1 ac,.slice so 1 sc] 25)=W4:=⟨_,rfl⟩
 rw[j0] at l b;obtain⟨bV,d⟩: ∃bV,w4.heap.size=bV:=⟨_,rfl⟩
 rw[d] at b;have O:=η (q0G k3 l);have N:=η (q0G k4 l);have M:=η (q0G hf l);have E:=η (q0G hb l);have h0:=η (i0.trans l);have e0:=η b;have m:=η d;have G:=η (q8H W4 (q1n (L:=[qT]) O.o).1 (z9b N.o M.o E.o) (fun t r=>by rw[List.mem_singleton.1 r];decide) (fun t r=>by rw[List.mem_singleton.1 r];show [115].length<=9223372036854775807;decide) (by decide) (by decide));rw[y3e] at G;have v0:=q0a d (b.cell 0);have v1:=q0a d (b.cell 1);clear k3 k4 hf hb l b d i0 f0;go_wp2_with fail;refine G.o.mono ?_;rintro e w5 ⟨v,rfl,j,q⟩;have s0:w5.ownsRow W4.heap.size 38 3 v 0 (q5c []):=j;clear j;obtain⟨ra,rc,rfl⟩:=q0E s0;have k0:=h0.o.trans q;have b:=e0.o.ext q;have V:=q0G O.o q;have U:=q0G N.o q;have p0:=q0G M.o q;have o0:=q0G E.o q;obtain⟨sg,rfl,l1,l2,C0,hB,m0,u0⟩:=y1s (x:=qX fa fc ba bc 0) U p0 o0 5;have q0:bV≠sg:=fun e=>b.apart U (by decide) (by rw[e];rfl)
 have l0:Ext w (w5.setCell ⟨sg,1,none⟩ (.int .i64 5)):=Below.setCell k0 hB _;have Q:=b.o q0 1 (.int .i64 5);have D:=q0L V (w':=w5.setCell ⟨sg,1,none⟩ (.int .i64 5)) fun i hi=>Below.heap_setCell _ _ _ _ fun e=>m0 0 _ _ _ _ _ _ V (by decide) (hi.trans (congrArg some e))
 have I:=η (q8H (w5.setCell ⟨sg,1,none⟩ (.int .i64 5)) (q1n (L:=[qT]) D).1 u0 (fun t r=>by rw[List.mem_singleton.1 r];decide) (fun t r=>by rw[List.mem_singleton.1 r];show [115].length<=9223372036854775807;decide) (by decide) (by decide));rw[show(⟨(qX fa fc ba bc 0).nm,5,(qX fa fc ba bc 0).fa,(qX fa fc ba bc 0).fn,(qX fa fc ba bc 0).fc,(qX fa fc ba bc 0).F,(qX fa fc ba bc 0).ba,(qX fa fc ba bc 0).bn,(qX fa fc ba bc 0).bc,(qX fa fc ba bc 0).B⟩:Smm)=⟨[115],5,fa,1,fc,[qT],ba,1,bc,[qT]⟩ from rfl,y3f] at I;have z0:=η l0;have v0:=q0a m.o (b.cell 0);have v1:=q0a m.o (b.cell 1);have y0:=q0a m.o (Q.cell 0);have y1:=q0a m.o (Q.cell 1);have E0:(1:Int)<=(sc:Int):=C0;simp only at l1;clear s0 q k0 b V U p0 o0 hB m0 u0 q0 l0 Q D G O N M E e0 h0 j0;go_wp2_with fail;refine I.o.mono ?_;rintro e Z ⟨v,rfl,j,q⟩;have R:Z.ownsRow (w5.setCell ⟨sg,1,none⟩ (.int .i64 5)).heap.size 38 3 v 1 (q5c [⟨4,[115],5⟩]):=j;clear j;obtain⟨pa,pc,rfl⟩:=q0E R;have X:=q0B Z (.cells #[.string ⟨#[115]⟩,.int .i64 1,.string ⟨#[]⟩,.string ⟨#[]⟩,.float .f64 0] 99);have J:=η (q8H (va:=some ⟨Z.heap.size,0,none⟩) (vn:=1) (vc:=1) (so:=none) (sn:=0) (sc:=0) (L:=[⟨[115],1,ev0⟩]) (S:=[]) (Z.alloc (.cells #[.string ⟨#[115]⟩,.int .i64 1,.string ⟨#[]⟩,.string ⟨#[]⟩,.float .f64 0] 99)) ⟨rfl,ι _,by decide,(fun h=>by cases h),Rd.lit Z #[.string ⟨#[115]⟩,.int .i64 1,.string ⟨#[]⟩,.string ⟨#[]⟩,.float .f64 0] 99⟩ (Sms.empty _) (fun t r=>by rw[List.mem_singleton.1 r];decide) (fun t r=>by cases r) (by decide) (by decide));rw[y3g] at J;have g0:=η (q0G R X);have A0:=η ((z0.o.trans q).trans X);clear R q X I v0 v1 y0 y1 l1 l2;go_wp2_with fail;refine J.o.mono ?_;rintro e w7 ⟨v,rfl,j,q⟩;have C:w7.ownsRow (Z.alloc (.cells #[.string ⟨#[115]⟩,.int .i64 1,.string ⟨#[]⟩,.string ⟨#[]⟩,.float .f64 0] 99)).heap.size 38 3 v 2 (q5c [⟨1,[115],0⟩,⟨2,[115],0⟩]):=j;clear j;obtain⟨qa,qc,rfl⟩:=q0E C;have t0:=q0G g0.o q;have B0:=η (A0.o.trans q);obtain⟨ab,af,rfl,a0,a1,a2⟩:=y2w t0 (i:=0) (by decide);obtain⟨bb,bf,rfl,b0,b1,b2⟩:=y2w C (i:=0) (by decide);obtain⟨_,_,e1,d0,d1,d2⟩:=y2w C (i:=1) (by decide)
 cases e1;simp only[List.getD_cons_zero,List.getD_cons_succ,Nat.zero_mul,Nat.one_mul,Nat.add_zero] at a0 a1 a2 b0 b1 b2 d0 d1 d2;clear C q t0 J g0;go_wp2_with fail;go_ret;exact⟨rfl,B0.o⟩
theorem z1q{bs:List Bt}(h:okBs bs)(s:List UInt8):q5E (tos bs) s=q3K bs s:=q6P h s
theorem q9T(a b:List To)(s:List UInt8):q5E (a++b) s=q5E a s++q5E b s:=by unfold q5E;rw[List.filter_append]
theorem y4G{bs:List Bt}(h:okBs bs)(l:i<(tos bs).length):((tos bs).getD i to0).v=(y0L ((tos bs).take i) ((tos bs).getD i to0).s:Int):=by
 obtain⟨t,d⟩: ∃t,(tos bs).getD i to0=t:=⟨_,rfl⟩
 rw[d];have e:tos bs=(tos bs).take i++t::(tos bs).drop (i+1):=by
  conv=>lhs;rw[<-List.take_append_drop i (tos bs)]
  rw[q3M (tos bs) to0 l,d]
 have b:=z1q h t.s;rw[e,q9T,show t::(tos bs).drop (i+1)=[t]++(tos bs).drop (i+1) from rfl,q9T] at b;have j:q5E [t] t.s=[t]:=by unfold q5E;simp
 rw[j] at b;have hc:(q5E ((tos bs).take i) t.s).length<(q0U bs t.s).length:=by
  have:=congrArg List.length b;rw[q1M,θ,θ,List.length_singleton] at this;omega
 have h1:=z3G t.s (q0U bs t.s) 0 _ hc;have h2:(q3K bs t.s).getD (q5E ((tos bs).take i) t.s).length to0=t:=by
  rw[<-b,δ,List.getElem?_append_right (ι _),Nat.sub_self];rfl
 unfold q3K at h2;rw[h1] at h2;have h3:=congrArg To.v h2;rw[z1T,<-h3];show((0+_:Nat):Int)=_;rw[Nat.zero_add]
theorem z0T{bs:List Bt}(h:okBs bs)(N:List (List UInt8))(j: ∀t∈tos bs,t.s∈N): ∀i,i<=(tos bs).length->q3c N (tos bs) i=[]
 |0,_=>rfl
 | i+1,hi=>by
  have b:i<(tos bs).length:=by omega
  have h1:=y4G h b;have h2:=j _ (q4G (d:=to0) b);rw[q3c,z0T h N j i (by omega),List.nil_append];unfold z0O;rw[one?_no (c:=decide (_≠_)) (ε (fun e=>e h1)),one?_no (c:=(_&&decide (_∉N))) (by rw[ε (p:=_∉N) (fun e=>e h2),Bool.and_false])]
  rfl
theorem z0V{bs:List Bt}(h:okBs bs){A:List Smm}(l: ∀x∈A,x.la=((q0U bs x.nm).length:Int)-1/\x.F=q3K bs x.nm/\x.B=(q3K bs x.nm).reverse)(b:(A.map Smm.nm).Nodup): ∀i,i<=A.length->q2Y (tos bs) A i=[]
 |0,_=>rfl
 | i + 1,hi=>by
  have j:i<A.length:=by omega
  obtain⟨h1,h2,h3⟩:=l _ (q4G (d:=sm0) j);rw[q2Y,z0V h l b i (by omega),List.nil_append];unfold z2E;have m:(A.getD i sm0).nm∉(A.take i).map Smm.nm:=fun hm=>by
   have e:A.map Smm.nm=(A.take i).map Smm.nm++((A.getD i sm0).nm::(A.drop (i+1)).map Smm.nm):=by
    conv=>lhs;rw[<-List.take_append_drop i A,q3M A sm0 j]
    rw[List.map_append,List.map_cons]
   rw[e] at b;exact(List.nodup_append.1 b).2.2 _ hm _ (.head _) rfl
  rw[κ m,h2,h3,z1q h];unfold q3E;rw[q7b,q7b,h1,q1M,one?_no (c:=decide (_≠_)) (ε (fun e=>e rfl)),one?_no (by decide),one?_no (by decide)]
  rfl
theorem z6h{bs:List Bt}(h:okBs bs){A:List Smm}(d: ∀x∈A,x.la=((q0U bs x.nm).length:Int)-1/\x.F=q3K bs x.nm/\x.B=(q3K bs x.nm).reverse)(b:A.map Smm.nm=q2t (tos bs)):q4t (tos bs) A=[]:=by
 unfold q4t;rw[z0T h _ (fun t j=>by rw[b];exact z0m _ _ j) _ (ι _),z0V h d (by rw[b];exact q7s _) _ (ι _)]
 rfl
def z9x :List Smm->Nat->Nat
 |_,0=>0
 |A,i+1=>z9x A i+(A.getD i sm0).F.length
theorem y4A : ∀(L:List To) (N:List (List UInt8)),N.Nodup->(∀t∈L,t.s∈N)->(N.map fun s=>(q5E L s).length).sum=L.length:=fun L=>by
 induction L using q5Y with
 | h0 =>
  intro N _ _;have h: ∀N:List (List UInt8),(N.map fun s=>(q5E [] s).length).sum=0:=fun N=>by
   induction N with
   |nil=>rfl
   |cons a r ih=>rw[List.map_cons,List.sum_cons,ih];rfl
  exact h N
 | h1 L t ih=>
  intro N j d;have h1:=ih N j fun x m=>d x (List.mem_append_left _ m)
  have h2:t.s∈N:=d t (List.mem_append_right _ (.head _));rw[θ,List.length_singleton,<-h1];clear h1 d ih
  induction N with
  |nil=>cases h2
  | cons a r ih2=>
   rw[List.map_cons,List.sum_cons,List.map_cons,List.sum_cons,q7C];have b:=List.nodup_cons.1 j;by_cases e:t.s=a
   ·rw [ξ e,θ,List.length_singleton]
    have h3:(r.map fun s=>(q5E (L++[t]) s).length)=r.map fun s=>(q5E L s).length:=by
     refine List.map_congr_left fun s l=>?_
     rw[q7C,κ (fun h=>b.1 (by rw[<-e,h];exact l))]
    rw[h3];omega
   ·rw[κ e]
    have h3:=ih2 b.2 (by rcases List.mem_cons.1 h2 with h|h;exact absurd h e;exact h);rw[h3];omega
theorem z3d(A:List Smm): ∀i,i<=A.length->z9x A i=((A.take i).map fun x=>x.F.length).sum
 |0,_=>rfl
 | i +1,hi=>by
  have b:i<A.length:=by omega
  have e:A.take (i+1)=A.take i++[A.getD i sm0]:=by
   rw[List.take_succ_eq_append_getElem b,δ,γ b];rfl
  rw[z9x,z3d A i (by omega),e,List.map_append,List.sum_append];simp
theorem y1t{bs:List Bt}(h:okBs bs){A:List Smm}(d: ∀x∈A,x.F=q3K bs x.nm)(b:A.map Smm.nm=q2t (tos bs)):z9x A A.length=(tos bs).length:=by
 rw[z3d A _ (ι _),Δ (ι _),<-y4A (tos bs) (q2t (tos bs)) (q7s _) (fun t j=>z0m _ _ j),<-b,List.map_map]
 congr 1
 refine List.map_congr_left fun x l=>?_
 show x.F.length=(q5E (tos bs) x.nm).length;rw[d x l,z1q h]
theorem z3c(A:List Smm){j:Nat}(h:i<=j):z9x A i<=z9x A j:=by
 induction h with
 |refl=>exact ι _
 |step _ ih=>exact Ω ih (Nat.le_add_right _ _)
theorem auditquiet_c{ao:Option Addr}{n cap:Nat}{A:List Acm}(sd:Int)(rate:Nat)(l:Int)(w:World)(j:Acs w ao n cap A)(b1:0<=sd)(c1:sd<18446744073709551616)(m1:0<=l)(n1:l<=65535):
  Calls Tryz.prog 6 #[.slice ao n cap,.agg #[.int .u64 sd,.float .f64 rate,.int .u16 l]] w fun e w'=>e= .returned (.bool true)/\Ext w w':=by
 have U:=q0B w (.cells #[.int .u64 sd,.float .f64 rate,.int .u16 l] 50);have B0:=Blk.new w 50 #[.int .u64 sd,.float .f64 rate,.int .u16 l];have HG:=η (y3C 40 _ (j.ext U));have HX:=η U;have n0:=η B0;have HA:=η (j.ext U);have HQ:=η y3h;have d1:=j.len;have e1:=j.fits;have f1:=j.bound;obtain⟨z,hz⟩: ∃z,q7o A 40=z:=⟨_,rfl⟩
 rw[hz] at HG;clear j U B0;go_enter Tryz.func6,Tryz.ntmps6;go_wp2_with fail;refine HG.o.mono ?_;rintro e w1 ⟨rfl,j⟩;have y0:=η (HX.o.trans j);have o0:=η (n0.o.ext j);have m0:=η (HA.o.ext j);clear j HG n0 HA HX
 cases z with
 | true=>
  go_wp2_with fail;refine(HQ.o _).mono ?_;rintro e w2 ⟨rfl,j⟩;have W0:=η (y0.o.trans j);clear j;go_wp2_with fail;go_ret;exact⟨rfl,W0.o⟩
 | false=>
  have f0:=z9G hz;have H0:n<=40:=by have:=f0.1;omega
  have R:=o0.o;have k0:=R.cell 0;have k1:=R.cell 1;have k2:=R.cell 2;have q0:=η (y0z sd rate l w1 m0.o b1 c1 H0 f0.2);have a0:=η (q0B w1 (.cells #[.int .u64 sd,.float .f64 rate,.int .u16 l] 50));clear f0 hz R;go_wp2_with fail;refine q0.o.mono ?_;rintro e w2 ⟨g,gs,mb,u,m,bs,vL,vM,rfl,hF,hu,hm⟩;obtain⟨wf,N0⟩: ∃wf,w1.alloc (.cells #[.int .u64 sd,.float .f64 rate,.int .u16 l] 50)=wf:=⟨_,rfl⟩
  rw[N0] at hF a0;have HF:Hd (TW wf w2 g gs rate sd 1048576 u m bs mb vL vM m bs [] noP noP (fun _=>False)):=η hF;have Z0:=η (y0.o.trans a0.o);have C0:=HF.o.sk.few;have i0:=HF.o.sk.ok;have L0: ∀t∈tos bs,t.s.length<=9223372036854775807:=fun t ht=>by have:=(q6Q (z1D i0 ht).1).2;omega
  obtain⟨ms,r,_⟩:=HF.o.mo;obtain⟨an,d0⟩: ∃an,(tos bs).length=an:=⟨_,rfl⟩
  have h0:=y6Q HF.o.sk (by omega);rw[d0] at h0 C0;have s0:=η h0;have r0:=η r;have t0:=η i0;have T0:=η L0;have E:=η d0;clear hF hu N0 q0 k0 k1 k2 a0 m0 o0 i0 L0 r d0 h0 HF;go_wp2_with fail;refine s0.o.mono ?_;rintro e Z ⟨aa,ac,so,sc,B,rfl,s1,s2,s3,s4,Y,s6⟩;have r:=r0.o.same fun i hi=>s2 i (.inl hi)
  obtain⟨su,X⟩:=r.blk;have S:=r.rowL;rw[E.o] at S;obtain⟨la,lc,rfl⟩:=q0E S;have o1:B.length<=an:=by
   rw[<-E.o,<-List.length_map (f:=Smm.nm),s6];exact z0n _
  have K0: ∀x∈B,x.nm.length<=9223372036854775807:=fun x j=>by have:=(q6Q (Y.st x j).1).2;omega
  have D0:=z6h t0.o (A:=B) (fun x j=>⟨(Y.st x j).2.2.1,(Y.st x j).2.2.2.2.2.1,(Y.st x j).2.2.2.2.2.2⟩) s6;have j0:=y1t t0.o (A:=B) (fun x j=>(Y.st x j).2.2.2.2.2.1) s6;rw[E.o] at j0;have q:=q0B Z (.cells #[.slice aa an ac,.slice so B.length sc] 25);have O:=Blk.new Z 25 #[.slice aa an ac,.slice so B.length sc];have N:=Y.sms s4;obtain⟨V,a1⟩: ∃V,Z.alloc (.cells #[.slice aa an ac,.slice so B.length sc] 25)=V:=⟨_,rfl⟩
  rw[a1] at q O;obtain⟨bV,J⟩: ∃bV,Z.heap.size=bV:=⟨_,rfl⟩
  rw[J] at O;have l0:=(q1n (n:=an) (L:=tos bs) (by rw[E.o];exact s3)).1.ext q;have M0:=(q1n (n:=an) (L:=tos bs) (by rw[E.o];exact S)).1.ext q;have hC:=q8H V.drew (l0.ext (Ext.refl _).drew) ((N.ext q).ext (Ext.refl _).drew) T0.o K0 (by omega) (by omega);rw[D0] at hC;have HC:=η hC;have U0:=η l0;have V0:=η M0;have S0:=η (N.ext q);have P0:=η (X.ext q);have p0:=η O;have G:=η J;have u0:=η j0;have Q0:Hd (∀x∈B,1<=(q0U bs x.nm).length/\x.la=((q0U bs x.nm).length:Int)-1/\x.fn=(q0U bs x.nm).length/\x.bn=(q0U bs x.nm).length/\x.F.length=(q0U bs x.nm).length):=η fun x j=>by
   obtain⟨_,q1,q2,q3,q4,q5,_⟩:=Y.st x j;exact⟨q1,q2,q3,q4,by rw[q5,q1M]⟩
  have X0:=η (Z0.o.trans (s1.base.trans q));have j1:=N.fits;have i1:=N.bound;clear s1 s2 s3 s4 Y s6 r X S K0 D0 j0 q O N J l0 M0 hC r0 s0;go_wp2_with fail;have A0: ∀W,Ext V W->(W.cell? ⟨Z.heap.size,0,none⟩=some (.slice aa an ac)/\W.cell? ⟨Z.heap.size,1,none⟩=some (.slice so B.length sc))/\W.cell? ⟨mb,0,none⟩=some (.slice la an lc):=fun W h=>by
   have hb:=p0.o.ext h;rw[G.o];exact⟨⟨hb.cell 0,hb.cell 1⟩,(P0.o.ext h).cell 0⟩
  have b0:=η A0;clear A0;refine q1o (fun W:World=>(W.cell? ⟨Z.heap.size,0,none⟩=some (.slice aa an ac)/\W.cell? ⟨Z.heap.size,1,none⟩=some (.slice so B.length sc))/\W.cell? ⟨mb,0,none⟩=some (.slice la an lc)) 18 (by kernel_rfl) (b0.o _ (Ext.refl _).drew) (fun b=>?_);refine q0j 0 b (fun b=>?_);refine q0j 1 b (fun b=>?_);refine q0j 2 b (fun b=>?_);refine q5C 3 b (fun b=>?_);simp only[Act.put,π,ψ,ω];refine q0k (i:=4) (by kernel_rfl) rfl (fun K hK=>?_)
  go_simp
  go_at_call 10
  refine HC.o.mono ?_;rintro e w4 ⟨v,rfl,J0,j⟩;have I0:w4.ownsRow V.drew.heap.size 38 3 v 0 (q5c []):=J0;clear J0;obtain⟨pa,pc,rfl⟩:=q0E I0;have I:Hd (Ext V w4):=η ((Ext.refl V).drew.trans j);have v0:=η (y4F w4 (U0.o.ext I.o) (V0.o.ext I.o));clear I0 j HC b;refine hK.out _ _ (b0.o _ I.o) (fun b=>?_);clear hK K
  try simp only[Act.put,π,ψ,ω]
  refine q0j 5 b (fun b=>?_);refine q0j 6 b (fun b=>?_);refine q0j 7 b (fun b=>?_);refine q0j 8 b (fun b=>?_)
  try simp only[Act.put,π,ψ,ω]
  refine q0j 9 b (fun b=>?_)
  try simp only[Act.put,π,ψ,ω]
  refine q5C 10 b (fun b=>?_)
  try simp only[Act.put,π,ψ,ω]
  refine q0j 11 b (fun b=>?_)
  try simp only[Act.put,π,ψ,ω]
  refine q0j 12 b (fun b=>?_)
  try simp only[Act.put,π,ψ,ω]
  refine q0j 13 b (fun b=>?_)
  try simp only[Act.put,π,ψ,ω]
  refine q5C 14 b (fun b=>?_);simp only[Act.put,π,ψ,ω];refine q0k (i:=15) (by kernel_rfl) rfl (fun K hK=>?_)
  go_simp
  go_at_call 25
  refine v0.o.mono ?_;rintro e w5 ⟨rfl,j⟩;have z0:=η (I.o.trans j);clear j v0 b;refine hK.out _ _ (b0.o _ z0.o) (fun b=>?_);clear hK K
  try simp only[Act.put,π,ψ,ω]
  refine q0j 16 b (fun b=>?_)
  try simp only[Act.put,π,ψ,ω]
  refine q0j 17 b (fun b=>?_);simp only[Act.put,π,ψ,ω];refine q2L (by kernel_rfl) ?_
  try simp only[List.drop_succ_cons,List.drop_zero]
  clear b I;go_wp2_with fail;have r1:=z3c B (υ B.length)
  go_loopw [11,12] (fun om oi W=> ∃k:Nat,oi= .int .i64 (k:Int)/\om= .int .i64 (z9x B k:Int)/\k<=B.length/\Ext V W) (fun _ oi _=>B.length-(intOf oi).toNat)
  case atStart=>exact⟨0,rfl,rfl,υ _,z0.o⟩
  case round=>
   obtain⟨k,rfl,rfl,hk,j⟩:=hrel;have Q:=p0.o.ext j;have g0:=q0a G.o (Q.cell 0);have g1:=q0a G.o (Q.cell 1);have Y0:=η j;by_cases F0:k<B.length
   ·have hd:decide ((k:Int)<(B.length:Int))=true:=ζ (by omega)
    have l1:(k:Int)<(B.length:Int):=by omega
    have q1:IntKind.i64.wrap ((k:Int)+1)=(k:Int)+1:=by rw[ν];omega
    obtain⟨sb,sf,rfl,x0,x1,x2,x3,_,_⟩:=(S0.o.ext j).at F0;have M:=z3c B (show k+1<=B.length by omega);rw[u0.o] at M;have D:z9x B (k+1)=z9x B k+(B.getD k sm0).F.length:=rfl;obtain⟨p1,p2,p3,p4,p5⟩:=Q0.o _ (q4G (A:=B) (i:=k) (d:=sm0) F0);obtain⟨y,O0⟩: ∃y,B.getD k sm0=y:=⟨_,rfl⟩
    rw[O0] at x0 x1 x2 x3 p1 p2 p3 p4 p5 D;obtain⟨nm,y1,fa,fn,fc,F,ba,bn,bc,C⟩:=y;simp only at x0 x1 x2 x3 p1 p2 p3 p4 p5 D;obtain⟨ln,E0⟩: ∃ln,(q0U bs nm).length=ln:=⟨_,rfl⟩
    rw[E0] at p1 p2 p3 p4 p5;rw[p5] at D;subst p2 p3 p4;have e0:((bn:Int)==0)=false:=beq_eq_false_iff_ne.2 (by omega);have q2:IntKind.i64.wrap ((bn:Int)-1)=(bn:Int)-1:=by rw[ν];omega
    obtain⟨mk,G0⟩: ∃mk,z9x B k=mk:=⟨_,rfl⟩
    rw[G0] at D⊢;have q3:IntKind.i64.wrap ((mk:Int)+(bn:Int))=(mk:Int)+(bn:Int):=by rw[ν];omega
    have R0:=η D;have c0:=η (j.trans (q0B wr (.cells #[.string ⟨nm.toArray⟩,.int .i64 ((bn:Int)-1),.slice fa bn fc,.slice ba bn bc] 43)));clear j Q O0 E0 p1 p5 D M G0;go_wp2_with fail
    go_roundw
    case measure=>simp[intOf];omega
    case rel=>exact⟨k+1,by go_num,by rw[R0.o];go_num,by omega,c0.o⟩
   ·have e:B.length=k:=by omega
    subst e;have hd:decide ((B.length:Int)<(B.length:Int))=false:=ε (by omega);have e0:((z9x B B.length:Int)==(an:Int))=true:=by rw[u0.o];exact beq_self_eq_true _
    clear j Q;go_wp2_with fail;refine(HQ.o _).mono ?_;rintro e w6 ⟨rfl,j⟩;have c0:=η ((X0.o.trans Y0.o).trans j);clear j;go_wp2_with fail;go_ret;exact⟨rfl,c0.o⟩
end
end Go.Proofs.YtjlcdfpbllobaaaGreatDoor
