/- Plain laws. -/
import Derived.Lib.ItoaNum
import Derived.Shelf.Strconv.Itoa3
import Derived.Shelf.Strings.Search1
import Derived.Lib.AppendIntMem
import Derived.Lib.OthersKept
import Derived.Deep.RegionHeldLaw
import Derived.Test.YtjlcdfpbllobaaaGreatDoorG36AT
set_option linter.unusedVariables false
set_option linter.unusedSimpArgs false
set_option maxRecDepth 100000
set_option maxHeartbeats 12800000
namespace Go.Proofs.YtjlcdfpbllobaaaGreatDoor
section
open Go.RowKit
structure Cur where
 st:List UInt8
 nx:Int
 dn:Bool
deriving DecidableEq
def y1L(c:Cur):Bool:=q1I c.st&&decide (c.nx<=1073741824)&&(decide (0<=c.nx)||(c.dn&&decide (c.nx= -1)))
theorem z9s{c:Cur}(h:y1L c=true):q1I c.st=true/\ -1<=c.nx/\c.nx<=1073741824:=by
 unfold y1L at h;simp only[Ξ,Bool.or_eq_true,decide_eq_true_iff] at h;refine⟨h.1.1,?_,h.1.2⟩;rcases h.2 with h|h<;>omega
end
end Go.Proofs.YtjlcdfpbllobaaaGreatDoor
namespace Go.Proofs
open Go.Shelf
end Go.Proofs
namespace Go.Proofs.YtjlcdfpbllobaaaGreatDoor
variable {x:Smm}{st:List UInt8}{nx ct:Int}{B:Nat}
section
open Go.RowKit
theorem z3E(st:List UInt8)(nx:Int)(dn:Bool):y1L ⟨st,nx,dn⟩=true↔q1I st=true/\nx<=1073741824/\(0<=nx\/(dn=true/\nx= -1)):=by
 unfold y1L;simp only[Ξ,Bool.or_eq_true,decide_eq_true_iff];exact⟨fun h=>⟨h.1.1,h.1.2,h.2⟩,fun h=>⟨⟨h.1,h.2.1⟩,h.2.2⟩⟩
section
variable {wb w W W':World}{g gs rate u n:Nat}{sd c s:Int}{bs:List Bt}{K K':Nat->Prop}
theorem SK.pokeK(h:SK wb W g gs rate sd c s u n bs K){x:Nat}(hK:K x)(d:wb.heap.size<=x)(j:Nat)(v:Value):SK wb (W.setCell ⟨x,j,none⟩ v) g gs rate sd c s u n bs K:=by
 refine h.sideM (by rw[World.size_setCell];exact ι _) (Below.setCell h.base d v) (fun i b l=>?_) fun i b=> .inl b
 exact heap_setCell_other W ⟨x,j,none⟩ i v fun e=>l (by have:i=x:=e;rw[this];exact hK)
theorem z6K{dn:Bool}(hm:y1L ⟨st,nx,dn⟩=true)(b:0<=nx)(h1:1<=ct):q2l st nx ct=0:=by
 unfold q2l;refine κ ?_;have:=(z9s hm).1;rintro(h|h|h)
 ·simp only at this;rw[this] at h;cases h
 ·omega
 ·omega
end
section
variable {wb w W W':World}{g gs rate u n:Nat}{sd c s:Int}{bs:List Bt}{K K':Nat->Prop}
end
section
variable {wb w W W':World}{g gs rate u n:Nat}{sd c s:Int}{bs:List Bt}{K K':Nat->Prop}
end
theorem z7x{bs:List Bt}(h:q2l st nx ct=0):z9e bs st nx ct=((q3U bs st).drop nx.toNat).take ct.toNat:=by unfold z9e;rw[ξ h];rfl
theorem z7Q{bs:List Bt}{M:Int}(h:q2l st M ct=0)(b:0<=M)(d:M<((q0c bs st).length:Int))(h1:1<=ct):z9N bs st M ct=(((q3U bs st).take (M+1).toNat).reverse).take ct.toNat:=by
 unfold z9N z0i;rw[ξ h,List.take_reverse,Θ,q1m,Nat.min_eq_left (by omega),List.drop_take]
 congr 2
 ·omega
 ·congr 1;omega
section
variable {wb w W W':World}{g gs rate u n:Nat}{sd c s:Int}{bs:List Bt}{K K':Nat->Prop}
theorem z9f(b:q1I st=true)(d:(q0c bs st).length<=1000000):z9e bs st 0 1073741824=q3U bs st/\q2l st 0 1073741824=0:=by
 have h:=z6K (dn:=false) (nx:=0) (ct:=1073741824) ((z3E st 0 false).2 ⟨b,by decide,.inl (by decide)⟩) (by decide) (by decide);refine⟨?_,h⟩;rw[z7x h];show((q3U bs st).drop 0).take 1073741824=q3U bs st;rw[List.drop_zero,Δ (by rw[q1m];omega)]
theorem z9O{len:Nat}(d:q1I st=true)(b:(q0c bs st).length=len)(i:1<=len)(h1:len<=1000000):z9N bs st ((len:Int)-1) 1073741824=(q3U bs st).reverse/\q2l st ((len:Int)-1) 1073741824=0:=by
 have h:=z6K (dn:=true) (nx:=(len:Int)-1) (ct:=1073741824) ((z3E st ((len:Int)-1) true).2 ⟨d,by omega,.inl (by omega)⟩) (by omega) (by decide);refine⟨?_,h⟩;rw[z7Q h (by omega) (by omega) (by decide),show((len:Int)-1+1).toNat=len by omega];show(((q3U bs st).take len).reverse).take 1073741824=_;rw[Δ (l:=q3U bs st) (by rw[q1m,b];exact ι _),Δ (by rw[List.length_reverse,q1m,b];omega)]
theorem y1I(h:SK wb w g gs rate sd c s u n bs K)(hn:n<=1000){len:Nat}(hs:q1I st=true)(hl:(q0c bs st).length=len)(h0:1<=len):
  Calls Tryz.prog 40 #[.pointer (some ⟨gs,0,none⟩),.string ⟨st.toArray⟩] w fun e w'=> ∃(fa:Option Addr) (fc:Nat) (ba:Option Addr) (bc:Nat),e= .returned (.tuple #[.agg #[.string ⟨st.toArray⟩,.int .i64 ((len:Int)-1),.slice fa len fc,.slice ba len bc],.int .i64 0])/\
   SK wb w' g gs rate sd c s u n bs (fun i=>(K i\/(Value.slice fa len fc).ownBlock=some i)\/(Value.slice ba len bc).ownBlock=some i)/\Stay K w w'/\
   w'.ownsRow wb.heap.size 99 5 (.slice fa len fc) len (q1i (q3U bs st))/\w'.ownsRow wb.heap.size 99 5 (.slice ba len bc) len (q1i (q3U bs st).reverse)/\
   (∀i,K i->(Value.slice fa len fc).ownBlock≠some i)/\(∀i,(K i\/(Value.slice fa len fc).ownBlock=some i)->(Value.slice ba len bc).ownBlock≠some i):=by
 have F0:=(z2J hs).2;have n0:=h.few;have A0:=q4f bs st;have o0:len<=1000000:=by omega
 have d0:=η (z9f (bs:=bs) hs (by rw[hl];exact o0));have c0:=η (z9O (bs:=bs) hs hl h0 o0);have u0:Hd (z1f bs st=((len:Int)-1,0)):=η (by unfold z1f;rw[ξ hs,hl]);have j0:Hd ((q3U bs st).length=len):=η (by rw[q1m,hl]);generalize q3U bs st=T at*;have hmx:max ((len:Int)-1) 0=(len:Int)-1:=by omega
 have I:=q0B w (.cells #[.string ⟨#[]⟩,.int .i64 0,.slice none 0 0,.slice none 0 0] 43);have E:=Blk.new w 43 #[.string ⟨#[]⟩,.int .i64 0,.slice none 0 0,.slice none 0 0];obtain⟨W1,z0⟩: ∃W1,w.alloc (.cells #[.string ⟨#[]⟩,.int .i64 0,.slice none 0 0,.slice none 0 0] 43)=W1:=⟨_,rfl⟩
 rw[z0] at I E;obtain⟨bR,F⟩: ∃bR,w.heap.size=bR:=⟨_,rfl⟩
 rw[F] at E;have B0:=I.size;have h1:=h.more (K':=fun i=>K i\/i=bR) I fun i d=>d.imp id fun e=>⟨by omega,by have:=E.lt;omega⟩
 have t0:Hd (∀i,K i->i≠bR):=η fun i d e=>by have:=h.klt i d;omega
 have q:Hd (wb.heap.size<=bR):=η (by have:=h.base.size;omega);have y0:Hd (Stay K w W1):=η (h.kExt I);have HL:=η (h1.last hn st (by omega) u0.o);have s0:=η E;have j:=η F;clear h h1 n0 A0 I E B0 F hl hs;go_enter Tryz.func40,Tryz.ntmps40;go_wp2_with fail;refine HL.o.mono ?_;rintro e J ⟨rfl,y,C⟩;have Y:=q0B J (.cells #[.string ⟨st.toArray⟩,.int .i64 ((len:Int)-1),.slice none 0 0,.slice none 0 0] 43);have O:=Blk.new J 43 #[.string ⟨st.toArray⟩,.int .i64 ((len:Int)-1),.slice none 0 0,.slice none 0 0];obtain⟨m,G⟩: ∃m,J.heap.size=m:=⟨_,rfl⟩
 rw[G] at O;have h3:=y.more (K':=fun i=>(K i\/i=bR)\/i=m) Y fun i d=>d.imp id fun e=>⟨by omega,by have:=O.lt;omega⟩
 have U:Hd (∀i,(K i\/i=bR)->i≠m):=η fun i d e=>by have:=y.klt i d;omega
 have R:Hd (wb.heap.size<=m):=η (by have:=y.base.size;omega);have e0:Hd (Stay (fun i=>K i\/i=bR) W1 (J.alloc (.cells #[.string ⟨st.toArray⟩,.int .i64 ((len:Int)-1),.slice none 0 0,.slice none 0 0] 43))):=η (C.trans (y.kExt Y));have hF:=h3.forward hn st (by omega) 0 1073741824 (by decide) (by decide);rw[d0.o.1,d0.o.2] at hF;have HF:=η hF;have b0:=η O;have b:=η G;clear y C Y O G h3 hF HL;go_wp2_with fail;refine HF.o.mono ?_;rintro e w4 ⟨v,rfl,y,C,Q,Z⟩;rw[j0.o] at Q;obtain⟨fa,fc,rfl⟩:=q0E Q;have N:=b0.o.same (C m (.inr rfl));have d2:=q0M b.o (N.cell 2);have e2:w4.frozen? ⟨J.heap.size,2,none⟩=false:=by rw[b.o];exact N.free 2
 have h5:=(y.pokeK (x:=m) (.inl (.inr rfl)) R.o 2 (.slice fa len fc))
 have p0:=q0K Q (w':=w4.setCell ⟨m,2,none⟩ (.slice fa len fc)) fun i d=>Below.heap_setCell _ _ _ _ fun e=>Z m (.inr rfl) (d.trans (congrArg some e))
 have q0:Stay (fun i=>K i\/i=bR) W1 (w4.setCell ⟨m,2,none⟩ (.slice fa len fc)):=fun i d=>(Below.heap_setCell _ _ _ _ (U.o i d)).trans ((C i (.inl d)).trans (e0.o i d))
 have m0:=N.set 2 (.slice fa len fc);have k0: ∀i,((K i\/i=bR)\/i=m)->(Value.slice fa len fc).ownBlock≠some i:=Z;have hB:=h5.backward hn st (by omega) ((len:Int)-1) 1073741824 (by omega) (by decide);rw[c0.o.1,c0.o.2] at hB;have H5:=η hB;have v0:=η p0;have g0:=η q0;have a0:=η m0;have S:=η k0;rw[<-b.o] at H5;clear y C Q Z N h5 p0 q0 m0 k0 hB HF b0 e0;go_wp2_with fail;refine H5.o.mono ?_;rintro e w6 ⟨v,rfl,y,C,Q,Z⟩;rw[b.o] at y C Z;rw[List.length_reverse,j0.o] at Q;obtain⟨ba,bc,rfl⟩:=q0E Q;have D:=a0.o.same (C m (.inl (.inr rfl)));have V:=(s0.o.same (g0.o bR (.inr rfl))).same (C bR (.inl (.inl (.inr rfl))));have d3:=q0M b.o (D.cell 3);have e3:w6.frozen? ⟨J.heap.size,3,none⟩=false:=by rw[b.o];exact D.free 3
 have r:=D.set 3 (.slice ba len bc);have D0:=η r;have C0:=η D;have E0:=η V;have H6:=η y;have i0:=η C;have x0:=η Q;have M:=η Z;have l0:=q0M b.o (r.cell 0);have l1:=q0M b.o (r.cell 1);have l2:=q0M b.o (r.cell 2);have l3:=q0M b.o (r.cell 3);rw[<-b.o] at l0 l1 l2 l3;have l:=V.o (U.o bR (.inr rfl)) 3 (.slice ba len bc);have r0:=q0M j.o (l.cell 0);have r1:=q0M j.o (l.cell 1);have r2:=q0M j.o (l.cell 2);have r3:=q0M j.o (l.cell 3);rw[<-b.o] at r0 r1 r2 r3;have f0:(w6.setCell ⟨J.heap.size,3,none⟩ (.slice ba len bc)).frozen? ⟨w.heap.size,0,none⟩=false:=by rw[b.o,j.o];exact l.free 0
 have f1:(w6.setCell ⟨J.heap.size,3,none⟩ (.slice ba len bc)).frozen? ⟨w.heap.size,1,none⟩=false:=by rw[b.o,j.o];exact l.free 1
 have f2:(w6.setCell ⟨J.heap.size,3,none⟩ (.slice ba len bc)).frozen? ⟨w.heap.size,2,none⟩=false:=by rw[b.o,j.o];exact l.free 2
 have f3:(w6.setCell ⟨J.heap.size,3,none⟩ (.slice ba len bc)).frozen? ⟨w.heap.size,3,none⟩=false:=by rw[b.o,j.o];exact l.free 3
 clear y C Q Z D V r l H5 a0;go_wp2_with fail
 ((try simp only[Exit.inBlock,Exit.then]);refine bodyPost_ret (v:= .tuple #[.agg #[.string ⟨st.toArray⟩,.int .i64 ((len:Int)-1),.slice fa len fc,.slice ba len bc],.int .i64 0]) (by rw[q0X rfl];go_simp) rfl ?_)
 rw[b.o,j.o];have X: ∀i,i≠bR->i≠m->(((((w6.setCell ⟨m,3,none⟩ (.slice ba len bc)).setCell ⟨bR,0,none⟩ (.string ⟨st.toArray⟩)).setCell ⟨bR,1,none⟩ (.int .i64 ((len:Int)-1))).setCell ⟨bR,2,none⟩ (.slice fa len fc)).setCell ⟨bR,3,none⟩ (.slice ba len bc)).heap[i]? =w6.heap[i]? :=fun i h1 h2=>by
  rw[Below.heap_setCell _ _ _ _ h1,Below.heap_setCell _ _ _ _ h1,Below.heap_setCell _ _ _ _ h1,Below.heap_setCell _ _ _ _ h1,Below.heap_setCell _ _ _ _ h2]
 have hk:=((((H6.o.pokeK (x:=m) (.inl (.inl (.inr rfl))) R.o 3 (.slice ba len bc)).pokeK (x:=bR) (.inl (.inl (.inl (.inr rfl)))) q.o 0 (.string ⟨st.toArray⟩)).pokeK (x:=bR) (.inl (.inl (.inl (.inr rfl)))) q.o 1 (.int .i64 ((len:Int)-1))).pokeK (x:=bR) (.inl (.inl (.inl (.inr rfl)))) q.o 2 (.slice fa len fc)).pokeK (x:=bR) (.inl (.inl (.inl (.inr rfl)))) q.o 3 (.slice ba len bc);refine⟨fa,fc,ba,bc,rfl,hk.beside fun i d=>?_,fun i d=>?_,q0K (q0K v0.o fun i d=>i0.o i (.inr d)) fun i d=>X i ?_ ?_,q0K x0.o fun i d=>X i ?_ ?_,fun i d=>S.o i (.inl (.inl d)),fun i d=>?_⟩
 ·rcases d with(d|d)|d
  ·exact .inl (.inl (.inl (.inl d)))
  ·exact .inl (.inr d)
  ·exact .inr d
 ·exact(X i (t0.o i d) (U.o i (.inl d))).trans ((i0.o i (.inl (.inl (.inl d)))).trans ((g0.o i (.inl d)).trans (y0.o i d)))
 ·exact fun e=>S.o bR (.inl (.inr rfl)) (d.trans (congrArg some e))
 ·exact fun e=>S.o m (.inr rfl) (d.trans (congrArg some e))
 ·exact fun e=>M.o bR (.inl (.inl (.inr rfl))) (d.trans (congrArg some e))
 ·exact fun e=>M.o m (.inl (.inr rfl)) (d.trans (congrArg some e))
 ·rcases d with d|d
  ·exact M.o i (.inl (.inl (.inl d)))
  ·exact M.o i (.inr d)
end
def q3n(L:List To):List (List UInt8):=L.foldl (fun acc t=>if t.s∈acc then acc else acc++[t.s]) []
theorem q7V(L:List To)(t:To):q3n (L++[t])=if t.s∈q3n L then q3n L else q3n L++[t.s]:=by
 unfold q3n;rw[List.foldl_append];rfl
theorem z4R(L:List To):(q3n L).length<=L.length:=by
 induction L using q7j with
 |h0=>exact ι _
 | h1 L x ih=>
  rw[q7V,θ]
  split
  ·omega
  ·rw[θ];simp;omega
def InA(A:List Smm)(i:Nat):Prop:= ∃x∈A,(Value.slice x.fa x.fn x.fc).ownBlock=some i\/(Value.slice x.ba x.bn x.bc).ownBlock=some i
structure SeenA(W:World)(B:Nat)(bs:List Bt)(A:List Smm):Prop where
 st: ∀x∈A,q1I x.nm=true/\1<=(q0c bs x.nm).length/\x.la=((q0c bs x.nm).length:Int)-1/\x.fn=(q0c bs x.nm).length/\x.bn=(q0c bs x.nm).length/\x.F=q3U bs x.nm/\x.B=(q3U bs x.nm).reverse
 fo: ∀x∈A,W.ownsRow B 99 5 (.slice x.fa x.fn x.fc) x.F.length (q1i x.F)
 bk: ∀x∈A,W.ownsRow B 99 5 (.slice x.ba x.bn x.bc) x.B.length (q1i x.B)
theorem SeenA.same{W j:World}{bs:List Bt}{A:List Smm}(h:SeenA W B bs A)(k: ∀i,InA A i->j.heap[i]? =W.heap[i]?):SeenA j B bs A:=
 ⟨h.st,fun x b=>q0K (h.fo x b) fun i d=>k i ⟨x,b,.inl d⟩,fun x b=>q0K (h.bk x b) fun i d=>k i ⟨x,b,.inr d⟩⟩
theorem SeenA.sms{W:World}{base:Nat}{bs:List Bt}{A:List Smm}(h:SeenA W B bs A){so:Option Addr}{sn sc:Nat}(i:W.ownsRow base 43 4 (.slice so sn sc) A.length (q5r A)):Sms W so sn sc A:=by
 obtain⟨ao,cap,d,h1,h2,h3,h4⟩:=(Own.of_row i).rd
 cases d;exact⟨rfl,h1,h2,h3,h4,fun x b=>(q1J (h.fo x b)).2▸(q1J (h.fo x b)).1,fun x b=>(q1J (h.bk x b)).1⟩
theorem z4j{bs:List Bt}(h:okBs bs){t:To}(i:t∈tos bs):q1I t.s=true/\1<=(q0c bs t.s).length:=by
 obtain⟨b,d,k,m,rfl⟩:=mem_tos.1 i;obtain⟨l,r,rfl⟩:=List.append_of_mem d;obtain⟨h1,h2⟩:=h l b r rfl;obtain⟨j,o,q,_⟩:=q0o h1.1;simp only;refine⟨?_,?_⟩
 ·unfold q1I
  have:=List.length_pos_iff.2 j;simp;omega
 ·rw[q3b,θ,show b::r=[b]++r from rfl,q3b,θ]
  have e:q0c [b] b.st=b.ev:=by unfold q0c;simp
  rw[e];omega
def KKO(K:Nat->Prop)(bR bV:Nat)(al:Value)(A:List Smm)(i:Nat):Prop:=((K i\/i=bR)\/(al.ownBlock=some i\/i=bV))\/InA A i
structure OfI(wb w0 W:World)(g gs rate:Nat)(sd c s:Int)(u n:Nat)(bs:List Bt)(K:Nat->Prop)(aa:Option Addr)(an ac bR bV k:Nat)(A:List Smm)(so:Option Addr)(sc:Nat):Prop where
 sk:SK wb W g gs rate sd c s u n bs (fun i=>KKO K bR bV (.slice aa an ac) A i\/(Value.slice so A.length sc).ownBlock=some i)
 stay:Stay K w0 W
 boxR:Blk W bR 25 #[.slice none 0 0,.slice none 0 0]
 boxV:Blk W bV 25 #[.slice aa an ac,.slice so A.length sc]
 all:W.ownsRow wb.heap.size 99 5 (.slice aa an ac) an (q1i (tos bs))
 row:W.ownsRow wb.heap.size 43 4 (.slice so A.length sc) A.length (q5r A)
 seen:SeenA W wb.heap.size bs A
 apart: ∀i,KKO K bR bV (.slice aa an ac) A i->(Value.slice so A.length sc).ownBlock≠some i
 names:A.map Smm.nm=q3n ((tos bs).take k)
section
variable {wb w0 w W W2:World}{g gs rate u n:Nat}{sd c s:Int}{bs:List Bt}{K:Nat->Prop}{aa so:Option Addr}{an ac bR bV k sc:Nat}{A:List Smm}
theorem OfI.grow(h:OfI wb w0 W g gs rate sd c s u n bs K aa an ac bR bV k A so sc)(e:Ext W W2):OfI wb w0 W2 g gs rate sd c s u n bs K aa an ac bR bV k A so sc:=by
 have d:=h.sk.klt;exact⟨h.sk.grow e,fun i b=>(e.block i (d i (.inl (.inl (.inl (.inl b)))))).trans (h.stay i b),h.boxR.ext e,h.boxV.ext e,q0F h.all e,q0F h.row e,h.seen.same fun i b=>e.block i (d i (.inl (.inr b))),h.apart,h.names⟩
theorem OfI.next(h:OfI wb w0 W g gs rate sd c s u n bs K aa an ac bR bV k A so sc)(e:A.map Smm.nm=q3n ((tos bs).take (k+1))):OfI wb w0 W g gs rate sd c s u n bs K aa an ac bR bV (k+1) A so sc:=
 ⟨h.sk,h.stay,h.boxR,h.boxV,h.all,h.row,h.seen,h.apart,e⟩
theorem Tryz.infoSm :(Tryz.prog.info? 43).map (fun i=>(i.zero,i.size,i.bytes))=some (some (.agg #[.string ⟨#[]⟩,.int .i64 0,.slice none 0 0,.slice none 0 0]),4,72):=by kernel_rfl
theorem z6h(A:List Smm)(x:Smm):q5r (A++[x])=q5r A++smc x:=by rw[q5I];unfold q5r;simp
theorem z2U{A:List Smm}{i:Nat}(h:InA (A++[x]) i):InA A i\/(Value.slice x.fa x.fn x.fc).ownBlock=some i\/(Value.slice x.ba x.bn x.bc).ownBlock=some i:=by
 obtain⟨y,h1,h2⟩:=h;rcases List.mem_append.1 h1 with h1|h1
 ·exact .inl ⟨y,h1,h2⟩
 ·rw[List.mem_singleton.1 h1] at h2;exact .inr h2
theorem OfI.add{l d:World}{q:Option Addr}{m:Nat}{O o2:Obj}(h:OfI wb w0 W g gs rate sd c s u n bs K aa an ac bR bV k A so sc)
  (s1:SK wb l g gs rate sd c s u n bs (fun i=>((KKO K bR bV (.slice aa an ac) A i\/(Value.slice so A.length sc).ownBlock=some i)\/(Value.slice x.fa x.fn x.fc).ownBlock=some i)\/(Value.slice x.ba x.bn x.bc).ownBlock=some i))
  (s2:Stay (fun i=>KKO K bR bV (.slice aa an ac) A i\/(Value.slice so A.length sc).ownBlock=some i) W l)
  (s3:l.ownsRow wb.heap.size 99 5 (.slice x.fa x.fn x.fc) x.F.length (q1i x.F))(s4:l.ownsRow wb.heap.size 99 5 (.slice x.ba x.bn x.bc) x.B.length (q1i x.B))
  (s5: ∀i,(KKO K bR bV (.slice aa an ac) A i\/(Value.slice so A.length sc).ownBlock=some i)->(Value.slice x.fa x.fn x.fc).ownBlock≠some i)(s6: ∀i,((KKO K bR bV (.slice aa an ac) A i\/(Value.slice so A.length sc).ownBlock=some i)\/(Value.slice x.fa x.fn x.fc).ownBlock=some i)->(Value.slice x.ba x.bn x.bc).ownBlock≠some i)
  (Z:q1I x.nm=true/\1<=(q0c bs x.nm).length/\x.la=((q0c bs x.nm).length:Int)-1/\x.fn=(q0c bs x.nm).length/\x.bn=(q0c bs x.nm).length/\x.F=q3U bs x.nm/\x.B=(q3U bs x.nm).reverse)
  (Y:d.ownsRow wb.heap.size 43 4 (.slice q (A.length+1) m) (A.length+1) (q5r A++smc x))(hg:((l.alloc O).alloc o2).grownBy d (Value.slice so A.length sc).ownBlock)
  (V:(Value.slice q (A.length+1) m).ownBlock=(Value.slice so A.length sc).ownBlock\/(Value.slice q (A.length+1) m).ownBlock=some ((l.alloc O).alloc o2).heap.size)
  (U:wb.heap.size<=bV)(M:bR≠bV)(J: ∀i,((K i\/i=bR)\/(Value.slice aa an ac).ownBlock=some i)->i≠bV)(X:A.map Smm.nm++[x.nm]=q3n ((tos bs).take (k+1))):
  OfI wb w0 (d.setCell ⟨bV,1,none⟩ (.slice q (A.length+1) m)) g gs rate sd c s u n bs K aa an ac bR bV (k+1) (A++[x]) q m:=by
 have S: ∀i,KKO K bR bV (.slice aa an ac) A i->l.heap[i]? =W.heap[i]? :=fun i b=>s2 i (.inl b)
 have v:Ext l (l.alloc O):=q0B l O
 have k8:SK wb (l.alloc O) g gs rate sd c s u n bs (fun i=>KKO K bR bV (.slice aa an ac) (A++[x]) i\/(Value.slice so A.length sc).ownBlock=some i):=(s1.beside fun i b=>by
  rcases b with(b|b)|b
  ·exact .inl (.inl (.inl (.inl b)))
  ·rcases z2U b with b|b|b
   ·exact .inl (.inl (.inl (.inr b)))
   ·exact .inl (.inr b)
   ·exact .inr b
  ·exact .inl (.inl (.inr b))).grow v
 have r7:=q0K h.row fun i b=>s2 i (.inr b)
 obtain⟨a0,I,R⟩:=k8.row1 (ι _) (q0F r7 v) Y hg V (fun i b e=>by
  rcases b with b|b
  ·exact h.apart i (.inl b) e
  ·rcases z2U b with b|b|b
   ·exact h.apart i (.inr b) e
   ·exact s5 i (.inr e) b
   ·exact s6 i (.inl (.inr e)) b)
 have kV:KKO K bR bV (.slice aa an ac) (A++[x]) bV:= .inl (.inr (.inr rfl))
 have D: ∀i,KKO K bR bV (.slice aa an ac) A i->d.heap[i]? =W.heap[i]? :=fun i b=>(I i (by
  rcases b with b|b
  ·exact .inl b
  ·obtain⟨y,h1,h2⟩:=b;exact .inr ⟨y,List.mem_append_left _ h1,h2⟩)).trans ((v.block i (s1.klt i (.inl (.inl (.inl b))))).trans (S i b))
 have j:Blk d bV 25 #[.slice aa an ac,.slice so A.length sc]:=h.boxV.same (D bV (.inl (.inr (.inr rfl))));have r: ∀i,i≠bV->(d.setCell ⟨bV,1,none⟩ (.slice q (A.length+1) m)).heap[i]? =d.heap[i]? :=fun i b=>Below.heap_setCell _ _ _ _ b
 have Q:(A++[x]).length=A.length+1:=by rw[θ];rfl
 have E:=q0K h.all fun i b=>D i (.inl (.inr (.inl b)))
 have G: ∀y∈A++[x],d.ownsRow wb.heap.size 99 5 (.slice y.fa y.fn y.fc) y.F.length (q1i y.F)/\d.ownsRow wb.heap.size 99 5 (.slice y.ba y.bn y.bc) y.B.length (q1i y.B):=fun y C=>by
  have N: ∀i,((Value.slice y.fa y.fn y.fc).ownBlock=some i\/(Value.slice y.ba y.bn y.bc).ownBlock=some i)->KKO K bR bV (.slice aa an ac) (A++[x]) i:=fun i b=> .inr ⟨y,C,b⟩
  have h7:l.ownsRow wb.heap.size 99 5 (.slice y.fa y.fn y.fc) y.F.length (q1i y.F)/\l.ownsRow wb.heap.size 99 5 (.slice y.ba y.bn y.bc) y.B.length (q1i y.B):=by
   rcases List.mem_append.1 C with h1|h1
   ·exact⟨q0K (h.seen.fo y h1) fun i b=>S i (.inr ⟨y,h1,.inl b⟩),q0K (h.seen.bk y h1) fun i b=>S i (.inr ⟨y,h1,.inr b⟩)⟩
   ·rw[List.mem_singleton.1 h1];exact⟨s3,s4⟩
  exact⟨q0K (q0F h7.1 v) fun i b=>I i (N i (.inl b)),q0K (q0F h7.2 v) fun i b=>I i (N i (.inr b))⟩
 refine⟨?_,fun i b=>?_,?_,?_,?_,?_,⟨fun y C=>?_,fun y C=>?_,fun y C=>?_⟩,?_,?_⟩
 ·rw[Q];exact a0.pokeK (x:=bV) (.inl kV) U 1 _
 ·exact(r i (J i (.inl (.inl b)))).trans ((D i (.inl (.inl (.inl b)))).trans (h.stay i b))
 ·exact(h.boxR.same (D bR (.inl (.inl (.inr rfl))))).o M _ _
 ·rw[Q];exact j.set 1 _
 ·exact q0K E fun i b=>r i (J i (.inr b))
 ·rw[Q,z6h];exact q0K Y fun i b=>r i fun e=>j.apart Y (by decide) (b.trans (congrArg some e))
 ·rcases List.mem_append.1 C with h1|h1
  ·exact h.seen.st y h1
  ·rw[List.mem_singleton.1 h1];exact Z
 ·exact q0K (G y C).1 fun i b=>r i fun e=>j.apart (G y C).1 (by decide) (b.trans (congrArg some e))
 ·exact q0K (G y C).2 fun i b=>r i fun e=>j.apart (G y C).2 (by decide) (b.trans (congrArg some e))
 ·rw[Q];exact R
 ·rw[List.map_append];exact X
theorem y2m(h : SK wb w g gs rate sd c s u n bs K)(hn:n<=1000):
  Calls Tryz.prog 13 #[.pointer (some ⟨gs,0,none⟩)] w fun e w'=> ∃(aa:Option Addr) (ac:Nat) (so:Option Addr) (sc:Nat) (A:List Smm),e= .returned (.tuple #[.agg #[.slice aa (tos bs).length ac,.slice so A.length sc],.int .i64 0])/\
   SK wb w' g gs rate sd c s u n bs (fun i=>((K i\/(Value.slice aa (tos bs).length ac).ownBlock=some i)\/InA A i)\/(Value.slice so A.length sc).ownBlock=some i)/\Stay K w w'/\
   w'.ownsRow wb.heap.size 99 5 (.slice aa (tos bs).length ac) (tos bs).length (q1i (tos bs))/\w'.ownsRow wb.heap.size 43 4 (.slice so A.length sc) A.length (q5r A)/\SeenA w' wb.heap.size bs A/\A.map Smm.nm=q3n (tos bs):=by
 have R0:=h.few;have U0:=h.ok;have t1:Hd (∀t∈tos bs,q1I t.s=true/\1<=(q0c bs t.s).length):=η fun t ht=>z4j U0 ht
 have d0:=q0B w (.cells #[.slice none 0 0,.slice none 0 0] 25);have S:=Blk.new w 25 #[.slice none 0 0,.slice none 0 0];obtain⟨W1,A1⟩: ∃W1,w.alloc (.cells #[.slice none 0 0,.slice none 0 0] 25)=W1:=⟨_,rfl⟩
 rw[A1] at d0 S;obtain⟨bR,U⟩: ∃bR,w.heap.size=bR:=⟨_,rfl⟩
 rw[U] at S;have F1:=d0.size;have h1:=h.more (K':=fun i=>K i\/i=bR) d0 fun i b=>b.imp id fun e=>⟨by omega,by have:=S.lt;omega⟩
 have i1:Hd (∀i,K i->i≠bR):=η fun i b e=>by have:=h.klt i b;omega
 have o0:Hd (wb.heap.size<=bR):=η (by have:=h.base.size;omega);have I0:Hd (Stay K w W1):=η (h.kExt d0);have HA:=η (h1.all hn);have C0:=η S;have r:=η U;have C1:(tos bs).length<=8000:=by omega
 obtain⟨an,R⟩: ∃an,(tos bs).length=an:=⟨_,rfl⟩
 rw[R] at C1⊢;have i0:=η R;clear h h1 d0 S F1 U U0 R0 R;go_enter Tryz.func13,Tryz.ntmps13;go_wp2_with fail
 go_step3
 go_wp2_with fail;refine HA.o.mono ?_;rintro e w2 ⟨v,rfl,s1,s2,s3,s4⟩;rw[i0.o] at s3;obtain⟨aa,ac,rfl⟩:=q0E s3;have e0:=q0B w2 (.cells #[.slice aa an ac,.slice none 0 0] 25);have k0:=Blk.new w2 25 #[.slice aa an ac,.slice none 0 0];obtain⟨bV,X⟩: ∃bV,w2.heap.size=bV:=⟨_,rfl⟩
 rw[X] at k0;have V0:OfI wb w (w2.alloc (.cells #[.slice aa an ac,.slice none 0 0] 25)) g gs rate sd c s u n bs K aa an ac bR bV 0 [] none 0:=by
  refine⟨(s1.more (K':=fun i=>KKO K bR bV (.slice aa an ac) [] i\/(Value.slice none 0 0).ownBlock=some i) e0 fun i b=>?_),fun i b=>(e0.block i (s1.klt i (.inl (.inl b)))).trans ((s2 i (.inl b)).trans (I0.o i b)),(C0.o.same (s2 bR (.inr rfl))).ext e0,k0,q0F s3 e0,⟨rfl,.inl ⟨rfl,rfl⟩⟩,⟨(fun x D=>by cases D),(fun x D=>by cases D),(fun x D=>by cases D)⟩,(fun i b e=>by cases e),by rw[List.take_zero];rfl⟩;rcases b with((b|b|b)|⟨x,D,_⟩)|b
  ·exact .inl (.inl b)
  ·exact .inl (.inr b)
  ·exact .inr ⟨by omega,by have:=k0.lt;omega⟩
  ·cases D
  ·cases b
 have L0:Hd (bR≠bV):=η fun e=>by have:=s1.klt bR (.inl (.inr rfl));omega
 have E0:Hd (wb.heap.size<=bV):=η (by have:=s1.base.size;omega);have j1:Hd (∀i,((K i\/i=bR)\/(Value.slice aa an ac).ownBlock=some i)->i≠bV):=η fun i b e=>by have:=s1.klt i b;omega
 have q0:=η V0;have q:=η X;clear s1 s2 s3 s4 e0 k0 X V0 HA C0 I0;go_wp2_with fail
 go_step3
 go_wp2_with fail
 go_loopw [26] (fun i W=> ∃(k:Nat) (A:List Smm) (so:Option Addr) (sc:Nat),i= .int .i64 (k:Int)/\k<=an/\Hd (OfI wb w W g gs rate sd c s u n bs K aa an ac bR bV k A so sc)) (fun i _=>an-(intOf i).toNat)
 case atStart=>exact⟨0,[],none,0,rfl,υ _,q0⟩
 case round =>
  clear q0;obtain⟨k,A,so,sc,rfl,hk,HO⟩:=hrel;by_cases S0:k<an
  ·have hd : decide ((k:Int)<(an:Int))=true:=ζ (by omega)
   have O1:(k:Int)<(an:Int):=by omega
   have q1:IntKind.i64.wrap ((k:Int)+1)=(k:Int)+1:=by rw[ν];omega
   have l:=HO.o;have l0:k<(tos bs).length:=by rw[i0.o];exact S0
   have hT:=(q1J (n:=an) (L:=tos bs) (by rw[i0.o];exact l.all)).1;have s0:=q5N (A:=tos bs) (i:=k) (d:=to0) l0;obtain⟨I,J⟩:=t1.o _ s0;have X0:(tos bs).take (k+1)=(tos bs).take k++[(tos bs).getD k to0]:=by
    rw[List.take_succ_eq_append_getElem l0,δ,γ l0];rfl
   have C:q3n ((tos bs).take (k+1))=if ((tos bs).getD k to0).s∈A.map Smm.nm then A.map Smm.nm else A.map Smm.nm++[((tos bs).getD k to0).s]:=by rw[X0,q7V,<-l.names]
   have L1:A.length<=k:=by
    rw[<-List.length_map (f:=Smm.nm),l.names];exact Ω (z4R _) (List.length_take_le _ _)
   obtain⟨ab,af,rfl,c0,c1,c2,c3,c4⟩:=hT.at S0;obtain⟨t,W0⟩: ∃t,(tos bs).getD k to0=t:=⟨_,rfl⟩
   rw[W0] at c0 c1 c2 c3 c4 I J C;obtain⟨ts,tv,⟨ty,da,we⟩⟩:=t;simp only at c0 c1 c2 c3 c4 I J C;have B0:=q0B wr (.cells #[.string ⟨ts.toArray⟩,.int .i64 tv,.string ⟨ty.toArray⟩,.string ⟨da.toArray⟩,.float .f64 we] 99);have j0:=Blk.new wr 99 #[.string ⟨ts.toArray⟩,.int .i64 tv,.string ⟨ty.toArray⟩,.string ⟨da.toArray⟩,.float .f64 we];obtain⟨WT,B1⟩: ∃WT,wr.alloc (.cells #[.string ⟨ts.toArray⟩,.int .i64 tv,.string ⟨ty.toArray⟩,.string ⟨da.toArray⟩,.float .f64 we] 99)=WT:=⟨_,rfl⟩
   rw[B1] at B0 j0;obtain⟨bT,V⟩: ∃bT,wr.heap.size=bT:=⟨_,rfl⟩
   rw[V] at j0;have N:=l.grow B0;have g1:=q0M q.o (N.boxV.cell 1);have p0:=η V;have D0:=η j0;have v0:=η N;have G0:=η C;have J0:=η I;have K0:=η J;have y0:=η (N.seen.sms N.row);have M1:=y0.o.bound;have N1:=y0.o.fits;have Q1:=q1o;clear l hT s0 X0 W0 B0 j0 V N I J C l0 HO;go_wp2_with fail
   go_loopw [33] (fun j W=> ∃m:Nat,j= .int .i64 (m:Int)/\m<=A.length/\Ext WT W/\Hd (∀y∈A.take m,y.nm≠ts)) (fun j _=>A.length-(intOf j).toNat)
   case atStart=>exact⟨0,rfl,υ _,Ext.refl _,η (fun y hy=>by cases hy)⟩
   case round =>
    obtain⟨m,rfl,hm,D,HN⟩:=hrel;have HX:=η D;clear g1 c0 c1 c2 c3 c4;by_cases m0:m<A.length
    ·have D1:decide ((m:Int)<(A.length:Int))=true:=ζ (by omega)
     have P1:(m:Int)<(A.length:Int):=by omega
     have q2:IntKind.i64.wrap ((m:Int)+1)=(m:Int)+1:=by rw[ν];omega
     obtain⟨sb,sf,rfl,x0,x1,x2,x3,_,_⟩:=(y0.o.ext D).at m0;have A0:A.take (m+1)=A.take m++[A.getD m sm0]:=by
      rw[List.take_succ_eq_append_getElem m0,δ,γ m0];rfl
     have z0:=q5N (A:=A) (i:=m) (d:=sm0) m0;obtain⟨y,Z0⟩: ∃y,A.getD m sm0=y:=⟨_,rfl⟩
     rw[Z0] at x0 x1 x2 x3 A0 z0;obtain⟨nm,la,fa,fn,fc,F,ba,bn,bc,B⟩:=y;simp only at x0 x1 x2 x3;have Y:=(D0.o.ext D).ext (q0B wr (.cells #[.string ⟨nm.toArray⟩,.int .i64 la,.slice fa fn fc,.slice ba bn bc] 43));have t0:=q0M p0.o (Y.cell 0);have v1:=η A0;have l1:=η z0;have N0:=η (D.trans (q0B wr (.cells #[.string ⟨nm.toArray⟩,.int .i64 la,.slice fa fn fc,.slice ba bn bc] 43)));clear D A0 z0 Z0 Y;by_cases he:nm=ts
     ·subst he
      have e1:(nm==nm)=true:=beq_self_eq_true nm;go_wp2_with fail
      go_roundw
      case measure=>simp[intOf];omega
      case rel=>
       have E1:nm∈A.map Smm.nm:=List.mem_map.2 ⟨_,l1.o,rfl⟩;exact⟨k+1,A,some ⟨sb,sf,none⟩,sc,by go_num,by omega,η ((v0.o.grow N0.o).next (by rw[G0.o,ξ E1]))⟩
     ·have e1:(nm==ts)=false:=beq_eq_false_iff_ne.2 he
      have m1:=η he;clear he;go_wp2_with fail
      go_roundw
      case measure=>simp[intOf];omega
      case rel=>
       exact⟨m+1,by go_num,by omega,N0.o,η fun y hy=>by
        rw[v1.o] at hy;rcases List.mem_append.1 hy with hy|hy
        ·exact HN.o y hy
        ·rw[List.mem_singleton.1 hy];exact m1.o⟩
    ·have e:A.length=m:=by omega
     subst e;have D1:decide ((A.length:Int)<(A.length:Int))=false:=ε (by omega);have T0:ts∉A.map Smm.nm:=fun h=>by
      obtain⟨y,h1,h2⟩:=List.mem_map.1 h;exact HN.o y (by rw[Δ (ι _)];exact h1) h2
     have C:=G0.o;rw[κ T0] at C;have H0:=η C;have l:=v0.o.grow D;have HO:=η l;have Y:=D0.o.ext D;have t0:=q0M p0.o (Y.cell 0);obtain⟨len,Z⟩: ∃len,(q0c bs ts).length=len:=⟨_,rfl⟩
     have F0:=η (y1I l.sk hn J0.o Z (by have:=K0.o;omega));have G:=η Z;clear T0 C l Y D Z v0 HX;go_wp2_with fail;refine F0.o.mono ?_;rintro e w7 ⟨fa,fc,ba,bc,rfl,s1,s2,s3,s4,s5,s6⟩;obtain⟨W8,O0⟩: ∃W8,w7.alloc (.cells #[.string ⟨ts.toArray⟩,.int .i64 ((len:Int)-1),.slice fa len fc,.slice ba len bc] 43)=W8:=⟨_,rfl⟩
     have M:=Blk.new w7 43 #[.string ⟨ts.toArray⟩,.int .i64 ((len:Int)-1),.slice fa len fc,.slice ba len bc];have h0:=q0B w7 (.cells #[.string ⟨ts.toArray⟩,.int .i64 ((len:Int)-1),.slice fa len fc,.slice ba len bc] 43);rw[O0] at M h0;have Q:=(HO.o.boxV.same (s2 bV (.inl (.inl (.inr (.inr rfl)))))).ext h0;have g0:=q0M q.o (Q.cell 0);have g1:=q0M q.o (Q.cell 1);have o1:=η (show Rd (W8.alloc (.cells #[.string ⟨ts.toArray⟩,.int .i64 ((len:Int)-1),.slice fa len fc,.slice ba len bc] 43)) (some ⟨W8.heap.size,0,none⟩) (smc ⟨ts,(len:Int)-1,fa,len,fc,q3U bs ts,ba,len,bc,(q3U bs ts).reverse⟩) from Rd.lit W8 #[.string ⟨ts.toArray⟩,.int .i64 ((len:Int)-1),.slice fa len fc,.slice ba len bc] 43);have u0:=q0F (q0K HO.o.row fun i b=>s2 i (.inr b)) h0;have p1:=η (q0F u0 (q0B W8 (.cells #[.string ⟨ts.toArray⟩,.int .i64 ((len:Int)-1),.slice fa len fc,.slice ba len bc] 43)));have u1:Hd (wb.heap.size<=(W8.alloc (.cells #[.string ⟨ts.toArray⟩,.int .i64 ((len:Int)-1),.slice fa len fc,.slice ba len bc] 43)).heap.size):=η (by have:=s1.base.size;have:=h0.size;rw[ρ];omega);have H1:=η s1;have H2:=η s2;have H3:=η s3;have H4:=η s4;have H5:=η s5;have H6:=η s6;have M0:=η O0;have w1:=η Q;have k1:=η (Q.ext (q0B W8 (.cells #[.string ⟨ts.toArray⟩,.int .i64 ((len:Int)-1),.slice fa len fc,.slice ba len bc] 43))).lt;clear s1 s2 s3 s4 s5 s6 h0 Q u0 F0;have b0:=M.cell 0;have b1:=M.cell 1;have b2:=M.cell 2;have b3:=M.cell 3;clear M
     go_wp2_with (at_builtin;refine q0G rfl _ _ 23 rfl wb.heap.size 43 _ 4 72 Tryz.underlying23 Tryz.infoSm (by decide) (by decide) _ A.length (q5r A) rfl p1.o _ 1 1 (smc ⟨ts,(len:Int)-1,fa,len,fc,q3U bs ts,ba,len,bc,(q3U bs ts).reverse⟩) rfl rfl (fun h=>by cases h) o1.o (by unfold smc;simp[Value.oneCell']) (by unfold maxLen;omega) (by omega) u1.o ?_;intro v2 J1 a0 E Q0;obtain⟨I1,G1,rfl⟩:=q0E a0;have O:=(w1.o.ext (q0B W8 _)).same (E.block bV k1.o fun e=>HO.o.apart bV (.inl (.inr (.inr rfl))) e.symm);have y1:=q0M q.o (O.cell 1);have z1:J1.frozen? ⟨w2.heap.size,1,none⟩=false:=(by rw[q.o];exact O.free 1);have n1:=η a0;have d1:=η E;have a1:=η Q0;clear a0 E Q0 O)
     go_roundw
     case measure=>simp[intOf];omega
     case rel=>
      rw[q.o];have Y0:(q3U bs ts).length=len:=by rw[q1m,G.o]
      have P0:=HO.o.add (x:=⟨ts,(len:Int)-1,fa,len,fc,q3U bs ts,ba,len,bc,(q3U bs ts).reverse⟩) H1.o H2.o (by rw[Y0];exact H3.o) (by rw[List.length_reverse,Y0];exact H4.o) H5.o H6.o ⟨J0.o,K0.o,by rw[G.o],G.o.symm,G.o.symm,rfl,rfl⟩ n1.o (by rw[M0.o];exact d1.o) (by rw[M0.o];exact a1.o) E0.o L0.o j1.o H0.o.symm;exact⟨k+1,A++[⟨ts,(len:Int)-1,fa,len,fc,q3U bs ts,ba,len,bc,(q3U bs ts).reverse⟩],I1,G1,by go_num,by omega,η P0⟩
  ·have e:an=k:=by omega
   subst e;have hd:decide ((an:Int)<(an:Int))=false:=ε (by omega);have l:=HO.o;have g0:=q0M q.o (l.boxV.cell 0);have g1:=q0M q.o (l.boxV.cell 1);have r0:=q0M r.o (l.boxR.cell 0);have r1:=q0M r.o (l.boxR.cell 1);have f0:wr.frozen? ⟨w.heap.size,0,none⟩=false:=by rw[r.o];exact l.boxR.free 0
   have f1:wr.frozen? ⟨w.heap.size,1,none⟩=false:=by rw[r.o];exact l.boxR.free 1
   clear l;go_wp2_with fail;have HI:=η (show A.map Smm.nm=q3n (tos bs) by rw[HO.o.names,Δ (by rw[i0.o];exact ι _)]);rw[Exit.noGoto_ret]
   ((try simp only[Exit.inBlock,Exit.then]);refine bodyPost_ret (v:= .tuple #[.agg #[.slice aa an ac,.slice so A.length sc],.int .i64 0]) (by rw[q0X rfl];go_simp) rfl ?_)
   rw[r.o];have l:=HO.o;have K1: ∀i,KKO K bR bV (.slice aa an ac) A i->i≠bR->((wr.setCell ⟨bR,0,none⟩ (.slice aa an ac)).setCell ⟨bR,1,none⟩ (.slice so A.length sc)).heap[i]? =wr.heap[i]? :=fun i _ b=>by
    rw[Below.heap_setCell _ _ _ _ b,Below.heap_setCell _ _ _ _ b]
   have n0: ∀i,i≠bR->((wr.setCell ⟨bR,0,none⟩ (.slice aa an ac)).setCell ⟨bR,1,none⟩ (.slice so A.length sc)).heap[i]? =wr.heap[i]? :=fun i b=>by
    rw[Below.heap_setCell _ _ _ _ b,Below.heap_setCell _ _ _ _ b]
   have kR:KKO K bR bV (.slice aa an ac) A bR\/(Value.slice so A.length sc).ownBlock=some bR:= .inl (.inl (.inl (.inr rfl)));have hk:=(l.sk.pokeK (x:=bR) kR o0.o 0 (.slice aa an ac)).pokeK (x:=bR) kR o0.o 1 (.slice so A.length sc);refine⟨aa,ac,so,sc,A,rfl,hk.beside fun i b=>?_,fun i b=>(n0 i (i1.o i b)).trans (l.stay i b),q0K l.all fun i b=>n0 i fun e=>l.boxR.apart l.all (by decide) (b.trans (congrArg some e)),q0K l.row fun i b=>n0 i fun e=>l.boxR.apart l.row (by decide) (b.trans (congrArg some e)),l.seen.same fun i b=>n0 i fun e=>?_,HI.o⟩
   ·rcases b with((b|b)|b)|b
    ·exact .inl (.inl (.inl (.inl b)))
    ·exact .inl (.inl (.inr (.inl b)))
    ·exact .inl (.inr b)
    ·exact .inr b
   ·obtain⟨y,h1,h2⟩:=b
    rcases h2 with h2|h2
    ·exact l.boxR.apart (l.seen.fo y h1) (by decide) (h2.trans (congrArg some e))
    ·exact l.boxR.apart (l.seen.bk y h1) (by decide) (h2.trans (congrArg some e))
end
end
end Go.Proofs.YtjlcdfpbllobaaaGreatDoor
