/- Plain laws. -/
import Derived.Test.YtjlcdfpbllobaaaGreatDoorG31CL
set_option linter.unusedVariables false
set_option linter.unusedSimpArgs false
set_option maxRecDepth 100000
set_option maxHeartbeats 12800000
namespace Go.Proofs.YtjlcdfpbllobaaaGreatDoor
variable {x:En}{k n cap:Nat}{t:To}{f:Int}{ao:Option Addr}
section
open Go.RowKit
abbrev Pbs :=List (Nat×Bt)
def z7T(P:Pbs):List (Nat×List UInt8):=P.map fun x=>(x.1,btB x.2)
def q5G(sd:Int)(P:Pbs):List En:=(P.map fun x=>q0t sd x.1 x.2 x.2.ev.length).flatten
def q2P(P:Pbs):List Bt:=P.map Prod.snd
def q2e(P:Pbs)(s:List UInt8)(x:En):Option To:=
 match P.find? (fun y=>decide ((y.1:Int)=x.2.2)) with
 |none=>none
 |some y=>if y.2.st=s/\(y.2.fi:Int)<=x.2.1/\x.2.1<(y.2.fi:Int)+(y.2.ev.length:Int) then some ⟨s,x.2.1,y.2.ev.getD (x.2.1-(y.2.fi:Int)).toNat ev0⟩ else none
structure StI(sd:Int)(B:List En)(P:Pbs):Prop where
 ok:okBs (q2P P)
 pos:P.Pairwise fun a b=>a.1<b.1
 ents: ∀x,x∈B↔x∈q5G sd P
theorem z3G(sd:Int): ∀{P:Pbs},(∀y∈P,z5g y.2)->z3b sd (z7T P)=some (q5G sd P)
 |[],_=>rfl
 | y::P,h=>by
  have b:=z3G sd (P:=P) fun z i=>h z (.tail _ i)
  have d:=z8c y.2 (h y (.head _));unfold z7T at b⊢;rw[List.map_cons,z3b,d,Option.bind_some,b]
  rfl
theorem mem_entsP{sd:Int}{P:Pbs}:x∈q5G sd P↔ ∃y∈P,∃k,k<y.2.ev.length/\x=q3J sd y.1 y.2 k:=by
 unfold q5G;rw[List.mem_flatten]
 constructor
 ·rintro⟨l,j,i⟩
  obtain⟨y,d,rfl⟩:=List.mem_map.1 j;unfold q0t at i;obtain⟨k,b,rfl⟩:=List.mem_map.1 i;exact⟨y,d,k,List.mem_range.1 b,rfl⟩
 ·rintro⟨y,d,k,b,rfl⟩
  exact⟨_,List.mem_map.2 ⟨y,d,rfl⟩,by unfold q0t;exact List.mem_map.2 ⟨k,List.mem_range.2 b,rfl⟩⟩
theorem z5J : ∀{P:Pbs},P.Pairwise (fun a b=>a.1<b.1)-> ∀{y:Nat×Bt},y∈P->P.find? (fun z=>decide ((z.1:Int)=(y.1:Int)))=some y
 |[],_,y,h=>by cases h
 | z ::P,hp,y,h=>by
  obtain⟨d,i⟩:=List.pairwise_cons.1 hp;rcases List.mem_cons.1 h with rfl|h
  ·rw[List.find?_cons_of_pos (by simp)]
  ·rw[List.find?_cons_of_neg (by have:=d y h;simp;omega)]
   exact z5J i h
section
variable {sd :Int}{B:List En}{P:Pbs}
theorem q6n(h:P.Pairwise fun a b=>a.1<b.1){y:Nat×Bt}(i:y∈P)(j:k<y.2.ev.length)(s:List UInt8):q2e P s (q3J sd y.1 y.2 k)=if y.2.st=s then some ⟨s,((y.2.fi+k:Nat):Int),y.2.ev.getD k ev0⟩ else none:=by
 unfold q2e q3J;simp only;rw[z5J h i];simp only;by_cases d:y.2.st=s
 ·rw[ξ d,ξ ⟨d,by omega,by omega⟩,show((y.2.fi:Int)+(k:Int)-(y.2.fi:Int)).toNat=k by omega]
  congr 1
 ·rw[κ d,κ fun h=>d h.1]
theorem StI.found(h:StI sd B P){s:List UInt8}(r:x∈B):q2e P s x=some t↔ ∃y∈P,∃k,k<y.2.ev.length/\x=q3J sd y.1 y.2 k/\y.2.st=s/\t=⟨s,((y.2.fi+k:Nat):Int),y.2.ev.getD k ev0⟩:=by
 obtain⟨y,l,k,d,rfl⟩:=mem_entsP.1 ((h.ents x).1 r);rw[q6n h.pos l d]
 constructor
 ·intro b
  split at b
  ·rename_i i
   injection b with b;exact⟨y,l,k,d,rfl,i,b.symm⟩
  ·cases b
 ·rintro⟨z,D,j,q,he,i,rfl⟩
  have o:=q6n (sd:=sd) h.pos l d s;have m:=q6n (sd:=sd) h.pos D q s;rw[<-he,o,ξ i] at m;exact m
theorem StI.mem_str(h:StI sd B P){s:List UInt8}:t∈q5U (q2P P) s↔ ∃y∈P,∃k,k<y.2.ev.length/\y.2.st=s/\t=⟨s,((y.2.fi+k:Nat):Int),y.2.ev.getD k ev0⟩:=by
 rw[<-q9W h.ok,List.mem_filter,y3T]
 constructor
 ·rintro⟨⟨b,l,k,i,rfl⟩,d⟩
  obtain⟨y,j,rfl⟩:=List.mem_map.1 l;simp only[Φ] at d;exact⟨y,j,k,i,d,by rw[d]⟩
 ·rintro⟨y,j,k,i,d,rfl⟩
  exact⟨⟨y.2,List.mem_map.2 ⟨y,j,rfl⟩,k,i,by rw[d]⟩,by simp⟩
theorem StI.between(h:StI sd B P)(hB:q1E B)(s:List UInt8)(a b:Int):(q1D B (q2x sd s) a b).filterMap (q2e P s)=(q5U (q2P P) s).filter fun t=>decide (a<=t.v/\t.v<=b):=by
 refine y5N ?_ ((z9D _ _ _).filter _) fun t=>?_
 ·rw [List.pairwise_filterMap]
  refine List.Pairwise.imp_of_mem ?_ (q5c hB (q2x sd s) a b);intro x y N O d t Z u hu;obtain⟨G,a0,I,J⟩:=mem_range.1 N;obtain⟨b0,c0,d0,e0⟩:=mem_range.1 O;obtain⟨p,hp,i,hi,rfl,Q,rfl⟩:=(h.found G).1 Z;obtain⟨q,hq,j,hj,rfl,R,rfl⟩:=(h.found b0).1 hu;rw[lessE_iff] at d;unfold q3J at d;simp only at d⊢;rw[Q,R] at d;rcases d with d|⟨_,d|⟨he,X⟩⟩
  ·omega
  ·omega
  ·exfalso
   obtain⟨l,r,hl⟩:=List.append_of_mem hp;have o:=h.ok;have D:=h.pos;rw[hl] at o D hq;rcases List.mem_append.1 hq with hq|hq
   ·have:=(List.pairwise_append.1 D).2.2 q hq p (.head _)
    omega
   ·rcases List.mem_cons.1 hq with hq|hq
    ·rw[hq] at X;omega
    ·obtain⟨m,r2,hm⟩:=List.append_of_mem hq
     rw[hm] at o;unfold q2P at o;rw[List.map_append,List.map_cons,List.map_append,List.map_cons] at o;have:=okBs.apart (l:=l.map Prod.snd) (b:=p.2) (m:=m.map Prod.snd) (c:=q.2) (r:=r2.map Prod.snd) (by rw[List.append_assoc,List.cons_append];exact o) (by rw[Q,R]);omega
 ·rw [List.mem_filterMap,List.mem_filter,h.mem_str,Φ]
  constructor
  ·rintro⟨x,N,Z⟩
   obtain⟨G,a0,I,J⟩:=mem_range.1 N;obtain⟨y,O,k,S,rfl,U,rfl⟩:=(h.found G).1 Z;unfold q3J at I J;simp only at I J⊢;exact⟨⟨y,O,k,S,U,rfl⟩,by omega,by omega⟩
  ·rintro⟨⟨y,O,k,S,U,rfl⟩,h1,h2⟩
   simp only at h1 h2;have N:q3J sd y.1 y.2 k∈B:=(h.ents _).2 (mem_entsP.2 ⟨y,O,k,S,rfl⟩);refine⟨q3J sd y.1 y.2 k,mem_range.2 ⟨N,?_,?_,?_⟩,(h.found N).2 ⟨y,O,k,S,rfl,U,rfl⟩⟩
   ·unfold q3J;simp only;rw[U]
   ·unfold q3J;simp only;omega
   ·unfold q3J;simp only;omega
theorem q2D(bs:List Bt)(s:List UInt8):(q5U bs s).length=(q0c bs s).length:=q2C _ _ _
theorem StI.has(h:StI sd B P){s:List UInt8}{v:Nat}(j:v<(q0c (q2P P) s).length): ∃x∈B,x.1=q2x sd s/\x.2.1=(v:Int):=by
 have i:(⟨s,((0+v:Nat):Int),(q0c (q2P P) s).getD v ev0⟩:To)∈q5U (q2P P) s:=numT_mem.2 ⟨v,j,rfl⟩;obtain⟨y,l,k,b,d,he⟩:=h.mem_str.1 i;injection he with _ he _;refine⟨q3J sd y.1 y.2 k,(h.ents _).2 (mem_entsP.2 ⟨y,l,k,b,rfl⟩),?_,?_⟩
 ·unfold q3J;simp only;rw[d]
 ·unfold q3J;simp only;omega
theorem StI.last(h:StI sd B P)(D:okM B){s:List UInt8}{u r:Int}(S:((q0c (q2P P) s).length:Int)-1<=u)(i:z4k B (q2x sd s) u r):
  ((q0c (q2P P) s).length:Int)-1<=r/\ -1<=r/\(r<0->q0c (q2P P) s=[])/\(0<=r->(q5U (q2P P) s).filter (fun t=>decide (r<=t.v/\t.v<=r))=[]->((q0c (q2P P) s).length:Int)-1<=r-1)/\
   ((q5U (q2P P) s).filter (fun t=>decide (r<=t.v/\t.v<=r))≠[]->((q0c (q2P P) s).length:Int)-1=r):=by
 have l: -1<=r:=by
  rcases i.2 with e|⟨y,O,_,_,e⟩
  ·omega
  ·have:=okEn_iff.1 (D.ok y O);omega
 have m:((q0c (q2P P) s).length:Int)-1<=r:=by
  rcases Nat.eq_zero_or_pos (q0c (q2P P) s).length with e|e
  ·omega
  ·obtain⟨x,N,j,Q⟩:=h.has (s:=s) (v:=(q0c (q2P P) s).length-1) (by omega)
   have:=i.1 x N j (by omega);omega
 refine⟨m,l,fun J=>?_,fun J he=>?_,fun b=>?_⟩
 ·exact List.length_eq_zero_iff.1 (by omega)
 ·rcases Int.lt_or_le (((q0c (q2P P) s).length:Int)-1) r with I|G
  ·omega
  ·exfalso
   have d:(⟨s,((0+r.toNat:Nat):Int),(q0c (q2P P) s).getD r.toNat ev0⟩:To)∈q5U (q2P P) s:=numT_mem.2 ⟨r.toNat,by omega,rfl⟩;have:=(List.mem_filter (p:=fun t:To=>decide (r<=t.v/\t.v<=r))).2 ⟨d,by simp;omega⟩;rw[he] at this
   cases this
 ·obtain⟨t,d⟩:=List.exists_mem_of_ne_nil _ b
  obtain⟨o,q⟩:=List.mem_filter.1 d;obtain⟨k,R,rfl⟩:=numT_mem.1 o;simp only[Φ] at q;omega
end
theorem z6c(sd:Int)(P:Pbs)(p:Nat)(b:Bt):q5G sd (P++[(p,b)])=q5G sd P++q0t sd p b b.ev.length:=by
 unfold q5G;rw[List.map_append,List.flatten_append];simp
theorem q6V(P:Pbs)(p:Nat)(b:Bt):q2P (P++[(p,b)])=q2P P++[b]:=by unfold q2P;rw[List.map_append];rfl
theorem mem_addEs{x:En}: ∀{es L:List En},x∈q1g es L↔x∈es\/x∈L
 |[],L=>by unfold q1g;simp
 | e ::es,L=>by
  have h:=mem_addEs (x:=x) (es:=es) (L:=q4L e L);unfold q1g at*;rw[List.foldl_cons,h,mem_addE,List.mem_cons]
  constructor
  ·rintro(h|h|h)
   ·exact .inl (.inr h)
   ·exact .inl (.inl h)
   ·exact .inr h
  ·rintro((h|h)|h)
   ·exact .inr (.inl h)
   ·exact .inl h
   ·exact .inr (.inr h)
theorem StI.snoc{sd:Int}{B:List En}{P:Pbs}(h:StI sd B P){p:Nat}{b:Bt}(i:z5g b)(j:b.fi=(q0c (q2P P) b.st).length)(l: ∀y∈P,y.1<p):StI sd (q1g (q0t sd p b b.ev.length) B) (P++[(p,b)]):=by
 refine⟨by rw[q6V];exact okBs_snoc.2 ⟨h.ok,i,j⟩,?_,fun x=>?_⟩
 ·rw[List.pairwise_append]
  exact⟨h.pos,List.pairwise_singleton _ _,fun a d c hc=>by obtain rfl:=List.mem_singleton.1 hc;exact l a d⟩
 ·rw[mem_addEs,z6c,List.mem_append,h.ents]
  exact Or.comm
theorem q7d(sd:Int)(P:Pbs):(q5G sd P).length=(tos (q2P P)).length:=by
 unfold q5G tos q2P;rw[List.length_flatten,List.length_flatten,List.map_map,List.map_map,List.map_map]
 congr 1
 refine List.map_congr_left fun x _=>?_
 simp only[Function.comp];rw[q4a,q4n]
theorem StI.len{sd:Int}{B:List En}{P:Pbs}(h:StI sd B P)(i:q1E B):B.length<=(tos (q2P P)).length:=by
 rw[<-q7d sd];have j:B.Nodup:=i.imp fun {a b} d e=>by rw[e,q0i] at d;cases d
 exact nodup_leB j fun x l=>(h.ents x).1 l
where nodup_leB {α:Type} [DecidableEq α]: ∀{l m:List α},l.Nodup->(∀x∈l,x∈m)->l.length<=m.length
 |[],_,_,_=>υ _
 | x::l,m,h,hm=>by
  obtain⟨h1,h2⟩:=List.nodup_cons.1 h;have hx:=hm x (.head _);have h3:=nodup_leB (m:=m.erase x) h2 fun y hy=>(List.mem_erase_of_ne (fun e:y=x=>h1 (by rw[<-e];exact hy))).2 (hm y (.tail _ hy))
  rw[List.length_erase_of_mem hx] at h3;have:=List.length_pos_of_mem hx;rw[χ];omega
def z0Y(L:List To)(from_ count:Int):List To:=(L.drop from_.toNat).take count.toNat
def z0X(L:List To)(from_ count:Int):List To:=(L.drop (from_-count+1).toNat).take ((from_+1).toNat-(from_-count+1).toNat)
theorem y3b(bs:List Bt)(s:List UInt8){c:Int}(b:0<=f)(hc:1<=c)(d:(q0c bs s).length<=1073741824):(q5U bs s).filter (fun t=>decide (max f 0<=t.v/\t.v<=min (f+min c 1073741824-1) 1073741824))=z0Y (q5U bs s) f c:=by
 unfold q5U z0Y;rw[q7S,show(max f 0-((0:Nat):Int)).toNat=f.toNat by omega];rcases Int.lt_or_le (f+c-1) 1073741824 with h|h
 ·rw[show(min (f+min c 1073741824-1) 1073741824+1-((0:Nat):Int)).toNat-f.toNat=c.toNat by omega]
 ·rw[Δ,Δ]
  ·rw[List.length_drop,q2C];omega
  ·rw[List.length_drop,q2C];omega
theorem z9N(bs:List Bt)(s:List UInt8){c:Int}(b:0<=f)(hc:1<=c)(d:(q0c bs s).length<=1073741824):(q5U bs s).filter (fun t=>decide (max (f-c+1) 0<=t.v/\t.v<=min f 1073741824))=z0X (q5U bs s) f c:=by
 unfold q5U z0X;rw[q7S,show(max (f-c+1) 0-((0:Nat):Int)).toNat=(f-c+1).toNat by omega];rcases Int.le_total f 1073741824 with h|h
 ·rw[show(min f 1073741824+1-((0:Nat):Int)).toNat=(f+1).toNat by omega]
 ·rw[Δ,Δ]
  ·rw[List.length_drop,q2C];omega
  ·rw[List.length_drop,q2C];omega
theorem z9M{L:List To}{c:Int}(h:(L.length:Int)<=f):z0Y L f c=[]:=by
 unfold z0Y;rw[List.drop_eq_nil_of_le (by omega),List.take_nil]
def CksIn(φ:Fls)(C:Cks):Prop:= ∀k:Nat,k<=999999->φ (q0C 99 (k:Int))=(C[k]?).map (q0Y k)
def z2C(φ:Fls)(m:Man):Prop:=(φ mapN=some m.S/\0<m.nx)\/(φ mapN=none/\m.nx=0/\m.ck=0/\m.L=[])
def y5D(nm:List UInt8):Prop:= ∀k:Nat,k<=999999->nm≠q0C 99 (k:Int)
theorem z9H : ∀{a b:List (List UInt8×List UInt8)},q3Z Prod.fst a->q3Z Prod.fst b->(∀z,z∈a↔z∈b)->a=b
 |[],[],_,_,_=>rfl
 |[],y::b,_,_,h=>absurd ((h y).2 (.head _)) (by simp)
 |x::a,[],_,_,h=>absurd ((h x).1 (.head _)) (by simp)
 | x ::a,y::b,ha,hb,h=>by
  obtain⟨l,o⟩:=List.pairwise_cons.1 ha;obtain⟨m,q⟩:=List.pairwise_cons.1 hb;have j:x=y:=by
   rcases List.mem_cons.1 ((h x).1 (.head _)) with e|r
   ·exact e
   rcases List.mem_cons.1 ((h y).2 (.head _)) with e|D
   ·exact e.symm
   have:=WideShapes.bytes_trans _ _ _ (l y D) (m x r);rw[WideAt.bytes_irrefl] at this;cases this
  subst j;rw[z9H o q fun z=>?_]
  constructor
  ·intro i
   rcases List.mem_cons.1 ((h z).1 (.tail _ i)) with e|d
   ·have:=l z i;rw[e,WideAt.bytes_irrefl] at this;cases this
   ·exact d
  ·intro i
   rcases List.mem_cons.1 ((h z).2 (.tail _ i)) with e|d
   ·have:=m z i;rw[e,WideAt.bytes_irrefl] at this;cases this
   ·exact d
theorem z5d{l:List (List UInt8×List UInt8)}(h:q3Z Prod.fst l)(z:List UInt8×List UInt8):z∈l↔(q0G Prod.fst z.1 l).map Prod.snd=some z.2:=by
 constructor
 ·intro b;rw[q4b h b rfl];rfl
 ·intro b
  cases hf:q0G Prod.fst z.1 l with
  |none=>rw[hf] at b;cases b
  | some y=>
   rw[hf] at b;injection b with b;obtain⟨d,i⟩:=q0L hf;have:y=z:=Prod.ext i b
   rwa [this] at d
theorem y1a{a b:List (List UInt8×List UInt8)}(d:q3Z Prod.fst a)(i:q3Z Prod.fst b)(h: ∀nm,(q0G Prod.fst nm a).map Prod.snd=(q0G Prod.fst nm b).map Prod.snd):a=b:=
 z9H d i fun z=>by rw[z5d d,z5d i,h]
theorem z1Z{d:Type}{r:d->d->Prop}{p:d->Bool}(j: ∀x y,r x y->p y=true->p x=true): ∀{l:List d},l.Pairwise r->l=l.filter p++l.filter (fun y=>!p y)
 |[],_=>rfl
 | x :: l,h=>by
  obtain⟨m,o⟩:=List.pairwise_cons.1 h
  cases hx:p x with
  | true=>
   rw[List.filter_cons_of_pos hx,List.filter_cons_of_neg (by simp[hx]),List.cons_append,<-z1Z j o]
  | false=>
   have i: ∀y∈l,p y=false:=fun y b=>by
    cases hy2:p y with
    |false=>rfl
    |true=>rw[j x y (m y b) hy2] at hx;cases hx
   rw [List.filter_cons_of_neg (by simp[hx]),List.filter_cons_of_pos (by simp[hx]),List.filter_eq_nil_iff.2 fun y b=>by simp[i y b],List.nil_append,
    List.filter_eq_self.2 fun y b=>by simp[i y b]]
theorem q8I{i:Type}[DecidableEq i]: ∀{l m:List i},l.Nodup->(∀x∈l,x∈m)->l.length<=m.length
 |[],_,_,_=>υ _
 | x::l,m,h,hm=>by
  obtain⟨j,o⟩:=List.nodup_cons.1 h;have b:=hm x (.head _);have q:=q8I (m:=m.erase x) o fun y d=>(List.mem_erase_of_ne (fun e:y=x=>j (by rw[<-e];exact d))).2 (hm y (.tail _ d))
  rw[List.length_erase_of_mem b] at q;have:=List.length_pos_of_mem b;rw[χ];omega
theorem q6U(d:k<=999999):bytesBefore [99] (q0C 99 (k:Int))=true/\bytesBefore (q0C 99 (k:Int)) [100]=true/\bytesBefore (q0C 99 (k:Int)) [99]=false:=by
 rw[q0X (by omega)];have b:=q0n 6 ((k:Int)).toNat
 cases hd:q5u 6 ((k:Int)).toNat with
 |nil=>rw[hd] at b;cases b
 |cons a r=>exact⟨by simp[bytesBefore],by simp[bytesBefore],by simp[bytesBefore]⟩
theorem z2N{n:Int}(b:0<=n/\n<=999999):bytesBefore (q0C 98 n) [99]=true/\bytesBefore (q0C 116 n) [100]=false/\bytesBefore (q0C 116 n) [99]=false:=by
 rw[q0X b,q0X b];exact⟨by simp[bytesBefore],by simp[bytesBefore],by simp[bytesBefore]⟩
theorem before_map :bytesBefore mapN [100]=false/\bytesBefore mapN [99]=false:=by decide
section
variable {st :IxSt}{σ σ':DM}{c s:Int}{φ:Fls}{u cnt:Nat}{B:List En}{C C':Cks}{E:Oth}
theorem z4u : ∀(C:Cks) (i:Nat),i+C.length<=999999->q3Z Prod.fst (q4v i C)
 |[],_,_=>List.Pairwise.nil
 | ps::r,i,h=>by
  rw[χ] at h;refine List.pairwise_cons.2 ⟨fun y d=>?_,z4u r (i+1) (by omega)⟩;obtain⟨j,l,m,b⟩:=q4C d;rw[b];exact q7b (by omega) (by omega) (by omega)
theorem z4t{C:Cks}(b:C.length<=200)(d:k<=999999):(q0G Prod.fst (q0C 99 (k:Int)) (q4v 0 C)).map Prod.snd=(C[k]?).map (q0Y k):=by
 rcases Nat.lt_or_ge k C.length with h|h
 ·rw[z2R b (γ h),γ h];rfl
 ·rw[z2S b h d,List.getElem?_eq_none h];rfl
theorem q9V(h:PInv st σ c s φ u cnt B)(hc:CksIn φ C)(hC:okC C):
  ∃E,Lgd E σ (c-(q2q E:Int)) s C/\(∀nm,y5D nm->(q0G Prod.fst nm (E.X++E.Z)).map Prod.snd=φ nm)/\q2q E+q1C C<=u/\E.X.length+C.length+E.Z.length<=cnt:=by
 obtain⟨l,f0,d,G,l0,k0⟩:=h.fl;have J: ∀y∈l,φ y.1≠none:=fun y b e=>by
  have:=G y.1;rw[q4b d b rfl,e] at this;cases this
 have O:=z1Z (r:=fun x y:List UInt8×List UInt8=>bytesBefore x.1 y.1=true) (p:=fun y:List UInt8×List UInt8=>bytesBefore y.1 [99]) (fun x y S U=>WideShapes.bytes_trans _ _ _ S U) d;have hr:=d.filter (p:=fun y:List UInt8×List UInt8=>!bytesBefore y.1 [99]);have p2:=z1Z (r:=fun x y:List UInt8×List UInt8=>bytesBefore x.1 y.1=true) (p:=fun y:List UInt8×List UInt8=>bytesBefore y.1 [100]) (fun x y S U=>WideShapes.bytes_trans _ _ _ S U) hr;obtain⟨X,hX⟩: ∃X,l.filter (fun y=>bytesBefore y.1 [99])=X:=⟨_,rfl⟩
 obtain⟨R,hR⟩: ∃R,l.filter (fun y=>!bytesBefore y.1 [99])=R:=⟨_,rfl⟩
 obtain⟨M,hM⟩: ∃M,R.filter (fun y=>bytesBefore y.1 [100])=M:=⟨_,rfl⟩
 obtain⟨Z,hZ⟩: ∃Z,R.filter (fun y=>!bytesBefore y.1 [100])=Z:=⟨_,rfl⟩
 rw[hX,hR] at O;rw[hR,hM,hZ] at p2;rw[p2] at O;have mX: ∀y,y∈X↔y∈l/\bytesBefore y.1 [99]=true:=fun y=>by rw[<-hX,List.mem_filter]
 have mR: ∀y,y∈R↔y∈l/\bytesBefore y.1 [99]=false:=fun y=>by rw[<-hR,List.mem_filter];simp
 have mM: ∀y,y∈M↔y∈l/\bytesBefore y.1 [99]=false/\bytesBefore y.1 [100]=true:=fun y=>by rw[<-hM,List.mem_filter,mR];simp[and_assoc]
 have mZ: ∀y,y∈Z↔y∈l/\bytesBefore y.1 [99]=false/\bytesBefore y.1 [100]=false:=fun y=>by rw[<-hZ,List.mem_filter,mR];simp[and_assoc]
 have i: ∀n∈st.m.L.flatten,0<=n/\n<=999999:=fun n o=>by have:=h.range o;omega
 have Q: ∀y,y∈X\/y∈Z->y.1=mapN\/ ∃n∈st.m.L.flatten,y.1=q0C 116 n\/y.1=q0C 98 n:=fun y b=>by
  have hl:y∈l:=b.elim (fun h=>((mX y).1 h).1) fun h=>((mZ y).1 h).1
  rcases h.only y.1 (J y hl) with e|e|⟨k,D,e⟩
  ·exact .inl e
  ·exact .inr e
  ·exfalso
   obtain⟨_,b2,b3⟩:=q6U D;rcases b with b|b
   ·have:=((mX y).1 b).2;rw[e,b3] at this;cases this
   ·have:=((mZ y).1 b).2.2;rw[e,b2] at this;cases this
 have b0: ∀y∈M,∃k:Nat,k<=999999/\y.1=q0C 99 (k:Int):=fun y b=>by
  obtain⟨hl,q1,q2⟩:=(mM y).1 b;rcases h.only y.1 (J y hl) with e|⟨n,o,e|e⟩|e
  ·rw[e,before_map.1] at q2;cases q2
  ·rw[e,(z2N (i n o)).2.1] at q2;cases q2
  ·rw[e,(z2N (i n o)).1] at q1;cases q1
  ·exact e
 have N:=d;rw[O] at N;obtain⟨oX,g0,_⟩:=List.pairwise_append.1 N;obtain⟨oM,oZ,_⟩:=List.pairwise_append.1 g0;have a0:M=q4v 0 C:=y1a oM (z4u C 0 (by have:=hC.few;omega)) fun nm=>by
  by_cases I: ∃k:Nat,k<=999999/\nm=q0C 99 (k:Int)
  ·obtain⟨k,D,rfl⟩:=I
   rw[z4t hC.few D,<-hc k D,<-G];obtain⟨_,b2,b3⟩:=q6U D;rw[O,q0p fun y b e=>?_,q1h fun y b e=>?_]
   ·have:=((mZ y).1 b).2.2;rw[show y.1=q0C 99 (k:Int) from e,b2] at this;cases this
   ·have:=((mX y).1 b).2;rw[show y.1=q0C 99 (k:Int) from e,b3] at this;cases this
  ·rw [q0g fun y b e=>I (by obtain⟨k,D,e2⟩:=b0 y b;exact⟨k,D,by rw[<-e2];exact e.symm⟩),q0g fun y b e=>I (by
    obtain⟨j,S,U,h3⟩:=q4C b
    exact⟨j,by have:=hC.few;omega,by rw[<-h3];exact e.symm⟩)]
 rw[a0] at O;have d0:=h.noNew;have j0:q1q l=q2q ⟨X,Z⟩+q1C C:=by
  rw[O,q1d,q1d,q6X];unfold q2q;simp only;omega
 have i0:l.length=X.length+C.length+Z.length:=by rw[O];simp[q6C];omega
 refine⟨⟨X,Z⟩,⟨?_,hC,⟨fun y b k D=>?_,fun y b k D=>?_,fun y b e=>?_,fun y b hp=>?_,fun y b=>?_,?_⟩⟩,fun nm I=>?_,by omega,by simp only;omega⟩
 ·rw[show c-(q2q ⟨X,Z⟩:Int)+(q2q ⟨X,Z⟩:Int)=c by omega]
  show Pl σ c s (X++(q4v 0 C++Z));rw[<-O];exact f0
 ·exact WideShapes.bytes_trans _ _ _ ((mX y).1 b).2 (q6U D).1
 ·by_cases q:y.1=[100]
  ·rw[q];exact(q6U D).2.1
  ·rcases WideAt.bytes_total y.1 [100] q with q|q
   ·rw[((mZ y).1 b).2.2] at q;cases q
   ·exact WideShapes.bytes_trans _ _ _ (q6U D).2.1 q
 ·have hl:y∈l:=b.elim (fun h=>((mX y).1 h).1) fun h=>((mZ y).1 h).1
  exact J y hl (by rw[e];exact d0)
 ·rcases Q y b with e|⟨n,o,e|e⟩
  ·rw[e] at hp;exact absurd hp (by decide)
  ·rw[e,q2Y q9E (i n o)];exact(by decide:(116:UInt8)≠99)
  ·rw[e,q2Y y0B (i n o)];exact(by decide:(98:UInt8)≠99)
 ·rcases Q y b with e|⟨n,o,e|e⟩
  ·rw[e];decide
  ·rw[e,q0X (i n o),χ,q0n];decide
  ·rw[e,q0X (i n o),χ,q0n];decide
 ·have c0:((X++Z).map Prod.fst).Nodup:=by
   have ho:q3Z Prod.fst (X++Z):=by
    rw[O] at d;exact d.sublist (List.Sublist.append (List.Sublist.refl X) (List.sublist_append_right _ _))
   exact List.pairwise_map.2 (z2v ho)
  have hb:=Man.bounds h.man;have:=q8I (m:=mapN::(st.m.L.flatten.map (q0C 116)++st.m.L.flatten.map (q0C 98))) c0 fun x hx=>by
   obtain⟨y,b,rfl⟩:=List.mem_map.1 hx;rcases Q y (List.mem_append.1 b) with e|⟨n,o,e|e⟩
   ·rw[e];exact .head _
   ·rw[e];exact .tail _ (List.mem_append.2 (.inl (List.mem_map.2 ⟨n,o,rfl⟩)))
   ·rw[e];exact .tail _ (List.mem_append.2 (.inr (List.mem_map.2 ⟨n,o,rfl⟩)))
  simp only[List.length_map,θ,χ] at this;simp only;omega
 ·rw [<-G,O]
  show(q0G Prod.fst nm (X++Z)).map Prod.snd=_;have e0: ∀y∈q4v 0 C,Prod.fst y≠nm:=fun y b e=>by
   obtain⟨j,S,U,h3⟩:=q4C b;exact I j (by have:=hC.few;omega) (by rw[<-h3];exact e.symm)
  unfold q0G;rw[List.find?_append,List.find?_append,List.find?_append];have h0:List.find? (fun y=>Prod.fst y==nm) (q4v 0 C)=none:=q0g e0;rw[h0];simp
theorem PInv.relog(h:PInv st σ c s φ u cnt B)(S: ∀nm,y5D nm->(q0G Prod.fst nm (E.X++E.Z)).map Prod.snd=φ nm)(D:Lgd E σ' (c-(q2q E:Int)) s C')(ho:okD σ'){u' cnt':Nat}(hu:q2q E+q1C C'<=u')(G:E.X.length+C'.length+E.Z.length<=cnt'):
  ∃o,PInv st σ' c s o u' cnt' B/\CksIn o C'/\ ∀nm,y5D nm->o nm=φ nm:=by
 have l:=D.pl;rw[show c-(q2q E:Int)+(q2q E:Int)=c by omega] at l;have b: ∀nm,y5D nm->(q0G Prod.fst nm (q3y E C')).map Prod.snd=φ nm:=fun nm d=>by
  rw[<-S nm d];have N: ∀y∈q4v 0 C',Prod.fst y≠nm:=fun y hy e=>by
   obtain⟨j,h1,h2,R⟩:=q4C hy;exact d j (by have:=D.ok.few;omega) (by rw[<-R];exact e.symm)
  unfold q0G q3y;rw[List.find?_append,List.find?_append,List.find?_append];have Q:List.find? (fun y=>Prod.fst y==nm) (q4v 0 C')=none:=q0g N;rw[Q];simp
 have J: ∀k:Nat,k<=999999->(q0G Prod.fst (q0C 99 (k:Int)) (q3y E C')).map Prod.snd=(C'[k]?).map (q0Y k):=fun k q=>by
  rw[<-z4t D.ok.few q];unfold q3y;rw[q0p (D.oth.neX q),q1h (D.oth.neZ q)]
 have I: ∀r:UInt8,(r=116\/r=98)-> ∀n:Int,0<=n/\n<=999999->y5D (q0C r n):=fun r hc n G k q e=>by
  have U:q2N r=true:=by rcases hc with rfl|rfl<;>decide
  have:=(q1u U y3Q G (by omega) e).1;rcases hc with rfl|rfl<;>exact absurd this (by decide)
 have i: ∀n∈st.m.L.flatten,0<=n/\n<=999999:=fun n G=>by have:=h.range G;omega
 refine⟨fun nm=>(q0G Prod.fst nm (q3y E C')).map Prod.snd,⟨⟨q3y E C',l,l.ord ho,fun _=>rfl,by rw[q8a];exact hu,by rw[q8Z];exact G⟩,h.man,h.full,fun n e he=>?_,fun nm d=>?_,h.okw,h.okB,h.mem⟩,J,b⟩
 ·obtain⟨O,t1,⟨y,t2⟩,t3,t4⟩:=h.tb n e he
  exact⟨O,(b _ (I 116 (.inl rfl) n (i n O))).trans t1,⟨y,(b _ (I 98 (.inr rfl) n (i n O))).trans t2⟩,t3,t4⟩
 ·by_cases hc: ∃k:Nat,k<=999999/\nm=q0C 99 (k:Int)
  ·exact .inr (.inr hc)
  ·exact h.only nm (by rw[<-b nm fun k q e=>hc ⟨k,q,e⟩];exact d)
end
end
section
open Go.RowKit Go.Maps
def DkX(wb W:World)(g:Nat)(σ:DM)(K:Nat->Prop):Prop:= ∃F,DkF wb W g F σ K
def q3t :DM->List Int->(Int->Option (List En))->(Int->Option (List En))×Int×DM
 |σ,[],acc=>(acc,0,σ)
 | σ,n::ns,acc=>match q5O σ n with
  |(none,e,τ)=>(acc,e,τ)
  |(some L,_,τ)=>q3t τ ns (fun x=>if x=n then some L else acc x)
def z2B(wb w:World)(g:Nat)(m:Man)(rate:Nat)(K:Nat->Prop)(σ:DM)(e:Ending)(w':World):Prop:=
 (q0b m.nx m.ck m.L=false/\e= .returned (.tuple #[.pointer none,.int .i64 2])/\DkX wb w' g σ K/\Stay K w w')\/
 (q0b m.nx m.ck m.L=true/\σ.down=true/\e= .returned (.tuple #[.pointer none,.int .i64 61])/\DkX wb w' g σ K/\Stay K w w')\/
 (q0b m.nx m.ck m.L=true/\σ.down=false/\(q3t σ m.L.flatten (fun _=>none)).2.1≠0/\e= .returned (.tuple #[.pointer none,.int .i64 (q3t σ m.L.flatten (fun _=>none)).2.1])/\DkX wb w' g (q3t σ m.L.flatten (fun _=>none)).2.2 K/\Stay K w w')\/
 (q0b m.nx m.ck m.L=true/\σ.down=false/\(q3t σ m.L.flatten (fun _=>none)).2.1=0/\ ∃gx t,e= .returned (.tuple #[.pointer (some ⟨gx,0,none⟩),.int .i64 0])/\
  IxK wb w' g gx ⟨m,rate,[],t,m.L.flatten.length⟩ (q3t σ m.L.flatten (fun _=>none)).2.2 K/\Stay K w w'/\ ∀n,(t n).map TE.L=(q3t σ m.L.flatten (fun _=>none)).1 n)
section
variable {wb w0 w W W1 w1 w2:World}{g gx gm gt B:Nat}{st st1:IxSt}{F Y Y1 K K' V T:Nat->Prop}{σ σ1:DM}{va v v1 v2 vm:Value}{vs:List Value}{ns:List Int}{acc:List (List En)}{M L:List En}
theorem IxI.putO{D:DataW Unit}{G:Nat}(h:IxI w gx g gm gt st v vs vm D G Y){n:Int}{t:Nat}{may:Int->Bool}
  (I:w2.ownsMap Tryz.prog 3 q5p gt (G+1) (D.put (.int .i64 n) (.lit (.int .i64 t))))(d:OffS (fun i=>i=gt) w w2)
  (r:Tb w t g n L may T)(J: ∀i,T i->¬InX gx gm gt i):
  IxI w2 gx g gm gt ⟨st.m,st.rate,st.w,(fun x=>if x=n then some ⟨t,L,may⟩ else st.t x),st.c+1⟩ v vs vm (D.put (.int .i64 n) (.lit (.int .i64 t))) (G+1) (fun i=>Y i\/T i):=by
 have y: ∀i,i<w.heap.size->i≠gt->w2.heap[i]? =w.heap[i]? :=fun i b o=>d.block i b o
 have j: ∀i,(Y i\/T i)->i<w.heap.size/\¬InX gx gm gt i:=fun i b=>by
  rcases b with b|b
  ·exact⟨h.lt i b,h.apart i b⟩
  ·exact⟨r.lt i b,J i b⟩
 have l: ∀i,(Y i\/T i)->w2.heap[i]? =w.heap[i]? :=fun i b=>y i (j i b).1 fun e=>(j i b).2 (.inr (.inr e))
 refine⟨h.blk.same (y _ h.blk.lt h.ne.2.1),?_,q2g h.lev fun i b=>l i (.inl (h.inY i (b.elim .inl fun e=> .inr (.inl e)))),I,Nat.succ_le_succ h.cnt,fun x=>?_,fun x e o=>?_,fun i b=> .inl (h.inY i b),fun i b=>Ψ (j i b).1 d.size,fun i b=>(j i b).2,h.ne⟩
 ·refine h.mem.same fun i b=>?_
  rcases b with rfl|b
  ·exact y _ h.mem.blk.lt h.ne.2.2
  ·exact l i (.inl (h.inY i (.inr (.inr b))))
 ·exact z5Y (e:=⟨t,L,may⟩) h.look h.map.isMap x
 ·simp only at o
  by_cases q:x=n
  ·rw[ξ q] at o
   injection o with o;subst o;subst q;exact(r.same d.size fun i b=>l i (.inr b)).mono (fun i b=> .inr b) fun i b=>Ψ (j i b).1 d.size
  ·rw[κ q] at o
   exact((h.tab x e o).same d.size fun i b=>l i (.inl b)).mono (fun i b=> .inl b) fun i b=>Ψ (j i b).1 d.size
theorem z8j(h : DkF wb w g F σ K){m:Man}(hG:Grid w ao m.L.length cap m.L)(F1:m.L.flatten.length<=1000000000)(C1: ∀x∈m.L.flatten,(Lit.int .i64 x).wf=true)(y1:0<=m.sd)(z1:m.sd<18446744073709551616)(rate:Nat):
  Calls Tryz.prog 131 #[.pointer (some ⟨g,0,none⟩),.agg #[.int .i64 m.nx,.int .i64 m.ck,.int .u64 m.sd,.slice ao m.L.length cap],.float .f64 rate] w (z2B wb w g m rate K σ):=by
 have HD:=η h;have s0:=q0B w (.cells #[.int .i64 m.nx,.int .i64 m.ck,.int .u64 m.sd,.slice ao m.L.length cap] 171);have Z0:=Blk.new w 171 #[.int .i64 m.nx,.int .i64 m.ck,.int .u64 m.sd,.slice ao m.L.length cap];have X:=η (q7o (h.d.ext s0) [] (by decide));have hc: ∃z c,q1l σ []=(z,c)/\(c==1)=false/\((c==61)=σ.down)/\(σ.down=true->c=61):=by
  unfold q1l
  cases σ.down with
  |true=>exact⟨_,_,rfl,rfl,rfl,fun _=>rfl⟩
  | false=>
   simp only[Bool.false_eq_true,if_false]
   split
   ·exact⟨_,_,rfl,rfl,rfl,fun h=>by cases h⟩
   ·exact⟨_,_,rfl,rfl,rfl,fun h=>by cases h⟩
 obtain⟨z,c,hz,s1,F0,G0⟩:=hc;rw[hz] at X;have HV:=η (z1U m.nx m.ck m.sd ao m.L.length cap m.L _ (hG.ext s0) (by omega) C1);have HG:=η hG;have h0:=η s0;have I:=η Z0;obtain⟨w1,B1⟩: ∃w1,w.alloc (.cells #[.int .i64 m.nx,.int .i64 m.ck,.int .u64 m.sd,.slice ao m.L.length cap] 171)=w1:=⟨_,rfl⟩
 rw[B1] at X HV h0 I;obtain⟨p,hp⟩: ∃p,w.heap.size=p:=⟨_,rfl⟩
 have HP:=η hp;rw[hp] at I;have b0:w1.cell? ⟨p,0,none⟩=some (.int .i64 m.nx):=I.o.cell 0;have b1:w1.cell? ⟨p,1,none⟩=some (.int .i64 m.ck):=I.o.cell 1;have b2:w1.cell? ⟨p,2,none⟩=some (.int .u64 m.sd):=I.o.cell 2;have b3:w1.cell? ⟨p,3,none⟩=some (.slice ao m.L.length cap):=I.o.cell 3;have K0:=@run_makeMap Tryz.prog;clear h s0 Z0 hz hG
 cases hv:q0b m.nx m.ck m.L with
 | false=>
  rw[hv] at HV;have Z:=η hv;clear hv;go_enter Tryz.func131,Tryz.ntmps131;go_wp2_with fail;refine X.o.mono ?_;rintro e w2 ⟨rfl,rfl⟩;go_wp2_with fail;refine HV.o.mono ?_;rintro e w2 ⟨rfl,l⟩;have y:=η (h0.o.trans l);clear l;go_wp2_with fail;go_ret2;exact .inl ⟨Z.o,rfl,⟨F,HD.o.grow y.o⟩,fun i b=>y.o.block i (HD.o.k i b).1⟩
 | true =>
  rw[hv] at HV;have Z:=η hv;clear hv
  cases hdn:σ.down with
  | true=>
   rw[hdn] at F0;obtain rfl:=G0 hdn;have o0:=η hdn;clear hdn G0;go_enter Tryz.func131,Tryz.ntmps131;go_wp2_with fail;refine X.o.mono ?_;rintro e w2 ⟨rfl,rfl⟩;go_wp2_with fail;refine HV.o.mono ?_;rintro e w2 ⟨rfl,l⟩;have y:=η (h0.o.trans l);clear l;go_wp2_with fail;go_ret2;exact .inr (.inl ⟨Z.o,o0.o,rfl,⟨F,HD.o.grow y.o⟩,fun i b=>y.o.block i (HD.o.k i b).1⟩)
  | false =>
   rw[hdn] at F0;have o0:=η hdn;have l0:m.ok:=⟨Z.o,y1,z1⟩
   have r0:=Man.bounds l0;clear hdn G0;go_enter Tryz.func131,Tryz.ntmps131;go_wp2_with fail;refine X.o.mono ?_;rintro e w2 ⟨rfl,rfl⟩;go_wp2_with fail;refine HV.o.mono ?_;rintro e w2 ⟨rfl,l⟩;have y:=η (h0.o.trans l);have b0:=q0A l b0;have b1:=q0A l b1;have b2:=q0A l b2;have b3:=q0A l b3;have N0:=η (I.o.ext l);clear l;go_wp2_with fail;refine(q8E m.nx m.ck m.sd ao m.L.length cap m.L w2 (HG.o.ext y.o) (fun i=>by have:=r0.2.2.1 i;omega) (by omega)).mono ?_;rintro e w3 ⟨v3,u0,rfl,m0,X0⟩;have B0:=η m0;have p0:=η X0;obtain⟨a3,k3,rfl⟩:=m0.own.slice;clear m0 X0;go_wp2_with fail;refine(y4t w3).mono ?_;rintro e U ⟨gm,rfl,J,u1,E0⟩;have A0:=η J;have q0:=η E0;have b3:=q0A E0 (q0A p0.o b3);clear J E0;obtain⟨O,i0⟩: ∃O,(U.alloc (.map #[] 0)).alloc (.cells #[.pointer (some ⟨g,0,none⟩),.int .i64 m.nx,.int .i64 m.ck,.int .u64 m.sd,.slice a3 m.L.length k3,.float .f64 rate,.pointer (some ⟨gm,0,none⟩),.map (some U.heap.size)] 175)=O:=⟨_,rfl⟩
   have a0:Hd (Ext U O):=η (i0▸q4t _ _ _)
   have M0:Hd (Blk O (U.heap.size+1) 175 #[.pointer (some ⟨g,0,none⟩),.int .i64 m.nx,.int .i64 m.ck,.int .u64 m.sd,.slice a3 m.L.length k3,.float .f64 rate,.pointer (some ⟨gm,0,none⟩),.map (some U.heap.size)]):=η (by
    have h:=Blk.new (U.alloc (.map #[] 0)) 175 #[.pointer (some ⟨g,0,none⟩),.int .i64 m.nx,.int .i64 m.ck,.int .u64 m.sd,.slice a3 m.L.length k3,.float .f64 rate,.pointer (some ⟨gm,0,none⟩),.map (some U.heap.size)];rw[ρ,i0] at h
    exact h)
   have Q0:Hd (O.ownsMap Tryz.prog 3 q5p U.heap.size 0 (.map [])):=η (i0▸(World.ownsMap_made (H:=Unit) U Tryz.prog 3 q5p).alloc _);have n1:Hd (O.heap.size=U.heap.size+2):=η (by rw[<-i0,ρ,ρ]);have o1:=q0A a0.o b3;have c0:=η (((y.o.trans p0.o).trans q0.o).trans a0.o);have t1:gm<U.heap.size:=A0.o.blk.lt
   have P0:Hd (IxK wb O g (U.heap.size+1) ⟨m,rate,[],(fun _=>none),0⟩ σ K):=η (by
    have hD:=HD.o;have G1:=y.o.size;have H1:=p0.o.size;have I1:=q0.o.size;have K1:=hD.ext.size;have x1:OGr O w2.heap.size 57 3 (.slice a3 m.L.length k3) u0 m.L:=(B0.o.ext q0.o).ext a0.o;have D: ∀i,((Value.slice a3 m.L.length k3).ownBlock=some i\/ ∃q,(u0.getD q (.slice none 0 0)).ownBlock=some i)->w2.heap.size<=i/\i<w3.heap.size:=fun i b=>q5N B0.o i b
    refine⟨F,gm,U.heap.size,fun i=>((Value.slice a3 m.L.length k3).ownBlock=some i\/ ∃q,(u0.getD q (.slice none 0 0)).ownBlock=some i),⟨hD.d.ext c0.o,⟨⟨l0,okM.nil,υ _⟩,.slice a3 m.L.length k3,u0,.slice none 0 0,.map [],0,⟨M0.o,A0.o.ext a0.o,q6u x1 (υ _),Q0.o,ι _,fun n=>rfl,fun n e he=>(by cases he),fun i b=>?_,fun i b=>Ψ (D i b).2 (by have:=a0.o.size;omega),fun i b hx=>?_,⟨by omega,by omega,by omega⟩⟩⟩,fun i b=>?_⟩,hD.bF,fun i b=>?_,fun i b=>by have:=D i b;omega,hD.ext.trans c0.o,fun i b=>?_⟩
    ·rcases b with b|b|b
     ·exact .inl b
     ·exact .inr b
     ·cases b
    ·have h1:=D i b
     rcases hx with rfl|rfl|rfl<;>omega
    ·have h1:=hD.d.Flt i b
     exact⟨fun hx=>by rcases hx with rfl|rfl|rfl<;>omega,fun hy=>by have:=D i hy;omega⟩
    ·rcases b with rfl|rfl|rfl<;>omega
    ·have h1:=hD.k i b
     have h2:=c0.o.size
     exact⟨by omega,h1.2,fun hx=>by rcases hx with rfl|rfl|rfl<;>omega,fun hy=>by have:=D i hy;omega⟩)
   have L0:=η (z2J ao m.L.length cap m.L O (HG.o.ext c0.o) (by omega));have r1: ∀i,K i->i<w.heap.size:=fun i b=>(HD.o.k i b).1
   have g0:Hd (Stay K w O):=η fun i b=>c0.o.block i (r1 i b)
   clear K0;have K0:=@run_makeMap Tryz.prog;go_wp2_with fail;refine L0.o.mono ?_;rintro e w5 ⟨va,rfl,S,Y0⟩;obtain⟨aa,ka,rfl⟩:=S.slice;obtain⟨ns,e0⟩: ∃ns,m.L.flatten=ns:=⟨_,rfl⟩
   have m1:=η e0;rw[e0] at S;have z0:=η (LsW.start P0.o (W:=w5) Y0 S);rw[e0];obtain⟨R,hR⟩: ∃R,q3t σ ns (fun _=>none)=R:=⟨_,rfl⟩
   have HR:=η hR
   have v0:Hd (∀e w',((R.2.1≠0/\e= .returned (.tuple #[.pointer none,.int .i64 R.2.1])/\DkX wb w' g R.2.2 K/\Stay K O w')\/(R.2.1=0/\ ∃gx t,e= .returned (.tuple #[.pointer (some ⟨gx,0,none⟩),.int .i64 0])/\IxK wb w' g gx ⟨m,rate,[],t,ns.length⟩ R.2.2 K/\Stay K O w'/\ ∀n,(t n).map TE.L=R.1 n))->z2B wb w g m rate K σ e w'):=η (by
    intro e w' h;unfold z2B;rw[e0,hR];rcases h with⟨q1,q2,q3,q4⟩|⟨q1,gx,t,q2,q3,q4,q5⟩
    ·exact .inr (.inr (.inl ⟨Z.o,o0.o,q1,q2,q3,g0.o.trans q4⟩))
    ·exact .inr (.inr (.inr ⟨Z.o,o0.o,q1,gx,t,q2,q3,g0.o.trans q4,q5⟩)))
   obtain⟨n,hn⟩: ∃n,ns.length=n:=⟨_,rfl⟩
   have f0:=η hn;have E1:n<=40:=by rw[<-hn,<-e0];exact r0.2.1
   have k1:=η r0;obtain⟨gx,H0⟩: ∃gx,U.heap.size+1=gx:=⟨_,rfl⟩
   rw[hn] at z0;rw[H0] at z0;rw[hn];simp only[H0];clear S Y0 e0 hn L0 h0 y p0 q0 a0 M0 Q0 n1 o1 b0 b1 b2 b3 c0 P0 A0 B0 K0 hR r0 HV X HG I N0 HP g0 s1 F0 i0 t1 u1 H0;go_wp2_with fail
   go_loopw [44] (fun i W=> ∃(k:Nat) (t:Int->Option TE) (acc:Int->Option (List En)) (τ:DM),k<=n/\i= .int .i64 (k:Int)/\LsW wb O W g gx ⟨m,rate,[],t,k⟩ τ K (.slice aa n ka) (.slice none 0 0) [] ns [] O.heap.size/\(∀x,(t x).map TE.L=acc x)/\q3t τ (ns.drop k) acc=R) (fun i _=>n-(intOf i).toNat)
   case atStart=>exact⟨0,fun _=>none,fun _=>none,σ,υ _,rfl,z0.o,fun x=>rfl,HR.o⟩
   case round =>
    obtain⟨k,tt,acc,τ,hk,rfl,e1,i1,j⟩:=hrel;have HL:=η e1;have R0:=η j;have S0:=η i1;clear e1 j i1;by_cases D:k<n
    ·have hd:decide ((k:Int)<(n:Int))=true:=ζ (by omega)
     have q1:IntKind.i64.wrap ((k:Int)+1)=(k:Int)+1:=by rw[ν];omega
     have q5:(k:Int)<(n:Int):=by omega
     obtain⟨_,_,ea,I0⟩:=q2J HL.o.all;rw[f0.o] at ea
     cases ea;rw[f0.o] at I0;obtain⟨ba,oa,rfl,n0⟩:=I0.at D;have J0:k<ns.length:=by rw[f0.o];exact D
     have j0:ns.drop k=ns.getD k 0::ns.drop (k+1):=by
      rw[List.drop_eq_getElem_cons J0,δ,γ J0];rfl
     have J:ns.getD k 0∈m.L.flatten:=by rw[m1.o];exact q3e ns k J0
     have j:=R0.o;rw[j0] at j;have j1:=(k1.o.2.2.2.1 _ J).1;generalize ns.getD k 0=nk at*;rw[q3t] at j;obtain⟨F2,p1,U0,Y2,h2⟩:=HL.o.i;have C0:=η (z9S h2.i.d nk);have O0:=η h2;obtain⟨r,hr⟩: ∃r,q5O τ nk=r:=⟨_,rfl⟩
     rw[hr] at j C0;obtain⟨o,c,D1⟩:=r;clear I0 j0 J h2
     cases o with
     | none=>
      simp only at j;have hc:=z1X hr;have g2:(c !=0)=true:=by simpa using hc
      have D0:=η j;have HC:=η hc;clear hr j hc;go_wp2_with fail;refine C0.o.mono ?_;rintro e3 w3 ⟨rfl,d0⟩;obtain⟨Q,N⟩:=O0.o.disk d0
      have HE:Hd (z2B wb w g m rate K σ (.returned (.tuple #[.pointer none,.int .i64 c])) w3):=η (v0.o _ _ (.inl (by
       rw[<-D0.o]
       exact⟨HC.o,rfl,⟨_,Q.i.d,Q.bF,Q.ext,fun i b=>⟨(Q.k i (.inl b)).1,(Q.k i (.inl b)).2.1⟩⟩,HL.o.stay.trans fun i b=>N i (.inl b)⟩)))
      clear d0 Q N;go_wp2_with fail;go_ret2;exact HE.o
     | some L=>
      simp only at j;obtain rfl:=z0U hr;have D0:=η j;clear hr j;go_wp2_with fail;refine C0.o.mono ?_;rintro e3 w7 ⟨t,may,T,w6,rfl,d0,t0,g1,hT⟩;obtain⟨Q,N⟩:=O0.o.disk d0;have h7:=Q.grow t0;have x0:Stay (fun i=>K i\/z3a (.slice (some ⟨ba,oa,none⟩) n ka) (.slice none 0 0) [] i) wr w7:=N.trans (Q.kExt t0);obtain⟨f1,v7,N1,M1,D7,L1,k0⟩:=h7.i.x;have c7:=k0.c7;have a1:=k0.cnt;simp only at a1;obtain⟨w8,A1,V0,c1⟩:=k0.map.update Tryz.keyInt Tryz.underlying173 (by unfold maxLen;omega) (keyOf_int_mk Tryz.underlying3 j1) (z1c t);have G:OffS (fun i=>i=U0) w7 w8:=OffS.grown c1 fun i b=>by injection b with b;exact b.symm
      have W0: ∀i,T i->¬InX gx p1 U0 i:=fun i b hx=>by have:=hT i b;have:=Q.i.x.xlt i hx;omega
      have d1:=k0.putO V0 G g1 W0
      obtain⟨h8,y0⟩:=h7.turnV (K:=fun i=>K i\/z3a (.slice (some ⟨ba,oa,none⟩) n ka) (.slice none 0 0) [] i) (st1:=⟨m,rate,[],(fun x=>if x=nk then some ⟨t,L,may⟩ else tt x),k+1⟩) (Y1:=fun i=>Y2 i\/T i) ⟨⟨l0,okM.nil,by show k+1<=1000000;omega⟩,_,_,_,_,_,d1⟩ (G.mono fun i _ b=> .inr (.inr b)) (fun i b=>by
       rcases b with b|b
       ·exact⟨h7.bY i b,fun hf=>(h7.i.ap i hf).2 b⟩
       ·have h9:=hT i b
        exact⟨by have:=Q.ext.size;omega,fun hf=>by have:=Q.i.d.Flt i hf;omega⟩) (fun i b=>⟨b,fun hy=>by
       rcases hy with hy|hy
       ·exact(h7.k i b).2.2.2 hy
       ·have:=hT i hy;have:=(Q.k i b).1;omega⟩)
      have l1:=η (HL.o.step ⟨_,_,_,_,h8⟩ (x0.trans y0) (by have:=d0.off.size;have:=t0.size;have:=G.size;omega));have T0:Hd (∀x,(if x=nk then some (⟨t,L,may⟩:TE) else tt x).map TE.L=if x=nk then some L else acc x):=η fun x=>by
       by_cases hx:x=nk
       ·rw[ξ hx,ξ hx];rfl
       ·rw[κ hx,κ hx];exact S0.o x
      have J1:=η A1;clear d0 Q N h7 x0 f1 k0 V0 c1 G W0 d1 h8 y0 g1 hT t0 a1;go_wp2_with fail
      go_roundw
      case rel=>exact⟨k+1,_,_,D1,D,by go_num,l1.o,T0.o,D0.o⟩
      case measure=>simp[intOf];omega
    ·obtain rfl:k=n:=by omega
     have hd:decide ((k:Int)<(k:Int))=false:=ε (by omega);have j:=R0.o;rw[List.drop_of_length_le (by rw[f0.o];exact ι _),q3t] at j
     have HE:Hd (z2B wb w g m rate K σ (.returned (.tuple #[.pointer (some ⟨gx,0,none⟩),.int .i64 0])) wr):=η (v0.o _ _ (.inr (by
      rw[<-j]
      exact⟨rfl,gx,tt,rfl,by rw[f0.o];exact HL.o.i.beside fun i b=> .inl b,HL.o.stay,S0.o⟩)))
     clear j;go_wp2_with fail;go_ret2;exact HE.o
end
end
section
open Go.RowKit
def toc(t:To):List Value:=[.string ⟨t.s.toArray⟩,.int .i64 t.v,.string ⟨t.e.ty.toArray⟩,.string ⟨t.e.da.toArray⟩,.float .f64 t.e.we]
def toV(t:To):Value:= .agg #[.string ⟨t.s.toArray⟩,.int .i64 t.v,.string ⟨t.e.ty.toArray⟩,.string ⟨t.e.da.toArray⟩,.float .f64 t.e.we]
def q2m(L:List To):List Value:=(L.map toc).flatten
theorem q5i(t:To):(toc t).length=5:=rfl
theorem y1z :q2m []=[]:=rfl
theorem q7D(t:To)(L:List To):q2m (t::L)=toc t++q2m L:=rfl
theorem q4m(L M:List To):q2m (L++M)=q2m L++q2m M:=by unfold q2m;rw[List.map_append,List.flatten_append]
theorem z3Q(L:List To)(t:To):q2m (L++[t])=q2m L++toc t:=by rw[q4m];unfold q2m;simp
theorem q3C(L:List To):(q2m L).length=L.length*5:=by
 induction L with
 |nil=>rfl
 |cons k L ih=>rw[q7D,θ,ih,χ,q5i];omega
theorem q5V : ∀(L:List To) (i j:Nat),i<L.length->j<5->(q2m L)[i*5+j]? =(toc (L.getD i to0))[j]?
 |[],i,j,h,_=>by simp at h
 | k::L,0,j,_,hj=>by
  rw[q7D,List.getElem?_append_left (by rw[q5i];omega)];simp
 | k::L,i+1,j,h,hj=>by
  rw[q7D,List.getElem?_append_right (by rw[q5i];omega),show(i+1)*5+j-(toc k).length=i*5+j by rw[q5i];omega,q5V L i j (by simpa using h) hj];simp
theorem z1p(L:List To): ∀u∈q2m L,u.oneCell'=true:=fun u d=>by
 unfold q2m at d;obtain⟨l,i,b⟩:=List.mem_flatten.1 d;obtain⟨f,_,rfl⟩:=List.mem_map.1 i;unfold toc at b;simp only[List.mem_cons,List.not_mem_nil,or_false] at b;rcases b with rfl|rfl|rfl|rfl|rfl<;>rfl
structure Tos(w:World)(ao:Option Addr)(n cap:Nat)(L:List To):Prop where
 len:L.length=n
 fits:n<=cap
 bound:cap<=9223372036854775807
 nil:ao=none->cap=0
 rd:Rd w ao (q2m L)
theorem Tos.ext{w w':World}{L:List To}(h:Tos w ao n cap L)(k:Ext w w'):Tos w' ao n cap L:=⟨h.len,h.fits,h.bound,h.nil,h.rd.ext k⟩
theorem Tos.at{w:World}{L:List To}(h:Tos w ao n cap L){i:Nat}(N:i<n):
  ∃b off,ao=some ⟨b,off,none⟩/\w.cell? ⟨b,off+i*5,none⟩=some (.string ⟨(L.getD i to0).s.toArray⟩)/\w.cell? ⟨b,off+i*5+1,none⟩=some (.int .i64 (L.getD i to0).v)/\w.cell? ⟨b,off+i*5+2,none⟩=some (.string ⟨(L.getD i to0).e.ty.toArray⟩)/\w.cell? ⟨b,off+i*5+3,none⟩=some (.string ⟨(L.getD i to0).e.da.toArray⟩)/\w.cell? ⟨b,off+i*5+4,none⟩=some (.float .f64 (L.getD i to0).e.we):=by
 have O:=h.len;have k0:=q5V L i 0 (by omega) (by decide);have k1:=q5V L i 1 (by omega) (by decide);have G:=q5V L i 2 (by omega) (by decide);have I:=q5V L i 3 (by omega) (by decide);have J:=q5V L i 4 (by omega) (by decide);obtain⟨b,off,rfl,o⟩:=h.rd _ _ k0;obtain⟨_,_,d,q⟩:=h.rd _ _ k1
 cases d;obtain⟨_,_,j,r⟩:=h.rd _ _ G
 cases j;obtain⟨_,_,l,y⟩:=h.rd _ _ I
 cases l;obtain⟨_,_,m,D⟩:=h.rd _ _ J
 cases m;exact⟨b,off,rfl,o,q,r,y,D⟩
theorem Tos.of_own{w:World}{B:Nat}{e:TypeId}{v:Value}{L:List To}(h:Own w B e 5 v L.length (q2m L)): ∃ao cap,v= .slice ao L.length cap/\Tos w ao L.length cap L:=by
 obtain⟨ao,cap,rfl,b,d,i,j⟩:=h.rd;exact⟨ao,cap,rfl,rfl,b,d,i,j⟩
theorem Tryz.infoTo :(Tryz.prog.info? 99).map (fun i=>(i.zero,i.size,i.bytes))=some (some (.agg #[.string ⟨#[]⟩,.int .i64 0,.string ⟨#[]⟩,.string ⟨#[]⟩,.float .f64 0]),5,64):=by kernel_rfl
theorem y3H(b:Nat): ∃x:Int,∀w:World,Calls Tryz.prog 151 #[.float .f64 b] w fun e w'=>e= .returned (.int .u64 x)/\w=w':=by
 by_cases h:((b:Int)<9223372036854775808)
 ·have i:decide ((9223372036854775808:Int)<=(b:Int))=false:=ε (by omega)
  refine⟨(b:Int)+9223372036854775808,fun w=>?_⟩;have d:=q6k;go_enter Tryz.func151,Tryz.ntmps151;go_wp2_with fail;go_ret;exact⟨rfl,rfl⟩
 ·have i:decide ((9223372036854775808:Int)<=(b:Int))=true:=ζ (by omega)
  refine⟨IntKind.u64.wrap (18446744073709551615-(b:Int)),fun w=>?_⟩;have d:=q6k;go_enter Tryz.func151,Tryz.ntmps151;go_wp2_with fail;go_ret;exact⟨rfl,rfl⟩
theorem y1q(b:Nat)(w:World):Calls Tryz.prog 104 #[.float .f64 b,.float .f64 b] w fun e w'=>e= .returned (.bool true)/\w=w':=by
 obtain⟨x,i⟩:=y3H b;have d:=η i;clear i;go_enter Tryz.func104,Tryz.ntmps104;go_wp2_with fail;refine(d.o _).mono ?_;rintro e w1 ⟨rfl,rfl⟩;go_wp2_with fail;refine(d.o _).mono ?_;rintro e w1 ⟨rfl,rfl⟩;go_wp2_with fail;go_ret;exact⟨by simp,rfl⟩
theorem y1r(e:Ev)(w:World):Calls Tryz.prog 57 #[evV e,evV e] w fun r w'=>r= .returned (.bool true)/\Ext w w':=by
 obtain⟨ty,da,we⟩:=e;have j:=q0B w (.cells #[.string ⟨ty.toArray⟩,.string ⟨da.toArray⟩,.float .f64 we] 97);have i:=q0B (w.alloc (.cells #[.string ⟨ty.toArray⟩,.string ⟨da.toArray⟩,.float .f64 we] 97)) (.cells #[.string ⟨ty.toArray⟩,.string ⟨da.toArray⟩,.float .f64 we] 97);have l:=η (j.trans i);have d:=(Blk.new w 97 #[.string ⟨ty.toArray⟩,.string ⟨da.toArray⟩,.float .f64 we]).ext i;have b:=Blk.new (w.alloc (.cells #[.string ⟨ty.toArray⟩,.string ⟨da.toArray⟩,.float .f64 we] 97)) 97 #[.string ⟨ty.toArray⟩,.string ⟨da.toArray⟩,.float .f64 we];rw[ρ] at b;have k0:=d.cell 0;have k1:=d.cell 1;have D:=d.cell 2;have m:=b.cell 0;have q:=b.cell 1;have y:=b.cell 2;clear j i d b;unfold evV;go_enter Tryz.func57,Tryz.ntmps57;go_wp2_with fail;refine(y1q we _).mono ?_;rintro e w1 ⟨rfl,rfl⟩;go_wp2_with fail;go_ret;exact⟨rfl,l.o⟩
theorem y2A(t:To)(w:World):Calls Tryz.prog 61 #[toV t,toV t] w fun r w'=>r= .returned (.bool true)/\Ext w w':=by
 obtain⟨s,v,⟨ty,da,we⟩⟩:=t;have j:=q0B w (.cells #[.string ⟨s.toArray⟩,.int .i64 v,.string ⟨ty.toArray⟩,.string ⟨da.toArray⟩,.float .f64 we] 99);have i:=q0B (w.alloc (.cells #[.string ⟨s.toArray⟩,.int .i64 v,.string ⟨ty.toArray⟩,.string ⟨da.toArray⟩,.float .f64 we] 99)) (.cells #[.string ⟨s.toArray⟩,.int .i64 v,.string ⟨ty.toArray⟩,.string ⟨da.toArray⟩,.float .f64 we] 99);have y:=η (j.trans i);have d:=(Blk.new w 99 #[.string ⟨s.toArray⟩,.int .i64 v,.string ⟨ty.toArray⟩,.string ⟨da.toArray⟩,.float .f64 we]).ext i;have b:=Blk.new (w.alloc (.cells #[.string ⟨s.toArray⟩,.int .i64 v,.string ⟨ty.toArray⟩,.string ⟨da.toArray⟩,.float .f64 we] 99)) 99 #[.string ⟨s.toArray⟩,.int .i64 v,.string ⟨ty.toArray⟩,.string ⟨da.toArray⟩,.float .f64 we];rw[ρ] at b;have k0:=d.cell 0;have k1:=d.cell 1;have O:=d.cell 2;have Q:=d.cell 3;have R:=d.cell 4;have D:=b.cell 0;have G:=b.cell 1;have I:=b.cell 2;have J:=b.cell 3;have N:=b.cell 4;have q:=η (fun W=>y1r ⟨ty,da,we⟩ W);clear j i d b;unfold toV;go_enter Tryz.func61,Tryz.ntmps61;go_wp2_with fail;refine(q.o _).mono ?_;rintro e w1 ⟨rfl,m⟩;have l:=η (y.o.trans m);clear m;go_wp2_with fail;go_ret;exact⟨rfl,l.o⟩
theorem z9s{I:Option Addr}{b:Nat}{T:List To}(w:World)(m:Tos w ao n cap T)(q:Tos w I n b T):
  Calls Tryz.prog 25 #[.slice ao n cap,.slice I n b] w fun r w'=>r= .returned (.bool true)/\Ext w w':=by
 have J:=η m;have N:=η q;have b1:=m.fits;have b2:=m.bound;have b3:=q.fits;have b4:=q.bound;clear m q;go_enter Tryz.func25,Tryz.ntmps25;go_wp2_with fail
 go_loopw [5] (fun i W=> ∃k:Nat,k<=n/\i= .int .i64 (k:Int)/\Ext w W) (fun i _=>n-(intOf i).toNat)
 case atStart=>exact⟨0,υ _,rfl,Ext.refl _⟩
 case round=>
  obtain⟨k,hk,rfl,j⟩:=hrel;have G:=η j;by_cases d:k<n
  ·have R:decide ((k:Int)<(n:Int))=true:=ζ (by omega)
   have S:(k:Int)<(n:Int):=by omega
   have q8:IntKind.i64.wrap ((k:Int)+1)=(k:Int)+1:=by rw[ν];omega
   obtain⟨ab,O,rfl,a0,a1,U,X,Z⟩:=(J.o.ext (j.trans (Ext.refl _).drew)).at d;obtain⟨bb,Q,rfl,c0,c1,c2,c3,c4⟩:=(N.o.ext (j.trans (Ext.refl _).drew)).at d;generalize T.getD k to0=t at*;have D:=η (y2A t);unfold toV at D;clear j;go_wp2_with fail
   go_region_law (go_simp;first|(go_at_call 61;refine(D.o _).mono ?_;rintro e wa ⟨rfl,l⟩;have y:=η ((G.o.trans (Ext.refl _).drew).trans l);clear l))
   all_goals
    go_wp2_with fail
    go_roundw
    case rel=>exact⟨k+1,by omega,by go_num,y.o⟩
    case measure=>simp[intOf];omega
  ·obtain rfl:k=n:=by omega
   have R:decide ((k:Int)<(k:Int))=false:=ε (by omega);clear j;go_wp2_with fail;go_ret;exact⟨rfl,G.o⟩
end
end Go.Proofs.YtjlcdfpbllobaaaGreatDoor
