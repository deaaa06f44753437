/- Parts of the proof. -/
import Derived.Test.YtnponcjnahicnaaGreatDoorBkAToEaC
import Derived.Sort.CutIn
set_option linter.unusedSimpArgs false
set_option linter.unusedVariables false
set_option maxRecDepth 100000
set_option maxHeartbeats 8000000
open Go.Proofs.Tryz(prog)
open List(getElem_cons_succ getElem_cons_zero getElem_toArray set_cons_succ set_cons_zero)
namespace Go.Proofs
open Go.RowKit Go.Ink Go.Flt R4 P16
theorem RStW.to {R:Nat}{ps:List (qj×Value)}{c:List qj}{Y:World}(h:RStW R Y ps)(d:ps.map (·.1)=c)(e:c.length<=400):RSt Y (some R) c:=by
 have b:=h.read (by have:=yN List.length d;rw [zL] at this;omega);rw [d]at b;exact b
theorem RStW.form {R:Nat}{ps:List (qj×Value)}{c:List qj}{Y:World}(h:RStW R Y ps)(e:ps.map (·.1)=c): ∃a cp,Y.heap[R]?=some (.cells #[.slice a c.length cp] 57 (0,0)):=by
 obtain⟨v,b,d⟩:=h.box;obtain⟨a,cp,rfl⟩:=qi d;rw [←e,zL];exact⟨a,cp,b⟩
theorem q5e (k:Int)(L:Nat)(p:0<L)(q:L<=20000): ∃kk:Nat,kk<=L/\wrap64 (k.tmod L+L)=k.tmod L+L/\(k.tmod L+L).tmod L=(kk:Int):=by
 have c:(0:Int)<(L:Int):=wA
 have g:=Int.tmod_lt_of_pos k c;have h:=Int.lt_tmod_of_pos k c;have d:0<=(k.tmod L+L).tmod L:=Int.tmod_nonneg _ wA;have e:=Int.tmod_lt_of_pos (k.tmod L+L) c;obtain⟨a,l⟩:=ex (k.tmod L);rw [l]at g h d e⊢;obtain⟨b,m⟩:=ex ((a+L).tmod L);rw [m]at d e⊢;exact⟨b.toNat,wA,by unfold wrap64;omega,wA⟩
structure EaP (r:RuleD)(A B F:List qj)(M:List qac):Prop where
 ok:qc1 r
 terms:(qbu r).length<=1073741824
 vast:qhd r F=false
 nA:A.Nodup
 iA: ∀f,f∈A->f∈F
 oA: ∀x,x∈A->okF x=true
 all:qd0 (qcx r.body (fun _=>A) B) r=M
theorem EaP.few {r:RuleD}{A B F:List qj}{M:List qac}(h:EaP r A B F M):M.length<=20000:=by
 rw [←h.all];exact qx2 h.nA h.iA h.vast
theorem EaP.small {r:RuleD}{A B F:List qj}{M:List qac}(h:EaP r A B F M): ∀m,m∈M->m.head.length<=1073741824/\m.vals.length<=1073741824:=fun m b=>by
 rw [←h.all]at b;exact q2q h.ok m b
theorem EaP.nodup {r:RuleD}{A B F:List qj}{M:List qac}(h:EaP r A B F M):(M.map (·.vals)).Nodup:=by
 rw [←h.all];exact q51 fun i=>ql3 h.nA _ _
structure EaW (n N:Nat)(w:World)(r:RuleD)(sh sb:Value)(J S1 S2 R1 R2 E L:Nat)(vx vy:Value)(A B:List qj)(M:List qac)(vW:Value)(γ:Gh)(X:World):Prop where
 keep:Keep (fun b=>b<N) w X
 rule:RuleIn n X sh sb r
 size:n<=X.heap.size
 lt:N+1<X.heap.size
 c0:X.cell? ⟨N+1,0,none⟩=some (.string r.head.pred)
 c1:X.cell? ⟨N+1,1,none⟩=some sh
 c2:X.cell? ⟨N+1,2,none⟩=some sb
 xs:RSt X (some R1) A
 ys:RSt X (some R2) B
 want:OwnM L X vW M
 inv:GInv γ X
 sts:qfr [S1,S2] γ
 cA:qd1 γ (some S1)=A
 cB:qd1 γ (some S2)=B
 join:JoinIs γ X J r
 b1:X.heap[E]?=some (.cells #[qk J] 35 (0,0))
 b2:X.heap[E+1]?=some (.cells #[qa1 (some S1)] 42 (0,0))
 b3:X.heap[E+2]?=some (.cells #[qa1 (some S2)] 42 (0,0))
 f1:γ.free E
 f2:γ.free (E+1)
 f3:γ.free (E+2)
 lenA:StoreAt γ.tag X S1 A
 lenB:StoreAt γ.tag X S2 B
 x0:X.cell? ⟨R1,0,none⟩=some vx
 y0:X.cell? ⟨R2,0,none⟩=some vy
 xlt:R1<X.heap.size
 ylt:R2<X.heap.size
def qk1 (b:Bool)(A:List qj):List qj:=cond b A []
def qhv (b:Bool)(S:Nat):Option Nat:=cond b (some S) none
section
variable {n N : Nat} {w : World} {r : RuleD} {sh sb : Value} {J S1 S2 R1 R2 E L : Nat} {A B F : List qj} {M : List qac} {vW vx vy : Value} {γ : Gh} {X : World}
theorem EaP.cut {p:Bool}(h:EaP r A B F M)(q:Bool):EaP r (qk1 p A) (qk1 q B) F (qd0 (qcx r.body (fun _=>qk1 p A) (qk1 q B)) r):=by
 refine⟨h.ok,h.terms,h.vast,?_,fun f b=>?_,fun f b=>?_,rfl⟩
 ·cases p
  ·exact .nil
  ·exact h.nA
 ·cases p
  ·cases b
  ·exact h.iA f b
 ·cases p
  ·cases b
  ·exact h.oA f b
theorem EaW.cc (h:EaW n N w r sh sb J S1 S2 R1 R2 E L vx vy A B M vW γ X):X.cell? ⟨N+1,0,none⟩=some (.string r.head.pred)/\X.cell? ⟨N+1,1,none⟩=some sh/\X.cell? ⟨N+1,2,none⟩=some sb:=⟨h.c0,h.c1,h.c2⟩
theorem EaW.c2c (h:EaW n N w r sh sb J S1 S2 R1 R2 E L vx vy A B M vW γ X):X.cell? ⟨R1,0,none⟩=some vx/\X.cell? ⟨R2,0,none⟩=some vy:=⟨h.x0,h.y0⟩
theorem EaW.cnt (h:EaW n N w r sh sb J S1 S2 R1 R2 E L vx vy A B M vW γ X)(p q:Bool):qd1 γ (qhv p S1)=qk1 p A/\qd1 γ (qhv q S2)=qk1 q B:=by
 refine⟨?_,?_⟩
 ·cases p
  ·rfl
  ·exact h.cA
 ·cases q
  ·rfl
  ·exact h.cB
theorem q15 {p:Bool}{S T:Nat}{Ss:List Nat}(h:S∈Ss)(e:qhv p S=some T):T∈Ss:=by
 cases p
 ·cases e
 ·cases e;exact h
theorem EaW.gather (h:EaW n N w r sh sb J S1 S2 R1 R2 E L vx vy A B M vW γ X)(P:EaP r A B F M)(p q:Bool){Bj c b:Nat}
  (m:X.heap[Bj]?=some (.cells #[qk J] 35 (0,0))) (t:X.heap[c]?=some (.cells #[qa1 (qhv p S1)] 42 (0,0))) (u:X.heap[b]?=some (.cells #[qa1 (qhv q S2)] 42 (0,0))) (y:γ.free Bj) (z:γ.free c) (R:γ.free b):
  Calls prog 17 #[.func (.func 65) #[] #[qk Bj,qk c,qk b],.int .i64 (-1)] X fun e Y=> ∃γ' v qs,e=.returned v/\GStep 0 γ X γ' Y/\γ'.st=γ.st/\MqsI X.heap.size Y.heap.size γ' Y v qs/\qs.map (·.1)=qd0 (qcx r.body (fun _=>qk1 p A) (qk1 q B)) r:=by
 obtain⟨d,x⟩:=h.cnt p q;refine(qnl h.inv h.sts (ya _) P.ok h.join (s:=qhv p S1) (sN:=qhv q S2) (fun S e=>q15 wC e) (fun S e=>q15 wC e) m t u y z R ?_).mono ?_
 ·have:=qx1 h.inv (qhv p S1) (qhv q S2) P.ok (l:=F) (fun f g=>by rw [d] at g;exact(P.cut (p:=p) q).iA f g) P.vast;omega
 ·rintro e Y ⟨γ',v,qs,U,h2,h3,h4,h5⟩;refine⟨γ',v,qs,U,h2,h3,MqsI.new h4,?_⟩;rw [h5];unfold qi5;rw [d,x]
theorem EaW.part (h:EaW n N w r sh sb J S1 S2 R1 R2 E L vx vy A B M vW γ X)(P:EaP r A B F M){k:Nat}(y:k<=M.length):
  Calls prog 17 #[.func (.func 65) #[] #[qk E,qk (E+1),qk (E+2)],.int .i64 (k:Int)] X fun e Y=> ∃γ' v qs S,e=.returned v/\GStep 0 γ X γ' Y/\γ'.st=γ.st/\MqsI X.heap.size Y.heap.size γ' Y v qs/\qs.map (·.1)=S/\S.length=k/\qec S M=true/\qqj S/\ ∀m,m∈S->m.head.length<=1073741824/\m.vals.length<=1073741824:=by
 refine(qmo h.inv h.sts (ya _) P.ok h.join (s:=some S1) (sN:=some S2) (fun S e=>by cases e;simp) (fun S e=>by cases e;simp) h.b1 h.b2 h.b3 h.f1 h.f2 h.f3 ?_ (k:Int)).mono ?_
 ·have:=qx1 h.inv (some S1) (some S2) P.ok (l:=F) (fun f p=>by rw [h.cA] at p;exact P.iA f p) P.vast;omega
 ·rintro e Y ⟨γ',v,qs,q,t,u,x,d⟩;have g:qd3 ((qix γ (some S1) (some S2) r (-1)).map (qbl r))=M:=by
   rw [qrn h.inv _ _ P.ok,←P.all];unfold qi5;rw [h.cA,h.cB]
  have hl:(qix γ (some S1) (some S2) r (-1)).length=M.length:=by rw [←g,qg0,zL]
  have b:qjf (k:Int) (qix γ (some S1) (some S2) r (-1)).length=k:=by unfold qjf;rw [zF wA];omega
  rw [b]at d;obtain⟨R,c,U⟩:=q4z g P.nodup y;refine⟨γ',v,qs,_,q,t,u,MqsI.new x,d,R,c,U,fun m z=>P.small m ?_⟩;unfold qec at c;have:=yM.1 c m z;rw [qup]at this;exact yE this
theorem EaW.doc (h:EaW n N w r sh sb J S1 S2 R1 R2 E L vx vy A B M vW γ X)(P:EaP r A B F M)(p q:Bool):
  Calls prog 16 #[.agg #[.string r.head.pred,sh,sb],qhm (qhv p R1),qhm (qhv q R2)] X fun e Y=> ∃v,e=.returned v/\wE X Y/\qfe Y.heap.size Y v (qd0 (qcx r.body (fun _=>qk1 p A) (qk1 q B)) r):=by
 refine(qrz (sA:=qhv p R1) (sN:=qhv q R2) P.ok h.rule h.size ?_ ?_ (P.cut (p:=p) q).oA (P.cut (p:=p) q).few P.terms).mono ?_
 ·cases p
  ·rfl
  ·exact h.xs
 ·cases q
  ·rfl
  ·exact h.ys
 ·rintro e Y ⟨v,b,c,d⟩;exact⟨v,b,c,d.matches⟩
end
end Go.Proofs
namespace Go.Proofs
open Go.RowKit Go.Ink Go.Flt R4 P16
attribute [local go_sem] Oper.semAt_some
structure q16 (r:RuleD)(fs:List qj):Prop where
 stands:r.stands.length<=1073741824
 terms:(qbu r).length<=1073741824
 rule:quu r
 tup: ∀f,f∈fs->f.tuple.length<=1073741424
 pred: ∀f,f∈fs->f.pred.size<=1073741824
 tot:fs.length<=1073741824
theorem qp9 {n:Nat}{r:RuleD}{sh sb vo vd va vn vc:Value}{k:Int}{fa fn:List qj}{w:World}(hr:RuleIn n w sh sb r)(dx:FactsIn n w va fa)(dy:FactsIn n w vn fn)(hn:n<=w.heap.size)(dB:q16 r (fa++fn))(fc:Tab w):
  Calls prog 3 #[.agg #[.string r.head.pred,sh,sb,.int .i64 k,vo,vd,va,vn,vc]] w fun e w'=>e=.returned (.bool true)/\Keep (fun b=>b<w.heap.size) w w':=by
 obtain⟨N,hN⟩:=ex (w.heap.size);obtain⟨F,cO⟩:=ex (fa++fn);rw [cO]at dB;obtain⟨al,ao,rfl,-,-,-⟩:=id hr.1;obtain⟨ak,am,rfl,-,-,-⟩:=id hr.2;obtain⟨af,cf,rfl,-,-,-⟩:=id dx;obtain⟨an,cn,rfl,-,-,-⟩:=id dy;obtain⟨W0,cQ⟩:=ex (w.alloc (.cells #[.string r.head.pred,.slice al r.head.args.length ao,.slice ak r.body.length am,.int .i64 k,vo,vd,.slice af fa.length cf,.slice an fn.length cn,vc] 31));have k0:wE w W0:=by rw [←cQ];exact kAl
 have p0:W0.heap[N]?=some (.cells #[.string r.head.pred,.slice al r.head.args.length ao,.slice ak r.body.length am,.int .i64 k,vo,vd,.slice af fa.length cf,.slice an fn.length cn,vc] 31 (0,0)):=by rw [←cQ,←hN];exact qh _ _
 have z0:W0.heap.size=N+1:=by rw [←cQ,←hN];simp
 have c0:=qb p0 0 _ rfl;have c1:=qb p0 1 _ rfl;have c2:=qb p0 2 _ rfl;have c3:=qb p0 3 _ rfl;have c6:=qb p0 6 _ rfl;have c7:=qb p0 7 _ rfl;simp only [zD]at c0 c1 c2 c3 c6 c7;have lN:N<W0.heap.size:=wA
 obtain⟨W1,cR⟩:=ex ((W0.alloc (.cells #[.string r.head.pred,.slice al r.head.args.length ao,.slice ak r.body.length am] 27)).drew);have k1:wE W0 W1:=by rw [←cR];exact kAl.trans kDr
 have p1:W1.heap[N+1]?=some (.cells #[.string r.head.pred,.slice al r.head.args.length ao,.slice ak r.body.length am] 27 (0,0)):=by rw [←cR,←z0];exact(Keep.drew (fun _=>True) _).heap (qh W0 _) trivial
 have z1:W1.heap.size=N+2:=by rw [←cR];simp [z0]
 obtain⟨We,dv⟩:=ex (W1.drew);have ke:wE W1 We:=by rw [←dv];exact kDr
 have ze:We.heap.size=N+2:=by rw [←dv,←z1];rfl
 obtain⟨Wb,cS⟩:=ex (We.alloc (.cells #[.slice af fa.length cf,.slice an fn.length cn] 28));have kb:wE We Wb:=by rw [←cS];exact kAl
 have zb:Wb.heap.size=N+3:=by rw [←cS];simp [ze]
 have pb:Wb.heap[N+2]?=some (.cells #[.slice af fa.length cf,.slice an fn.length cn] 28 (0,0)):=by rw [←cS,←ze];exact qh _ _
 have hS: ∀X,Keep (fun b=>b<N+2) W1 X->X.cell? ⟨N+1,0,none⟩=some (.string r.head.pred)/\X.cell? ⟨N+1,1,none⟩=some (.slice al r.head.args.length ao)/\X.cell? ⟨N+1,2,none⟩=some (.slice ak r.body.length am):=fun X hX=>by
  have q:=hX.heap p1 wA;have q0:=qb q 0 _ rfl;have q1:=qb q 1 _ rfl;have q2:=qb q 2 _ rfl;simp only [zD]at q0 q1 q2;exact⟨q0,q1,q2⟩
 have gI:wE w W1:=k0.trans k1;have gK:wE w Wb:=(gI.trans ke).trans kb;have gx:SliceIn (N+3) Wb 1 (q7f n) (.slice (some ⟨N+2,0,none⟩) 2 2) [fa,fn]:=by
  refine⟨_,2,rfl,wC,⟨wC,wD⟩,fun j l hj=>⟨N+2,0,rfl,wA,?_⟩⟩;have jF:Keep (fun b=>b<n) w Wb:=gK.mt
  match j,hj with
  |0,hj=>cases hj;exact⟨_,by have:=qb pb 0 _ rfl;simpa using this,dx.keep jF⟩
  |1,hj=>cases hj;exact⟨_,by have:=qb pb 1 _ rfl;simpa using this,dy.keep jF⟩
 have gs:=q32 gx wA wA (by have:=dB.tot;rw [←cO] at this;simpa using this);rw [show([fa,fn].flatten:List qj)=F by rw [←cO];simp]at gs;have jp:=hS We ke.mt;have du:=hS Wb ((ke.trans kb).mt);have lO:N+1<We.heap.size:=wA
 refine qby ?_ cO hr dx dy dB fc hN cQ k0 p0 z0 cR k1 p1 z1 dv;clear cO hr dx dy dB fc hN cQ k0 p0 z0 cR k1 p1 z1 dv;intro bz bl b7 b8 y fP m d9 kV lg ja ea kW lh lp ec;refine qlx ?_ ke ze cS kb zb pb hS gI gK gx gs jp du;clear ke ze cS kb zb pb hS gI gK gx gs jp du;intro iD jb eb iC cG li av aq iH ip eg d6 d7
 go_enter Tryz.func3,Tryz.ntmps3
 go_wp2_with fail;rw [d9.o,m.o]
 go_region
 rw [ea.o,ja.o];go_wp2_with fail;refine qau rfl (fun X=>X.cell? ⟨N+1,0,none⟩=some (.string r.head.pred)/\X.cell? ⟨N+1,1,none⟩=some (.slice al r.head.args.length ao)/\X.cell? ⟨N+1,2,none⟩=some (.slice ak r.body.length am)) [] ?_;rw [ec.o];refine qq [0,1,2] ?_
 iterate 3
  refine tkA rfl d6.o ?_
  try simp only [qr]
 refine ql ?_;refine ho 3 rfl fun K aF=>?_;go_wp2_with fail;rw [eb.o,jb.o];refine aF.o _ _ (fun _=>d7.o) ?_;refine ho 4 rfl fun K aG=>?_;go_wp2_with fail;refine eg.o.mono ?_;rintro e W2 ⟨v2,rfl,k2,gh⟩;have dD:Keep (fun b=>b<N+2) W1 W2:=((iD.o.trans iC.o).mt).trans (k2.mono fun b _ h=>by have:=cG.o;omega);have z2:=k2.size;have gJ:Keep (fun b=>b<N) w W2:=aq.o.mt.trans (dD.mono fun b _ h=>wA);have jq:=av.o W2 dD;have jm:n<=W2.heap.size:=by have:=cG.o;have:=m.o;omega
 have dC:=q6u (n:=W2.heap.size) ((bl.o.keep (gJ.mono fun b _ h=>by have:=m.o;omega)).wider jm) gh (zG _) y.o.stands y.o.tup;obtain⟨a2,oi,rfl,-,-,-⟩:=id gh;unfold qaq at dC;obtain⟨bv,gk⟩:=ex (qhd r F);rw [gk]at dC;clear gh;refine hd6 ?_ k2 dD gJ jq dC gk;clear k2 dD gJ jq dC gk;intro kX et iE d8 er bg;go_wp2_with fail;refine aG.o _ _ (fun _=>d8.o) ?_;refine ho 5 rfl fun K aH=>?_;go_wp2_with fail;refine er.o.mono ?_;rintro e W3 ⟨rfl,k3⟩;have dE:Keep (fun b=>b<N+2) W1 W3:=et.o.trans (k3.mono fun b _ h=>by have:=cG.o;omega);have jr:=av.o W3 dE;have jO:Keep (fun b=>b<N) w W3:=aq.o.mt.trans (dE.mono fun b _ h=>wA);have lL:N+1<W3.heap.size:=by have:=k3.size;have:=cG.o;omega
 refine hd4 ?_ k3 dE jr jO;clear k3 dE jr jO;intro kZ eu bO ce;go_wp2_with fail;refine aH.o _ _ (fun _=>bO.o) ?_;refine qa0 wB ?_;clear aF aG aH;cases bv with
 |true=>
  go_wp2_with fail;refine(qnm W3).mono ?_;rintro e W9 ⟨rfl,k9⟩;refine hd1 ?_ k9;clear k9;intro k7;go_wp2_with fail;go_ret;rw [m.o];exact⟨rfl,ce.o.trans (k7.o.mono fun b _ h=>wA)⟩
 |false=>
  as_aux_lemma=>
  obtain⟨mj,mk,ml⟩:=bO.o;have gy:=bl.o.keep (ce.o.mono fun b _ h=>by have:=m.o;omega);have gq:=qxo gy (by have:=m.o;omega);unfold qaq at gq;refine hd2 ?_ gy gq;clear gy gq;intro ej ef;go_wp2_with fail;refine ef.o.mono ?_;rintro e W4 ⟨oG,oF,rfl,dt,k4⟩;have cU:=dt.rule (qpk ej.o);obtain⟨oe,ol,rfl⟩:=qi dt.1;obtain⟨oD,jH,jG,-⟩:=id dt.2;obtain⟨od,ok,rfl⟩:=qi jG;have gp:=qkt cU (zG _);unfold qaq at gp;clear dt jG jH;refine hd3 ?_ cU k4 gp;clear cU k4 gp;intro fQ fS ee;go_wp2_with fail;refine ee.o.mono ?_;rintro e W5 ⟨k5,gn⟩;have z4:=fS.o.size;have z5:=k5.size;have bt:Keep (fun b=>b<N+2) W1 W5:=eu.o.trans ((fS.o.mono fun b _ h=>wA).trans (k5.mono fun b _ h=>wA));have c9:Keep (fun b=>b<N) w W5:=aq.o.mt.trans (bt.mono fun b _ h=>wA);have lM:N+1<W5.heap.size:=wA
  have au: ∀X,Keep (fun b=>b<N) w X->Calls prog 11 #[qaq r (.slice al r.head.args.length ao) (.slice ak r.body.length am)] X fun e w'=>e=.returned (.int .i64 (qds r))/\Keep (fun b=>b<X.heap.size) X w':=fun X hX=>
   qwq (w:=X) (bl.o.keep (hX.mono fun b _ h=>by have:=m.o;omega)) (by have:=hX.size;have:=m.o;omega) y.o.rule y.o.terms
  have br:=au W5 c9;obtain⟨mm,mn,mo⟩:=av.o W5 bt;unfold qaq at br au;clear mj mk ml;rcases gn with ⟨h0,rfl⟩ |⟨hro,J,vha,vbb,vv,va',vt,vhh,rfl,hj⟩
  ·as_aux_lemma=>
   have op:((qds r:Int) !=0)=true:=by simp [h0]
   clear h0;refine hd5 ?_ k5 bt c9 br au;clear k5 bt c9 br au;intro ix bi ey bh aZ;go_wp2_with fail;refine bh.o.mono ?_;rintro e W6 ⟨rfl,k6⟩;have z6:=k6.size;have aP:Keep (fun b=>b<N+2) W1 W6:=bi.o.trans (k6.mono fun b _ h=>wA);have bc:Keep (fun b=>b<N) w W6:=aq.o.mt.trans (aP.mono fun b _ h=>wA);have jn:N+1<W6.heap.size:=wA
   obtain⟨Wd,a9⟩:=ex (W6.drew);have kd:wE W6 Wd:=by rw [←a9];exact kDr
   have gG:Keep (fun b=>b<N+2) W1 Wd:=aP.trans kd.mt;have gL:Keep (fun b=>b<N) w Wd:=bc.trans kd.mt;have js:=av.o Wd gG;have jo:N+1<Wd.heap.size:=by have:=kd.size;omega
   have jI:=aZ.o Wd gL;refine hd9 ?_ k6 aP bc a9 kd gG gL js jI;clear k6 aP bc a9 kd gG gL js jI;intro iz ca bj b6 la iv iI bP iq;go_wp2_with fail;refine qau rfl (fun X=>X.cell? ⟨N+1,0,none⟩=some (.string r.head.pred)/\X.cell? ⟨N+1,1,none⟩=some (.slice al r.head.args.length ao)/\X.cell? ⟨N+1,2,none⟩=some (.slice ak r.body.length am)) [] ?_;rw [b6.o];refine qq [0,1,2] ?_
   iterate 3
    refine tkA rfl bP.o ?_
    try simp only [qr]
   refine ql ?_;refine qq [3,5] ?_
   iterate 2
    refine tkA rfl bP.o ?_
    try simp only [qr]
   refine ql ?_
   as_aux_lemma=>
   refine ho 4 rfl fun K bK=>?_;go_wp2_with fail;refine(qyt _ _).mono ?_;rintro e w9 ⟨rfl,gB⟩;have gB:=gB.symm;subst gB;go_wp2_with fail;refine bK.o _ _ (fun _=>bP.o) ?_;clear bK
   as_aux_lemma=>
   refine ho 6 rfl fun K bL=>?_;go_wp2_with fail;refine iq.o.mono ?_;rintro e Y1 ⟨rfl,ap⟩;have gE:Keep (fun b=>b<N+2) W1 Y1:=iv.o.trans (ap.mono fun b _ h=>wA);have jP:Keep (fun b=>b<N) w Y1:=iI.o.trans (ap.mono fun b _ h=>wA);have eR:=av.o Y1 gE;have oq:N+1<Y1.heap.size:=by have:=ap.size;omega
   clear ap;refine hd3 ?_ gE jP eR;clear gE jP eR;intro iu iF aT;go_wp2_with fail;refine bL.o _ _ (fun _=>aT.o) ?_;clear bL;refine qaz (i:=7) (v:=.bool true) rfl wB wB wB wB (fun _ _ _ h=>h) aT.o (Or.inl ⟨by rfl,fun Wq bq=>(by go_simp;try simp)⟩) ?_
   try simp only [Act.put,getElem_toArray,getElem_cons_zero,getElem_cons_succ,yK,set_cons_zero,set_cons_succ]
   refine qq [8,9] ?_
   iterate 2
    refine tkA rfl aT.o ?_
    try simp only [qr]
   refine ql ?_
   as_aux_lemma=>
   refine ho 10 rfl fun K bM=>?_;go_wp2_with fail;refine(qnm Y1).mono ?_;rintro e Y2 ⟨rfl,aD⟩;have gF:Keep (fun b=>b<N+2) W1 Y2:=iu.o.trans (aD.mono fun b _ h=>wA);have jQ:Keep (fun b=>b<N) w Y2:=iF.o.trans (aD.mono fun b _ h=>wA);have bk:=av.o Y2 gF;clear aD;refine hd3 ?_ gF jQ bk;clear gF jQ bk;intro mP iG bN;go_wp2_with fail;refine bM.o _ _ (fun _=>bN.o) ?_;clear bM;refine qq [11,12] ?_
   iterate 2
    refine tkA rfl bN.o ?_
    try simp only [qr]
   refine ql ?_;refine qa0 wB ?_;go_wp2_with fail;go_ret;rw [m.o];exact⟨rfl,iG.o⟩
  ·as_aux_lemma=>
   have jk:=qqh (qoe W4) hj;rw [q71 hro]at br;clear hj;refine hd7 ?_ k5 bt c9 br au hro jk;clear k5 bt c9 br au hro jk;intro ix bi ey bh aZ b9 dX;go_wp2_with fail;refine bh.o.mono ?_;rintro e W6 ⟨rfl,k6⟩;have z6:=k6.size;have jl:=dX.o.step (GStep.below (n0:=0) (qoe W5) k6);have aP:Keep (fun b=>b<N+2) W1 W6:=bi.o.trans (k6.mono fun b _ h=>wA);have bc:Keep (fun b=>b<N) w W6:=aq.o.mt.trans (aP.mono fun b _ h=>wA);have jn:N+1<W6.heap.size:=wA
   have gi:F.length<=400:=(ql5 bg.o).1;have lI:fa.length+fn.length<=400:=by rw [←bz.o] at gi;simpa only [zR] using gi
   have gu: ∀f,(f∈fa∨f∈fn)->f∈F:=fun f h=>by rw [←bz.o];exact zr.2 h
   clear mm mn mo;have bb:=qkb (n0:=0) (qoe W6) (b7.o.keep (bc.mono fun b _ h=>by have:=m.o;omega)) (by have:=m.o;omega) (fun b _=>qiw b) (fun f hf=>y.o.pred f (gu f (.inl hf))) wA;refine hd6 ?_ k6 jl aP bc gu bb;clear k6 jl aP bc gu bb;intro iz dY ca bj aJ aL;go_wp2_with fail;refine aL.o.mono ?_;rintro e Z1 ⟨S1,g1,rfl,s1,hm,-,du⟩
   as_aux_lemma=>
   have q1:=qof s1;have gd:g1.st S1=some (qc6 okF fa):=by rw [hm];unfold Gh.with;simp
   have mb:S1<Z1.heap.size:=by
    obtain⟨T,M,MX,vx,xs,rl,hP⟩:=s1.inv.store S1 _ gd;exact qe hP.box
   have lW:=s1.keep.size;have gM:Keep (fun b=>b<N) w Z1:=bj.o.trans q1.mt;have bb:=qkb (n0:=0) s1.inv (b8.o.keep (gM.mono fun b _ h=>by have:=m.o;omega)) (by have:=m.o;omega) (fun b hb=>s1.new b (by have:=m.o;omega) (qiw b)) (fun f hf=>y.o.pred f (aJ.o f (.inr hf))) wA;clear aL;refine hd6 ?_ s1 q1 hm gd gM bb;clear s1 q1 hm gd gM bb;intro iT lj i3 dT iJ aL;go_wp2_with fail;refine aL.o.mono ?_;rintro e Z2 ⟨S2,g2,rfl,s2,dQ,-,bk⟩
   as_aux_lemma=>
   have gU:=iT.o.trans s2;have q2:=qof gU;have jf:g2.st S2=some (qc6 okF fn):=by rw [dQ];unfold Gh.with;simp
   have je:g2.st S1=some (qc6 okF fa):=by rw [dQ];unfold Gh.with;rw [zF wA];exact dT.o
   have lX:=s2.keep.size;have gN:Keep (fun b=>b<N) w Z2:=bj.o.trans q2.mt;have ba:=qx3 (w:=Z2) (b7.o.keep (gN.mono fun b _ h=>by have:=m.o;omega)) (by have:=m.o;omega) (fun f hf=>y.o.pred f (aJ.o f (.inl hf))) wA;unfold qk at ba;clear aL;refine hd8 ?_ s2 gU q2 dQ jf je gN ba;clear s2 gU q2 dQ jf je gN ba;intro ll ar lk i4 dV dU ez aK;go_wp2_with fail;refine aK.o.mono ?_;rintro e Z3 ⟨R1,oz,rfl,w1,jX,lP,dF⟩
   as_aux_lemma=>
   have gO:Keep (fun b=>b<N) w Z3:=ez.o.trans (dF.mt);have lY:=dF.size;have ba:=qx3 (w:=Z3) (b8.o.keep (gO.mono fun b _ h=>by have:=m.o;omega)) (by have:=m.o;omega) (fun f hf=>y.o.pred f (aJ.o f (.inr hf))) wA;unfold qk at ba;clear aK;refine hd5 ?_ w1 jX dF gO ba;clear w1 jX dF gO ba;intro i5 eD ew eA aK;go_wp2_with fail;refine aK.o.mono ?_;rintro e Z4 ⟨R2,oC,rfl,w2,jY,lQ,dG⟩;have jR:Keep (fun b=>b<N) w Z4:=eA.o.trans (dG.mt);have lZ:=dG.size;have z:=qia J (some S1) (some S2) Z4;unfold qa1 at z;simp only [Option.map_some]at z;clear aK;refine hd5 ?_ w2 jY dG jR z;clear w2 jY dG jR z;intro i8 eE cd eB ab;go_wp2_with fail;refine ab.o.mono ?_;rintro e Z5 ⟨rfl,b1,b2,b3,mA,bu⟩
   as_aux_lemma=>
   have gH:wE Z2 Z5:=(ew.o.trans cd.o).trans bu;have gW:=GStep.own (n0:=0) ar.o.inv gH;have dL:=ar.o.trans gW;have dI:Keep (fun b=>b<N) w Z5:=eB.o.trans (bu.mt);have cY:Keep (fun b=>b<N+2) W1 Z5:=ca.o.trans ((qof dL).mt);obtain⟨A,hA⟩:=ex (qc6 okF fa);obtain⟨B,hB⟩:=ex (qc6 okF fn);have e1:=dU.o;have e2:=dV.o;have m1:=eD.o;have m2:=eE.o;rw [hA]at e1 m1;rw [hB]at e2 m2;have oA: ∀x,x∈A->okF x=true:=by rw [←hA];exact qpq fa
   have oB: ∀x,x∈B->okF x=true:=by rw [←hB];exact qpq fn
   have iA: ∀x,x∈A->x∈F:=fun x hx=>aJ.o x (.inl (qz2 (by rw [hA];exact hx)));have lA:A.length<=400:=by have:=qku fa;rw [hA] at this;omega
   have lB:B.length<=400:=by have:=qku fn;rw [hB] at this;omega
   have cT: ∀γ:Gh,γ.st=g2.st->qd1 γ (some S1)=A/\qd1 γ (some S2)=B:=fun γ h=>by
    unfold qd1;simp only [h,e1,e2,Option.getD_some,and_self]
   have jL: ∀γ:Gh,γ.st=g2.st->qfr [S1,S2] γ:=fun γ bb S hS=>by
    rw [bb];simp only [zw,yS,yf]at hS;rcases hS with h |h
    ·rw [h];exact⟨_,e1,oA⟩
    ·rw [h];exact⟨_,e2,oB⟩
   have nA:A.Nodup:=by have:=qsi ar.o.inv (some S1);rw [(cT g2 rfl).1] at this;exact this
   obtain⟨M,hM⟩:=ex (qd0 (qcx r.body (fun _=>A) B) r);have hP:EaP r A B F M:=⟨b9.o,y.o.terms,bg.o,nA,iA,oA,hM⟩;have hp:=i5.o.keep (cd.o.trans bu);have hu:=i8.o.keep bu;have dA:=qrz (n:=n) (w:=Z5) (sA:=some R1) (sN:=some R2) (A:=A) (B:=B) b9.o (bl.o.keep (dI.mono fun b _ h=>by have:=m.o;omega)) (by have:=dI.size;have:=m.o;omega) (hp.to m1 lA) (hu.to m2 lB) oA (qx2 nA iA bg.o) y.o.terms;unfold qaq qhm at dA;simp only [Option.map_some]at dA;obtain⟨t0,t1,t2⟩:=av.o Z5 cY;have lS:N+1<Z5.heap.size:=wA
   have eQ:=dY.o.step dL;obtain⟨E,hE⟩:=ex (Z4.heap.size);rw [hE]at b1 b2 b3;rw [hE];have lG:Z2.heap.size<=E:=wA
   have lH:E+3=Z5.heap.size:=wA
   clear ab;refine qby ?_ bu gH gW dL dI cY hA hB e1 e2 m1 m2 oA oB iA lA;clear bu gH gW dL dI cY hA hB e1 e2 m1 m2 oA oB iA lA;intro iy iw cE eF eC cb kP kQ h1 h2 fV fZ ld lf kU iM;refine qk2 ?_ lB cT jL nA hM hP hp hu dA eQ b1 b2 b3 hE;clear lB cT jL nA hM hP hp hu dA eQ b1 b2 b3 hE;intro iN aY eo lc dg t eO eP el bD hW hY hZ kR;go_wp2_with fail;refine el.o.mono ?_;rintro e Z6 ⟨vW,rfl,ae,bp⟩
   as_aux_lemma=>
   have bp:OwnM Z5.heap.size Z6 vW M:=by rw [←dg.o];exact bp
   obtain⟨aw,cw,rfl⟩:=bp.form;have gX:=cE.o.trans (GStep.own (n0:=0) cE.o.inv ae);have i6:=gX.inv;have l0:=ae.size;have fr: ∀b,b<W6.heap.size->g2.free b:=fun b hb=>ar.o.new b hb (qiw b);have aa: ∀b,Z2.heap.size<=b->g2.free b:=fun b hb=>qdm ar.o.inv hb;have gP:Keep (fun b=>b<N) w Z6:=eC.o.trans (ae.mt);have cZ:Keep (fun b=>b<N+2) W1 Z6:=cb.o.trans (ae.mt);have dR:=eO.o.keep ae;have dS:=eP.o.keep ae;have cP:=bD.o.step (GStep.own (n0:=0) eF.o.inv ae);obtain⟨ax,cx,gl⟩:=dR.form fV.o;obtain⟨ay,cy,gm⟩:=dS.form fZ.o;have hG: ∀γ X,GStep 0 g2 Z6 γ X->γ.st=g2.st->EaW n N w r (.slice al r.head.args.length ao) (.slice ak r.body.length am) J S1 S2 R1 R2 E Z5.heap.size (.slice ax A.length cx) (.slice ay B.length cy) A B M (.slice aw M.length cw) γ X:=fun γ X hs ht=>by
    have k1:Keep (fun b=>b<N) w X:=gP.trans (hs.keep.mono fun b _ h=>fr b wA);have k2:Keep (fun b=>b<N+2) W1 X:=cZ.trans (hs.keep.mono fun b _ h=>fr b wA);obtain⟨c0,c1,c2⟩:=av.o X k2;have q1:=ae.heap hW.o trivial;have q2:=ae.heap hY.o trivial;have q3:=ae.heap hZ.o trivial;have ow:=hs.keep.size;have qx:=hs.keep.heap gl (aa _ wA);have qy:=hs.keep.heap gm (aa _ wA);have x0:=qb qx 0 _ rfl;have y0:=qb qy 0 _ rfl;simp only [zD]at x0 y0;exact⟨k1,bl.o.keep (k1.mono fun b _ h=>by have:=m.o;omega),by have:=k1.size;have:=m.o;omega,wA,c0,c1,c2,
     (dR.keepP hs.keep fun b hb _=>aa b wA).to fV.o iM.o,(dS.keepP hs.keep fun b hb _=>aa b wA).to fZ.o iN.o,bp.keep hs.keep (fun x hx _=>aa x wA),hs.inv,eo.o γ ht,(aY.o γ ht).1,(aY.o γ ht).2,cP.step hs,
     hs.keep.heap q1 (aa _ wA),hs.keep.heap q2 (aa _ wA),hs.keep.heap q3 (aa _ wA),hs.new _ wA (aa _ wA),hs.new _ wA (aa _ wA),hs.new _ wA (aa _ wA),hs.inv.store S1 A (by rw [ht];exact h1.o),hs.inv.store S2 B (by rw [ht];exact h2.o),x0,y0,qe qx,qe qy⟩
   have s6:=GStep.refl (n0:=0) i6;have e6:=hG g2 Z6 s6 rfl;have R:=e6.gather t.o true true e6.b1 e6.b2 e6.b3 e6.f1 e6.f2 e6.f3;have jo:w.heap.size<=Z6.heap.size:=by have:=m.o;omega
   clear t0 t1 t2 el;refine qby ?_ ae bp gX i6 fr aa gP cZ dR dS gl gm cP hG s6 e6;clear ae bp gX i6 fr aa gP cZ dR dS gl gm cP hG s6 e6;intro iB ig iU kT kO ie iK fR i7 i9 il im fN s n1 nS;refine hd1 ?_ R;clear R;intro u;clear bz bl b7 b8 y d9 kV lg ja ea kW lh lp ec iD jb eb iC cG li av aq iH ip eg d6 d7 z2 jm kX et iE d8 lL kZ eu bO ce er bg ej ef fQ fS ee z4 z5 lM ix bi ey bh aZ b9 dX z6 jn gi lI iz dY ca bj aJ du mb lW iT lj i3 dT iJ bk lX ll ar lk i4 dV dU ez lP lY i5 eD ew eA lQ lZ i8 eE cd eB mA lS lG lH iy iw cE eF eC cb kP kQ h1 h2 fV fZ ld lf kU iM iN aY eo lc eO eP bD hW hY hZ kR l0 iB ig iU kT kO ie iK fR i7 i9 il im fN c0 c1 c2 c3 c6 c7 lN lO
   as_aux_lemma=>
   go_wp2_with fail;refine u.o.mono ?_;rintro e Z7 ⟨γ1,v1,dc,rfl,s7,t7,gR,jU⟩
   as_aux_lemma=>
   have r1:dc.map (·.1)=M:=jU.trans dg.o;obtain⟨a1,gb,rfl⟩:=gR.own;have e7:=s.o γ1 Z7 s7 t7;have R:=e7.gather t.o true true e7.b1 e7.b2 e7.b3 e7.f1 e7.f2 e7.f3;have ox:=s7.keep.size;clear u jU;refine hd6 ?_ s7 t7 gR r1 e7 R;clear s7 t7 gR r1 e7 R;intro f9 ln iO f8 nT u;go_wp2_with fail;refine u.o.mono ?_;rintro e Z8 ⟨γ2,v2,dd,rfl,s8,t8,dJ,jV⟩
   as_aux_lemma=>
   have r2:dd.map (·.1)=M:=jV.trans dg.o;obtain⟨a2,gc,rfl⟩:=dJ.own;have bs:=f9.o.trans s8;have gz:γ2.st=g2.st:=t8.trans ln.o;have m18:=iO.o.step s8;have oy:=s8.keep.size;have l1:dc.length=M.length:=by rw [←f8.o,zL]
   have l2:dd.length=M.length:=by rw [←r2,zL]
   rw [l1,l2];clear u jV;obtain⟨Wd,a9⟩:=ex (Z8.drew);have kd:wE Z8 Wd:=by rw [←a9];exact kDr
   have sd:=bs.trans (GStep.own (n0:=0) bs.inv kd);have gS:=m18.step (GStep.own (n0:=0) bs.inv kd);have jS:=dJ.step (GStep.own (n0:=0) bs.inv kd);have ed:=s.o γ2 Wd sd gz;have jt:=ed.cc;have os:=ed.lt;have g:=qi7 (gS.matches f8.o t.o.few t.o.small) ed.want.matches (zG _);rw [l1]at g;refine qby ?_ s8 t8 dJ r2 bs gz m18 l1 l2 a9 kd sd gS jS ed jt;clear s8 t8 dJ r2 bs gz m18 l1 l2 a9 kd sd gS jS ed jt;intro iV n2 mT iR mN ir mS iL fT b6 la lm iP iQ nU ih;refine hd1 ?_ g;clear g;intro d;have fe:=ir.o;have j1:=lm.o;have ff:=iP.o;have fu:=iQ.o;refine hd4 ?_ fe j1 ff fu;clear fe j1 ff fu;intro az iW fW f0
   go_upto_region 15 with fail
   go_cut [106] from 75 to 107 (fun c wx=>c=.bool false/\ ∃γ4,GStep 0 g2 Z6 γ4 wx/\γ4.st=g2.st/\MqsI Z6.heap.size Z7.heap.size γ4 wx (.slice a1 dc.length gb) dc/\MqsI Z7.heap.size Z8.heap.size γ4 wx (.slice a2 dd.length gc) dd)
   case first=>
    as_aux_lemma=>
    go_wp2_with fail;refine qau rfl (fun X=>X.cell? ⟨N+1,0,none⟩=some (.string r.head.pred)/\X.cell? ⟨N+1,1,none⟩=some (.slice al r.head.args.length ao)/\X.cell? ⟨N+1,2,none⟩=some (.slice ak r.body.length am)) [] ?_;rw [b6.o];refine qq [0,1] ?_
    iterate 2
     refine tkA rfl ih.o ?_
     try simp only [qr]
    refine ql ?_
    as_aux_lemma=>
    refine ho 2 rfl fun K aF=>?_;go_wp2_with fail;refine d.o.mono ?_;rintro e Y1 ⟨rfl,ap⟩;have gZ:=iW.o.keepT ap;have fg:=fW.o.keepT ap;have da:=f0.o.keepT ap;have cH:=s.o γ2 Y1 gZ az.o;have eS:=cH.cc;have jw:=cH.lt;have g:=qi7 (da.matches iR.o t.o.few t.o.small) cH.want.matches (zG _);rw [fT.o]at g;clear d;refine hd7 ?_ gZ fg da cH eS g ap;clear gZ fg da cH eS g ap;intro eG cg cq h3 aU d mO;go_wp2_with fail;refine aF.o _ _ (fun _=>aU.o) ?_;clear aF;refine qq [3,4,5,6] ?_
    iterate 4
     refine tkA rfl aU.o ?_
     try simp only [qr]
    refine ql ?_
    as_aux_lemma=>
    refine ho 7 rfl fun K aG=>?_;go_wp2_with fail;refine d.o.mono ?_;rintro e Y2 ⟨rfl,aD⟩;have g0:=eG.o.keepT aD;have fh:=cg.o.keepT aD;have fv:=cq.o.keepT aD;have dp:=s.o γ2 Y2 g0 az.o;have eT:=dp.cc;have jx:=dp.lt;have z:=qia J (some S1) none Y2;unfold qa1 at z;simp only [Option.map_some,Option.map_none]at z;clear d;refine hd7 ?_ g0 fh fv dp eT z aD;clear g0 fh fv dp eT z aD;intro aM ch cr h4 aV ab mQ;clear eG cg cq h3 aU jw;go_wp2_with fail;refine aG.o _ _ (fun _=>aV.o) ?_;clear aG;refine qq [8,9,10,11,12,15,16] ?_
    iterate 7
     refine tkA rfl aV.o ?_
     try simp only [qr]
    refine ql ?_
    as_aux_lemma=>
    refine ho 13 rfl fun K aH=>?_;go_wp2_with fail;refine ab.o.mono ?_;rintro e Y3 ⟨rfl,b1,b2,b3,zY,kY⟩;have g3:=aM.o.keepT kY;have fi:=ch.o.keepT kY;have fw:=cr.o.keepT kY;have cI:=s.o γ2 Y3 g3 az.o;have eU:=cI.cc;have jy:=cI.lt;have R:=cI.gather t.o true false b1 b2 b3 (qdm aM.o.inv (zG _)) (qdm aM.o.inv wA) (qdm aM.o.inv wA);clear b1 b2 b3 zY ab;refine hd7 ?_ g3 fi fw cI eU R kY;clear g3 fi fw cI eU R kY;intro eH ci cs h5 bQ u k8;clear aM ch cr h4 aV jx;go_wp2_with fail;refine aH.o _ _ (fun _=>bQ.o) ?_;clear aH
    as_aux_lemma=>
    refine ho 14 rfl fun K dZ=>?_;go_wp2_with fail;refine u.o.mono ?_;rintro e Y4 ⟨γ3,v3,q3,rfl,s3,t3,m3,r3⟩;have g4:=eH.o.trans s3;have cV:γ3.st=g2.st:=t3.trans az.o;have fj:=ci.o.step s3;have fx:=cs.o.step s3;obtain⟨a3,c3,rfl⟩:=m3.own;have cJ:=s.o γ3 Y4 g4 cV;have eV:=cJ.cc;have jz:=cJ.lt;have aC:=cJ.doc t.o true false;unfold qhm qhv at aC;simp only [cond_true,cond_false,Option.map_some,Option.map_none]at aC;clear u s3 t3;refine hd9 ?_ g4 fj fx cJ eV cV m3 r3 aC;clear g4 fj fx cJ eV cV m3 r3 aC;intro eI cj ct h6 bR aA cC cD aI;clear eH ci cs h5 bQ jy;go_wp2_with fail;refine dZ.o _ _ (fun _=>bR.o) ?_;clear dZ
    as_aux_lemma=>
    refine ho 17 rfl fun K d0=>?_;go_wp2_with fail;refine aI.o.mono ?_;rintro e Y5 ⟨v5,rfl,aj,a8⟩;have g5:=eI.o.keepT aj;have fk:=cj.o.keepT aj;have fy:=ct.o.keepT aj;have dq:=s.o γ3 Y5 g5 aA.o;have eW:=dq.cc;have jA:=dq.lt;have g:=qi7 ((cC.o.keepT aj).matches cD.o (t.o.cut (p:=true) false).few (t.o.cut (p:=true) false).small) a8 (zG _);obtain⟨a5,c5,rfl,-,-,-⟩:=id a8;clear a8 aI cC cD aj;refine hd6 ?_ g5 fk fy dq eW g;clear g5 fk fy dq eW g;intro eJ ck cu h7 bS d;clear eI cj ct h6 bR jz;go_wp2_with fail;refine d0.o _ _ (fun _=>bS.o) ?_;clear d0
    as_aux_lemma=>
    refine ho 18 rfl fun K d1=>?_;go_wp2_with fail;refine d.o.mono ?_;rintro e Y6 ⟨rfl,aE⟩;have g6:=eJ.o.keepT aE;have fl:=ck.o.keepT aE;have fz:=cu.o.keepT aE;have dr:=s.o γ3 Y6 g6 aA.o;have eX:=dr.cc;have jB:=dr.lt;clear d aE;have z:=qia J none (some S2) Y6;unfold qa1 at z;simp only [Option.map_some,Option.map_none]at z;refine hd6 ?_ g6 fl fz dr eX z;clear g6 fl fz dr eX z;intro aN cl cv h8 aW ab;clear eJ ck cu h7 bS jA;go_wp2_with fail;refine d1.o _ _ (fun _=>aW.o) ?_;clear d1;refine qq [19,20,21,22,23,26,27] ?_
    iterate 7
     refine tkA rfl aW.o ?_
     try simp only [qr]
    refine ql ?_
    as_aux_lemma=>
    refine ho 24 rfl fun K d2=>?_;go_wp2_with fail;refine ab.o.mono ?_;rintro e Y7 ⟨rfl,b1,b2,b3,zY,kY⟩;have g7:=aN.o.keepT kY;have fm:=cl.o.keepT kY;have fA:=cv.o.keepT kY;have cK:=s.o γ3 Y7 g7 aA.o;have eY:=cK.cc;have jC:=cK.lt;have R:=cK.gather t.o false true b1 b2 b3 (qdm aN.o.inv (zG _)) (qdm aN.o.inv wA) (qdm aN.o.inv wA);clear b1 b2 b3 zY ab;refine hd7 ?_ g7 fm fA cK eY R kY;clear g7 fm fA cK eY R kY;intro eK cm cz h9 bU u k8;clear aN cl cv h8 aW jB;go_wp2_with fail;refine d2.o _ _ (fun _=>bU.o) ?_;clear d2
    as_aux_lemma=>
    refine ho 25 rfl fun K d3=>?_;go_wp2_with fail;refine u.o.mono ?_;rintro e Y8 ⟨γ4,v3,q3,rfl,s3,t3,m3,r3⟩;have g8:=eK.o.trans s3;have ai:γ4.st=g2.st:=t3.trans aA.o;have fo:=cm.o.step s3;have fB:=cz.o.step s3;obtain⟨a3,c3,rfl⟩:=m3.own;have cL:=s.o γ4 Y8 g8 ai;have eZ:=cL.cc;have jD:=cL.lt;have aC:=cL.doc t.o false true;unfold qhm qhv at aC;simp only [cond_true,cond_false,Option.map_some,Option.map_none]at aC;clear u s3 t3;refine hd9 ?_ g8 fo fB cL eZ ai m3 r3 aC;clear g8 fo fB cL eZ ai m3 r3 aC;intro eL co cA ia bV ah cC cD aI;clear eK cm cz h9 bU jC;go_wp2_with fail;refine d3.o _ _ (fun _=>bV.o) ?_;clear d3
    as_aux_lemma=>
    refine ho 28 rfl fun K d4=>?_;go_wp2_with fail;refine aI.o.mono ?_;rintro e Y9 ⟨v5,rfl,aj,a8⟩;have g9:=eL.o.keepT aj;have fp:=co.o.keepT aj;have fC:=cA.o.keepT aj;have ds:=s.o γ4 Y9 g9 ah.o;have e0:=ds.cc;have jE:=ds.lt;have g:=qi7 ((cC.o.keepT aj).matches cD.o (t.o.cut (p:=false) true).few (t.o.cut (p:=false) true).small) a8 (zG _);obtain⟨a5,c5,rfl,-,-,-⟩:=id a8;clear a8 aI cC cD aj;refine hd6 ?_ g9 fp fC ds e0 g;clear g9 fp fC ds e0 g;intro eM cp cB ib bW d;clear eL co cA ia bV jD;go_wp2_with fail;refine d4.o _ _ (fun _=>bW.o) ?_;clear d4
    as_aux_lemma=>
    refine ho 29 rfl fun K d5=>?_;go_wp2_with fail;refine d.o.mono ?_;rintro e YA ⟨rfl,aE⟩;have bd:=eM.o.keepT aE;have aQ:=cp.o.keepT aE;have aR:=cB.o.keepT aE;have a7:=s.o γ4 YA bd ah.o;have e3:=a7.cc;have nd:=a7.lt;clear d aE;refine hd5 ?_ bd aQ aR a7 e3;clear bd aQ aR a7 e3;intro cF a4 aB dW b0;clear eM cp cB ib bW jE;go_wp2_with fail;refine d5.o _ _ (fun _=>b0.o) ?_;clear d5;refine qq [30,31] ?_
    iterate 2
     refine tkA rfl b0.o ?_
     try simp only [qr]
    refine ql ?_;refine qa0 wB ?_;go_wp2_with fail
    go_meet
    exact⟨rfl,γ4,cF.o,ah.o,a4.o,aB.o⟩
   case rest=>
    obtain⟨rfl,γ4,bd,ai,aQ,aR⟩:=hcut;obtain⟨YA,lT⟩: ∃Y,Y=wc:=⟨_,rfl⟩;subst lT
    as_aux_lemma=>
    have a7:=s.o γ4 YA bd ai;refine hd5 ?_ bd ai aQ aR a7;clear bd ai aQ aR a7;intro cF ah a4 aB dW
    go_upto_if 109 with fail
    go_cut [17] from 107 to 120 (fun c wx=>(∃kk:Nat,kk<=M.length/\c=.int .i64 (kk:Int))/\wx=YA)
    case first=>
     rcases Nat.eq_zero_or_pos M.length with hm0 |hm0
     ·as_aux_lemma=>
      have hg: ¬((0:Int)<(M.length:Int)):=by rw [hm0];decide
      refine hd1 ?_ hm0;clear hm0;intro mM;go_wp2_with fail
      go_meet
      exact⟨⟨0,ya _,rfl⟩,rfl⟩
     ·as_aux_lemma=>
      obtain⟨kk,dz,e1,e2⟩:=q5e k M.length hm0 t.o.few;have hg:(0:Int)<(M.length:Int):=Int.natCast_pos.2 hm0;have ot: ¬(M.length:Int)=0:=fun h=>absurd hg (by rw [h];decide);refine hd1 ?_ dz;clear dz;intro io;clear hm0;go_wp2_with fail
      go_meet
      exact⟨⟨kk,io.o,rfl⟩,rfl⟩
    case rest=>
     obtain⟨⟨kk,dz,rfl⟩,lV⟩:=hcut;subst lV
     as_aux_lemma=>
     have jJ:=dW.o.part t.o dz;refine hd1 ?_ jJ;clear jJ;intro em;go_wp2_with fail;refine em.o.mono ?_;rintro e YB ⟨γ5,v5,q5,Sm,rfl,s5,t5,m5,r5,gQ,w5,jd,hl⟩
     as_aux_lemma=>
     have ha:=cF.o.trans s5;have cW:γ5.st=g2.st:=t5.trans ah.o;have fq:=a4.o.step s5;have fD:=aB.o.step s5;obtain⟨a5,c5,rfl⟩:=m5.own;have l5:q5.length=kk:=by rw [←gQ,←r5,zL]
     have gf:=s.o γ5 YB ha cW;have cN:Sm.length<=20000:=by have:=t.o.few;omega
     have gC:=qz4 (m5.matches r5 cN hl) gf.want.matches (zG _);rw [w5,l5]at gC;rw [l5];have ou:((kk:Int) !=kk)=false:=wC
     have fG:=m5;have mB:=aB.o.2;clear s5 t5 m5 em;refine qk2 ?_ ha cW fq fD fG r5 gQ w5 jd hl l5 gf cN gC;clear ha cW fq fD fG r5 gQ w5 jd hl l5 gf cN gC;intro iY U fX f4 f6 iS mR n3 hU eN fU mF fM es;go_wp2_with fail;refine es.o.mono ?_;rintro e YC ⟨rfl,mC,jv⟩
     as_aux_lemma=>
     have kC:wE YB YC:=by rw [jv];exact Keep.drewN' _ _ _
     clear jv;have hc:=iY.o.keepT kC;have fs:=fX.o.keepT kC;have fE:=f4.o.keepT kC;have db:=f6.o.keepT kC;have jg:=s.o γ5 YC hc U.o;have gA:=q54 (db.matches iS.o fM.o eN.o) (zG _) hU.o;rw [fU.o]at gA;clear es;refine hd7 ?_ kC hc fs fE db jg gA;clear kC hc fs fE db jg gA;intro nV iZ fY f5 f7 mG ep;go_wp2_with fail;refine ep.o.mono ?_;rintro e YD ⟨rfl,kD⟩
     as_aux_lemma=>
     have dN:=iZ.o.keepT kD;have ft:=fY.o.keepT kD;have fF:=f5.o.keepT kD;have fH:=f7.o.keepT kD;have lF:=s.o γ5 YD dN U.o;obtain⟨YE,dw⟩:=ex (YD.alloc (.cells #[.slice a1 M.length gb,.slice a2 M.length gc,.slice a5 kk c5] 49));obtain⟨V,hV⟩:=ex (YD.heap.size);have kE:wE YD YE:=by rw [←dw];exact kAl
     have pE:YE.heap[V]?=some (.cells #[.slice a1 dc.length gb,.slice a2 dd.length gc,.slice a5 q5.length c5] 49 (0,0)):=by rw [iL.o,fT.o,fU.o,←dw,←hV];exact qh _ _
     have dO:=dN.keepT kE;have gg:=s.o γ5 YE dO U.o;have lU:=t.o.few;have jK:=qwn (w:=w) (lo:=Z6.heap.size) (ft.keepT kE) (fF.keepT kE) (fH.keepT kE) (zG _) f9.o.keep.size mB (by have:=f9.o.keep.size;have:=iV.o.keep.size;omega) (by have:=iV.o.keep.size;omega) (zG _) dO pE (by rw [iL.o];omega) (by rw [fT.o];omega) (by rw [fU.o];omega) (fun q hq=>by
      rcases hq with h |h |h
      ·exact t.o.small q.1 (by rw [←f8.o];exact yL.2 ⟨q,h,rfl⟩)
      ·exact t.o.small q.1 (by rw [←iR.o];exact yL.2 ⟨q,h,rfl⟩)
      ·exact eN.o q.1 (by rw [←iS.o];exact yL.2 ⟨q,h,rfl⟩)) fP.o (gg.keep.mono fun b _ h=>by have:=m.o;omega) jo
     clear ep ft fF fH lF lU kD;refine hd8 ?_ dN dw hV kE pE dO gg jK;clear dN dw hV kE pE dO gg jK;intro mV ik kS nW nZ mW mH en;go_wp2_with fail;rw [ik.o,kS.o];refine en.o.mono ?_;rintro e YF ⟨rfl,dP⟩
     as_aux_lemma=>
     have jh:=s.o γ5 YF dP U.o;obtain⟨Wq,bq⟩:=ex (YF.drew);have kq:wE YF Wq:=by rw [←bq];exact kDr
     have gY:=dP.keepT kq;have ad:=s.o γ5 Wq gY U.o;have R:=ad.gather t.o true true ad.b1 ad.b2 ad.b3 ad.f1 ad.f2 ad.f3;have ju:=ad.c2c;have lx:=ad.xlt;have ly:=ad.ylt;clear en;refine hd8 ?_ dP jh bq kq gY ad R ju;clear dP jh bq kq gY ad R ju;intro mX mI ij nX iX mE u ii;go_wp2_with fail;refine qau rfl (fun X=>X.cell? ⟨R1,0,none⟩=some (.slice ax A.length cx)/\X.cell? ⟨R2,0,none⟩=some (.slice ay B.length cy)) [] ?_;rw [ij.o];refine qq [0,2] ?_
     iterate 2
      refine tkA rfl ii.o ?_
      try simp only [qr]
     refine ql ?_
     as_aux_lemma=>
     refine ho 1 rfl fun K bF=>?_;go_wp2_with fail;refine u.o.mono ?_;rintro e YG ⟨γ6,v6,q6,rfl,jZ,t6,m6,r6⟩;have he:=iX.o.trans jZ;have cX:γ6.st=g2.st:=t6.trans U.o;obtain⟨a6,oj,rfl⟩:=m6.own;have bm:=s.o γ6 YG he cX;have dK:q6.map (·.1)=M:=r6.trans dg.o;have l6:q6.length=M.length:=by rw [←dK,zL]
     have g:=qi7 (m6.matches dK t.o.few t.o.small) bm.want.matches (zG _);have e4:=bm.c2c;have nq:=bm.xlt;have nu:=bm.ylt;clear u jZ t6 m6 r6;refine hd7 ?_ he cX bm dK l6 g e4;clear he cX bm dK l6 g e4;intro i0 a0 mJ mU nY d fO;go_wp2_with fail;refine bF.o _ _ (fun _=>fO.o) ?_;clear bF
     as_aux_lemma=>
     refine ho 3 rfl fun K bG=>?_;go_wp2_with fail;refine d.o.mono ?_;rintro e YH ⟨rfl,kH⟩;have hh:=i0.o.keepT kH;have bn:=s.o γ6 YH hh a0.o;have e5:=bn.c2c;have nr:=bn.xlt;have nw:=bn.ylt;have gv:=qm6 bn.lenA;unfold qk at gv;clear d kH;refine hd4 ?_ hh bn e5 gv;clear hh bn e5 gv;intro i1 mK b4 eh;go_wp2_with fail;refine bG.o _ _ (fun _=>b4.o) ?_;clear bG;refine qq [4,5,7,8,9,10,11] ?_
     iterate 7
      refine tkA rfl b4.o ?_
      try simp only [qr]
     refine ql ?_
     as_aux_lemma=>
     refine ho 6 rfl fun K bH=>?_;go_wp2_with fail;refine eh.o.mono ?_;rintro e YI ⟨rfl,kI⟩;have hi:=i1.o.keepT kI;have bo:=s.o γ6 YI hi a0.o;have e8:=bo.c2c;have ns:=bo.xlt;have nx:=bo.ylt;have gw:=qm6 bo.lenB;unfold qk at gw;clear eh kI;refine hd4 ?_ hi bo e8 gw;clear hi bo e8 gw;intro i2 mL aX ei;go_wp2_with fail;refine bH.o _ _ (fun _=>aX.o) ?_;clear bH;refine qaz (i:=12) (v:=.bool true) rfl wB wB wB wB (fun _ _ _ h=>h) aX.o (Or.inl ⟨by rfl,fun Wq bq=>(by go_simp;try simp)⟩) ?_
     try simp only [Act.put,getElem_toArray,getElem_cons_zero,getElem_cons_succ,yK,set_cons_zero,set_cons_succ]
     refine qq [13,14,15,17,18,19,20,21] ?_
     iterate 8
      refine tkA rfl aX.o ?_
      try simp only [qr]
     refine ql ?_
     as_aux_lemma=>
     refine ho 16 rfl fun K bI=>?_;go_wp2_with fail;refine ei.o.mono ?_;rintro e YJ ⟨rfl,kJ⟩;have hk:=i2.o.keepT kJ;have cM:=s.o γ6 YJ hk a0.o;have e9:=cM.c2c;have nt:=cM.xlt;have ny:=cM.ylt;clear ei kJ;refine hd3 ?_ hk cM e9;clear hk cM e9;intro mY bf ag;go_wp2_with fail;refine bI.o _ _ (fun _=>ag.o) ?_;clear bI;refine qaz (i:=22) (v:=.bool true) rfl wB wB wB wB (fun _ _ _ h=>h) ag.o (Or.inl ⟨by rfl,fun Wq bq=>(by go_simp;try simp)⟩) ?_
     try simp only [Act.put,getElem_toArray,getElem_cons_zero,getElem_cons_succ,yK,set_cons_zero,set_cons_succ]
     refine qq [23,24] ?_
     iterate 2
      refine tkA rfl ag.o ?_
      try simp only [qr]
     refine ql ?_
     as_aux_lemma=>
     refine ho 25 rfl fun K bJ=>?_;go_wp2_with fail;refine(qnm YJ).mono ?_;rintro e YK ⟨rfl,kK⟩;have kw:=bf.o.keep.trans (kK.mono fun b _ h=>by have:=bf.o.lt;omega);have fb:YK.cell? ⟨R1,0,none⟩=some (.slice ax A.length cx)/\YK.cell? ⟨R2,0,none⟩=some (.slice ay B.length cy):=⟨kK.cell ag.o.1 bf.o.xlt,kK.cell ag.o.2 bf.o.ylt⟩;clear kK;refine hd2 ?_ kw fb;clear kw fb;intro lb b5;go_wp2_with fail;refine bJ.o _ _ (fun _=>b5.o) ?_;clear bJ;refine qq [26,27] ?_
     iterate 2
      refine tkA rfl b5.o ?_
      try simp only [qr]
     refine ql ?_;refine qa0 wB ?_;go_wp2_with fail;go_ret;rw [m.o];exact⟨rfl,lb.o⟩
end Go.Proofs
