/- Parts of the proof. -/
import Derived.Test.YtnponcjnahicnaaGreatRelIToRelK
set_option linter.unusedSimpArgs false
set_option linter.unusedVariables false
set_option maxRecDepth 100000
set_option maxHeartbeats 4000000
open Go.Proofs.Tryz(prog)
open List(find?_some flatten_cons getElem?_zipIdx getElem_cons_succ getElem_cons_zero getElem_toArray length_cons length_singleton nodup_nil set_cons_succ set_cons_zero zipIdx_append)
namespace Go.Proofs.R4
open Go.RowKit Go.Ink
attribute [local go_sem] Oper.semAt_some
theorem q0e {F:World->Prop}{w:World}(G:World->Prop)(h:G w)(k: ∀W,G W->F W):F w:=k w h
theorem qvg {tag:qcg}{w:World}{n:Nat}{ts:List (List Int)}{c:List Bool}{L M:Nat}{l:List Int}{vl:Value}{m:List (List Int×Value)}(h:LookAt tag w n ts c L l vl M m)(bH: ∀b T,tag b=some T->b<w.heap.size)(hn:n<=16)(a0:ts.length<=536870912)
  (v:Value) (t:List Int) (hs:qat w.heap.size w v t) (ht:t.length=n) (bj:okT t) (bw:l.length<=16):
  Calls prog 99 #[.pointer (some ⟨L,0,none⟩),v,qip ts.length] w fun e w'=>e=.returned (.tuple #[])/\
   ∃tag' m',LookAt tag' w' n (ts++ [t]) c L l vl M m'/\TagStep c tag tag' w w'/\Keep (fun b=>qci (tag b)≠some c) w w':=by
 obtain⟨a,cc,rfl,cm,cV,a1⟩:=id hs;have cu:=qe h.box;have cz:=h.map.lt;have d0:=qb h.box 0 _ rfl;simp only [zD]at d0;have a9: ∀x∈l,0<=x/\x<t.length:=fun x hx=>by rw [ht];exact qof h.row x hx
 have bo:qat w.heap.size w vl l:=qen h.list wC;have au:(qbc (qe3 t l)).length=16:=qh4 (by rw [qke];exact bw);have aI: ∃q,keyOf prog 176 (qhl (qcr t l))=some q:=qq1 au (qok (q7v bj));obtain⟨k0,k1,k2,k3,k4,k5,k6,k7,k8,k9,r,y,g,s,R,z,ax⟩: ∃k0 k1 k2 k3 k4 k5 k6 k7 k8 k9 r y g s R z,qcr t l= [k0,k1,k2,k3,k4,k5,k6,k7,k8,k9,r,y,g,s,R,z]:=by
  unfold qcr
  match h:qbc (qe3 t l),au with
  | [k0,k1,k2,k3,k4,k5,k6,k7,k8,k9,r,y,g,s,R,z],_=>exact⟨k0,k1,k2,k3,k4,k5,k6,k7,k8,k9,r,y,g,s,R,z,rfl⟩
 have bs:qhl (qcr t l)=.agg #[.int .i64 k0,.int .i64 k1,.int .i64 k2,.int .i64 k3,.int .i64 k4,.int .i64 k5,.int .i64 k6,.int .i64 k7,.int .i64 k8,.int .i64 k9,.int .i64 r,.int .i64 y,.int .i64 g,.int .i64 s,.int .i64 R,.int .i64 z]:=by rw [ax];rfl
 clear au ht bj;refine qdz ?_ h bH hs a1 a9 bo aI ax bs a0;clear h bH hs a1 a9 bo aI ax bs a0;intro Xh ad bU cD bM aZ aQ b5 aJ aF
 go_enter Tryz.func99,Tryz.ntmps99
 go_wp2_with fail;refine(q7u w _ vl t l bU.o aZ.o bw bM.o).mono ?_;rintro e W1 ⟨rfl,aU⟩;obtain⟨W0,aS⟩:=ex (W1.alloc (.cells #[.int .i64 0,.int .i64 0,.int .i64 0,.int .i64 0,.int .i64 0,.int .i64 0,.int .i64 0,.int .i64 0,.int .i64 0,.int .i64 0,.int .i64 0,.int .i64 0,.int .i64 0,.int .i64 0,.int .i64 0,.int .i64 0] 176));obtain⟨d,aV⟩:=ex (W1.heap.size);have n1:W0.heap[d]?=some (.cells #[.int .i64 0,.int .i64 0,.int .i64 0,.int .i64 0,.int .i64 0,.int .i64 0,.int .i64 0,.int .i64 0,.int .i64 0,.int .i64 0,.int .i64 0,.int .i64 0,.int .i64 0,.int .i64 0,.int .i64 0,.int .i64 0] 176 (0,0)):=by rw [←aS,←aV];exact qh _ _
 have bI:Keep (fun b=>b<w.heap.size) w W0:=by rw [←aS];exact aU.trans kAl
 have s0:d<W0.heap.size:=qe n1;have cP:w.heap.size<=d:=by rw [←aV];exact aU.size
 have z0:=qb n1 0 _ rfl;have f0:=qg n1 0;have z1:=qb n1 1 _ rfl;have f1:=qg n1 1;have z2:=qb n1 2 _ rfl;have f2:=qg n1 2;have z3:=qb n1 3 _ rfl;have f3:=qg n1 3;have z4:=qb n1 4 _ rfl;have f4:=qg n1 4;have z5:=qb n1 5 _ rfl;have f5:=qg n1 5;have z6:=qb n1 6 _ rfl;have f6:=qg n1 6;have z7:=qb n1 7 _ rfl;have f7:=qg n1 7;have z8:=qb n1 8 _ rfl;have f8:=qg n1 8;have z9:=qb n1 9 _ rfl;have f9:=qg n1 9;have bh:=qb n1 10 _ rfl;have cQ:=qg n1 10;have bi:=qb n1 11 _ rfl;have cS:=qg n1 11;have ba:=qb n1 12 _ rfl;have c6:=qg n1 12;have bt:=qb n1 13 _ rfl;have c2:=qg n1 13;have bK:=qb n1 14 _ rfl;have cU:=qg n1 14;have a6:=qb n1 15 _ rfl;have c0:=qg n1 15;simp only [zD]at z0 z1 z2 z3 z4 z5 z6 z7 z8 z9 bh bi ba bt bK a6;rw [aJ.o];clear aU;refine hd2 ?_ n1 bI;clear n1 bI;intro bc aK;go_wp2_with fail;refine q0e (fun W=>W.heap[d]?=some (.cells #[.int .i64 k0,.int .i64 k1,.int .i64 k2,.int .i64 k3,.int .i64 k4,.int .i64 k5,.int .i64 k6,.int .i64 k7,.int .i64 k8,.int .i64 k9,.int .i64 r,.int .i64 y,.int .i64 g,.int .i64 s,.int .i64 R,.int .i64 z] 176 (0,0))/\Keep (fun k=>k<w.heap.size) w W) (w:=qhg d [.int .i64 k0,.int .i64 k1,.int .i64 k2,.int .i64 k3,.int .i64 k4,.int .i64 k5,.int .i64 k6,.int .i64 k7,.int .i64 k8,.int .i64 k9,.int .i64 r,.int .i64 y,.int .i64 g,.int .i64 s,.int .i64 R,.int .i64 z] 0 W0) ⟨qhh [.int .i64 k0,.int .i64 k1,.int .i64 k2,.int .i64 k3,.int .i64 k4,.int .i64 k5,.int .i64 k6,.int .i64 k7,.int .i64 k8,.int .i64 k9,.int .i64 r,.int .i64 y,.int .i64 g,.int .i64 s,.int .i64 R,.int .i64 z] bc.o rfl,aK.o.trans ((qfh _ _ _ _).mono (fun b _ h=>wC))⟩ ?_;rintro W2 ⟨X,bg⟩;clear z0 z1 z2 z3 z4 z5 z6 z7 z8 z9 bh bi ba bt bK a6 bc aK s0 aV aS;have r0:=qb X 0 _ rfl;have r1:=qb X 1 _ rfl;have r2:=qb X 2 _ rfl;have r3:=qb X 3 _ rfl;have r4:=qb X 4 _ rfl;have r5:=qb X 5 _ rfl;have r6:=qb X 6 _ rfl;have r7:=qb X 7 _ rfl;have r8:=qb X 8 _ rfl;have r9:=qb X 9 _ rfl
 have bx:=qb X 10 _ rfl;have bd:=qb X 11 _ rfl;have a3:=qb X 12 _ rfl;have bG:=qb X 13 _ rfl;have a7:=qb X 14 _ rfl;have a5:=qb X 15 _ rfl;simp only [zD]at r0 r1 r2 r3 r4 r5 r6 r7 r8 r9 bx bd a3 bG a7 a5;have b6:qci (tag L)=some c:=by rw [Xh.o.tagL];rfl
 obtain⟨Wd,aA⟩:=ex (W2.drew);have kd:Keep (fun k=>k<w.heap.size) w Wd:=by rw [←aA];exact bg.trans kDr
 have hd:LookAt tag Wd n ts c L l vl M m:=Xh.o.keep kd (fun b hb=>by
  cases hT:tag b with
  |none=>rw [hT] at hb;cases hb
  |some T=>exact ad.o b T hT) (fun _ _=>rfl) (fun _ _=>rfl)
 have bf: ∀b T,tag b=some T->b<Wd.heap.size:=fun b T hb=>zk (ad.o b T hb) kd.size;have bq:m.length<=maxLen:=by have:=hd.few;have:=aF.o;simp only [maxLen];omega
 have cZ:=hd.map.lt;have cB:d<Wd.heap.size:=by rw [←aA];exact qe X
 have step: ∀tag' W4,TagStep c tag tag' Wd W4->TagStep c tag tag' w W4:=fun tag' W4 af=>⟨af.le,fun b hb=>af.old b (zk hb kd.size),fun b T hb=>⟨(af.new b T hb).1,fun cT=>by
  rcases y7 b Wd.heap.size with hb1 |hb1
  ·have aq:tag b=none:=by
    cases hT:tag b with
    |none=>rfl
    |some T'=>have:=ad.o b T' hT;omega
   have:=af.old b hb1 (by rw [aq];exact fun e=>(by cases e));rw [hb,aq]at this;cases this
  ·exact(af.new b T hb).2 hb1⟩,af.ents⟩
 have aw: ∀W4,Keep (fun b=>qci (tag b)≠some c) Wd W4->Keep (fun b=>qci (tag b)≠some c) w W4:=fun W4 hk=>⟨hk.os.trans kd.os,hk.tape.trans kd.tape,hk.output.trans kd.output,zW kd.size hk.size,fun b hb hC=>(hk.block b (zk hb kd.size) hC).trans (kd.block b hb hb)⟩;obtain⟨av,U⟩:=ex (Wd.alloc (.cells #[qip ts.length] 3));have aW:wG Wd av:=by rw [←U];exact kAl
 have bD:av.heap.size=Wd.heap.size+1:=by rw [←U];simp
 have a2:av.heap[Wd.heap.size]?=some (.cells #[qip ts.length] 3 (0,0)):=by rw [←U];exact qh _ _
 obtain⟨vA,stA,b0,b3,bb,az,a4,aG⟩:=qzm (P:=prog) Tryz.underlying227 qlk.law qkd qvf (hd.map.keep aW wH) bq (qcr t l) aQ.o;obtain⟨b8,bJ,aX,aE,aL,aC,cj,bL,bk,bp⟩:=q3c hd bf t aF.o (aW.mt.trans az) (a4.trans bD) ((az.block _ wC wC).trans a2) vA bb stA aG;rw [aJ.o]at b3;have fA: ∃tag' m',LookAt tag' aX n (ts++ [t]) c L l vl M m'/\TagStep c tag tag' w aX/\Keep (fun b=>qci (tag b)≠some c) w aX:=⟨_,_,bL,step _ _ bk,aw _ bp⟩;have e1:Wd.cell? ⟨L,1,none⟩=some (.map (some M)):=by have:=qb hd.box 1 _ rfl;simpa using this
 have cO:=qe hd.box;have bn:Wd.heap[d]?=some (.cells #[.int .i64 k0,.int .i64 k1,.int .i64 k2,.int .i64 k3,.int .i64 k4,.int .i64 k5,.int .i64 k6,.int .i64 k7,.int .i64 k8,.int .i64 k9,.int .i64 r,.int .i64 y,.int .i64 g,.int .i64 s,.int .i64 R,.int .i64 z] 176 (0,0)):=by rw [←aA];exact X
 have a8:tag d=none:=by
  cases hT:tag d with
  |none=>rfl
  |some T=>have:=ad.o d T hT;omega
 have ae: ∀W:World,Keep (fun b=>b≠M/\ ∀k p,tag b≠some (.ent c k p)) Wd W->W.cell? ⟨L,1,none⟩=some (.map (some M))/\W.heap[d]?=some (.cells #[.int .i64 k0,.int .i64 k1,.int .i64 k2,.int .i64 k3,.int .i64 k4,.int .i64 k5,.int .i64 k6,.int .i64 k7,.int .i64 k8,.int .i64 k9,.int .i64 r,.int .i64 y,.int .i64 g,.int .i64 s,.int .i64 R,.int .i64 z] 176 (0,0)):=fun W hW=>⟨hW.cell e1 ⟨fun e=>(by have:=hd.tagL;simp only at e;rw [e,hd.tagM] at this;cases this),fun k p e=>(by have:=hd.tagL;simp only at e;rw [e] at this;cases this)⟩,hW.heap bn ⟨fun e=>wC,fun k p e=>by rw [a8] at e;cases e⟩⟩;have Y: ∀W:World,Keep (fun b=>b≠M/\ ∀k p,tag b≠some (.ent c k p)) Wd W->W.cell? ⟨L,1,none⟩=some (.map (some M))/\W.cell? ⟨d,0,none⟩=some (.int .i64 k0)/\W.cell? ⟨d,1,none⟩=some (.int .i64 k1)/\W.cell? ⟨d,2,none⟩=some (.int .i64 k2)/\W.cell? ⟨d,3,none⟩=some (.int .i64 k3)/\W.cell? ⟨d,4,none⟩=some (.int .i64 k4)/\W.cell? ⟨d,5,none⟩=some (.int .i64 k5)/\W.cell? ⟨d,6,none⟩=some (.int .i64 k6)/\W.cell? ⟨d,7,none⟩=some (.int .i64 k7)/\W.cell? ⟨d,8,none⟩=some (.int .i64 k8)/\W.cell? ⟨d,9,none⟩=some (.int .i64 k9)/\W.cell? ⟨d,10,none⟩=some (.int .i64 r)/\W.cell? ⟨d,11,none⟩=some (.int .i64 y)/\W.cell? ⟨d,12,none⟩=some (.int .i64 g)/\W.cell? ⟨d,13,none⟩=some (.int .i64 s)/\W.cell? ⟨d,14,none⟩=some (.int .i64 R)/\W.cell? ⟨d,15,none⟩=some (.int .i64 z):=fun W hW=>by
  obtain⟨q1,q2⟩:=ae W hW;refine⟨q1,?_,?_,?_,?_,?_,?_,?_,?_,?_,?_,?_,?_,?_,?_,?_,?_⟩<;>simp [World.cell?,q2]
 clear aW bD a2 bL bk bp bb a4 aG step aw hd bf bq bg kd b6 r0 r1 r2 r3 r4 r5 r6 r7 r8 r9 bx bd a3 bG a7 a5 e1 bn ae;have bz:=Y av (by rw [←U];exact kAl);have aB:=Y b0 (((by rw [←U];exact kAl:Keep (fun b=>b≠M) Wd av).trans az).mono fun b _ h=>h.1);have aD:=Y bJ aC;have aH:=Y Wd (Keep.refl _ _);clear az aC Y a8;refine hd9 ?_ fA X bz aB aH aD U aE aL;clear fA X bz aB aH aD U aE aL;intro b7 cG bl ar aR aN aP aO aM;subst aA;refine qa5 rfl (fun W=>W.cell? ⟨L,1,none⟩=some (.map (some M))/\W.cell? ⟨d,0,none⟩=some (.int .i64 k0)/\W.cell? ⟨d,1,none⟩=some (.int .i64 k1)/\W.cell? ⟨d,2,none⟩=some (.int .i64 k2)/\W.cell? ⟨d,3,none⟩=some (.int .i64 k3)/\W.cell? ⟨d,4,none⟩=some (.int .i64 k4)/\W.cell? ⟨d,5,none⟩=some (.int .i64 k5)/\W.cell? ⟨d,6,none⟩=some (.int .i64 k6)/\W.cell? ⟨d,7,none⟩=some (.int .i64 k7)/\W.cell? ⟨d,8,none⟩=some (.int .i64 k8)/\W.cell? ⟨d,9,none⟩=some (.int .i64 k9)/\W.cell? ⟨d,10,none⟩=some (.int .i64 r)/\W.cell? ⟨d,11,none⟩=some (.int .i64 y)/\W.cell? ⟨d,12,none⟩=some (.int .i64 g)/\W.cell? ⟨d,13,none⟩=some (.int .i64 s)/\W.cell? ⟨d,14,none⟩=some (.int .i64 R)/\W.cell? ⟨d,15,none⟩=some (.int .i64 z)) [11] ?_;refine qy [0,1,2,3,4,5] ?_
 iterate 6
  refine tkN (v:=?_) rfl aR.o ?_ ?_;rotate_left
  ·rintro Wq ⟨x0,x1,x2,x3,x4,x5,x6,x7,x8,x9,b4,b2,bV,bP,bO,bQ,bS⟩;go_simp
   try with_reducible rfl
  try simp only [qz]
 refine qm ?_;refine ho 6 rfl fun K bF=>?_;have bW:=aP.o;go_wp2_with fail;refine bF.o _ _ (fun _=>bl.o) ?_;refine ho 7 rfl fun K bu=>?_;go_wp2_with fail;refine bu.o _ _ (fun _=>ar.o) ?_;refine qy [8,10] ?_
 iterate 2
  refine tkN (v:=?_) rfl ar.o ?_ ?_;rotate_left
  ·rintro Wq ⟨x0,x1,x2,x3,x4,x5,x6,x7,x8,x9,b4,b2,bV,bP,bO,bQ,bS⟩;go_simp
   try with_reducible rfl
  try simp only [qz]
 refine qm ?_;refine ho 9 rfl fun K bv=>?_;simp only [getElem_toArray,getElem_cons_zero,getElem_cons_succ,Act.put,yK,set_cons_zero,set_cons_succ];refine qbu (v:=vA) (u:=.slice (some ⟨W2.heap.size,0,none⟩) 1 1) (v':=b8) (w':=bJ) rfl (.tmp 18) (.tmp 20) 86 rfl rfl rfl aO.o ?_;go_wp2_with fail;refine bv.o _ _ (fun _=>aN.o) ?_;refine ho 11 rfl fun K br=>?_;have bR:=aM.o;go_wp2_with fail;refine br.o _ _ (fun h=>by simp at h) ?_;refine qbh wD ?_;go_wp2_with fail;refine wA (yw rfl _ _ _) rfl ?_;exact⟨rfl,b7.o⟩
def qek (ts:List (List Int)):List (List Int×Nat):=ts.zipIdx.map fun p=>(qbc p.1,p.2)
abbrev qi (b:Nat):Value:=.pointer (some ⟨b,0,none⟩)
abbrev qvh (w:World)(b:Nat)(m:List (List Int×Nat)):Prop:=MapIn prog 176 qhl qip w b m
abbrev qyo (w:World)(b:Nat)(m:List (List Bool×Nat)):Prop:=MapIn prog 179 qio qi w b m
structure RelG (tag:qcg)(w:World)(B n:Nat)(ts:List (List Int))(tsl:List Bool->List (List Int))(vD:Value)(P K:Nat)(lm:List (List Bool×Nat)):Prop where
 tagB:tag B=some .box
 box:w.heap[B]?=some (.cells (qfr n vD ts.length P K).toArray 171 (0,0))
 n16:n<=16
 nodup:ts.Nodup
 right: ∀t∈ts,qdp n t=true
 ok: ∀t∈ts,okT t
 own:w.ownsRow 0 3 1 vD ts.flatten.length (ts.flatten.map (.int .i64))
 tagD: ∀b,vD.ownBlock=some b->tag b=some .data
 tagP:tag P=some .pmap
 pmap:qvh w P (qek ts)
 tagK:tag K=some .kmap
 kmap:qyo w K lm
 looks: ∀c L,(c,L)∈lm-> ∃l vl M m,LookAt tag w n (tsl c) c L l vl M m
 ents: ∀b c,qci (tag b)=some c-> ∃L,(c,L)∈lm
 lt: ∀b T,tag b=some T->b<w.heap.size
abbrev qcl (tag:qcg)(w:World)(B n:Nat)(ts:List (List Int))(vD:Value)(P K:Nat)(lm:List (List Bool×Nat)):Prop:=RelG tag w B n ts (fun _=>ts) vD P K lm
theorem RelG.keep {tag:qcg}{w w':World}{B n:Nat}{ts:List (List Int)}{g:List Bool->List (List Int)}{vD:Value}{P K:Nat}{lm:List (List Bool×Nat)}{C:Nat->Prop}(h:RelG tag w B n ts g vD P K lm)(hK:Keep C w w')(s: ∀b T,tag b=some T->b<w.heap.size->C b):RelG tag w' B n ts g vD P K lm:=by
 have d: ∀b T,tag b=some T->C b:=fun b T e=>s b T e (h.lt b T e);refine⟨h.tagB,hK.heap h.box (d _ _ h.tagB),h.n16,h.nodup,h.right,h.ok,qf h.own hK (fun b e=>d _ _ (h.tagD b e)),h.tagD,h.tagP,h.pmap.keep hK (d _ _ h.tagP),h.tagK,h.kmap.keep hK (d _ _ h.tagK),fun c L p=>?_,h.ents,fun b T e=>zk (h.lt b T e) hK.size⟩;obtain⟨l,r,M,m,q⟩:=h.looks c L p;refine⟨l,r,M,m,q.keep hK (fun b e=>?_) (fun _ _=>rfl) (fun _ _=>rfl)⟩;cases hT:tag b with
 |none=>rw [hT] at e;cases e
 |some T=>exact d b T hT
theorem RelG.len {tag:qcg}{w:World}{B n:Nat}{ts:List (List Int)}{b:List Bool->List (List Int)}{vD:Value}{P K:Nat}{lm:List (List Bool×Nat)}(h:RelG tag w B n ts b vD P K lm): ∀t∈ts,t.length=n:=fun t c=>by
 have:=h.right t c;simp only [qdp,zV,zT]at this;exact this.1
theorem q0f (n:Nat)(l:n<=16)(w:World):Calls prog 56 #[.int .i64 n] w fun e w'=>e=.returned (.tuple #[.pointer (some ⟨w.heap.size+2,0,none⟩),.int .i64 0])/\wG w w'/\
  ∃tag P K,qcl tag w' (w.heap.size+2) n [] (.slice none 0 0) P K []/\ ∀b T,tag b=some T->w.heap.size<=b:=by
 have r:(0:Int)<=n:=wC
 have s:(n:Int)<=16:=wC
 have q: ¬((n:Int)<0):=wC
 have p: ¬((16:Int)<n):=wC
 have m:= @run_makeMap prog
 go_enter Tryz.func56,Tryz.ntmps56
 go_wp2
 go_ret2
 refine⟨rfl,(kAl.trans kAl).trans kAl,fun b=>if b=w.heap.size then some .pmap else if b=w.heap.size+1 then some .kmap else if b=w.heap.size+2 then some .box else none,⟨w.heap.size,w.heap.size+1,?_⟩,?_⟩
 ·refine⟨wE,?_,l,nodup_nil,fun t g=>(by cases g),fun t g=>(by cases g),zj _ _ _ _,fun b d=>(by simp [Value.ownBlock] at d),wE,?_,wE,?_,fun c L h=>(by cases h),fun b c d=>?_,fun b T d=>?_⟩
  ·simp only [qao,zO];simp [qfr]
  ·exact((qh7 w).keep (Keep.alloc (fun _=>True) _ _) wH).keep (Keep.alloc (fun _=>True) _ _) trivial
  ·have:=(qh7 (P:=prog) (K:=179) (ek:=qio) (ev:=qi) (w.alloc (.map #[] 0))).keep (Keep.alloc (fun _=>True) _ (.cells (qfr n (.slice none 0 0) 0 w.heap.size (w.heap.size+1)).toArray 171)) trivial
   simpa [qfr]using this
  ·split at d
   ·cases d
   ·split at d
    ·cases d
    ·split at d<;>cases d
  ·simp only [zO];split at d
   ·omega
   ·split at d
    ·omega
    ·split at d
     ·omega
     ·cases d
 ·intro b T d
  replace d:(if b=w.heap.size then some Tag.pmap else if b=w.heap.size+1 then some Tag.kmap else if b=w.heap.size+2 then some Tag.box else none)=some T:=d
  split at d
  ·omega
  ·split at d
   ·omega
   ·split at d
    ·omega
    ·cases d
theorem qyp {n:Nat}: ∀{ts:List (List Int)} (h: ∀t∈ts,t.length=n) {i:Nat} {t:List Int} (hi:ts[i]?=some t) {k:Nat} {x:Int} (hk:t[k]?=some x),ts.flatten[i*n+k]?=some x
 | [],_,i,t,hi,_,_,_=>by simp at hi
 |s::ts,h,0,t,hi,k,x,hk=>by
  simp at hi;subst hi;rw [flatten_cons,Nat.zero_mul,zD,yS (zA.1 hk).1];exact hk
 |s::ts,h,i+1,t,hi,k,x,hk=>by
  have hs:s.length=n:=h s wE;rw [flatten_cons,yH (by rw [hs,Nat.succ_mul];omega),hs];have:(i+1)*n+k-n=i*n+k:=by rw [Nat.succ_mul];omega
  rw [this];exact qyp (fun t b=>h t (by simp [b])) (by simpa using hi) hk
theorem qpu {n:Nat}: ∀{ts:List (List Int)} (h: ∀t∈ts,t.length=n),ts.flatten.length=ts.length*n
 | [],_=>wE
 |s::ts,h=>by
  rw [flatten_cons,zR,qpu (fun t ht=>h t (by simp [ht])),h s wE,length_cons,Nat.succ_mul];omega
theorem qsy {tag:qcg}{w:World}{B n:Nat}{ts:List (List Int)}{vD:Value}{P K:Nat}{lm:List (List Bool×Nat)}(h:qcl tag w B n ts vD P K lm)(hl:ts.length<=536870912)(i:Nat)(t:List Int)(hi:ts[i]?=some t):
  Calls prog 154 #[.pointer (some ⟨B,0,none⟩),.int .i64 (i:Int)] w fun e w'=> ∃v,e=.returned v/\wG w w'/\w'.heap.size=w.heap.size/\qat w.heap.size w v t/\t.length=n:=by
 have p:t.length=n:=h.len t (zH hi);have U:=(zA.1 hi).1;have hn:=h.n16;have hB:=qe h.box;have aa:=qpu h.len;have X:(i+1)*n<=ts.length*n:=yY n U;have z:ts.length*n<=536870912*16:=Nat.mul_le_mul hl hn;have ab:(i+1)*n=i*n+n:=Nat.succ_mul i n;have c0:=qb h.box 0 _ rfl;have c1:=qb h.box 1 _ rfl;simp only [zD]at c0 c1;obtain⟨R,b,d,rfl,Y,ak⟩: ∃R b d,vD=.slice R b d/\b=ts.flatten.length/\b<=d:=by
  rcases h.own.2 with ⟨e1,e2⟩ |⟨g,cap,cur,e1,e2,e3,e4,e5,_⟩
  ·exact⟨none,0,0,e1,e2.symm,zG _⟩
  ·exact⟨_,_,_,e1,rfl,e4⟩
 obtain⟨lo,y⟩:=ex (i*n);have b0:(0:Int)<=lo:=wC
 have b1:(lo:Int)<=lo+n:=wC
 have b2:(lo:Int)+n<=d:=wC
 have b3:(lo:Int)+n<=8589934592:=wC
 have b4:(lo:Int)<=8589934592:=wC
 have b5:(i:Int)*(n:Int)=lo:=by rw [←y];simp
 have b6:((i:Int)+1)*(n:Int)=lo+n:=by rw [Int.add_mul,b5];omega
 have b7:(i:Int)+1<=536870912:=wC
 have b8:(0:Int)<=i:=wC
 have b9:(lo:Int)+n-lo=n:=wC
 have c:qat w.heap.size w (.slice (if lo+n=lo then R else R.map (·.add (lo*1))) n n) t:=by
  refine⟨_,n,by rw [p],wC,⟨wC,by simp only [maxLen];omega⟩,fun k x hk=>?_⟩;have aw:=(zA.1 hk).1;rw [zF wC];have hf:=qyp h.len hi hk;have m:=h.own;rw [←Y]at m;rcases m.2 with ⟨e1,e2⟩ |⟨g,cap,cur,e1,e2,e3,e4,e5,_⟩
  ·have:=(zA.1 hf).1;omega
  ·injection e1 with q1 q2 q3
   subst q1;have:=qcp m (lo+k) (.int .i64 x) (by rw [←y,zP,hf];rfl);refine⟨g,lo,by simp [Addr.add];exact fun e=>e.symm,qe e3,?_⟩
   simpa [qgc]using this
 have r:n=0->qat w.heap.size w (.slice R 0 0) t:=fun h0=>by subst h0;simpa using c
 have l: ¬n=0->qat w.heap.size w (.slice (R.map (·.add lo)) n n) t:=fun h0=>by
  rw [zF wC,yB]at c;exact c
 clear hi U aa X z ab Y c;refine hd4 ?_ h r l p;clear h r l p;intro Xh s u q
 go_enter Tryz.func154,Tryz.ntmps154
 go_wp2_with fail
 go_region
 clear b0 b1 b2 b3 b4 b5 b6 b7 b8 b9 y c0 c1;go_wp2_with fail
 all_goals go_ret
 ·exact⟨_,rfl,kDr,rfl,s.o wC,q.o⟩
 ·exact⟨_,rfl,kDr,rfl,u.o wC,q.o⟩
end Go.Proofs.R4
namespace Go.Proofs.R4
open Go.RowKit Go.Ink
theorem qxi (ts:List (List Int))(t:List Int):qek (ts++ [t])=qek ts++ [(qbc t,ts.length)]:=by
 simp [qek,zipIdx_append]
theorem qmg (ts:List (List Int))(i:Nat):(qek ts)[i]?=(ts[i]?).map fun t=>(qbc t,i):=by
 simp only [qek,zP,getElem?_zipIdx,Option.map_map,zD];cases ts[i]?<;>rfl
theorem qxj {ts:List (List Int)}{t:List Int}{i:Nat}(h:qfe ts t=some i):ts[i]?=some t:=by
 have:=find?_some h
 simpa using this
theorem qk8 {ts:List (List Int)}{t:List Int}(h:qfe ts t=none):t∉ts:=by
 intro b;obtain⟨i,hi⟩:=zy.1 b;have:=yp.1 h i (by rw [yk];exact(zA.1 hi).1);simp [hi]at this
theorem qq2 {n:Nat}{ts:List (List Int)}{t:List Int}(c: ∀s∈ts,s.length=n)(q:t.length=n)(e:((qek ts).map (·.1)).Nodup):qdj (qek ts) (qbc t)=qfe ts t:=by
 cases h:qfe ts t with
 |some i=>
  have l:=qxj h;exact qpm e (j:=i) (p:=(qbc t,i)) (by rw [qmg,l];rfl)
 |none=>
  refine ql5 fun g=>?_;obtain⟨p,d,m⟩:=yL.1 g;obtain⟨i,hi⟩:=zy.1 d;rw [qmg]at hi;cases b:ts[i]? with
  |none=>rw [b] at hi;cases hi
  |some s=>
   rw [b]at hi;simp only [Option.map_some,yd]at hi;subst hi;have:s=t:=qrv m ((c s (zH b)).trans q.symm);subst this;exact qk8 h (zH b)
theorem qmh {n:Nat}{t:List Int}(h:qdp n t=true):t.length=n:=by
 simp only [qdp,zV,zT]at h;exact h.1
def TagNew (tag tag':qcg)(w:World):Prop:= ∀b T,tag' b=some T->(∃T',tag b=some T')∨w.heap.size<=b
theorem TagNew.refl (tag:qcg)(w:World):TagNew tag tag w:=fun b T h=>.inl ⟨T,h⟩
theorem TagNew.trans {s t u:qcg}{w w':World}(h:TagNew s t w)(g:TagNew t u w')(d:w.heap.size<=w'.heap.size):TagNew s u w:=fun b T c=>by
 rcases g b T c with ⟨T',h1⟩ |h1
 ·exact h b T' h1
 ·exact .inr wC
theorem TagStep.newT {c:List Bool}{tag tag':qcg}{w w':World}(h:TagStep c tag tag' w w'):TagNew tag tag' w:=fun b T d=>by
 rcases y7 b w.heap.size with hl |hl
 ·cases hT:tag b with
  |some T'=>exact .inl ⟨T',rfl⟩
  |none=>
   have:=h.old b hl (by rw [hT];exact fun e=>(by cases e));rw [d,hT]at this;cases this
 ·exact .inr hl
theorem q7w {tag:qcg}{w w1 w2 w3 w4:World}{B n:Nat}{ts:List (List Int)}{vD q:Value}{P K:Nat}{lm:List (List Bool×Nat)}(h:qcl tag w B n ts vD P K lm){t:List Int}(hr:qdp n t=true)(ao:okT t)(ab:qfe ts t=none)
  (ad:Keep (fun b=>b<w.heap.size) w w1) (hm:qvh w2 P (setK (qek ts) (qbc t) ts.length)) (ag:Keep (fun b=>b≠P) w1 w2) (ho:w3.ownsRow 0 3 1 q (ts.flatten.length+t.length) (ts.flatten.map (.int .i64)++t.map (.int .i64)))
  (hg: ∀g,q.ownBlock=some g->vD.ownBlock=some g∨w2.heap.size<=g) (Y:Keep (fun b=>q.ownBlock≠some b) w2 w3) (d:w4.heap[B]?=some (.cells (qfr n q (ts.length+1) P K).toArray 171 (0,0))) (U:Keep (fun b=>b≠B) w3 w4):
  ∃tag',RelG tag' w4 B n (ts++ [t]) (fun _=>ts) q P K lm/\TagLe tag tag'/\TagNew tag tag' w/\Keep (fun b=>tag b=none) w w4/\(∀b,q.ownBlock≠some b->tag' b=tag b):=by
 have hw:w.heap.size<=w1.heap.size:=ad.size;have ar:=ag.size;have aA:=Y.size;have ax:=U.size;have z: ∀g,q.ownBlock=some g->(tag g=some .data∨(tag g=none/\w2.heap.size<=g))/\g<w3.heap.size:=fun g ae=>by
  refine⟨?_,(zE ho g ae).2⟩;rcases hg g ae with r |r
  ·exact .inl (h.tagD g r)
  ·refine .inr ⟨?_,r⟩;cases hT:tag g with
   |none=>rfl
   |some T=>have:=h.lt g T hT;omega
 have x:Keep (fun b=>b<w.heap.size/\b≠P/\q.ownBlock≠some b/\b≠B) w w4:=(ad.mono fun b _ h=>h.1).trans ((ag.mono fun b _ h=>h.2.1).trans ((Y.mono fun b _ h=>h.2.2.1).trans (U.mono fun b _ h=>h.2.2.2)));have y: ∀b T,tag b=some T->T≠.data->q.ownBlock≠some b:=fun b T d hT e=>by
  rcases(z b e).1 with r |⟨r,_⟩
  ·rw [d]at r;cases r;exact hT rfl
  ·rw [d]at r;cases r
 have R: ∀b T,tag b=some T->T≠.data->T≠.pmap->T≠.box->b<w.heap.size/\b≠P/\q.ownBlock≠some b/\b≠B:=fun b T d r h2 h3=>
  ⟨h.lt b T d,fun e=>h2 (by rw [e,h.tagP] at d;cases d;rfl),y b T d r,fun e=>h3 (by rw [e,h.tagB] at d;cases d;rfl)⟩
 have v: ∀b,q.ownBlock≠some b->(fun b=>if q.ownBlock=some b then some Tag.data else tag b) b=tag b:=fun b d=>zF d;refine⟨fun b=>if q.ownBlock=some b then some .data else tag b,?_,?_,?_,?_,v⟩
 ·refine⟨(v B (y B _ h.tagB (fun e=>(by cases e)))).trans h.tagB,?_,h.n16,?_,?_,?_,?_,?_,(v P (y P _ h.tagP (fun e=>(by cases e)))).trans h.tagP,?_,(v K (y K _ h.tagK (fun e=>(by cases e)))).trans h.tagK,?_,?_,?_,?_⟩
  ·rw [zR,length_singleton];exact d
  ·rw [xY];exact⟨h.nodup,wE,fun a ha b d e=>qk8 ab (by simp at d;subst d;rw [←e];exact ha)⟩
  ·intro s u;rcases zr.1 u with u |u
   ·exact h.right s u
   ·simp at u;subst u;exact hr
  ·intro s u;rcases zr.1 u with u |u
   ·exact h.ok s u
   ·simp at u;subst u;exact ao
  ·have:=qf ho U (fun b ah e=>by rw [e] at ah;exact y B _ h.tagB (fun e=>(by cases e)) ah)
   simpa using this
  ·intro b d;exact zI d
  ·have X:qbc t∉(qek ts).map (·.1):=fun am=>by
    obtain⟨p,hp,he⟩:=yL.1 am;obtain⟨i,hi⟩:=zy.1 hp;rw [qmg]at hi;cases u:ts[i]? with
    |none=>rw [u] at hi;cases hi
    |some s=>
     rw [u]at hi;simp only [Option.map_some,yd]at hi;subst hi;have:s=t:=qrv he ((h.len s (zH u)).trans (qmh hr).symm);subst this;exact qk8 ab (zH u)
   have ai:setK (qek ts) (qbc t) ts.length=qek (ts++ [t]):=by
    rw [qxi];unfold setK;rw [zF X]
   rw [←ai];exact(hm.keep Y (y P _ h.tagP (fun e=>(by cases e)))).keep U (fun e=>by have:=h.tagP;rw [e,h.tagB] at this;cases this)
  ·exact h.kmap.keep x (R K _ h.tagK (fun e=>(by cases e)) (fun e=>(by cases e)) (fun e=>(by cases e)))
  ·intro c L an;obtain⟨l,vl,M,m,hl⟩:=h.looks c L an;refine⟨l,vl,M,m,hl.keep x (fun b d=>?_) (fun b d=>?_) (fun b d=>?_)⟩
   ·cases hT:tag b with
    |none=>rw [hT] at d;cases d
    |some T=>
     rw [hT]at d;exact R b T hT (fun e=>by subst e;cases d) (fun e=>by subst e;cases d) (fun e=>by subst e;cases d)
   ·refine v b fun e=>?_;rcases(z b e).1 with r |⟨r,_⟩<;>(rw [r] at d;cases d)
   ·by_cases e:q.ownBlock=some b
    ·simp only [zI e]at d;cases d
    ·exact zF e
  ·intro b c d;by_cases e:q.ownBlock=some b
   ·simp only [zI e]at d;cases d
   ·simp only [zF e]at d;exact h.ents b c d
  ·intro b T d;by_cases e:q.ownBlock=some b
   ·have:=(z b e).2;omega
   ·simp only [zF e]at d;have:=h.lt b T d;omega
 ·intro b T d;by_cases e:q.ownBlock=some b
  ·rcases(z b e).1 with r |⟨r,_⟩
   ·rw [d]at r;cases r;exact .inl (zI e)
   ·rw [d]at r;cases r
  ·exact .inl (by rw [←d];exact zF e)
 ·intro b T d;by_cases e:q.ownBlock=some b
  ·rcases(z b e).1 with r |⟨_,r⟩
   ·exact .inl ⟨_,r⟩
   ·exact .inr wC
  ·simp only [zF e]at d;exact .inl ⟨T,d⟩
 ·refine⟨x.os,x.tape,x.output,x.size,fun b d hC=>x.block b d ⟨d,fun e=>?_,fun e=>?_,fun e=>?_⟩⟩
  ·rw [e,h.tagP]at hC;cases hC
  ·rcases(z b e).1 with r |⟨_,r⟩
   ·rw [r]at hC;cases hC
   ·omega
  ·rw [e,h.tagB]at hC;cases hC
theorem RelG.to {tag:qcg}{w:World}{B n:Nat}{ts:List (List Int)}{d tsl':List Bool->List (List Int)}{vD:Value}{P K:Nat}{lm:List (List Bool×Nat)}(h:RelG tag w B n ts d vD P K lm)(e: ∀c L,(c,L)∈lm->d c=tsl' c):RelG tag w B n ts tsl' vD P K lm:=
 {h with looks:=fun c L b=>by rw [←e c L b];exact h.looks c L b}
theorem qyq {n:Nat}{l:List Int}(h:qd8 n l=true): ∀i,i<l.length->(i:Int)<=l.getD i 0
 |0,hi=>by
  have:=yM.1 h 0 (by simpa using hi);simp only [qif,zV,zT]at this;exact this.1.1
 |i+1,hi=>by
  have:=yM.1 h (i+1) (by simpa using hi);simp only [qif,zV,zT,ya,xE]at this;have c:=qyq h i wC;rcases this.2 with h2 |h2
  ·omega
  ·have b:i+1-1=i:=by omega
   rw [b]at h2
   push_cast
   omega
theorem qpv {n:Nat}{l:List Int}(h:qd8 n l=true):l.length<=n:=by
 rcases Nat.eq_zero_or_pos l.length with h0 |h0
 ·omega
 ·have b:=qyq h (l.length-1) wC;have:=yM.1 h (l.length-1) (by simp;omega);simp only [qif,zV,zT]at this;omega
theorem q5v {tag tag':qcg}{w w':World}{B n:Nat}{ts:List (List Int)}{y tsl':List Bool->List (List Int)}{vD:Value}{P K:Nat}{lm:List (List Bool×Nat)}(h:RelG tag w B n ts y vD P K lm){c:List Bool}{L:Nat}(hc:(c,L)∈lm)(U:tsl' c=ts)(ab: ∀c',c'≠c->tsl' c'=y c')
  {l:List Int} {vl:Value} {M:Nat} {m:List (List Int×Value)} (hl:LookAt tag' w' n ts c L l vl M m) (u:TagStep c tag tag' w w') (v:Keep (fun b=>qci (tag b)≠some c) w w'):RelG tag' w' B n ts tsl' vD P K lm:=by
 have hold: ∀b T,tag b=some T->qci (some T)≠some c->tag' b=some T:=fun b T d hT=>(u.old b (h.lt b T d) (by rw [d];exact hT)).trans d;have g: ∀b T,tag b=some T->qci (some T)≠some c->qci (tag b)≠some c:=fun b T d hT=>by rw [d];exact hT
 obtain⟨al,c0,q1,q2,q3,q4,q5⟩:=id h.kmap;have p: ∀t,(c,t)∈lm->t=L:=fun t ad=>by
  obtain⟨i,hi⟩:=zy.1 hc;obtain⟨j,X⟩:=zy.1 ad;have z:(lm.map (·.1))[i]?=some c:=by rw [zP,hi];rfl
  have e2:(lm.map (·.1))[j]?=some c:=by rw [zP,X];rfl
  have:=(xy (zA.1 z).1 q3).1 (z.trans e2.symm);subst this;rw [hi]at X;cases X
  rfl
 refine⟨hold B _ h.tagB (fun e=>(by cases e)),v.heap h.box (g B _ h.tagB (fun e=>(by cases e))),h.n16,h.nodup,h.right,h.ok,qf h.own v (fun b d=>g b _ (h.tagD b d) (fun e=>(by cases e))),fun b d=>hold b _ (h.tagD b d) (fun e=>(by cases e)),hold P _ h.tagP (fun e=>(by cases e)),h.pmap.keep v (g P _ h.tagP (fun e=>(by cases e))),hold K _ h.tagK (fun e=>(by cases e)),h.kmap.keep v (g K _ h.tagK (fun e=>(by cases e))),?_,?_,fun b T d=>(u.new b T d).1⟩
 ·intro c' t x;by_cases q:c'=c
  ·subst q;rw [p t x,U];exact⟨_,_,_,_,hl⟩
  ·rw [ab c' q];obtain⟨l',Y,M',m',R⟩:=h.looks c' t x;refine⟨l',Y,M',m',R.keep v (fun b d=>by rw [d];exact fun e=>q (by injection e)) (fun b d=>?_) (fun b d=>?_)⟩
   ·cases hT:tag b with
    |none=>rw [hT] at d;cases d
    |some T=>exact hold b T hT (by rw [←hT,d];exact fun e=>q (by injection e))
   ·cases hT:tag b with
    |none=>
     cases s:tag' b with
     |none=>rfl
     |some T'=>
      rcases y7 b w.heap.size with hlt |hge
      ·have:=u.old b hlt (by rw [hT];exact fun e=>(by cases e));rw [s,hT]at this;cases this
      ·have:=(u.new b T' s).2 hge;rw [←s,d]at this;exact absurd (by injection this) q
    |some T=>
     by_cases r:qci (some T)=some c
     ·rcases u.le b T hT with h1 |⟨c2,k2,p2,p3,rfl,h1,_⟩
      ·rw [h1,r]at d;exact absurd (by injection d with d;exact d.symm) q
      ·rw [h1]at d;have z:c2=c:=by simpa [qci] using r
       have e2:c2=c':=by simpa [qci] using d
       exact absurd (e2.symm.trans z) q
     ·exact(hold b T hT r)
 ·intro b c' d;rcases u.ents b c' d with h1 |h1
  ·exact h.ents b c' h1
  ·subst h1;exact⟨L,hc⟩
end Go.Proofs.R4
