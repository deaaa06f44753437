/- Parts of the proof. -/
import Derived.Test.YtnponcjnahicnaaGreatRelLToRelN
import Derived.Deep.MidRow
set_option linter.unusedSimpArgs false
set_option linter.unusedVariables false
set_option maxRecDepth 100000
set_option maxHeartbeats 4000000
open Go.Proofs.Tryz(prog)
open List(getElem?_set length_range map_set take_zero)
namespace Go.Proofs.R4
open Go.RowKit Go.Ink
attribute [local go_sem] Oper.semAt_some
theorem MapRange.left_eq {κ ν:Type}{P:Program}{K:TypeId}{ek:κ->Value}{ev:ν->Value}{w:World}{b r cnt:Nat}{m:List (κ×ν)}{c:κ->Bool}(h:MapRange P K ek ev w b r m c cnt):w.rangeLeft b r=cnt:=by
 obtain⟨U,d,e,g,x,p,R,y,u,s,v,l,hold,t,q,rfl,z⟩:=h;simp [World.rangeLeft,p,l]
theorem qvi: ∀w:World,(zeroValue 3).run prog w=.ok (.int .i64 0) w:=fun w=>wD
def qq3 (tag:qcg)(v:Value):Prop:= ∀a n c,v=.slice (some a) n c->tag a.block=none
theorem qnz {tag:qcg}{C:Nat->Prop}{m:Nat}{w w':World}{v:Value}{t:List Int}(h:qat m w v t)(q:qq3 tag v)(hK:Keep C w w')(p: ∀b,tag b=none->b<m->C b):qat m w' v t:=by
 obtain⟨a,c,rfl,e,g,s⟩:=h;refine⟨a,c,rfl,e,g,fun k x r=>?_⟩;obtain⟨b,o,rfl,d,l⟩:=s k x r;exact⟨b,o,rfl,d,hK.cell l (p b (q _ _ _ rfl) d)⟩
theorem qq4 {tag:qcg}{w:World}{B n:Nat}{ts:List (List Int)}{vD:Value}{P K:Nat}{lm:List (List Bool×Nat)}(h:qcl tag w B n ts vD P K lm)(hl:ts.length<=134217728)(m:Nat)(v:Value)(t:List Int)(hs:qat m w v t)(hm:m<=w.heap.size)(dg:okT t)(aQ:qq3 tag v):
  Calls prog 58 #[.pointer (some ⟨B,0,none⟩),v] w fun e w'=>e=.returned (.tuple #[.int .i64 (qhy n ts t).1,.bool (qhy n ts t).2.1,.int .i64 (qhy n ts t).2.2])/\
   Keep (fun b=>tag b=none) w w'/\ ∃tag' vD',qcl tag' w' B n (qk6 n ts t) vD' P K lm/\TagLe tag tag'/\TagNew tag tag' w:=by
 obtain⟨a,c,rfl,bn,ez,cB⟩:=id hs;have hB:=qe h.box;have bN:=h.n16;refine hd5 ?_ h hs cB dg aQ;clear h hs cB dg aQ;intro Xh bq ec aP aq
 go_enter Tryz.func58,Tryz.ntmps58
 go_wp2_with fail;refine(ql6 Xh.o.box).mono ?_;rintro e w1 ⟨rfl,bk⟩;have bk:=bk.symm;subst bk;go_wp2_with fail;refine(qso Xh.o.box m _ t bq.o hm).mono ?_;rintro e W1 ⟨rfl,am⟩;cases a0:qdp n t with
 |false=>
  have p:qhy n ts t=(0,false,2):=by unfold qhy;rw [a0];rfl
  have hT:qk6 n ts t=ts:=by unfold qk6;rw [p];rfl
  have hO:=Xh.o.keep am (fun _ _ _ _=>wH);clear a0;refine hd4 ?_ p hT hO am;clear p hT hO am;intro s aG dD ar;go_wp2_with fail
  go_ret3
  exact⟨by rw [s.o];try rfl,ar.o.mt,tag,vD,by rw [aG.o];exact dD.o,TagLe.refl _,TagNew.refl _ _⟩
 |true=>
  have db:=qmh a0;have aU:=qeg bq.o (m:=m) am.mt (zG _);have ca:t.length<=16:=wC
  have a3:(qbc t).length=16:=qh4 wC;have bM: ∃q,keyOf prog 176 (qhl (qbc t))=some q:=qq1 a3 (qok aP.o);obtain⟨k0,k1,k2,k3,k4,k5,k6,k7,k8,k9,X,Y,U,aa,ad,ab,bG⟩: ∃k0 k1 k2 k3 k4 k5 k6 k7 k8 k9 X Y U aa ad ab,qbc t= [k0,k1,k2,k3,k4,k5,k6,k7,k8,k9,X,Y,U,aa,ad,ab]:=by
   match h:qbc t,a3 with
   | [k0,k1,k2,k3,k4,k5,k6,k7,k8,k9,X,Y,U,aa,ad,ab],_=>exact⟨k0,k1,k2,k3,k4,k5,k6,k7,k8,k9,X,Y,U,aa,ad,ab,rfl⟩
  have dl:qhl (qbc t)=.agg #[.int .i64 k0,.int .i64 k1,.int .i64 k2,.int .i64 k3,.int .i64 k4,.int .i64 k5,.int .i64 k6,.int .i64 k7,.int .i64 k8,.int .i64 k9,.int .i64 X,.int .i64 Y,.int .i64 U,.int .i64 aa,.int .i64 ad,.int .i64 ab]:=by rw [bG];rfl
  have z1:=am.size;clear a3 bG;refine hd6 ?_ am aU bM dl a0 db;clear am aU bM dl a0 db;intro ar an aJ aH aF bJ;go_wp2_with fail;refine(qny m _ t W1 an.o wC ca).mono ?_;rintro e W2 ⟨rfl,aW⟩
  replace aW:Keep (fun b=>b<w.heap.size) w W2:=ar.o.mt.trans (aW.mono fun b _ h=>wC)
  obtain⟨W0,ck⟩:=ex (W2.alloc (.cells #[.int .i64 0,.int .i64 0,.int .i64 0,.int .i64 0,.int .i64 0,.int .i64 0,.int .i64 0,.int .i64 0,.int .i64 0,.int .i64 0,.int .i64 0,.int .i64 0,.int .i64 0,.int .i64 0,.int .i64 0,.int .i64 0] 176));obtain⟨nb,b9⟩:=ex (W2.heap.size);have n1:W0.heap[nb]?=some (.cells #[.int .i64 0,.int .i64 0,.int .i64 0,.int .i64 0,.int .i64 0,.int .i64 0,.int .i64 0,.int .i64 0,.int .i64 0,.int .i64 0,.int .i64 0,.int .i64 0,.int .i64 0,.int .i64 0,.int .i64 0,.int .i64 0] 176 (0,0)):=by rw [←ck,←b9];exact qh _ _
  have al:Keep (fun b=>b<w.heap.size) w W0:=by rw [←ck];exact aW.trans kAl
  have s0:nb<W0.heap.size:=qe n1;have dQ:w.heap.size<=nb:=by rw [←b9];exact aW.size
  have z0:=qb n1 0 _ rfl;have f0:=qg n1 0;have z1:=qb n1 1 _ rfl;have f1:=qg n1 1;have z2:=qb n1 2 _ rfl;have f2:=qg n1 2;have z3:=qb n1 3 _ rfl;have f3:=qg n1 3;have z4:=qb n1 4 _ rfl;have f4:=qg n1 4;have z5:=qb n1 5 _ rfl;have f5:=qg n1 5;have z6:=qb n1 6 _ rfl;have f6:=qg n1 6;have z7:=qb n1 7 _ rfl;have f7:=qg n1 7;have z8:=qb n1 8 _ rfl;have f8:=qg n1 8;have z9:=qb n1 9 _ rfl;have f9:=qg n1 9;have cP:=qb n1 10 _ rfl;have dR:=qg n1 10;have cQ:=qb n1 11 _ rfl;have dS:=qg n1 11;have de:=qb n1 12 _ rfl;have dK:=qg n1 12;have cX:=qb n1 13 _ rfl;have dI:=qg n1 13;have c3:=qb n1 14 _ rfl;have dU:=qg n1 14;have cF:=qb n1 15 _ rfl;have dY:=qg n1 15;simp only [zD]at z0 z1 z2 z3 z4 z5 z6 z7 z8 z9 cP cQ de cX c3 cF;rw [aH.o];clear aW;refine hd2 ?_ n1 al;clear n1 al;intro cJ aM;go_wp2_with fail;refine q0e (fun W=>W.heap[nb]?=some (.cells #[.int .i64 k0,.int .i64 k1,.int .i64 k2,.int .i64 k3,.int .i64 k4,.int .i64 k5,.int .i64 k6,.int .i64 k7,.int .i64 k8,.int .i64 k9,.int .i64 X,.int .i64 Y,.int .i64 U,.int .i64 aa,.int .i64 ad,.int .i64 ab] 176 (0,0))/\Keep (fun k=>k<w.heap.size) w W) (w:=qhg nb [.int .i64 k0,.int .i64 k1,.int .i64 k2,.int .i64 k3,.int .i64 k4,.int .i64 k5,.int .i64 k6,.int .i64 k7,.int .i64 k8,.int .i64 k9,.int .i64 X,.int .i64 Y,.int .i64 U,.int .i64 aa,.int .i64 ad,.int .i64 ab] 0 W0) ⟨qhh [.int .i64 k0,.int .i64 k1,.int .i64 k2,.int .i64 k3,.int .i64 k4,.int .i64 k5,.int .i64 k6,.int .i64 k7,.int .i64 k8,.int .i64 k9,.int .i64 X,.int .i64 Y,.int .i64 U,.int .i64 aa,.int .i64 ad,.int .i64 ab] cJ.o rfl,aM.o.trans ((qfh _ _ _ _).mono (fun b _ h=>wC))⟩ ?_;clear z0 z1 z2 z3 z4 z5 z6 z7 z8 z9 cP cQ de cX c3 cF f0 f1 f2 f3 f4 f5 f6 f7 f8 f9 dR dS dK dI dU dY cJ aM s0 b9 ck ar an;rintro W3 ⟨hq,dc⟩;obtain⟨Wd,co⟩:=ex (W3.drew);have aR:Keep (fun k=>k<w.heap.size) w Wd:=by rw [←co];exact dc.trans kDr
  have d:Wd.heap[nb]?=some (.cells #[.int .i64 k0,.int .i64 k1,.int .i64 k2,.int .i64 k3,.int .i64 k4,.int .i64 k5,.int .i64 k6,.int .i64 k7,.int .i64 k8,.int .i64 k9,.int .i64 X,.int .i64 Y,.int .i64 U,.int .i64 aa,.int .i64 ad,.int .i64 ab] 176 (0,0)):=by rw [←co];exact hq
  have hd:=Xh.o.keep aR (fun b T hb bn=>bn);have r0:=qb d 0 _ rfl;have r1:=qb d 1 _ rfl;have r2:=qb d 2 _ rfl;have r3:=qb d 3 _ rfl;have r4:=qb d 4 _ rfl;have r5:=qb d 5 _ rfl;have r6:=qb d 6 _ rfl;have r7:=qb d 7 _ rfl;have r8:=qb d 8 _ rfl;have r9:=qb d 9 _ rfl;have aA:=qb d 10 _ rfl;have ax:=qb d 11 _ rfl;have av:=qb d 12 _ rfl;have aB:=qb d 13 _ rfl;have aw:=qb d 14 _ rfl;have az:=qb d 15 _ rfl;simp only [zD]at r0 r1 r2 r3 r4 r5 r6 r7 r8 r9 aA ax av aB aw az;have b2:=qb hd.box 2 _ rfl;have b3:=qb hd.box 3 _ rfl;simp only [zD]at b2 b3;have aj:=qef (P:=prog) Tryz.underlying168 qlk.law qkd qvi hd.pmap (qbc t) aJ.o true;have bo:((qek ts).map (·.1)).Nodup:=by
   obtain⟨_,_,_,_,bo,_⟩:=hd.pmap;exact bo
  rw [qq2 hd.len bJ.o bo,aH.o]at aj;have dN:B<Wd.heap.size:=qe hd.box;have dm:nb<Wd.heap.size:=qe d;clear bo hq dc;subst co;cases ay:qfe ts t with
  |some i=>
   have p:qhy n ts t=((i:Int),false,0):=by unfold qhy;rw [aF.o,ay];rfl
   have hT:qk6 n ts t=ts:=by unfold qk6;rw [p];rfl
   rw [ay]at aj;simp only [yj]at aj;clear ay d;refine hd4 ?_ p hT hd aR;clear p hT hd aR;intro s aG ce aC
   go_region
   clear r0 r1 r2 r3 r4 r5 r6 r7 r8 r9 aA ax av aB aw az b3 aj;go_wp2_with fail
   go_ret3
   exact⟨by rw [s.o];try rfl,aC.o.mono fun b hb _=>hb,tag,vD,by rw [aG.o];exact ce.o,TagLe.refl _,TagNew.refl _ _⟩
  |none=>
   rw [ay]at aj;simp only [yj]at aj;refine hd4 ?_ ay d hd aR;clear ay d hd aR;intro bw c4 ce aC
   go_region
   generalize W3.drew=Wd at*;clear aj b2 b3 r0 r1 r2 r3 r4 r5 r6 r7 r8 r9 aA ax av aB aw az;obtain⟨We,ch⟩:=ex (Wd.drew);have ah:Keep (fun k=>k<w.heap.size) w We:=by rw [←ch];exact aC.o.trans kDr
   have r:=Xh.o.keep ah (fun b T hb bn=>bn);have g:We.heap[nb]?=some (.cells #[.int .i64 k0,.int .i64 k1,.int .i64 k2,.int .i64 k3,.int .i64 k4,.int .i64 k5,.int .i64 k6,.int .i64 k7,.int .i64 k8,.int .i64 k9,.int .i64 X,.int .i64 Y,.int .i64 U,.int .i64 aa,.int .i64 ad,.int .i64 ab] 176 (0,0)):=by rw [←ch];exact c4.o
   have b2:Wd.cell? ⟨B,2,none⟩=some (.int .i64 (ts.length:Int)):=by have:=qb ce.o.box 2 _ rfl;simpa using this
   have b3:=qb r.box 3 _ rfl;have r0:=qb g 0 _ rfl;have r1:=qb g 1 _ rfl;have r2:=qb g 2 _ rfl;have r3:=qb g 3 _ rfl;have r4:=qb g 4 _ rfl;have r5:=qb g 5 _ rfl;have r6:=qb g 6 _ rfl;have r7:=qb g 7 _ rfl;have r8:=qb g 8 _ rfl;have r9:=qb g 9 _ rfl;have aA:=qb g 10 _ rfl;have ax:=qb g 11 _ rfl;have av:=qb g 12 _ rfl;have aB:=qb g 13 _ rfl;have aw:=qb g 14 _ rfl;have az:=qb g 15 _ rfl;simp only [zD]at b3 r0 r1 r2 r3 r4 r5 r6 r7 r8 r9 aA ax av aB aw az;have dW:B<We.heap.size:=qe r.box;have cU:nb<We.heap.size:=qe g;obtain⟨W5,cL,cV,af,dL⟩:=qi0 (P:=prog) Tryz.underlying168 qlk.law qkd r.pmap (qbc t) aJ.o ts.length;rw [aH.o]at cL;have cR:B≠P:=fun e=>by have:=r.tagB;rw [e,r.tagP] at this;cases this
   have aS:=af.heap r.box cR;have a4:=qf r.own af (fun b hb e=>by have:=r.tagD b hb;rw [e,r.tagP] at this;cases this);have da:Keep (fun b=>tag b=none) w W5:=⟨af.os.trans ah.os,af.tape.trans ah.tape,af.output.trans ah.output,zW ah.size af.size,fun b hb hC=>(af.block b (zk hb ah.size) (fun e=>by rw [e,Xh.o.tagP] at hC;cases hC)).trans (ah.block b hb hb)⟩;have dj:=qnz bq.o aq.o da (fun b hb _=>hb);have ag:=qgo (sz:=1) ic (fun _=>rfl) wC (E:=qgc) (fun b o x h j u hj=>by
    have dH:j=0:=by have:=(zA.1 hj).1;simp [ic] at this;exact this
    subst dH;simp [ic]at hj;subst hj;exact h) dj rfl
   have cK:=qpu r.len;have dn:ts.flatten.length<=134217728*16:=by rw [cK];exact Nat.mul_le_mul hl bN
   obtain⟨vD',W6,cS,bm,b7,b0⟩:=qhz (P:=prog) qnm 86 a4 a t.length c (t.flatMap ic) (qa4 _ 1 (fun _=>rfl) _) ag.1 ag.2 (qj9 _ (by simp [ic,Value.oneCell']) _) wC (yc _);rw [qnl]at bm;obtain⟨y,R,z,rfl⟩: ∃y R z,vD'=.slice y R z:=by
    obtain⟨a1,c1,e⟩:=qj bm;exact⟨_,_,_,e⟩
   have dr:Value.ownBlock (.slice y R z)≠some B:=fun e=>by
    rcases b7 B e with h1 |h1
    ·have:=r.tagD B h1;rw [r.tagB] at this;cases this
    ·have:=qe aS;omega
   have aN:=b0.heap aS dr;obtain⟨W7,bW⟩:=ex (W6.setCell ⟨B,1,none⟩ (.slice y R z));have aZ:W7.heap[B]?=some (.cells (([.int .i64 (n:Int),(.slice y R z),.int .i64 (ts.length:Int),.map (some P),.map (some K)]:List Value)).toArray 171 (0,0)):=by rw [←bW];exact qag 1 (.slice y R z) aN
   obtain⟨W8,b4⟩:=ex (W7.setCell ⟨B,2,none⟩ (.int .i64 ((ts.length:Int)+1)));have br:W8.heap[B]?=some (.cells (qfr n (.slice y R z) (ts.length+1) P K).toArray 171 (0,0)):=by rw [←b4];exact qag 2 (.int .i64 ((ts.length:Int)+1)) aZ
   have dd:Keep (fun b=>b≠B) W6 W8:=by rw [←b4,←bW];exact(kSc).trans (kSc)
   obtain⟨ap,c0,bH,aX,bS,bl⟩:=q7w Xh.o aF.o aP.o bw.o ah cV af bm b7 b0 br dd;have c5:W5.cell? ⟨B,1,none⟩=some vD:=by have:=qb aS 1 _ rfl;simpa using this
   have c6:W6.cell? ⟨B,1,none⟩=some vD:=by have:=qb aN 1 _ rfl;simpa using this
   have f6:=qg aN 1;have c7:W7.cell? ⟨B,2,none⟩=some (.int .i64 (ts.length:Int)):=by have:=qb aZ 2 _ rfl;simpa using this
   have f7:=qg aZ 2;have c8:W8.cell? ⟨B,4,none⟩=some (.map (some K)):=by have:=qb br 4 _ rfl;simpa using this
   have dC:=qe aS;have dz:=qe aN;have dO:=qe aZ;have dZ:=qe br;have d1:(ts.length:Int)+1<=536870912:=wC
   have p:qhy n ts t=((ts.length:Int),true,0):=by unfold qhy;rw [aF.o,bw.o];rfl
   have hT:qk6 n ts t=ts++ [t]:=by unfold qk6;rw [p];rfl
   have dB:w.heap.size<=W8.heap.size:=bS.size;subst ch;clear ah r g cV af a4 da dj ag cK dn bm b7 b0 aS aN aZ br dd cR dr dL bl;refine hd7 ?_ cS c0 aX bH bS p hT;clear cS c0 aX bH bS p hT;intro dq aL bi bU c9 s aG;go_wp2_with fail
   go_region
   clear r0 r1 r2 r3 r4 r5 r6 r7 r8 r9 aA ax av aB aw az b3 b2;have bP:=aL.o.kmap;refine hd1 ?_ bP;clear bP;intro aI;clear bk z1 dN dm dQ d1;go_wp2_with (first
    |(at_builtin;refine qbu (v:=vD) (u:=.slice a t.length c) (v':=(.slice y R z)) (w':=W6) rfl (.tmp 47) (.tmp 48) 86 rfl rfl rfl dq.o ?_)
    |(at_range;refine qzl rfl _ 169 rfl Tryz.underlying169 rfl aI.o ?_;intro w0 aO al cE))
   go_frame
   have dy:w0.heap.size=W8.heap.size+1:=cE;obtain⟨rb,bs⟩:=ex (W8.heap.size);rw [bs]at aO;rw [bs];have d4:w.heap.size<=rb:=wC
   have cI:Keep (fun b=>tag b=none) w w0:=c9.o.trans al.mt;have cO:RelG ap w0 B n (ts++ [t]) (fun c=>if (fun _:List Bool=>true) c then ts else ts++ [t]) (.slice y R z) P K lm:=(aL.o.keep al (fun _ _ _ _=>wH)).to (fun _ _ _=>rfl);have bO:ap rb=none:=by
    cases dV:ap rb with
    |none=>rfl
    |some T=>have:=aL.o.lt rb T dV;omega
   clear c5 c6 f6 c7 f7 c8 dC dz dO dZ bW b4 cL aI cE dy dB dW cU;refine hd6 ?_ aO cI cO bO bs al;clear aO cI cO bO bs al;intro cn ds cM ci d3 aM
   go_loopw [12] (fun _ wr=> ∃ao cnt tag',MapRange prog 179 qio qi wr K rb lm ao cnt/\RelG tag' wr B n (ts++ [t]) (fun c=>if ao c then ts else ts++ [t]) (.slice y R z) P K lm/\TagLe tag tag'/\TagNew tag tag' w/\Keep (fun b=>tag b=none/\b<w.heap.size) w wr/\tag' rb=none)
    (fun _ wr=>wr.rangeLeft K rb)
   case atStart=>exact⟨_,_,ap,cn.o,cM.o,bU.o,bi.o,ds.o.mono (fun b _ h=>h.1),ci.o⟩
   case round=>
    obtain⟨ao,cnt,tag',cl,hG,cW,bI,c2,bK⟩:=hrel;have cH:=MapRange.left_eq cl;refine hd7 ?_ hG cW bI c2 bK cl cH;clear hG cW bI c2 bK cl cH;intro cG bv ak bL ae dh cZ;go_wp2_with (at_next;refine q2g rfl _ rfl rfl dh.o ?_ ?_)
    ·intro eN b5;have cN:qcl tag' wr B n (ts++ [t]) (.slice y R z) P K lm:=cG.o.to (fun c L ag=>by rw [b5 _ _ ag];rfl);refine hd2 ?_ b5 cN;clear b5 cN;intro eg di;go_wp2_with fail
     go_ret3
     exact⟨by rw [s.o];try rfl,bL.o.mono (fun b hb h=>⟨h,hb⟩),tag',_,by rw [aG.o];exact di.o,bv.o,ak.o⟩
    ·intro cm L w1 eh ag b8 a5 df bj ep eJ;have cb:=cG.o.keep bj (fun b T hb _ e=>by subst e;have:=ae.o;rw [hb] at this;cases this);obtain⟨l,vl,M,mm,dp⟩:=cb.looks cm L ag;have a2:LookAt tag' w1 n ts cm L l vl M mm:=by simpa [b8] using dp
     have au:Keep (fun b=>tag b=none/\b<w.heap.size) w w1:=bL.o.trans (bj.mono fun b _ h=>by have:=h.2;omega);have aU:qat w1.heap.size w1 (.slice a t.length c) t:=qqp (qnz bq.o aq.o au (fun b hb eB=>⟨hb,wC⟩)) (by have:=au.size;omega);have dG:l.length<=16:=by have:=qpv a2.row;omega
     have cT:=a5.lt;clear dp;refine hd8 ?_ ag b8 a5 bj cb a2 au aU;clear ag b8 a5 bj cb a2 au aU;intro cY en b1 d7 aT cf aV an;go_wp2_with fail;refine(qvg cf.o aT.o.lt bN wC _ t an.o bJ.o aP.o dG).mono ?_;rintro e w2 ⟨rfl,aK,m',bF,aD,bp⟩;have dk:=q5v (tsl':=fun x=>if (ao x&&!decide (x=cm))=true then ts else ts++ [t]) aT.o cY.o wE (fun c' dA=>by simp [dA]) bF aD bp;have aE:=b1.o.keep bp (by rw [aT.o.tagK];exact fun e=>(by cases e)) (by rw [ae.o];exact fun e=>(by cases e));have bx:=MapRange.left_eq aE;have bz:=bv.o.trans aD.le;have aY:=ak.o.trans aD.newT aV.o.size;have bD:Keep (fun b=>tag b=none/\b<w.heap.size) w w2:=aV.o.trans (bp.mono fun b _ h=>by
      cases hT:tag' b with
      |none=>exact fun e=>(by cases e)
      |some T=>
       rcases ak.o b T hT with ⟨T',h1⟩ |h1
       ·rw [h.1]at h1;cases h1
       ·have:=h.2;omega)
     have bQ:aK rb=none:=(aD.old rb cT (by rw [ae.o];exact fun e=>(by cases e))).trans ae.o;clear bF aD bp;refine hd7 ?_ dk aE bx bz aY bD bQ;clear dk aE bx bz aY bD bQ;intro cC cd cg bV bt cj b6;go_wp2_with fail;go_roundw
     case rel=>exact⟨_,_,aK,cd.o,cC.o,bV.o,bt.o,cj.o,b6.o⟩
     case measure=>rw [cg.o,cZ.o];exact df
theorem qi3 (b:Nat): ∀(vs:List Value) (i:Nat) (w:World),World.setCells w b i vs=qhg b vs i w
 | [],_,_=>rfl
 |v::vs,i,w=>qi3 b vs (i+1) _
theorem qjl {b t:Nat}{d:Nat×Nat}{w:World}{c:Array Value}(vs:List Value)(h:w.heap[b]?=some (.cells c t d))(e:vs.length=c.size):(World.setCells w b 0 vs).heap[b]?=some (.cells vs.toArray t d):=by
 rw [qi3];exact qhh vs h e
theorem qjm (b:Nat)(vs:List Value)(i:Nat)(w:World):Keep (fun j=>j≠b) w (World.setCells w b i vs):=by
 rw [qi3];exact qfh b vs i w
theorem qkf (l:List Int):(qav l).length=16:=by simp [qav]
theorem q5w {l:List Int}{x:Int}(h:0<=x)(c:x<16):((qav l).map Value.bool).toArray.setIfInBounds x.toNat (.bool true)=((qav (l++ [x])).map .bool).toArray:=by
 apply Array.ext';simp only [Array.toList_setIfInBounds];rw [←map_set]
 congr 1
 apply xZ;intro i;simp only [qav,getElem?_set,zP,zL,length_range];by_cases hi:x.toNat=i
 ·subst hi;rw [zI rfl,zI wC,xu wC];have:((x.toNat:Nat):Int)=x:=by omega
  simp [this]
 ·rw [zF hi];cases b:(List.range 16)[i]? with
  |none=>rfl
  |some j=>
   have d:j=i:=by
    rw [zA]at b;obtain⟨g,e⟩:=b
    simpa using e.symm
   subst d;have:((j:Nat):Int)≠x:=wC
   simp [this]
theorem qvj:qav []= [false,false,false,false,false,false,false,false,false,false,false,false,false,false,false,false]:=by simp [qav,xz]
def qkg (n:Nat)(l:List Int):List Bool:=if qd8 n l=true then qav l else qav []
theorem q3d {n:Nat}{l:List Int}(b: ∀i,i<l.length->qif n l i=true):qd8 n l=true:=yM.2 fun i hi=>b i (by simpa using hi)
theorem q7x {w:World}{B n c P K:Nat}{vD:Value}(h:w.heap[B]?=some (.cells (qfr n vD c P K).toArray 171 (0,0)))(hn:n<=16)(m:Nat)(v:Value)(l:List Int)(hs:qat m w v l)(hm:m<=w.heap.size):
  Calls prog 179 #[.pointer (some ⟨B,0,none⟩),v] w fun e w'=>e=.returned (.tuple #[qio (qkg n l),.bool (qd8 n l)])/\Keep (fun k=>k<w.heap.size) w w':=by
 obtain⟨a,cc,rfl,bW,bP,a7⟩:=id hs;have hB:=qe h;obtain⟨W0,aQ⟩:=ex ((w.alloc (.cells #[.bool false,.bool false,.bool false,.bool false,.bool false,.bool false,.bool false,.bool false,.bool false,.bool false,.bool false,.bool false,.bool false,.bool false,.bool false,.bool false] 179)).alloc (.cells #[.bool false,.bool false,.bool false,.bool false,.bool false,.bool false,.bool false,.bool false,.bool false,.bool false,.bool false,.bool false,.bool false,.bool false,.bool false,.bool false] 179));have a6:wG w W0:=by rw [←aQ];exact kAl.trans kAl
 have s0:W0.heap.size=w.heap.size+1+1:=by rw [←aQ];simp
 have n1:W0.heap[w.heap.size]?=some (.cells #[.bool false,.bool false,.bool false,.bool false,.bool false,.bool false,.bool false,.bool false,.bool false,.bool false,.bool false,.bool false,.bool false,.bool false,.bool false,.bool false] 179 (0,0)):=by rw [←aQ];exact qf3 (qh _ _) _
 have n2:W0.heap[w.heap.size+1]?=some (.cells ((qav (l.take 0)).map .bool).toArray 179 (0,0)):=by rw [←aQ];rw [take_zero,qvj];simp only [qao,zO];simp
 have aG:(prog.info? 179).map (·.size)=some 16:=wD
 refine hd7 ?_ h hs a7 n1 n2 a6 aG;clear h hs a7 n1 n2 a6 aG;intro Xh bK bc bl bj a8 ae
 go_enter Tryz.func179,Tryz.ntmps179
 go_wp2_with fail
 go_loopw [12,7] (fun i j wr=> ∃k:Nat,k<=l.length/\i=.int .i64 k/\j=.int .i64 (if k=0 then-1 else l.getD (k-1) 0)/\Keep (fun j=>j≠w.heap.size+1) W0 wr/\wr.heap[w.heap.size+1]?=some (.cells ((qav (l.take k)).map .bool).toArray 179 (0,0))/\ ∀i,i<k->qif n l i=true) (fun i j _=>l.length-(intOf i).toNat)
 case atStart=>exact⟨0,wC,rfl,rfl,Keep.refl _ _,bj.o,fun i hi=>wC⟩
 case round=>
  obtain⟨k,hk,rfl,rfl,hK,p,s⟩:=hrel;have bx:=hK.size;have ab:Keep (fun j=>j<w.heap.size) w wr:=(a8.o.mt).trans (hK.mono fun b _ h=>wC);have an:=ab.heap Xh.o hB;have af:=hK.heap bl.o wC;have c0:=qb an 0 _ rfl;have aq:wr.there w.heap.size 0 16:=fun j hj=>by
   rw [zD];refine⟨?_,qg af j⟩;simp [World.cell?,af];omega
  simp only [zD]at c0;have bz:B<wr.heap.size:=wC
  have l1:w.heap.size<wr.heap.size:=wC
  have l2:w.heap.size+1<wr.heap.size:=wC
  by_cases aX:k<l.length
  ·obtain⟨x,hx⟩: ∃x,l[k]?=some x:=⟨_,zB aX⟩;obtain⟨b,o,rfl,hb,a4⟩:=bc.o k x hx;have a4:=ab.cell a4 (by simp only;omega);simp only [yB]at a4;have g:b<wr.heap.size:=by omega
   have bt:(k:Int)<l.length:=wC
   have bD:(0:Int)<=k:=wC
   have aN:l.getD k 0=x:=by rw [zJ,hx];rfl
   obtain⟨t,r⟩:=ex ((if k=0 then (-1:Int) else l.getD (k-1) 0));have bd: -1<=t:=by
    rw [←r];split
    ·omega
    ·have:=s (k-1) wC;simp only [qif,zV,zT]at this;omega
   rw [r];have aC:qif n l k=true↔t<x/\x<n:=by
    simp only [qif,zV,zT,ya,xE,aN];rw [←r];by_cases h0:k=0
    ·simp [h0];omega
    ·rw [zF h0];have:=s (k-1) wC;simp only [qif,zV,zT]at this;constructor
     ·rintro⟨⟨q1,q2⟩,q3⟩;exact⟨q3.resolve_left h0,q2⟩
     ·rintro⟨q1,q2⟩;exact⟨⟨wC,q2⟩,.inr q1⟩
   by_cases aa:t<x/\x<n
   ·obtain⟨g1,g2⟩:=aa;have g3: ¬(x<=t):=by omega
    have g4: ¬((n:Int)<=x):=wC
    have g5:(0:Int)<=x:=wC
    have g6:x<16:=wC
    have ar:=qag x.toNat (.bool true) p;rw [q5w g5 g6]at ar;have aw:l.take (k+1)=l.take k++ [x]:=by rw [zh,hx];rfl
    rw [←aw]at ar;have bL:wr.frozen? ⟨w.heap.size+1,x.toNat,none⟩=false:=by simp [World.frozen?,p]
    obtain⟨u0,b1⟩: ∃u0,wr.cell? ⟨w.heap.size+1,x.toNat,none⟩=some u0:=by
     have bk:x.toNat<((qav (l.take k)).map Value.bool).length:=by rw [zL,qkf];omega
     have:=qb p x.toNat _ (by exact zB bk);rw [zD]at this;exact⟨_,this⟩
    have aF: ∀i,i<k+1->qif n l i=true:=fun i hi=>by
     rcases y7 i k with h1 |h1
     ·exact s i h1
     ·have:i=k:=by omega
      subst this;exact aC.2 ⟨g1,g2⟩
    have au:(if k+1=0 then (-1:Int) else l.getD (k+1-1) 0)=x:=by rw [zF wC,Nat.add_sub_cancel];exact aN
    clear aC s an af p aw hx aN r aq;refine hd5 ?_ ar hK ab aF au;clear ar hK ab aF au;intro a3 aO ad aP aD;go_wp2_with fail;exact⟨⟨k+1,wC,wE,by rw [aD.o],aO.o.trans (kSc),a3.o,aP.o⟩,by simp [intOf];omega⟩
   ·have q:qd8 n l=false:=by
     rw [Bool.eq_false_iff];intro bp;exact aa (aC.1 (yM.1 bp k (by simpa using aX)))
    have av:qio (qkg n l)=.agg #[.bool false,.bool false,.bool false,.bool false,.bool false,.bool false,.bool false,.bool false,.bool false,.bool false,.bool false,.bool false,.bool false,.bool false,.bool false,.bool false]:=by
     unfold qkg;rw [q,zF wE,qvj]
     rfl
    by_cases g1:t<x
    ·have g2:(n:Int)<=x:=by
      rcases Int.lt_or_le x n with h1 |h1
      ·exact absurd ⟨g1,h1⟩ aa
      ·exact h1
     have g3: ¬(x<=t):=wC
     clear aa;clear aC s an p hx aN r;refine hd6 ?_ af hK ab q av aq;clear af hK ab q av aq;intro ao aO ad u ap ak;go_wp2_with (refine wpList_store_mid rfl 179 _ _ rfl w.heap.size 0 #[.bool false,.bool false,.bool false,.bool false,.bool false,.bool false,.bool false,.bool false,.bool false,.bool false,.bool false,.bool false,.bool false,.bool false,.bool false,.bool false] rfl rfl ak.o ae.o (by simp [Value.oneCell']) ?_);refine qiv (fun W=>W.heap[w.heap.size]?=some (.cells #[.bool false,.bool false,.bool false,.bool false,.bool false,.bool false,.bool false,.bool false,.bool false,.bool false,.bool false,.bool false,.bool false,.bool false,.bool false,.bool false] 179 (0,0))/\Keep (fun k=>k<w.heap.size) w W) (w:=World.setCells wr w.heap.size 0 [.bool false,.bool false,.bool false,.bool false,.bool false,.bool false,.bool false,.bool false,.bool false,.bool false,.bool false,.bool false,.bool false,.bool false,.bool false,.bool false]) ⟨qjl [.bool false,.bool false,.bool false,.bool false,.bool false,.bool false,.bool false,.bool false,.bool false,.bool false,.bool false,.bool false,.bool false,.bool false,.bool false,.bool false] ao.o rfl,ad.o.trans ((qjm _ _ _ _).mono (fun b _ h=>wC))⟩ ?_;rintro W2 ⟨d,kq⟩;have r0:=qb d 0 _ rfl;have r1:=qb d 1 _ rfl;have r2:=qb d 2 _ rfl;have r3:=qb d 3 _ rfl;have r4:=qb d 4 _ rfl;have r5:=qb d 5 _ rfl;have r6:=qb d 6 _ rfl;have r7:=qb d 7 _ rfl;have r8:=qb d 8 _ rfl;have r9:=qb d 9 _ rfl;have al:=qb d 10 _ rfl;have aj:=qb d 11 _ rfl;have ag:=qb d 12 _ rfl;have am:=qb d 13 _ rfl;have ai:=qb d 14 _ rfl;have ah:=qb d 15 _ rfl;simp only [zD]at r0 r1 r2 r3 r4 r5 r6 r7 r8 r9 al aj ag am ai ah;clear d;refine hd1 ?_ kq;clear kq;intro az;refine yA (v:=.tuple #[.agg #[.bool false,.bool false,.bool false,.bool false,.bool false,.bool false,.bool false,.bool false,.bool false,.bool false,.bool false,.bool false,.bool false,.bool false,.bool false,.bool false],.bool false]) (by simp [results,Tryz.results179,go_sem,r0,r1,r2,r3,r4,r5,r6,r7,r8,r9,al,aj,ag,am,ai,ah]) rfl ⟨by rw [ap.o,u.o],az.o⟩
    ·have g3:x<=t:=by omega
     clear aa g1;clear aC s an p hx aN r;refine hd6 ?_ af hK ab q av aq;clear af hK ab q av aq;intro ao aO ad u ap ak;go_wp2_with (refine wpList_store_mid rfl 179 _ _ rfl w.heap.size 0 #[.bool false,.bool false,.bool false,.bool false,.bool false,.bool false,.bool false,.bool false,.bool false,.bool false,.bool false,.bool false,.bool false,.bool false,.bool false,.bool false] rfl rfl ak.o ae.o (by simp [Value.oneCell']) ?_);refine qiv (fun W=>W.heap[w.heap.size]?=some (.cells #[.bool false,.bool false,.bool false,.bool false,.bool false,.bool false,.bool false,.bool false,.bool false,.bool false,.bool false,.bool false,.bool false,.bool false,.bool false,.bool false] 179 (0,0))/\Keep (fun k=>k<w.heap.size) w W) (w:=World.setCells wr w.heap.size 0 [.bool false,.bool false,.bool false,.bool false,.bool false,.bool false,.bool false,.bool false,.bool false,.bool false,.bool false,.bool false,.bool false,.bool false,.bool false,.bool false]) ⟨qjl [.bool false,.bool false,.bool false,.bool false,.bool false,.bool false,.bool false,.bool false,.bool false,.bool false,.bool false,.bool false,.bool false,.bool false,.bool false,.bool false] ao.o rfl,ad.o.trans ((qjm _ _ _ _).mono (fun b _ h=>wC))⟩ ?_;rintro W2 ⟨d,kq⟩;have r0:=qb d 0 _ rfl;have r1:=qb d 1 _ rfl;have r2:=qb d 2 _ rfl;have r3:=qb d 3 _ rfl;have r4:=qb d 4 _ rfl;have r5:=qb d 5 _ rfl;have r6:=qb d 6 _ rfl;have r7:=qb d 7 _ rfl;have r8:=qb d 8 _ rfl;have r9:=qb d 9 _ rfl;have al:=qb d 10 _ rfl;have aj:=qb d 11 _ rfl;have ag:=qb d 12 _ rfl;have am:=qb d 13 _ rfl;have ai:=qb d 14 _ rfl;have ah:=qb d 15 _ rfl;simp only [zD]at r0 r1 r2 r3 r4 r5 r6 r7 r8 r9 al aj ag am ai ah;clear d;refine hd1 ?_ kq;clear kq;intro az;refine yA (v:=.tuple #[.agg #[.bool false,.bool false,.bool false,.bool false,.bool false,.bool false,.bool false,.bool false,.bool false,.bool false,.bool false,.bool false,.bool false,.bool false,.bool false,.bool false],.bool false]) (by simp [results,Tryz.results179,go_sem,r0,r1,r2,r3,r4,r5,r6,r7,r8,r9,al,aj,ag,am,ai,ah]) rfl ⟨by rw [ap.o,u.o],az.o⟩
  ·generalize (if k=0 then (-1:Int) else l.getD (k-1) 0)=t;obtain rfl:k=l.length:=by omega
   rw [zi]at p;have q:qd8 n l=true:=q3d s;obtain⟨k0,k1,k2,k3,k4,k5,k6,k7,k8,k9,z,U,y,R,Y,X,aM⟩: ∃k0 k1 k2 k3 k4 k5 k6 k7 k8 k9 z U y R Y X,qav l= [k0,k1,k2,k3,k4,k5,k6,k7,k8,k9,z,U,y,R,Y,X]:=by
    have bb:=qkf l
    match h:qav l,bb with
    | [k0,k1,k2,k3,k4,k5,k6,k7,k8,k9,z,U,y,R,Y,X],_=>exact⟨k0,k1,k2,k3,k4,k5,k6,k7,k8,k9,z,U,y,R,Y,X,rfl⟩
   have ba:qio (qkg n l)=.agg #[.bool k0,.bool k1,.bool k2,.bool k3,.bool k4,.bool k5,.bool k6,.bool k7,.bool k8,.bool k9,.bool z,.bool U,.bool y,.bool R,.bool Y,.bool X]:=by unfold qkg;rw [q,zI rfl,aM];rfl
   rw [aM]at p;have g:wr.heap[w.heap.size+1]?=some (.cells #[.bool k0,.bool k1,.bool k2,.bool k3,.bool k4,.bool k5,.bool k6,.bool k7,.bool k8,.bool k9,.bool z,.bool U,.bool y,.bool R,.bool Y,.bool X] 179 (0,0)):=p;have c1:=qb g 0 _ rfl;have c2:=qb g 1 _ rfl;have c3:=qb g 2 _ rfl;have c4:=qb g 3 _ rfl;have c5:=qb g 4 _ rfl;have c6:=qb g 5 _ rfl;have c7:=qb g 6 _ rfl;have c8:=qb g 7 _ rfl;have c9:=qb g 8 _ rfl;have bi:=qb g 9 _ rfl;have bg:=qb g 10 _ rfl;have bs:=qb g 11 _ rfl;have bq:=qb g 12 _ rfl;have bh:=qb g 13 _ rfl;have bm:=qb g 14 _ rfl;have bo:=qb g 15 _ rfl;simp only [zD]at c1 c2 c3 c4 c5 c6 c7 c8 c9 bi bg bs bq bh bm bo;clear p aM g s an;refine hd6 ?_ af hK ab q ba aq;clear af hK ab q ba aq;intro ao aO ad u a9 ak;go_wp2_with (refine wpList_store_mid rfl 179 _ _ rfl w.heap.size 0 #[.bool k0,.bool k1,.bool k2,.bool k3,.bool k4,.bool k5,.bool k6,.bool k7,.bool k8,.bool k9,.bool z,.bool U,.bool y,.bool R,.bool Y,.bool X] rfl rfl ak.o ae.o (by simp [Value.oneCell']) ?_);refine qiv (fun W=>W.heap[w.heap.size]?=some (.cells #[.bool k0,.bool k1,.bool k2,.bool k3,.bool k4,.bool k5,.bool k6,.bool k7,.bool k8,.bool k9,.bool z,.bool U,.bool y,.bool R,.bool Y,.bool X] 179 (0,0))/\Keep (fun k=>k<w.heap.size) w W) (w:=World.setCells wr w.heap.size 0 [.bool k0,.bool k1,.bool k2,.bool k3,.bool k4,.bool k5,.bool k6,.bool k7,.bool k8,.bool k9,.bool z,.bool U,.bool y,.bool R,.bool Y,.bool X]) ⟨qjl [.bool k0,.bool k1,.bool k2,.bool k3,.bool k4,.bool k5,.bool k6,.bool k7,.bool k8,.bool k9,.bool z,.bool U,.bool y,.bool R,.bool Y,.bool X] ao.o rfl,ad.o.trans ((qjm _ _ _ _).mono (fun b _ h=>wC))⟩ ?_;rintro W2 ⟨d,kq⟩;have r0:=qb d 0 _ rfl;have r1:=qb d 1 _ rfl;have r2:=qb d 2 _ rfl;have r3:=qb d 3 _ rfl;have r4:=qb d 4 _ rfl;have r5:=qb d 5 _ rfl
   have r6:=qb d 6 _ rfl;have r7:=qb d 7 _ rfl;have r8:=qb d 8 _ rfl;have r9:=qb d 9 _ rfl;have al:=qb d 10 _ rfl;have aj:=qb d 11 _ rfl;have ag:=qb d 12 _ rfl;have am:=qb d 13 _ rfl;have ai:=qb d 14 _ rfl;have ah:=qb d 15 _ rfl;simp only [zD]at r0 r1 r2 r3 r4 r5 r6 r7 r8 r9 al aj ag am ai ah;clear d;refine hd1 ?_ kq;clear kq;intro az;refine yA (v:=.tuple #[.agg #[.bool k0,.bool k1,.bool k2,.bool k3,.bool k4,.bool k5,.bool k6,.bool k7,.bool k8,.bool k9,.bool z,.bool U,.bool y,.bool R,.bool Y,.bool X],.bool true]) (by simp [results,Tryz.results179,go_sem,r0,r1,r2,r3,r4,r5,r6,r7,r8,r9,al,aj,ag,am,ai,ah]) rfl ⟨by rw [a9.o,u.o],az.o⟩
end Go.Proofs.R4
