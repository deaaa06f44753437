/- Parts of the proof. -/
import Derived.Test.YtnponcjnahicnaaGreatPnEToPnJ
import Derived.Laws.FloatArith
set_option linter.unusedSimpArgs false
set_option linter.unusedVariables false
set_option maxRecDepth 100000
set_option maxHeartbeats 1000000
open Go.Proofs.Tryz(prog)
open List(filter_filter filter_map filter_nil foldl_cons length_zipIdx set_cons_succ set_cons_zero zipIdx_append zipIdx_cons zipIdx_nil)
namespace Go.Proofs.P16
open Go.RowKit Go.Ink
attribute [local go_sem] Oper.semAt_some
theorem q7p:qcj prog 86 3 1 8:=qc2 (z:=.int .i64 0) wD wD rfl wF wF
theorem qrs:qcj prog 46 9 1 16:=qc2 (z:=.string ⟨#[]⟩) wD wD rfl wF wF
def qbx (K:List ByteArray)(ts:List TermD):List Int:=(ts.zipIdx.filter fun p=>!qcu K p.1).map fun p=>(p.2:Int)
def qcf (K:List ByteArray)(ts:List TermD):List ByteArray:=qbf ((ts.filter (qcu K)).map (·.text))
theorem qw9 (K:List ByteArray)(ts:List TermD){k:Nat}{t:TermD}(h:ts[k]?=some t):qbx K (ts.take (k+1))=qbx K (ts.take k)++if qcu K t then [] else [(k:Int)]:=by
 have b:(ts.take k).length=k:=by rw [yC];have:=(zA.1 h).1;omega
 unfold qbx;rw [zh,h,zipIdx_append,yV,zn,b];simp only [Option.toList_some,zipIdx_cons,zipIdx_nil,yg,filter_nil];cases qcu K t<;>simp
theorem q2o (K:List ByteArray)(ts:List TermD){k:Nat}{t:TermD}(h:ts[k]?=some t):qcf K (ts.take (k+1))=if qcu K t then (if t.text∈qcf K (ts.take k) then qcf K (ts.take k) else qcf K (ts.take k)++ [t.text]) else qcf K (ts.take k):=by
 unfold qcf;rw [zh,h,yV,zn];simp only [Option.toList_some,yg,filter_nil];cases qcu K t
 ·simp
 ·simp [qib]
theorem ql8 (K:List ByteArray)(ts:List TermD):(qbx K ts).length<=ts.length:=by
 unfold qbx;rw [zL];refine zW (yf _ _) ?_;rw [length_zipIdx];exact zG _
theorem ql9 (K:List ByteArray)(ts:List TermD):(qcf K ts).length<=ts.length:=by
 unfold qcf;refine zW (qm7 _) ?_;rw [zL];exact yf _ _
structure qds where
 lit:Int
 bound:List Int
 new:List ByteArray
 deriving DecidableEq,Inhabited
def qbo (K:List ByteArray)(L:LitD)(i:Int):qds:=if L.kind=3 then ⟨i,[],[]⟩ else ⟨i,qbx K L.atom.args,qcf K L.atom.args⟩
def qks (s:qds)(bv nv:Value):Value:=.agg #[.int .i64 s.lit,bv,nv]
def qdi (K:List ByteArray)(new:List ByteArray):List ByteArray:=new.foldl (fun acc x=>if x∈acc then acc else acc++ [x]) K
theorem qxa (K l:List ByteArray){k:Nat}{x:ByteArray}(h:l[k]?=some x):qdi K (l.take (k+1))=if x∈qdi K (l.take k) then qdi K (l.take k) else qdi K (l.take k)++ [x]:=by
 unfold qdi;rw [zh,h,yn]
 rfl
theorem q7q {w:World}{M:Nat}{K:List ByteArray}(d:SetIn w M K){b o:Nat}{v:Value}(h:w.cell? ⟨b,o,none⟩=some v):b≠M:=by
 rintro rfl;obtain⟨g,c,e,-⟩:=d;simp [World.cell?,e]at h
theorem qsr (n M:Nat)(K:List ByteArray)(s:qds)(bv nv:Value)(w:World)(z:SetIn w M K)(Y:qac n w nv s.new)(ak:n<=w.heap.size):
  Calls prog 150 #[.map (some M),qks s bv nv] w fun e w'=>e=.returned (.tuple #[])/\SetIn w' M (qdi K s.new)/\Keep (fun b=>b≠M) w w':=by
 obtain⟨i,bd,d⟩:=s;unfold qks;simp only at Y⊢;obtain⟨a,c,rfl,af,ae,p⟩:=id Y;have hM:=z.lt;clear Y;refine hd2 ?_ p z;clear p z;intro u r
 go_enter Tryz.func150,Tryz.ntmps150
 go_wp2_with fail
 go_loopw [9] (fun i wr=> ∃k:Nat,k<=d.length/\i=.int .i64 (k:Int)/\Keep (fun b=>b≠M) w wr/\SetIn wr M (qdi K (d.take k))) (fun i _=>d.length-(intOf i).toNat)
 case atStart=>exact⟨0,wC,rfl,kAl,r.o.keep (Keep.alloc (fun _=>True) _ _) wH⟩
 case round=>
  obtain⟨k,hk,rfl,hK,t⟩:=hrel;have ag:=hK.size;by_cases X:k<d.length
  ·have ad:(k:Int)<d.length:=by omega
   have ah:(0:Int)<=k:=wC
   obtain⟨x,R⟩: ∃x,d[k]?=some x:=⟨_,zB X⟩;obtain⟨b,o,rfl,hb,U⟩:=u.o k x R;have aa:=q7q r.o U;have f2:=hK.cell U aa;simp only [yB]at f2;have al:b<wr.heap.size:=wC
   obtain⟨W1,aj,g,q,y⟩:=qix (P:=prog) (T:=237) (K:=9) (E:=4) Tryz.underlying237 Tryz.underlying9 t x;rw [←qxa K d R]at g;have m:=hK.trans q;clear U q R t y;refine hd3 ?_ hK g m;clear hK g m;intro h l v;go_wp2_with fail;go_roundw
   case rel=>exact⟨k+1,wC,by go_num,v.o,l.o⟩
   case measure=>simp [intOf];omega
  ·obtain rfl:k=d.length:=by omega
   rw [zi]at t;refine hd2 ?_ hK t;clear hK t;intro h ab;go_wp2_with fail;refine wA (yw rfl _ _ _) rfl ?_;exact⟨rfl,ab.o,h.o⟩
theorem qa1 {w:World}{base:Nat}{e:TypeId}{sz n:Nat}{v:Value}{xs:List Value}(h:w.ownsRow base e sz v n xs){b:Nat}(c:v.ownBlock=some b): ∃cs,w.heap[b]?=some (.cells cs e (0,0)):=by
 rcases h.2 with ⟨rfl,_⟩ |⟨g,cap,cur,rfl,_,hg,_⟩
 ·simp [Value.ownBlock]at c
 ·simp [Value.ownBlock]at c;subst c;exact⟨_,hg⟩
theorem qpp (n M:Nat)(K:List ByteArray)(r:RuleD)(sh sb:Value)(i:Nat)(L:LitD)(hL:r.body[i]?=some L)(w:World)(hS:SetIn w M K)(hr:RuleIn n w sh sb r)(hn:n<=w.heap.size):
  Calls prog 149 #[.map (some M),qam r sh sb,.int .i64 (i:Int)] w fun e w'=> ∃vb vn,e=.returned (.agg #[.int .i64 (i:Int),vb,vn])/\
   w'.ownsRow w.heap.size 3 1 vb (qbo K L i).bound.length ((qbo K L i).bound.map (.int .i64))/\w'.ownsRow w.heap.size 9 1 vn (qbo K L i).new.length ((qbo K L i).new.map .string)/\Keep (fun b=>b<w.heap.size) w w':=by
 obtain⟨⟨pr,args⟩,body⟩:=r;obtain⟨hh,m⟩:=hr;unfold qam;simp only at hh m hL⊢;have hM:=hS.lt;obtain⟨ah,ch,rfl,-,-,-⟩:=id hh;obtain⟨ab,cb,rfl,cw,cJ,a7⟩:=id m;obtain⟨b,o,rfl,co,sa,af,aQ⟩:=a7 i L hL;obtain⟨aa,ca,rfl,bI,bv,aE⟩:=id aQ;have hi:i<body.length:=(zA.1 hL).1;have cu:(i:Int)<body.length:=wC
 have cz:(0:Int)<=i:=wC
 have cI:b<w.heap.size:=wC
 have bU:b<w.heap.size+1:=wC
 have b3:b<w.heap.size+1+1:=wC
 have d0:=af 0 _ rfl;have d1:=af 1 _ rfl;have d2:=af 2 _ rfl;have d3:=af 3 _ rfl;have d4:=af 4 _ rfl;have d5:=af 5 _ rfl;have d6:=af 6 _ rfl;simp only [Nat.add_zero]at d0;clear af hh m hL;obtain⟨kd,⟨aY,c⟩,⟨lv,lt⟩,⟨rv,rt⟩⟩:=L;simp only at d0 d1 d2 d3 d4 d5 d6 aQ bI bv aE⊢;by_cases h3:kd=3
 ·have hE:qbo K ⟨kd,⟨aY,c⟩,⟨lv,lt⟩,⟨rv,rt⟩⟩ i=⟨i,[],[]⟩:=by unfold qbo;rw [zI h3]
  subst h3;rw [hE];clear aQ aE;refine hd2 ?_ hS hE;clear hS hE;intro a4 bN
  go_enter Tryz.func149,Tryz.ntmps149
  go_wp2_with fail;refine yA (v:=.agg #[.int .i64 (i:Int),.slice none 0 0,.slice none 0 0]) (by simp [results,Tryz.results149,go_sem]) rfl ?_;exact⟨_,_,rfl,zj _ _ _ _,zj _ _ _ _,((kAl.trans kAl).trans kAl).trans kAl⟩
 ·have hE:qbo K ⟨kd,⟨aY,c⟩,⟨lv,lt⟩,⟨rv,rt⟩⟩ i=⟨i,qbx K c,qcf K c⟩:=by unfold qbo;rw [zF h3]
  rw [hE];have ho:=fun t W (h:SetIn W M K)=>qpo M K t W h;have cn:(kd==3)=false:=y9.2 h3;clear a7 h3;refine hd4 ?_ hS hE aE ho;clear hS hE aE ho;intro a4 bN bl bH
  go_enter Tryz.func149,Tryz.ntmps149
  go_wp2_with fail;refine qk9 (fun W=>Keep (fun b=>b<w.heap.size) w W/\W.heap.size=w.heap.size+1+1+1+1/\W.heap[w.heap.size+1]?=some (.cells #[.int .i64 0,.slice none 0 0,.slice none 0 0] 211 (0,0))/\
   W.heap[w.heap.size+1+1]?=some (.cells #[.int .i64 (i:Int),.slice none 0 0,.slice none 0 0] 211 (0,0))) ⟨((kAl.trans kAl).trans kAl).trans kAl,wE,by simp only [qao,zO];simp,by simp only [qao,zO];simp⟩ ?_
  rintro W0 ⟨k0,z0,a1,a2⟩;refine hd3 ?_ k0 a1 a2;clear k0 a1 a2;intro aV bt bO
  go_loopw [26] (fun i' wr=> ∃(k:Nat) (vb vn:Value),k<=c.length/\i'=.int .i64 (k:Int)/\Keep (fun b=>b<w.heap.size+1+1) W0 wr/\wr.heap[w.heap.size+1+1]?=some (.cells #[.int .i64 (i:Int),vb,vn] 211 (0,0))/\
   wr.ownsRow W0.heap.size 3 1 vb (qbx K (c.take k)).length ((qbx K (c.take k)).map (.int .i64))/\wr.ownsRow W0.heap.size 9 1 vn (qcf K (c.take k)).length ((qcf K (c.take k)).map .string)) (fun i _=>c.length-(intOf i).toNat)
  case atStart=>exact⟨0,_,_,wC,rfl,Keep.refl _ _,bO.o,zj _ _ _ _,zj _ _ _ _⟩
  case round=>
   obtain⟨k,vb,vn,hk,rfl,hK,hX,aq,hon⟩:=hrel;have cC:=hK.size;have cp:=qe hX;by_cases bM:k<c.length
   ·have b1:(k:Int)<c.length:=by omega
    have ck:(0:Int)<=k:=wC
    obtain⟨x,hx⟩: ∃x,c[k]?=some x:=⟨_,zB bM⟩;obtain⟨b4,o4,rfl,cF,q0,q1⟩:=bl.o k x hx;have kw:Keep (fun b=>b<w.heap.size) w wr:=aV.o.trans (hK.mono fun b _ h=>wC);have f0:=kw.cell q0 (show b4<w.heap.size from wC);have f1:=kw.cell q1 (show b4<w.heap.size from wC);have bW:b4<wr.heap.size:=wC
    obtain⟨W1,aJ⟩:=ex (wr.alloc (.cells #[.bool x.var,.string x.text] 60));have k1:wG wr W1:=by rw [←aJ];exact kAl
    have g1:W1.heap[wr.heap.size]?=some (.cells #[.bool x.var,.string x.text] 60 (0,0)):=by rw [←aJ];exact qh _ _
    have cg:=k1.size;have d:=qw9 K c hx;have l:=q2o K c hx;have aH:=bH.o x W1 (a4.o.keep (kw.trans k1.mt) hM);unfold qc3 at aH;obtain⟨bo,bc⟩: ∃b,qcu K x=b:=⟨_,rfl⟩;rw [bc]at d l aH;have bP:=ql8 K (c.take k);have bz:=ql9 K (c.take k);rw [yC]at bP bz;clear q0 q1 bc hx;refine qhu ?_ hK hX aq hon kw aJ k1 g1 d l aH;clear hK hX aq hon kw aJ k1 g1 d l aH;intro aP a9 ad ag cx aX bF bK ao ap a0;go_wp2_with fail;rw [aX.o];refine a0.o.mono ?_;rintro e W2 ⟨rfl,k2⟩;have cv:=k2.size;have al:wG wr W2:=bF.o.trans k2;have Y:=al.heap a9.o trivial;have y:=qf ad.o al (fun _ _=>wH);have q:=qf ag.o al (fun _ _=>wH);have cA:w.heap.size+1+1<W2.heap.size:=wC
    have ar:Keep (fun b=>b<w.heap.size+1+1) W0 W2:=aP.o.trans al.mt;have X: ∀b,(Value.ownBlock vb=some b∨Value.ownBlock vn=some b)->b≠w.heap.size+1+1:=fun b m=>by
     rcases m with m |m
     ·have:=(zE ad.o b m).1;omega
     ·have:=(zE ag.o b m).1;omega
    have d:=ao.o;have l:=ap.o;have c1:=qb Y 1 _ rfl;have c2:=qb Y 2 _ rfl;simp only [zD]at c1 c2;cases bo
    ·simp only [zz,xA]at d l;obtain⟨v',W3,aj,R,z,g,cap,aO,bG,aZ⟩:=qc8 (P:=prog) q7p 86 y [.int .i64 (k:Int)] rfl (by simp [Value.oneCell']) wC wC;subst aO;have p:=z.heap Y (fun e=>X _ (.inl e.symm) rfl);have aR:=qf q z (fun b m e=>by
      obtain⟨c1,t1⟩:=qa1 y e.symm;obtain⟨c2,t2⟩:=qa1 q m;rw [t1]at t2;cases t2)
     have d1:=qb p 1 _ rfl;have bw:=qg p 1;simp only [zD]at d1;have bx:=qe p;have ak:Keep (fun b=>b<w.heap.size+1+1) W0 (W3.setCell ⟨w.heap.size+1+1,1,none⟩ (.slice (some ⟨g,0,none⟩) ((qbx K (c.take k)).length+1) cap)):=
      (ar.trans (z.mono fun b m h e=>by have:=(zE y b e.symm).1;omega)).trans (kSc)
     have kS:Keep (fun b=>b≠w.heap.size+1+1) W3 (W3.setCell ⟨w.heap.size+1+1,1,none⟩ (.slice (some ⟨g,0,none⟩) ((qbx K (c.take k)).length+1) cap)):=kSc;have s:=qag 1 (.slice (some ⟨g,0,none⟩) ((qbx K (c.take k)).length+1) cap) p;have ai:=qf R kS (fun b m=>by have:=(zE R b m).1;omega);have U:=qf aR kS (fun b m=>by have:=(zE aR b m).1;omega);rw [show(qbx K (c.take k)).map (Value.int .i64)++ [Value.int .i64 (k:Int)]=(qbx K (c.take (k+1))).map (.int .i64) from by rw [d,zn];rfl,show(qbx K (c.take k)).length+1=(qbx K (c.take (k+1))).length from by rw [d,zR];rfl]at ai;rw [←l]at U;rw [show(qbx K (c.take k)).length+1=(qbx K (c.take (k+1))).length from by rw [d,zR];rfl]at s ak aj;simp only [yK,set_cons_succ,set_cons_zero]at s;obtain⟨W4,ae⟩:=ex (W3.setCell ⟨w.heap.size+1+1,1,none⟩ (.slice (some ⟨g,0,none⟩) (qbx K (c.take (k+1))).length cap));rw [show(qbx K (c.take k)).length+1=(qbx K (c.take (k+1))).length from by rw [d,zR];rfl]at U;rw [ae]at s ak ai U;clear kS k2 al y q R z aR p Y X ar;refine hd8 ?_ aj s ak ai U d l ae;clear aj s ak ai U d l ae;intro aC ax aB av aA ao ap aD;go_wp2_with (at_builtin;refine qbu (v:=vb) (u:=.slice (some ⟨W2.heap.size,0,none⟩) 1 1) (v':=.slice (some ⟨g,0,none⟩) (qbx K (c.take (k+1))).length cap) (w':=W3) rfl (.tmp 36) (.tmp 38) 86 rfl rfl rfl aC.o ?_);rw [aD.o];go_roundw
     case rel=>exact⟨k+1,_,_,wC,by go_num,aB.o,ax.o,av.o,aA.o⟩
     case measure=>simp [intOf];omega
    ·simp only [yj,yQ]at d l;have az:=qu3 W2.heap.size vn (qcf K (c.take k)) x.text W2 (qbq q wC) (zG _);have aG:=k2.heap bK.o trivial;have t1:=qb aG 1 _ rfl;simp only [zD]at t1;obtain⟨bi,ay⟩: ∃b,decide (x.text∈qcf K (c.take k))=b:=⟨_,rfl⟩;rw [ay]at az;have cl:wr.heap.size<W2.heap.size:=qe aG;cases bi
     ·have am: ¬x.text∈qcf K (c.take k):=xV ay;rw [zF am]at l;obtain⟨v',W3,aj,R,z,g,cap,aO,bG,aZ⟩:=qc8 (P:=prog) qrs 46 q [.string x.text] rfl (by simp [Value.oneCell']) wC wC;subst aO;have p:=z.heap Y (fun e=>X _ (.inr e.symm) rfl);have aF:=qf y z (fun b m e=>by
       obtain⟨c1,t1⟩:=qa1 q e.symm;obtain⟨c2,t2⟩:=qa1 y m;rw [t1]at t2;cases t2)
      have d1:=qb p 2 _ rfl;have bw:=qg p 2;simp only [zD]at d1;have bx:=qe p;have bQ:(qcf K (c.take k)).length+1=(qcf K (c.take (k+1))).length:=by rw [l,zR];rfl
      rw [bQ]at aj R;rw [show(qcf K (c.take k)).map Value.string++ [Value.string x.text]=(qcf K (c.take (k+1))).map .string from by rw [l,zn];rfl]at R;rw [←d]at aF;obtain⟨W4,ae⟩:=ex (W3.setCell ⟨w.heap.size+1+1,2,none⟩ (.slice (some ⟨g,0,none⟩) (qcf K (c.take (k+1))).length cap));have kS:Keep (fun b=>b≠w.heap.size+1+1) W3 W4:=by rw [←ae];exact kSc
      have ak:Keep (fun b=>b<w.heap.size+1+1) W0 W4:=
       (ar.trans (z.mono fun b m h e=>by have:=(zE q b e.symm).1;omega)).trans (kS.mono fun b _ h=>wC)
      have s:=qag 2 (.slice (some ⟨g,0,none⟩) (qcf K (c.take (k+1))).length cap) p;have U:=qf R kS (fun b m=>by have:=(zE R b m).1;omega);have ai:=qf aF kS (fun b m=>by have:=(zE aF b m).1;omega);rw [ae]at s;simp only [yK,set_cons_succ,set_cons_zero]at s;clear kS k2 al y q R z aF p Y X ar ay aG;refine qdz ?_ aj s ak ai U d l ae az am;clear aj s ak ai U d l ae az am;intro aC ax aB av aA ao ap aD aw aU;go_wp2_with fail;refine aw.o.mono ?_;rintro e w9 ⟨rfl,an⟩;have an:=an.symm;subst an;go_wp2_with (at_builtin;refine qbu (v:=vn) (u:=.slice (some ⟨W2.heap.size,0,none⟩) 1 1) (v':=.slice (some ⟨g,0,none⟩) (qcf K (c.take (k+1))).length cap) (w':=W3) rfl (.tmp 48) (.tmp 51) 46 rfl rfl rfl aC.o ?_);rw [aD.o];go_roundw
      case rel=>exact⟨k+1,_,_,wC,by go_num,aB.o,ax.o,av.o,aA.o⟩
      case measure=>simp [intOf];omega
     ·have am:x.text∈qcf K (c.take k):=yE ay;rw [zI am]at l;rw [←d]at y;rw [←l]at q;clear k2 al X ay aG;refine hd8 ?_ Y y q ar d l az am;clear Y y q ar d l az am;intro aW bn aT bj ao ap aw aU;go_wp2_with fail;refine aw.o.mono ?_;rintro e w9 ⟨rfl,an⟩;have an:=an.symm;subst an;go_wp2_with fail;go_roundw
      case rel=>exact⟨k+1,_,_,wC,by go_num,bj.o,aW.o,bn.o,aT.o⟩
      case measure=>simp [intOf];omega
   ·obtain rfl:k=c.length:=by omega
    rw [zi]at aq hon;have hR:=hK.heap bt.o (show w.heap.size+1<w.heap.size+1+1 from wC);have c0:=qb hX 0 _ rfl;have c1:=qb hX 1 _ rfl;have c2:=qb hX 2 _ rfl;have e0:=qb hR 0 _ rfl;have e1:=qb hR 1 _ rfl;have e2:=qb hR 2 _ rfl;have e3:=qg hR 0;have e4:=qg hR 1;have e5:=qg hR 2;simp only [zD]at c0 c1 c2 e0 e1 e2;have bD:w.heap.size+1<wr.heap.size:=wC
    obtain⟨bm,ba,rfl⟩:=qj aq;obtain⟨a5,bd,rfl⟩:=qj hon;refine hd5 ?_ hK hX aq hon hR;clear hK hX aq hon hR;intro aP a9 ad ag cB;go_wp2_with fail;refine yA (v:=.agg #[.int .i64 (i:Int),.slice bm (qbx K c).length ba,.slice a5 (qcf K c).length bd]) (by simp [results,Tryz.results149,go_sem,e0,e1,e2,bD]) rfl ?_;have kS:Keep (fun b=>b≠w.heap.size+1) wr (((wr.setCell ⟨w.heap.size+1,0,none⟩ (.int .i64 (i:Int))).setCell ⟨w.heap.size+1,1,none⟩ (.slice bm (qbx K c).length ba)).setCell ⟨w.heap.size+1,2,none⟩ (.slice a5 (qcf K c).length bd)):=
     ((kSc).trans (kSc)).trans (kSc)
    exact⟨_,_,rfl,(qf ad.o kS (fun b m=>by have:=(zE ad.o b m).1;omega)).mono wC,(qf ag.o kS (fun b m=>by have:=(zE ag.o b m).1;omega)).mono wC,
     (aV.o.trans (aP.o.mono fun b _ h=>wC)).trans (kS.mono fun b _ h=>wC)⟩
def qjq (ts:List TermD):List ByteArray:=qbf ((ts.filter (·.var)).map (·.text))
theorem qz1 (K:List ByteArray)(ts:List TermD):(qjq ts).all (fun x=>decide (x∈K))=!ts.any (qcu K):=by
 rw [yx,yM,xL,xb];unfold qjq qcu;simp only [qsd,yL,yX,zT,zV,xL,yR,not_and,Classical.not_not];constructor
 ·intro h t c b;exact h _ ⟨t,⟨c,b⟩,rfl⟩
 ·rintro h x ⟨t,⟨c,b⟩,rfl⟩;exact h t c b
def qu4 (K vs:List ByteArray):List ByteArray:=vs.filter fun x=>!decide (x∈K)
theorem qxb (p:ByteArray->Bool)(l:List ByteArray):qbf (l.filter p)=(qbf l).filter p:=by
 have h: ∀n,∀l:List ByteArray,l.length=n->qbf (l.filter p)=(qbf l).filter p:=by
  intro n
  induction n with
  |zero=>intro l e;have:=yq e;subst this;rfl
  |succ n ih=>
   intro l e;obtain⟨x,m⟩: ∃x,l[n]?=some x:=⟨_,zB wC⟩;have g:l=l.take n++ [x]:=by
    have:=zh (l:=l) (i:=n);rw [m,yz wC]at this;exact this
   have c:=ih (l.take n) (by rw [yC];omega);rw [g,yV,qib];by_cases b:p x=true
   ·rw [show [x].filter p= [x]from by simp [b],qib,c];by_cases d:x∈qbf (l.take n)
    ·rw [zI d,zI (yX.2 ⟨d,b⟩)]
    ·rw [zF d,zF (fun h=>d (yX.1 h).1),yV];simp [b]
   ·rw [show [x].filter p= []from by simp [b],yQ,c];split
    ·rfl
    ·rw [yV];simp [b]
 exact h _ l rfl
theorem q2p (K:List ByteArray)(ts:List TermD):qu4 K (qjq ts)=qcf K ts:=by
 unfold qu4 qjq qcf qcu;rw [←qxb]
 congr 1
 rw [filter_map]
 congr 1
 rw [filter_filter]
 congr 1
 funext t
 simp only [Function.comp];cases t.var<;>simp
theorem q2q {K:List ByteArray}{ts:List TermD}{x:ByteArray}(h:x∈qcf K ts):x∉K:=by
 unfold qcf at h;rw [qsd]at h;simp only [yL,yX,qcu,zV,xL,yR]at h;obtain⟨t,⟨_,_,h⟩,rfl⟩:=h;exact h
theorem q2r: ∀(new K:List ByteArray),new.Nodup->(∀x,x∈new->x∉K)->qdi K new=K++new:=by
 intro new
 induction new with
 |nil=>intro K _ _;simp [qdi]
 |cons x r ih=>
  intro K b d;rw [xU]at b;unfold qdi;rw [foldl_cons,zF (d x wE)];have:=ih (K++ [x]) b.2 (fun y c e=>by
   rcases zr.1 e with h |h
   ·exact d y (by simp [c]) h
   ·simp only [zm]at h;subst h;exact b.1 c)
  unfold qdi at this;rw [this];simp
theorem qz2 (K:List ByteArray)(L:LitD)(i:Int):qdi K (qbo K L i).new=K++(qbo K L i).new:=by
 unfold qbo;split
 ·simp [qdi]
 ·exact q2r _ _ (qk3 _) (fun x b=>q2q b)
end Go.Proofs.P16
namespace Go.Flt
open Ieee
abbrev D:=Ieee.double
theorem qss:D.binade=4503599627370496:=wF
theorem q2s:D.infRung=9218868437227405312:=wF
theorem q7r:D.signWeight=9223372036854775808:=wF
theorem qu5:D.leastPlace= -1074:=wF
theorem q7s:(D.fractionBits:Int)=52:=wF
def rne (n g:Nat):Nat:=n/g+(decide (g<2*(n%g)) ||(g==2*(n%g)&&n/g%2==1)).toNat
theorem q8s (s:Bool)(n d:Nat):Toward.even.cut s n d=rne n (2^d):=by
 unfold Toward.cut rne;simp only [Nat.one_shiftLeft];by_cases h:d<=n.log2+2
 ·rw [xS h]
 ·rw [Nat.min_eq_right wC];have c:n<2^(n.log2+1):=Nat.lt_log2_self;have e:2*2^(n.log2+1)=2^(n.log2+2):=by rw [Nat.pow_succ 2 (n.log2+1)];omega
  have b:2^(n.log2+2)<=2^d:=Nat.pow_le_pow_right wC wC;rw [Nat.div_eq_of_lt (show n<2^(n.log2+2) from wC),Nat.div_eq_of_lt (show n<2^d from wC),Nat.mod_eq_of_lt (show n<2^(n.log2+2) from wC),Nat.mod_eq_of_lt (show n<2^d from wC)];rw [zM wC,zM wC,y9.2 (show(2^(n.log2+2))≠2*n from wC),y9.2 (show(2^d)≠2*n from wC)]
theorem qpq {n1 c n2 d:Nat}(m:0<c)(q:0<d)(h:n1*d<=n2*c):rne n1 c<=rne n2 d:=by
 have p:=Nat.div_add_mod n1 c;have r:=Nat.div_add_mod n2 d;have v:=Nat.mod_lt n1 m;have u:=Nat.mod_lt n2 q;unfold rne;generalize hq1:n1/c=q1 at*;generalize hq2:n2/d=q2 at*;generalize hm1:n1%c=m1 at*;generalize hm2:n2%d=m2 at*;have s: ∀b:Bool,b.toNat<=1:=fun b=>by cases b<;>simp
 have t:q1<=q2:=by
  rcases y7 q2 q1 with hlt |hge
  ·exfalso;have l:(q2+1)*c*d<=n1*d:=yY _ (by
    rw [←p];have:=Nat.mul_le_mul_left c (show q2+1<=q1 from hlt);rw [xN (q2+1) c];omega)
   have g:n2*c<(q2+1)*c*d:=by
    have:n2<(q2+1)*d:=by rw [←r,xK,xN q2 d];omega
    have:=Nat.mul_lt_mul_of_pos_right this m;rw [Nat.mul_right_comm]at this;exact this
   omega
  ·exact hge
 rcases y7 q1 q2 with hlt |hge
 ·have:=s (decide (c<2*m1) ||(c==2*m1&&q1%2==1));omega
 ·obtain rfl:q1=q2:=by omega
  have x:m1*d<=m2*c:=by
   rw [←p,←r,xK,xK]at h;have:c*q1*d=d*q1*c:=by rw [Nat.mul_right_comm,xN c d,Nat.mul_right_comm]
   omega
  refine Nat.add_le_add_left ?_ _;cases e:(decide (c<2*m1) ||(c==2*m1&&q1%2==1)) with
  |false=>simp
  |true=>
   have key:(decide (d<2*m2) ||(d==2*m2&&q1%2==1))=true:=by
    simp only [ya,zV,zT,xE]at e⊢;rcases e with e |⟨e,ho⟩
    ·left;have l:c*d<2*m1*d:=Nat.mul_lt_mul_of_pos_right e q
     have g:d*c<2*m2*c:=by
      rw [xN d c,ye 2 m2 c];rw [ye]at l;omega
     exact Nat.lt_of_mul_lt_mul_right g
    ·have l:c*d=2*m1*d:=by rw [←e]
     have g:d*c<=2*m2*c:=by
      rw [xN d c,ye 2 m2 c];rw [ye]at l;omega
     have y:=Nat.le_of_mul_le_mul_right g m;rcases y7 d (2*m2) with hl |hg
     ·exact .inl hl
     ·exact .inr ⟨wC,ho⟩
   rw [key];exact zG _
theorem qkt (k:Nat){g:Nat}(h:0<g):rne (k*g) g=k:=by
 unfold rne;rw [Nat.mul_div_cancel _ h,Nat.mul_mod_left];rw [zM wC,y9.2 wC]
 rfl
theorem q8t {n g k:Nat}(h:0<g)(b:n<=k*g):rne n g<=k:=by
 have:=qpq (n1:=n) (n2:=k*g) h h (yY _ b)
 rwa [qkt k h] at this
theorem q8u {n g k:Nat}(h:0<g)(b:k*g<=n):k<=rne n g:=by
 have:=qpq (n1:=k*g) (n2:=n) h h (yY _ b)
 rwa [qkt k h] at this
def qh2 (m:Nat)(p:Int):Nat:=D.nearest false m p
def qdt (m:Nat)(p:Int):Int:=max (p+m.log2-52) (-1074)
theorem qoh {m:Nat}(p:Int)(h:m≠0):qh2 m p=min ((qdt m p+1074).toNat*4503599627370496+rne (m*2^(p-qdt m p).toNat) (2^(qdt m p-p).toNat)) 9218868437227405312:=by
 unfold qh2 Format.nearest;rw [zF h];simp only [qss,q2s,qu5,q7s,q8s,Nat.shiftLeft_eq];unfold Format.word qdt;simp only [zz,xA]
 rfl
theorem qns (p:Int):qh2 0 p=0:=rfl
theorem q5m (m:Nat)(p:Int):qh2 m p<=9218868437227405312:=by
 by_cases h:m=0
 ·subst h;rw [qns];decide
 ·rw [qoh p h];exact Nat.min_le_right _ _
theorem qfz (k:Nat):0<2^k:=Nat.two_pow_pos k
theorem q2t {m:Nat}(h:m≠0):2^m.log2<=m:=Nat.log2_self_le h
theorem qqs (m:Nat):m<2^(m.log2+1):=Nat.lt_log2_self
theorem q2u {m1 m2 a b:Nat}(c:m1≠0)(e:m2≠0)(h:m1*2^a<=m2*2^b):m1.log2+a<=m2.log2+b:=by
 have g:2^(m1.log2+a)<=m1*2^a:=by rw [yr];exact yY _ (q2t c)
 have d:m2*2^b<2^(m2.log2+1+b):=by rw [yr];exact Nat.mul_lt_mul_of_pos_right (qqs m2) (qfz b)
 have:=(Nat.pow_lt_pow_iff_right (show 1<2 from wC)).1 (show 2^(m1.log2+a)<2^(m2.log2+1+b) from wC);omega
theorem qpr {m1 m2 a b c d:Nat}(h:m1*2^a<=m2*2^b)(e:a+d=b+c):m1*2^c<=m2*2^d:=by
 have g:m1*2^c*2^b<=m2*2^d*2^b:=by
  rw [ye,←yr,ye,←yr,show c+b=a+d from wC,show d+b=b+d from wC,yr,yr,←ye,←ye];exact yY _ h
 exact Nat.le_of_mul_le_mul_right g (qfz b)
theorem q2v (e d c l g:Nat)(h:d<=c)(p:d<c->l<=2*e/\e<=g)(m:d=c->l<=g):d*e+l<=c*e+g:=by
 rcases y7 d c with hl |hg
 ·obtain⟨a,b⟩:=p hl;have:=yY e (show d+1<=c from hl);rw [xK]at this;omega
 ·obtain rfl:d=c:=by omega
  have:=m rfl;omega
theorem q2w (a b:Nat)(c:0<b)(h:b<=a):(a/b-1)*b+(b+a%b)=a:=by
 have hd:=Nat.div_add_mod a b;have d:1<=a/b:=(Nat.le_div_iff_mul_le c).2 wC;have:=Nat.succ_mul (a/b-1) b;rw [show(a/b-1).succ=a/b from wC,xN]at this;omega
theorem q8v {m1:Nat}{p1 b e:Int}(c:b=qdt m1 p1)(d:b<e)(g:m1≠0):rne (m1*2^(p1-b).toNat) (2^(b-p1).toNat)<=2*2^52:=by
 refine q8t (qfz _) ?_;have:m1*2^(p1-b).toNat<=2^(m1.log2+1+(p1-b).toNat):=by rw [yr];exact yY _ (Nat.le_of_lt (qqs m1))
 refine zW this ?_;rw [←Nat.pow_add_one',←yr];refine Nat.pow_le_pow_right wC ?_;unfold qdt at c;omega
theorem q8w {m2:Nat}{p2 d b:Int}(c:b=qdt m2 p2)(h: -1074<=d)(e:d<b)(g:m2≠0):2^52<=rne (m2*2^(p2-b).toNat) (2^(b-p2).toNat):=by
 refine q8u (qfz _) ?_;have:2^(m2.log2+(p2-b).toNat)<=m2*2^(p2-b).toNat:=by rw [yr];exact yY _ (q2t g)
 refine zW ?_ this;rw [←yr];refine Nat.pow_le_pow_right wC ?_;unfold qdt at c;omega
theorem b52:2^52=4503599627370496:=wF
theorem qjc {m1 m2:Nat}{p1 p2 K:Int}(z:K<=p1)(x:K<=p2)(h:m1*2^(p1-K).toNat<=m2*2^(p2-K).toNat):qh2 m1 p1<=qh2 m2 p2:=by
 by_cases q:m1=0
 ·subst q;rw [qns];exact yc _
 by_cases r:m2=0
 ·subst r;exfalso;have:0<m1*2^(p1-K).toNat:=Nat.mul_pos wC (qfz _);omega
 have y:=q2u q r h;rw [qoh p1 q,qoh p2 r,←b52];have s:qdt m1 p1<=qdt m2 p2:=by unfold qdt;omega
 have m: -1074<=qdt m1 p1:=by unfold qdt;omega
 obtain⟨p,e⟩: ∃l,l=qdt m1 p1:=⟨_,rfl⟩;obtain⟨g,d⟩: ∃l,l=qdt m2 p2:=⟨_,rfl⟩;rw [←e]at s m;rw [←d]at s;rw [←e,←d];have v:=q2v (2^52) (p+1074).toNat (g+1074).toNat (rne (m1*2^(p1-p).toNat) (2^(p-p1).toNat)) (rne (m2*2^(p2-g).toNat) (2^(g-p2).toNat)) wC
  (fun t=>⟨q8v e (show p<g from wC) q,q8w d m wC r⟩)
  (fun u=>by
   obtain rfl:p=g:=wC
   refine qpq (qfz _) (qfz _) ?_;rw [ye,ye,←yr,←yr];exact qpr h wC)
 exact(fun(a b c:Nat) (h:a<=b)=>(by omega:min a c<=min b c)) _ _ _ v
def mg (a:Nat):Nat:=if a<4503599627370496 then a else 4503599627370496+a%4503599627370496
def sh (a:Nat):Nat:=if a<4503599627370496 then 0 else a/4503599627370496-1
theorem qjx {a:Nat}(h:a<9218868437227405312):D.read a=.number false (mg a) (-1074+sh a):=by
 unfold Format.read;simp only [qss,q2s,q7r,qu5];rw [Nat.mod_eq_of_lt (show a<9223372036854775808 from wC),Nat.div_eq_of_lt (show a<9223372036854775808 from wC)];unfold mg sh;by_cases b:a<4503599627370496
 ·simp only [b,yj];rfl
 ·simp only [b,h,yj,xA]
  rfl
theorem qli {a:Nat}(h:0<a):mg a≠0:=by unfold mg;split<;>omega
theorem qu6 {a:Nat}:(mg a).log2<=52:=by
 have:mg a<2^53:=by
  unfold mg;have:=Nat.mod_lt a (show 0<4503599627370496 from wF);split<;>omega
 by_cases b:mg a=0
 ·rw [b];decide
 ·have:=(Nat.log2_lt b).2 this;omega
theorem qnt {a:Nat}(h:a<9218868437227405312):qh2 (mg a) (-1074+sh a)=a:=by
 by_cases r:a=0
 ·subst r;decide
 rw [qoh _ (qli wC)];have b:=qu6 (a:=a);by_cases d:a<4503599627370496
 ·have c:mg a=a:=by unfold mg;rw [zI d]
  have m:sh a=0:=by unfold sh;rw [zI d]
  rw [c]at b⊢;rw [m];have e:qdt a (-1074+(0:Nat))= -1074:=by unfold qdt;omega
  rw [e];have:=qkt a (g:=1) wC;simp only [yB]at this;simp [this];omega
 ·have c:mg a=4503599627370496+a%4503599627370496:=by unfold mg;rw [zF d]
  have m:sh a=a/4503599627370496-1:=by unfold sh;rw [zF d]
  have l:(mg a).log2=52:=by
   have:52<=(mg a).log2:=(Nat.le_log2 wC).2 (by rw [c];omega);omega
  have e:qdt (mg a) (-1074+(sh a:Nat))= -1074+(sh a:Nat):=by unfold qdt;omega
  rw [e];have p:=qkt (mg a) (g:=1) wC;simp only [Int.sub_self,Int.toNat_zero,Nat.pow_zero,yB]at p⊢;have q:((-1074+(sh a:Int))+1074).toNat=sh a:=wC
  rw [p,q,c,m,q2w a 4503599627370496 wF wC];exact xS (Nat.le_of_lt h)
end Go.Flt
