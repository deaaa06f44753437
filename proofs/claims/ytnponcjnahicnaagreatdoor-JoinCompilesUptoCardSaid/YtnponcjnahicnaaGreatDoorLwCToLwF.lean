/- Parts of the proof. -/
import Derived.Test.YtnponcjnahicnaaGreatDoorRfJToKtC
set_option linter.unusedSimpArgs false
set_option linter.unusedVariables false
set_option maxRecDepth 100000
set_option maxHeartbeats 4000000
open Go.Proofs.Tryz(prog)
open List(length_singleton pairwise_append pairwise_pair)
namespace Go.Proofs
open Go.RowKit Go.Ink Go.Flt R4 P16
attribute [local go_sem] Oper.semAt_some
def qh5 (x:ByteArray):TermD:=⟨true,x⟩
def qja (x:ByteArray):Prop:=Op.bytesLess x.toList [65]=false/\(Op.bytesLess x.toList [90] ||x.toList== [90])=true
theorem qzf {xs:List ByteArray}{k:Nat}{x:ByteArray}(h:xs[k]?=some x):(xs.take (k+1)).map qh5=(xs.take k).map qh5++ [qh5 x]:=by
 rw [zh,h,zm];rfl
theorem qow {n:Nat}{w:World}{va:Value}{xs:List ByteArray}(pr:ByteArray)(ha:qal n w va xs)(hn:n<=w.heap.size)(hx: ∀x,x∈xs->qja x):
  Calls prog 35 #[.string pr,va] w fun e w'=> ∃v,e=.returned (.agg #[.string pr,v])/\w'.ownsRow w.heap.size 77 2 v (xs.map qh5).length (qv (xs.map qh5))/\Keep (fun b=>b<w.heap.size) w w':=by
 obtain⟨N,hN⟩:=ex (w.heap.size);obtain⟨aa,ca,rfl,bJ,bG,aL⟩:=id ha;obtain⟨W0,q⟩:=ex ((w.alloc (.cells #[.string ⟨#[]⟩,.slice none 0 0] 24)).alloc (.cells #[.string pr,.slice none 0 0] 24));have k0:wD w W0:=by rw [←q];exact kAl.trans kAl
 have z0:W0.heap.size=N+2:=by rw [←q,←hN];simp
 have p0:W0.heap[N]?=some (.cells #[.string ⟨#[]⟩,.slice none 0 0] 24 (0,0)):=by rw [←q,←hN];exact(Keep.alloc (fun _=>True) _ _).heap (qh w _) trivial
 have p1:W0.heap[N+1]?=some (.cells #[.string pr,.slice none 0 0] 24 (0,0)):=by
  rw [←q,←hN];have:=qh (w.alloc (.cells #[.string ⟨#[]⟩,.slice none 0 0] 24)) (.cells #[.string pr,.slice none 0 0] 24);rw [zO]at this;exact this
 refine hd8 ?_ ha aL hx hN q k0 p0 p1;clear ha aL hx hN q k0 p0 p1;intro bn aD aY l az aF aZ a0;refine qbl Tryz.func35 rfl ?_;simp only [Tryz.ntmps35,qdm,Nat.reduceAdd,Nat.reduceSub];gi_wp2;rw [az.o,l.o];gi_loopw [6] (fun ix wr=> ∃(k:Nat) (vt:Value),k<=xs.length/\ix=.int .i64 (k:Int)/\Keep (fun b=>b<N+1) W0 wr/\wr.heap[N+1]?=some (.cells #[.string pr,vt] 24 (0,0))/\wr.ownsRow (N+2) 77 2 vt k (qv ((xs.take k).map qh5))/\N+2<=wr.heap.size) (fun i _=>xs.length-(intOf i).toNat)
 case atStart=>exact⟨0,.slice none 0 0,xz,rfl,Keep.refl _ _,a0.o,zj _ _ _ _,xz⟩
 case round=>
  obtain⟨k,vt,hk,rfl,hK,j,hO,hz⟩:=hrel;have b1:=qb j 1 _ rfl;have bw:=qe j;simp only [zD]at b1;have bH:(0:Int)<=k:=xz
  obtain⟨f,g,rfl⟩:=qi hO;by_cases aM:k<xs.length
  ·have bf:(k:Int)<xs.length:=by omega
   obtain⟨x,Y⟩: ∃x,xs[k]?=some x:=⟨_,zB aM⟩;obtain⟨b,o,rfl,hb,hs⟩:=aD.o k x Y;have a4:=aY.o x (zH Y);obtain⟨g1,g2⟩:=a4;have aQ:w.cell? ⟨b,o+k,none⟩=some (.string x):=by have:=hs;unfold qf2 at this;rw [yA] at this;exact this
   have f0:=hK.cell (aF.o.cell aQ wE) (show b<N+1 by have:=l.o;omega);have aR:=qzf Y;have kd:wD wr wr.drew:=kDr;obtain⟨Wd,ap⟩:=ex (wr.drew);rw [ap]at kd;have bK:=kd.size;have bz:N+1<Wd.heap.size:=xz
   have bD:b<Wd.heap.size:=by have:=l.o;omega
   have bF:b<wr.heap.size:=by have:=l.o;omega
   have s:=qf hO kd (fun _ _=>wE);obtain⟨v7,W7,aP,aq,z,g7,p,a6,a3,bI⟩:=qdd qgb 22 s [.bool true,.string x] rfl (by simp [Value.oneCell']) xz xz;subst a6;have ar:(77:TypeId)≠24:=wC
   have y:=kd.heap j trivial;have c:=z.heap y (fun e=>qpa s y ar e.symm rfl);have t1:=qb c 1 _ rfl;have br:=qg c 1;have bv:=qe c;simp only [zD]at t1;obtain⟨R,d⟩:=ex (W7.setCell ⟨N+1,1,none⟩ (.slice (some ⟨g7,0,none⟩) (k+1) p));have k8:Keep (fun b=>b≠N+1) W7 R:=by rw [←d];exact kSc
   have aj:R.heap[N+1]?=some (.cells #[.string pr,.slice (some ⟨g7,0,none⟩) (k+1) p] 24 (0,0)):=by rw [←d];exact qz 1 _ c
   have aN:=qf aq k8 (fun u hu=>qpa aq c ar hu);have aO:R.ownsRow (N+2) 77 2 (.slice (some ⟨g7,0,none⟩) (k+1) p) (k+1) (qv ((xs.take (k+1)).map qh5)):=by
    rw [aR,qin];exact aN
   have aG:Keep (fun b=>b<N+1) W0 R:=hK.trans (kd.mt.trans ((z.mono fun b _ (h:b<N+1)=>qgz s xz).trans (k8.mono fun b _ h=>xz)));obtain⟨Wb,U⟩:=ex (Wd.alloc (.cells #[.bool true,.string x] 77));have kb:wD Wd Wb:=by rw [←U];exact kAl
   have a8:N+2<=R.heap.size:=by have:=k8.size;have:=z.size;omega
   have t:Wd.cell? ⟨N+1,1,none⟩=some (.slice f k g)/\Wd.cell? ⟨b,o+k,none⟩=some (.string x):=⟨kd.cell b1 wE,kd.cell f0 wE⟩;have aJ:Wb.cell? ⟨N+1,1,none⟩=some (.slice f k g)/\Wb.cell? ⟨b,o+k,none⟩=some (.string x):=⟨kb.cell t.1 wE,kb.cell t.2 wE⟩;have ak:(Builtin.append_ #[22,22] 22 #[.slice f k g,.slice (some ⟨Wd.heap.size,0,none⟩) 1 1]).run prog Wb=.ok (.slice (some ⟨g7,0,none⟩) (k+1) p) W7:=by rw [←U];exact aP
   have aK:W7.cell? ⟨N+1,1,none⟩=some (.slice f k g)/\W7.cell? ⟨b,o+k,none⟩=some (.string x):=⟨t1,z.cell t.2 (qgz s (show b<N+2 by have:=l.o;omega))⟩;clear Y hs aQ aR s aq z a3 y c k8 aN ar kb aP;refine q1q ?_ hK j hO ap kd U d aj aO aG t aJ aK ak t1;clear hK j hO ap kd U d aj aO aG t aJ aK ak t1;intro aX aC bm aB bo aA r an aE av ax ay ah ao a1;gi_wp2;refine qag ?_;refine qw rfl (fun X=>X.cell? ⟨N+1,1,none⟩=some (.slice f k g)/\X.cell? ⟨b,o+k,none⟩=some (.string x)) [22] ?_;rw [aB.o];refine qab [0,1,2,3,4,5,6,7,8,9,10,11,12,13,14,15,16,17,18] ?_
   iterate 19
    refine tkB rfl ax.o ?_
    try simp only [qac]
   refine qk ?_;refine hoR 19 rfl fun K ad=>?_;gi_wp2;rw [aA.o];refine ad.o _ _ (fun _=>ay.o) ?_;refine hoR 20 rfl fun K ae=>?_;refine qby rfl (.tmp 16) (.tmp 34) 22 rfl rfl rfl ao.o ?_;gi_wp2;refine ae.o _ _ (fun _=>ah.o) ?_;refine hoR 21 rfl fun K af=>?_;gi_wp2;refine af.o _ _ (fun _=>ah.o) ?_;refine hoR 22 rfl fun K ag=>?_;have t1:=a1.o;gi_wp2;rw [r.o];refine ag.o _ _ (fun h=>absurd h wC) ?_;refine qx wA (qai ?_);clear ad ae af ag;gi_wp2;go_roundw
   case rel=>exact⟨k+1,_,xz,by go_num,av.o,an.o,aE.o,a8⟩
   case measure=>simp [intOf];omega
  ·obtain rfl:k=xs.length:=by omega
   rw [zi]at hO;have m:=hK.heap aZ.o xz;have u0:=qb m 0 _ rfl;have u1:=qb m 1 _ rfl;have bt:=qg m 0;have bu:=qg m 1;have bx:=qe m;have b0:=qb j 0 _ rfl;simp only [zD]at u0 u1 b0;obtain⟨R,d⟩:=ex ((wr.setCell ⟨N,0,none⟩ (.string pr)).setCell ⟨N,1,none⟩ (.slice f xs.length g));have k8:Keep (fun b=>b≠N) wr R:=by rw [←d];exact(kSc).trans (kSc)
   have b8:R.heap[N]?=some (.cells #[.string pr,.slice f xs.length g] 24 (0,0)):=by rw [←d];exact qz 1 _ (qz 0 (.string pr) m)
   have w0:=qb b8 0 _ rfl;have w1:=qb b8 1 _ rfl;have a7:=qe b8;simp only [zD]at w0 w1;have aI:=(qf hO k8 (fun u hu=>by have:=(zE hO u hu).1;omega)).mono (show N<=N+2 from xz);have hE:Keep (fun b=>b<N) w R:=aF.o.mt.trans ((hK.mono fun b _ h=>xz).trans (k8.mono fun b _ h=>xz));clear aM m hO k8 b8;refine hd5 ?_ hK j d aI hE;clear hK j d aI hE;intro aX aC r aw aW;gi_wp2;rw [r.o];refine zz (v:=.agg #[.string pr,.slice f xs.length g]) (by simp [results,Tryz.results35,go_sem,w0,w1,a7]) rfl ?_;refine⟨_,rfl,by rw [l.o,zL];exact aw.o,by rw [l.o];exact aW.o⟩
theorem qk1 {w:World}{B t:Nat}{xs:List ByteArray}(h:w.heap[B]?=some (.cells (xs.map Value.string).toArray t (0,0)))(b:xs.length<=1073741824):qal (B+1) w (.slice (some ⟨B,0,none⟩) xs.length xs.length) xs:=
 ⟨_,_,rfl,b,⟨zG _,by unfold maxLen;omega⟩,fun k x c=>⟨B,0,rfl,xz,by
  have:=qb h k (.string x) (by rw [zP,c];rfl);unfold qf2;rw [yA];exact this⟩⟩
def bX:ByteArray:=⟨#[88]⟩
def bY:ByteArray:=⟨#[89]⟩
def bZ:ByteArray:=⟨#[90]⟩
def bT:ByteArray:=⟨#[116]⟩
def bE:ByteArray:=⟨#[101]⟩
def noT:TermD:=⟨false,⟨#[]⟩⟩
def qfu:RuleD:=⟨⟨bT,[qh5 bX,qh5 bZ]⟩,[⟨1,⟨bE,[qh5 bX,qh5 bY]⟩,noT,noT⟩,⟨1,⟨bE,[qh5 bY,qh5 bZ]⟩,noT,noT⟩]⟩
theorem qvn:qja bX:=by unfold qja;rw [ByteArray.toList_eq];decide
theorem qvo:qja bY:=by unfold qja;rw [ByteArray.toList_eq];decide
theorem qvp:qja bZ:=by unfold qja;rw [ByteArray.toList_eq];decide
theorem q31 (w:World):Calls prog 56 #[] w fun e w'=> ∃vh vb,e=.returned (qaz qfu vh vb)/\RuleIn w'.heap.size w' vh vb qfu/\Keep (fun b=>b<w.heap.size) w w':=by
 obtain⟨N,hN⟩:=ex (w.heap.size);obtain⟨W0,l⟩:=ex (w.alloc (.cells #[.string ⟨#[]⟩,.slice none 0 0,.slice none 0 0] 27));have k0:wD w W0:=by rw [←l];exact kAl
 have p0:W0.heap[N]?=some (.cells #[.string ⟨#[]⟩,.slice none 0 0,.slice none 0 0] 27 (0,0)):=by rw [←l,←hN];exact qh _ _
 have z0:W0.heap.size=N+1:=by rw [←l,←hN];simp
 obtain⟨W1,m⟩:=ex (W0.alloc (.cells #[.string ⟨#[88]⟩,.string ⟨#[90]⟩] 9));have k1:wD W0 W1:=by rw [←m];exact kAl
 have p1:W1.heap[N+1]?=some (.cells #[.string ⟨#[88]⟩,.string ⟨#[90]⟩] 9 (0,0)):=by rw [←m,←z0];exact qh _ _
 have z1:W1.heap.size=N+2:=by rw [←m];simp [z0]
 have aw:=qow (w:=W1) bT (qk1 (xs:= [bX,bZ]) p1 wB) xz (fun x X=>by
  simp at X;rcases X with rfl |rfl
  ·exact qvn
  ·exact qvp)
 refine hd8 ?_ hN l k0 p0 m k1 p1 aw;clear hN l k0 p0 m k1 p1 aw;intro ah ai aQ aT aj aR bk an
 go_enter Tryz.func56,Tryz.ntmps56
 go_wp2_with fail;rw [ai.o,aj.o,ah.o];refine an.o.mono ?_;rintro e W2 ⟨v1,rfl,o1,k2⟩;obtain⟨a1,c1,rfl⟩:=qi o1;have bt:=k2.size;have aS:=zg k2;have aa:=zg o1;clear k2 o1;obtain⟨M3,s⟩: ∃M,W2.heap.size=M:=⟨_,rfl⟩;obtain⟨W3,p⟩: ∃W,W2.alloc (.cells #[.string ⟨#[88]⟩,.string ⟨#[89]⟩] 9)=W:=⟨_,rfl⟩;have aB:wD W2 W3:=by rw [←p];exact kAl
 have p3:W3.heap[M3]?=some (.cells #[.string ⟨#[88]⟩,.string ⟨#[89]⟩] 9 (0,0)):=by rw [←p,←s];exact qh _ _
 have bq:W3.heap.size=M3+1:=by rw [←p,←s];simp
 have ax:=qow (w:=W3) bE (qk1 (xs:= [bX,bY]) p3 wB) xz (fun x X=>by
  simp at X;rcases X with rfl |rfl
  ·exact qvn
  ·exact qvo)
 refine hd5 ?_ s p aB p3 ax;clear s p aB p3 ax;intro d ak U bl ao;go_wp2_with fail;rw [ak.o,d.o];refine ao.o.mono ?_;rintro e W4 ⟨v3,rfl,o3,k4⟩;obtain⟨a3,c3,rfl⟩:=qi o3;have bu:=k4.size;have aq:=zg k4;have ab:=zg o3;clear k4 o3;obtain⟨M5,t⟩: ∃M,W4.heap.size=M:=⟨_,rfl⟩;obtain⟨W5,q⟩: ∃W,W4.alloc (.cells #[.string ⟨#[89]⟩,.string ⟨#[90]⟩] 9)=W:=⟨_,rfl⟩;have aC:wD W4 W5:=by rw [←q];exact kAl
 have p5:W5.heap[M5]?=some (.cells #[.string ⟨#[89]⟩,.string ⟨#[90]⟩] 9 (0,0)):=by rw [←q,←t];exact qh _ _
 have br:W5.heap.size=M5+1:=by rw [←q,←t];simp
 have ay:=qow (w:=W5) bE (qk1 (xs:= [bY,bZ]) p5 wB) xz (fun x X=>by
  simp at X;rcases X with rfl |rfl
  ·exact qvo
  ·exact qvp)
 refine hd5 ?_ t q aC p5 ay;clear t q aC p5 ay;intro f al i bm ap;go_wp2_with fail;rw [al.o,f.o];refine ap.o.mono ?_;rintro e W6 ⟨v5,rfl,o5,k6⟩;obtain⟨a5,c5,rfl⟩:=qi o5;have bv:=k6.size;have Y:=zg k6;have ar:=zg o5;clear k6 o5;obtain⟨r,av⟩: ∃M,W6.heap.size=M:=⟨_,rfl⟩;obtain⟨W7,ad⟩: ∃W,W6.alloc (.cells #[.int .i64 1,.string bE,.slice a3 2 c3,.bool false,.string ⟨#[]⟩,.bool false,.string ⟨#[]⟩,.int .i64 1,.string bE,.slice a5 2 c5,.bool false,.string ⟨#[]⟩,.bool false,.string ⟨#[]⟩] 79)=W:=⟨_,rfl⟩;have k7:wD W6 W7:=by rw [←ad];exact kAl
 have p7:W7.heap[r]?=some (.cells #[.int .i64 1,.string bE,.slice a3 2 c3,.bool false,.string ⟨#[]⟩,.bool false,.string ⟨#[]⟩,.int .i64 1,.string bE,.slice a5 2 c5,.bool false,.string ⟨#[]⟩,.bool false,.string ⟨#[]⟩] 79 (0,0)):=by rw [←ad,←av];exact qh _ _
 have z7:W7.heap.size=r+1:=by rw [←ad,←av];simp
 have kN:Keep (fun b=>b<N+1) W0 W7:=aR.o.mt.trans ((aS.o.mono fun b _ h=>xz).trans (U.o.mt.trans ((aq.o.mono fun b _ h=>xz).trans (i.o.mt.trans ((Y.o.mono fun b _ h=>xz).trans k7.mt)))));have R:=kN.heap aT.o xz;have d0:=qb R 0 _ rfl;have d1:=qb R 1 _ rfl;have d2:=qb R 2 _ rfl;have f0:=qg R 0;have f1:=qg R 1;have f2:=qg R 2;have lN:=qe R;simp only [zD]at d0 d1 d2;obtain⟨W8,y⟩: ∃W,((W7.setCell ⟨N,0,none⟩ (.string bT)).setCell ⟨N,1,none⟩ (.slice a1 2 c1)).setCell ⟨N,2,none⟩ (.slice (some ⟨r,0,none⟩) 2 2)=W:=⟨_,rfl⟩;have k8:Keep (fun b=>b≠N) W7 W8:=by rw [←y];exact((kSc).trans (kSc)).trans (kSc)
 have b8:W8.heap[N]?=some (.cells #[.string bT,.slice a1 2 c1,.slice (some ⟨r,0,none⟩) 2 2] 27 (0,0)):=by rw [←y];exact qz 2 _ (qz 1 _ (qz 0 (.string bT) R))
 have w0:=qb b8 0 _ rfl;have w1:=qb b8 1 _ rfl;have w2:=qb b8 2 _ rfl;have aW:=qe b8;simp only [zD]at w0 w1 w2;have z8:=k8.size;have aD:=qf (qf aa.o ((U.o.mt.trans ((aq.o.mono fun b _ (h:b<W2.heap.size)=>by have:=d.o;omega).trans (i.o.mt.trans ((Y.o.mono fun b _ h=>by have:=d.o;have:=f.o;omega).trans k7.mt))))) (fun u z=>(zE aa.o u z).2)) k8 (fun u z=>by have:=(zE aa.o u z).1;omega);have aE:=qf (qf ab.o ((i.o.mt.trans ((Y.o.mono fun b _ (h:b<W4.heap.size)=>by have:=f.o;omega).trans k7.mt))) (fun u z=>(zE ab.o u z).2)) k8 (fun u z=>by have:=(zE ab.o u z).1;have:=d.o;omega);have aF:=qf (qf ar.o k7 (fun _ _=>wE)) k8 (fun u z=>by have:=(zE ar.o u z).1;have:=d.o;have:=f.o;omega);have g:=k8.heap p7 (show r≠N by have:=d.o;have:=f.o;omega);have hE:Keep (fun b=>b<N) w W8:=aQ.o.mt.trans ((kN.mono fun b _ h=>xz).trans (k8.mono fun b _ h=>xz));have hR:RuleIn W8.heap.size W8 (.slice a1 2 c1) (.slice (some ⟨r,0,none⟩) 2 2) qfu:=by
  refine⟨qe6 aD rfl wC,some ⟨r,0,none⟩,2,rfl,by simp [qfu],by simp [qfu,maxLen],fun k x hk=>⟨r,0,rfl,xz,?_⟩⟩
  match k,hk with
  |0,hk=>
   cases hk;refine⟨.slice a3 2 c3,fun j v c=>?_,qe6 aE rfl wC⟩
   match j,c with
   |0,c=>cases c;exact qb g 0 _ rfl
   |1,c=>cases c;exact qb g 1 _ rfl
   |2,c=>cases c;exact qb g 2 _ rfl
   |3,c=>cases c;exact qb g 3 _ rfl
   |4,c=>cases c;exact qb g 4 _ rfl
   |5,c=>cases c;exact qb g 5 _ rfl
   |6,c=>cases c;exact qb g 6 _ rfl
  |1,hk=>
   cases hk;refine⟨.slice a5 2 c5,fun j v c=>?_,qe6 aF rfl wC⟩
   match j,c with
   |0,c=>cases c;exact qb g 7 _ rfl
   |1,c=>cases c;exact qb g 8 _ rfl
   |2,c=>cases c;exact qb g 9 _ rfl
   |3,c=>cases c;exact qb g 10 _ rfl
   |4,c=>cases c;exact qb g 11 _ rfl
   |5,c=>cases c;exact qb g 12 _ rfl
   |6,c=>cases c;exact qb g 13 _ rfl
 clear k7 p7 kN R k8 b8 aD aE aF g;refine hd3 ?_ y hE hR;clear y hE hR;intro am aO aP;go_wp2_with fail;rw [am.o];refine zz (v:=.agg #[.string bT,.slice a1 2 c1,.slice (some ⟨r,0,none⟩) 2 2]) (by simp [results,Tryz.results56,go_sem,w0,w1,w2,aW]) rfl ?_;exact⟨_,_,rfl,aP.o,by rw [ah.o];exact aO.o⟩
end Go.Proofs
namespace Go.Proofs
open Go.RowKit Go.Ink Go.Flt R4 P16
def ApartV (v u:Value):Prop:= ∀b,v.ownBlock=some b->u.ownBlock≠some b
theorem ApartV.symm {v u:Value}(h:ApartV v u):ApartV u v:=fun b c d=>h b d c
structure MqsAt (P:Nat->Prop)(w:World)(v:Value)(qs:List MQ):Prop where
 own:w.ownsRow 0 122 2 v qs.length (qs.flatMap qaq)
 blk: ∀b,v.ownBlock=some b->P b
 rows: ∀q,q∈qs->w.ownsRow 0 9 1 q.2.1 q.1.head.length (q.1.head.map .string)/\w.ownsRow 0 9 1 q.2.2 q.1.vals.length (q.1.vals.map .string)
 blks: ∀q,q∈qs->(∀b,q.2.1.ownBlock=some b->P b)/\ ∀b,q.2.2.ownBlock=some b->P b
 apart:(qs.flatMap qaq).Pairwise ApartV
theorem MqsAt.keep {P P' C:Nat->Prop}{w w':World}{v:Value}{f:List MQ}(h:MqsAt P w v f)(hK:Keep C w w')(e: ∀b,b<w.heap.size->P b->C b/\P' b):MqsAt P' w' v f:=
 ⟨qf h.own hK (fun b c=>(e b (zE h.own b c).2 (h.blk b c)).1),fun b c=>(e b (zE h.own b c).2 (h.blk b c)).2,
  fun q d=>⟨qf (h.rows q d).1 hK (fun b c=>(e b (zE (h.rows q d).1 b c).2 ((h.blks q d).1 b c)).1),qf (h.rows q d).2 hK (fun b c=>(e b (zE (h.rows q d).2 b c).2 ((h.blks q d).2 b c)).1)⟩,
  fun q d=>⟨fun b c=>(e b (zE (h.rows q d).1 b c).2 ((h.blks q d).1 b c)).2,fun b c=>(e b (zE (h.rows q d).2 b c).2 ((h.blks q d).2 b c)).2⟩,h.apart⟩
theorem q32 {P:Nat->Prop}(w:World):MqsAt P w (.slice none 0 0) []:=
 ⟨zj _ _ _ _,fun b d=>(by simp [Value.ownBlock] at d),fun q c=>(by cases c),fun q c=>(by cases c),.nil⟩
theorem MqsAt.lt {P:Nat->Prop}{w:World}{v:Value}{f:List MQ}(h:MqsAt P w v f): ∀x,x∈f.flatMap qaq-> ∀b,x.ownBlock=some b->b<w.heap.size:=fun x c b d=>by
 obtain⟨q,e,c⟩:=xC.1 c;unfold qaq at c;simp only [zt,yR,yf]at c;rcases c with rfl |rfl
 ·exact(zE (h.rows q e).1 b d).2
 ·exact(zE (h.rows q e).2 b d).2
theorem MqsAt.mq {P:Nat->Prop}{w:World}{v:Value}{b:List MQ}(h:MqsAt P w v b)(e:b.length<=1073741824)(d: ∀q,q∈b->q.1.head.length<=1073741824/\q.1.vals.length<=1073741824):q2s w.heap.size w v b/\ ∀q,q∈b->MqOk w.heap.size w q:=
 ⟨q0f h.own rfl e,fun q c=>⟨qcc (h.rows q c).1 (d q c).1,qcc (h.rows q c).2 (d q c).2⟩⟩
theorem MqsAt.perm {P P':Nat->Prop}{w w':World}{v v':Value}{g c:List MQ}{base:Nat}{C:Nat->Prop}(h:MqsAt P w v g)(hK:Keep C w w')(i: ∀b,b<w.heap.size->P b->C b/\P' b)(ho:w'.ownsRow base 122 2 v' c.length (c.flatMap qaq))(j: ∀b,base<=b->P' b)(e:c.Perm g):MqsAt P' w' v' c:=by
 have d:=h.keep hK i;exact⟨ho.mono (ya _),fun b k=>j b (zE ho b k).1,fun q f=>d.rows q (e.mem_iff.1 f),fun q f=>d.blks q (e.mem_iff.1 f),
  (List.Perm.pairwise_iff (fun h=>ApartV.symm h) (e.flatMap_right qaq)).2 d.apart⟩
theorem MqsAt.snoc {P:Nat->Prop}{w:World}{v:Value}{f:List MQ}(h:MqsAt P w v f){m:qa5}{vh vv:Value}{n:Nat}(p:w.ownsRow n 9 1 vh m.head.length (m.head.map .string))(r:w.ownsRow n 9 1 vv m.vals.length (m.vals.map .string))
  (z: ∀b,vh.ownBlock=some b->P b) (R: ∀b,vv.ownBlock=some b->P b) (hd: ∀b,vh.ownBlock=some b->vv.ownBlock≠some b) (hold: ∀x,x∈f.flatMap qaq-> ∀b,x.ownBlock=some b->b<n) (hl:f.length<=1073741824) (s: ∀b,w.heap.size<=b->P b):
  ∃a c g cap W',v=.slice a f.length c/\(Builtin.append_ #[49,49] 49 #[v,.slice (some ⟨w.heap.size,0,none⟩) 1 1]).run prog (w.alloc (.cells #[vh,vv] 122))=.ok (.slice (some ⟨g,0,none⟩) (f.length+1) cap) W'/\
   MqsAt P W' (.slice (some ⟨g,0,none⟩) (f.length+1) cap) (f++ [(m,vh,vv)])/\Keep (fun b=>v.ownBlock≠some b) w W':=by
 obtain⟨v3,Y3,Y,X,j,gb,cap,aa,U,ag⟩:=qdd (P:=prog) qtj 49 h.own [vh,vv] rfl (by obtain⟨a,c,rfl⟩:=qi p;obtain⟨a,c,rfl⟩:=qi r;simp [Value.oneCell']) xz (ya _);subst aa;obtain⟨a,c,hv⟩:=qi h.own;refine⟨a,c,gb,cap,Y3,hv,Y,⟨?_,fun b i=>?_,fun q d=>?_,fun q d=>?_,?_⟩,j.mono fun b _ h e=>h e.symm⟩
 ·rw [zR,length_singleton,yF];exact X
 ·have u:gb=b:=by simpa [Value.ownBlock] using i
  subst u;rcases U with hg |hg
  ·exact h.blk _ hg
  ·exact s _ hg
 ·have key: ∀{x:Value} {t:List ByteArray} {base:Nat},w.ownsRow base 9 1 x t.length (t.map .string)->Y3.ownsRow 0 9 1 x t.length (t.map .string):=fun l=>(qf l j (fun b i e=>qdg l h.own wC i e.symm)).mono (ya _);rcases zn.1 d with d |d
  ·exact⟨key (h.rows q d).1,key (h.rows q d).2⟩
  ·rw [zl.1 d];exact⟨key p,key r⟩
 ·rcases zn.1 d with d |d
  ·exact h.blks q d
  ·rw [zl.1 d];exact⟨z,R⟩
 ·rw [yF,pairwise_append];refine⟨h.apart,?_,fun x l y hy b i k=>?_⟩
  ·show [vh,vv].Pairwise ApartV;rw [pairwise_pair];exact hd
  ·have h3:=hold x l b i;have ab:y=vh∨y=vv:=by simpa [qaq] using hy
   rcases ab with rfl |rfl
   ·have:=(zE p b k).1;omega
   ·have:=(zE r b k).1;omega
structure GWay (n0:Nat)(g:Gh)(w:World)(γ:Gh)(X:World):Prop where
 keep:Keep g.free w X
 new: ∀b,b<w.heap.size->g.free b->γ.free b
 held: ∀b,b<n0->γ.held b=g.held b
 st:γ.st=g.st
theorem GWay.refl {n0:Nat}{g:Gh}{w X:World}(h:wD w X):GWay n0 g w g X:=⟨h.mt,fun _ _ h=>h,fun _ _=>rfl,rfl⟩
theorem GWay.stay {n0:Nat}{g γ:Gh}{w X Y:World}{C:Nat->Prop}(h:GWay n0 g w γ X)(hK:Keep C X Y)(d: ∀b,b<w.heap.size->C b):GWay n0 g w γ Y:=
 ⟨⟨hK.os.trans h.keep.os,hK.tape.trans h.keep.tape,hK.output.trans h.keep.output,zW h.keep.size hK.size,fun k c e=>(hK.block k (zk c h.keep.size) (d k c)).trans (h.keep.block k c e)⟩,h.new,h.held,h.st⟩
theorem GWay.step {n0:Nat}{Ss:List Nat}{g γ i:Gh}{w X Y:World}(h:GWay n0 g w γ X)(c:(qa8 n0 Ss).istep γ X i Y):GWay n0 g w i Y:=
 ⟨⟨c.1.keep.os.trans h.keep.os,c.1.keep.tape.trans h.keep.tape,c.1.keep.output.trans h.keep.output,zW h.keep.size c.1.keep.size,fun k f e=>(c.1.keep.block k (zk f h.keep.size) (h.new k f e)).trans (h.keep.block k f e)⟩,
  fun b d e=>c.1.new b (zk d h.keep.size) (h.new b d e),fun b d=>(c.1.held b d).trans (h.held b d),c.2.trans h.st⟩
theorem GWay.gstep {n0:Nat}{g γ:Gh}{w X:World}(h:GWay n0 g w γ X)(hi:GInv γ X):GStep n0 g w γ X:=
 ⟨h.keep,fun S c b=>⟨[],by rw [yO,h.st];exact b⟩,h.new,h.held,hi⟩
theorem qg8 {g:Gh}{w:World}(h:GInv g w){b:Nat}(c:w.heap.size<=b):g.free b:=by
 refine⟨?_,?_⟩
 ·cases e:g.tag b with
  |none=>rfl
  |some T=>have:=h.lt b T e;omega
 ·cases e:g.held b with
  |none=>rfl
  |some o=>have:=qe (h.hold b o e);omega
theorem qvq {body:List LitD}{x:ByteArray}:x∈qaa body (qcn body)↔ ∃L,L∈body/\L.kind=1/\x∈qar L.atom.args:=by
 rw [qgx];constructor
 ·rintro⟨i,hi,-,hx⟩;obtain⟨b,c⟩:=qf5 hi;refine⟨body.getD i default,?_,c,hx⟩;rw [zJ,zB b];exact xD b
 ·rintro⟨L,hL,hk,hx⟩;obtain⟨i,hi⟩:=zw.1 hL;have b:=(zA.1 hi).1;have c:qb1 body i=1:=by rw [qjp hi];exact hk
  refine⟨i,?_,xz,?_⟩
  ·unfold qcn;rw [yU,yh];exact⟨b,by simp [c]⟩
  ·rw [zJ,hi];exact hx
theorem qqm {body:List LitD}{x:ByteArray}:x∈qb0 body↔ ∃L,L∈body/\L.kind=1/\x∈L.uses:=by
 unfold qb0;rw [qeu,xC];constructor
 ·rintro⟨L,hL,hx⟩;rw [yU]at hL;exact⟨L,hL.1,by simpa using hL.2,hx⟩
 ·rintro⟨L,hL,hk,hx⟩;exact⟨L,yU.2 ⟨hL,by simp [hk]⟩,hx⟩
theorem quq {g:Gh}{W:World}(b:GInv g W)(s sN:Option Nat)(body:List LitD): ∀i,((qjt g s sN body).pos i).Nodup:=fun i=>qww (qzd b s) _ _
theorem qvr {g:Gh}{W:World}(b:GInv g W)(s sN:Option Nat){r:RuleD}(f:qek r):qf0 ((qk0 g s sN r (-1)).map (qcr r))=qkw (qjt g s sN r.body) r:=by
 obtain⟨c,d,e⟩:=qiq (qh4 b (fun _=>s) sN f (-1) qov);exact q3q (quq b s sN r.body) c d e
theorem q33 {g:Gh}{W:World}(b:GInv g W)(s sN:Option Nat){r:RuleD}(c:qek r):(qk0 g s sN r (-1)).length=(qif (qjt g s sN r.body) r.body).length:=by
 have h:=yM List.length (qvr b s sN c);unfold qkw at h;rw [qkv,qkv,zL,zL]at h;exact h
theorem qmv {α:Type}{n e sz:Nat}{w:World}{U c:Nat->Prop}{E:World->Nat->Nat->α->Prop}{v:Value}{xs:List α}(h:SliceIn n w sz (UE U E) v xs)(g:n<=e)(f: ∀b,U b->c b):SliceIn e w sz (UE c E) v xs:=
 SliceIn.wider h g fun b _ _ _ d=>⟨f b d.1,d.2⟩
theorem JoinAt.wide {U l:Nat->Prop}{n m:Nat}{w:World}{J:Nat}{r:RuleD}{vars:List ByteArray}{e:List Int}{f vb vv va p vh:Value}(h:JoinAt U n w J r vars e f vb vv va p vh)(d:n<=m)(c: ∀b,U b->l b):JoinAt l m w J r vars e f vb vv va p vh:=
 ⟨c _ h.uJ,h.box,qmv h.head d c,SliceIn.wider h.body d fun b o x _ k=>by
   obtain⟨g,q,i,j⟩:=k;exact⟨c b g,q,i,qmv j d c⟩,
  qmv h.vrow d c,qmv h.at' d c,SliceIn.wider h.terms d fun b o x _ k=>by
   obtain⟨g,v,i,j⟩:=k;exact⟨c b g,v,i,qmv j d c⟩,qmv h.slots d c⟩
def JoinIs (g:Gh)(w:World)(J:Nat)(r:RuleD):Prop:=
 ∃vha vb vv va vt vh,JoinAt (fun b=>b<w.heap.size/\g.free b) w.heap.size w J r (qm r) (qcg r.body r.body.length) vha vb vv va vt vh
theorem JoinIs.step {n0:Nat}{g f:Gh}{w w':World}{J:Nat}{r:RuleD}(h:JoinIs g w J r)(d:GStep n0 g w f w'):JoinIs f w' J r:=by
 obtain⟨e,vb,vv,va,j,vh,h⟩:=h;have i:=h.keep d.keep (fun b c=>c.2) (fun b c=>c.1);exact⟨e,vb,vv,va,j,vh,i.wide d.keep.size fun b c=>⟨zk c.1 d.keep.size,d.new b c.1 c.2⟩⟩
theorem qw4 {g:Gh}{w w':World}(f:GInv g w){J:Nat}{r:RuleD}{c vb vv va e vh:Value}(h:JoinAt (fun b=>w.heap.size<=b/\b<w'.heap.size) w'.heap.size w' J r (qm r) (qcg r.body r.body.length) c vb vv va e vh):JoinIs g w' J r:=
 ⟨c,vb,vv,va,e,vh,h.wide (zG _) fun b d=>⟨d.2,qg8 f d.1⟩⟩
theorem GStep.below {n0:Nat}{g:Gh}{X Y:World}(h:GInv g X)(hK:Keep (fun b=>b<X.heap.size) X Y):GStep n0 g X g Y:=
 GStep.own h ⟨hK.os,hK.tape,hK.output,hK.size,fun k c _=>hK.block k c c⟩
def bA:ByteArray:=⟨#[97]⟩
def bB:ByteArray:=⟨#[98]⟩
def bC:ByteArray:=⟨#[99]⟩
def qgy:List qy:= [⟨bE,[bA,bB]⟩,⟨bE,[bB,bC]⟩,⟨bE,[bC,bA]⟩]
theorem qm9:qfk okF qgy=qgy:=wC
theorem q18:qcy qfu=0:=wC
theorem q19:qm qfu= [bX,bZ,bY]:=wC
theorem q34:(qcg qfu.body qfu.body.length).length=2:=wC
theorem qvs:qkw (qjs qfu.body (fun _=>qgy) qgy) qfu= [⟨[bA,bC],[bA,bC,bB]⟩,⟨[bB,bA],[bB,bA,bC]⟩,⟨[bC,bB],[bC,bB,bA]⟩]:=wC
end Go.Proofs
namespace Go.Proofs
open Go.RowKit Go.Ink Go.Flt R4 P16
attribute [local go_sem] Oper.semAt_some
def q5c (n0:Nat)(g:Gh)(w:World)(S nb:Nat)(l:List qa5)(k:Nat)(γ:Gh)(X:World):Prop:=
 ∃(vl:Value) (qs:List MQ),X.heap[nb]?=some (.cells #[vl] 49 (0,0))/\γ.free nb/\MqsAt (fun b=>γ.free b/\S<=b) X vl qs/\qs.map (·.1)=l.take k/\GWay n0 g w γ X
def GaI (n0:Nat)(g:Gh)(w:World)(N:Nat)(lim:Int)(l:List qa5)(k:Nat)(γ:Gh)(X:World):Prop:=
 (0<=lim->(k:Int)<=lim)/\X.heap[N]?=some (.cells #[.int .i64 lim] 3 (0,0))/\γ.free N/\q5c n0 g w (N+4) (N+1) l k γ X
def GaX (n0:Nat)(g:Gh)(w:World)(N:Nat)(lim:Int)(l:List qa5)(c:Code)(k:Nat)(γ:Gh)(X:World):Prop:=
 c=.exit 0/\lim=(k:Int)/\X.heap[N]?=some (.cells #[.int .i64 lim] 3 (0,0))/\γ.free N/\q5c n0 g w (N+4) (N+1) l k γ X
def qj5 (lim:Int)(n:Nat):Nat:=if lim<0 then n else min lim.toNat n
theorem qmd {n0:Nat}{Ss:List Nat}{g:Gh}{w:World}(hg:GInv g w)(hs:qf1 Ss g)(dr:n0<=w.heap.size){gf:Nat}{lb:Array Value}(eg: ∀args w,(callFunc gf args).run prog w=.ok (.enter gf args) w){all:Gh->List Asg}{r:RuleD}{V:World->Prop}{U:Nat->Prop}
  (bN:qkr prog gf lb (qa8 n0 Ss) (fun γ=>(all γ).length) (fun γ0 k γ n X args=> ∃b,(all γ0)[k]?=some b/\qic r (qm r) b γ n X args) V U) (hU: ∀b,U b->g.free b) (hV: ∀X,Keep (fun b=>b<w.heap.size) w X->V X) (a1: ∀X Y,V X->Keep (fun b=>b<w.heap.size) X Y->V Y) (cV:(all g).length<=67108864) (cx:r.head.args.length<=1073741824/\(qm r).length<=1073741824) (d:Int):
  Calls prog 17 #[.func (.func gf) #[] lb,.int .i64 d] w fun e w'=> ∃g' v qs,e=.returned v/\GStep n0 g w g' w'/\g'.st=g.st/\MqsAt (fun b=>g'.free b/\w.heap.size<=b) w' v qs/\qs.map (·.1)=qf0 (((all g).map (qcr r)).take (qj5 d (all g).length)):=by
 obtain⟨N,hN⟩:=ex (w.heap.size);obtain⟨W0,ax⟩:=ex ((w.alloc (.cells #[.int .i64 d] 3)).alloc (.cells #[.slice none 0 0] 49));have k0:wD w W0:=by rw [←ax];exact kAl.trans kAl
 have z0:W0.heap.size=N+2:=by rw [←ax,←hN];simp
 have p0:W0.heap[N]?=some (.cells #[.int .i64 d] 3 (0,0)):=by rw [←ax,←hN];exact(Keep.alloc (fun _=>True) _ _).heap (qh w _) trivial
 have p1:W0.heap[N+1]?=some (.cells #[.slice none 0 0] 49 (0,0)):=by
  rw [←ax,←hN];have:=qh (w.alloc (.cells #[.int .i64 d] 3)) (.cells #[.slice none 0 0] 49);rw [zO]at this;exact this
 have bL:=hg.keep k0.mt;have bG:=hV W0 k0.mt;have a3: ∀u,(binOp BinOp.eql 47 (.func (.func gf) #[] lb) .nilFunc).run prog u=.ok (.bool false) u:=fun u=>wA
 have hE: ∀(D:Nat) (γ:Gh) (W:World) (k:Nat) (vl:Value) (qs:List MQ),k<=(all g).length->D=N+2->γ.free D->W.heap[D]?=some (.deferred (some []))->W.heap[N+1]?=some (.cells #[vl] 49 (0,0))->γ.free (N+1)->MqsAt (fun b=>γ.free b/\N+4<=b) W vl qs->qs.map (·.1)=((all g).map (qcr r)).take k->GWay n0 g w γ W->GInv γ W->qj5 d (all g).length=k->
   Calls prog 69 #[vl] W fun e W'=> ∃v',e=.returned v'/\W'.heap[D]?=some (.deferred (some []))/\ ∃g' qs,GStep n0 g w g' (W'.putObj D (.deferred none))/\g'.st=g.st/\MqsAt (fun b=>g'.free b/\w.heap.size<=b) (W'.putObj D (.deferred none)) v' qs/\qs.map (·.1)=qf0 (((all g).map (qcr r)).take (qj5 d (all g).length)):=by
  intro D γ W k vl qs hk hD aI ay a9 aH hm R ag hinv af;have aL:qs.length=k:=by
   have:=yM List.length R;rw [zL,yB,zL]at this;omega
  have cz: ∀q,q∈qs->q.1.head.length<=1073741824/\q.1.vals.length<=1073741824:=fun q hq=>by
   have h1:q.1∈((all g).map (qcr r)).take k:=by rw [←R];exact yK.2 ⟨q,hq,rfl⟩
   obtain⟨b,-,j⟩:=yK.1 (xj h1);rw [←j];unfold qcr;simp only [zL];exact cx
  obtain⟨ct,cu⟩:=hm.mq xz cz;refine(qxq ct cu (zG _) (zG _) xz).mono ?_;rintro e W' ⟨v',rfl,hK,os,ho,f,t⟩;have cp:=qe ay;have kD:Keep (fun b=>b<W.heap.size/\b≠D) W (W'.putObj D (.deferred none)):=(hK.mono fun b _ h=>h.1).trans (Keep.putObj _ _ _ wB);refine⟨v',rfl,hK.heap ay cp,γ,os,(ag.stay kD fun b j=>⟨xz,xz⟩).gstep (hinv.keep (kD.mono fun b j h=>⟨j,fun e=>h (e▸aI)⟩)),ag.st,?_,by rw [f,R,af]⟩;exact hm.perm kD (fun b j t=>⟨⟨j,xz⟩,t.1,xz⟩) (qf ho (Keep.putObj (C:=fun b=>b≠D) _ _ _ wB) (fun b j e=>by have:=(zE ho b j).1;omega)) (fun b j=>⟨qg8 hinv j,xz⟩) t
 refine q1q ?_ hE hg hs eg bN hU hV a1 hN ax k0 p0 p1 bL bG;clear hE hg hs eg bN hU hV a1 hN ax k0 p0 p1 bL bG;intro bl bt cg cd bu ce db aj i bo ci cj ck aW bn;refine qfb Tryz.func17 rfl ?_;simp only [Tryz.ntmps17,qdm,Nat.reduceAdd,Nat.reduceSub];gi_wp2;rw [bo.o,i.o];refine ql6 (qa8 n0 Ss) g (gf:=gf) (lb:=lb) rfl cd.o bu.o ce.o (fun γ0 k γ n X args h=>?ps) ⟨aW.o,cg.o⟩ (fun b j=>qg8 aW.o j) bn.o (fun X Y hv hk=>aj.o X Y hv (hk.mono fun b _ j=>by have:=i.o;omega))
  (GaI n0 g w N d ((all g).map (qcr r))) (GaX n0 g w N d ((all g).map (qcr r))) ?hI ?hIx ?hIs ?hIxs ?h0 ?round ?done ?stop
 case ps=>obtain⟨b,-,vh,vv,rfl,-⟩:=h;rfl
 case hI=>
  rintro k γ X Y ⟨h1,h2,h3,vl,qs,y,h5,h6,h7,h8⟩ hK;exact⟨h1,hK.heap h2 (.inl xz),h3,vl,qs,hK.heap y (.inl xz),h5,h6.keep hK (fun b _ t=>⟨.inr xz,t⟩),h7,h8.stay hK (fun b j=>.inl (by have:=i.o;omega))⟩
 case hIx=>
  rintro c k γ X Y ⟨h0,h1,h2,h3,vl,qs,y,h5,h6,h7,h8⟩ hK;exact⟨h0,h1,hK.heap h2 (.inl xz),h3,vl,qs,hK.heap y (.inl xz),h5,h6.keep hK (fun b _ t=>⟨.inr xz,t⟩),h7,h8.stay hK (fun b j=>.inl (by have:=i.o;omega))⟩
 case hIs=>
  rintro k γ X γ' Y ⟨h1,h2,h3,vl,qs,y,h5,h6,h7,h8⟩ f;exact⟨h1,f.1.keep.heap h2 h3,f.1.new N (qe h2) h3,vl,qs,f.1.keep.heap y h5,f.1.new _ (qe y) h5,h6.keep f.1.keep (fun b j t=>⟨t.1,f.1.new b j t.1,t.2⟩),h7,h8.step f⟩
 case hIxs=>
  rintro c k γ X γ' Y ⟨h0,h1,h2,h3,vl,qs,y,h5,h6,h7,h8⟩ f;exact⟨h0,h1,f.1.keep.heap h2 h3,f.1.new N (qe h2) h3,vl,qs,f.1.keep.heap y h5,f.1.new _ (qe y) h5,h6.keep f.1.keep (fun b j t=>⟨t.1,f.1.new b j t.1,t.2⟩),h7,h8.step f⟩
 case h0=>exact⟨fun h=>by simpa using h,cj.o,qg8 bt.o (by have:=i.o;omega),.slice none 0 0,[],ck.o,qg8 bt.o (by have:=i.o;omega),q32 _,rfl,GWay.refl ci.o⟩
 case stop=>
  rintro D c k γ W hD aI ay cy hk ⟨rfl,h1,h2,h3,vl,qs,y,h5,h6,h7,h8⟩ s a7;have aK:qj5 d (all g).length=k:=by unfold qj5;rw [zF xz];omega
  have ae:=bl.o D γ W k vl qs xz (by have:=hD;omega) aI ay y h5 h6 h7 h8 s.1 aK;have e0:=qb y 0 _ rfl;have f0:=qe y;simp only [zD]at e0;clear h1 h2 y h6 h7 h8 s a7 aK;refine hd1 ?_ ae;clear ae;intro am;gi_wp2;refine⟨wE,rfl,(zU.2 am.o).mono ?_⟩;rintro e W9 ⟨v9,rfl,ad,h9⟩;refine hd2 ?_ ad h9;clear ad h9;intro ak a5;gi_wp2;obtain⟨g9,q9,h9⟩:=a5.o;refine qgw ak.o (qb7 (xm rfl _ _ _) ⟨g9,v9,q9,rfl,h9⟩)
 case round=>
  rintro l k γ X0 X args dm dq bK hk ⟨bO,bF,a6,vl,qs,a9,aH,bR,R,ag⟩ bU aJ bH ds ⟨b,bJ,vh,vv,rfl,az,aA,ba,bb,hd⟩;obtain⟨ah,ch,rfl⟩:=qi az;obtain⟨av,cv,rfl⟩:=qi aA;obtain⟨X1,aG⟩:=ex (X.alloc (.cells #[.slice ah r.head.args.length ch,.slice av (qm r).length cv] 122));obtain⟨nm,aU⟩:=ex (X.heap.size);have kx:wD X X1:=by rw [←aG];exact kAl
  have px:X1.heap[nm]?=some (.cells #[.slice ah r.head.args.length ch,.slice av (qm r).length cv] 122 (0,0)):=by rw [←aG,←aU];exact qh _ _
  have zx:X1.heap.size=nm+1:=by rw [←aG,←aU];simp
  refine ql3 ?_ bO bF a9 bR ag bU aJ bH bK aG aU kx px bJ;clear bO bF a9 bR ag bU aJ bH bK aG aU kx px bJ;intro bv bm br aY aD p z aV aC bp aZ aE cm bq;gi_wp2;rw [bp.o,aZ.o];refine⟨aE.o.mt,fun Y hY bI dn=>?_⟩;have bP:l=N+3:=by have:=aC.o.2.2;omega
  have cG:=(p.o.1.keep).size;have zX:=aE.o.size;have zY:=hY.size;have bS:=aZ.o;have ai:Keep (fun b=>b≠l) X Y:=aE.o.mt.trans hY;have aN:=hY.heap (aE.o.heap (p.o.1.keep.heap bm.o a6) wE) (show N≠l from xz);have aB:=hY.heap (aE.o.heap (p.o.1.keep.heap br.o aH) wE) (show N+1≠l from xz);have aM:=hY.heap cm.o (show nm≠l from xz);have c0:=qb aN 0 _ rfl;have c1:=qb aB 0 _ rfl;have c2:=qb aM 0 _ rfl;have c3:=qb aM 1 _ rfl;have l0:=qe aN;have l1:=qe aB;have l2:=qe aM;simp only [zD]at c0 c1 c2 c3;have aL:qs.length=k:=by
   have:=yM List.length R;rw [zL,yB,zL]at this;omega
  have bQ:MqsAt (fun b=>γ.free b/\N+4<=b) X vl qs:=aY.o.keep p.o.1.keep (fun b j t=>⟨t.1,p.o.1.new b j t.1,t.2⟩);have aT:MqsAt (fun b=>γ.free b/\N+4<=b) Y vl qs:=bQ.keep ai (fun b j t=>⟨xz,t⟩);have ao:=aT.blk;have o1:=qf az ai (fun b j e=>by have:=(zE az b j).1;omega);have o2:=qf aA ai (fun b j e=>by have:=(zE aA b j).1;omega);obtain⟨b0,aR⟩:=ex (qcr r b);have hh:b0.head=r.head.args.map (qcu b):=by rw [←aR];rfl
  have hv:b0.vals=(qm r).map fun x=>(b x).getD ⟨#[]⟩:=by rw [←aR];rfl
  have a2: ∀u,X.heap.size<=u->γ.free u:=fun u hu=>qg8 z.o.1 hu;obtain⟨al,cl,gb,cap,Y3,cA,bf,bc,aS⟩:=aT.snoc (m:=b0) (vh:=.slice ah r.head.args.length ch) (vv:=.slice av (qm r).length cv) (n:=X0.heap.size) (by rw [hh,zL];exact o1) (by rw [hv,zL];exact o2)
   (fun u hu=>⟨ba u hu,by have:=(zE az u hu).1;omega⟩) (fun u hu=>⟨bb u hu,by have:=(zE aA u hu).1;omega⟩) hd aY.o.lt xz (fun u hu=>⟨a2 u xz,xz⟩)
  subst cA;rw [aL]at c1 aB bf bc;have aF:=aS.heap aB (fun e=>by have:=(ao (N+1) e).2;omega);have c4:=qb aF 0 _ rfl;have f4:=qg aF 0;have l4:=qe aF;simp only [zD]at c4;have bM:(0<=d->((k+1:Nat):Int)<=d)->qes (qa8 n0 Ss) W0.heap.size l X.heap.size V γ Y (Y3.setCell ⟨N+1,0,none⟩ (.slice (some ⟨gb,0,none⟩) (k+1) cap)) (fun γ'=>GaI n0 g w N d ((all g).map (qcr r)) (k+1) γ' (Y3.setCell ⟨N+1,0,none⟩ (.slice (some ⟨gb,0,none⟩) (k+1) cap))):=fun af=>by
   have e3:((all g).map (qcr r)).take (k+1)=(qs++ [(b0,Value.slice ah r.head.args.length ch,Value.slice av (qm r).length cv)]).map (·.1):=by
    rw [zm,R,zh,zP,bq.o,←aR];rfl
   have cD:=aS.heap aN (fun e=>by have:=(ao N e).2;omega);have kZ:Keep (fun b=>b≠N+1) Y3 (Y3.setCell ⟨N+1,0,none⟩ (.slice (some ⟨gb,0,none⟩) (k+1) cap)):=kSc;have bW:Keep (fun b=>b≠N+1/\(Value.slice al qs.length cl).ownBlock≠some b) Y (Y3.setCell ⟨N+1,0,none⟩ (.slice (some ⟨gb,0,none⟩) (k+1) cap)):=(aS.mono fun b _ h=>h.2).trans (kZ.mono fun b _ h=>h.1);have bh:Keep (fun b=>b≠l/\b≠N+1/\(Value.slice al qs.length cl).ownBlock≠some b) X (Y3.setCell ⟨N+1,0,none⟩ (.slice (some ⟨gb,0,none⟩) (k+1) cap)):=(ai.mono fun b _ h=>h.1).trans (bW.mono fun b _ h=>h.2);refine⟨γ,(qa8 n0 Ss).invk z.o (bh.mono fun b _ h=>⟨fun e=>h (e▸aC.o.1),fun e=>h (e▸aH),fun e=>h (ao b e).1⟩),aj.o _ _ aV.o (bh.mono fun b _ h=>⟨by have:=i.o;omega,by have:=i.o;omega,fun e=>by have:=(ao b e).2;have:=i.o;omega⟩),GBd.refl _ _,bW.mono fun b _ h=>⟨xz,fun e=>by have:=(ao b e).2;omega⟩,af,kZ.heap cD (show N≠N+1 from xz),a6,_,_,qgj _ aF,aH,bc.keep kZ (fun b _ t=>⟨xz,t⟩),e3.symm,?_⟩;exact((aD.o.step p.o).stay bh fun b j=>⟨by have:=i.o;omega,by have:=i.o;omega,fun e=>by have:=(ao b e).2;have:=i.o;omega⟩)
  have aO: ∀q:Int,q=(k:Int)->d=q->qes (qa8 n0 Ss) W0.heap.size l X.heap.size V γ Y Y (fun γ'=>GaX n0 g w N d ((all g).map (qcr r)) (.exit 0) k γ' Y):=fun q hq af=>by
   refine⟨γ,(qa8 n0 Ss).invk z.o (ai.mono fun b _ h e=>h (e▸aC.o.1)),aj.o _ _ aV.o (ai.mono fun b _ h=>by have:=i.o;omega),GBd.refl _ _,Keep.refl _ _,rfl,af.trans hq,aN,a6,_,qs,(by rw [aL];exact aB),aH,aT,R,(aD.o.step p.o).stay ai fun b j=>by have:=i.o;omega⟩
  clear aN aB aM aF bQ aT ao o1 o2 hh hv a2 bc aS ai aR;have bg:(d=(k:Int))∨((k:Int)<d)∨d<0:=by
   have:=bv.o;omega
  have dp:(0:Int)<=k:=xz
  refine qde ?_ hY bM aO bf R ba bb hd az aA a3 zx bI z0 aL bP;clear hY bM aO bf R ba bb hd az aA a3 zx bI z0 aL bP;intro dc aX aP a0 cO cI cJ dd cL cM cf df cH de cN cK;clear cG zX zY bS;rcases bg with h3 |h3 |h3
  ·have y:(0:Int)<=d:=by omega
   have bV:=aP.o _ rfl h3;have h5:((k:Int)==d)=true:=xB.2 h3.symm;refine hd2 ?_ h3 bV;clear h3 bV;intro da bw;gi_wp2;exact bw.o
  ·have y:(0:Int)<=d:=by omega
   have h5: ¬(k:Int)=d:=xz
   gi_wp2_with (gi_at_builtin;refine qby rfl _ _ _ rfl rfl rfl a0.o ?_)
   exact aX.o (fun _=>xz)
  ·have y: ¬(0:Int)<=d:=by omega
   gi_wp2_with (gi_at_builtin;refine qby rfl _ _ _ rfl rfl rfl a0.o ?_)
   exact aX.o (fun _=>xz)
 case done=>
  rintro D γ W hD aI ay cy ⟨h1,h2,h3,vl,qs,y,h5,h6,h7,h8⟩ s a7;have aK:qj5 d (all g).length=(all g).length:=by
   unfold qj5;split
   ·rfl
   ·have:=h1 xz;omega
  have ae:=bl.o D γ W _ vl qs (zG _) (by have:=hD;omega) aI ay y h5 h6 h7 h8 s.1 aK;have e0:=qb y 0 _ rfl;have f0:=qe y;simp only [zD]at e0;clear h1 h2 y h6 h7 h8 s a7 aK;refine hd1 ?_ ae;clear ae;intro am;gi_wp2;refine⟨wE,rfl,(zU.2 am.o).mono ?_⟩;rintro e W9 ⟨v9,rfl,ad,h9⟩;refine hd2 ?_ ad h9;clear ad h9;intro ak a5;gi_wp2;obtain⟨g9,q9,h9⟩:=a5.o;refine qgw ak.o (qb7 (xm rfl _ _ _) ⟨g9,v9,q9,rfl,h9⟩)
end Go.Proofs
