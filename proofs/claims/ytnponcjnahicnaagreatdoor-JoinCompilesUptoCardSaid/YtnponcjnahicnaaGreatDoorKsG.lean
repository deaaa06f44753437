/- Parts of the proof. -/
import Derived.Test.YtnponcjnahicnaaGreatDoorBkBToKsC
import Derived.Sort.CutIn
set_option linter.unusedSimpArgs false
set_option linter.unusedVariables false
set_option maxRecDepth 100000
open Go.Proofs.Tryz(prog)
namespace Go.Proofs
open Go.RowKit Go.Ink Go.Flt R4 P16
attribute [local go_sem] Oper.semAt_some
theorem q3u (r:RuleD):(qcg r.body r.body.length).length=(qa3 r.body).length:=by rw [qzg,zL,q4z,zL]
theorem qi9 {U:Nat->Prop}{n:Nat}{w:World}{J:Nat}{r:RuleD}{vars:List ByteArray}{ai:List Int}{aj vb vv va vt vh:Value}(z:JoinAt U n w J r vars ai aj vb vv va vt vh)(hn:n<=w.heap.size):
  Calls prog 28 #[qj J] w fun e w'=> ∃a1 c1 a2 c2,e=.returned (.agg #[.string r.head.pred,.slice a1 r.head.args.length c1,.slice a2 r.body.length c2])/\RuleOwn w.heap.size 79 77 w' (.slice a1 r.head.args.length c1) (.slice a2 r.body.length c2) r/\Keep (fun b=>b<w.heap.size) w w':=by
 have f:=z.rule;obtain⟨ah,ch,rfl,-,-,-⟩:=id f.1;obtain⟨ab,cb,rfl,-,-,-⟩:=id f.2;obtain⟨N,y⟩:=ex (w.heap.size);obtain⟨W0,d⟩:=ex (w.alloc (.cells #[.string ⟨#[]⟩,.slice none 0 0,.slice none 0 0] 27));have R:wD w W0:=by rw [←d];exact kAl
 have p0:W0.heap[N]?=some (.cells #[.string ⟨#[]⟩,.slice none 0 0,.slice none 0 0] 27 (0,0)):=by rw [←d,←y];exact qh _ _
 have z0:W0.heap.size=N+1:=by rw [←d,←y];simp
 have u:=R.heap z.box trivial;have c0:=qb u 0 _ rfl;have c1:=qb u 1 _ rfl;have c2:=qb u 2 _ rfl;have l0:=qe u;have m:=qj8 n r _ _ W0 (f.keep R.mt) xz;unfold qaz at m;simp only [zD]at c0 c1 c2;clear u;refine hd8 ?_ z f y d R p0 z0 m;clear z f y d R p0 z0 m;intro aq ak c p t ad j s
 go_enter Tryz.func28,Tryz.ntmps28
 go_upto_region 3 with fail
 rw [p.o,c.o];unfold qj;go_wp2_with fail;refine s.o.mono ?_;rintro e W1 ⟨v1,v2,rfl,o1,k1⟩;obtain⟨a1,k,rfl⟩:=qi o1.1;obtain⟨ps,ae,ho,-⟩:=id o1.2;obtain⟨a2,l,rfl⟩:=qi ho;have q:=k1.heap ad.o (by have:=j.o;omega);have g0:=qb q 0 _ rfl;have g1:=qb q 1 _ rfl;have g2:=qb q 2 _ rfl;have f0:=qg q 0;have f1:=qg q 1;have f2:=qg q 2;have lq:=qe q;simp only [zD]at g0 g1 g2;obtain⟨X,g⟩:=ex (((W1.setCell ⟨N,0,none⟩ (.string r.head.pred)).setCell ⟨N,1,none⟩ (.slice a1 r.head.args.length k)).setCell ⟨N,2,none⟩ (.slice a2 r.body.length l));have x:X.heap[N]?=some (.cells #[.string r.head.pred,.slice a1 r.head.args.length k,.slice a2 r.body.length l] 27 (0,0)):=by rw [←g];exact qz 2 _ (qz 1 _ (qz 0 (.string r.head.pred) q))
 have k2:Keep (fun b=>b≠N) W1 X:=by rw [←g];exact((kSc).trans (kSc)).trans (kSc)
 have d0:=qb x 0 _ rfl;have d1:=qb x 1 _ rfl;have d2:=qb x 2 _ rfl;have ld:=qe x;simp only [zD]at d0 d1 d2;have o2:=(o1.keep k2 (fun b h _=>by have:=j.o;omega)).mono (show w.heap.size<=W0.heap.size from t.o.size);have kw:Keep (fun b=>b<w.heap.size) w X:=t.o.mt.trans ((k1.mono fun b _ h=>by have:=j.o;have:=c.o;omega).trans (k2.mono fun b _ h=>by have:=c.o;omega));clear o1 ae ho q x k1 k2;refine hd3 ?_ g o2 kw;clear g o2 kw;intro i aa Y;go_wp2_with fail;refine zz (v:=.agg #[.string r.head.pred,.slice a1 r.head.args.length k,.slice a2 r.body.length l]) (by rw [i.o];simp [results,Tryz.results28,go_sem,d0,d1,d2,ld]) rfl ?_;rw [i.o];exact⟨_,_,_,_,rfl,by have:=aa.o;rwa [c.o] at this,by have:=Y.o;rwa [c.o] at this⟩
theorem qrc (s sN:Option Nat)(w:World):Calls prog 15 #[.pointer none,qav s,qav sN] w fun e w'=>e=.returned (.func (.func 65) #[] #[qj w.heap.size,qj (w.heap.size+1),qj (w.heap.size+2)])/\
  w'.heap[w.heap.size]?=some (.cells #[.pointer none] 35 (0,0))/\w'.heap.size=w.heap.size+3/\wD w w':=by
 unfold qav;obtain⟨d,b⟩:=ex ((s.map fun S=>(⟨S,0,none⟩:Addr)));obtain⟨f,c⟩:=ex ((sN.map fun S=>(⟨S,0,none⟩:Addr)));rw [b,c];clear b c
 go_enter Tryz.func15,Tryz.ntmps15
 go_wp2;go_ret;have p1:=qh w (.cells #[.pointer none] 35);refine⟨rfl,((Keep.alloc (fun _=>True) _ _).trans kAl).heap p1 wE,wB,(kAl.trans kAl).trans kAl⟩
theorem qpq (k:Int)(w:World):Calls prog 30 #[.pointer none,.int .i64 k,.pointer none,.pointer none,.pointer none,.pointer none] w fun e w'=>e=.returned (.func (.func 80) #[] #[qj w.heap.size,qj (w.heap.size+1),qj (w.heap.size+2),qj (w.heap.size+3),qj (w.heap.size+4),qj (w.heap.size+5)])/\
  w'.heap[w.heap.size]?=some (.cells #[.pointer none] 35 (0,0))/\w'.heap.size=w.heap.size+6/\wD w w':=by
 go_enter Tryz.func30,Tryz.ntmps30
 go_wp2;go_ret;have p1:=qh w (.cells #[.pointer none] 35);refine⟨rfl,((((Keep.alloc (fun _=>True) _ _).trans kAl).trans kAl).trans kAl).trans kAl |>.heap p1 wE,wB,((((kAl.trans kAl).trans kAl).trans kAl).trans kAl).trans kAl⟩
theorem qsr (w:World){d B2 B3:Nat}(f:w.heap[d]?=some (.cells #[.pointer none] 35 (0,0))):
  Calls prog 17 #[.func (.func 65) #[] #[qj d,qj B2,qj B3],.int .i64 (-1)] w fun e w'=> ∃a c,e=.returned (.slice a 0 c)/\wD w w':=by
 refine(qlq (n0:=0) (qmw w) (ya _) (qc0 Tryz.func65 wA rfl) (q07 (fun b h=>h.1) ⟨qe f,qjb _⟩ f)).mono ?_;rintro e w' ⟨i,a,c,rfl,g,-⟩;exact⟨a,c,rfl,qmx g⟩
theorem qrd (w:World){d B2 B3 B4 B5 B6:Nat}(f:w.heap[d]?=some (.cells #[.pointer none] 35 (0,0))):
  Calls prog 17 #[.func (.func 80) #[] #[qj d,qj B2,qj B3,qj B4,qj B5,qj B6],.int .i64 (-1)] w fun e w'=> ∃a c,e=.returned (.slice a 0 c)/\wD w w':=by
 refine(qlq (n0:=0) (qmw w) (ya _) (qc0 Tryz.func80 wA rfl) (qyc (fun b h=>h.1) ⟨qe f,qjb _⟩ f)).mono ?_;rintro e w' ⟨i,a,c,rfl,g,-⟩;exact⟨a,c,rfl,qmx g⟩
end Go.Proofs
