/- Parts of the proof. -/
import Derived.Test.YtnponcjnahicnaaGreatPnKToFlt
import Derived.Test.YtnponcjnahicnaaGreatProg
import Derived.Test.YtnponcjnahicnaaGreatPnDToPnJ
import Derived.Test.YtnponcjnahicnaaGreatHdToKp
set_option linter.unusedSimpArgs false
set_option linter.unusedVariables false
open Go.Proofs.Tryz(prog)
open List(any_eq_false find?_cons find?_eq_none foldlM_cons foldlM_nil foldl_append getD_eq_getElem?_getD getElem?_cons_succ getElem?_eq_getElem getElem?_eq_none getElem_mem mem_of_find?_eq_some mem_of_getElem? take_add_one take_length)
namespace Go.Flt
open Ieee
def V (a:Nat):Nat:=mg a*2^sh a
theorem q7l {a:Nat}(h:0<a):0<V a:=Nat.mul_pos (by have:=qk4 h;omega) (qfj _)
theorem q6r:V 0=0:=by decide
theorem q5g {a b:Nat}(ha:a<9218868437227405312)(hb:b<9218868437227405312)(h:V a<=V b):a<=b:=by
 have:=qiu (m1:=mg a) (m2:=mg b) (p1:= -1074+(sh a:Int)) (p2:= -1074+(sh b:Int)) (K:= -1074) (by omega) (by omega) (by
  rw [show(-1074+(sh a:Int)- -1074).toNat=sh a by omega,show(-1074+(sh b:Int)- -1074).toNat=sh b by omega];exact h)
 rwa [qm8 ha,qm8 hb] at this
theorem q28 {a b:Nat}(hb:b<9218868437227405312)(h:a<b):V a<V b:=by
 rcases Nat.lt_or_ge (V a) (V b) with hl |hg
 ·exact hl
 ·have:=q5g hb (by omega) hg;omega
theorem q29 {a b:Nat}(hb:b<9218868437227405312)(h:a<=b):V a<=V b:=by
 rcases Nat.lt_or_ge a b with hl |hg
 ·exact Nat.le_of_lt (q28 hb hl)
 ·obtain rfl:a=b:=by omega
  exact Nat.le_refl _
theorem q5h (x y:Nat)(a b:Nat)(h1:a<b->x<y)(h2:b<a->y<x)(h3:a=b->x=y):compare (x:Int) (y:Int)=compare a b:=by
 simp only [compare,compareOfLessAndEq];rcases Nat.lt_trichotomy a b with h |h |h
 ·rw [if_pos h,if_pos (by have:=h1 h;omega)]
 ·have:=h3 h;rw [if_neg (show ¬(x:Int)<y by omega),if_pos (show(x:Int)=y by omega),if_neg (show ¬a<b by omega),if_pos h]
 ·have:=h2 h;rw [if_neg (show ¬(x:Int)<y by omega),if_neg (show ¬(x:Int)=y by omega),if_neg (show ¬a<b by omega),if_neg (show ¬a=b by omega)]
theorem q41 (m i k:Nat):m*2^(i-k)*2^k=m*2^(i-k+k):=by rw [Nat.mul_assoc,←Nat.pow_add]
theorem qs6 {a b:Nat}(ha:a<9218868437227405312)(hb:b<9218868437227405312):D.order a b=some (compare a b):=by
 unfold Format.order;rw [qje ha,qje hb];unfold Datum.order signed;simp only [Bool.false_eq_true,if_false,Nat.shiftLeft_eq];obtain⟨k,hk⟩: ∃k,k=min (sh a) (sh b):=⟨_,rfl⟩;have e1:(-1074+(sh a:Int)-min (-1074+(sh a:Int)) (-1074+(sh b:Int))).toNat=sh a-k:=by omega
 have e2:(-1074+(sh b:Int)-min (-1074+(sh a:Int)) (-1074+(sh b:Int))).toNat=sh b-k:=by omega
 rw [e1,e2];have va:V a=mg a*2^(sh a-k)*2^k:=by rw [q41];unfold V;rw [show sh a-k+k=sh a by omega]
 have vb:V b=mg b*2^(sh b-k)*2^k:=by rw [q41];unfold V;rw [show sh b-k+k=sh b by omega]
 have p:=qfj k;refine congrArg some (q5h _ _ _ _ (fun h=>?_) (fun h=>?_) (fun h=>?_))
 ·have:=q28 hb h;rw [va,vb]at this;exact Nat.lt_of_mul_lt_mul_right this
 ·have:=q28 ha h;rw [va,vb]at this;exact Nat.lt_of_mul_lt_mul_right this
 ·subst h;rfl
def qfs (a b:Nat):Nat:=(D.mul a b).getD 0
def qht (a b:Nat):Nat:=(D.div a b).getD 0
def qgf (n:Int):Nat:=FloatKind.f64.nearest n
theorem qs7 {a b:Nat}(ha:a<9218868437227405312)(hb:b<9218868437227405312):D.mul a b=some (qhj (mg a*mg b) (-1074+sh a+(-1074+sh b))):=by
 unfold Format.mul;rw [qje ha,qje hb]
 rfl
theorem q6s {a b:Nat}(ha:a<9218868437227405312)(hb:b<9218868437227405312):D.mul a b=some (qfs a b):=by
 unfold qfs;rw [qs7 ha hb]
 rfl
theorem qmn {a b:Nat}(ha:a<9218868437227405312)(hb:b<9218868437227405312):qfs a b=qhj (mg a*mg b) (-1074+sh a+(-1074+sh b)):=by
 unfold qfs;rw [qs7 ha hb]
 rfl
theorem q3a {a b:Nat}(ha:a<9218868437227405312)(hb:b<9218868437227405312):qfs a b<=9218868437227405312:=by rw [qmn ha hb];exact q3y _ _
theorem qrf {a a' b:Nat}(ha:a'<9218868437227405312)(hb:b<9218868437227405312)(h:a<=a'):qfs a b<=qfs a' b:=by
 rw [qmn (by omega) hb,qmn ha hb];refine qiu (K:= -1074+(-1074+(sh b:Int))) (by omega) (by omega) ?_;rw [show(-1074+(sh a:Int)+(-1074+(sh b:Int))-(-1074+(-1074+(sh b:Int)))).toNat=sh a by omega,show(-1074+(sh a':Int)+(-1074+(sh b:Int))-(-1074+(-1074+(sh b:Int)))).toNat=sh a' by omega];rw [Nat.mul_right_comm,Nat.mul_right_comm (mg a')];exact Nat.mul_le_mul_right _ (q29 ha h)
theorem qpc {n:Int}(h:0<=n):qgf n=qhj n.toNat 0:=by
 unfold qgf FloatKind.nearest FloatKind.encode FloatKind.format qhj Format.write;rw [decide_eq_false (show ¬n<0 by omega),show n.natAbs=n.toNat by omega]
theorem qmo {n:Int}(h:0<=n)(h2:n<=2147483647):qgf n<9218868437227405312:=by
 rw [qpc h];refine Nat.lt_of_le_of_lt (qiu (m2:=2147483647) (p2:=0) (K:=0) (by omega) (by omega) ?_) (show qhj 2147483647 0<_ by decide);simp;omega
theorem qrg {n:Int}(h:1<=n):4607182418800017408<=qgf n:=by
 rw [qpc (by omega)];refine Nat.le_trans (show 4607182418800017408<=qhj 1 0 by decide) (qiu (m1:=1) (p1:=0) (K:=0) (by omega) (by omega) ?_);simp;omega
theorem qs8 {a b:Nat}(ha:a<9218868437227405312)(hb:b<9218868437227405312)(h0:0<b):D.div a b=some (qhj (2*(mg a*2^(54+(mg b).log2-(mg a).log2)/mg b)+(mg a*2^(54+(mg b).log2-(mg a).log2)%mg b !=0).toNat) (-1074+(sh a:Int)-(-1074+(sh b:Int))-((54+(mg b).log2-(mg a).log2:Nat):Int)-1)):=by
 unfold Format.div;rw [qje ha,qje hb];unfold Datum.quotient;simp only [qk4 h0,if_false,Nat.shiftLeft_eq]
 rfl
theorem q6t {a b:Nat}(ha:a<9218868437227405312)(hb:b<9218868437227405312)(h0:0<b):D.div a b=some (qht a b):=by
 unfold qht;rw [qs8 ha hb h0]
 rfl
theorem qrh {a b:Nat}(ha:a<9218868437227405312)(hb:b<9218868437227405312)(h0:0<b):qht a b=qhj (2*(mg a*2^(54+(mg b).log2-(mg a).log2)/mg b)+(mg a*2^(54+(mg b).log2-(mg a).log2)%mg b !=0).toNat) (-1074+(sh a:Int)-(-1074+(sh b:Int))-((54+(mg b).log2-(mg a).log2:Nat):Int)-1):=by
 unfold qht;rw [qs8 ha hb h0]
 rfl
theorem q6u {N n T:Nat}(h0:0<n)(h:2*N<=n*T):2*(N/n)+(N%n !=0).toNat<=T:=by
 have e:=Nat.div_add_mod N n;by_cases hr:N%n=0
 ·rw [hr]at e⊢;have:n*(2*(N/n))<=n*T:=by rw [Nat.mul_left_comm];omega
  have:=Nat.le_of_mul_le_mul_left this h0
  simpa using this
 ·have:n*(2*(N/n))<n*T:=by rw [Nat.mul_left_comm];omega
  have:=Nat.lt_of_mul_lt_mul_left this;have hb:(N%n !=0).toNat<=1:=by cases (N%n !=0)<;>simp
  omega
theorem qws {a b c:Nat}(ha:a<9218868437227405312)(hb:b<9218868437227405312)(hc:c<9218868437227405312)(h0:0<b)(u:Nat)(hu:u=1074)(h:V a*2^u<=V b*V c):qht a b<=c:=by
 by_cases ha0:a=0
 ·subst ha0;rw [qrh ha hb h0];have:mg 0=0:=by decide
  rw [this];simp only [Nat.zero_mul,Nat.zero_div,Nat.zero_mod,Nat.mul_zero,bne_self_eq_false,Bool.toNat_false,Nat.add_zero,qm7];exact Nat.zero_le _
 have hna:=qk4 (a:=a) (by omega);have hnb:=qk4 h0;have hc0:0<c:=by
  rcases Nat.eq_zero_or_pos c with h1 |h1
  ·exfalso;rw [h1,q6r,Nat.mul_zero]at h;have:=Nat.mul_pos (q7l (a:=a) (by omega)) (qfj u);omega
  ·exact h1
 have hnc:=qk4 hc0;have h1:mg a*2^(sh a+u)<=(mg b*mg c)*2^(sh b+sh c):=by
  unfold V at h;have e:mg b*mg c*2^(sh b+sh c)=mg b*2^sh b*(mg c*2^sh c):=by
   rw [Nat.pow_add,Nat.mul_assoc,Nat.mul_assoc,Nat.mul_left_comm (mg c)]
  rw [e,Nat.pow_add,←Nat.mul_assoc];exact h
 have hl:(mg a).log2+(sh a+u)<=(mg b).log2+(mg c).log2+1+(sh b+sh c):=by
  have ht:=q05 hna (Nat.mul_ne_zero hnb hnc) h1;have:(mg b*mg c).log2<(mg b).log2+1+((mg c).log2+1):=by
   refine(Nat.log2_lt (Nat.mul_ne_zero hnb hnc)).2 ?_;rw [Nat.pow_add];exact Nat.mul_lt_mul_of_lt_of_le (qpt _) (Nat.le_of_lt (qpt _)) (qfj _)
  omega
 have la:=qt8 (a:=a);have lc:=qt8 (a:=c);rw [qrh ha hb h0];obtain⟨more,hmore⟩: ∃k,54+(mg b).log2-(mg a).log2=k:=⟨_,rfl⟩;rw [hmore];have hp: -1074+(sh a:Int)-(-1074+(sh b:Int))-(more:Int)-1<= -1074+(sh c:Int):=by omega
 have:=qiu (m1:=2*(mg a*2^more/mg b)+(mg a*2^more%mg b !=0).toNat) (m2:=mg c) (p1:= -1074+(sh a:Int)-(-1074+(sh b:Int))-(more:Int)-1) (p2:= -1074+(sh c:Int)) (Int.le_refl _) hp (by
  rw [Int.sub_self,Int.toNat_zero,Nat.pow_zero,Nat.mul_one];refine q6u (by omega) ?_;have:=qou (c:=more+1) (d:=(-1074+(sh c:Int)-(-1074+(sh a:Int)-(-1074+(sh b:Int))-(more:Int)-1)).toNat) h1 (by omega);have e2:2*(mg a*2^more)=mg a*2^(more+1):=by rw [Nat.pow_succ,Nat.mul_comm (2^more) 2,Nat.mul_left_comm]
  rw [e2,←Nat.mul_assoc];exact this)
 rwa [qm8 hc] at this
theorem q7m (u:Nat)(hu:u=1074):V 4607182418800017408=2^u:=by
 have h1:mg 4607182418800017408=2^52:=by decide
 have h2:sh 4607182418800017408=1022:=by decide
 unfold V;rw [h1,←Nat.pow_add,show 52+sh 4607182418800017408=u by omega]
theorem qmp {a b:Nat}(ha:a<9218868437227405312)(hb:b<9218868437227405312)(h1:4607182418800017408<=b):qht a b<=a:=by
 obtain⟨u,hu⟩: ∃u:Nat,u=1074:=⟨_,rfl⟩;refine qws ha hb ha (by omega) u hu ?_;have:=q29 hb h1;rw [q7m u hu]at this;rw [Nat.mul_comm];exact Nat.mul_le_mul_right _ this
def cap (a:Nat):Nat:=if a<=9094988921128908188 then a else 9094988921128908188
theorem qzv {a:Nat}(h:a<=9218868437227405312):D.order a 9094988921128908188=some (compare a 9094988921128908188):=by
 rcases Nat.lt_or_ge a 9218868437227405312 with hl |hg
 ·exact qs6 hl (by decide)
 ·obtain rfl:a=9218868437227405312:=by omega
  decide
theorem qzw (a:Nat):cap a<=9094988921128908188:=by unfold cap;split<;>omega
def qpd (a:Nat):Nat:=qht (qfs a 4621256167635550208) 4621819117588971520
theorem qs9 {a:Nat}(h:a<=9094988921128908188):qfs a 4621256167635550208<9218868437227405312:=
 Nat.lt_of_le_of_lt (qrf (a':=9094988921128908188) (by decide) (by decide) h) (by decide+kernel)
theorem qzx {a:Nat}(h:a<=9094988921128908188):qpd a<=9094988921128908188:=by
 obtain⟨u,hu⟩: ∃u:Nat,u=1074:=⟨_,rfl⟩;refine qws (qs9 h) (by decide) (by decide) (by decide) u hu ?_;have h1:=q29 (b:=qfs 9094988921128908188 4621256167635550208) (by decide+kernel) (qrf (a':=9094988921128908188) (b:=4621256167635550208) (by decide) (by decide) h);refine Nat.le_trans (Nat.mul_le_mul_right _ h1) ?_;have e1:mg (qfs 9094988921128908188 4621256167635550208)=7565482232153168:=by decide+kernel
 have e2:sh (qfs 9094988921128908188 4621256167635550208)=2021:=by decide+kernel
 have e3:mg 4621819117588971520=5629499534213120:=by decide
 have e4:sh 4621819117588971520=1025:=by decide
 have e5:mg 9094988921128908188=6724873095247260:=by decide
 have e6:sh 9094988921128908188=2018:=by decide
 have:=qou (m1:=7565482232153168) (m2:=5629499534213120*6724873095247260) (a:=52) (b:=0) (c:=sh (qfs 9094988921128908188 4621256167635550208)+u) (d:=sh 4621819117588971520+sh 9094988921128908188) (by decide+kernel) (by omega);unfold V;rw [e1,e3,e5];rw [Nat.pow_add,←Nat.mul_assoc,Nat.pow_add,Nat.mul_assoc 5629499534213120,Nat.mul_left_comm 6724873095247260,←Nat.mul_assoc 5629499534213120]at this;exact this
theorem q5i {a:Nat}(h:a<=9094988921128908188):qht a 4611686018427387904<=a:=qmp (by omega) (by decide) (by decide)
end Go.Flt
namespace Go.Proofs.P16
open Go.RowKit Go.Ink Go.Flt
attribute [local go_sem] Oper.semAt_some
def qgg (sizes:List qai)(pred:ByteArray):qai:=(sizes.find? fun s=>decide (s.pred=pred)).getD ⟨⟨#[]⟩,0,[]⟩
def qft (z:qai)(n:Nat)(c:Int):Nat:=if c<z.dist.length/\0<z.dist.getD c.toNat 0 then qht n (qgf (z.dist.getD c.toNat 0)) else n
def qcy (ahead:Nat)(L:LitD)(bound:List Int)(sizes:List qai):Nat:=
 if L.kind=2 then qht ahead 4611686018427387904 else if L.kind=3 then qpd ahead
 else bound.foldl (qft (qgg sizes L.atom.pred)) (cap (qfs ahead (qgf (qgg sizes L.atom.pred).rows)))
def qxs (z:qai):Prop:=0<=z.rows/\z.rows<=2147483647/\ ∀c,c∈z.dist->0<=c/\c<=2147483647
theorem qxt {l:List qai}(h:qbu l=true): ∀z,z∈l->qxs z:=by
 intro z hz;unfold qbu at h;rw [Bool.not_eq_true',any_eq_false]at h;have:=h z hz;unfold qhz at this;rw [Bool.not_eq_true,Bool.or_eq_false_iff,any_eq_false]at this;obtain⟨h1,h2⟩:=this;unfold qhi at h1;rw [Bool.or_eq_false_iff,decide_eq_false_iff_not,decide_eq_false_iff_not]at h1;refine⟨by omega,by omega,fun c hc=>?_⟩;have:=h2 c hc;unfold qhi at this;rw [Bool.not_eq_true,Bool.or_eq_false_iff,decide_eq_false_iff_not,decide_eq_false_iff_not]at this;omega
theorem qta {l:List qai}(h:qbu l=true)(pred:ByteArray):qxs (qgg l pred):=by
 unfold qgg;cases hf:l.find? fun s=>decide (s.pred=pred) with
 |none=>exact⟨by decide,by decide,by simp⟩
 |some z=>exact qxt h z (mem_of_find?_eq_some hf)
theorem q5j {z:qai}(hz:qxs z){n:Nat}(hn:n<=9094988921128908188)(c:Int):qft z n c<=9094988921128908188:=by
 unfold qft;split
 ·rename_i h;obtain⟨h1,h2⟩:=h;have hm:z.dist.getD c.toNat 0∈z.dist:=by
   by_cases hl:c.toNat<z.dist.length
   ·rw [getD_eq_getElem?_getD,getElem?_eq_getElem hl];exact getElem_mem hl
   ·rw [getD_eq_getElem?_getD,getElem?_eq_none (by omega)]at h2;simp at h2
  have h3:=hz.2.2 _ hm;exact Nat.le_trans (qmp (by omega) (qmo (by omega) (by omega)) (qrg (by omega))) hn
 ·exact hn
theorem qof {z:qai}(hz:qxs z)(l:List Int){n:Nat}(hn:n<=9094988921128908188):l.foldl (qft z) n<=9094988921128908188:=by
 induction l generalizing n with
 |nil=>exact hn
 |cons c r ih=>exact ih (q5j hz hn c)
theorem qmq {a:Nat}(ha:a<=9094988921128908188)(L:LitD)(b:List Int){l:List qai}(hl:qbu l=true):qcy a L b l<=9094988921128908188:=by
 unfold qcy;split
 ·exact Nat.le_trans (q5i ha) ha
 ·split
  ·exact qzx ha
  ·exact qof (qta hl _) _ (qzw _)
theorem qpe (z:qai)(n:Nat)(l:List Int){k:Nat}{c:Int}(h:l[k]?=some c):(l.take (k+1)).foldl (qft z) n=qft z ((l.take k).foldl (qft z) n) c:=by
 rw [take_add_one,h,foldl_append]
 rfl
theorem qnz (ts:Array TypeId)(t:TypeId){x:Nat}(hx:x<=9218868437227405312)(w:World):(Builtin.min_ ts t #[.float .f64 x,.float .f64 9094988921128908188]).run prog w=.ok (.float .f64 (cap x)) w:=by
 have ho:FloatKind.f64.format.order x 9094988921128908188=some (compare x 9094988921128908188):=qzv hx;have e:compare x 9094988921128908188=if x<9094988921128908188 then .lt else if x=9094988921128908188 then .eq else .gt:=rfl
 simp only [Builtin.min_,Builtin.min2,foldlM_cons,foldlM_nil,ho,e];unfold cap;rcases Nat.lt_trichotomy x 9094988921128908188 with h |h |h
 ·rw [if_pos h,if_pos (show x<=9094988921128908188 by omega)];simp [Sem.run_bind,Sem.run_pure,Result.andThen]
 ·rw [if_neg (show ¬x<9094988921128908188 by omega),if_pos h,if_pos (show x<=9094988921128908188 by omega)];subst h;simp [Sem.run_bind,Sem.run_pure,Result.andThen]
 ·rw [if_neg (show ¬x<9094988921128908188 by omega),if_neg (show ¬x=9094988921128908188 by omega),if_neg (show ¬x<=9094988921128908188 by omega)];simp [Sem.run_bind,Sem.run_pure,Result.andThen]
theorem q3b (n:Int)(w:World):(convert 3 238 (.int .i64 n)).run prog w=.ok (.float .f64 (qgf n)) w:=run_convert_int_float (P:=prog) w 3 238 .i64 .f64 n (by kernel_rfl) (by kernel_rfl)
theorem qtb {a b:Nat}(ha:a<9218868437227405312)(hb:b<9218868437227405312)(w:World):(binOp .mul 238 (.float .f64 a) (.float .f64 b)).run prog w=.ok (.float .f64 (qfs a b)) w:=run_float_arith w .mul _ .f64 a b _ (q6s ha hb)
theorem qog {a b:Nat}(ha:a<9218868437227405312)(hb:b<9218868437227405312)(h0:0<b)(w:World):(binOp .quo 238 (.float .f64 a) (.float .f64 b)).run prog w=.ok (.float .f64 (qht a b)) w:=run_float_arith w .quo _ .f64 a b _ (q6t ha hb h0)
set_option maxRecDepth 100000 in
theorem qvm (b a:Nat)(ha:a<=9094988921128908188)(w:World)(h:w.cell? ⟨b,0,none⟩=some (.float .f64 a)):Calls prog 176 #[.pointer (some ⟨b,0,none⟩)] w fun e w'=>e=.returned (.float .f64 (qht a 4611686018427387904))/\w'=w:=by
 have hd:=fun w=>qog (a:=a) (b:=4611686018427387904) (by omega) (by decide) (by decide) w;have hb:=World.block_lt_of_cell? w _ h;clear ha
 go_enter Tryz.func176,Tryz.ntmps176
 go_wp2_with fail;go_ret;exact⟨rfl,rfl⟩
set_option maxRecDepth 100000 in
theorem qvn (b a:Nat)(ha:a<=9094988921128908188)(w:World)(h:w.cell? ⟨b,0,none⟩=some (.float .f64 a)):Calls prog 177 #[.pointer (some ⟨b,0,none⟩)] w fun e w'=>e=.returned (.float .f64 (qpd a))/\w'=w:=by
 have hm:=fun w=>qtb (a:=a) (b:=4621256167635550208) (by omega) (by decide) w;have hd:=fun w=>qog (a:=qfs a 4621256167635550208) (b:=4621819117588971520) (qs9 ha) (by decide) (by decide) w;have hb:=World.block_lt_of_cell? w _ h;clear ha
 go_enter Tryz.func177,Tryz.ntmps177
 go_wp2_with fail;go_ret;exact⟨rfl,rfl⟩
set_option maxRecDepth 100000 in
theorem qtc (b:Nat)(s:qai)(sv:Value)(pred:ByteArray)(n:Nat)(w:World)(hs:qap n w sv s.dist)(h:w.cell? ⟨b,1,none⟩=some (.string pred)):Calls prog 175 #[qlq s sv,.pointer (some ⟨b,0,none⟩)] w fun e w'=>e=.returned (.bool (decide (s.pred=pred)))/\Keep (fun b=>b<w.heap.size) w w':=by
 obtain⟨p,rows,dist⟩:=s;obtain⟨a,c,rfl,-,-,-⟩:=hs;unfold qlq;simp only;have hb:=World.block_lt_of_cell? w _ h;by_cases he:p=pred
 ·have hE:decide (p=pred)=true:=decide_eq_true he;have hbb:=qhx he;clear he;refine hd1 ?_ hE;clear hE;intro XhE
  go_enter Tryz.func175,Tryz.ntmps175
  go_wp2_with fail;go_ret;exact⟨by rw [XhE.o];first |rfl |simp [hbb],kAl⟩
 ·have hE:decide (p=pred)=false:=decide_eq_false he;have hbb:=qf9 he;clear he;refine hd1 ?_ hE;clear hE;intro XhE
  go_enter Tryz.func175,Tryz.ntmps175
  go_wp2_with fail;go_ret;exact⟨by rw [XhE.o];first |rfl |simp [hbb],kAl⟩
theorem qzy {l:List qai}{pred:ByteArray}(h:qb4 (fun s:qai=>decide (s.pred=pred)) l<0):qgg l pred=⟨⟨#[]⟩,0,[]⟩:=by
 have h2:=qfp (fun s:qai=>decide (s.pred=pred)) l;rw [decide_eq_false (by omega)]at h2;unfold qgg;rw [find?_eq_none.2 (fun s hs=>by have:=any_eq_false.1 h2.symm s hs;exact this)]
 rfl
theorem qzz {l:List qai}{pred:ByteArray}(h: ¬qb4 (fun s:qai=>decide (s.pred=pred)) l<0): ∃k:Nat,qb4 (fun s:qai=>decide (s.pred=pred)) l=(k:Int)/\k<l.length/\l[k]?=some (qgg l pred):=by
 induction l with
 |nil=>simp [qb4] at h
 |cons s r ih=>
  have e:qb4 (fun s:qai=>decide (s.pred=pred)) (s::r)=if decide (s.pred=pred)=true then 0 else (if qb4 (fun s:qai=>decide (s.pred=pred)) r<0 then-1 else qb4 (fun s:qai=>decide (s.pred=pred)) r+1):=rfl
  rw [e]at h⊢;by_cases hp:decide (s.pred=pred)=true
  ·rw [if_pos hp];refine⟨0,rfl,by simp,?_⟩;unfold qgg;rw [find?_cons,hp]
   rfl
  ·rw [if_neg hp]at h⊢;by_cases hr:qb4 (fun s:qai=>decide (s.pred=pred)) r<0
   ·rw [if_pos hr]at h;omega
   ·rw [if_neg hr];obtain⟨k,h1,h2,h3⟩:=ih hr;refine⟨k+1,by rw [h1];rfl,by simp;omega,?_⟩;rw [getElem?_cons_succ,h3];unfold qgg;rw [Bool.not_eq_true]at hp;rw [find?_cons,hp]
set_option maxRecDepth 100000 in
set_option maxHeartbeats 1000000 in
theorem qvo (n b7 b5 b4 b6:Nat)(a:Nat)(ha:a<=9094988921128908188)(sizes:List qai)(sv:Value)(pred:ByteArray)(bound:List Int)(bv:Value)(hu:qbu sizes=true)(hpos: ∀c,c∈bound->0<=c)(w:World)
  (hs:SizesIn n w sv sizes) (hb:qap n w bv bound) (hn:n<=w.heap.size)
  (c7:w.cell? ⟨b7,0,none⟩=some sv) (c5:w.cell? ⟨b5,1,none⟩=some (.string pred)) (c4:w.cell? ⟨b4,0,none⟩=some (.float .f64 a)) (c6:w.cell? ⟨b6,1,none⟩=some bv):
  Calls prog 173 #[.pointer (some ⟨b7,0,none⟩),.pointer (some ⟨b5,0,none⟩),.pointer (some ⟨b4,0,none⟩),.pointer (some ⟨b6,0,none⟩)] w
   fun e w'=>e=.returned (.float .f64 (bound.foldl (qft (qgg sizes pred)) (cap (qfs a (qgf (qgg sizes pred).rows)))))/\Keep (fun b=>b<w.heap.size) w w':=by
 have l7:=World.block_lt_of_cell? w _ c7;have l5:=World.block_lt_of_cell? w _ c5;have l4:=World.block_lt_of_cell? w _ c4;have l6:=World.block_lt_of_cell? w _ c6;simp only at l7 l5 l4 l6;obtain⟨W0,hW0⟩:=ex (w.alloc (.cells #[.string ⟨#[]⟩,.int .i64 0,.slice none 0 0] 204));have k0:Keep (fun _=>True) w W0:=by rw [←hW0];exact kAl
 have z0:W0.heap.size=w.heap.size+1:=by rw [←hW0];simp
 have hix:=qm6 (gf:=175) (bs:= #[]) (lb:= #[.pointer (some ⟨b5,0,none⟩)]) (qc6 Tryz.func175 (by kernel_rfl) rfl) (fun s:qai=>decide (s.pred=pred)) n sv sizes W0 (hs.keep (k0.mono fun _ _ _=>trivial)) (by omega)
  (fun x _ W2 hK sv2 hsv2=>qtc b5 x sv2 pred n W2 hsv2 (hK.cell (k0.cell c5 trivial) (show b5<W0.heap.size by omega)))
 have hz:=qta hu pred;have hnone:= @qzy sizes pred;have hsome:= @qzz sizes pred;obtain⟨z,hze⟩:=ex (qgg sizes pred);rw [hze]at hz hnone hsome;rw [hze];obtain⟨ix,hixe⟩: ∃i,qb4 (fun s:qai=>decide (s.pred=pred)) sizes=i:=⟨_,rfl⟩;rw [hixe]at hix hnone hsome;have hmin:=fun x (hx:x<=9218868437227405312) w=>qnz #[238,238] 238 hx w;have hconv:=fun n w=>q3b n w;have hr:=qmo hz.1 hz.2.1;have hmul:=fun w=>qtb (a:=a) (b:=qgf z.rows) (by omega) hr w;have hm:=q3a (a:=a) (b:=qgf z.rows) (by omega) hr;have hmn:=fun w=>qnz #[238,238] 238 hm w;obtain⟨a7,cp7,rfl,hl7,hc7,he7⟩:=id hs;obtain⟨ab,cpb,rfl,hlb,hcb,heb⟩:=id hb;have bx:=qh w (.cells #[.string ⟨#[]⟩,.int .i64 0,.slice none 0 0] 204);rw [hW0]at bx;obtain⟨X,hX⟩:=ex (w.heap.size);rw [hX]at bx z0 l7 l5 l4 l6 hn;clear hs hb;have l7':b7<w.heap.size:=by omega
 have l5':b5<w.heap.size:=by omega
 have l4':b4<w.heap.size:=by omega
 have l6':b6<w.heap.size:=by omega
 refine qoh ?_ hix hnone hsome he7 heb hze hixe hz hpos hW0 bx k0 hX;clear hix hnone hsome he7 heb hze hixe hz hpos hW0 bx k0 hX;intro Xhix Xhnone Xhsome Xhe7 Xheb Xhze Xhixe Xhz Xhpos XhW0 Xbx Xk0 XhX
 go_enter Tryz.func173,Tryz.ntmps173
 go_wp2_with fail;rw [XhW0.o,XhX.o];refine Xhix.o.mono ?_;rintro e W1 ⟨rfl,k1⟩;have hz1:=k1.size;have kw1:Keep (fun _=>True) w W0:=Xk0.o;have bx1:=k1.heap Xbx.o (by omega);have kk:Keep (fun b=>b<X) w W1:=(Xk0.o.mono fun _ _ _=>trivial).trans (k1.mono fun b hb h=>by omega);have f7:=kk.cell c7 l7;have f4:=kk.cell c4 l4;have f6:=kk.cell c6 l6;have x0:=qb bx1 0 _ rfl;have x1:=qb bx1 1 _ rfl;have x2:=qb bx1 2 _ rfl;have y0:=qf bx1 0;have y1:=qf bx1 1;have y2:=qf bx1 2;simp only [Nat.zero_add]at x0 x1 x2;have hXl:X<W1.heap.size:=by omega
 have hb7l:b7<W1.heap.size:=by omega
 have hb4l:b4<W1.heap.size:=by omega
 have hb6l:b6<W1.heap.size:=by omega
 clear c7 c5 c4 c6 k1 kw1;obtain⟨s0,hs0⟩:=ex (cap (qfs a (qgf z.rows)));have hs0c:s0<=9094988921128908188:=by rw [←hs0];exact qzw _
 simp only [hs0]at hmn⊢;have fin: ∀(W:World),True:=fun _=>trivial;clear fin hmin;by_cases hneg:ix<0
 ·have hzn:=Xhnone.o hneg;have hge: ¬ix≥0:=by omega
  have hrow:z.rows=0:=by rw [hzn]
  have hdist:z.dist= []:=by rw [hzn]
  rw [hrow]at hmul hmn;have bx2:W1.heap[X]?=some (.cells #[.string z.pred,.int .i64 z.rows,.slice none z.dist.length 0] 204 (0,0)):=by rw [bx1,hzn];rfl
  have hez: ∀(k:Nat) (x:Int),z.dist[k]?=some x-> ∃b off,(none:Option Addr)=some ⟨b,off,none⟩/\b<n/\qfr w b (off+k*1) x:=fun k x h=>by rw [hdist] at h;simp at h
  clear hzn;refine hd7 ?_ bx1 bx2 kk hrow hdist hez hs0;clear bx1 bx2 kk hrow hdist hez hs0;intro Xbx1 Xbx2 Xkk Xhrow Xhdist Xhez Xhs0;go_wp2_with fail;refine qky (fun W=>Keep (fun b=>b<X) w W/\W.heap[X]?=some (.cells #[.string z.pred,.int .i64 z.rows,.slice none z.dist.length 0] 204 (0,0))) ⟨Xkk.o,Xbx2.o⟩ ?_;clear x0 x1 x2 y0 y1 y2 f7 f4 f6 hXl hb7l hb4l hb6l;rintro W2 ⟨kk2,bx3⟩;have hz2:X<W2.heap.size:=qe bx3;have hww:w.heap.size=X:=XhX.o;have x2:=qb bx3 2 _ rfl;simp only [Nat.zero_add]at x2;clear hww bx3;refine hd1 ?_ kk2;clear kk2;intro Xkk2
  go_loopw [7,28] (fun x7 i' wr=> ∃k:Nat,k<=bound.length/\i'=.int .i64 (k:Int)/\x7=.float .f64 ((bound.take k).foldl (qft z) s0)/\wr=W2) (fun _ i _=>bound.length-(intOf i).toNat)
  case atStart=>exact⟨0,by omega,rfl,rfl,rfl⟩
  case round=>
   obtain⟨k,hk,rfl,rfl,hw⟩:=hrel;have hw:=hw.symm;subst hw;by_cases hlt:k<bound.length
   ·have hlt1:(k:Int)<bound.length:=by omega
    have hk0:(0:Int)<=k:=by omega
    obtain⟨c,hc⟩: ∃x,bound[k]?=some x:=⟨_,getElem?_eq_getElem hlt⟩;obtain⟨b9,o9,rfl,hb9,q0⟩:=Xheb.o k c hc;unfold qfr at q0;simp only [Nat.mul_one]at q0;have f0:=Xkk2.o.cell q0 (show b9<X by omega);have hb9w:b9<W2.heap.size:=by omega
    have hts:=qpe z s0 bound hc;have hc0:=Xhpos.o c (mem_of_getElem? hc);have hle:=qof Xhz.o (bound.take k) hs0c;obtain⟨v,hv⟩:=ex ((bound.take k).foldl (qft z) s0);rw [hv]at hle hts⊢;clear q0 hc hv;by_cases hcl:c<z.dist.length
    ·obtain⟨d,hd⟩: ∃d,z.dist[c.toNat]?=some d:=⟨_,getElem?_eq_getElem (by omega)⟩;obtain⟨b10,o10,hzd,hb10,r0⟩:=Xhez.o c.toNat d hd;cases hzd
    ·have ht1:qft z v c=v:=by
      unfold qft;exact if_neg (fun h=>hcl h.1)
     rw [ht1]at hts;clear ht1;refine hd1 ?_ hts;clear hts;intro Xhts;go_wp2_with fail;go_roundw
     case rel=>exact⟨k+1,by omega,by go_num,by rw [Xhts.o],by trivial⟩
     case measure=>simp [intOf];omega
   ·obtain rfl:k=bound.length:=by omega
    rw [take_length];go_wp2_with fail;go_ret;have hww:w.heap.size=X:=XhX.o;exact⟨by rw [Xhs0.o];rfl,Xkk2.o.mono fun b _ h=>by omega⟩
 ·obtain⟨j,hj1,hj2,hj3⟩:=Xhsome.o (by omega);subst hj1;have hge:(j:Int)≥0:=by omega
  have hj4:(j:Int)<sizes.length:=by omega
  obtain⟨b8,o8,rfl,hb8,zv,hcl,hzi⟩:=Xhe7.o j z hj3;obtain⟨zd,zc,rfl,hzl,hzc,hez⟩:=hzi;have g: ∀i v,[Value.string z.pred,.int .i64 z.rows,.slice zd z.dist.length zc][i]?=some v->W1.cell? ⟨b8,o8+j*3+i,none⟩=some v:=fun i v h=>kk.cell (hcl i v h) (show b8<X by omega);have d0:=g 0 _ rfl;have d1:=g 1 _ rfl;have d2:=g 2 _ rfl;simp only [Nat.add_zero]at d0;have hb8l:b8<W1.heap.size:=by omega
  clear g hcl hj3;refine hd4 ?_ bx1 kk hez hs0;clear bx1 kk hez hs0;intro Xbx1 Xkk Xhez Xhs0;go_wp2_with fail;refine qky (fun W=>Keep (fun b=>b<X) w W/\W.heap[X]?=some (.cells #[.string z.pred,.int .i64 z.rows,.slice zd z.dist.length zc] 204 (0,0))) ⟨Xkk.o.trans (((kSc).trans (kSc)).trans (kSc)),by
   have h1:=q8 0 (.string z.pred) Xbx1.o;have h2:=q8 1 (.int .i64 z.rows) h1;have h3:=q8 2 (.slice zd z.dist.length zc) h2;exact h3⟩ ?_
  clear x0 x1 x2 y0 y1 y2 f7 f4 f6 hXl hb7l hb4l hb6l d0 d1 d2 hb8l;rintro W2 ⟨kk2,bx3⟩;have hz2:X<W2.heap.size:=qe bx3;have hww:w.heap.size=X:=XhX.o;have x2:=qb bx3 2 _ rfl;simp only [Nat.zero_add]at x2;clear hww bx3;refine hd1 ?_ kk2;clear kk2;intro Xkk2
  go_loopw [7,28] (fun x7 i' wr=> ∃k:Nat,k<=bound.length/\i'=.int .i64 (k:Int)/\x7=.float .f64 ((bound.take k).foldl (qft z) s0)/\wr=W2) (fun _ i _=>bound.length-(intOf i).toNat)
  case atStart=>exact⟨0,by omega,rfl,rfl,rfl⟩
  case round=>
   obtain⟨k,hk,rfl,rfl,hw⟩:=hrel;have hw:=hw.symm;subst hw;by_cases hlt:k<bound.length
   ·have hlt1:(k:Int)<bound.length:=by omega
    have hk0:(0:Int)<=k:=by omega
    obtain⟨c,hc⟩: ∃x,bound[k]?=some x:=⟨_,getElem?_eq_getElem hlt⟩;obtain⟨b9,o9,rfl,hb9,q0⟩:=Xheb.o k c hc;unfold qfr at q0;simp only [Nat.mul_one]at q0;have f0:=Xkk2.o.cell q0 (show b9<X by omega);have hb9w:b9<W2.heap.size:=by omega
    have hts:=qpe z s0 bound hc;have hc0:=Xhpos.o c (mem_of_getElem? hc);have hle:=qof Xhz.o (bound.take k) hs0c;obtain⟨v,hv⟩:=ex ((bound.take k).foldl (qft z) s0);rw [hv]at hle hts⊢;clear q0 hc hv;by_cases hcl:c<z.dist.length
    ·obtain⟨d,hd⟩: ∃d,z.dist[c.toNat]?=some d:=⟨_,getElem?_eq_getElem (by omega)⟩;obtain⟨b10,o10,hzd,hb10,r0⟩:=Xhez.o c.toNat d hd;subst hzd;unfold qfr at r0;simp only [Nat.mul_one]at r0;have f1:=Xkk2.o.cell r0 (show b10<X by omega);have hb10w:b10<W2.heap.size:=by omega
     have hgd:z.dist.getD c.toNat 0=d:=by rw [getD_eq_getElem?_getD,hd];rfl
     have hfd:=Xhz.o.2.2 d (mem_of_getElem? hd);have ht1:qft z v c=if 0<d then qht v (qgf d) else v:=by
      unfold qft;rw [hgd];by_cases h:0<d
      ·rw [if_pos ⟨hcl,h⟩,if_pos h]
      ·rw [if_neg (fun x=>h x.2),if_neg h]
     rw [ht1]at hts;clear hd hgd r0 ht1;by_cases hd0:0<d
     ·rw [if_pos hd0]at hts;have hdiv:=fun w=>qog (a:=v) (b:=qgf d) (by omega) (qmo (by omega) (by omega)) (by have:=qrg (n:=d) (by omega);omega) w;refine hd1 ?_ hts;clear hts;intro Xhts;go_wp2_with fail;go_roundw
      case rel=>exact⟨k+1,by omega,by go_num,by rw [Xhts.o],by trivial⟩
      case measure=>simp [intOf];omega
     ·rw [if_neg hd0]at hts;refine hd1 ?_ hts;clear hts;intro Xhts;go_wp2_with fail;go_roundw
      case rel=>exact⟨k+1,by omega,by go_num,by rw [Xhts.o],by trivial⟩
      case measure=>simp [intOf];omega
    ·have ht1:qft z v c=v:=by
      unfold qft;exact if_neg (fun h=>hcl h.1)
     rw [ht1]at hts;clear ht1;refine hd1 ?_ hts;clear hts;intro Xhts;go_wp2_with fail;go_roundw
     case rel=>exact⟨k+1,by omega,by go_num,by rw [Xhts.o],by trivial⟩
     case measure=>simp [intOf];omega
   ·obtain rfl:k=bound.length:=by omega
    rw [take_length];go_wp2_with fail;go_ret;have hww:w.heap.size=X:=XhX.o;exact⟨by rw [Xhs0.o];rfl,Xkk2.o.mono fun b _ h=>by omega⟩
theorem q6v (f0 f1 f2:Fn)(c0 c1 c2:Array Value)(w:World):(Instr.index 257 (.agg #[.func f0 #[] c0,.func f1 #[] c1,.func f2 #[] c2]) (.int .i64 0)).run prog w=.ok (.func f0 #[] c0) w:=by kernel_rfl
theorem q6w (f0 f1 f2:Fn)(c0 c1 c2:Array Value)(w:World):(Instr.index 257 (.agg #[.func f0 #[] c0,.func f1 #[] c1,.func f2 #[] c2]) (.int .i64 1)).run prog w=.ok (.func f1 #[] c1) w:=by kernel_rfl
theorem q6x (f0 f1 f2:Fn)(c0 c1 c2:Array Value)(w:World):(Instr.index 257 (.agg #[.func f0 #[] c0,.func f1 #[] c1,.func f2 #[] c2]) (.int .i64 2)).run prog w=.ok (.func f2 #[] c2) w:=by kernel_rfl
set_option maxRecDepth 100000 in
theorem qpf (n:Nat)(a:Nat)(ha:a<=9094988921128908188)(L:LitD)(sa:Value)(s:qdd)(bv nv:Value)(sizes:List qai)(sv:Value)(hu:qbu sizes=true)(hpos: ∀c,c∈s.bound->0<=c)(hk:L.kind=1∨L.kind=2∨L.kind=3)(w:World)
  (hsa: ∃x m c,sa=.slice x m c) (hnv: ∃x m c,nv=.slice x m c) (hs:SizesIn n w sv sizes) (hb:qap n w bv s.bound) (hn:n<=w.heap.size):
  Calls prog 148 #[.float .f64 a,qfb L sa,qkh s bv nv,sv] w fun e w'=>e=.returned (.float .f64 (qcy a L s.bound sizes))/\Keep (fun b=>b<w.heap.size) w w':=by
 obtain⟨W0,hW0⟩:=ex ((((w.alloc (.cells #[.float .f64 a] 238)).alloc (.cells #[.int .i64 L.kind,.string L.atom.pred,sa,.bool L.left.var,.string L.left.text,.bool L.right.var,.string L.right.text] 64)).alloc (.cells #[.int .i64 s.lit,bv,nv] 211)).alloc (.cells #[sv] 202));have k0:Keep (fun _=>True) w W0:=by rw [←hW0];exact((kAl.trans kAl).trans kAl).trans kAl
 have z0:W0.heap.size=w.heap.size+1+1+1+1:=by rw [←hW0];simp
 have g1:W0.heap[w.heap.size]?=some (.cells #[.float .f64 a] 238 (0,0)):=by rw [←hW0];simp only [qah,World.size_alloc];rw [if_neg (by omega),if_neg (by omega),if_neg (by omega),if_pos trivial]
 have g2:W0.heap[w.heap.size+1]?=some (.cells #[.int .i64 L.kind,.string L.atom.pred,sa,.bool L.left.var,.string L.left.text,.bool L.right.var,.string L.right.text] 64 (0,0)):=by rw [←hW0];simp only [qah,World.size_alloc];simp
 have g3:W0.heap[w.heap.size+1+1]?=some (.cells #[.int .i64 s.lit,bv,nv] 211 (0,0)):=by rw [←hW0];simp only [qah,World.size_alloc];simp
 have g4:W0.heap[w.heap.size+1+1+1]?=some (.cells #[sv] 202 (0,0)):=by rw [←hW0];simp only [qah,World.size_alloc];simp
 have c4:=qb g1 0 _ rfl;have c5:=qb g2 1 _ rfl;have c6:=qb g3 1 _ rfl;have c7:=qb g4 0 _ rfl;simp only [Nat.zero_add]at c4 c5 c6 c7;have h1:=qvo n (w.heap.size+1+1+1) (w.heap.size+1) w.heap.size (w.heap.size+1+1) a ha sizes sv L.atom.pred s.bound bv hu hpos W0 (hs.keep (k0.mono fun _ _ _=>trivial)) (qit hb (k0.mono fun _ _ _=>trivial)) (by omega) c7 c5 c4 c6;have h2:=qvm w.heap.size a ha W0 c4;have h3:=qvn w.heap.size a ha W0 c4;have e1:L.kind=1->qcy a L s.bound sizes=s.bound.foldl (qft (qgg sizes L.atom.pred)) (cap (qfs a (qgf (qgg sizes L.atom.pred).rows))):=fun h=>by unfold qcy;rw [if_neg (by omega),if_neg (by omega)]
 have e2:L.kind=2->qcy a L s.bound sizes=qht a 4611686018427387904:=fun h=>by unfold qcy;rw [if_pos h]
 have e3:L.kind=3->qcy a L s.bound sizes=qpd a:=fun h=>by unfold qcy;rw [if_neg (by omega),if_pos h]
 obtain⟨asv,csv,rfl,-,-,-⟩:=id hs;obtain⟨abv,cbv,rfl,-,-,-⟩:=id hb;obtain⟨asa,msa,csa,rfl⟩:=hsa;obtain⟨anv,mnv,cnv,rfl⟩:=hnv;obtain⟨kd,⟨pr,args⟩,⟨lv,lt⟩,⟨rv,rt⟩⟩:=L;obtain⟨si,sb,sn⟩:=s;unfold qfb qkh;simp only at*;clear hs hb g1 g2 g3 g4 c4 c5 c6 c7 hpos;refine hd8 ?_ h1 h2 h3 e1 e2 e3 k0 hW0;clear h1 h2 h3 e1 e2 e3 k0 hW0;intro Xh1 Xh2 Xh3 Xe1 Xe2 Xe3 Xk0 XhW0;have t0:=fun f0 f1 f2 c0 c1 c2 w=>q6v f0 f1 f2 c0 c1 c2 w;have t1:=fun f0 f1 f2 c0 c1 c2 w=>q6w f0 f1 f2 c0 c1 c2 w;have t2:=fun f0 f1 f2 c0 c1 c2 w=>q6x f0 f1 f2 c0 c1 c2 w;rcases hk with rfl |rfl |rfl
 ·go_enter Tryz.func148,Tryz.ntmps148
  go_wp2_with fail;rw [XhW0.o];refine Xh1.o.mono ?_;rintro e W1 ⟨rfl,k1⟩;go_wp2_with fail;go_ret;exact⟨by rw [Xe1.o (by trivial)];rfl,(Xk0.o.mono fun _ _ _=>trivial).trans (k1.mono fun b hb _=>by omega)⟩
 ·go_enter Tryz.func148,Tryz.ntmps148
  go_wp2_with fail;rw [XhW0.o];refine Xh2.o.mono ?_;rintro e W1 ⟨rfl,hw1⟩;subst hw1;go_wp2_with fail;go_ret;exact⟨by rw [Xe2.o (by trivial)];rfl,Xk0.o.mono fun _ _ _=>trivial⟩
 ·go_enter Tryz.func148,Tryz.ntmps148
  go_wp2_with fail;rw [XhW0.o];refine Xh3.o.mono ?_;rintro e W1 ⟨rfl,hw1⟩;subst hw1;go_wp2_with fail;go_ret;exact⟨by rw [Xe3.o (by trivial)];rfl,Xk0.o.mono fun _ _ _=>trivial⟩
end Go.Proofs.P16
