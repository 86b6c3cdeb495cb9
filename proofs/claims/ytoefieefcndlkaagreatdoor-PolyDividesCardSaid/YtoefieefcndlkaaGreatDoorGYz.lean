/- What the rows' lists give at the seat of the Poly laws: the table of powers of ten. The reference's polynomials: one number appended to an own row; sums. The laws of PolyRing, of lists of numbers (plain). Polynomials as functions of a number: two with the same values are one; degrees; divisors. The reference's polynomials: multiples, differences, derivatives. Printed by gen_kd.py. -/
import Derived.Test.YtoefieefcndlkaaGreatDoorGYy
import Derived.Test.YtoefieefcndlkaaGreatDoorGTe
import Derived.Test.YtoefieefcndlkaaGreatDoorCards
import Derived.Test.YtoefieefcndlkaaGreatDoorTie
import Derived.WalkKit
import Derived.ProofKit
import Derived.OpenShut
import Derived.MakeChecks
import Derived.Lay
import Derived.Deep.DeepHandedRow
import Derived.Lib.LaidU8
import Derived.Test.YtoefieefcndlkaaGreatDoorGYu
import Derived.Test.YtoefieefcndlkaaGreatDoorGYh
import Derived.Test.YtoefieefcndlkaaGreatDoorGRn
set_option linter.unusedVariables false
set_option maxRecDepth 100000
set_option maxHeartbeats 64000000
namespace Go.Proofs.YtoefieefcndlkaaGreatDoor
open Go.ChangeShapes Go.WideShapes Go.ChangeAt Go.RowKit
theorem tensP {W:World} (h:Lib.VarReads Tryz.prog W "internal/strconv.uint64pow10" Rows.laid_internal_strconv_uint64pow10):Tens W:=by
 obtain⟨g,t,cs,fuel,p,hg,ht,hv,hd⟩:=h;have hg':Tryz.prog.globalNamed "internal/strconv.uint64pow10"=some 3:=by kernel_rfl
 obtain rfl:=Option.some.inj (hg'.symm.trans hg);have ht':(Tryz.prog.globals[(3:Nat)]?).map (·.type)=some 216:=by kernel_rfl
 obtain rfl:=Option.some.inj (ht'.symm.trans ht);have e:(Rows.laid_internal_strconv_uint64pow10:DataW Unit)=Lib.tabData .u64 Lib.pow10Tab:=by kernel_rfl
 rw [e] at hd;unfold Tens Lib.TabIs;rw [hv,←Lib.cells_of_tab Tryz.underlying216 Tryz.underlying97 (by kernel_rfl) (by kernel_rfl) hd]
theorem tensP_of {W:World} {l:List (String × DataW Unit)} (h:laidMetH Tryz.prog l W) (hp:(l.all fun x=>x.2.handleName?.isNone)=true) (h1:("internal/strconv.uint64pow10",Rows.laid_internal_strconv_uint64pow10) ∈ l):Tens W:=by
 rw [MakeChecks.laidMetH_plain _ _ _ hp] at h;exact tensP (Lib.laidMet.reads h h1)
end Go.Proofs.YtoefieefcndlkaaGreatDoor
set_option linter.unusedVariables false
set_option maxRecDepth 100000
set_option maxHeartbeats 64000000
namespace Go.Proofs.YtoefieefcndlkaaGreatDoor
open Go Go.RowKit
set_option linter.unusedSimpArgs false
theorem OwnQ.app {w0 W:World} {u:Value} {l:List Rat} {g:Nat} {s:Int} {A C:Option Addr} {k ca m cb:Nat} {q:Rat} (h:OwnQ W w0.heap.size u l) (e:Ext w0 W) (hl:l.length≤1000000) (hr:W.heap[g]?=some (.cells #[.int .i64 s,.slice A k ca,.slice C m cb] 75 (0,0))) (hq:Nr W (.agg #[.int .i64 s,.slice A k ca,.slice C m cb]) q) (hb:BlN (fun b=>u.ownBlock≠some b) (.agg #[.int .i64 s,.slice A k ca,.slice C m cb])) (ty:TypeId) (c:Nat):∃v' W',(Builtin.append_ #[26,26] ty #[u,.slice (some ⟨g,0,none⟩) 1 c]).run Tryz.prog W=.ok v' W'∧OwnQ W' w0.heap.size v' (l ++ [q])∧Ext w0 W':=by
 obtain⟨xs,hown,hx⟩:=h;obtain⟨y0,y1,y2,-⟩:=ai hr;obtain⟨v',W',h1,h2,h3,h4⟩:=run_appendG2 elRf (C:=fun _=>True) (fun _ _=>trivial) W w0.heap.size ty u l.length xs hown ⟨g,0,none⟩ 1 c [.int .i64 s,.slice A k ca,.slice C m cb] rfl
  (fun j x hj=>by
   rw [Addr.add_mid,Nat.zero_add]
   match j,hj with
   | 0,hj=>obtain rfl:=Option.some.inj hj;exact y0
   | 1,hj=>obtain rfl:=Option.some.inj hj;exact y1
   | 2,hj=>obtain rfl:=Option.some.inj hj;exact y2)
  (by intro x hx;simp at hx;rcases hx with rfl|rfl|rfl <;> rfl) (fun _ _=>trivial) (by decide) (by omega) (by unfold maxLen;omega) e.size
 exact⟨v',W',h1,OwnQ.snoc hown hx hq hb h3 h4 h2,ext_grownG e hown h3⟩
theorem OwnQ.off {w0 W:World} {u v:Value} {l:List Rat} {q:Rat} (h:OwnQ W w0.heap.size u l) (hn:Nr w0 v q):BlN (fun b=>u.ownBlock≠some b) v:=by
 obtain⟨xs,hown,-⟩:=h;exact hn.old.imp (fun b hb e=>by have:=(hown.lt b e).1;omega)
theorem OwnQ.off_new {w0 W W':World} {u:Value} {l:List Rat} (h:OwnQ W w0.heap.size u l) (k:Ext W W'):∀b,W'.heap.size≤b→u.ownBlock≠some b:=by
 obtain⟨xs,hown,-⟩:=h;exact fun b hb e=>by have h1:=(hown.lt b e).2;have h2:=k.size;omega
theorem take_co {l:List Rat} {j:Nat} (h:j<l.length):l.take (j+1)=l.take j ++ [co l j]:=by
 rw [List.take_add_one,List.getElem?_eq_getElem h];unfold co;rw [List.getElem?_eq_getElem h];rfl
end Go.Proofs.YtoefieefcndlkaaGreatDoor
set_option linter.unusedVariables false
set_option maxRecDepth 100000
set_option maxHeartbeats 64000000
namespace Go.Proofs.YtoefieefcndlkaaGreatDoor
theorem co_mulF (p q:List Rat):co (mulF p q)=cnv (co p) (co q):=by
 funext i
 unfold mulF;rw [co_trim,co_mulR]
theorem co_addF (p q:List Rat):co (addF p q)=fun k=>co p k+co q k:=by
 funext i
 unfold addF;rw [co_trim,co_zip]
theorem deriv_mul (p q:List Rat):derivF (mulF p q)=addF (mulF (derivF p) q) (mulF p (derivF q)):=by
 show trimF (derU (mulF p q) (mulF p q).length)=trimF (zipA (mulF (derivF p) q) (mulF p (derivF q)))
 refine trim_co fun i=>?_;have h:=co_deriv (mulF p q) i;unfold derivF at h;rw [co_trim] at h;rw [h,co_zip,co_mulF,co_mulF,co_mulF,cnv_deriv];rw [show co (derivF p)=dco (co p) from funext (co_deriv p),show co (derivF q)=dco (co q) from funext (co_deriv q)]
theorem cnv_high (g:Nat→Rat) (j:Nat) (hg:∀k,j<k→g k=0):∀(i:Nat) (f:Nat→Rat) (n:Nat),(∀k,i<k→f k=0)→i+j<n→cnv f g n=0:=by
 intro i
 induction i with
 | zero=>
  intro f n hf hn;obtain⟨m,rfl⟩:∃m,n=m+1:=⟨n - 1,by omega⟩;rw [cnv_succ,hg _ (by omega),show (fun k=>f (k+1))=fun _=>0 from funext fun k=>hf _ (by omega),cnv_zero_l]
  grind
 | succ i ih=>
  intro f n hf hn;obtain⟨m,rfl⟩:∃m,n=m+1:=⟨n - 1,by omega⟩;rw [cnv_succ,hg _ (by omega),ih (fun k=>f (k+1)) m (fun k hk=>hf _ (by omega)) (by omega)]
  grind
theorem cnv_top (g:Nat→Rat) (j:Nat) (hg:∀k,j<k→g k=0):∀(i:Nat) (f:Nat→Rat),(∀k,i<k→f k=0)→cnv f g (i+j)=f i*g j:=by
 intro i
 induction i with
 | zero=>
  intro f hf;rw [Nat.zero_add]
  cases j with
  | zero=>rfl
  | succ j=>
   rw [cnv_succ,show (fun k=>f (k+1))=fun _=>0 from funext fun k=>hf _ (by omega),cnv_zero_l]
   grind
 | succ i ih=>
  intro f hf;rw [show i+1+j=(i+j)+1 by omega,cnv_succ,hg _ (by omega),ih (fun k=>f (k+1)) (fun k hk=>hf _ (by omega))]
  grind
theorem len_of {p:List Rat} {n:Nat} (h0:co p n≠0) (h:∀k,n<k→co p k=0):(trimF p).length=n+1:=by
 have h1:n<(trimF p).length:=by
  rcases Nat.lt_or_ge n (trimF p).length with h1|h1
  ·exact h1
  ·exact absurd ((co_trim p n).symm.trans (co_ge h1)) h0
 have h2:trimF p≠[]:=fun e=>by rw [e] at h1;cases h1
 have h3:=trim_last h2
 rcases Nat.lt_or_ge n ((trimF p).length - 1) with h4|h4
 ·exact absurd (h _ h4) h3
 ·omega
theorem deg_mul {p q:List Rat} {i j:Nat} (hp:(trimF p).length=i+1) (hq:(trimF q).length=j+1):(trimF (mulF p q)).length=i+j+1:=by
 have h1:∀(l:List Rat) (n:Nat),(trimF l).length=n+1→co l n≠0∧∀k,n<k→co l k=0:=fun l n hl=>by
  have h2:trimF l≠[]:=fun e=>by rw [e] at hl;cases hl
  have h3:=trim_last h2;rw [hl] at h3;exact⟨h3,fun k hk=>(co_trim l k).symm.trans (co_ge (by omega))⟩
 obtain⟨a0,a1⟩:=h1 p i hp;obtain⟨b0,b1⟩:=h1 q j hq;refine len_of ?_ fun k hk=>?_
 ·rw [co_mulF,cnv_top _ j b1 i _ a1]
  intro e
  rcases Rat.mul_eq_zero.1 e with e|e
  ·exact a0 e
  ·exact b0 e
 ·rw [co_mulF]
  exact cnv_high _ j b1 i _ k a1 hk
theorem ev_mulF (p q:List Rat) (x:Rat):evR (mulF p q) x=evR p x*evR q x:=by unfold mulF;rw [ev_trim,ev_mul]
theorem ev_addF (p q:List Rat) (x:Rat):evR (addF p q) x=evR p x+evR q x:=by unfold addF;rw [ev_trim,ev_zip]
end Go.Proofs.YtoefieefcndlkaaGreatDoor
set_option linter.unusedVariables false
set_option maxRecDepth 100000
set_option maxHeartbeats 64000000
namespace Go.Proofs.YtoefieefcndlkaaGreatDoor
set_option linter.unusedSimpArgs false
def syn (s:Rat):List Rat→List Rat
 | []=>[]
 | [_]=>[]
 | _ :: b :: t=>evR (b :: t) s :: syn s (b :: t)
theorem syn_len (s:Rat):∀p:List Rat,(syn s p).length=p.length - 1
 | []=>rfl
 | [_]=>rfl
 | _ :: b :: t=>by
  show (syn s (b :: t)).length+1=_
  rw [syn_len s (b :: t)];simp
theorem ev_syn (s x:Rat):∀p:List Rat,evR p x=evR p s+(x - s)*evR (syn s p) x
 | []=>by show (0:Rat)=0+(x - s)*0;grind
 | [a]=>by show (0*x+a:Rat)=(0*s+a)+(x - s)*0;grind
 | a :: b :: t=>by
  have h:=ev_syn s x (b :: t)
  show evR (b :: t) x*x+a=(evR (b :: t) s*s+a)+(x - s)*(evR (syn s (b :: t)) x*x+evR (b :: t) s)
  generalize evR (b :: t) x=u at *;generalize evR (b :: t) s=v at *;generalize evR (syn s (b :: t)) x=z at *
  grind
theorem co_syn0 (s a:Rat) (t:List Rat):co (syn s (a :: t)) 0=evR t s:=by
 cases t with
 | nil=>rfl
 | cons b t=>rfl
theorem co_syn (s:Rat):∀(p:List Rat) (i:Nat),co p (i+1)=co (syn s p) i - s*co (syn s p) (i+1)
 | [],i=>by show (0:Rat)=0 - s*0;grind
 | [a],i=>by show (0:Rat)=0 - s*0;grind
 | a :: b :: t,0=>by
  show b=evR (b :: t) s - s*co (syn s (b :: t)) 0
  rw [co_syn0]
  show b=evR t s*s+b - s*evR t s
  grind
 | a :: b :: t,i+1=>co_syn s (b :: t) i
theorem zero_pts:∀(n:Nat) (p:List Rat) (s:Rat),p.length≤n→(∀k:Nat,k<n→evR p (s+(k:Rat))=0)→∀i,co p i=0
 | 0,p,s,hl,_,i=>by rw [List.length_eq_zero_iff.1 (Nat.le_zero.1 hl)];rfl
 | n+1,p,s,hl,h,i=>by
  have h0:evR p s=0:=by
   have:=h 0 (by omega)
   rwa [show s+((0:Nat):Rat)=s by grind] at this
  have hq:∀i,co (syn s p) i=0:=by
   refine zero_pts n (syn s p) (s+1) (by rw [syn_len];omega) fun k hk=>?_;have h1:=h (k+1) (by omega);have e:s+((k+1:Nat):Rat)=s+1+(k:Rat):=by rw [Rat.natCast_add];grind
   rw [e,ev_syn s,h0] at h1;have h2:(s+1+(k:Rat) - s)*evR (syn s p) (s+1+(k:Rat))=0:=by grind
   rcases Rat.mul_eq_zero.1 h2 with h3|h3
   ·exfalso
    have h4:((k:Rat)+1)=0:=by grind
    have h5:(0:Rat)≤(k:Rat):=Rat.natCast_nonneg
    grind
   ·exact h3
  cases i with
  | succ i=>rw [co_syn s,hq,hq];grind
  | zero=>
   cases p with
   | nil=>rfl
   | cons a t=>
    have h1:evR t s*s+a=0:=h0;have h2:evR t s=0:=by rw [←co_syn0 s a t];exact hq 0
    rw [h2] at h1
    show a=0
    grind
theorem ev_inj {p q:List Rat} (h:∀x,evR p x=evR q x) (i:Nat):co p i=co q i:=by
 have h1:=zero_pts (zipA p (q.map (·*(-1)))).length _ 0 (Nat.le_refl _) (fun k _=>by rw [ev_zip,ev_map,h];grind) i;rw [co_zip,co_map] at h1
 grind
theorem trim_ev {p q:List Rat} (h:∀x,evR p x=evR q x):trimF p=trimF q:=trim_co (ev_inj h)
theorem ev_scaleF (p:List Rat) (c x:Rat):evR (scaleF p c) x=evR p x*c:=by unfold scaleF;rw [ev_trim,ev_map]
theorem ev_subF (p q:List Rat) (x:Rat):evR (subF p q) x=evR p x - evR q x:=by unfold subF;rw [ev_addF,ev_scaleF];grind
def dgF (p:List Rat):Nat:=(trimF p).length
theorem dg_ge {p:List Rat} {i:Nat} (h:dgF p≤i):co p i=0:=(co_trim p i).symm.trans (co_ge h)
theorem dg_top {p:List Rat} (h:0<dgF p):co p (dgF p - 1)≠0:=trim_last (fun e=>by unfold dgF at h;rw [e] at h;cases h)
theorem dg_le {p:List Rat} {n:Nat} (h:∀i,n≤i→co p i=0):dgF p≤n:=by
 rcases Nat.lt_or_ge n (dgF p) with h1|h1
 ·exact absurd (h _ (by omega)) (dg_top (by omega))
 ·exact h1
theorem dg_ev {p q:List Rat} (h:∀x,evR p x=evR q x):dgF p=dgF q:=by unfold dgF;rw [trim_ev h]
theorem dgz {p:List Rat} (h:dgF p=0) (x:Rat):evR p x=0:=ev_zero (fun i=>dg_ge (by omega)) x
theorem dg_of_zero {p:List Rat} (h:∀x,evR p x=0):dgF p=0:=dg_ev (q:=[]) h
theorem dg_pos {p:List Rat} (h:0<dgF p):∃x,evR p x≠0:=by
 refine Classical.byContradiction fun hn=>?_
 have:=dg_of_zero (p:=p) fun x=>Classical.byContradiction fun hx=>hn ⟨x,hx⟩
 omega
theorem dg_trim (p:List Rat):dgF (trimF p)=dgF p:=by unfold dgF;rw [trim_trim]
theorem dg_len (p:List Rat):dgF p≤p.length:=trim_le p
theorem dg_mul {p q r:List Rat} (h:∀x,evR r x=evR p x*evR q x) (hp:0<dgF p) (hq:0<dgF q):dgF r=dgF p+dgF q - 1:=by
 have h1:=deg_mul (p:=p) (q:=q) (i:=dgF p - 1) (j:=dgF q - 1) (by unfold dgF at *;omega) (by unfold dgF at *;omega);have h2:dgF r=dgF (mulF p q):=dg_ev fun x=>by rw [h,ev_mulF]
 rw [h2];unfold dgF at *;omega
theorem dg_add {p q r:List Rat} (h:∀x,evR r x=evR p x+evR q x) {n:Nat} (hp:dgF p≤n) (hq:dgF q≤n):dgF r≤n:=by
 rw [dg_ev (q:=addF p q) fun x=>by rw [h,ev_addF]];refine dg_le fun i hi=>?_;rw [co_addF]
 show co p i+co q i=0
 rw [dg_ge (by omega),dg_ge (by omega)];grind
theorem dg_scale {p r:List Rat} {c:Rat} (h:∀x,evR r x=evR p x*c):dgF r≤dgF p:=by
 rw [dg_ev (q:=scaleF p c) fun x=>by rw [h,ev_scaleF]];refine dg_le fun i hi=>?_
 have:co (scaleF p c) i=co p i*c:=by unfold scaleF;rw [co_trim,co_map]
 rw [this,dg_ge hi];grind
theorem dg_sub {p q r:List Rat} (h:∀x,evR r x=evR p x - evR q x) {n:Nat} (hp:dgF p≤n) (hq:dgF q≤n):dgF r≤n:=
 dg_add (p:=p) (q:=scaleF q (-1)) (fun x=>by rw [h,ev_scaleF];grind) hp (Nat.le_trans (dg_scale (p:=q) (c:=-1) fun x=>ev_scaleF _ _ _) hq)
theorem ev_one (x:Rat):evR [1] x=1:=by show (0*x+1:Rat)=1;grind
def Dv (d p:List Rat):Prop:=∃h,∀x,evR p x=evR d x*evR h x
theorem Dv.refl (p:List Rat):Dv p p:=⟨[1],fun x=>by rw [ev_one];grind⟩
theorem Dv.trans {a b c:List Rat} (h:Dv a b) (k:Dv b c):Dv a c:=by
 obtain⟨u,hu⟩:=h;obtain⟨v,hv⟩:=k;exact⟨mulF u v,fun x=>by rw [hv,hu,ev_mulF];grind⟩
theorem Dv.ev {d p q:List Rat} (h:Dv d p) (e:∀x,evR q x=evR p x):Dv d q:=by
 obtain⟨u,hu⟩:=h;exact⟨u,fun x=>by rw [e,hu]⟩
theorem Dv.comb {d p q r:List Rat} (hp:Dv d p) (hq:Dv d q) (s t:List Rat) (h:∀x,evR r x=evR s x*evR p x+evR t x*evR q x):Dv d r:=by
 obtain⟨u,hu⟩:=hp;obtain⟨v,hv⟩:=hq;exact⟨addF (mulF s u) (mulF t v),fun x=>by rw [h,hu,hv,ev_addF,ev_mulF,ev_mulF];grind⟩
theorem Dv.mul {d p r:List Rat} (hp:Dv d p) (s:List Rat) (h:∀x,evR r x=evR s x*evR p x):Dv d r:=
 hp.comb hp s [] fun x=>by rw [h];show _=_+0*_;grind
theorem Dv.zero (d:List Rat):Dv d []:=⟨[],fun x=>by show (0:Rat)=_*0;grind⟩
theorem dg_parts {p q r:List Rat} (h:∀x,evR r x=evR p x*evR q x) (hr:0<dgF r):0<dgF p∧0<dgF q:=by
 constructor
 ·refine Nat.pos_of_ne_zero fun e=>?_
  have:=dg_of_zero (p:=r) fun x=>by rw [h,dgz e];grind
  omega
 ·refine Nat.pos_of_ne_zero fun e=>?_
  have:=dg_of_zero (p:=r) fun x=>by rw [h,dgz e];grind
  omega
theorem Dv.dg {d p:List Rat} (h:Dv d p) (hp:0<dgF p):0<dgF d∧dgF d≤dgF p:=by
 obtain⟨u,hu⟩:=h;have h1:=dg_parts hu hp;have h2:=dg_mul hu h1.1 h1.2;exact⟨h1.1,by omega⟩
theorem Dv.small {d p:List Rat} (h:Dv d p) (hl:dgF p<dgF d):dgF p=0:=by
 rcases Nat.eq_zero_or_pos (dgF p) with h0|h0
 ·exact h0
 ·have:=(h.dg h0).2
  omega
theorem ev_cancel {p q r:List Rat} (hp:0<dgF p) (h:∀x,evR p x*evR q x=evR p x*evR r x):∀x,evR q x=evR r x:=by
 intro x;have h1:∀x,evR (mulF p (subF q r)) x=0:=fun x=>by rw [ev_mulF,ev_subF];have:=h x;grind
 have h2:dgF (subF q r)=0:=by
  rcases Nat.eq_zero_or_pos (dgF (subF q r)) with h0|h0
  ·exact h0
  ·have h3:=dg_mul (r:=mulF p (subF q r)) (fun x=>ev_mulF _ _ x) hp h0
   have h4:=dg_of_zero h1;omega
 have h3:=dgz h2 x;rw [ev_subF] at h3
 grind
theorem deriv_ev {p q:List Rat} (h:∀x,evR p x=evR q x):derivF p=derivF q:=by
 have e:trimF (derivF p)=trimF (derivF q):=trim_co fun i=>by
  rw [co_deriv,co_deriv,show co p=co q from funext (ev_inj h)]
 rwa [show trimF (derivF p)=derivF p from trim_trim _,show trimF (derivF q)=derivF q from trim_trim _] at e
theorem deriv_prod {p q r:List Rat} (h:∀x,evR r x=evR p x*evR q x) (x:Rat):evR (derivF r) x=evR (derivF p) x*evR q x+evR p x*evR (derivF q) x:=by
 rw [deriv_ev (q:=mulF p q) fun x=>by rw [h,ev_mulF],deriv_mul,ev_addF,ev_mulF,ev_mulF]
theorem dg_deriv (p:List Rat):dgF (derivF p)=dgF p - 1:=by
 refine Nat.le_antisymm (dg_le fun i hi=>?_) ?_
 ·rw [co_deriv]
  show co p (i+1)*_=0
  rw [dg_ge (by omega)];grind
 ·rcases Nat.lt_or_ge 1 (dgF p) with h|h
  ·rcases Nat.lt_or_ge (dgF (derivF p)) (dgF p - 1) with h1|h1
   ·exfalso
    have h2:=dg_ge (p:=derivF p) (i:=dgF p - 2) (by omega);rw [co_deriv] at h2;have h3:co p (dgF p - 2+1)*((dgF p - 2+1:Nat):Rat)=0:=h2;rw [show dgF p - 2+1=dgF p - 1 by omega] at h3
    rcases Rat.mul_eq_zero.1 h3 with h4|h4
    ·exact dg_top (by omega) h4
    ·have:=Rat.natCast_eq_zero_iff.1 h4
     omega
   ·exact h1
  ·omega
end Go.Proofs.YtoefieefcndlkaaGreatDoor
set_option linter.unusedVariables false
set_option maxRecDepth 100000
set_option maxHeartbeats 64000000
namespace Go.Proofs.YtoefieefcndlkaaGreatDoor
open Go Go.RowKit
set_option linter.unusedSimpArgs false
theorem pscale_n (M:Nat) (hM0:0<M) (hM:M≤274877906944) (vp vx:Value) (p:List Rat) (x:Rat) (hlp:p.length≤100000) (w:World) (hp:PlR w vp p) (hx:Nr w vx x) (hbp:∀c ∈ p,Bq M c) (bx:Bq M x):Calls Tryz.prog 141 #[vp,vx] w fun e w'=>∃v,e=.returned v∧PlR w' v (scaleF p x)∧Ext w w':=by
 obtain⟨n,hn⟩:∃n,p.length=n:=⟨_,rfl⟩;obtain⟨A,ca,rfl⟩:=hp.form;obtain⟨s1,A1,k1,ca1,B1,l1,cb1,rfl,-⟩:=hx.form;rw [hn] at hp ⊢;have x1:=ab w (.cells #[.int .i64 s1,.slice A1 k1 ca1,.slice B1 l1 cb1] 75);have R1:=ZZ (heap_alloc_new w (.cells #[.int .i64 s1,.slice A1 k1 ca1,.slice B1 l1 cb1] 75));have E1:=ZZ x1;have HP:=ZZ (hp.mono x1);have NX:=ZZ (hx.mono x1);have HN:=ZZ hn;have HLP:=ZZ hlp;have HBP:=ZZ hbp;have BX:=ZZ bx;have HM:=ZZ hM;have hun:undef=.tuple #[]:=rfl;clear hp hx hlp hbp bx hM hM0 hn x1
 go_enter Tryz.func141,Tryz.ntmps141
 go_upto_region 1 with (fail)
 generalize w.alloc (.cells #[.int .i64 s1,.slice A1 k1 ca1,.slice B1 l1 cb1] _)=W1 at *;obtain⟨gx,hgx⟩:∃g,w.heap.size=g:=⟨_,rfl⟩;rw [hgx] at R1;rw [hgx];clear hgx;go_wp2_with fail
 go_loopg [6,5] n (fun k i u wr=>∃j,Hid (j+k=n)∧i=.int .i64 (j:Int)∧Hid (OwnQ wr W1.heap.size u ((p.map (·*x)).take j))∧Hid (Ext W1 wr))
 case atStart=>exact⟨0,ZZ (Nat.zero_add _),rfl,ZZ (OwnQ.nil _ _),ZZ (ae _)⟩
 case round=>
  obtain⟨j,HJ,rfl,HO,HE⟩:=hrel;rename World=>WR;rename Value=>u
  rcases Nat.eq_zero_or_pos gk with hz|hz
  ·subst hz
   obtain rfl:j=n:=HJ.out;have q1:decide ((j:Int)<(j:Int))=false:=decide_eq_false (Int.lt_irrefl _);have HPL:=ZZ HO.out.pl;rw [List.take_of_length_le (by rw [List.length_map,HN.out];exact Nat.le_refl _)] at HPL;go_wp2_with fail;refine(trim_n _ (p.map (·*x)) (by rw [List.length_map];have:=HLP.out;omega) _ HPL.out).mono ?_;rintro e w5 ⟨v5,rfl,h5,k5⟩;have H5:=ZZ h5;have K5:=ZZ k5;clear h5 k5;go_wp2_with fail;go_ret;exact⟨_,rfl,H5.out,ak E1.out (ak HE.out K5.out)⟩
  ·have hjn:j<n:=by have:=HJ.out;omega
   have q1:decide ((j:Int)<(n:Int))=true:=decide_eq_true (by omega);have q1':decide (j<n)=true:=decide_eq_true hjn;have q4:(j:Int)<(n:Int):=by omega
   have q5:(0:Int)≤(j:Int):=by omega
   obtain⟨b,o,q,rfl,hq,htri⟩:=HP.out.at_ hjn;obtain⟨s2,A2,k2,ca2,B2,l2,cb2,c0,c1,c2,hn2⟩:=htri.mono HE.out;have NQ:=ZZ hn2;have HQ:=ZZ hq;have BQ:=ZZ (HBP.out q (List.mem_of_getElem? hq));have HE1:=HE;have HZ:=ZZ hz;have HJN:=ZZ hjn;have HJL:=ZZ (show j≤1000000 by have h2:=HLP.out;have h4:=HN.out;omega);have HLT:=ZZ (show ((p.map (·*x)).take j).length=j by rw [List.length_take,List.length_map,HN.out];omega);have d:=htri;obtain⟨s9,A9,k9,ca9,B9,l9,cb9,e0,e1,e2,-⟩:=htri
   have HC:=ZZ (show ∀W,Ext WR W→W.cell? ⟨gx,0,none⟩=some (.int .i64 s1)∧W.cell? ⟨gx,1,none⟩=some (.slice A1 k1 ca1)∧W.cell? ⟨gx,2,none⟩=some (.slice B1 l1 cb1)∧W.cell? ⟨b,o+j*3,none⟩=some (.int .i64 s2)∧W.cell? ⟨b,o+j*3+1,none⟩=some (.slice A2 k2 ca2)∧W.cell? ⟨b,o+j*3+2,none⟩=some (.slice B2 l2 cb2) from fun W k=>by
    obtain⟨y0,y1,y2,-⟩:=ai (((ak HE.out k).block _ (lt_of_block R1.out)).trans R1.out);exact⟨y0,y1,y2,am k c0,am k c1,am k c2⟩)
   have f0:=am HE.out e0;have f1:=am HE.out e1;have f2:=am HE.out e2;rw [c0] at f0;rw [c1] at f1;rw [c2] at f2
   cases f0
   cases f1
   cases f2
   have HCW:=ZZ (show ∀W,Ext W1 W→W.cell? ⟨gx,0,none⟩=some (.int .i64 s1)∧W.cell? ⟨gx,1,none⟩=some (.slice A1 k1 ca1)∧W.cell? ⟨gx,2,none⟩=some (.slice B1 l1 cb1)∧W.cell? ⟨b,o+j*3,none⟩=some (.int .i64 s2)∧W.cell? ⟨b,o+j*3+1,none⟩=some (.slice A2 k2 ca2)∧W.cell? ⟨b,o+j*3+2,none⟩=some (.slice B2 l2 cb2) from fun W k=>by
    obtain⟨y0,y1,y2,-⟩:=ai ((k.block _ (lt_of_block R1.out)).trans R1.out);exact⟨y0,y1,y2,am k e0,am k e1,am k e2⟩)
   clear hz hjn hq hn2 d c0 c1 c2 e0 e1 e2
   go_upto_region 5 with (fail)
   refine wp_region_noPanic ?_;refine wp_region_held_drew (S:=fun W=>W.cell? ⟨gx,0,none⟩=some (.int .i64 s1)∧W.cell? ⟨gx,1,none⟩=some (.slice A1 k1 ca1)∧W.cell? ⟨gx,2,none⟩=some (.slice B1 l1 cb1)∧W.cell? ⟨b,o+j*3,none⟩=some (.int .i64 s2)∧W.cell? ⟨b,o+j*3+1,none⟩=some (.slice A2 k2 ca2)∧W.cell? ⟨b,o+j*3+2,none⟩=some (.slice B2 l2 cb2)) (by kernel_rfl) (HC.out _ (ac _)) (fun hHeld=>?_);refine take_a 0 13 ?_;refine take_a 1 14 ?_;refine take_a 2 15 ?_;refine take_a 3 16 ?_;refine take_a 4 17 ?_;refine take_a 5 18 ?_;refine call_p (i:=6) (some 19) rfl rfl (by kernel_rfl) (fun K hK=>?_)
   go_simp
   go_at_call 92
   refine(mul_f M HM.out _ _ q x _ (NQ.out.mono (ac _)) (NX.out.mono (ak HE1.out (ac _))) BQ.out BX.out).mono ?_;rintro e x6 ⟨v6,rfl,h6,kk6,f6⟩;obtain⟨s6,A6,k6,ca6,B6,l6,cb6,rfl,-⟩:=h6.form;have N6:=ZZ h6;have hx6:=ZZ (show Ext WR x6 from ak (ac _) kk6);have F6:=ZZ (f6.bln (HO.out.off_new (ac _)));clear h6 kk6 f6
   try go_wp2_with fail
   refine hK.out _ _ (HC.out _ hx6.out) (fun hHeld=>?_);clear hK K
   try simp only [Act.put,lyA,lyB,lyC]
   refine call_p (i:=7) (some 20) rfl rfl (by kernel_rfl) (fun K hK=>?_)
   go_simp
   have EA:=ZZ (ak hx6.out (ab x6 (.cells #[.int .i64 s6,.slice A6 k6 ca6,.slice B6 l6 cb6] 75)));have RA:=ZZ (heap_alloc_new x6 (.cells #[.int .i64 s6,.slice A6 k6 ca6,.slice B6 l6 cb6] 75));have NA:=ZZ (N6.out.mono (ab x6 (.cells #[.int .i64 s6,.slice A6 k6 ca6,.slice B6 l6 cb6] 75)));clear N6;refine hK.out _ _ (HC.out _ EA.out) (fun hHeld=>?_);clear hK K
   try simp only [Act.put,lyA,lyB,lyC]
   refine call_p (i:=8) (some 21) rfl rfl (by kernel_rfl) (fun K hK=>?_);refine(if_pos (show Region.wanted _ _=true from rfl)).mpr ?_;obtain⟨v8,W8,hr8,ho8,he8⟩:=(HO.out.mono EA.out).app (ak HE.out EA.out) (by have h1:=HJL.out;rw [HLT.out];omega) RA.out NA.out F6.out 26 1;have HP8:=ZZ ho8;have E8:=ZZ he8;refine oper_appendG (.tmp 13) (.tmp 20) rfl rfl rfl hr8 ?_;clear hr8 ho8 he8;refine hK.out _ _ (HCW.out _ E8.out) (fun hHeld=>?_);clear hK K
   try simp only [Act.put,lyA,lyB,lyC]
   refine take_a 9 5 ?_;refine wpAnyH_done (by kernel_rfl) ?_ _;refine NoPanic.normal ?_;go_wp2_with fail
   go_roundg (gk - 1)
   case measure=>have:=HZ.out;omega
   case rel=>
    refine⟨j+1,ZZ (by have:=HJ.out;have:=HZ.out;omega),by have h1:=HJL.out;rw [IntWalk.wrap64_in _ ⟨by omega,by omega⟩];rfl,ZZ ?_,ZZ E8.out⟩;rw [take_co (by rw [List.length_map,HN.out];exact HJN.out),co_map,show co p j=q by unfold co;rw [HQ.out];rfl];exact HP8.out
theorem pderiv_n (M:Nat) (hM:M+64≤274877906944) (vp:Value) (p:List Rat) (hlp:p.length≤100000) (w:World) (hp:PlR w vp p) (hbp:∀c ∈ p,Bq M c):Calls Tryz.prog 97 #[vp] w fun e w'=>∃v,e=.returned v∧PlR w' v (derivF p)∧Ext w w':=by
 obtain⟨n,hn⟩:∃n,p.length=n:=⟨_,rfl⟩;obtain⟨A,ca,rfl⟩:=hp.form;rw [hn] at hp ⊢;have HP:=ZZ hp;have HN:=ZZ hn;have HLP:=ZZ hlp;have HBP:=ZZ hbp;have HM:=ZZ hM;have hun:undef=.tuple #[]:=rfl;clear hp hlp hbp hM hn
 go_enter Tryz.func97,Tryz.ntmps97
 go_wp2_with fail
 go_loopg [4,3] (n - 1) (fun k i u wr=>∃j,Hid (0<j∧j+k=max n 1)∧i=.int .i64 (j:Int)∧Hid (OwnQ wr w.heap.size u (derU p j))∧Hid (Ext w wr))
 case atStart=>exact⟨1,ZZ ⟨by decide,by omega⟩,rfl,ZZ (OwnQ.nil _ _),ZZ (ae _)⟩
 case round=>
  obtain⟨j,HJ,rfl,HO,HE⟩:=hrel;rename World=>WR;rename Value=>u
  rcases Nat.eq_zero_or_pos gk with hz|hz
  ·subst hz
   have q1:decide ((j:Int)<(n:Int))=false:=decide_eq_false (by have:=HJ.out;omega);have q1':decide (j<n)=false:=decide_eq_false (by have:=HJ.out;omega);have HPL:=ZZ HO.out.pl
   rw [show derU p j=derU p p.length from by
    rw [HN.out]
    rcases Nat.eq_zero_or_pos n with h0|h0
    ·rw [h0,show j=1 by have:=HJ.out;omega];rfl
    ·rw [show j=n by have:=HJ.out;omega]] at HPL
   go_wp2_with fail;refine(trim_n _ (derU p p.length) (by rw [derU_len];have:=HLP.out;omega) _ HPL.out).mono ?_
   rintro e w5 ⟨v5,rfl,h5,k5⟩;have H5:=ZZ h5;have K5:=ZZ k5;clear h5 k5;go_wp2_with fail;go_ret;exact⟨_,rfl,H5.out,ak HE.out K5.out⟩
  ·have hjn:j<n:=by have:=HJ.out;omega
   have q1:decide ((j:Int)<(n:Int))=true:=decide_eq_true (by omega);have q1':decide (j<n)=true:=decide_eq_true hjn;have q4:(j:Int)<(n:Int):=by omega
   have q5:(0:Int)≤(j:Int):=by omega
   obtain⟨b,o,q,rfl,hq,htri⟩:=HP.out.at_ hjn;obtain⟨s2,A2,k2,ca2,B2,l2,cb2,c0,c1,c2,hn2⟩:=htri.mono HE.out;have NQ:=ZZ hn2;have HQ:=ZZ hq;have BQ:=ZZ (HBP.out q (List.mem_of_getElem? hq));have HZ:=ZZ hz;have HJN:=ZZ hjn;have HJL:=ZZ (show j≤1000000 by have h2:=HLP.out;have h4:=HN.out;omega);have BJ:=ZZ (show Bq 64 ((j:Int):Rat) from bq_int _ (by omega) (by have:=HJL.out;omega));have HLT:=ZZ (show (derU p j).length=j - 1 from derU_len p j);obtain⟨s9,A9,k9,ca9,B9,l9,cb9,e0,e1,e2,-⟩:=htri;have HC:=ZZ (show ∀W,Ext WR W→W.cell? ⟨b,o+j*3,none⟩=some (.int .i64 s2)∧W.cell? ⟨b,o+j*3+1,none⟩=some (.slice A2 k2 ca2)∧W.cell? ⟨b,o+j*3+2,none⟩=some (.slice B2 l2 cb2) from fun W k=>⟨am k c0,am k c1,am k c2⟩);have f0:=am HE.out e0;have f1:=am HE.out e1;have f2:=am HE.out e2;rw [c0] at f0;rw [c1] at f1;rw [c2] at f2
   cases f0
   cases f1
   cases f2
   have HCW:=ZZ (show ∀W,Ext w W→W.cell? ⟨b,o+j*3,none⟩=some (.int .i64 s2)∧W.cell? ⟨b,o+j*3+1,none⟩=some (.slice A2 k2 ca2)∧W.cell? ⟨b,o+j*3+2,none⟩=some (.slice B2 l2 cb2) from fun W k=>⟨am k e0,am k e1,am k e2⟩);clear hz hjn hq hn2 c0 c1 c2 e0 e1 e2
   go_upto_region 5 with (fail)
   refine wp_region_noPanic ?_;refine wp_region_held_drew (S:=fun W=>W.cell? ⟨b,o+j*3,none⟩=some (.int .i64 s2)∧W.cell? ⟨b,o+j*3+1,none⟩=some (.slice A2 k2 ca2)∧W.cell? ⟨b,o+j*3+2,none⟩=some (.slice B2 l2 cb2)) (by kernel_rfl) (HC.out _ (ac _)) (fun hHeld=>?_);refine take_a 0 11 ?_;refine take_a 1 12 ?_;refine take_a 2 13 ?_;refine take_a 3 14 ?_;refine take_a 4 15 ?_;refine take_a 5 16 ?_;refine call_p (i:=6) (some 17) rfl rfl (by kernel_rfl) (fun K hK=>?_)
   go_simp
   go_at_call 98
   refine(int_n (j:Int) (by omega) (by have:=HJL.out;omega) _).mono ?_;rintro e x5 ⟨v5,rfl,h5,k5⟩;have N5:=ZZ h5;have hx5:=ZZ (show Ext WR x5 from ak (ac _) k5);clear h5 k5
   try go_wp2_with fail
   refine hK.out _ _ (HC.out _ hx5.out) (fun hHeld=>?_);clear hK K
   try simp only [Act.put,lyA,lyB,lyC]
   refine call_p (i:=7) (some 18) rfl rfl (by kernel_rfl) (fun K hK=>?_)
   go_simp
   go_at_call 92
   refine(mul_f (M+64) HM.out _ _ q ((j:Int):Rat) _ (NQ.out.mono hx5.out) N5.out (BQ.out.mono (by omega)) (BJ.out.mono (by omega))).mono ?_;rintro e x6 ⟨v6,rfl,h6,kk6,f6⟩;obtain⟨s6,A6,k6,ca6,B6,l6,cb6,rfl,-⟩:=h6.form;have N6:=ZZ h6;have hx6:=ZZ (ak hx5.out kk6);have F6:=ZZ (f6.bln (HO.out.off_new hx5.out));clear h6 kk6 f6 N5
   try go_wp2_with fail
   refine hK.out _ _ (HC.out _ hx6.out) (fun hHeld=>?_);clear hK K
   try simp only [Act.put,lyA,lyB,lyC]
   refine call_p (i:=8) (some 19) rfl rfl (by kernel_rfl) (fun K hK=>?_)
   go_simp
   have EA:=ZZ (ak hx6.out (ab x6 (.cells #[.int .i64 s6,.slice A6 k6 ca6,.slice B6 l6 cb6] 75)));have RA:=ZZ (heap_alloc_new x6 (.cells #[.int .i64 s6,.slice A6 k6 ca6,.slice B6 l6 cb6] 75));have NA:=ZZ (N6.out.mono (ab x6 (.cells #[.int .i64 s6,.slice A6 k6 ca6,.slice B6 l6 cb6] 75)));clear N6;refine hK.out _ _ (HC.out _ EA.out) (fun hHeld=>?_);clear hK K
   try simp only [Act.put,lyA,lyB,lyC]
   refine call_p (i:=9) (some 20) rfl rfl (by kernel_rfl) (fun K hK=>?_);refine(if_pos (show Region.wanted _ _=true from rfl)).mpr ?_;obtain⟨v8,W8,hr8,ho8,he8⟩:=(HO.out.mono EA.out).app (ak HE.out EA.out) (by have h1:=HJL.out;rw [HLT.out];omega) RA.out NA.out F6.out 26 1;have HP8:=ZZ ho8;have E8:=ZZ he8;refine oper_appendG (.tmp 11) (.tmp 19) rfl rfl rfl hr8 ?_;clear hr8 ho8 he8;refine hK.out _ _ (HCW.out _ E8.out) (fun hHeld=>?_);clear hK K
   try simp only [Act.put,lyA,lyB,lyC]
   refine take_a 10 3 ?_;refine wpAnyH_done (by kernel_rfl) ?_ _;refine NoPanic.normal ?_;go_wp2_with fail
   go_roundg (gk - 1)
   case measure=>have:=HZ.out;omega
   case rel=>
    refine⟨j+1,ZZ (by have:=HJ.out;have:=HZ.out;omega),by have h1:=HJL.out;rw [IntWalk.wrap64_in _ ⟨by omega,by omega⟩];rfl,ZZ ?_,ZZ E8.out⟩;rw [derU_succ p HJ.out.1,show co p j=q by unfold co;rw [HQ.out];rfl];exact HP8.out
end Go.Proofs.YtoefieefcndlkaaGreatDoor
