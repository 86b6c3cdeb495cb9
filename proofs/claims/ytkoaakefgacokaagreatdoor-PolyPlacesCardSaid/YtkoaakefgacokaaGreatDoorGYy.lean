/- Arguments that are slices of strings, opened and shut; the answer of a law's row with places. -/
import Derived.Test.YtkoaakefgacokaaGreatDoorGYt
import Derived.Deep.Strs
import Derived.WalkKit
import Derived.ProofKit
import Derived.OpenShut
import Derived.RowKit
import Derived.Test.YtkoaakefgacokaaGreatDoorGYu
import Derived.Test.YtkoaakefgacokaaGreatDoorGYj
import Derived.Test.YtkoaakefgacokaaGreatDoorGQx
set_option linter.unusedVariables false
set_option linter.unusedSimpArgs false
set_option maxRecDepth 100000
set_option maxHeartbeats 64000000
namespace Go.Proofs.YtkoaakefgacokaaGreatDoor
open Go Go.ChangeShapes Go.WideShapes Go.ChangeAt Go.RowKit Go.Deep
theorem ext_frozenP {W W':World} (h:Ext W W') {b:Nat} (hb:b<W.heap.size) (o:Nat) (s:_):W'.frozen? ⟨b,o,s⟩=W.frozen? ⟨b,o,s⟩:=by
 have h1:=h.block b hb;unfold World.frozen?
 simp only [h1]
theorem post_extP {H:Type} {enc:TypeId × Value→H} {f:Func} {s:ChangeSpec} {apart fresh handsOn again:Bool} {W W':World} {args:Array Value} {v:Value} {ds gs:List (DataW H)} {pa:List MemPlace} (hW:DataW.Whole enc Tryz.prog f.params.toList s.vars apart W args.toList ds gs pa) (hres:∀(b:Nat) (sp:Nat→Bool) (hd:Bool),DataW.TrodAll enc Tryz.prog W' b sp hd f.resultTypes.toList (v.resultList f.resultTypes.size) (s.fn H (ds ++ gs)).results []) (hargs:∀sp:Nat→Bool,(∀p ∈ pa,sp p.block=true)→DataW.TrodAll enc Tryz.prog W' 0 sp true f.params.toList args.toList (s.fn H (ds ++ gs)).args pa) (hvars:∀sp:Nat→Bool,DataW.TrodVars enc Tryz.prog W' sp s.vars (s.fn H (ds ++ gs)).vars []) (hk:Ext W W') (hok:∀(j:Nat) (t:TypeId) (r:Value),f.resultTypes[j]?=some t→(v.resultList f.resultTypes.size)[j]?=some r→Value.okWide Tryz.prog W' .any 0 t r):s.post enc Tryz.prog f apart fresh handsOn again W args v W':=by
 have hold:∀p ∈ pa,(fun b=>decide (b<W.heap.size)) p.block=true:=fun p hp=>by simpa using hW.lt p hp
 have hlt:=fun p hp=>hW.lt p hp;refine⟨ds,gs,pa,[],pa,[],hW,hres _ _ _,hargs _ hold,hvars _,World.keptBut_mono (fun p hp=>⟨hp,Or.inr (Or.inl hp)⟩) (hk.frame (· ∈ pa)),fun _=>?_⟩;obtain⟨_,_,_,_,_,hz,hn⟩:=hW;refine⟨hok,_,_,([] ++ pa) ++ [],⟨[] ++ pa,[],trodAll_append (hargs _ (fun _ _=>rfl)) (hres _ _ _),hvars _,rfl,?_,?_⟩,?_⟩
 ·intro b off hp
  have hp':MemPlace.cell b off ∈ pa:=by simpa using hp
  rw [ext_frozenP hk (b:=b) (hlt _ hp')];exact hz b off hp'
 ·intro ha
  simpa using hn ha
 ·intro p hp _
  simpa using hp
theorem open_stl {H:Type} {enc:TypeId × Value→H} {W:World} {b0:Nat} {T E:TypeId} {v:Value} {d:DataW H} {ps:List MemPlace} (ht:Tryz.prog.underlying T=some (.slice E)) (he:Tryz.prog.underlying E=some .string) (hc:Tryz.prog.cellsOf E=1) (hv:Value.okWide Tryz.prog W .any b0 T v) (h:DataW.Trod enc Tryz.prog W 0 (fun _=>true) true T v d ps):∃ls,Stl W v ls∧∀W',Ext W W'→∀sp:Nat→Bool,(∀p ∈ ps,sp p.block=true)→DataW.Trod enc Tryz.prog W' 0 sp true T v d ps:=by
 obtain⟨a0,len,cap,rfl⟩:=okWide_slice ht hv;obtain⟨fuel,hf⟩:=h
 rcases open_strs ht he hc hf with ⟨hcs,hx⟩|⟨a,len',cap',m,Sx,hcs,_,hl,hm,hmm,hx,hcell⟩
 ·simp [Value.cells] at hcs
  obtain⟨rfl,rfl,rfl⟩:=hcs
  simp only [Prod.mk.injEq] at hx
  obtain⟨rfl,rfl⟩:=hx;exact⟨[],.inl ⟨⟨_,_,rfl⟩,rfl⟩,fun W' _ sp _=>shut_slice_nil ht⟩
 simp [Value.cells] at hcs
 obtain⟨rfl,rfl,rfl⟩:=hcs
 simp only [Prod.mk.injEq] at hx
 obtain⟨rfl,rfl⟩:=hx
 simp only [if_true] at hmm
 subst hmm;obtain⟨b,off,spot⟩:=a
 by_cases hc0:m=0
 ·subst hc0
  have hlen0:len=0:=by omega
  subst hlen0;refine⟨[],.inl ⟨⟨_,_,rfl⟩,rfl⟩,fun W' _ sp _=>?_⟩
  show ∃n,DataW.trod enc Tryz.prog W' 0 sp true n T [.slice (some ⟨b,off,spot⟩) 0 0]=some (.slice [] [],[])
  cases hsp:sp b
  ·simpa [MemPlace.row] using shut_slice_cells (enc:=enc) (w:=W') (base:=0) (spare:=sp) (held:=true) (a:=⟨b,off,spot⟩) (len:=0) (cap:=0) ht (Nat.zero_le _) (Nat.le_refl _) (Nat.zero_le _) hsp (fun _=>.nil) (fun _=>[]) (fun i hi=>absurd hi (Nat.not_lt_zero _))
  ·simpa [MemPlace.row] using shut_slice_whole_cells (enc:=enc) (w:=W') (base:=0) (spare:=sp) (held:=true) (a:=⟨b,off,spot⟩) (len:=0) (cap:=0) ht (Nat.zero_le _) (Nat.le_refl _) (Nat.zero_le _) hsp (fun _=>.nil) (fun _=>[]) (fun i hi=>absurd hi (Nat.not_lt_zero _))
 have hspot:spot=none:=by simpa [Addr.add] using World.cell?_spot (hcell 0 (by omega)).1
 subst hspot;have hcell':∀j,j<m→W.cell? ⟨b,off+j,none⟩=some (.string (Sx j)):=fun j hj=>by rw [←add_plain];exact(hcell j hj).1
 refine⟨(List.range len).map fun i=>(Sx i).data.toList,.inr ⟨b,off,m,by simp,by simp;omega,fun s hs=>?_,fun i s hs=>?_⟩,fun W' k sp hsp=>?_⟩
 ·obtain⟨i,hi,rfl⟩:=List.mem_map.1 hs
  have:=(hcell i (by have:=List.mem_range.1 hi;omega)).2
  rw [Array.length_toList];exact this
 ·rw [List.getElem?_map] at hs
  have hi:i<len:=by
   rcases Nat.lt_or_ge i len with h|h
   ·exact h
   ·rw [List.getElem?_eq_none (by simpa using h)] at hs;cases hs
  rw [List.getElem?_range hi] at hs;obtain rfl:=Option.some.inj hs;exact hcell' i (by omega)
 ·exact shut_strs_whole (enc:=enc) (w:=W') (base:=0) (spare:=sp) (held:=true) ht he hc (Nat.zero_le _) hl hm (hsp (.cell b (off+0)) (MemPlace.mem_row.2 ⟨0,by omega,rfl⟩)) Sx (fun i hi=>ao k (hcell' i hi)) (fun i hi=>(hcell i hi).2)
end Go.Proofs.YtkoaakefgacokaaGreatDoor
namespace Go.Proofs.YtkoaakefgacokaaGreatDoor
theorem co_mulF (p q:List Rat):co (mulF p q)=cnv (co p) (co q):=by
 funext i
 unfold mulF;rw [co_trim,co_mulR]
theorem co_addF (p q:List Rat):co (addF p q)=fun k=>co p k+co q k:=by
 funext i
 unfold addF;rw [co_trim,co_zip]
theorem deriv_mul (p q:List Rat):derivF (mulF p q)=addF (mulF (derivF p) q) (mulF p (derivF q)):=by
 show trimF (derU (mulF p q) (mulF p q).length)=trimF (zipA (mulF (derivF p) q) (mulF p (derivF q)))
 refine trim_co fun i=>?_;have h:=co_deriv (mulF p q) i;unfold derivF at h;rw [co_trim] at h;rw [h,co_zip,co_mulF,co_mulF,co_mulF,cnv_deriv];rw [show co (derivF p)=dco (co p) from funext (co_deriv p),show co (derivF q)=dco (co q) from funext (co_deriv q)]
theorem cnv_high (g:Nat→Rat) (j:Nat) (hg:∀k,j<k→g k=0):∀(i:Nat) (f:Nat→Rat) (n:Nat),(∀k,i<k→f k=0)→i+j<n→cnv f g n=0:=by
 intro i
 induction i with
 | zero=>
  intro f n hf hn;obtain⟨m,rfl⟩:∃m,n=m+1:=⟨n - 1,by omega⟩;rw [cnv_succ,hg _ (by omega),show (fun k=>f (k+1))=fun _=>0 from funext fun k=>hf _ (by omega),cnv_zero_l]
  grind
 | succ i ih=>
  intro f n hf hn;obtain⟨m,rfl⟩:∃m,n=m+1:=⟨n - 1,by omega⟩;rw [cnv_succ,hg _ (by omega),ih (fun k=>f (k+1)) m (fun k hk=>hf _ (by omega)) (by omega)]
  grind
theorem cnv_top (g:Nat→Rat) (j:Nat) (hg:∀k,j<k→g k=0):∀(i:Nat) (f:Nat→Rat),(∀k,i<k→f k=0)→cnv f g (i+j)=f i*g j:=by
 intro i
 induction i with
 | zero=>
  intro f hf;rw [Nat.zero_add]
  cases j with
  | zero=>rfl
  | succ j=>
   rw [cnv_succ,show (fun k=>f (k+1))=fun _=>0 from funext fun k=>hf _ (by omega),cnv_zero_l]
   grind
 | succ i ih=>
  intro f hf;rw [show i+1+j=(i+j)+1 by omega,cnv_succ,hg _ (by omega),ih (fun k=>f (k+1)) (fun k hk=>hf _ (by omega))]
  grind
theorem len_of {p:List Rat} {n:Nat} (h0:co p n≠0) (h:∀k,n<k→co p k=0):(trimF p).length=n+1:=by
 have h1:n<(trimF p).length:=by
  rcases Nat.lt_or_ge n (trimF p).length with h1|h1
  ·exact h1
  ·exact absurd ((co_trim p n).symm.trans (co_ge h1)) h0
 have h2:trimF p≠[]:=fun e=>by rw [e] at h1;cases h1
 have h3:=trim_last h2
 rcases Nat.lt_or_ge n ((trimF p).length - 1) with h4|h4
 ·exact absurd (h _ h4) h3
 ·omega
theorem deg_mul {p q:List Rat} {i j:Nat} (hp:(trimF p).length=i+1) (hq:(trimF q).length=j+1):(trimF (mulF p q)).length=i+j+1:=by
 have h1:∀(l:List Rat) (n:Nat),(trimF l).length=n+1→co l n≠0∧∀k,n<k→co l k=0:=fun l n hl=>by
  have h2:trimF l≠[]:=fun e=>by rw [e] at hl;cases hl
  have h3:=trim_last h2;rw [hl] at h3;exact⟨h3,fun k hk=>(co_trim l k).symm.trans (co_ge (by omega))⟩
 obtain⟨a0,a1⟩:=h1 p i hp;obtain⟨b0,b1⟩:=h1 q j hq;refine len_of ?_ fun k hk=>?_
 ·rw [co_mulF,cnv_top _ j b1 i _ a1]
  intro e
  rcases Rat.mul_eq_zero.1 e with e|e
  ·exact a0 e
  ·exact b0 e
 ·rw [co_mulF]
  exact cnv_high _ j b1 i _ k a1 hk
theorem ev_mulF (p q:List Rat) (x:Rat):evR (mulF p q) x=evR p x*evR q x:=by unfold mulF;rw [ev_trim,ev_mul]
theorem ev_addF (p q:List Rat) (x:Rat):evR (addF p q) x=evR p x+evR q x:=by unfold addF;rw [ev_trim,ev_zip]
def syn (s:Rat):List Rat→List Rat
 | []=>[]
 | [_]=>[]
 | _ :: b :: t=>evR (b :: t) s :: syn s (b :: t)
theorem syn_len (s:Rat):∀p:List Rat,(syn s p).length=p.length - 1
 | []=>rfl
 | [_]=>rfl
 | _ :: b :: t=>by
  show (syn s (b :: t)).length+1=_
  rw [syn_len s (b :: t)];simp
theorem ev_syn (s x:Rat):∀p:List Rat,evR p x=evR p s+(x - s)*evR (syn s p) x
 | []=>by show (0:Rat)=0+(x - s)*0;grind
 | [a]=>by show (0*x+a:Rat)=(0*s+a)+(x - s)*0;grind
 | a :: b :: t=>by
  have h:=ev_syn s x (b :: t)
  show evR (b :: t) x*x+a=(evR (b :: t) s*s+a)+(x - s)*(evR (syn s (b :: t)) x*x+evR (b :: t) s)
  generalize evR (b :: t) x=u at *;generalize evR (b :: t) s=v at *;generalize evR (syn s (b :: t)) x=z at *
  grind
theorem co_syn0 (s a:Rat) (t:List Rat):co (syn s (a :: t)) 0=evR t s:=by
 cases t with
 | nil=>rfl
 | cons b t=>rfl
theorem co_syn (s:Rat):∀(p:List Rat) (i:Nat),co p (i+1)=co (syn s p) i - s*co (syn s p) (i+1)
 | [],i=>by show (0:Rat)=0 - s*0;grind
 | [a],i=>by show (0:Rat)=0 - s*0;grind
 | a :: b :: t,0=>by
  show b=evR (b :: t) s - s*co (syn s (b :: t)) 0
  rw [co_syn0]
  show b=evR t s*s+b - s*evR t s
  grind
 | a :: b :: t,i+1=>co_syn s (b :: t) i
theorem zero_pts:∀(n:Nat) (p:List Rat) (s:Rat),p.length≤n→(∀k:Nat,k<n→evR p (s+(k:Rat))=0)→∀i,co p i=0
 | 0,p,s,hl,_,i=>by rw [List.length_eq_zero_iff.1 (Nat.le_zero.1 hl)];rfl
 | n+1,p,s,hl,h,i=>by
  have h0:evR p s=0:=by
   have:=h 0 (by omega)
   rwa [show s+((0:Nat):Rat)=s by grind] at this
  have hq:∀i,co (syn s p) i=0:=by
   refine zero_pts n (syn s p) (s+1) (by rw [syn_len];omega) fun k hk=>?_;have h1:=h (k+1) (by omega);have e:s+((k+1:Nat):Rat)=s+1+(k:Rat):=by rw [Rat.natCast_add];grind
   rw [e,ev_syn s,h0] at h1;have h2:(s+1+(k:Rat) - s)*evR (syn s p) (s+1+(k:Rat))=0:=by grind
   rcases Rat.mul_eq_zero.1 h2 with h3|h3
   ·exfalso
    have h4:((k:Rat)+1)=0:=by grind
    have h5:(0:Rat)≤(k:Rat):=Rat.natCast_nonneg
    grind
   ·exact h3
  cases i with
  | succ i=>rw [co_syn s,hq,hq];grind
  | zero=>
   cases p with
   | nil=>rfl
   | cons a t=>
    have h1:evR t s*s+a=0:=h0;have h2:evR t s=0:=by rw [←co_syn0 s a t];exact hq 0
    rw [h2] at h1
    show a=0
    grind
theorem ev_inj {p q:List Rat} (h:∀x,evR p x=evR q x) (i:Nat):co p i=co q i:=by
 have h1:=zero_pts (zipA p (q.map (·*(-1)))).length _ 0 (Nat.le_refl _) (fun k _=>by rw [ev_zip,ev_map,h];grind) i;rw [co_zip,co_map] at h1
 grind
theorem trim_ev {p q:List Rat} (h:∀x,evR p x=evR q x):trimF p=trimF q:=trim_co (ev_inj h)
theorem ev_scaleF (p:List Rat) (c x:Rat):evR (scaleF p c) x=evR p x*c:=by unfold scaleF;rw [ev_trim,ev_map]
theorem ev_subF (p q:List Rat) (x:Rat):evR (subF p q) x=evR p x - evR q x:=by unfold subF;rw [ev_addF,ev_scaleF];grind
def dgF (p:List Rat):Nat:=(trimF p).length
theorem dg_ge {p:List Rat} {i:Nat} (h:dgF p≤i):co p i=0:=(co_trim p i).symm.trans (co_ge h)
theorem dg_top {p:List Rat} (h:0<dgF p):co p (dgF p - 1)≠0:=trim_last (fun e=>by unfold dgF at h;rw [e] at h;cases h)
theorem dg_le {p:List Rat} {n:Nat} (h:∀i,n≤i→co p i=0):dgF p≤n:=by
 rcases Nat.lt_or_ge n (dgF p) with h1|h1
 ·exact absurd (h _ (by omega)) (dg_top (by omega))
 ·exact h1
theorem dg_ev {p q:List Rat} (h:∀x,evR p x=evR q x):dgF p=dgF q:=by unfold dgF;rw [trim_ev h]
theorem dgz {p:List Rat} (h:dgF p=0) (x:Rat):evR p x=0:=ev_zero (fun i=>dg_ge (by omega)) x
theorem dg_of_zero {p:List Rat} (h:∀x,evR p x=0):dgF p=0:=dg_ev (q:=[]) h
theorem dg_pos {p:List Rat} (h:0<dgF p):∃x,evR p x≠0:=by
 refine Classical.byContradiction fun hn=>?_
 have:=dg_of_zero (p:=p) fun x=>Classical.byContradiction fun hx=>hn ⟨x,hx⟩
 omega
theorem dg_trim (p:List Rat):dgF (trimF p)=dgF p:=by unfold dgF;rw [trim_trim]
theorem dg_len (p:List Rat):dgF p≤p.length:=trim_le p
theorem dg_mul {p q r:List Rat} (h:∀x,evR r x=evR p x*evR q x) (hp:0<dgF p) (hq:0<dgF q):dgF r=dgF p+dgF q - 1:=by
 have h1:=deg_mul (p:=p) (q:=q) (i:=dgF p - 1) (j:=dgF q - 1) (by unfold dgF at *;omega) (by unfold dgF at *;omega);have h2:dgF r=dgF (mulF p q):=dg_ev fun x=>by rw [h,ev_mulF]
 rw [h2];unfold dgF at *;omega
theorem dg_add {p q r:List Rat} (h:∀x,evR r x=evR p x+evR q x) {n:Nat} (hp:dgF p≤n) (hq:dgF q≤n):dgF r≤n:=by
 rw [dg_ev (q:=addF p q) fun x=>by rw [h,ev_addF]];refine dg_le fun i hi=>?_;rw [co_addF]
 show co p i+co q i=0
 rw [dg_ge (by omega),dg_ge (by omega)];grind
theorem dg_scale {p r:List Rat} {c:Rat} (h:∀x,evR r x=evR p x*c):dgF r≤dgF p:=by
 rw [dg_ev (q:=scaleF p c) fun x=>by rw [h,ev_scaleF]];refine dg_le fun i hi=>?_
 have:co (scaleF p c) i=co p i*c:=by unfold scaleF;rw [co_trim,co_map]
 rw [this,dg_ge hi];grind
theorem dg_sub {p q r:List Rat} (h:∀x,evR r x=evR p x - evR q x) {n:Nat} (hp:dgF p≤n) (hq:dgF q≤n):dgF r≤n:=
 dg_add (p:=p) (q:=scaleF q (-1)) (fun x=>by rw [h,ev_scaleF];grind) hp (Nat.le_trans (dg_scale (p:=q) (c:=-1) fun x=>ev_scaleF _ _ _) hq)
theorem ev_one (x:Rat):evR [1] x=1:=by show (0*x+1:Rat)=1;grind
def Dv (d p:List Rat):Prop:=∃h,∀x,evR p x=evR d x*evR h x
theorem Dv.refl (p:List Rat):Dv p p:=⟨[1],fun x=>by rw [ev_one];grind⟩
theorem Dv.trans {a b c:List Rat} (h:Dv a b) (k:Dv b c):Dv a c:=by
 obtain⟨u,hu⟩:=h;obtain⟨v,hv⟩:=k;exact⟨mulF u v,fun x=>by rw [hv,hu,ev_mulF];grind⟩
theorem Dv.ev {d p q:List Rat} (h:Dv d p) (e:∀x,evR q x=evR p x):Dv d q:=by
 obtain⟨u,hu⟩:=h;exact⟨u,fun x=>by rw [e,hu]⟩
theorem Dv.comb {d p q r:List Rat} (hp:Dv d p) (hq:Dv d q) (s t:List Rat) (h:∀x,evR r x=evR s x*evR p x+evR t x*evR q x):Dv d r:=by
 obtain⟨u,hu⟩:=hp;obtain⟨v,hv⟩:=hq;exact⟨addF (mulF s u) (mulF t v),fun x=>by rw [h,hu,hv,ev_addF,ev_mulF,ev_mulF];grind⟩
theorem Dv.mul {d p r:List Rat} (hp:Dv d p) (s:List Rat) (h:∀x,evR r x=evR s x*evR p x):Dv d r:=
 hp.comb hp s [] fun x=>by rw [h];show _=_+0*_;grind
theorem Dv.zero (d:List Rat):Dv d []:=⟨[],fun x=>by show (0:Rat)=_*0;grind⟩
theorem dg_parts {p q r:List Rat} (h:∀x,evR r x=evR p x*evR q x) (hr:0<dgF r):0<dgF p∧0<dgF q:=by
 constructor
 ·refine Nat.pos_of_ne_zero fun e=>?_
  have:=dg_of_zero (p:=r) fun x=>by rw [h,dgz e];grind
  omega
 ·refine Nat.pos_of_ne_zero fun e=>?_
  have:=dg_of_zero (p:=r) fun x=>by rw [h,dgz e];grind
  omega
theorem Dv.dg {d p:List Rat} (h:Dv d p) (hp:0<dgF p):0<dgF d∧dgF d≤dgF p:=by
 obtain⟨u,hu⟩:=h;have h1:=dg_parts hu hp;have h2:=dg_mul hu h1.1 h1.2;exact⟨h1.1,by omega⟩
theorem Dv.small {d p:List Rat} (h:Dv d p) (hl:dgF p<dgF d):dgF p=0:=by
 rcases Nat.eq_zero_or_pos (dgF p) with h0|h0
 ·exact h0
 ·have:=(h.dg h0).2
  omega
theorem ev_cancel {p q r:List Rat} (hp:0<dgF p) (h:∀x,evR p x*evR q x=evR p x*evR r x):∀x,evR q x=evR r x:=by
 intro x;have h1:∀x,evR (mulF p (subF q r)) x=0:=fun x=>by rw [ev_mulF,ev_subF];have:=h x;grind
 have h2:dgF (subF q r)=0:=by
  rcases Nat.eq_zero_or_pos (dgF (subF q r)) with h0|h0
  ·exact h0
  ·have h3:=dg_mul (r:=mulF p (subF q r)) (fun x=>ev_mulF _ _ x) hp h0
   have h4:=dg_of_zero h1;omega
 have h3:=dgz h2 x;rw [ev_subF] at h3
 grind
theorem deriv_ev {p q:List Rat} (h:∀x,evR p x=evR q x):derivF p=derivF q:=by
 have e:trimF (derivF p)=trimF (derivF q):=trim_co fun i=>by
  rw [co_deriv,co_deriv,show co p=co q from funext (ev_inj h)]
 rwa [show trimF (derivF p)=derivF p from trim_trim _,show trimF (derivF q)=derivF q from trim_trim _] at e
theorem deriv_prod {p q r:List Rat} (h:∀x,evR r x=evR p x*evR q x) (x:Rat):evR (derivF r) x=evR (derivF p) x*evR q x+evR p x*evR (derivF q) x:=by
 rw [deriv_ev (q:=mulF p q) fun x=>by rw [h,ev_mulF],deriv_mul,ev_addF,ev_mulF,ev_mulF]
theorem dg_deriv (p:List Rat):dgF (derivF p)=dgF p - 1:=by
 refine Nat.le_antisymm (dg_le fun i hi=>?_) ?_
 ·rw [co_deriv]
  show co p (i+1)*_=0
  rw [dg_ge (by omega)];grind
 ·rcases Nat.lt_or_ge 1 (dgF p) with h|h
  ·rcases Nat.lt_or_ge (dgF (derivF p)) (dgF p - 1) with h1|h1
   ·exfalso
    have h2:=dg_ge (p:=derivF p) (i:=dgF p - 2) (by omega);rw [co_deriv] at h2;have h3:co p (dgF p - 2+1)*((dgF p - 2+1:Nat):Rat)=0:=h2;rw [show dgF p - 2+1=dgF p - 1 by omega] at h3
    rcases Rat.mul_eq_zero.1 h3 with h4|h4
    ·exact dg_top (by omega) h4
    ·have:=Rat.natCast_eq_zero_iff.1 h4
     omega
   ·exact h1
  ·omega
theorem ev_shift (x:Rat) (l:List Rat):∀k:Nat,evR (List.replicate k 0 ++ l) x=evR l x*x ^ k
 | 0=>by simp
 | k+1=>by
  show evR (List.replicate k 0 ++ l) x*x+0=_
  rw [ev_shift x l k,Rat.pow_succ];grind
theorem co_shift (l:List Rat) (k i:Nat):co (List.replicate k 0 ++ l) i=if i<k then 0 else co l (i - k):=by
 unfold co;rw [List.getElem?_append,List.length_replicate]
 by_cases h:i<k
 ·rw [if_pos h,if_pos h,List.getElem?_replicate,if_pos h];rfl
 ·rw [if_neg h,if_neg h]
theorem ev_set (x:Rat):∀(l:List Rat) (k:Nat) (c:Rat),k<l.length→evR (l.set k c) x=evR l x+(c - co l k)*x ^ k
 | [],k,c,h=>by cases h
 | a :: l,0,c,_=>by
  show evR l x*x+c=evR l x*x+a+(c - a)*x ^ 0
  rw [Rat.pow_zero];grind
 | a :: l,k+1,c,h=>by
  have h1:=ev_set x l k c (by simpa using h)
  show evR (l.set k c) x*x+a=evR l x*x+a+(c - co l k)*x ^ (k+1)
  rw [h1,Rat.pow_succ];grind
theorem co_les (rest q:List Rat) {k:Nat} (hk:k+q.length=rest.length) (c:Rat) (i:Nat):co (lesL rest q k c q.length) i=co rest i+co (List.replicate k 0 ++ q) i*(-c):=by
 rw [co_shift]
 rcases Nat.lt_or_ge i rest.length with hi|hi
 ·have h:=les_get rest q k c q.length hi
  have e:co (lesL rest q k c q.length) i=if k≤i∧i<k+q.length then co rest i - c*co q (i - k) else co rest i:=by
   show ((lesL rest q k c q.length)[i]?).getD 0=_
   rw [h];rfl
  rw [e]
  by_cases h1:i<k
  ·rw [if_neg (by omega),if_pos h1];grind
  ·rw [if_pos (by omega),if_neg h1];grind
 ·rw [co_ge (by rw [les_len];exact hi),co_ge hi,if_neg (by omega),co_ge (p:=q) (by omega)];grind
theorem ev_next (rest q:List Rat) (hl:q.length≤rest.length) (x:Rat):evR (nextR rest q) x=evR rest x - topF rest / topF q*x ^ (rest.length - q.length)*evR q x:=by
 unfold nextR;rw [ev_trim,ev_co (q:=zipA rest ((List.replicate (rest.length - q.length) 0 ++ q).map (·*(-(topF rest / topF q))))) (fun i=>by rw [co_zip,co_map];exact co_les rest q (by omega) _ i),ev_zip,ev_map,ev_shift]
 grind
theorem next_len (rest q:List Rat) (hl:q.length≤rest.length) (h0:0<q.length) (ht:topF q≠0):(nextR rest q).length<rest.length:=by
 have h:dgF (lesL rest q (rest.length - q.length) (topF rest / topF q) q.length)≤rest.length - 1:=by
  refine dg_le fun i hi=>?_;rw [co_les rest q (by omega),co_shift]
  rcases Nat.lt_or_ge i rest.length with h1|h1
  ·obtain rfl:i=rest.length - 1:=by omega
   rw [if_neg (by omega),show rest.length - 1 - (rest.length - q.length)=q.length - 1 by omega]
   show topF rest+topF q*(-(topF rest / topF q))=0
   rw [Rat.div_def]
   have:=Rat.mul_inv_cancel (topF q) ht
   grind
  ·rw [co_ge h1,if_neg (by omega),co_ge (p:=q) (by omega)];grind
 have h2:(nextR rest q).length≤rest.length - 1:=h;omega
theorem divU_ev (q:List Rat) (h0:0<q.length) (ht:topF q≠0):∀(n:Nat) (quo rest:List Rat),rest.length≤n→trimF rest=rest→(q.length≤rest.length→rest.length - q.length<quo.length)→(∀i,i+q.length≤rest.length→co quo i=0)→(∀x,evR (divU n quo rest q).1 x*evR q x+evR (divU n quo rest q).2 x=evR quo x*evR q x+evR rest x)∧(divU n quo rest q).2.length<q.length∧trimF (divU n quo rest q).2=(divU n quo rest q).2
 | 0,quo,rest,hn,ht0,_,_=>⟨fun x=>rfl,by show rest.length<_;omega,ht0⟩
 | n+1,quo,rest,hn,ht0,hk,hz=>by
  show (∀x,evR (if rest.length<q.length then (quo,rest) else divU n (quo.set (rest.length - q.length) (topF rest / topF q)) (nextR rest q) q).1 x*evR q x+evR (if rest.length<q.length then (quo,rest) else divU n (quo.set (rest.length - q.length) (topF rest / topF q)) (nextR rest q) q).2 x=_)∧(if rest.length<q.length then (quo,rest) else divU n (quo.set (rest.length - q.length) (topF rest / topF q)) (nextR rest q) q).2.length<q.length∧trimF (if rest.length<q.length then (quo,rest) else divU n (quo.set (rest.length - q.length) (topF rest / topF q)) (nextR rest q) q).2=(if rest.length<q.length then (quo,rest) else divU n (quo.set (rest.length - q.length) (topF rest / topF q)) (nextR rest q) q).2
  by_cases h:rest.length<q.length
  ·rw [if_pos h];exact⟨fun x=>rfl,h,ht0⟩
  ·rw [if_neg h]
   have h1:=next_len rest q (by omega) h0 ht;have h2:=hk (by omega);obtain⟨e1,e2,e3⟩:=divU_ev q h0 ht n (quo.set (rest.length - q.length) (topF rest / topF q)) (nextR rest q) (by omega) (trim_trim _) (fun h3=>by rw [List.length_set];omega)
    (fun i hi=>by
     have h4:=hz i (by omega);unfold co at h4 ⊢;rw [List.getElem?_set_ne (by omega)];exact h4)
   refine⟨fun x=>?_,e2,e3⟩;rw [e1 x,ev_set x _ _ _ h2,ev_next rest q (by omega),hz _ (by omega)]
   grind
theorem div_ev (p q:List Rat) (hq:0<dgF q):(∀x,evR p x=evR (divF p q).1 x*evR q x+evR (divF p q).2 x)∧(divF p q).2.length<dgF q∧trimF (divF p q).2=(divF p q).2:=by
 have hne:trimF q≠[]:=fun e=>by unfold dgF at hq;rw [e] at hq;cases hq
 obtain⟨e1,e2,e3⟩:=divU_ev (trimF q) hq (top_trim_ne hne) ((trimF p).length+1) (List.replicate ((trimF p).length+1 - (trimF q).length) 0) (trimF p) (by omega) (trim_trim _)
  (fun h=>by rw [List.length_replicate];have:0<(trimF q).length:=hq;omega) (fun i _=>by
   unfold co;rw [List.getElem?_replicate]
   split <;> rfl)
 refine⟨fun x=>?_,e2,e3⟩;have h:=e1 x;rw [ev_trim q,ev_trim p] at h
 have h0:evR (List.replicate ((trimF p).length+1 - (trimF q).length) 0) x=0:=ev_zero (fun i=>by
  unfold co;rw [List.getElem?_replicate]
  split <;> rfl) x
 rw [h0] at h;unfold divF;rw [ev_trim]
 grind
theorem div_dg (p q:List Rat) (hq:0<dgF q):dgF (divF p q).2<dgF q:=by
 obtain⟨-,h1,h2⟩:=div_ev p q hq;unfold dgF at *;rw [h2];exact h1
theorem div_exact {p q:List Rat} (hq:0<dgF q) (h:Dv q p):(divF p q).2=[]∧∀x,evR p x=evR (divF p q).1 x*evR q x:=by
 obtain⟨h1,h2,h3⟩:=div_ev p q hq;have h4:Dv q (divF p q).2:=h.comb (Dv.refl q) [1] (scaleF (divF p q).1 (-1)) fun x=>by rw [ev_one,ev_scaleF,h1 x];grind
 have h5:=h4.small (div_dg p q hq)
 have h6:(divF p q).2=[]:=by
  rw [←h3];exact List.length_eq_zero_iff.1 h5
 refine⟨h6,fun x=>?_⟩;rw [h1 x,h6]
 show _+(0:Rat)=_
 grind
end Go.Proofs.YtkoaakefgacokaaGreatDoor
