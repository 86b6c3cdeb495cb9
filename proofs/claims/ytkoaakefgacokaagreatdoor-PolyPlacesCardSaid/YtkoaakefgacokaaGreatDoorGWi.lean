/- The program's natural numbers: division by more than one word. -/
import Derived.Test.YtkoaakefgacokaaGreatDoorGWh
import Derived.Test.YtkoaakefgacokaaGreatDoorGNat
import Derived.Deep.RegionLawGrows
import Derived.Deep.DeepCutAuto
set_option linter.unusedVariables false
set_option maxRecDepth 100000
set_option maxHeartbeats 64000000
namespace Go.Proofs.YtkoaakefgacokaaGreatDoor
open Go.RowKit
theorem PkU.two (w:World):PkU (w.alloc (.cells #[.int .u64 0,.int .u64 0] 85)) w.heap.size [0,0]:=
 (BkU.new w [0,0]).pk
theorem PkU.cells {w:World} {g:Nat} {l:List Nat} (h:PkU w g l):∀j u,(l.map u64)[j]?=some u→w.cell? (Addr.add ⟨g,0,none⟩ j)=some u:=by
 intro j u hj
 have hlt:j<l.length:=by
  have:=(List.getElem?_eq_some_iff.1 hj).1
  simpa using this
 have:=h.cell j hlt
 rw [List.getElem?_map,List.getElem?_eq_getElem hlt] at hj
 simp only [Option.map_some,Option.some.injEq] at hj
 rw [←hj];rw [Addr.add_lit,Nat.zero_add,this,List.getD_eq_getElem?_getD,List.getElem?_eq_getElem hlt];rfl
theorem PkU.olds {w:World} {g:Nat} {l:List Nat} (h:PkU w g l):∀b,(some ⟨g,0,none⟩:Option Addr)=some b→∀j u,(l.map u64)[j]?=some u→w.cell? (b.add j)=some u:=by
 intro b hb;cases hb;exact h.cells
theorem PkU.of_row {w:World} {g n:Nat} {l:List Nat} {cur:Array Value} (h:w.heap[g]?=some (.cells cur 85 (0,0))) (hl:l.length=n) (hs:n≤cur.size) (ht:cur.toList.take n=l.map u64):PkU w g l:=by
 refine⟨cur,h,by omega,fun i hi=>?_⟩;have h1:(cur.toList.take n)[i]?=cur[i]?:=by rw [List.getElem?_take_of_lt (by omega)];simp
 rw [←h1,ht,List.getElem?_map,List.getElem?_eq_getElem hi,List.getD_eq_getElem?_getD,List.getElem?_eq_getElem hi];rfl
theorem ext_grown {w a b:World} (h:Ext w a) (g:a.grownBy b none):Ext w b:=
 h.grown g h.size (fun k e=>by cases e)
theorem div_main (va vb:Value) (m n:Nat) (w:World) (ha:Wd w va m) (hb:Wd w vb n) (sa:Sm m) (hle:n≤m) (h1:2≤(dg n).length) (h0:0<n):Calls Tryz.prog 82 #[va,vb] w fun e w'=>DivR m n w w' e:=by
 have hmono:=dig_length_mono B64_two hle
 change (dg n).length≤(dg m).length at hmono
 have Ha:=ZZ ha;have Hb:=ZZ hb;have Sa:=ZZ sa;have hsb:Sm n:=by unfold Sm at *;omega
 have Sb:=ZZ hsb;have Hc:=ZZ (cmp_c va vb m n w ha hb sa hsb);obtain⟨h2,h3,h4,h5,h6⟩:=dg_length_size h0;obtain⟨A,ca,rfl,hca,hA⟩:=ha;obtain⟨B,cb,rfl,hcb,hB⟩:=hb;obtain⟨bb,ob,rfl,hcb'⟩:=hB.u (by omega);obtain⟨p,hp⟩:∃p,(dg m).length=p:=⟨_,rfl⟩;obtain⟨q,hq⟩:∃q,(dg n).length=q+1:=⟨(dg n).length - 1,by omega⟩;rw [hq,Nat.add_sub_cancel] at h2 h3 h5 h6;have hcell:=hcb' q (by omega);obtain⟨y,hy⟩:∃y,(dg n).getD q 0=y:=⟨_,rfl⟩;rw [hy] at hcell h2 h3 h5;unfold Sm at sa hsb;have hc:=Hc.out;rw [hq] at h1 hmono hsb hcb h4 hc ⊢;rw [hp] at sa hmono hca hc ⊢;have Hc':=ZZ hc;have Hp:=ZZ hp;have Hq:=ZZ hq;have Hy:=ZZ hy;have H2:=ZZ h2;have H5:=ZZ h5;have H6:=ZZ h6;clear hA hB hcb' hp hq hy h2 h5 h6 hc Hc
 go_enter Tryz.func82,Tryz.ntmps82
 go_wp2_with fail;refine Hc'.out.mono ?_
 rintro e w1 ⟨⟨c,rfl,h8,h9⟩,z,rfl⟩;have h7:¬ c<0:=fun h=>by have:=h8.1 h;omega
 have h10:((((q+1:Nat)):Int) == 1)=false:=by simp;omega
 have h10':(((q:Int)+1) == 1)=false:=by simp;omega
 clear h8 h9;go_wp2_with fail;refine(lz_c y H2.out h3 _).mono ?_;rintro e w2 ⟨⟨s,rfl,hs,hY1,hY2⟩,rfl⟩;have HY1:=ZZ hY1;have HY2:=ZZ hY2;clear hY1 hY2;go_wp2_with fail;obtain⟨ie,hie,hz0,hz1,hz2⟩:=info_parts info_u64
 have hsc:n*2 ^ s<B64 ^ (q+1)∧B64 ^ (q+1)≤2*(n*2 ^ s):=
  scaled (S':=2 ^ (64 - s)) (by rw [←Nat.pow_add,show s+(64 - s)=64 by omega];rfl) H5.out H6.out HY1.out HY2.out (Nat.pow_pos (by omega))
 have hs70:s≤70368744177664:=by omega
 have hd0:s / 64=0:=by omega
 have HB:Hid (∀W,Ext w W→Calls Tryz.prog 117 #[.slice (some ⟨bb,ob,none⟩) (q+1) cb,.int .i64 s] W fun e w'=>(∃(g:Nat) (r:List Nat) (cv:Nat),e=.returned (.slice (some ⟨g,0,none⟩) (q+1) cv)∧w.heap.size≤g∧r.length=q+1∧(∀d ∈ r,d<B64)∧num B64 r=n*2 ^ s∧PkU w' g r)∧Ext W w'):=by
  intro W hW;have h:=up_r _ n s W (Hb.out.mono hW) Sb.out hs70;rw [Hq.out] at h;refine h.mono ?_;rintro e w' ⟨⟨r,rfl,hl,hd,hbk,hnum⟩,hx⟩
  have hcut:(cut r).length=q+1:=by
   rw [cut_dig B64_two hd,hnum]
   apply Nat.le_antisymm (dig_length_le B64_two hsc.1)
   have h7:n≤n*2 ^ s:=Nat.le_mul_of_pos_right _ (Nat.pow_pos (by omega));have h8:=dig_length_mono B64_two h7
   change (dg n).length≤_ at h8
   rw [Hq.out] at h8;exact h8
  have hr:r.take (q+1)=cut r:=by
   have:=cut_take r
   rwa [hcut] at this
  refine⟨⟨_,cut r,q+1+s / 64+1,by rw [hcut],hW.size,hcut,fun d h=>hd d (by rw [←hr] at h;exact List.mem_of_mem_take h),by rw [num_cut];exact hnum,?_⟩,hx⟩;rw [←hr];exact hbk.pk.take_ _
 have HA:Hid (∀W,Ext w W→Calls Tryz.prog 117 #[.slice A p ca,.int .i64 s] W fun e w'=>(∃(g:Nat) (r:List Nat) (k:Nat),e=.returned (.slice (some ⟨g,0,none⟩) k (p+1))∧r.length=k∧p≤k∧k≤p+1∧(∀d ∈ r,d<B64)∧num B64 r=m*2 ^ s∧PkU w' g r)∧Ext W w'):=by
  intro W hW;have h:=up_r _ m s W (Ha.out.mono hW) Sa.out hs70;rw [Hp.out,hd0] at h;refine h.mono ?_;rintro e w' ⟨⟨r,rfl,hl,hd,hbk,hnum⟩,hx⟩;have hle:=cut_length r;have hr:r.take (cut r).length=cut r:=cut_take r;refine⟨⟨_,cut r,(cut r).length,rfl,rfl,?_,by omega,fun d h=>hd d (by rw [←hr] at h;exact List.mem_of_mem_take h),by rw [num_cut];exact hnum,?_⟩,hx⟩
  ·rw [cut_dig B64_two hd,hnum]
   have h7:m≤m*2 ^ s:=Nat.le_mul_of_pos_right _ (Nat.pow_pos (by omega));have h8:=dig_length_mono B64_two h7
   change (dg m).length≤_ at h8
   rw [Hp.out] at h8;exact h8
  ·have:=hbk.pk.take_ (cut r).length
   rwa [hr] at this
 have Hsc:=ZZ hsc;clear hsc hs70 hd0
 go_cut [10,11] (fun v u wx=>∃gv cv gu cu:Nat,∃vs us:List Nat,v=.slice (some ⟨gv,0,none⟩) (q+1) cv∧u=.slice (some ⟨gu,0,none⟩) (p+1) cu∧gv≠gu∧w.heap.size≤gv∧w.heap.size≤gu∧p+1≤cu∧vs.length=q+1∧us.length=p+1∧(∀d ∈ vs,d<B64)∧(∀d ∈ us,d<B64)∧PkU wx gv vs∧PkU wx gu us∧num B64 us=m*2 ^ s∧num B64 vs=n*2 ^ s∧Ext w wx)
 case first=>
  have hxB:Ext w ((w.drewN z).drew):=al (av w z) (ac _);have hP:p≤1099511627776:=sa;have hwp:IntKind.i64.wrap ((p:Int)+1)=(p:Int)+1:=IntWalk.i64_in _ (by omega);have hpt:((p:Int)+1).toNat=p+1:=by omega
  have hpn:0≤(p:Int)+1:=by omega
  go_region_law (first
   |(refine step_append_grows rfl (.tmp 45) (.tmp 46) 36 rfl 85 ie (.int .u64 0) 1 8 Tryz.underlying36 hie hz0 hz1 hz2 rfl (by decide) (some ⟨ga,0,none⟩) k (p+1) (ra.map u64) (by simp [Act.eval]) (by intro h;cases h) (by simp [HraL.out]) (by first|exact HraP.out.olds|exact(HraP.out.ext (ab _ _)).olds) ⟨_,0,none⟩ 2 2 ([0,0].map u64) (by simp [Act.eval];exact rfl) rfl (by first|exact(PkU.two _).cells|exact((PkU.two _).ext hA).cells|exact((PkU.two _).ext (al hB hA)).cells) (by intro v hv;simp [u64] at hv;subst hv;rfl) (by omega) (by unfold maxLen;omega) (by omega) ?_
     intro v' w5 hown hgrow;obtain⟨hl5,⟨-,hz5⟩|⟨gu,cu,cur,rfl,hge,hcur,hcap5,-,hsz5,htk5⟩⟩:=hown;exact absurd hz5 (by omega);have hpcu:p+1≤cu:=by omega
     have hpc:(p:Int)+1≤(cu:Int):=by omega
     have HuX:Hid (Ext w w5):=by first|exact ext_grown HaX.out hgrow|exact ext_grown (al HaX.out (ab _ _)) hgrow
     have HuV:Hid (PkU w5 gv rb):=by first|exact HvP.out.same (hgrow.block _ HvP.out.lt (by simp))|exact((HvP.out.ext (ab _ _))).same (hgrow.block _ (HvP.out.ext (ab _ _)).lt (by simp))
     have HuG:Hid (gv<gu∧w.heap.size≤gu):=by
      first
       | exact⟨Nat.lt_of_lt_of_le HvP.out.lt hge,Nat.le_trans HaX.out.size hge⟩
       | exact⟨Nat.lt_of_lt_of_le (HvP.out.ext (ab _ _)).lt hge,Nat.le_trans (al HaX.out (ab _ _)).size hge⟩
     have HuU:Hid (PkU w5 gu (ra ++ [0,0])):=PkU.of_row (n:=k+2) hcur (by simp [HraL.out]) (by rw [hsz5];omega) (by rw [←Nat.mul_one (k+2),htk5,List.map_append]);clear hcur hge htk5 hsz5 hl5 hgrow)
   |(go_simp;go_at_call_of 117 bb;refine(HB.out _ (by first|exact hxB|exact al hxB (ab _ _))).mono ?_;rintro e w3 ⟨⟨gv,rb,cv,rfl,hgv,hrbl,hrbd,hrbn,hrbp⟩,hB⟩
     have HrbL:=ZZ hrbl;have HrbD:=ZZ hrbd;have HrbN:=ZZ hrbn;have HrbP:=ZZ hrbp;have Hgv:=ZZ hgv;have HbX:Hid (Ext w w3):=al (by first|exact hxB|exact al hxB (ab _ _)) hB;clear hrbl hrbd hrbn hrbp hgv)
   |(go_simp;go_at_call_of 117 A;refine(HA.out _ (by first|exact HbX.out|exact al HbX.out (ab _ _))).mono ?_;rintro e w4 ⟨⟨ga,ra,k,rfl,hral,hk1,hk2,hrad,hran,hrap⟩,hA⟩
     have HraL:=ZZ hral;have HraD:=ZZ hrad;have HraN:=ZZ hran;have HraP:=ZZ hrap;have HaX:Hid (Ext w w4):=al (by first|exact HbX.out|exact al HbX.out (ab _ _)) hA;have HvP:Hid (PkU w4 gv rb):=by first|exact HrbP.out.ext hA|exact(HrbP.out.ext (ab _ _)).ext hA
     clear hral hrad hran hrap))
  all_goals
   go_wp2_with fail;go_meet
   obtain⟨e1,e2,e3⟩:=room (B:=B64) (l:=ra) (p:=p) (by rw [B64_eq];omega) (by rw [HraL.out];exact hk1) (by rw [HraL.out];exact hk2) HraD.out;exact⟨gv,cv,gu,cu,rb,(ra ++ [0,0]).take (p+1),rfl,rfl,Nat.ne_of_lt HuG.out.1,Hgv.out,HuG.out.2,hpcu,HrbL.out,e1,HrbD.out,e3,HuV.out,HuU.out.take_ _,e2.trans HraN.out,HrbN.out,HuX.out⟩
 case rest=>
  obtain⟨gv,cv,gu,cu,vs,us,rfl,rfl,hne,hgv,hgu,hcu,hvl,hul,hvd,hud,hvp,hup,hun,hvn,hext⟩:=hcut;obtain⟨l,hl⟩:∃l,l=p - (q+1):=⟨_,rfl⟩;have hpl:p=q+1+l:=by omega
  have hP:p≤1099511627776:=sa;have Hw1:Hid (IntKind.i64.wrap ((p:Int) - ((q:Int)+1))=(l:Int)):=by show _=_;rw [IntWalk.i64_in _ (by omega)];omega
  have hlb:l≤1099511627776:=by omega
  have Hw2:Hid (wrap64 ((l:Int)+1)=(l:Int)+1):=IntWalk.wrap64_in _ ⟨by omega,by omega⟩;have hmk:=mk_words (l+1) ((l:Int)+1) (by omega) (by omega);have hvt:=hvp.cell q (by omega);obtain⟨v,hv⟩:∃v,vs.getD q 0=v:=⟨_,rfl⟩;rw [hv] at hvt;obtain⟨V,hV⟩:∃V,num B64 vs=V:=⟨_,rfl⟩;rw [hV] at hvn;have hB0:0<B64:=by rw [B64_eq];omega
  have hvq:V=num B64 (vs.take q)+B64 ^ q*v:=by
   rw [←hV,←hv,←num_take_succ B64 vs q (by omega),num_take_all B64 vs (by omega)]
  have hvq2:num B64 (vs.take q)<B64 ^ q:=by
   have:=num_lt B64 (vs.take q) (fun d hd=>hvd d (List.mem_of_mem_take hd))
   rwa [List.length_take,Nat.min_eq_left (by omega)] at this
  have hvB:v<B64:=by rw [←hv];exact getD_lt hvd hB0 q
  have hVB:V<B64 ^ (q+1):=by rw [hvn];exact Hsc.out.1
  have hv0:0<v:=by
   rcases Nat.eq_zero_or_pos v with h|h
   ·exfalso
    rw [h,Nat.mul_zero,Nat.add_zero] at hvq;have h1:=Hsc.out.2;rw [←hvn,hvq,Nat.pow_succ] at h1;have h2:B64 ^ q*2≤B64 ^ q*B64:=Nat.mul_le_mul_left _ B64_two;omega
   ·exact h
  have hV0:0<V:=by rw [hvq];have:=Nat.mul_pos (Nat.pow_pos (n:=q) hB0) hv0;omega
  have hst:num B64 us<B64 ^ (l+1)*V:=by
   rw [hun];have h:=start_lt (B:=B64) (m:=m) (M:=m*2 ^ s) (V:=V) (p:=p) (q:=q) (S:=2 ^ s) (by omega)
    (by
     have h1:2 ^ s≤2 ^ 63:=Nat.pow_le_pow_right (by omega) hs;rw [B64_eq];omega)
    (by rw [←Hp.out];exact lt_dig_length B64_two m) rfl (Nat.pow_pos (by omega)) (by rw [hvn];exact Hsc.out.2)
   rwa [show p - q=l+1 by omega] at h
  have HextW:=ZZ hext;have Hvl:=ZZ hvl;have Hul:=ZZ hul;have Hvd:=ZZ hvd;have Hud:=ZZ hud;have Hvp:=ZZ hvp;have Hup:=ZZ hup;have Hun:=ZZ hun;have Hvn:=ZZ hvn;have Hv:=ZZ hv;have HV:=ZZ hV;have HvB:=ZZ hvB;have HVB:=ZZ hVB;have HV0:=ZZ hV0;have Hst:=ZZ hst;have Hpl:=ZZ hpl;have HB0:=ZZ hB0;have Hgv:=ZZ hgv;have Hgu:=ZZ hgu;have HP:=ZZ hP;have Hlb:=ZZ hlb;have Hsb:=ZZ hsb;clear hP hlb sa hsb hvq hvq2 hst hext hvl hul hvd hud hvp hup hun hvn hv hV hvB hVB hV0 hpl hl hB0 HB HA hgv hgu;have hw1:=Hw1.out;have hw2:=Hw2.out;go_wp2_with fail;clear hw1 hw2
  go_loopw [12,13] (fun j g wr=>∃(qs uu:List Nat) (k:Nat),((∃k',k=k'+1∧k'≤l∧j=.int .i64 (k':Int))∨(k=0∧j=.int .i64 (-1)))∧qs.length=l+1∧(∀d ∈ qs,d<B64)∧uu.length=p+1∧(∀d ∈ uu,d<B64)∧BkU wr wc.heap.size qs∧PkU wr gu uu∧PkU wr gv vs∧Ext w wr∧num B64 (qs.drop k)*(B64 ^ k*V)+num B64 uu=m*2 ^ s∧num B64 uu<B64 ^ k*V) (fun j _ _=>(intOf j+1).toNat)
  case atStart=>
   refine⟨zs (l+1),us,l+1,.inl ⟨l,rfl,Nat.le_refl _,by have:=Hlb.out;rw [IntWalk.wrap64_in _ ⟨by omega,by omega⟩]⟩,zs_length _,zs_lt HB0.out _,Hul.out,Hud.out,BkU.new _ _,Hup.out.ext (ab _ _),Hvp.out.ext (ab _ _),al HextW.out (ab _ _),?_,Hst.out⟩;rw [List.drop_of_length_le (by rw [zs_length];exact Nat.le_refl _),num_nil,Nat.zero_mul,Nat.zero_add];exact Hun.out
  case round=>
   have Hgq:Hid (w.heap.size≤wc.heap.size∧gu<wc.heap.size∧gv<wc.heap.size):=⟨HextW.out.size,Hup.out.lt,Hvp.out.lt⟩;clear hmk hvt Hup Hvp HextW;generalize wc.heap.size=gq at *;obtain⟨qs,uu,k,hj,hql,hqd,hul,hud,hqp,hup,hvp,hext,hinv,hlt⟩:=hrel;have Hql:=ZZ hql;have Hqd:=ZZ hqd;have Hul:=ZZ hul;have Hud:=ZZ hud;have Hqp:=ZZ hqp;have Hup:=ZZ hup;have Hvp:=ZZ hvp;have HextR:=ZZ hext;have Hinv:=ZZ hinv;have Hlt:=ZZ hlt
   rcases hj with ⟨k,rfl,hk,rfl⟩|⟨rfl,rfl⟩
   ·have hkp:=Hpl.out
    have hcu1:=hup.cell (k+(q+1)) (by omega);have hcu2:=hup.cell (k+q) (by omega);have hcv:=hvp.cell q (by rw [Hvl.out];omega);rw [Hv.out] at hcv
    have hge:=guess_ge (B:=B64) (us:=uu) (vs:=vs) (j:=k) (q:=q) HB0.out (by omega) Hvl.out hud (by
     refine Nat.lt_of_lt_of_le hlt ?_;rw [show k+q+2=(k+1)+(q+1) by omega,Nat.pow_add B64 (k+1) (q+1)];exact Nat.mul_le_mul_left _ (Nat.le_of_lt HVB.out)) (by rw [Hv.out];exact hv0)
    rw [Hv.out,HV.out] at hge;rw [show k+q+1=k+(q+1) by omega] at hge
    have HltR:Hid (num B64 uu<B64 ^ (k+(q+1)+1)):=by
     refine Nat.lt_of_lt_of_le hlt ?_;rw [show k+(q+1)+1=(k+1)+(q+1) by omega,Nat.pow_add B64 (k+1) (q+1)];exact Nat.mul_le_mul_left _ (Nat.le_of_lt HVB.out)
    have hDB:num B64 uu / (B64 ^ k*V)<B64:=by
     rw [Nat.div_lt_iff_lt_mul (Nat.mul_pos (Nat.pow_pos HB0.out) HV0.out)];rw [Nat.pow_succ] at hlt;rw [Nat.mul_comm (B64 ^ k) V,←Nat.mul_assoc,Nat.mul_comm];rw [Nat.mul_comm B64 V,←Nat.mul_assoc,Nat.mul_comm,];exact Nat.lt_of_lt_of_eq hlt (by grind)
    obtain⟨a,ha⟩:∃a,uu.getD (k+(q+1)) 0=a:=⟨_,rfl⟩;obtain⟨b,hb⟩:∃b,uu.getD (k+q) 0=b:=⟨_,rfl⟩;have haB:a<B64:=by rw [←ha];exact getD_lt hud HB0.out _
    have hbB:b<B64:=by rw [←hb];exact getD_lt hud HB0.out _
    rw [ha] at hcu1 hge;rw [hb] at hcu2 hge;obtain⟨D,hD⟩:∃D,D=num B64 uu / (B64 ^ k*V):=⟨_,rfl⟩;rw [←hD] at hge hDB;have Hge:=ZZ hge;have HDB:=ZZ hDB;have HD:=ZZ hD;have HaB:=ZZ haB;have HbB:=ZZ hbB;obtain⟨i0,hi0⟩:∃i0,i0=k+(q+1):=⟨_,rfl⟩;obtain⟨i1,hi1⟩:∃i1,i1=k+q:=⟨_,rfl⟩;rw [←hi0] at hcu1;rw [←hi1] at hcu2
    have Hw3:Hid (IntKind.i64.wrap ((k:Int)+((q:Int)+1))=(i0:Int)):=by
     have:=HP.out
     show _=_;rw [IntWalk.i64_in _ (by omega)];omega
    have Hw4:Hid (IntKind.i64.wrap ((i0:Int) - 1)=(i1:Int)):=by
     have:=HP.out
     show _=_;rw [IntWalk.i64_in _ (by omega)];omega
    have Hw5:Hid (IntKind.i64.wrap (q:Int)=(q:Int)):=by
     have:=HP.out
     show _=_;rw [IntWalk.i64_in _ (by omega)]
    have hlk:i0<p+1:=by omega
    have hlk1:i1<p+1:=by omega
    have hlkI:(i0:Int)<(p:Int)+1:=by omega
    have hlkI1:(i1:Int)<(p:Int)+1:=by omega
    have hlk2:q<q+1:=by omega
    have hlkI2:(q:Int)<(q:Int)+1:=by omega
    have Hi0:=ZZ hi0;have Hi1:=ZZ hi1;clear hi0 hi1 hge hDB hD haB hbB ha hb hql hqd hul hud hqp hup hvp hext hinv hlt hkp;have hw3:=Hw3.out;have hw4:=Hw4.out;have hsb:=Hsb.out
    have hcase:(decide (a<v)=true∧a<v)∨(decide (a<v)=false∧v≤a):=by
     rcases Nat.lt_or_ge a v with h|h
     ·exact .inl ⟨by simpa using h,h⟩
     ·exact .inr ⟨by simpa using h,h⟩
    rcases hcase with ⟨ht,hav⟩|⟨ht,hav⟩
    ·go_wp2_with fail
     go_quiet (fail)
     go_wp2_with fail
     have HDiv:Hid (∀W,Calls Tryz.prog 118 #[.int .u64 a,.int .u64 b,.int .u64 v] W fun e w'=>∃t r:Nat,e=.returned (.tuple #[.int .u64 t,.int .u64 r])∧Hid (D≤t∧t<B64∧Ext W w')):=by
      intro W;refine(div64_c a b v hav HbB.out HvB.out W).mono ?_;rintro e w6 ⟨⟨t,r,rfl,htr,hrv,htB⟩,hx6⟩;refine⟨t,r,rfl,?_,htB,hx6⟩
      have h1:(a*B64+b) / v=t:=by
       rw [←htr,Nat.mul_comm,Nat.mul_add_div hv0,Nat.div_eq_of_lt hrv,Nat.add_zero]
      rw [←h1];exact Hge.out
     clear hav ht;have hw5:=Hw5.out
     go_cut [13] (fun g wx=>∃t:Nat,g=.int .u64 t∧Hid (D≤t∧t<B64∧Ext wr wx))
     case first=>
      go_region_law (go_simp;go_at_call 118;refine(HDiv.out _).mono ?_;rintro e w6 ⟨t,r,rfl,HT⟩)
      all_goals
       go_wp2_with fail;go_meet
       exact⟨t,rfl,HT.out.1,HT.out.2.1,al (av wr _) HT.out.2.2⟩
     obtain⟨t0,rfl,HT⟩:=hcut;clear HDiv hw5;go_wp2_with fail
     go_loopw [13] (fun g wr2=>∃t:Nat,g=.int .u64 t∧D≤t∧t<B64∧PkU wr2 gu uu∧PkU wr2 gv vs∧BkU wr2 gq qs∧Ext w wr2) (fun g _=>(intOf g).toNat)
     case atStart=>exact⟨t0,rfl,HT.out.1,HT.out.2.1,Hup.out.ext HT.out.2.2,Hvp.out.ext HT.out.2.2,Hqp.out.ext HT.out.2.2,al HextR.out HT.out.2.2⟩
     case round=>
      clear Hup Hvp Hqp HextR HT;obtain⟨t,rfl,htD,htB,hup,hvp,hqp,hext⟩:=hrel;have hkp:=Hpl.out;have hVd:=Hvd.out;have Htk:=ZZ (take_c gu k (p+1 - k) (cu - k) gv cv (q+1) t uu vs wr hup Hud.out (by rw [Hul.out];omega) (by omega) (by have:=HP.out;rw [Hul.out];omega) hvp.cl Hvd.out Hvl.out hne htB);have HtD:=ZZ htD;have HtB:=ZZ htB;have Hup:=ZZ hup;have Hvp:=ZZ hvp;have Hqp:=ZZ hqp;have Hext:=ZZ hext;have hcuk:¬ cu=k:=by omega
      have hcuk2:¬ k=cu:=by omega
      have hkI:(k:Int)≤(p:Int)+1:=by omega
      have hkN:k≤p+1:=by omega
      clear htD htB hup hvp hqp hext hkp hVd;go_wp2_with fail;refine Htk.out.mono ?_;rintro e w7 ⟨us',b,rfl,hul',hud',hpk',hgr,hout,hnum⟩;have Hul':=ZZ hul';have Hud':=ZZ hud';have Hpk':=ZZ hpk';have Hgr:=ZZ hgr;have Hout:=ZZ hout;have Hnum:=ZZ hnum;have hkp:=Hpl.out;have hrt:=round_take (B:=B64) (us:=uu) (us':=us') (j:=k) (r:=q+1) (t:=t) (V:=V) (b:=b) HB0.out (by rw [Hul.out];omega) Hul'.out Hud'.out HV0.out HltR.out Hout.out (by have h:=Hnum.out;rw [HV.out] at h;exact h) (by rw [←HD.out];exact HtD.out);rw [←HD.out] at hrt;have Hrt:=ZZ hrt;have Hvp7:Hid (PkU w7 gv vs):=Hvp.out.same (Hgr.out.block _ Hvp.out.lt (by simp;exact hne));have Hqp7:Hid (BkU w7 gq qs):=(Hgr.out.block _ Hqp.out.lt (by simp;exact Nat.ne_of_gt Hgq.out.2.1)).trans Hqp.out;have Hext7:Hid (Ext w w7):=Hext.out.grown Hgr.out Hext.out.size (fun x hx=>by cases hx;exact Hgu.out);clear hul' hud' hpk' hgr hout hnum hrt Htk
      cases b
      ·obtain⟨h8,h9⟩:=Hrt.out.2.1 rfl
       subst h8;have Hset:=ZZ (Hqp7.out.set_ k t);have hci:=Hqp7.out.cell k (by rw [Hql.out];omega);have hfi:=Hqp7.out.frozen k;have Hvp8:Hid (PkU (w7.setCell ⟨gq,k,none⟩ (.int .u64 (t:Int))) gv vs):=Hvp7.out.same (Below.heap_setCell _ _ _ _ (Nat.ne_of_lt Hgq.out.2.2));have Hup8:Hid (PkU (w7.setCell ⟨gq,k,none⟩ (.int .u64 (t:Int))) gu us'):=Hpk'.out.same (Below.heap_setCell _ _ _ _ (Nat.ne_of_lt Hgq.out.2.1));have Hext8:Hid (Ext w (w7.setCell ⟨gq,k,none⟩ (.int .u64 (t:Int)))):=Hext7.out.setCell Hgq.out.1 _;have hklt:k<l+1:=by omega
       have hkltI:(k:Int)<(l:Int)+1:=by omega
       have Hw6:Hid (IntKind.i64.wrap ((k:Int) - 1)=(k:Int) - 1):=by
        have:=HP.out
        show _=_;rw [IntWalk.i64_in _ (by omega)]
       have Hiv:=ZZ (outer_step (B:=B64) (V:=V) (N:=num B64 uu) (M:=m*2 ^ s) (j:=k) (D:=t) (qs:=qs) (by rw [Hql.out];exact hklt) Hinv.out HD.out);have H9:=ZZ h9;clear h9 hkp;have hw6:=Hw6.out
       go_wp2
       go_roundw
       case rel=>
        refine⟨qs.set k t,us',k,?_,by rw [List.length_set,Hql.out],set_lt Hqd.out HtB.out _,by rw [Hul'.out,Hul.out],Hud'.out,Hset.out,Hup8.out,Hvp8.out,Hext8.out,by rw [H9.out];exact Hiv.out,by rw [H9.out];exact Nat.mod_lt _ (Nat.mul_pos (Nat.pow_pos HB0.out) HV0.out)⟩
        rcases Nat.eq_zero_or_pos k with h|h
        ·exact .inr ⟨h,by rw [h];rfl⟩
        ·exact .inl ⟨k - 1,by omega,by omega,by congr 1;omega⟩
       case measure=>simp [intOf]
      ·have hgt:=Hrt.out.1 rfl
       obtain⟨t',ht'⟩:∃t',t'=t - 1:=⟨_,rfl⟩
       have Hw7:Hid (IntKind.u64.wrap ((t:Int) - 1)=(t':Int)):=by
        have:=HtB.out
        rw [B64_eq] at this
        show _=_;rw [IntWalk.u64_in _ (by omega)];omega
       have Hgv2:=ZZ (give_c gu k (p+1 - k) (cu - k) gv cv (q+1) t us' vs w7 Hpk'.out Hud'.out (by rw [Hul'.out,Hul.out];omega) (by omega) (by have:=HP.out;rw [Hul'.out,Hul.out];omega) Hvp7.out.cl Hvd.out Hvl.out hne HtB.out);have Ht':Hid (D≤t'∧t'<t):=⟨by omega,by omega⟩;clear hgt ht' hkp;have hw7:=Hw7.out;go_wp2_with fail;refine Hgv2.out.mono ?_;rintro e w9 ⟨us2,b2,rfl,hul2,hud2,hpk2,hgr2,hout2,hnum2⟩;have hkp:=Hpl.out;have hsame:us2=uu:=round_give (B:=B64) (j:=k) (r:=q+1) (t:=t) (V:=V) HB0.out (by rw [Hul.out];omega) Hul'.out hul2 Hud.out hud2 HltR.out Hrt.out.2.2 hout2 (by have h:=Hnum.out;rw [HV.out] at h;exact h) (by have h:=hnum2;rw [HV.out] at h;exact h);subst hsame;have Hpk2:=ZZ hpk2;have Hvp9:Hid (PkU w9 gv vs):=Hvp7.out.same (hgr2.block _ Hvp7.out.lt (by simp;exact hne));have Hqp9:Hid (BkU w9 gq qs):=(hgr2.block _ Hqp7.out.lt (by simp;exact Nat.ne_of_gt Hgq.out.2.1)).trans Hqp7.out;have Hext9:Hid (Ext w w9):=Hext7.out.grown hgr2 Hext7.out.size (fun x hx=>by cases hx;exact Hgu.out);clear hul2 hud2 hpk2 hgr2 hout2 hnum2 hkp;go_wp2_with fail
       go_roundw
       case rel=>exact⟨t',rfl,Ht'.out.1,Nat.lt_trans Ht'.out.2 HtB.out,Hpk2.out,Hvp9.out,Hqp9.out,Hext9.out⟩
       case measure=>simp [intOf];exact Ht'.out.2
    ·go_wp2_with fail
     go_quiet (fail)
     go_wp2_with fail;go_wp2_with fail
     go_loopw [13] (fun g wr2=>∃t:Nat,g=.int .u64 t∧D≤t∧t<B64∧PkU wr2 gu uu∧PkU wr2 gv vs∧BkU wr2 gq qs∧Ext w wr2) (fun g _=>(intOf g).toNat)
     case atStart=>exact⟨18446744073709551615,rfl,by have:=HDB.out;rw [B64_eq] at this;omega,by rw [B64_eq];omega,Hup.out.ext (av _ _),Hvp.out.ext (av _ _),Hqp.out.ext (av _ _),al HextR.out (av _ _)⟩
     case round=>
      clear Hup Hvp Hqp HextR;obtain⟨t,rfl,htD,htB,hup,hvp,hqp,hext⟩:=hrel;have hkp:=Hpl.out;have hVd:=Hvd.out;have Htk:=ZZ (take_c gu k (p+1 - k) (cu - k) gv cv (q+1) t uu vs wr hup Hud.out (by rw [Hul.out];omega) (by omega) (by have:=HP.out;rw [Hul.out];omega) hvp.cl Hvd.out Hvl.out hne htB);have HtD:=ZZ htD;have HtB:=ZZ htB;have Hup:=ZZ hup;have Hvp:=ZZ hvp;have Hqp:=ZZ hqp;have Hext:=ZZ hext;have hcuk:¬ cu=k:=by omega
      have hcuk2:¬ k=cu:=by omega
      have hkI:(k:Int)≤(p:Int)+1:=by omega
      have hkN:k≤p+1:=by omega
      clear htD htB hup hvp hqp hext hkp hVd;go_wp2_with fail;refine Htk.out.mono ?_;rintro e w7 ⟨us',b,rfl,hul',hud',hpk',hgr,hout,hnum⟩;have Hul':=ZZ hul';have Hud':=ZZ hud';have Hpk':=ZZ hpk';have Hgr:=ZZ hgr;have Hout:=ZZ hout;have Hnum:=ZZ hnum;have hkp:=Hpl.out;have hrt:=round_take (B:=B64) (us:=uu) (us':=us') (j:=k) (r:=q+1) (t:=t) (V:=V) (b:=b) HB0.out (by rw [Hul.out];omega) Hul'.out Hud'.out HV0.out HltR.out Hout.out (by have h:=Hnum.out;rw [HV.out] at h;exact h) (by rw [←HD.out];exact HtD.out);rw [←HD.out] at hrt;have Hrt:=ZZ hrt;have Hvp7:Hid (PkU w7 gv vs):=Hvp.out.same (Hgr.out.block _ Hvp.out.lt (by simp;exact hne));have Hqp7:Hid (BkU w7 gq qs):=(Hgr.out.block _ Hqp.out.lt (by simp;exact Nat.ne_of_gt Hgq.out.2.1)).trans Hqp.out;have Hext7:Hid (Ext w w7):=Hext.out.grown Hgr.out Hext.out.size (fun x hx=>by cases hx;exact Hgu.out);clear hul' hud' hpk' hgr hout hnum hrt Htk
      cases b
      ·obtain⟨h8,h9⟩:=Hrt.out.2.1 rfl
       subst h8;have Hset:=ZZ (Hqp7.out.set_ k t);have hci:=Hqp7.out.cell k (by rw [Hql.out];omega);have hfi:=Hqp7.out.frozen k;have Hvp8:Hid (PkU (w7.setCell ⟨gq,k,none⟩ (.int .u64 (t:Int))) gv vs):=Hvp7.out.same (Below.heap_setCell _ _ _ _ (Nat.ne_of_lt Hgq.out.2.2));have Hup8:Hid (PkU (w7.setCell ⟨gq,k,none⟩ (.int .u64 (t:Int))) gu us'):=Hpk'.out.same (Below.heap_setCell _ _ _ _ (Nat.ne_of_lt Hgq.out.2.1));have Hext8:Hid (Ext w (w7.setCell ⟨gq,k,none⟩ (.int .u64 (t:Int)))):=Hext7.out.setCell Hgq.out.1 _;have hklt:k<l+1:=by omega
       have hkltI:(k:Int)<(l:Int)+1:=by omega
       have Hw6:Hid (IntKind.i64.wrap ((k:Int) - 1)=(k:Int) - 1):=by
        have:=HP.out
        show _=_;rw [IntWalk.i64_in _ (by omega)]
       have Hiv:=ZZ (outer_step (B:=B64) (V:=V) (N:=num B64 uu) (M:=m*2 ^ s) (j:=k) (D:=t) (qs:=qs) (by rw [Hql.out];exact hklt) Hinv.out HD.out);have H9:=ZZ h9;clear h9 hkp;have hw6:=Hw6.out
       go_wp2
       go_roundw
       case rel=>
        refine⟨qs.set k t,us',k,?_,by rw [List.length_set,Hql.out],set_lt Hqd.out HtB.out _,by rw [Hul'.out,Hul.out],Hud'.out,Hset.out,Hup8.out,Hvp8.out,Hext8.out,by rw [H9.out];exact Hiv.out,by rw [H9.out];exact Nat.mod_lt _ (Nat.mul_pos (Nat.pow_pos HB0.out) HV0.out)⟩
        rcases Nat.eq_zero_or_pos k with h|h
        ·exact .inr ⟨h,by rw [h];rfl⟩
        ·exact .inl ⟨k - 1,by omega,by omega,by congr 1;omega⟩
       case measure=>simp [intOf]
      ·have hgt:=Hrt.out.1 rfl
       obtain⟨t',ht'⟩:∃t',t'=t - 1:=⟨_,rfl⟩
       have Hw7:Hid (IntKind.u64.wrap ((t:Int) - 1)=(t':Int)):=by
        have:=HtB.out
        rw [B64_eq] at this
        show _=_;rw [IntWalk.u64_in _ (by omega)];omega
       have Hgv2:=ZZ (give_c gu k (p+1 - k) (cu - k) gv cv (q+1) t us' vs w7 Hpk'.out Hud'.out (by rw [Hul'.out,Hul.out];omega) (by omega) (by have:=HP.out;rw [Hul'.out,Hul.out];omega) Hvp7.out.cl Hvd.out Hvl.out hne HtB.out);have Ht':Hid (D≤t'∧t'<t):=⟨by omega,by omega⟩;clear hgt ht' hkp;have hw7:=Hw7.out;go_wp2_with fail;refine Hgv2.out.mono ?_;rintro e w9 ⟨us2,b2,rfl,hul2,hud2,hpk2,hgr2,hout2,hnum2⟩;have hkp:=Hpl.out;have hsame:us2=uu:=round_give (B:=B64) (j:=k) (r:=q+1) (t:=t) (V:=V) HB0.out (by rw [Hul.out];omega) Hul'.out hul2 Hud.out hud2 HltR.out Hrt.out.2.2 hout2 (by have h:=Hnum.out;rw [HV.out] at h;exact h) (by have h:=hnum2;rw [HV.out] at h;exact h);subst hsame;have Hpk2:=ZZ hpk2;have Hvp9:Hid (PkU w9 gv vs):=Hvp7.out.same (hgr2.block _ Hvp7.out.lt (by simp;exact hne));have Hqp9:Hid (BkU w9 gq qs):=(hgr2.block _ Hqp7.out.lt (by simp;exact Nat.ne_of_gt Hgq.out.2.1)).trans Hqp7.out;have Hext9:Hid (Ext w w9):=Hext7.out.grown hgr2 Hext7.out.size (fun x hx=>by cases hx;exact Hgu.out);clear hul2 hud2 hpk2 hgr2 hout2 hnum2 hkp;go_wp2_with fail
       go_roundw
       case rel=>exact⟨t',rfl,Ht'.out.1,Nat.lt_trans Ht'.out.2 HtB.out,Hpk2.out,Hvp9.out,Hqp9.out,Hext9.out⟩
       case measure=>simp [intOf];exact Ht'.out.2
   ·have hcq:q+1≤cu:=by omega
    have hcqI:(q:Int)+1≤(cu:Int):=by omega
    have hqt:((q:Int)+1).toNat=q+1:=by omega
    have hqn:0≤(q:Int)+1:=by omega
    rw [Nat.pow_zero,Nat.one_mul] at hinv hlt;rw [List.drop_zero] at hinv;have htk:(uu.take (q+1)).length=q+1:=by rw [List.length_take,hul];omega
    have hdt:∀d ∈ uu.take (q+1),d<B64:=fun d h=>hud d (List.mem_of_mem_take h);have hnt:num B64 (uu.take (q+1))=num B64 uu:=(num_take_of_lt HB0.out (by omega) (Nat.lt_trans hlt HVB.out)).1;obtain⟨h8,h9⟩:=long_end (m:=m) (n:=n) (S:=2 ^ s) (Q:=num B64 qs) (N:=num B64 uu) (Nat.pow_pos (by omega)) h0 (by rw [←Hvn.out];exact hinv) (by rw [←Hvn.out];exact hlt);have hs70:s≤70368744177664:=by omega
    have HcQ:Hid (∀W,Ext wr W→Calls Tryz.prog 83 #[.slice (some ⟨gq,0,none⟩) (l+1) (l+1)] W fun e w'=>e=.returned (.slice (some ⟨gq,0,none⟩) (cut qs).length (l+1))∧W=w'):=
     fun W hW=>cut_c _ qs _ W ((hqp.ext hW).cl) (l+1) hql (Nat.le_refl _) (by have:=Hlb.out;omega)
    have HcU:Hid (∀W,Ext wr W→Calls Tryz.prog 83 #[.slice (some ⟨gu,0,none⟩) (q+1) cu] W fun e w'=>e=.returned (.slice (some ⟨gu,0,none⟩) (cut (uu.take (q+1))).length cu)∧W=w'):=
     fun W hW=>cut_c _ (uu.take (q+1)) _ W (((hup.take_ _).ext hW).cl) (q+1) htk hcq (by have:=Hsb.out;omega)
    have HdU:Hid (∀W,Ext wr W→Calls Tryz.prog 121 #[.slice (some ⟨gu,0,none⟩) (cut (uu.take (q+1))).length cu,.int .i64 s] W fun e w'=>∃v,e=.returned v∧Hid (Wd w' v (m % n))∧Hid (Ext W w')):=by
     intro W hW;refine(down_c _ (num B64 (uu.take (q+1))) s W (cut_w hdt (((hup.take_ _).ext hW).cl) (by rw [htk];exact hcq)) ?_ hs70).mono ?_
     ·unfold Sm
      have:=dig_length_le (n:=num B64 (uu.take (q+1))) (k:=q+1) B64_two (by rw [hnt];exact Nat.lt_trans hlt HVB.out)
      change (dg _).length≤_ at this
      have:=Hsb.out
      omega
     ·rintro e w' ⟨v,rfl,h1,h2⟩
      refine⟨v,rfl,?_,h2⟩
      show Wd _ _ _
      rw [←h9,←hnt];exact h1
    have HQ:Hid (∀W,Ext wr W→Wd W (.slice (some ⟨gq,0,none⟩) (cut qs).length (l+1)) (m / n)):=by
     intro W hW;rw [←h8];exact cut_w hqd ((hqp.ext hW).cl) (by rw [hql];exact Nat.le_refl _)
    have hxW:Ext wr wr.drew:=ac _;clear Hql Hqd Hul Hud Hqp Hup Hvp Hinv Hlt hql hqd hul hud hqp hup hvp hinv hlt htk hdt hnt h8 h9 hs70 hext;go_wp2_with fail
    go_region_law (first
     |(go_simp;go_at_call_of 83 gq;refine(HcQ.out _ hxW).mono ?_;rintro e w6 ⟨rfl,rfl⟩)
     |(go_simp;go_at_call_of 83 gu;refine(HcU.out _ hxW).mono ?_;rintro e w6 ⟨rfl,rfl⟩)
     |(go_simp;go_at_call 121;refine(HdU.out _ hxW).mono ?_;rintro e w6 ⟨vr,rfl,Hvr,Hx6⟩))
    all_goals
     go_wp2_with fail
     go_ret2
     exact⟨_,_,rfl,HQ.out _ (al hxW Hx6.out),Hvr.out,al HextR.out (al hxW Hx6.out)⟩
theorem div_c (va vb:Value) (m n:Nat) (w:World) (ha:Wd w va m) (hb:Wd w vb n) (sa:Sm m) (sb:Sm n) (h0:0<n):Calls Tryz.prog 82 #[va,vb] w fun e w'=>DivR m n w w' e:=by
 rcases Nat.lt_or_ge m n with h|h
 ·exact div_less va vb m n w ha hb sa sb h
 ·rcases Nat.lt_or_ge 1 (dg n).length with h1|h1
  ·exact div_main va vb m n w ha hb sa h h1 h0
  ·have:=List.length_pos_iff.2 (dig_ne_nil B64_two h0)
   change 0<(dg n).length at this
   exact div_one va vb m n w ha hb sa h (by omega) h0
end Go.Proofs.YtkoaakefgacokaaGreatDoor
