/- Law HandStale: its texts, packed. -/
import Derived.Test.YtbjalbcdbgcgdaaGreatK24
import Derived.Test.YtbjalbcdbgcgdaaGreatK07
import Derived.Test.YtbjalbcdbgcgdaaGreatK15
open List renaming cons_append->jg,count->kr,getD_eq_getElem?_getD->iw,getElem?_eq_getElem->aj,length->ni,length_append->ag,length_eq_one_iff->mu,length_map->jj,length_take->b9,map_append->mw,mem_append_right->mn,mem_cons_of_mem->ax,mem_cons_self->bc,mem_map->fu,mem_map_of_mem->jf,mem_of_getElem?->jm,mem_of_mem_take->kt,mem_reverse->ix,nil_append->fe,replicate->eb,take_add_one->ki
open Nat renaming le_refl->aq,le_trans->ae,lt_or_ge->iq,mul_le_mul->jt,pow_le_pow_right->ib,zero_le->fg
set_option linter.unusedVariables false
set_option maxRecDepth 100000
set_option maxHeartbeats 8000000
namespace Go.Proofs.YtbjalbcdbgcgdaaGreat.dB
open Go.RowKit bG sl srt nJ pm
section
variable {P:Program} {n:Nat} {F:dF} {H:List Ent} {o:Oper} {x y:Operand} {T:TypeId}
theorem MH {k':IntKind} {i j r:Int} {m:Nat} {T':TypeId} (ho:o.op= .binOp .shl T x y T') (hx:ev F x=some (.int .i64 i)) (hy:ev F y=some (.int k' j)) (hj:j=(m:Int)) (hm:m≤62) (hr:IntKind.i64.wrap (i*2^m)=r):Qt P n o F H (.int .i64 r):=
 arA (hp:=⟨by rw[hj];rfl,by omega,by omega⟩) ho hx hy (Nat.ble_eq_true_of_le (by simp [IntKind.bits];omega)) hr
end
def azX (b:Nat):Ent:=box b [.func (.func 352) #[] #[]] 441
instance {b : Nat} {L : List Ent} [hl : XL L] : XL (azX b :: L) := ⟨fun g hg => by
 rcases List.mem_cons.1 hg with rfl|hg
 ·rfl
 ·exact hl.h g hg⟩
theorem auE {S R : List Ent} {b : Nat} (p : bF (azX b) S R) : View S (KB b) := ⟨rfl, fun w hw => by
 have h := hw.1 _ p.mem;exact h, fun k hk => ⟨_, p.mem, hk⟩⟩
theorem azY (x:XC):mU x=own (slV x) 3 1 (sI x).length (flat fI (sI x)):=by
 unfold mU sI;rw[jj]
theorem FU {H R:List Ent} {tab:List XC} (p:bF (kM (tab.map mU)) H R):HSub H (many 1 (tab.map aeN)::R):=
 vK p (YX (vv:=slV) (xs:=sI) (f:=fI) (rw:=mU) (tab:=tab) bF.here azY (fun _=>rfl) tab (fun r h=>h))
def MI (F:List Int) (most:Int) (v:Value) (H':List Ent):Prop:=
 (dL F most=0∧ ∃ q c,v= .tuple #[.slice q F.length c, .int .i64 0]∧H'=[own (.slice q F.length c) 3 1 F.length (flat fI (iW F most))])∨
 (dL F most≠0∧v= .tuple #[.slice none 0 0, .int .i64 (dL F most)]∧H'=[])
def VL (F:List Int) (i:Nat) (S:List XC):Prop:=S.map tC=single (wF F) (eF F i)
theorem aaA {F:List Int} {i:Nat} {S:List XC} {f:Int} {q:Option Addr} (h:VL F i S) (hf:F[i]? =some f) (h0:0<f):VL F (i+1) (S++[(f,[i],q,1)]):=by
 have e:wF F i=f:=by unfold wF;rw[iw,hf];rfl
 unfold VL at h ⊢;rw[MB (by omega),mw,h];unfold single;rw[mw, ←e];rfl
theorem aaB {F:List Int} {i:Nat} {S:List XC} {f:Int} (h:VL F i S) (hf:F[i]? =some f) (h0: ¬ 0<f):VL F (i+1) S:=by
 have e:wF F i=f:=by unfold wF;rw[iw,hf];rfl
 unfold VL at h ⊢;rw[MD (by omega),h]
theorem auF {F:List Int} {i:Nat} {S:List XC} (h:VL F i S):S.length=(eF F i).length:=by
 have:=congrArg ni h;rw[jj,oN] at this;exact this
theorem aaC {B:Nat}: ∀ {l:List dQ},(∀ c∈l,c.2.length≤B)→(cF l).length≤B*l.length
 |[],_=>fg _
 |c::l,h=>by
  have h1:=h c bc;have h2:=aaC (l:=l) fun d hd=>h d (ax _ hd)
  unfold cF at h2 ⊢;rw[List.flatMap_cons,ag,List.length_cons,Nat.mul_succ];omega
attribute [local irreducible] box own sl gH aH bC Qt cJ cG dC dG eO
theorem aEO:Ct Tryz.prog 351 [.func (.func 352) #[] #[]] [] fun v H'=> ∃ b,v=sF b∧H'=[azX b]:=by
 unfold azX sF;(refine Ye Tryz.func351 Tryz.ntmps351 ?_;intro Fr);(repeat' (first|refine Wa ?_|refine We ?_|(refine Wb ?_;intro b)|fail));exact Ea (x:=⟨_,rfl,rfl⟩)
theorem auG (q:Option Addr) (c:Nat) (F:List Int) (most:Int) (hl:F.length≤1000000000000000) (h: ¬ (xU F=0∧1≤most∧most≤15)):
  Ct Tryz.prog 339 [.slice q F.length c, .int .i64 most] [sl 1 (.slice q F.length c) (F.map fI)] (MI F most):=by
 have CK:=bH q c F hl;by_cases hk:xU F=0
 ·have e:dL F most=1:=by unfold dL;rw[if_neg (by rw[hk];simp),if_pos (by omega)]
  have R0:MI F most (.tuple #[.slice none 0 0, .int .i64 1]) []:= .inr ⟨by rw[e];decide,by rw[e],rfl⟩;rw[hk] at CK;(refine Ye Tryz.func339 Tryz.ntmps339 ?_;intro Fr);(repeat' (first|refine Wa ?_|refine We ?_|refine Wc (CK ..) ?_|(refine Ws ?_ ?_<;>intro h)|fail));all_goals first|(exfalso;omega)|exact Ea (x:=R0)
 ·have e:dL F most=xU F:=by unfold dL;rw[if_pos hk]
  have R0:MI F most (.tuple #[.slice none 0 0, .int .i64 (xU F)]) []:= .inr ⟨by rw[e];exact hk,by rw[e],rfl⟩;generalize xU F=ce at*;(refine Ye Tryz.func339 Tryz.ntmps339 ?_;intro Fr);(repeat' (first|refine Wa ?_|refine We ?_|refine Wc (CK ..) ?_|fail));exact Ea (x:=R0)
theorem amR (q:Option Addr) (c:Nat) (F:List Int) (m:Nat) (h:eT F) (hm:m≤14):
  Ct Tryz.prog 339 [.slice q F.length c, .int .i64 ((m+1:Nat):Int)] [sl 1 (.slice q F.length c) (F.map fI)] (MI F ((m+1:Nat):Int)):=by
 have hl:=h.1;have CK:=bH q c F (by omega);rw[mW.2 h] at CK;have hone:=xT;have hpow:2^(m+1)≤32768:=ae (ib (by decide) (by omega:m+1≤15)) (by decide);have hp0:=Nat.two_pow_pos (m+1);have hwr:IntKind.i64.wrap (1*2^(m+1))=((2^(m+1):Nat):Int):=by
  rw[Int.one_mul,show ((2:Int)^(m+1))=((2^(m+1):Nat):Int) by simp];exact pS (by omega)
 have hmm:((m+1:Nat):Int).toNat=m+1:=by omega
 obtain⟨w,hw⟩: ∃ w,2^(m+1)=w:=⟨_,rfl⟩;rw[hw] at hpow hp0 hwr;have hpl:=VI F F.length;have R6:w<(eF F F.length).length→MI F ((m+1:Nat):Int) (.tuple #[.slice none 0 0, .int .i64 6]) []:=fun g=>by
  have e:dL F ((m+1:Nat):Int)=6:=by
   unfold dL;rw[if_neg (by rw[mW.2 h];simp),if_neg (by omega),hmm,if_pos (by rw[hw];exact g)]
  exact .inr ⟨by rw[e];decide,by rw[e],rfl⟩
 have R0: ¬ w<(eF F F.length).length→ ∀ q c,MI F ((m+1:Nat):Int) (.tuple #[.slice q F.length c, .int .i64 0]) [own (.slice q F.length c) 3 1 F.length (flat fI (iW F ((m+1:Nat):Int)))]:=fun g q c=>by
  have e:dL F ((m+1:Nat):Int)=0:=by
   unfold dL;rw[if_neg (by rw[mW.2 h];simp),if_neg (by omega),hmm,if_neg (by rw[hw];exact g)]
  exact .inl ⟨e,q,c,rfl,rfl⟩
 (refine Ye Tryz.func339 Tryz.ntmps339 ?_;intro Fr);(repeat' (first|refine Wa ?_|refine We ?_|refine Wc (CK ..) ?_|fail));refine aT (aY _ 437 2) ?_;refine aT (xM _) ?_;(refine aC (σ:=Nat×List XC×Option Addr×Nat) (fun s=>s.1≤F.length∧VL F s.1 s.2.1) (fun s=>[(29, .int .i64 (s.1:Int)),(7, .slice s.2.2.1 s.2.1.length s.2.2.2)]) (fun s=>[own (.slice s.2.2.1 s.2.1.length s.2.2.2) 437 2 s.2.1.length (flat fX s.2.1),kM (s.2.1.reverse.map mU)]) _ (fun s=>F.length-s.1) ((0,[],none,0)) (by exact⟨fg _,rfl⟩) (by exact gA) Zb (fun⟨i,S,q1,c1⟩ ⟨hi,hS⟩=> ?_);refine Da ?_);dsimp only at hi hS;have hSl:=auF hS;have hpi:=VI F i;rcases iJ F i with⟨f,hf,hlt⟩|hge
 ·have hgf:=h.2 f (jm hf);by_cases h0:0<f
  ·have hN:=fun q=>aaA (q:=q) hS hf h0
   clear R6 R0;(repeat' (first|refine Wa ?_|refine We ?_|(refine Wq ?_;intro q)|fail));refine aI wt rfl (by first|exact Ma (fX) [((f,[i],_,1):XC)] rfl|exact Mb (fX) [((f,[i],_,1):XC)] rfl) ?_;rintro _ _ ⟨q5,c5,rfl,rfl⟩;rename_i qi;refine aS (DC (e:=mU (f,[i],qi,1)) aN aN (auC _)) ?_;rw[show mU (f,[i],qi,1)::S.reverse.map mU=((S++[((f,[i],qi,1):XC)]).reverse).map mU by rw[List.reverse_append];rfl];refine eU ?_;refine Ee ((i+1,S++[(f,[i],qi,1)],q5,c5)) ?_ ?_
   ·exact⟨hlt,hN qi⟩
   ·dsimp only;omega
  ·have hN:=aaB hS hf h0;clear R6 R0;refine aZ ?_;refine Ee ((i+1,S,q1,c1)) ?_ ?_
   ·exact⟨hlt,hN⟩
   ·dsimp only;omega
 ·have hil:i=F.length:=by omega
  subst hil;refine aZ ?_;refine dJ wt rfl (MH rfl rfl rfl rfl (by omega) hwr) ?_;by_cases hover:w<(eF F F.length).length
  ·have R1:=R6 hover;clear R6 R0;refine aZ ?_;exact Ea (x:=R1)
  ·have R1:=R0 hover;clear R6 R0;have hover2:(eF F F.length).length≤w:=by omega
   refine aZ ?_;refine aI wt rfl (cT (fI) (0) (c:=F.length) rfl rfl rfl Ze Ze rfl rfl (by omega) Zg) ?_;rintro _ _ ⟨qo,rfl,rfl⟩;refine aS (FU aN) ?_;rcases iq S.length 2 with h2|h2
   ·have hidl:(pX F).length=S.length:=by rw[(AR F).length_eq,hSl]
    have eL:iW F ((m+1:Nat):Int)=xW F.length (eF F F.length):=by unfold iW;rw[if_pos (by omega)]
    rw[eL] at R1;by_cases h1:S.length=1
    ·obtain⟨x,hSx⟩: ∃ x,S=[x]:=mu.1 h1;obtain⟨j,hpj⟩: ∃ j,eF F F.length=[j]:=mu.1 (by rw[←hSl,h1]);have hxs:tC x=(wF F j,[j]):=by
      unfold VL at hS;rw[hSx,hpj] at hS;unfold single at hS;simp only[List.map_cons,List.map_nil,List.cons.injEq,and_true] at hS;exact hS
     have hjN:j<F.length:=(vP.1 (by rw[hpj];exact List.mem_singleton.2 rfl:j∈eF F F.length)).1;obtain⟨f,sg,qx,cx⟩:=x;have hsg:sg=[j]:=congrArg (fun y:dQ=>y.2) hxs;subst hsg;rw[hpj, ←fe [j], ←aiX [] hjN,VJ] at R1;have hz:(eb F.length (0:Int))[j]? =some 0:=by rw[List.getElem?_replicate,if_pos hjN]
     have hset:(eb F.length (0:Int)).set j (((kr j []:Nat):Int)+1)=(eb F.length (0:Int)).set j 1:=rfl;rw[hset] at R1;have h00:([(j:Int)]:List Int)[0]? =some (j:Int):=rfl;have hx0:S[0]? =some (f,[j],qx,cx):=by rw[hSx];rfl
     have hlot:(Value.slice qx 1 cx,([(j:Int)]:List Int).map fI)∈(S.reverse).map aeN:=by rw[hSx];simp [aeN,slV,sI]
     refine aS (zR aN hlot) ?_;clear hS hSl eL hxs hset hlot hSx;refine aZ ?_;refine dJ wt rfl (bR (i:=0) rfl rfl rfl aN rfl (by omega)) ?_;refine eU ?_;refine dJ wt rfl (jF (i:=0) (v:= .slice qx 1 cx) rfl rfl rfl aN rfl (by simp)) ?_;refine eU ?_;(refine cM wt (aG (f:=fI) (q':=1) rfl rfl rfl rfl (by exact aN) rfl (by omega) (by intro _;rfl) (by assumption) rfl rfl (by rfl)) ?_;rintro _ _ ⟨rfl,rfl⟩);refine aZ ?_;exact Ea (x:=R1 _ _)
    ·have hS0:S.length=0:=by omega
     have hp0:eF F F.length=[]:=List.eq_nil_of_length_eq_zero (by omega);rw[hp0,VJ] at R1;clear hS hSl eL;refine aZ ?_;exact Ea (x:=R1 _ _)
   ·have hidl:(pX F).length=S.length:=by rw[(AR F).length_eq,hSl]
    have eL:iW F ((m+1:Nat):Int)=xW F.length (cF ((lists (single (wF F) (pX F)) m).take (2*S.length-2))):=by unfold iW;rw[if_neg (by omega),hidl];rfl
    rw[eL] at R1;have hT:(aK S).map tC=single (wF F) (pX F):=by rw[ZX,hS,ME]
    have hTl:(aK S).length=S.length:=eC S;have hTm: ∀ x∈aK S,x∈S.reverse:=fun x hx=>ix.2 (kW.1 hx)
    have hfine:=ZZ h;have hSb: ∀ x∈S.map GU,0≤x.1∧x.1≤1000000000000:=fun x hx=>by
     obtain⟨y,hy,rfl⟩:=fu.1 hx;have h3:tC y∈single (wF F) (pX F):=by rw[←hT];exact jf (kW.2 hy)
     have h4:=(hfine _ h3).2;have h5:0≤y.1∧y.1≤1048576*((2^0:Nat):Int):=h4;show 0≤y.1∧y.1≤1000000000000;omega
    have SRT:=fun kb=>auB q1 c1 kb (S.map GU) S.length (by rw[jj]) (by omega) (by omega) hSb
    rw[←ZW,aiS,aiS] at SRT;clear hS eL hSb;generalize aK S=T at*;refine aZ ?_;(refine Ca (aEO) ?_;rintro _ _ ⟨_,⟨kb,rfl,rfl⟩,rfl⟩;refine Da ?_);refine aI wt rfl (aV rfl (SRT kb) rfl (Lp.out aN (Lp.view (lR kb) Lp.nil (auE aN)))) ?_;rintro _ _ ⟨_,⟨rfl,rfl⟩,rfl⟩;dsimp only[jg,fe];rw[←hTl] at R1 h2;rw[←hTl];have hn320:T.length≤320:=by omega
    have hTw:T.length≤w:=by omega
    have hm1:((m+1:Nat):Int)-1=(m:Int):=by omega
    refine aS (bI (f:=fX) (ys:=T) aN (fun _=>rfl) rfl) ?_;clear SRT hSl hover;have hTS: ∀ x∈T,x∈S.reverse:=hTm;generalize S.reverse=tab0 at*;refine aZ ?_;rw[hm1];(refine aC (σ:=Nat×List XC×Option Addr×Nat×List XC) (fun s=>(s.1≤m∧s.2.1.map tC=lists (single (wF F) (pX F)) s.1)∧((∀ x∈s.2.1,x∈s.2.2.2.2)∧ ∀ x∈T,x∈s.2.2.2.2)) (fun s=>[(73, .int .i64 (s.1:Int)),(11, .slice s.2.2.1 s.2.1.length s.2.2.2.1)]) (fun s=>[sl 2 (.slice s.2.2.1 s.2.1.length s.2.2.2.1) (s.2.1.map fX),many 1 (s.2.2.2.2.map aeN)]) _ (fun s=>m-s.1) ((0,T,q1,c1,tab0)) (by exact⟨⟨fg _,hT⟩,hTS,hTS⟩) (by exact gA) Zb (fun⟨k,L,qL,cL,tab⟩ ⟨⟨hk,hL⟩,hLt,hTt⟩=> ?_);refine Da ?_);dsimp only at hk hL hLt hTt;have hLl:L.length≤640:=by
     have h3:=FQ (single (wF F) (pX F)) k;rw[←hL, ←hT,jj,jj] at h3;omega
    have hpk:2^k≤16384:=ae (ib (by decide) (by omega:k≤14)) (by decide);have hLf: ∀ x∈L,VK F.length k (tC x):=fun x hx=>MF hfine k _ (by rw[←hL];exact jf hx)
    have hL1: ∀ x∈L,0≤x.1∧x.1≤1000000000000:=fun x hx=>by
     have h3:0≤x.1∧x.1≤1048576*((2^k:Nat):Int):=(hLf x hx).2;omega
    have hL2: ∀ x∈L,x.2.1.length≤16384:=fun x hx=>by
     have h3:x.2.1.length≤2^k:=(hLf x hx).1.1;omega
    rcases iq k m with hlt|hge
    ·have PR:=amQ qL cL L tab (by omega) hLt hL1 fun x hx=>by have:=hL2 x hx;omega
     clear R1;refine aZ ?_;refine aI wt rfl (aV rfl PR rfl (Lp.view (mL _ _ _) (Lp.view rfl Lp.nil (View.same aN rfl)) (View.same aN (mL _ _ _)))) ?_;rintro _ _ ⟨_,⟨ys,qy,cy,hys,rfl,rfl⟩,rfl⟩;dsimp only[jg,fe];have hyl:ys.length≤320:=by
      have h3:=congrArg ni hys;rw[jj,vN,jj] at h3;omega
     have MG:=aeQ q1 qy c1 cy T ys (by omega) (by omega);have hN:(GV T ys).map tC=lists (single (wF F) (pX F)) (k+1):=by rw[aiU,hys,hT,hL];rfl
     skip
     refine aI wt rfl (aV rfl MG rfl PG) ?_;rintro _ _ ⟨_,⟨qn,cn,rfl,rfl⟩,rfl⟩;dsimp only[jg,fe];refine aS (bI (f:=fX) (ys:=GV T ys) aN (fun _=>rfl) rfl) ?_;refine aS (FU (tab:=ys.reverse) aN) ?_;refine aS (asO aN aN) ?_;rw[←mw];refine eU ?_;refine Ee ((k+1,GV T ys,qn,cn,ys.reverse++tab)) ?_ ?_
     ·refine⟨⟨hlt,hN⟩,fun x hx=> ?_,fun x hx=>mn _ (hTt x hx)⟩;rcases azU.1 hx with hx|hx
      ·exact mn _ (hTt x hx)
      ·exact List.mem_append_left _ (ix.2 hx)
     ·dsimp only;omega
    ·have hkm:k=m:=by omega
     subst hkm;have hen:=AG (s:=single (wF F) (pX F)) (L:=k) (by rw[←hT,jj,hw];omega);rw[←hL,jj, ←hT,jj] at hen;have hcast:2*(T.length:Int)-2=((2*T.length-2:Nat):Int):=by omega
     rw[←hL] at R1;clear hL hT hfine;refine aZ ?_;rw[hcast];refine dJ wt rfl (vG rfl rfl rfl aN rfl hen) ?_;refine aS (vK aN (View.part (m:=2*T.length-2) (xs:=L) bF.here hen)) ?_;have hMl:(L.take (2*T.length-2)).length=2*T.length-2:=by rw[b9];omega
     have hMm: ∀ x∈L.take (2*T.length-2),x∈L:=fun x hx=>kt hx
     rw[←List.map_take] at R1;have hSg: ∀ k',(cF (((L.take (2*T.length-2)).take k').map tC)).length≤16384*640:=fun k'=>by
      refine ae (aaC (B:=16384) fun c hc=> ?_) ?_
      ·obtain⟨x,hx,rfl⟩:=fu.1 hc;exact hL2 x (hMm x (kt hx))
      ·rw[jj,b9,hMl];exact jt (aq _) (by omega)
     generalize 2*T.length-2=M2 at*;generalize L.take M2=M at*;rw[←VJ];refine eU ?_;(refine aC (σ:=Nat) (fun k=>k≤M2) (fun k=>[(87, .int .i64 (k:Int))]) (fun k=>[own (.slice qo F.length F.length) 3 1 F.length (flat fI (xW F.length (cF ((M.take k).map tC))))]) _ (fun k=>M2-k) (0) Zp (by exact gA) Zb (fun j hj=> ?_);refine Da ?_);rcases iq j M2 with hjl|hjg
     ·obtain⟨x,hxj⟩: ∃ x,M[j]? =some x:=⟨_,aj (by omega)⟩;have hxL:=hMm x (jm hxj);have hsN:=(hLf x hxL).1.2;have hx2:=hL2 x hxL;have hSj:=hSg j;have hnext:cF ((M.take (j+1)).map tC)=cF ((M.take j).map tC)++x.2.1:=by
       rw[ki,hxj,mw];unfold cF;rw[List.flatMap_append];simp [tC]
      have hsl:(sI x).length=x.2.1.length:=by unfold sI;rw[jj]
      generalize hSS:cF ((M.take j).map tC)=SS at*;refine aT (zR aN (VH (hLt x hxL))) ?_;clear R1 hSg;(repeat' (first|refine Wa ?_|refine We ?_|(refine Wb ?_;intro b)|fail));rw[show SS=SS++x.2.1.take 0 by rw[List.take_zero,List.append_nil]];(refine aC (σ:=Nat) (fun k=>k≤x.2.1.length) (fun k=>[(94, .int .i64 (k:Int))]) (fun k=>[own (.slice qo F.length F.length) 3 1 F.length (flat fI (xW F.length (SS++x.2.1.take k)))]) _ (fun k=>x.2.1.length-k) (0) Zp (by exact gA) Zb (fun u hu=> ?_);refine Da ?_);rcases iq u x.2.1.length with hul|hug
      ·obtain⟨z,hz⟩: ∃ z,x.2.1[u]? =some z:=⟨_,aj hul⟩;have hzI:(sI x)[u]? =some (z:Int):=by unfold sI;rw[List.getElem?_map,hz];rfl
       have hzN:z<F.length:=hsN z (jm hz);have hca:=DS (N:=F.length) (SS++x.2.1.take u) hzN;have hcs:=aiX (N:=F.length) (SS++x.2.1.take u) hzN;have hcb:kr z (SS++x.2.1.take u)≤100000000:=by
        refine ae List.count_le_length ?_;rw[ag,b9];omega
       have hnx:SS++x.2.1.take (u+1)=SS++x.2.1.take u++[z]:=by rw[ki,hz,List.append_assoc];rfl
       rw[←hnx] at hcs;generalize kr z (SS++x.2.1.take u)=cz at*;generalize xW F.length (SS++x.2.1.take u)=CU at*;clear hnext hnx;refine aZ ?_;(refine cM wt (aG (f:=fI) (q':=(((cz:Nat):Int)+1)) rfl rfl rfl rfl (by exact aN) rfl (by omega) (by intro _;rfl) (by assumption) rfl rfl (by rfl)) ?_;rintro _ _ ⟨rfl,rfl⟩);rw[hcs];refine eU ?_;refine Ee (u+1) ?_ ?_
       ·exact hul
       ·omega
      ·have hul:u=x.2.1.length:=by omega
       subst hul;rw[List.take_length, ←hnext];refine aZ ?_;refine Ee (j+1) ?_ ?_
       ·exact hjl
       ·omega
     ·have hjM:j=M2:=by omega
      subst hjM;rw[List.take_of_length_le (by omega)];clear hSg;refine aZ ?_;exact Ea (x:=R1 _ _)
theorem auH (q:Option Addr) (c:Nat) (F:List Int) (most:Int) (hl:F.length≤1000000000000000):Ct Tryz.prog 339 [.slice q F.length c, .int .i64 most] [sl 1 (.slice q F.length c) (F.map fI)] (MI F most):=by
 by_cases h:xU F=0∧1≤most∧most≤15
 ·obtain⟨h1,h2,h3⟩:=h;obtain⟨m,hm⟩: ∃ m:Nat,most=((m+1:Nat):Int):=⟨most.toNat-1,by omega⟩;subst hm;exact amR q c F m (mW.1 h1) (by omega)
 ·exact auG q c F most hl h
end Go.Proofs.YtbjalbcdbgcgdaaGreat.dB
namespace Go.Proofs.YtbjalbcdbgcgdaaGreat.dB
open Go.RowKit bG sl srt nJ pm
def aCW (F:List Int) (M:Nat) (l:Nat→Nat):Prop:=(∀ i∈eF F F.length,1≤l i∧l i≤M)∧dV (fun i=>2^(M-l i)) (eF F F.length)≤2^M
def aiY (F:List Int) (l:Nat→Nat):Int:=fW (fun i=>wF F i*(l i:Int)) (eF F F.length)
structure auI (F:List Int) (M:Nat) (l:Nat→Nat):Prop where
 none: ∀ i,i∉eF F F.length→l i=0
 right:aCW F M l
 order: ∀ i∈eF F F.length, ∀ j∈eF F F.length,wF F i<wF F j→l j≤l i
 least: ∀ l',aCW F M l'→aiY F l≤aiY F l'
theorem VM {F:List Int} {most:Int} (h:dL F most=0): ∃ l:Nat→Nat,(∀ i,i<F.length→(iW F most)[i]? =some (l i:Int))∧auI F most.toNat l:=by
 obtain⟨hg,h1,h15,hn⟩:=xX h;obtain⟨m,hm⟩: ∃ m:Nat,most=((m+1:Nat):Int):=⟨most.toNat-1,by omega⟩;subst hm;have hmt:((m+1:Nat):Int).toNat=m+1:=by omega
 rw[hmt] at hn ⊢;have hp:=AR F;have hw0: ∀ i∈eF F F.length,0<wF F i:=fun i hi=>(vP.1 hi).2
 by_cases h2:(pX F).length<2
 ·refine⟨fun i=>kr i (eF F F.length),fun i hi=> ?_, ?_⟩
  ·unfold iW;rw[if_pos h2];exact DS _ hi
  ·have hc1: ∀ i∈eF F F.length,kr i (eF F F.length)=1:=fun i hi=>by
    have h3:=List.nodup_iff_count.1 (RZ F F.length) i;have h4:=List.count_pos_iff.2 hi;omega
   refine⟨fun i hi=>List.count_eq_zero.2 hi,⟨fun i hi=>by show 1≤kr i _∧kr i _≤m+1;rw[hc1 i hi];omega, ?_⟩,fun i hi j hj _=>by show kr j _≤kr i _;rw[hc1 i hi,hc1 j hj];exact aq _,fun l' hl'=> ?_⟩
   ·have e:dV (fun i=>2^(m+1-kr i (eF F F.length))) (eF F F.length)=dV (fun _=>2^m) (eF F F.length):=mB fun i hi=>by rw[hc1 i hi];rfl
    have hl:(eF F F.length).length≤1:=by rw[←hp.length_eq];omega
    show dV (fun i=>2^(m+1-kr i (eF F F.length))) (eF F F.length)≤_;rw[e,mC,Nat.pow_succ];exact jt (aq _) (by omega)
   ·unfold aiY;have hmono: ∀ l:List Nat,(∀ i∈l,wF F i*((kr i (eF F F.length):Nat):Int)≤wF F i*(l' i:Int))→fW (fun i=>wF F i*((kr i (eF F F.length):Nat):Int)) l≤fW (fun i=>wF F i*(l' i:Int)) l:=fun l=>by
     induction l with
     |nil=>intro _;exact Int.le_refl _
     |cons a l ih=>
      intro h3;have h4:=h3 a bc;have h5:=ih fun i hi=>h3 i (ax _ hi)
      simp only[fW];omega
    refine hmono _ fun i hi=> ?_
    have h3:=(hl'.1 i hi).1;have h4:=hw0 i hi;rw[hc1 i hi];exact Int.mul_le_mul_of_nonneg_left (by omega) (by omega)
 ·have hs:pm.oL (single (wF F) (pX F)):=by
   have h3:=iP (single (wF F) (eF F F.length));rw[ME] at h3;exact h3
  have hnd:(pX F).Nodup:=hp.nodup_iff.2 (RZ F F.length);obtain⟨_,b2,b3,b4,b5,b6⟩:=aHW (w:=wF F) (idx:=pX F) (L:=m) hs hnd (fun i hi=>by have:=hw0 i (hp.mem_iff.1 hi);omega) (by omega) (by rw[hp.length_eq];exact hn);refine⟨xS (wF F) (pX F) m,fun i hi=> ?_, ?_⟩
  ·unfold iW;rw[if_neg h2,DS _ hi];unfold xS;rw[hmt];rfl
  ·refine⟨fun i hi=>b3 i fun h3=>hi (hp.mem_iff.1 h3),⟨fun i hi=>b2 i (hp.mem_iff.2 hi), ?_⟩,fun i hi j hj hw=>b5 i (hp.mem_iff.2 hi) j (hp.mem_iff.2 hj) hw,fun l' hl'=> ?_⟩
   ·rw[←DP _ hp];exact b4
   ·unfold aiY;rw[←RU _ hp, ←RU _ hp];refine b6 l' (fun i hi=>hl'.1 i (hp.mem_iff.1 hi)) ?_;rw[DP _ hp];exact hl'.2
end Go.Proofs.YtbjalbcdbgcgdaaGreat.dB
namespace Go.Proofs.YtbjalbcdbgcgdaaGreat.dB
open Go.RowKit bG sl pm
theorem aaD: ∀ {O:List Int},(∀ o∈O,0≤o∧o≤15)→lens.gM O=false
 |[],_=>rfl
 |o::O,h=>by
  have h1:=h o bc;rw[lens.gM,if_neg (by omega)];exact aaD fun x hx=>h x (ax _ hx)
theorem vQ {O:List Int} (h: ∀ o∈O,0≤o∧o≤15) (hl:O.length≤320):lens.dL O=0:=by
 unfold lens.dL;rw[if_neg (by omega),aaD h];rfl
attribute [local irreducible] box own sl gH aH bC Qt cJ cG dC dG eO
theorem azZ {F:List Int} {most:Int} (h:dL F most=0): ∀ o∈iW F most,0≤o∧o≤15:=fun o ho=>by
 obtain⟨l,hl,hok⟩:=VM h;obtain⟨_,h1,h15,_⟩:=xX h;obtain⟨i,hi⟩:=List.mem_iff_getElem?.1 ho;have hil:=(List.getElem?_eq_some_iff.1 hi).1;rw[qZ] at hil;rw[hl i hil] at hi;cases hi;by_cases hp:i∈eF F F.length
 ·have:=(hok.right.1 i hp).2;omega
 ·rw[hok.none i hp];decide
end Go.Proofs.YtbjalbcdbgcgdaaGreat.dB
namespace Go.Proofs.YtbjalbcdbgcgdaaGreat.dB
end Go.Proofs.YtbjalbcdbgcgdaaGreat.dB
