/-
  Parts of the proof. No condition.
-/
import Derived.Test.YtoloaehmppcjoaaGreatW2aw
import Derived.Test.YtoloaehmppcjoaaGreatW2as
set_option linter.unusedVariables false
set_option linter.unusedSimpArgs false
set_option maxRecDepth 8000
set_option maxHeartbeats 8000000
open Go.Proofs.Tryz
namespace Go.Proofs.YtoloaehmppcjoaaGreat.V.M
section
theorem iX.Rt {G H:Gr}{k:Bs}{n:Nat}(h:iX G H k n){i:Nat}{x:Nd}(hx:H.list[i]?=some x):G.list[i]?=some x∨i=n:=by
 rcases h.list with⟨h1,_⟩|⟨_,h2,h1⟩
 ·rw[h1] at hx;exact .inl hx
 ·rw[h1] at hx
  by_cases hi:i<G.list.length
  ·rw[gp hi] at hx;exact .inl hx
  ·have h3:=(aV.1 hx).1;simp only[bH,ek,vz] at h3;exact .inr ah
theorem C'.inv {G H:Gr}{p c:Bs}(h:C' G H p c)(hi:jM G)(qh:bf p=true)(qg:bf c=true)(bz:¬fm G p c)(tC:p≠c)(hlen:G.list.length+dO G p+dO G c≤G.cM)(qV:G.cp≠G.dg)(iO:∀x∈H.list,x.mark≤H.cW):jM H:=by
 obtain⟨G0,H1,H2,a,b,hs,_,jb,fM,fg,⟨xa,xb,lY,gi,hH⟩,_⟩:=h.list;have n0:=hs.nodes hi.nodes;have n1:=jb.nodes qh n0;have n2:=fM.nodes qg n1;have uE:xa.key=p:=by
  obtain⟨x1,q1,q2⟩:=jb.at;have q3:=fM.ox q1;rw[lY] at q3;cases q3;exact q2
 have mI:xb.key=c:=by
  obtain⟨y1,r1,r2⟩:=fM.at;rw[gi] at r1;cases r1;exact r2
 have adK:b∉xa.down:=fun hb=>bz (hs.ti.1 ((jb.ti n0.down).1 ((fM.ti n1.down).1 ⟨a,b,xa,xb,lY,uE,hb,gi,mI⟩)))
 have n3:=alL lY gi fg hH adK n2;have rW:=jb.length;have jf:=fM.length;have S3:=hs.length;have Ef:=jb.dO (k':=c) (fun e=>tC e.symm);have e1:dO G0 p=dO G p:=by simp only[dO,hs.keys]
 have e2:dO G0 c=dO G c:=by simp only[dO,hs.keys]
 have wk:H.list.length=H2.list.length:=by rw[hH];simp
 have Th:=h.cM;have Tg:=h.dg;have adv:=h.cp;have fU:=hi.eZ.mx;have tv:H.list.length≤H.cM:=by omega
 have aek:(H2.list.set a { xa with down:=xa.down++[b]})[b]?=some xb:=by rw[dv fg];exact gi
 have adi:jZ H=H.cp:=by
  have s1:=Kp (y:={ xb with up:=xb.up++[a]}) (·.down.length) aek;have s2:=Kp (y:={ xa with down:=xa.down++[b]}) (·.down.length) lY;have s3:=fM.jZ;have s4:=jb.jZ;have s5:=hs.jZ;have s6:=hi.zt;have s7:=vL H2;rw[vL,hH,adv];simp only[bH,ek,vz] at s1 s2;omega
 refine⟨⟨h.ok.1,by omega,n3.down,fun j x hx=>?_⟩,h.ok.2,n3.nJ,n3.pj,n3.nT,n3.mi,tv,adi,⟨?_,?_⟩,fun x hx=>?_,n3.keys,iO⟩
 ·have hm:=bD hx;have d1:=Cx (n3.nT x hm) (n3.down j x hx);have d2:=dM (n3.keys x hm);omega
 ·have:=hi.cp;omega
 ·have:=hi.cp;omega
 ·obtain⟨j,hj⟩:=ey hx;rw[hH,O5 (aV.1 lY).1 (aV.1 gi).1 fg] at hj
  by_cases q1:j=b
  ·rw[if_pos q1] at hj;cases hj;exact .inr (by simp)
  ·rw[if_neg q1] at hj
   by_cases q2:j=a
   ·rw[if_pos q2] at hj;cases hj;exact .inl (by simp)
   ·rw[if_neg q2] at hj
    rcases fM.Rt hj with hj|hj
    ·rcases jb.Rt hj with hj|hj
     ·obtain⟨y,r1,_,r2,r3⟩:=hs.get hj;rw[r2,r3];exact hi.used y (bD r1)
     ·exact absurd hj q2
    ·exact absurd hj q1
theorem dw.inv {G H:Gr}(h:dw G H)(hi:jM G)(iO:∀x∈H.list,x.mark≤H.cW):jM H:=by
 have n:=h.nodes hi.nodes;have hl:=h.length;have Th:=h.cM;have Tg:=h.dg;have qV:=h.cp;have he:=h.jZ;refine⟨h.eZ hi.eZ,by unfold xB;rw[h.cells];exact hi.cells,n.nJ,n.pj,n.nT,n.mi,by have:=hi.len;omega,by have:=hi.zt;omega,by have:=hi.cp;omega,fun x hx=>?_,n.keys,iO⟩;obtain⟨j,hj⟩:=ey hx;obtain⟨y,r1,_,r2,r3⟩:=h.get hj;rw[r2,r3];exact hi.used y (bD r1)
theorem ud.inv {G H:Gr}{p c:Bs}{z:Bool}{e:Int}(h:ud G H p c z e)(hi:jM G)(iO:∀x∈H.list,x.mark≤H.cW):jM H:=by
 cases h with
 |bad _ h=>subst h;exact hi
 |has _ _ _ h=>subst h;exact hi
 |Hf _ _ _ _ h=>exact h.inv hi iO
 |full _ _ _ _ _ _ h=>exact h.inv hi iO
 |new qh qg bz tC _ hl hk h=>exact h.inv hi qh qg bz tC hl hk iO
end
section
attribute [local irreducible] GO GX
theorem Xs (m k:Int)(b:Nat)(w:World)(hB:cE w b [iV k]):aj prog 267 [iV m,ak b].toArray w fun v w'=>v = .bool (decide (m=k))∧w'=w:=by
 refine aj.enter func267 rfl ntmps267 rfl (go ?_);exact⟨rfl,rfl⟩
theorem aeD (l:List Nat)(x n c:Nat)(hn:l.length=n)(hl:n<2^40)(a:Option Addr)(b:Nat)(w:World)(hA:bN w a (aG l))(hB:cE w b [iV x]) :
  aj prog 314 [.slice a n c, .func (.func 267) #[] #[ak b]].toArray w fun v w'=>(∃z:Int,v=iV z∧((z = -1∧x∉l)∨∃i:Nat,z=i∧l[i]?=some x∧x∉l.take i))∧w'=w:=by
 subst hn;refine aj.enter func314 rfl ntmps314 rfl (go ?_);refine GC.bR [0,1,7] (fun k:Nat=>[(8, .int .i64 k)]) (fun k w'=>k≤l.length∧x∉l.take k∧w=w') (fun k=>l.length - k) 0 rfl rfl ⟨bh _,by simp,rfl⟩ ?_;rintro k _ ⟨hk,bz,rfl⟩;refine go ?_;refine dq (fun hc=>?_) (fun hc=>?_)<;>refine go ?_
 ·have aN:k<l.length:=by omega
  obtain⟨b',o,e,gN⟩:=uZ hA (show l[k]?=some l[k] by simp);subst e;refine GX.next rfl (GO.indexAddr rfl rfl rfl rfl ah ah rfl ?_);refine GX.lD (gN (k:Int) ah) rfl rfl rfl rfl (go ?_);refine GX.da (Xs (l[k]:Nat) x b w hB) rfl rfl rfl rfl rfl rfl (go ?_);refine dq (fun hq=>?_) (fun hq=>?_)<;>refine go ?_
  ·exact⟨⟨_,rfl, .inr ⟨k,rfl,by rw[bO aN];congr 1;omega,bz⟩⟩,rfl⟩
  refine GQ.bj (k+1) rfl ⟨aN,?_,rfl⟩ ah;rw[lh aN];intro h
  rcases cx.1 h with h|h
  ·exact bz h
  ·simp at h;omega
 have kQ:k=l.length:=by omega
 subst kQ;rw[kD] at bz;exact⟨⟨_,rfl, .inl ⟨rfl,bz⟩⟩,rfl⟩
end
section
attribute [local irreducible] GX
theorem aji {P:Program}{w:World}{B o:Nat}{vs:List Value}(hW:Wr w B o vs.length)(h1:∀u∈vs,u.oneCell'=true) :
  (storeCells ⟨B,o,none⟩ vs).run P w = .ok () (w.setCells B o vs)∧mu w (w.setCells B o vs) B o vs:=by
 obtain⟨c,et,fr,hb,ho,hz⟩:=hW;have h2:=run_storeCells_cells (P:=P) B o vs 0 w (fun j hj=>by
   rw[cell_of_row w B _ c et fr hb];rw[Array.getElem?_eq_getElem ah];rfl)
  (fun j hj=>by
    have:=hz j hj;simp only[World.frozen?,hb,qy];exact this) h1
 refine⟨?_,CJ B vs o w c et fr hb ho⟩;simp only[qy] at h2;exact h2
theorem agL {z:Array Value}{sz:Nat}(hz:z.size=sz)(m:Nat):(madeCells z (m*sz)).toList=(List.replicate m z.toList).flatten:=by
 have Cd:z.toList.length=sz:=by simpa using hz
 have ly:((List.replicate m z.toList).flatten).length=m*sz:=by simp[hz]
 apply pB;intro j
 by_cases hj:j<m*sz
 ·have kS:0<sz:=by
   rcases Nat.eq_zero_or_pos sz with h|h
   ·simp[h] at hj
   ·exact h
  have wq:j % sz<z.toList.length:=by rw[Cd];exact e7 _ kS
  have h1:(madeCells z (m*sz)).toList[j]?=some (z.toList[j % sz]):=by
   simp only[madeCells,Array.toList_map,gG,Array.toList_range,List.getElem?_range hj,jV];congr 1;rw[hz];have:j % sz<z.size:=by rw[hz];exact e7 _ kS
   rw[getElem!_pos z _ this];simp
  rw[h1];have hdiv:j / sz<m:=by rw[Nat.div_lt_iff_lt_mul kS];exact hj
  have hdm:=Nat.div_add_mod j sz;have:j=(j / sz)*z.toList.length+j % sz:=by rw[Cd,Nat.mul_comm];omega
  have Na:∀(zl:List Value) (m q s:Nat),q<m→(hs:s<zl.length)→((List.replicate m zl).flatten)[q*zl.length+s]?=some zl[s]:=by
   intro zl m
   induction m with
   |zero=>intro q s h;omega
   |succ m ih=>
    intro q s hq hs;rw[List.replicate_succ,oL];cases q with
    |zero=>rw[vB,dz,gp hs];simp[hs]
    |succ q=>
     rw[iD (by rw[jm];omega)];have:(q+1)*zl.length+s - zl.length=q*zl.length+s:=by rw[jm];omega
     rw[this];exact ih q s ah hs
  have h2:=Na z.toList m (j / sz) (j % sz) hdiv wq;rw[←this] at h2;exact h2.symm
 ·rw[pH (by simp[size_madeCells];omega),pH (by rw[ly];omega)]
section
variable {P:Program}{ops:Array Oper}{Q:Exit→Act→World→Prop}{n:Nat}
variable {i:Nat}{e:Env}{w:World}{ty:TypeId}{pos:String}{an:Array Edge}{g:Option (Nat×Bool)}{dst:Option Tmp}
theorem GX.QF [Fr]{m:Nat}{x:Operand}{t el:TypeId}{aT:Nat}[hf:cr P t el 1 aT]{z:Value}[hz:ff P el [z]]{b o len cap:Nat}(hW:Wr w b o len)(hl:0<len)(h1:z.oneCell'=true)
  (ho:ops[i]?=some ⟨dst, .call ⟨.builtin .clear,#[x],#[t]⟩,ty,pos,an,g⟩) (hw:aI ops e ⟨dst, .call ⟨.builtin .clear,#[x],#[t]⟩,ty,pos,an,g⟩=some true) (hx:ev e x=some (.slice (some ⟨b,o,none⟩) len cap)) (hd:fits n dst=true)
  (h:∀w',mu w w' b o (List.replicate len z)→GX P ops Q (fun _=>True) n (bc (i+1) m) (e.put dst (.tuple #[])) w'):GX P ops Q (fun _=>True) n (bc i (m+1)) e w:=by
 refine GX.aw ho (GO.run (R:=fun v w'=>v = .tuple #[]∧mu w w' b o (List.replicate len z)) hw hd (fun a ha=>?_) (by rintro _ w' ⟨rfl,hp⟩;exact⟨fun _ _=>trivial,h w' hp⟩));obtain⟨hu,ii,zv,hi,kf,am1,mF,iR⟩:=hf.facts;have pd:zv.cells.toList=[z]:=by
  have:=hz.out;unfold xA at this;simpa[hi,kf] using this
 obtain⟨k,rfl⟩:∃k,len=k+1:=⟨len - 1,by omega⟩
 have iO:(Builtin.zeroCells zv.cells (k+1)).toList=List.replicate (k+1) z:=by
  have h3:=agL iR (k+1);have h4:(madeCells zv.cells ((k+1)*1)).toList=(List.replicate (k+1) zv.cells.toList).flatten:=h3;rw[pd] at h4;have h5:∀j:Nat,(List.replicate j [z]).flatten=List.replicate j z:=fun j=>by
   induction j with
   |zero=>rfl
   |succ j ih=>rw[List.replicate_succ,oL,ih];rfl
  rw[h5] at h4;rw[←h4];simp[Builtin.zeroCells,madeCells,iR]
 have dp:=aji (P:=P) (w:=w) (B:=b) (o:=o) (vs:=List.replicate (k+1) z) (by simpa using hW) (fun u hu=>by rw[List.eq_of_mem_replicate hu];exact h1);refine⟨_, .tuple #[],_,?_, .inl rfl,rfl,dp.2⟩;rw[←iO] at dp ⊢;simp[execOp,resolve,invoke,builtin,bE ha hx,Builtin.clear_,run_underlying hu,zeroValue,typeInfo,hi,kf,dp.1]
end
end
section
attribute [local irreducible] GO GX
theorem Lm {l:List Nat}{j v:Nat}(x:Nat)(hv:l[j]?=some v):(l.take (j+1)).filter (·≠x)=(l.take j).filter (·≠x)++(if v≠x then[v] else[]):=by
 rw[gv,hv,vu];congr 1
 by_cases h:v=x<;>simp[h]
theorem aaP (l:List Nat)(x:Nat)(hx:x∈l)(hl:l.length<2^40){q c:Nat}(b:Nat)(Si:b≠q)(w:World)(hO:aH w 3 1 (some q) (some ⟨q,0,none⟩) l.length c (aG l))(hB:cE w b [iV x]) :
  aj prog 266 [.slice (some ⟨q,0,none⟩) l.length c, .func (.func 267) #[] #[ak b]].toArray w fun v w'=>
   (v = .slice (some ⟨q,0,none⟩) (l.filter (·≠x)).length c∧aH w' 3 1 (some q) (some ⟨q,0,none⟩) (l.filter (·≠x)).length c (aG (l.filter (·≠x))))∧Mod (· = q) w w':=by
 refine aj.enter func266 rfl ntmps266 rfl (go ?_);refine GX.call (aeD l x l.length c rfl hl _ b w hO.bL hB) rfl rfl rfl rfl rfl rfl ?_;rintro _ w0 ⟨⟨z,rfl,hz⟩,hw0⟩;rw[hw0];obtain⟨i0,rfl,Ip,hni⟩:∃i:Nat,z=i∧l[i]?=some x∧x∉l.take i:=by
  rcases hz with⟨_,h⟩|h
  ·exact absurd hx h
  ·exact h
 have amy:=(aV.1 Ip).1;refine go ?_;have hf0:(l.take i0).filter (·≠x)=l.take i0:=oM.2 fun y hy=>by
  simp only[ne_eq,decide_not,Bool.not_eq_eq_eq_not,Bool.not_true,decide_eq_false_iff_not];rintro rfl;exact hni hy
 refine GC.bR [0,1] (fun s:Nat×Nat×List Nat=>[(5, .int .i64 s.1),(6, .int .i64 s.2.1)])
  (fun s w'=>s.1<s.2.1∧s.2.1≤l.length∧s.2.2.length=l.length∧s.2.2.take s.1=(l.take s.2.1).filter (·≠x)∧s.2.2.drop s.2.1=l.drop s.2.1∧aH w' 3 1 (some q) (some ⟨q,0,none⟩) l.length c (aG s.2.2)∧Mod (· = q) w w')
  (fun s=>l.length - s.2.1) (i0,i0+1,l) rfl rfl ⟨by simp only;omega,by simp only;omega,rfl,?_,rfl,hO,Mod.refl w⟩ ?_
 ·simp only;rw[Lm x Ip,hf0];simp
 rintro⟨i,j,cs⟩ w1 ⟨mH,hj,gO,cK,I1,o0,rX⟩;dsimp only at mH hj gO cK I1 o0 ⊢;refine go ?_;refine dq (fun p7=>?_) (fun p7=>?_)<;>refine go ?_
 ·have SR:j<l.length:=by omega
  have TU:cs[j]?=l[j]?:=by
   have h1:=congrArg (fun m:List Nat=>m[0]?) I1;simpa using h1
  have xZ:l[j]?=some (l[j]'SR):=by simp
  generalize l[j]'SR=v at xZ;rw[xZ] at TU;refine GX.next rfl (GO.indexAddr rfl rfl rfl rfl ah ah rfl ?_);refine GX.lD (NM o0 TU (j:Int) ah) rfl rfl rfl rfl (go ?_);have DO:cE w1 b [iV x]:=hB.mod rX Si;refine GX.da (Xs (v:Nat) x b w1 DO) rfl rfl rfl rfl rfl rfl (go ?_);refine go ?_;refine dq (fun hvx=>?_) (fun hvx=>?_)<;>refine go ?_
  ·refine GX.next rfl (GO.indexAddr rfl rfl rfl rfl ah ah rfl ?_);have ei:0+((i:Nat):Int).toNat*1=i:=by simp
   refine GX.Pd o0 (j:=0+((i:Nat):Int).toNat*1) (by rw[ei,agt];omega) rfl rfl rfl rfl (by rfl) (by rfl) fun w2 jt gf=>go ?_
   rw[ei] at jt;have acC:aH w2 3 1 (some q) (some ⟨q,0,none⟩) l.length c (aG (cs.set i v)):=by simpa[aG,pG] using jt
   refine GQ.bj (i+1,j+1,cs.set i v) rfl ⟨by simp only;omega,by simp only;omega,by simpa using gO,?_,?_,acC,rX.trans gf⟩ (by simp only;omega)
   ·simp only;rw[Lm x xZ,if_pos ah,←cK,gv,dE ah,List.take_set_of_le (aY i)];rfl
   ·simp only;rw[List.drop_set_of_lt ah,←List.drop_drop,I1,List.drop_drop]
  ·have aei:v=x:=by omega
   refine GQ.bj (i,j+1,cs) rfl ⟨by simp only;omega,by simp only;omega,gO,?_,?_,o0,rX⟩ (by simp only;omega)
   ·simp only;rw[Lm x xZ,if_neg (by simp[aei]),fB];exact cK
   ·simp only;rw[←List.drop_drop,I1,List.drop_drop]
 have hje:j=l.length:=by omega
 subst hje;rw[kD] at cK;obtain⟨_,_,H9,_⟩:=rm o0;have ly:(l.filter (·≠x)).length=i:=by rw[←cK,dI];omega
 refine GX.next rfl (GO.xj rfl rfl rfl rfl (Zx ah ah) ⟨by simp;rfl,by simp,by simp⟩ ?_);have es:fi (some ⟨q,0,none⟩) ((i:Nat):Int).toNat c 1=some ⟨q,i,none⟩:=by
  unfold fi;rw[if_neg (by simp;omega)];simp[iY]
 rw[es];have ei:((i:Nat):Int).toNat=i:=by simp
 refine GX.QF (ahX o0 (by rw[ei];omega)) (by rw[ei];omega) (by rfl) rfl rfl rfl rfl fun w2 hp=>go ?_
 refine GX.next rfl (GO.xj rfl rfl rfl rfl (Qa ah ah) ⟨by simp,by simp;rfl,by simp⟩ ?_);have es2:fi (some ⟨q,0,none⟩) 0 c 1=some ⟨q,0,none⟩:=by unfold fi;split<;>simp[iY]
 rw[es2];refine go ?_;have mD:=ahW o0 hp (by rw[ei];simp;omega);have e3:(aG cs).take i=aG (l.filter (·≠x)):=by rw[←cK];simp[aG,List.map_take]
 rw[e3] at mD;rw[ly];refine⟨⟨by simp,mD⟩,rX.trans hp.mod⟩
theorem aaU (l:List Nat)(x:Nat)(hx:x∈l)(hl:l.length<2^40){q c:Nat}(w:World)(hO:aH w 3 1 (some q) (some ⟨q,0,none⟩) l.length c (aG l)) :
  aj prog 265 [.slice (some ⟨q,0,none⟩) l.length c,iV x].toArray w fun v w'=>
   (v = .slice (some ⟨q,0,none⟩) (l.filter (·≠x)).length c∧aH w' 3 1 (some q) (some ⟨q,0,none⟩) (l.filter (·≠x)).length c (aG (l.filter (·≠x))))∧Mod (· = q) w w':=by
 refine aj.enter func265 rfl ntmps265 rfl (go ?_);refine GX.box rfl rfl rfl rfl (by rfl) fun b w1 hb hB hE=>go ?_
 have hq:=hO.block.2;refine GX.call (aaP l x hx hl b ah w1 (hO.ext hE) hB) rfl rfl rfl rfl rfl rfl ?_;rintro v w2 ⟨⟨rfl,jt⟩,gf⟩;refine go ?_;exact⟨⟨rfl,jt⟩,(hE.mod).trans gf⟩
theorem Q' (l1 l2:List Bs)(n1 n2 c1 c2:Nat)(j9:l1.length=n1)(ic:l2.length=n2)(h1:n1<2^40)(h2:n2<2^40)(a1 a2:Option Addr)(w:World)(HF:bN w a1 (aK l1))(gy:bN w a2 (aK l2)) :
  aj prog 249 [.slice a1 n1 c1, .slice a2 n2 c2].toArray w fun v w'=>v = .bool (decide (l1=l2))∧Ext w w':=by
 subst j9 ic;refine aj.enter func249 rfl ntmps249 rfl (go ?_);refine dq (fun aP=>?_) (fun aP=>?_)<;>refine go ?_
 ·exact⟨congrArg _ (bQ (fun h=>by subst h;omega)).symm,Mod.refl w⟩
 have hle:l1.length=l2.length:=by omega
 refine GC.bR [0,1,12] (fun k:Nat=>[(13, .int .i64 k)]) (fun k w'=>k≤l1.length∧l1.take k=l2.take k∧Ext w w') (fun k=>l1.length - k) 0 rfl rfl ⟨bh _,rfl,Mod.refl w⟩ ?_;rintro k w1 ⟨hk,cK,hE⟩;refine go ?_;refine dq (fun hc=>?_) (fun hc=>?_)<;>refine go ?_
 ·have aN:k<l1.length:=by omega
  have MP:k<l2.length:=by omega
  obtain⟨b,o,e,gN⟩:=Gc (bN.mod HF hE fun _ _ h=>h) aN;subst e;obtain⟨b2,o2,e,LA⟩:=Gc (bN.mod gy hE fun _ _ h=>h) MP;subst e;refine GC.pv (bg [0,3,6,12,15,18,10,22,24]) (fun _=>False) mixed ai ai (go ?_)
  repeat(
   refine go ?_
   first
   |refine GX.pure rfl (GO.indexAddr rfl rfl rfl rfl ah ah rfl ?_)
   |refine GX.read rfl (GO.pe (gN (k:Int) ah) id (Ext.drew _) rfl rfl rfl ?_)
   |refine GX.read rfl (GO.pe (LA (k:Int) ah) id (Ext.drew _) rfl rfl rfl ?_))
  refine go ?_;refine dq (fun hq=>?_) (fun hq=>?_)<;>refine go ?_
  ·exact⟨congrArg _ (bQ (fun h=>by subst h;exact hq rfl)).symm,hE.trans (Ext.drew w1)⟩
  ·refine go ?_;refine GQ.bj (k+1) rfl ⟨aN,?_,hE.trans (Ext.drew w1)⟩ ah;rw[lh aN,lh MP,cK];congr 2
   first|exact hq|exact Classical.byContradiction fun h=>hq h
 have Ix:k=l1.length:=by omega
 subst Ix;rw[kD,hle,kD] at cK;exact⟨congrArg _ (b8 cK).symm,hE⟩
def kZ (l:List Bs):Nat:=(l.map List.length).sum
def mA (k:Bs)(m:Nat)(l:List Bs):Int×Int:=
 if bf k=true∧(bY l).2=0∧(bY l).1=l then(if 65536<m then(0,5) else(((k.length+m+64+kZ l:Nat):Int),0)) else(0,2)
theorem AU (l:List Bs):(bY l).1.length≤16:=by
 unfold bY;split
 ·simp
 ·split
  ·simp
  ·simp only[(lJ _).length_eq,fH];omega
theorem X' {l:List Bs}(h:(bY l).2=0):∀t∈l,eV t=true:=by
 unfold bY at h;split at h
 ·cases h
 ·rename_i h1
  exact sR.1 (by simpa using h1)
theorem alr {l:List Bs}{i:Nat}(h:i<l.length):kZ (l.take (i+1))=kZ (l.take i)+l[i].length:=by
 rw[lh h];simp only[kZ,eA,List.sum_append,cJ,tW,List.sum_cons,List.sum_nil,qy]
theorem X8 {l:List Bs}{d:Nat}(h:∀t∈l,t.length≤d):kZ l≤l.length*d:=by
 induction l with
 |nil=>simp[kZ]
 |cons x r ih=>
  have h1:=h x (by simp);have h2:=ih fun t ht=>h t (by simp[ht])
  simp only[kZ,cJ,List.sum_cons,ek,jm,Nat.one_mul] at h2 ⊢;omega
theorem aaE (k:Bs)(hk:k.length<2^40)(m mc:Nat)(hm:m<2^40)(va:Option Addr)(l:List Bs)(n:Nat)(hn:l.length=n)(hl:n<2^40)(a:Option Addr)(c:Nat)(w:World)(hA:bN w a (aK l)) :
  aj prog 189 [str k, .slice va m mc, .slice a n c].toArray w fun v w'=>v = .tuple #[iV (mA k m l).1,iV (mA k m l).2]∧Ext w w':=by
 subst hn;refine aj.enter func189 rfl ntmps189 rfl (go ?_);refine GX.call (Ya l l.length rfl hl a c w hA) rfl rfl rfl rfl rfl rfl ?_;rintro _ w1 ⟨⟨a',c',rfl,hN⟩,cX⟩;refine go ?_;refine GX.da (sr k w1) rfl rfl rfl rfl rfl rfl (go ?_);cases aU:bf k with
 |false=>
  refine go ?_;rw[show mA k m l=(0,2) by simp[mA,aU]];exact⟨rfl,cX⟩
 |true=>
 refine go ?_;refine dq (fun he=>?_) (fun he=>?_)<;>refine go ?_
 ·rw[show mA k m l=(0,2) by simp only[mA];rw[if_neg (fun h=>he h.2.1)]];exact⟨rfl,cX⟩
 have he:(bY l).2=0:=by omega
 have tE:=AU l;refine GX.call (Q' (bY l).1 l (bY l).1.length l.length c' c rfl rfl ah hl a' a w1 hN.bL (bN.mod hA cX fun _ _ h=>h)) rfl rfl rfl rfl rfl rfl ?_;rintro _ w2 ⟨rfl,dx⟩;have HK:=cX.trans dx;refine go ?_;refine dq (fun aP=>?_) (fun aP=>?_)<;>refine go ?_
 ·rw[show mA k m l=(0,2) by simp only[mA];rw[if_neg (fun h=>aP h.2.2)]];exact⟨rfl,HK⟩
 have yj:(bY l).1=l:=aP;have amB:l.length≤16:=by rw[←yj];exact tE
 have gy:bN w2 a (aK l):=bN.mod hA HK fun _ _ h=>h
 refine dq (fun Ml=>?_) (fun Ml=>?_)<;>refine go ?_
 ·rw[show mA k m l=(0,5) by simp only[mA];rw[if_pos ⟨aU,he,yj⟩,if_pos ah]];exact⟨rfl,HK⟩
 have TK:∀t∈l,t.length≤64:=fun t ht=>(dM (X' he t ht)).2
 have uQ:∀i,kZ (l.take i)≤16*64:=fun i=>by
  have h1:=X8 (l:=l.take i) (d:=64) fun t ht=>TK t (List.mem_of_mem_take ht)
  have h2:(l.take i).length≤16:=by rw[dI];omega
  have h3:(l.take i).length*64≤16*64:=y4 _ h2;omega
 refine go ?_;refine GC.bR [42,43] (fun i:Nat=>[(10, .int .i64 ((k.length+m+64+kZ (l.take i):Nat):Int)),(44, .int .i64 i)]) (fun i w'=>i≤l.length∧w2=w') (fun i=>l.length - i) 0 (by simp[kZ];rfl) rfl ⟨bh _,rfl⟩ ?_;rintro i _ ⟨hi,rfl⟩;have I0:=uQ i;refine go ?_;refine dq (fun hc=>?_) (fun hc=>?_)<;>refine go ?_
 ·have aN:i<l.length:=by omega
  obtain⟨b,o,e,gN⟩:=Gc gy aN;subst e;have hti:l[i].length≤64:=TK _ (pI aN);refine GX.next rfl (GO.indexAddr rfl rfl rfl rfl ah ah rfl ?_);refine GX.lD (gN (i:Int) ah) rfl rfl rfl rfl (go ?_);have dp:=alr aN;have e1:((k.length+m+64+kZ (l.take i):Nat):Int)+(l[i].length:Int)=((k.length+m+64+kZ (l.take (i+1)):Nat):Int):=by omega
  rw[e1];exact GQ.bj (i+1) rfl ⟨aN,rfl⟩ ah
 have BI:i=l.length:=by omega
 subst BI;rw[show mA k m l=(((k.length+m+64+kZ l:Nat):Int),0) by simp only[mA];rw[if_pos ⟨aU,he,yj⟩,if_neg ah]];rw[kD];exact⟨rfl,HK⟩
end
section
attribute [local irreducible] GO GX aB fz aF aS aq star
variable {o:Og}{w:World}
theorem aj.po {P:Program}{f:FuncId}{al:List Value}{o:Og}{w:World}{l:List It}{V:Value}(hs:Start o w l)(h:aj P f al.toArray w fun v w'=>v=V∧Ext w w'):aj P f al.toArray w (Po o V []):=
 h.mono fun _ _ ⟨h1,h2⟩=>⟨h1,(hs.sh.ext h2).to⟩
theorem iF.sl {og:Og}{w w':World}{l:List It}{el:TypeId}{sz n c:Nat}{a:Option Addr}{cs:List Value}(hH:SH og w l)(hE:Ext w w')(h:iF w w' el sz a n c cs):∃q,a=aA q∧SH og w' (aq el sz q n c cs::l):=by
 obtain⟨ob,h1,h2,h3⟩:=h;have e:a=aA ob:=wW h1 fun h0=>by
  cases a with
  |none=>rfl
  |some x=>rw[h3 x rfl] at h0;cases h0
 subst e;exact⟨ob,rfl,hH.cF hE h2 h1⟩
theorem Gf {a:Option Addr}{n c:Nat}(l:List Bs)(hn:l.length=n)(hl:n<2^40)(hs:Start o w [aF a (aK l)]) :
  aj prog 172 [.slice a n c].toArray w (aX o (fun q:Option Nat×Nat => .tuple #[my (bY l).1.length q,iV (bY l).2]) (fun _=>True) (mw 9 1 (bY l).1.length (aK (bY l).1))):=by
 have hA:=hs.sh.bL (x:=aF a (aK l)) (a:=a) (cs:=aK l) bP;refine(Ya l n hn hl a c w hA).mono ?_;rintro v w' ⟨⟨a',c',rfl,h1⟩,hE⟩;obtain⟨q,rfl,hH⟩:=h1.sl hs.sh hE;exact⟨(q,c'),rfl,trivial,hH.to⟩
theorem QT {va a:Option Addr}{m mc n c:Nat}(k:Bs)(l:List Bs)(hk:k.length<2^40)(hm:m<2^40)(hn:l.length=n)(hl:n<2^40)(hs:Start o w [aF a (aK l)]) :
  aj prog 189 [str k, .slice va m mc, .slice a n c].toArray w (Po o (.tuple #[iV (mA k m l).1,iV (mA k m l).2]) []):=
 aj.po hs (aaE k hk m mc hm va l n hn hl a c w (hs.sh.bL (x:=aF a (aK l)) (a:=a) (cs:=aK l) bP))
theorem Q9 {a1 a2:Option Addr}{n1 n2 c1 c2:Nat}(l1 l2:List Bs)(j9:l1.length=n1)(ic:l2.length=n2)(h1:n1<2^40)(h2:n2<2^40)(hs:Start o w [aF a1 (aK l1),aF a2 (aK l2)]) :
  aj prog 249 [.slice a1 n1 c1, .slice a2 n2 c2].toArray w (Po o (.bool (decide (l1=l2))) []):=
 aj.po hs (Q' l1 l2 n1 n2 c1 c2 j9 ic h1 h2 a1 a2 w (hs.sh.bL (x:=aF a1 (aK l1)) (a:=a1) (cs:=aK l1) bP) (hs.sh.bL (x:=aF a2 (aK l2)) (a:=a2) (cs:=aK l2) bP))
structure bM where
 k:Bs
 v:Bs
 t:List Bs
 d:Nat
 n:Nat
 st:Nat
structure cG where
 e:bM
 qv:Option Nat×Nat
 qt:Option Nat×Nat
def s0:cG:=⟨⟨[],[],[],0,0,0⟩,(none,0),(none,0)⟩
def eL (x:cG):List Value:=[str x.e.k,my x.e.v.length x.qv,my x.e.t.length x.qt,uV x.e.d,uV x.e.n,uV x.e.st]
theorem pA (x:cG):(eL x).length=6:=rfl
def fG (x:cG):List It:=[aq 5 1 x.qv.1 x.e.v.length x.qv.2 (Lib.byteCells x.e.v),aq 9 1 x.qt.1 x.e.t.length x.qt.2 (aK x.e.t)]
def cZ (S:List cG):List It:=(S.map fG).flatten
theorem CC (S T:List cG):cZ (S++T)=cZ S++cZ T:=by simp[cZ]
theorem CD (x:cG):cZ [x]=fG x:=by simp[cZ]
theorem WC {S T:List cG}(h:S.Perm T):(cZ S).Perm (cZ T):=(h.map fG).flatten
theorem abv {α:Type}{S:List α}{n:Nat}{x:α}(h:S[n]?=some x):S.Perm (x::S.eraseIdx n):=by
 induction S generalizing n with
 |nil=>simp at h
 |cons y S ih=>
  cases n with
  |zero=>simp at h;subst h;exact pD _
  |succ n=>
   simp at h;rw[List.eraseIdx_cons_succ];exact(List.Perm.cons y (ih h)).trans (List.Perm.swap _ _ _)
theorem yJ {S:List cG}{n:Nat}{x:cG}(h:S[n]?=some x):(cZ S).Perm (fG x++cZ (S.eraseIdx n)):=by
 have:=WC (abv h);rwa [show cZ (x::S.eraseIdx n)=fG x++cZ (S.eraseIdx n) by simp[cZ]] at this
theorem OI {S:List cG}{n:Nat}(x:cG)(h:n<S.length):(cZ (S.set n x)).Perm (fG x++cZ (S.eraseIdx n)):=by
 have:=yJ (S:=S.set n x) (n:=n) (x:=x) (by simp[h]);rwa [List.eraseIdx_set_eq] at this
def eN (e:bM):Nat:=e.k.length+e.v.length+64+kZ e.t
structure mr (e:bM):Prop where
 k:bf e.k=true
 v:e.v.length≤65536
 t:bY e.t=(e.t,0)
 d:e.d≤never
 n:e.n≤never
 st:e.st≤never
def zc (x:cG):Prop:=x.e.v.length≤65536∧x.e.t.length≤16∧x.e.k.length≤250
theorem Xr:zc s0:=⟨by decide,by decide,by decide⟩
theorem mr.tl {e:bM}(h:mr e):e.t.length≤16:=by have:=AU e.t;rw[h.t] at this;exact this
theorem mr.tag {e:bM}(h:mr e):∀t∈e.t,eV t=true:=X' (by rw[h.t])
theorem OD {k:Bs}(h:bf k=true):0<k.length∧k.length≤250:=dM h
theorem mr.b {x:cG}(h:mr x.e):zc x:=⟨h.v,h.tl,(OD h.k).2⟩
theorem aaC {e:bM}(h:mr e):mA e.k e.v.length e.t=(((eN e:Nat):Int),0):=by
 unfold mA;rw[if_pos ⟨h.k,by rw[h.t],by rw[h.t]⟩,if_neg (by have:=h.v;omega)];rfl
theorem K8 {e:bM}(h:mr e):65≤eN e∧eN e≤67000:=by
 have h1:=OD h.k;have h2:=h.v;have h3:=X8 (l:=e.t) (d:=64) fun t ht=>(dM (h.tag t ht)).2
 have h4:=h.tl;have h5:e.t.length*64≤16*64:=y4 _ h4;unfold eN;omega
def ej (l:List bM):Nat:=(l.map eN).sum
theorem Xt {av ta:Option Addr}{nv cv nt ct d n st:Nat}(e:bM)(hE:mr e)(h1:e.v.length=nv)(h2:e.t.length=nt)(hs:Start o w [aF ta (aK e.t)]) :
  aj prog 202 [Ho e.k (.slice av nv cv) (.slice ta nt ct) d n st].toArray w (Po o (iV (eN e)) []):=by
 have hH:=hs.sh;have hc:=aaC hE;have h3:=hE.v;have h4:=hE.tl;have h5:=OD hE.k;subst h1;refine aj.enter func202 rfl ntmps202 rfl (gh ?_);refine GX.cI (h:=fun b w hH=>gh ?_);refine GX.aM (hc:=fun _ hs=>QT (m:=e.v.length) (mc:=cv) (va:=av) e.k e.t ah ah h2 ah hs) (h:=fun w hE hH=>gh ?_);rw[hc];refine gh ?_;exact⟨rfl,hH.to⟩
end
end Go.Proofs.YtoloaehmppcjoaaGreat.V.M
