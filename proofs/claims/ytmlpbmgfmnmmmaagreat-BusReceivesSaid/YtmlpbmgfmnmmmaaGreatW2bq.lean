/-
  Parts of the proof. No condition.
-/
import Derived.Test.YtmlpbmgfmnmmmaaGreatW2bp
import Derived.Test.YtmlpbmgfmnmmmaaGreatW2ay
import Derived.Test.YtmlpbmgfmnmmmaaGreatW2bf
set_option linter.unusedVariables false
set_option linter.unusedSimpArgs false
set_option maxRecDepth 8000
set_option maxHeartbeats 8000000
open Go.Proofs.Tryz
namespace Go.Proofs.YtmlpbmgfmnmmmaaGreat.V.M
section
attribute [local irreducible] GO GX
abbrev zO (D:List (Nx×Nd)):List It:=(D.map fun p=>yD p.1 p.2).flatten
theorem Gm:∀(M:List Nx) (L:List Nd),rT M L=zO (M.zip L)
 | [],_=>by simp[rT,zO]
 |_::_,[]=>by simp[rT,zO]
 |m::M,x::L=>by
  have h:=Gm M L;unfold rT zO at h ⊢;simp[h]
theorem Pz {D:List (Nx×Nd)}{i:Nat}{p:Nx×Nd}(h:D[i]?=some p):(zO D).Perm (yD p.1 p.2++zO (D.eraseIdx i)):=by
 obtain⟨hi,rfl⟩:=aV.1 h;have h1:D.Perm (D[i]::D.eraseIdx i):=by
  rw[List.eraseIdx_eq_take_drop_succ]
  conv=>lhs;rw[←jE i D,p7 hi]
  exact List.perm_middle
 exact(h1.map _).flatten
theorem amh {D:List (Nx×Nd)}{i:Nat}{p:Nx×Nd}(h:i<D.length):(zO (D.set i p)).Perm (yD p.1 p.2++zO (D.eraseIdx i)):=by
 have h1:=Pz (D:=D.set i p) (i:=i) (p:=p) (by simp[h]);rwa [List.eraseIdx_set_eq] at h1
theorem SH.Kl {o:Og}{w:World}{l r:List It}{D:List (Nx×Nd)}{i:Nat}{m:Nx}{x:Nd}(hg:D[i]?=some (m,x))(hH:SH o w l)(hs:aB (bB (zO D)) l r:=by repeat(first|exact aB.here|apply aB.there)):SH o w (nf m x::mO m x::ny m x::bB (zO (D.eraseIdx i))::r):=
 hH.oF (yD m x) _ (Pz hg) hs
theorem SH.Ys {o:Og}{w:World}{l r:List It}{D:List (Nx×Nd)}{i:Nat}{m:Nx}{x:Nd}(hg:D[i]?=some (m,x))(hH:SH o w l)(hp:Pk l [bB (zO (D.eraseIdx i)),nf m x,mO m x,ny m x] r:=by repeat(first|exact Pk.nil|(apply Pk.cons;repeat(first|exact aB.here|apply aB.there)))):SH o w (bB (zO D)::r):=
 hH.iu (yD m x) _ hp (Pz hg)
theorem SH.Py {o:Og}{w:World}{l r:List It}{D:List (Nx×Nd)}{i:Nat}{m:Nx}{x:Nd}(hi:i<D.length)(hH:SH o w l)(hp:Pk l [bB (zO (D.eraseIdx i)),nf m x,mO m x,ny m x] r:=by repeat(first|exact Pk.nil|(apply Pk.cons;repeat(first|exact aB.here|apply aB.there)))):SH o w (bB (zO (D.set i (m,x)))::r):=
 hH.iu (yD m x) _ hp (amh hi)
theorem SH.ami {o:Og}{w:World}{l r:List It}{D:List (Nx×Nd)}{D':List (Nx×Nd)}{f:Nx×Nd→Bool}(hD:D'=D.filter f)(hH:SH o w l)(hs:aB (bB (zO D)) l r:=by repeat(first|exact aB.here|apply aB.there)):SH o w (bB (zO D')::r):=by
 have h1:(zO D).Perm (zO D'++zO (D.filter fun p=>!f p)):=by
  rw[hD,←A2,←eD];exact((List.filter_append_perm f D).symm.map _).flatten
 have h2:=hH.oF (zO D') _ h1 hs;exact((SH.mk (f:=fun _:Unit=>zO D') () h2).perm (List.Perm.swap _ _ _)).drop
def xM (t:Nat→Nat)(e:Nat)(x:Nd):Nd:={ x with down:=if 1≤e then x.down.map t else x.down,up:=if 2≤e then x.up.map t else x.up}
def C6 (p:Nx×Nd):Bool:=ep p.2
theorem Yu:∀{M:List Nx}{L:List Nd},M.length=L.length→((M.zip L).filter C6).map (·.2)=L.filter ep
 | [],[],_=>rfl
 |m::M,x::L,h=>by
  have ih:=Yu (M:=M) (L:=L) (by simpa using h);rw[List.zip_cons_cons,oo,oo];show(if ep x=true then _ else _:List _).map _=_;split
  ·rw[cK,ih]
  ·exact ih
 | [],_::_,h=>by simp at h
 |_::_,[],h=>by simp at h
theorem Km {M:List Nx}{L:List Nd}(h:M.length=L.length){i:Nat}(hi:i<L.length):∃m x,L[i]?=some x∧M[i]?=some m∧(M.zip L)[i]?=some (m,x):=
 ⟨M[i],L[i],by simp[hi],by simp[h,hi],by rw[List.getElem?_zip_eq_some];simp[h,hi]⟩
theorem VR {t:Nat→Nat}{l:List Nat}{k:Nat}{v:Nat}(h:l[k]?=some v):((l.take k).map t++l.drop k).set k (t v)=(l.take (k+1)).map t++l.drop (k+1):=by
 have hk:=(aV.1 h).1;have hlen:((l.take k).map t).length=k:=by simp;omega
 rw[List.set_append_right _ _ ah,hlen,Nat.sub_self,p7 hk,List.set_cons_zero,ic,h];simp
theorem Yv {t:Nat→Nat}:∀D:List (Nx×Nd),D.map (fun p=>(p.1,kJ t p.2))=(D.map (·.1)).zip ((D.map fun p=>(p.1,kJ t p.2)).map (·.2))
 | []=>rfl
 |p::D=>by
  have:=Yv (t:=t) D;simp only[cK,List.zip_cons_cons];rw[←this]
theorem ah3 {t:Nat→Nat}{D:List (Nx×Nd)}{r:Nat}{m:Nx}{x:Nd}(h:D[r]?=some (m,x)):((D.take r).map (fun p=>(p.1,kJ t p.2))++D.drop r).set r (m,kJ t x)=(D.take (r+1)).map (fun p=>(p.1,kJ t p.2))++D.drop (r+1):=by
 have hk:=(aV.1 h).1;have hlen:((D.take r).map fun p:Nx×Nd=>(p.1,kJ t p.2)).length=r:=by simp;omega
 rw[List.set_append_right _ _ ah,hlen,Nat.sub_self,p7 hk,List.set_cons_zero,ic,h];simp
theorem ab4 {o:Og}{w:World}{g:Nat}{G:Gr}(hn:(G.list.map (·.key)).Nodup)(Ag:G.aJ<ed)(cQ:∀x∈G.list,x.key.length<2^40)(C:Nat)(hC:G.list.length<C)(zC:C<2^40)(hs:Start o w [iT g G]) :
  aj prog 246 [ak g,iV C].toArray w (aU o (fun y:Value×List Nat=>y.1) (fun y=>gS { G with cells:=y.2}∧y.2.length=C) (fun y=>[iT g { G with cells:=y.2}])):=by
 obtain⟨ow,ol,al,cl,cb,cc,bs,hG,hF⟩:=Pa hs;refine(Qb hG hn Ag cQ C hC zC).mono ?_;rintro v w' ⟨⟨cs,b,c,du,vM,aX,gC,uE⟩,hM⟩;exact⟨(v,cs),rfl,⟨aX,gC⟩,SH.Oq hs hF hM vM uE.new⟩
theorem ah8 {o:Og}{w:World}{g:Nat}{G:Gr}(hi:j8 G.list)(hN:G.list.length≤65536)(hd:∀x∈G.list,x.down.length≤65536∧x.up.length≤65536)(hn:(G.list.map (·.key)).Nodup)(dN:G.aJ<ed)(Bx:G.list.length<G.cells.length)(hC:G.cells.length<2^40)(hs:Start o w [iT g G]) :
  aj prog 240 [ak g].toArray w (aU o (fun y:List Nat => .tuple #[]) (fun cs=>gS { G with list:=fQ G.list,cells:=cs}∧cs.length=G.cells.length) (fun cs=>[iT g { G with list:=fQ G.list,cells:=cs}])):=by
 have hH:=hs.sh;obtain⟨⟨⟨⟨q,cq⟩,cb,cc,M⟩,hM⟩,hH⟩:=SH.un hH;replace hH:=SH.ap hH;dsimp only at hH;dsimp only[Bv,Bt,Bu] at hH hM;rw[Gm] at hH;refine aj.enter func240 rfl ntmps240 rfl (gh ?_);refine GX.Ji (h:=fun tb w hH=>gh ?_);refine GX.tU (h:=fun q0 w hH=>gh ?_);refine GC.bP [0,2,21,22] (fun y:Nat×(Option Nat×Nat)=>[(3, .slice (ay y.2.1) ((G.list.take y.1).filter ep).length y.2.2),(23,iV y.1)]) (fun y w'=>∃T:List Nat,y.1≤G.list.length∧T.length=G.list.length∧(∀j x,j<y.1→G.list[j]?=some x→ep x=true→T[j]?=some (cA G.list j))∧SH o w' [ao 3 1 (some tb) G.list.length G.list.length (aD T),ao 244 1 y.2.1 ((G.list.take y.1).filter ep).length y.2.2 (bg ((((M.zip G.list).take y.1).filter C6).map (·.1.b))),aA g [iV G.cL,iV G.dd,uV G.aJ, .slice (ay q) G.list.length cq, .slice (some ⟨cb,0,none⟩) G.cells.length cc,iV G.cp,iV G.cT],ao 244 1 q G.list.length cq (bg (M.map (·.b))),ao 3 1 (some cb) G.cells.length cc (aD G.cells),bB (zO (M.zip G.list))]) (fun y=>G.list.length - y.1) (0,q0,0) rfl rfl ⟨List.replicate G.list.length 0,bh _,by simp,fun j x h=>by omega,?_⟩ ?_
 ·have e:(List.replicate (G.list.length:Int).toNat ((fun x:Value=>x.cells.toList) (Value.int IntKind.i64 0))).flatten=aD (List.replicate G.list.length 0):=by rw[←NG];simp[Value.cells]
  rw[e] at hH;exact hH.to
 rintro⟨i,q1,c1⟩ w ⟨T,hiL,hT,D5,hH⟩;dsimp only at hiL D5 hH ⊢;refine gh ?_;refine ifs (fun h1=>?_) (fun h1=>?_)<;>refine gh ?_
 ·obtain⟨m,x,hx,hm,fK⟩:=Km hM (i:=i) ah;obtain⟨qb,rfl⟩:=hH.pos (el:=244) (sz:=1) (q:=q);replace hH:=hH.Kl fK;refine gh ?_;refine GX.next rfl (GO.cG (hv:=show(bg (M.map (·.b)))[i]?=some (ak m.b) by simp[bg,hm]) (h:=gh ?_));dsimp only[nf,mO,ny,uN] at hH;obtain⟨ml,uD⟩:=hd x (bF hx);refine GC.bq (pl:=(aZ [0,3,6,9,18,21,24,27,13,15,31,33,36,39])) (T:=fun _=>False) (hm:=mixed) (h:=fun w hE hH=>gh ?_);refine GX.pure rfl (GO.lO rfl rfl rfl rfl (by decide) (by decide) rfl (gh ?_));refine GX.pure rfl (GO.lO rfl rfl rfl rfl (by decide) (by decide) rfl (gh ?_));have qL:(G.list.take (i+1)).filter ep=(G.list.take i).filter ep++if ep x then[x] else[]:=by
   rw[ic,hx,y5];cases h:ep x<;>simp[oo,h]
  have yr:((M.zip G.list).take (i+1)).filter C6=((M.zip G.list).take i).filter C6++if ep x then[(m,x)] else[]:=by
   rw[ic,fK,y5];cases h:ep x<;>simp[oo,C6,h]
  have mZ:((G.list.take i).filter ep).length=cA G.list i:=rfl;have MV:cA G.list i≤G.list.length:=by
   unfold cA;exact eh (rh _ _) (by rw[dE];omega)
  refine ifs (fun h2=>?_) (fun h2=>?_)<;>refine gh ?_
  ·have hk:ep x=true:=bQ ah;rw[if_pos hk] at qL yr;refine gh ?_;refine GX.J4 (j:=0+((i:Nat):Int).toNat*1) (hj:=by simp[aD];omega) (h:=fun w hH=>gh ?_);rw[show 0+((i:Nat):Int).toNat*1=i by simp] at hH;refine GX.mK (h1:=by simp[Value.oneCell',ak]) (h:=fun q c w _ hH=>gh ?_);rw[show(aD T).set i (.int .i64 ((G.list.take i).filter ep).length)=aD (T.set i (cA G.list i)) by simp[aD,pf,cA]] at hH;have hlen:((G.list.take (i+1)).filter ep).length=((G.list.take i).filter ep).length+1:=by rw[qL];simp
   refine GQ.br (i+1,_,_) (by dsimp only;rw[hlen];rfl) ⟨T.set i (cA G.list i),by dsimp only;omega,by simpa using hT,fun j y hj hy uq=>?_,?_⟩ (by dsimp only;omega)
   ·rcases tB j i with h|h
    ·rw[dH ah];exact D5 j y h hy uq
    ·obtain rfl:j=i:=by dsimp only at hj;omega
     rw[dJ ah]
   ·dsimp only;rw[hlen,yr,eD,List.map_singleton,show∀l:List Nat,bg (l++[m.b])=bg l++[ak m.b] from fun l=>by simp[bg]];exact(hH.Ys fK).to
  ·have hk:ep x=false:=bt ah;rw[hk,if_neg (by simp),eY] at qL yr;refine gh ?_;refine GQ.br (i+1,q1,c1) (by dsimp only;rw[qL];rfl) ⟨T,by dsimp only;omega,hT,fun j y hj hy uq=>?_,?_⟩ (by dsimp only;omega)
   ·rcases tB j i with h|h
    ·exact D5 j y h hy uq
    ·obtain rfl:j=i:=by dsimp only at hj;omega
     rw[hx] at hy;cases hy;rw[hk] at uq;cases uq
   ·dsimp only;rw[qL,yr];exact(hH.Ys fK).to
 ·obtain rfl:i=G.list.length:=by omega
  rw[eO (bj _),eO (by simp;omega)] at hH;rw[eO (bj _)];have oS:=Yu hM;generalize hD:(M.zip G.list).filter C6=D at hH oS;have HD:(G.list.filter ep).length=D.length:=by rw[←oS];simp
  have hDn:D.length≤G.list.length:=by rw[←HD];exact rh _ _
  rw[HD] at hH ⊢;replace hH:=hH.ami hD.symm;refine gh ?_;refine GC.bP [0,2,3,52,53] (fun y:Nat=>[(54,iV y)]) (fun y w'=>y≤D.length∧SH o w' [ao 3 1 (some tb) G.list.length G.list.length (aD T),ao 244 1 q1 D.length c1 (bg (D.map (·.1.b))),aA g [iV G.cL,iV G.dd,uV G.aJ, .slice (ay q) G.list.length cq, .slice (some ⟨cb,0,none⟩) G.cells.length cc,iV G.cp,iV G.cT],ao 3 1 (some cb) G.cells.length cc (aD G.cells),bB (zO ((D.take y).map (fun p=>(p.1,kJ (cA G.list) p.2))++D.drop y))]) (fun y=>D.length - y) 0 rfl rfl ⟨bh _,hH.to⟩ ?_;rintro r w ⟨mZ,hH⟩;refine gh ?_;refine ifs (fun h1=>?_) (fun h1=>?_)<;>refine gh ?_
  ·obtain⟨m,x,fK⟩:∃m x,D[r]?=some (m,x):=⟨D[r].1,D[r].2,bO ah⟩
   obtain⟨mb,⟨m1,d1⟩,m2,d2⟩:=m;have hE:((D.take r).map (fun p=>(p.1,kJ (cA G.list) p.2))++D.drop r)[r]?=some (⟨mb,(m1,d1),m2,d2⟩,x):=by
    rw[ia (by simp;omega)];simp[pc mZ,fK]
   have fg:x∈G.list.filter ep:=by rw[←oS];exact bK.2 ⟨_,bF fK,rfl⟩
   have TR:=(ib.1 fg).1;obtain⟨ml,uD⟩:=hd x TR;obtain⟨jx,SU⟩:=ej TR;have oK:∀v∈x.down,v<G.list.length∧(aD T)[v]?=some (iV (cA G.list v)):=fun v hv=>by
    obtain⟨y,h1,h2⟩:=hi.yw SU hv;have h3:=(aV.1 h1).1;exact⟨h3,by rw[aD,gb,D5 v y h3 h1 h2];rfl⟩
   have iX:∀v∈x.up,v<G.list.length∧(aD T)[v]?=some (iV (cA G.list v)):=fun v hv=>by
    obtain⟨y,h1,h2⟩:=hi.Ff SU hv;have h3:=(aV.1 h1).1;exact⟨h3,by rw[aD,gb,D5 v y h3 h1 h2];rfl⟩
   obtain⟨qb,rfl⟩:=hH.pos (el:=244) (sz:=1) (q:=q1);replace hH:=hH.Kl hE;refine gh ?_;refine GX.next rfl (GO.cG (hv:=show(bg (D.map (·.1.b)))[r]?=some (ak mb) by simp[bg,fK]) (h:=gh ?_));refine GC.bP [0,2,3,7,52,53,54] (fun y:Nat=>[(58,iV y)]) (fun y w'=>y≤2∧SH o w' [nf ⟨mb,(m1,d1),m2,d2⟩ (xM (cA G.list) y x),mO ⟨mb,(m1,d1),m2,d2⟩ (xM (cA G.list) y x),ny ⟨mb,(m1,d1),m2,d2⟩ (xM (cA G.list) y x),bB (zO (((D.take r).map (fun p=>(p.1,kJ (cA G.list) p.2))++D.drop r).eraseIdx r)),ao 3 1 (some tb) G.list.length G.list.length (aD T),ao 244 1 (some qb) D.length c1 (bg (D.map (·.1.b))),aA g [iV G.cL,iV G.dd,uV G.aJ, .slice (ay q) G.list.length cq, .slice (some ⟨cb,0,none⟩) G.cells.length cc,iV G.cp,iV G.cT],ao 3 1 (some cb) G.cells.length cc (aD G.cells)]) (fun y=>2 - y) 0 rfl rfl ⟨bh _,hH.to⟩ ?_;generalize hBg:bB (zO (((D.take r).map (fun p=>(p.1,kJ (cA G.list) p.2))++D.drop r).eraseIdx r))=Bg;rintro e w ⟨he,hH⟩;refine gh ?_;refine ifs (fun h2=>?_) (fun h2=>?_)<;>refine gh ?_
   ·obtain rfl|rfl:e=0∨e=1:=by omega
    ·rw[show xM (cA G.list) 0 x=x from rfl] at hH;dsimp only[nf,mO,ny,uN] at hH
     skip
     refine gh ?_;refine GX.next rfl (GO.lO rfl rfl rfl rfl (by decide) (by decide) rfl (gh ?_));refine GC.bP [0,2,3,7,8,52,53,54,58,66,67] (fun k:Nat=>[(68,iV k)]) (fun k w'=>k≤x.down.length∧SH o w' [ao 3 1 m1 x.down.length d1 (aD ((x.down.take k).map (cA G.list)++x.down.drop k)),ao 3 1 m2 x.up.length d2 (aD x.up),Bg,aA mb [str x.key, .slice (ay m1) x.down.length d1, .slice (ay m2) x.up.length d2,iV x.mark],ao 3 1 (some tb) G.list.length G.list.length (aD T),ao 244 1 (some qb) D.length c1 (bg (D.map (·.1.b))),aA g [iV G.cL,iV G.dd,uV G.aJ, .slice (ay q) G.list.length cq, .slice (some ⟨cb,0,none⟩) G.cells.length cc,iV G.cp,iV G.cT],ao 3 1 (some cb) G.cells.length cc (aD G.cells)]) (fun k=>x.down.length - k) 0 rfl rfl ⟨bh _,hH.to⟩ ?_;rintro k w ⟨cQ,hH⟩;refine gh ?_;refine ifs (fun h3=>?_) (fun h3=>?_)<;>refine gh ?_
     ·obtain⟨v,hv⟩:∃v,x.down[k]?=some v:=⟨_,bO ah⟩
      have Nj:=bF hv;obtain⟨hvL,Ni⟩:=oK v Nj;obtain⟨qk,rfl⟩:=hH.pos (el:=3) (sz:=1) (q:=m1) (n:=x.down.length);refine gh ?_;refine GX.next rfl (GO.cG (hv:=show(aD ((x.down.take k).map (cA G.list)++x.down.drop k))[k]?=some (iV v) by rw[aD,gb,ia (by simp;omega)];simp[hv,pc cQ]) (h:=gh ?_));refine GC.bq (pl:=(aZ [0,3,6,9,12,18,21,24,27,16,31,33,38])) (T:=fun _=>False) (hm:=mixed) (h:=fun w hE hH=>gh ?_);refine GX.pure rfl (GO.lO rfl rfl rfl rfl (by decide) (by decide) rfl (gh ?_));refine GX.read rfl (GO.jU (hv:=Ni) (h:=gh ?_));refine GX.FZ (j:=0+((k:Nat):Int).toNat*1) (hj:=by simp[aD];omega) (h:=fun w hH=>gh ?_);rw[show 0+((k:Nat):Int).toNat*1=k by simp,show(aD ((x.down.take k).map (cA G.list)++x.down.drop k)).set k (iV (cA G.list v))=aD ((x.down.take (k+1)).map (cA G.list)++x.down.drop (k+1)) by rw[←VR hv];simp[aD,pf]] at hH;exact GQ.br (k+1) rfl ⟨by omega,hH.to⟩ ah
     ·obtain rfl:k=x.down.length:=by omega
      rw[eO (bj _),l0 (bj _),eY] at hH;refine gh ?_;refine GQ.br 1 rfl ⟨by omega,?_⟩ ah;dsimp only[nf,mO,ny,uN];simp only[xM,bj,if_true,Nat.reduceLeDiff,if_false,fk];exact hH.to
    ·dsimp only[nf,mO,ny,uN,xM,Nat.reduceLeDiff] at hH;simp only[bj,if_true,Nat.reduceLeDiff,if_false,fk] at hH;refine gh ?_;refine GX.next rfl (GO.lO rfl rfl rfl rfl (by decide) (by decide) rfl (gh ?_));refine GC.bP [0,2,3,7,8,52,53,54,58,66,67] (fun k:Nat=>[(68,iV k)]) (fun k w'=>k≤x.up.length∧SH o w' [ao 3 1 m2 x.up.length d2 (aD ((x.up.take k).map (cA G.list)++x.up.drop k)),ao 3 1 m1 x.down.length d1 (aD (x.down.map (cA G.list))),Bg,aA mb [str x.key, .slice (ay m1) x.down.length d1, .slice (ay m2) x.up.length d2,iV x.mark],ao 3 1 (some tb) G.list.length G.list.length (aD T),ao 244 1 (some qb) D.length c1 (bg (D.map (·.1.b))),aA g [iV G.cL,iV G.dd,uV G.aJ, .slice (ay q) G.list.length cq, .slice (some ⟨cb,0,none⟩) G.cells.length cc,iV G.cp,iV G.cT],ao 3 1 (some cb) G.cells.length cc (aD G.cells)]) (fun k=>x.up.length - k) 0 rfl rfl ⟨bh _,hH.to⟩ ?_;rintro k w ⟨cQ,hH⟩;refine gh ?_;refine ifs (fun h3=>?_) (fun h3=>?_)<;>refine gh ?_
     ·obtain⟨v,hv⟩:∃v,x.up[k]?=some v:=⟨_,bO ah⟩
      have Nj:=bF hv;obtain⟨hvL,Ni⟩:=iX v Nj;obtain⟨qk,rfl⟩:=hH.pos (el:=3) (sz:=1) (q:=m2) (n:=x.up.length);refine gh ?_;refine GX.next rfl (GO.cG (hv:=show(aD ((x.up.take k).map (cA G.list)++x.up.drop k))[k]?=some (iV v) by rw[aD,gb,ia (by simp;omega)];simp[hv,pc cQ]) (h:=gh ?_));refine GC.bq (pl:=(aZ [0,3,6,9,12,18,21,24,27,16,31,33,38])) (T:=fun _=>False) (hm:=mixed) (h:=fun w hE hH=>gh ?_);refine GX.pure rfl (GO.lO rfl rfl rfl rfl (by decide) (by decide) rfl (gh ?_));refine GX.read rfl (GO.jU (hv:=Ni) (h:=gh ?_));refine GX.FZ (j:=0+((k:Nat):Int).toNat*1) (hj:=by simp[aD];omega) (h:=fun w hH=>gh ?_);rw[show 0+((k:Nat):Int).toNat*1=k by simp,show(aD ((x.up.take k).map (cA G.list)++x.up.drop k)).set k (iV (cA G.list v))=aD ((x.up.take (k+1)).map (cA G.list)++x.up.drop (k+1)) by rw[←VR hv];simp[aD,pf]] at hH;exact GQ.br (k+1) rfl ⟨by omega,hH.to⟩ ah
     ·obtain rfl:k=x.up.length:=by omega
      rw[eO (bj _),l0 (bj _),eY] at hH;refine gh ?_;refine GQ.br 2 rfl ⟨by omega,?_⟩ ah;dsimp only[nf,mO,ny,uN];simp only[xM,bj,if_true,Nat.reduceLeDiff,fk];exact hH.to
   ·obtain rfl:e=2:=by omega
    have e2:xM (cA G.list) 2 x=kJ (cA G.list) x:=rfl;rw[e2] at hH;subst hBg;replace hH:=SH.Py (D:=(D.take r).map (fun p=>(p.1,kJ (cA G.list) p.2))++D.drop r) (i:=r) (by simp;omega) hH;rw[ah3 fK] at hH;refine gh ?_;exact GQ.br (r+1) rfl ⟨by omega,hH.to⟩ ah
  ·obtain rfl:r=D.length:=by omega
   rw[eO (bj _),l0 (bj _),eY] at hH;refine gh ?_;refine GX.dw (h:=fun w hH=>gh ?_);have cQ:∀y∈fQ G.list,y.key.length<2^40:=fun y hy=>by
    have:=eN (hi.pack.keys y hy);omega
   have adQ:((fQ G.list).map (·.key)).Nodup:=List.Nodup.sublist ah4 hn;have gZ:fQ G.list=(D.map fun p=>(p.1,kJ (cA G.list) p.2)).map (·.2):=by unfold fQ;rw[←oS];simp
   have Tt:(fQ G.list).length=D.length:=by rw[gZ];simp
   have hz:zO (D.map fun p=>(p.1,kJ (cA G.list) p.2))=rT (D.map (·.1)) (fQ G.list):=by
    rw[Gm,gZ];congr 1;exact Yv D
   rw[hz,show D.map (fun p=>p.1.b)=(D.map (·.1)).map (·.b) by simp,←Tt] at hH;replace hH:=SH.fold (f:=fun X:{ X:vw // X.M.length=(fQ G.list).length}=>DH g { G with list:=fQ G.list} X.1) ⟨⟨(q1,c1),cb,cc,D.map (·.1)⟩,by simp[Tt]⟩ hH;replace hH:SH o w [iT g { G with list:=fQ G.list}]:=hH.to (s:=[star fun X:{ X:vw // X.M.length=(fQ G.list).length}=>DH g { G with list:=fQ G.list} X.1]);refine GX.bS (hc:=fun _ hs=>ab4 (G:={ G with list:=fQ G.list}) adQ dN (fun x hx=>cQ x hx) G.cells.length (by show(fQ G.list).length<_;omega) hC hs) (h:=?_);rintro⟨_,cs⟩ w ⟨h1,h2⟩ hH;replace hH:=SH.ap hH;refine gh ?_;exact⟨cs,rfl,⟨h1,h2⟩,hH⟩
theorem Pb {o:Og}{w:World}{g:Nat}{G:Gr}(hs:Start o w [fz (iT g G)]):∃ow ol al cl cb cc bs,GM w g G ow ol al cl cb cc bs:=by
 obtain⟨rfl,⟨F1,F2,e,_,⟨⟨F',Z',_,_,h1⟩,_⟩,_⟩,_⟩:=hs;obtain⟨ow,ol,al,cl,cb,cc,bs,k1,_⟩:=Lj h1;exact⟨ow,ol,al,cl,cb,cc,bs,k1⟩
theorem ab5 {o:Og}{w:World}{g:Nat}{G:Gr}(hn:G.cL≠0)(a b:Bs)(hs:Start o w [fz (iT g G)]) :
  aj prog 166 [ak g,str a,str b].toArray w (Po o (iV (if bI a&&bI b then 0 else 2)) []):=by
 obtain⟨ow,ol,al,cl,cb,cc,bs,hG⟩:=Pb hs;refine(Lg hG hn a b).mono ?_;rintro v w' ⟨rfl,rfl⟩;exact⟨rfl,hs.sh.to⟩
theorem ab7 {o:Og}{w:World}{g:Nat}{G:Gr}(hi:xx G)(a b:Bs)(ha:a.length<2^40)(hb:b.length<2^40)(hs:Start o w [fz (iT g G)]) :
  aj prog 167 [ak g,str a,str b].toArray w (aU o (fun z:Bool => .bool z) (fun z=>z=true↔eV G a b) (fun _=>[])):=by
 obtain⟨ow,ol,al,cl,cb,cc,bs,hG⟩:=Pb hs;refine(Sg hG hi a b ha hb).mono ?_;rintro v w' ⟨⟨z,rfl,hz⟩,hE⟩;exact⟨z,rfl,hz,(hs.sh.ext hE).to⟩
theorem RD {o:Og}{w:World}{g:Nat}{G:Gr}(aX:gS G)(k:Bs)(hk:k.length<2^40)(hs:Start o w [fz (iT g G)]) :
  aj prog 169 [ak g,str k].toArray w (aU o (fun z:Int=>iV z) (fun z=>Kq G k z) (fun _=>[])):=by
 obtain⟨ow,ol,al,cl,cb,cc,bs,hG⟩:=Pb hs;refine(xK hG aX k hk).mono ?_;rintro v w' ⟨⟨z,rfl,hz⟩,hE⟩;exact⟨z,rfl,hz,(hs.sh.ext hE).to⟩
theorem Q0 {o:Og}{w:World}{l:List Nat}{x q c:Nat}(hx:x∈l)(hl:l.length<2^40)(hs:Start o w [ao 3 1 (some q) l.length c (aD l)]) :
  aj prog 237 [.slice (ay (some q)) l.length c,iV x].toArray w (Po o (.slice (ay (some q)) (l.filter (·≠x)).length c) [ao 3 1 (some q) (l.filter (·≠x)).length c (aD (l.filter (·≠x)))]):=by
 have hH:=hs.sh;have hO:=hH.cY;refine(aaU l x hx hl w hO).mono ?_;rintro v w' ⟨⟨rfl,jN⟩,hm⟩;exact⟨rfl,hH.ly bA.here (fun _=>jN) (hm.weaken fun k _ hk=>by rw[hk]) fun _ h => .inl h⟩
def dS.del (A:dS)(p c:Bs):dS:={ A with E:=fun u v=>A.E u v∧¬(u=p∧v=c)}
open Classical in
noncomputable def dS.zt (A:dS)(p c:Bs):Bool:=decide (A.E p c)
def Hi (p c:Bs):Int:=if bI p&&bI c then 0 else 2
theorem ah6 {L:List Nd}{s:Nat}(h:∀x∈L,x.mark≤s):∀x∈fQ L,x.mark≤s:=fun x hx=>by
 unfold fQ at hx;obtain⟨y,hy,rfl⟩:=bK.1 hx;exact h y (ib.1 hy).1
theorem ah5 (L:List Nd):(fQ L).length≤L.length:=by unfold fQ;rw[fk];exact rh _ _
theorem aiJ {G H:Gr}{A:dS}(hA:vu G A){a b:Nat}{xa xb yb:Nd}(ha:G.list[a]?=some xa)(hb:(G.list.set a { xa with down:=xa.down.filter (·≠b)})[b]?=some xb)(eG:G.list[b]?=some yb)(hm:b∈xa.down)
  (hl:H.list=fQ (gR G.list a b xa xb)) (hc:gS H) (gC:H.cells.length=G.cells.length) (h1:H.cL=G.cL) (h2:H.dd=G.dd) (h3:H.cp+1=G.cp) (h4:H.cT=G.cT):vu H (A.del xa.key yb.key):=by
 have hi:=hA.inv;have hu:=hi.nodes.gR ha hb;have hp:=hu.pack;have wm:jJ H+1=jJ G:=by
  rw[vG,vG,hl,ah2];exact al3 ha hb (hi.nM _ (bF ha)) hm
 have hlen:H.list.length≤G.list.length:=by
  rw[hl];refine eh (ah5 _) ?_;simp[gR]
 have iB:∀x∈gR G.list a b xa xb,x.mark≤G.cT:=fun x hx=>by
  obtain⟨j,hj⟩:=ej hx;obtain⟨z,hz,rfl⟩:=vg ha hb hj;exact hi.marks z (bF hz)
 rw[←hl] at hp;have RO:=hi.len;have hGm:=hi.eM.mx;have ml:∀x∈H.list,x.down.length≤H.list.length:=fun x hx=>by
  obtain⟨j,hj⟩:=ej hx;exact Cz (hp.nM x hx) (hp.down j x hj)
 refine⟨⟨⟨hc,by rw[h1];exact hGm,hp.down,fun j x hj=>?_⟩,?_,hp.nA,hp.oW,hp.nM,hp.lX,by rw[h1];omega,?_,?_,?_,hp.keys,?_⟩,h1.trans hA.cL,h2.trans hA.dd,?_,by rw[h4];exact hA.K⟩
 ·have hx:=bF hj;have:=ml x hx;have:=eN (hp.keys x hx);exact⟨by omega,by omega⟩
 ·have:=hi.cells;unfold xu at this ⊢;rw[gC];exact this
 ·have:=hi.zu;omega
 ·have:=hi.cp;rw[h2];omega
 ·rw[hl];exact ah7
 ·rw[hl,h4];exact ah6 iB
 ·funext u v;show eV H u v=(A.E u v∧¬(u=xa.key∧v=yb.key));rw[←hA.E];refine propext ?_;rw[hu.ah0 (G:={ G with list:=gR G.list a b xa xb}) rfl hl];exact al1 ha hb rfl rfl hi.eM.ok eG
theorem Yw {M:List Nx}{L:List Nd}{i:Nat}{m:Nx}{x y:Nd}(h:(M.zip L)[i]?=some (m,x)):(M.zip L).set i (m,y)=M.zip (L.set i y):=by
 obtain⟨h1,h2⟩:=List.getElem?_zip_eq_some.1 h;apply pb;intro j
 by_cases e:i=j
 ·subst e;have hl:=(aV.1 h).1;rw[dJ hl]
  symm
  rw[List.getElem?_zip_eq_some];exact⟨h1,dJ (aV.1 h2).1⟩
 ·rw[dH e];apply Option.ext;rintro⟨p,q⟩;rw[List.getElem?_zip_eq_some,List.getElem?_zip_eq_some,dH e]
theorem agD {G:Gr}(hi:js G){a b:Nat}{xa:Nd}(ha:G.list[a]?=some xa)(hm:b∈xa.down):1≤G.cp:=by
 have h1:=hi.zu;have b6:=(aV.1 ha).1;have h2:=Hl (G:=G) (l:=[a]) (by simp) (by simpa using b6);simp[lF,ha] at h2;have:=vl hm;omega
theorem j8.lens {L:List Nd}(h:j8 L):∀x∈L,x.down.length≤L.length∧x.up.length≤L.length:=fun x hx=>by
 obtain⟨j,hj⟩:=ej hx;exact⟨Cz (h.nM x hx) (h.down j x hj),Cz (h.lX x hx) (h.nA j x hj)⟩
theorem gS.aeY {G:Gr}(h:gS G):(G.list.map (·.key)).Nodup∧G.list.length<G.cells.length:=by
 constructor
 ·exact h.nodup
 ·have h1:=h.eC.room;simpa[eW,eZ] using h1
theorem acd {o:Og}{w:World}{g:Nat}{A:dS}(p c:Bs)(hs:Start o w [gA g A]) :
  aj prog 160 [ak g,str p,str c].toArray w (Po o (.tuple #[.bool (A.zt p c),iV (Hi p c)]) [gA g (A.del p c)]):=by
 obtain⟨⟨G,hA⟩,hs⟩:=Start.un hs;replace hs:Start o w [iT g G]:=hs;have hi:=hA.inv;have fK:=hi.eM.mx;have hH:=hs.sh;refine aj.enter func160 rfl ntmps160 rfl (gh ?_);have none:¬A.E p c→A.zt p c=false∧A.del p c=A:=fun h=>⟨by unfold dS.zt;simp[h],by
  unfold dS.del;have:(fun u v=>A.E u v∧¬(u=p∧v=c))=A.E:=by
   funext u v;refine propext ⟨And.left,fun h1=>⟨h1,?_⟩⟩;rintro⟨rfl,rfl⟩;exact h h1
  rw[this]⟩
 have RK:A.E p c→bI p=true∧bI c=true:=fun h=>by
  rw[←hA.E] at h;obtain⟨a,b,x,y,h1,rfl,_,h4,rfl⟩:=h;exact⟨hi.keys x (bF h1),hi.keys y (bF h4)⟩
 refine GX.aL (hc:=fun _ hs=>ab5 (G:=G) ah p c hs) (h:=fun w hE hH=>gh ?_)
 by_cases aX:(bI p&&bI c)=true
 ·have rK:=aX;rw[oq] at rK;have kp:=eN rK.1;have kc:=eN rK.2;rw[if_pos aX];refine gh ?_;refine GX.dX (hc:=fun _ hs=>ab7 hi.eM p c ah ah hs) (h:=?_);rintro z w hz hE hH;replace hH:=SH.ap hH;rw[hA.E] at hz;cases z with
  |false=>
   refine gh ?_;obtain⟨e1,e2⟩:=none (fun h=>by have:=hz.2 h;cases this);rw[e1,e2,show Hi p c=0 from if_pos aX];exact⟨rfl,zy hA hH⟩
  |true=>
   have hE:=hz.1 rfl;refine gh ?_;refine GX.dX (hc:=fun _ hs=>RD hi.eM.ok p ah hs) (h:=?_);rintro za w E9 cW hH;replace hH:=SH.ap hH;refine gh ?_;refine GX.dX (hc:=fun _ hs=>RD hi.eM.ok c ah hs) (h:=?_);rintro zb w wy di hH;replace hH:=SH.ap hH;have RI:=hE;rw[←hA.E] at RI;obtain⟨a,b,xa,yb,ha,rfl,hm,eG,rfl⟩:=RI;obtain rfl:za=a:=by
    rcases E9 with⟨_,h⟩|⟨n,x,rfl,hx,hk⟩
    ·exact absurd (bK.2 ⟨xa,bF ha,rfl⟩) h
    ·rw[key_inj hi.eM.ok hx ha hk]
   obtain rfl:zb=b:=by
    rcases wy with⟨_,h⟩|⟨n,x,rfl,hx,hk⟩
    ·exact absurd (bK.2 ⟨yb,bF eG,rfl⟩) h
    ·rw[key_inj hi.eM.ok hx eG hk]
   have b6:=(aV.1 ha).1;have fq:=(aV.1 eG).1;obtain⟨_,hd⟩:=hi.lF;obtain⟨ml,_⟩:=hd xa (bF ha);obtain⟨⟨⟨⟨q,cq⟩,cb,cc,M⟩,hM⟩,hH⟩:=SH.un hH;replace hH:=SH.ap hH;dsimp only at hH;dsimp only[Bv,Bt,Bu] at hH hM;rw[Gm] at hH;obtain⟨ma,xa',qu,Ta,E9⟩:=Km hM b6;rw[ha] at qu;cases qu;obtain⟨mb,yb',TV,MK,wy⟩:=Km hM fq;rw[eG] at TV;cases TV;obtain⟨ab,⟨a1,YQ⟩,a2,YR⟩:=ma;obtain⟨qb,rfl⟩:=hH.pos (el:=244) (sz:=1) (q:=q);replace hH:=hH.Kl E9;dsimp only[nf,mO,ny,uN] at hH;have hdp:=vl hm;obtain⟨qa,rfl⟩:=hH.pos (el:=3) (sz:=1) (q:=a1);refine gh ?_;refine GC.bq (pl:=(aZ [0,3,6,12,21,24,27,30,36,57,10,15,19,63,66,34,39,43,45,48,51,55,62,69,74])) (T:=cS [g,qb,ab]) (hm:=mixed) (h:=fun w hE hH=>gh ?_);refine GX.read rfl (GO.jU (hT:=tj) (hv:=show(bg (M.map (·.b)))[a]?=some (ak ab) by simp[bg,Ta]) (h:=gh ?_));refine GX.read rfl (GO.jU (hT:=tj) (hv:=show(bg (M.map (·.b)))[a]?=some (ak ab) by simp[bg,Ta]) (h:=gh ?_));refine GX.pure rfl (GO.lO rfl rfl rfl rfl (by decide) (by decide) rfl (gh ?_));refine GX.gz (hc:=fun _ hs=>Q0 hm ah hs) (h:=fun w hS hH=>gh ?_);refine GX.pure rfl (GO.lO rfl rfl rfl rfl (by decide) (by decide) rfl (gh ?_));refine GX.fH (h:=fun w hH=>gh ?_);replace hH:=SH.Py (D:=M.zip G.list) (i:=a) (m:=⟨ab,(some qa,YQ),a2,YR⟩) (x:={ xa with down:=xa.down.filter (·≠b)}) (aV.1 E9).1 hH;rw[Yw E9] at hH;have vP:M.length=(G.list.set a { xa with down:=xa.down.filter (·≠b)}).length:=by simpa using hM
   obtain⟨mb,xb,hb,MK,wy⟩:=Km vP (i:=b) (by simpa using fq);have uE:a∈xb.up∧xb.up.length≤65536:=by
    have h1:=(hi.oW a b xa yb ha eG).1 hm;have h2:=(hd yb (bF eG)).2
    by_cases e:a=b
    ·subst e;rw[dJ b6] at hb;cases hb;rw[ha] at eG;cases eG;exact⟨h1,h2⟩
    ·rw[dH e,eG] at hb;cases hb;exact⟨h1,h2⟩
   obtain⟨bb,⟨b1,Zl⟩,b2,Zm⟩:=mb;replace hH:=hH.Kl wy;dsimp only[nf,mO,ny,uN] at hH;have EW:=uE.2;have qD:=agD hi ha hm;have amL:=hi.cp;have am7:=vl uE.1;obtain⟨qc,rfl⟩:=hH.pos (el:=3) (sz:=1) (q:=b2);refine gh ?_;refine GC.bq (pl:=(aZ [0,3,6,12,21,24,27,30,36,57,10,15,19,63,66,34,39,43,45,48,51,55,62,69,74])) (T:=cS [g,qb,bb]) (hm:=mixed) (h:=fun w hE hH=>gh ?_);refine GX.read rfl (GO.jU (hT:=tj) (hv:=show(bg (M.map (·.b)))[b]?=some (ak bb) by simp[bg,MK]) (h:=gh ?_));refine GX.read rfl (GO.jU (hT:=tj) (hv:=show(bg (M.map (·.b)))[b]?=some (ak bb) by simp[bg,MK]) (h:=gh ?_));refine GX.pure rfl (GO.lO rfl rfl rfl rfl (by decide) (by decide) rfl (gh ?_));refine GX.gz (hc:=fun _ hs=>Q0 uE.1 ah hs) (h:=fun w hS hH=>gh ?_);refine GX.pure rfl (GO.lO rfl rfl rfl rfl (by decide) (by decide) rfl (gh ?_));refine GX.fH (h:=fun w hH=>gh ?_);replace hH:=SH.Py (D:=M.zip (G.list.set a { xa with down:=xa.down.filter (·≠b)})) (i:=b) (m:=⟨bb,(b1,Zl),some qc,Zm⟩) (x:={ xb with up:=xb.up.filter (·≠a)}) (aV.1 wy).1 hH;rw[Yw wy,←Gm] at hH;refine GX.dw (h:=fun w hH=>gh ?_);have uD:(gR G.list a b xa xb).length=G.list.length:=by simp[gR]
   rw[show((G.cp:Int) - 1)=((G.cp - 1:Nat):Int) by omega,←uD] at hH;have hu:=hi.nodes.gR ha hb;replace hH:=SH.fold (f:=fun X:{ X:vw // X.M.length=(gR G.list a b xa xb).length}=>DH g { G with list:=gR G.list a b xa xb,cp:=G.cp - 1} X.1) ⟨⟨(some qb,cq),cb,cc,M⟩,by rw[uD];exact hM⟩ hH;replace hH:SH o w [iT g { G with list:=gR G.list a b xa xb,cp:=G.cp - 1}]:=hH;have kD:=hi.eM.ok.aeY;have kZ:=hi.len;have gC:=hi.cells.2;refine gh ?_;refine GX.bS (hc:=fun _ hs=>ah8 (G:={ G with list:=gR G.list a b xa xb,cp:=G.cp - 1}) hu (by show(gR G.list a b xa xb).length≤_;omega) (fun x hx=>by have:=hu.lens x hx;rw[uD] at this;omega) (by show((gR G.list a b xa xb).map (·.key)).Nodup;rw[al7 ha hb];exact kD.1) hi.eM.ok.aJ (by show(gR G.list a b xa xb).length<G.cells.length;have:=kD.2;omega) (by show G.cells.length<_;omega) hs) (h:=?_);rintro cs w ⟨Ea,uh⟩ hH;replace hH:=SH.ap hH;refine gh ?_;rw[show A.zt xa.key yb.key=true by unfold dS.zt;simpa using hz,show Hi xa.key yb.key=0 from if_pos aX];exact⟨rfl,zy (aiJ hA ha hb eG hm rfl Ea uh rfl rfl (by show G.cp - 1+1=_;omega) rfl) hH⟩
 ·obtain⟨e1,e2⟩:=none (fun h=>aX (by rw[(RK h).1,(RK h).2];rfl));rw[if_neg aX];refine gh ?_;rw[e1,e2,show Hi p c=2 from if_neg aX];exact⟨rfl,zy hA hH⟩
end
section
structure Lv where
 l:List Bs
 q:Option Nat×Nat
def Cp (y:Lv):Value := .slice (ay y.q.1) y.l.length y.q.2
def oU (L:List Lv):List Value:=L.map Cp
def iJ (L:List Lv):List Bs:=(L.map (·.l)).flatten
def eo (L:List Lv):It where
 ok w Z F:=(∀y∈L,bM w (ay y.q.1) (aM y.l)∧(aM y.l≠[]→∀x,ay y.q.1=some x→Z x.block))∧F=fun _=>False
 mod:=fun⟨h,e⟩ hm hn hZ=>⟨fun y hy=>⟨by
  by_cases hc:aM y.l=[]
  ·rw[hc];exact bM.empty _ _
  ·exact(h y hy).1.mod hm fun x hx=>hn _ (.inr ((h y hy).2 hc x hx)),fun hc x hx=>hZ _ ((h y hy).2 hc x hx)⟩,e⟩
 lt:=fun⟨_,e⟩ hb=>by rw[e] at hb;exact hb.elim
instance {L:List Lv}:Vw (eo L) (eo L):=⟨fun w Z F ⟨h,_⟩ hz=>⟨fun y hy=>⟨(h y hy).1,fun hc x hx=>hz _ ((h y hy).2 hc x hx)⟩,rfl⟩⟩
theorem SH.Rq {o:Og}{w:World}{l:List It}(h:SH o w l):SH o w (eo []::l):=by
 obtain⟨Z,F,hu,h1,h2,h3⟩:=h;exact⟨Z,F,hu,⟨fun _=>False,F,by simp,fun _ h=>h.elim,⟨fun _ h=>by(cases h),rfl⟩,h1⟩,h2,h3⟩
theorem SH.abK {o:Og}{w:World}{l r:List It}{L:List Lv}{y:Lv}(hy:y∈L)(h:SH o w l)(hs:aB (eo L) l r:=by repeat(first|exact aB.here|apply aB.there)):SH o w (aF (ay y.q.1) (aM y.l)::l):=by
 obtain⟨Z,F,hu,⟨F1,F2,rfl,hd,h1,h2⟩,h3,h4⟩:=h.perm hs.perm;refine SH.perm (l:=aF (ay y.q.1) (aM y.l)::eo L::r) ⟨Z,fun b=>F1 b∨F2 b,hu,⟨fun _=>False,_,by simp,fun _ h=>h.elim,⟨(h1.1 y hy).1,(h1.1 y hy).2,rfl⟩,F1,F2,rfl,hd,h1,h2⟩,h3,h4⟩ (List.Perm.cons _ hs.perm.symm)
theorem SH.abL {o:Og}{w:World}{l r:List It}{L:List Lv}{y:Lv}(h:SH o w l)(hp:Pk l [eo L,aF (ay y.q.1) (aM y.l)] r:=by repeat(first|exact Pk.nil|(apply Pk.cons;repeat(first|exact aB.here|apply aB.there)))):SH o w (eo (L++[y])::r):=by
 obtain⟨Z,F,hu,⟨F1,F2,rfl,hd,h1,F3,F4,rfl,ft,k1,k2⟩,h3,h4⟩:=h.perm hp.perm;have e1:F1=fun _=>False:=h1.2
 have e3:F3=fun _=>False:=k1.2.2
 subst e1 e3;refine⟨Z,fun b=>False∨False∨F4 b,hu,⟨fun _=>False,F4,by funext b;simp,fun _ h=>h.elim,⟨fun z hz=>?_,rfl⟩,k2⟩,h3,h4⟩
 rcases cJ.1 hz with hz|hz
 ·exact h1.1 z hz
 ·simp at hz;subst hz;exact⟨k1.1,k1.2.1⟩
attribute [local irreducible] GX GO
attribute [local irreducible] aA ao aQ aF fz star eo
theorem aca {o:Og}{w:World}(n:Nat)(hn:n<2^40)(hs:Start o w []) :
  aj prog 324 [.slice none 0 0,iV n].toArray w (aU o (fun y:Option Nat×Nat => .slice (ay y.1) 0 y.2) (fun _=>True) (fun y=>[ao 9 1 y.1 0 y.2 []])):=by
 have hH:=hs.sh;refine aj.enter func324 rfl ntmps324 rfl (gh ?_);refine GX.next rfl (GO.GW rfl rfl rfl rfl (gh ?_));rw[show(n:Int) - (((0:Nat):Int) - ((0:Nat):Int))=(n:Int) by omega];refine gh ?_;refine ifs (fun h1=>?_) (fun h1=>?_)<;>refine gh ?_
 ·refine GX.next rfl (GO.GW rfl rfl rfl rfl (gh ?_));refine GX.next rfl (GO.yR (j:=0) rfl (hh:=gh ?_));refine GX.KF (a:=none) (len:=0) (olds:=[]) (hA:=bM.nil _) (hl:=rfl) (h:=fun b' c' w' zs hz hE hH=>gh ?_);refine GX.KY (q:=some b') (c:=0) (h:=fun hH=>gh ?_);exact⟨(some b',c'),rfl,trivial,by simpa using hH.to⟩
 ·obtain rfl:n=0:=by omega
  have aO:=SH.cE (el:=9) (sz:=1) (q:=none) (n:=0) (c:=0) (cs:=[]) hH (Mod.refl w) (fun _ h=>by cases h) (aG.nil _ _ _);refine gh ?_;exact⟨(none,0),rfl,trivial,aO.to⟩
theorem aaA {o:Og}{w:World}{L:List Lv}{n c:Nat}{q:Option Nat}(hn:L.length=n)(hl:n<2^32)(hx:∀y∈L,y.l.length<2^32)(hc:(iJ L).length<2^32)(hs:Start o w [fz (ao 22 1 q n c (oU L)),eo L]) :
  aj prog 288 [.slice (ay q) n c].toArray w (aU o (fun y:Option Nat×Nat => .slice (ay y.1) (iJ L).length y.2) (fun _=>True) (fun y=>[ao 9 1 y.1 (iJ L).length y.2 (aM (iJ L))])):=by
 have hH:=hs.sh;refine aj.enter func288 rfl ntmps288 rfl (gh ?_);have wm:∀i,(iJ (L.take i)).length≤(iJ L).length:=fun i=>by
  unfold iJ
  conv=>rhs;rw[←jE i L]
  rw[eD,A2,bJ];omega
 have we:∀i y,L[i]?=some y→iJ (L.take (i+1))=iJ (L.take i)++y.l:=fun i y hy=>by
  unfold iJ;rw[ic,hy];simp
 refine GC.bP [0,9,10] (fun i:Nat=>[(3,iV (iJ (L.take i)).length),(11,iV i)]) (fun i w'=>i≤n∧SH o w' [fz (ao 22 1 q n c (oU L)),eo L]) (fun i=>n - i) 0 rfl rfl ⟨bh _,hH⟩ ?_
 ·rintro i w ⟨hi,hH⟩;refine gh ?_;refine ifs (fun h1=>?_) (fun h1=>?_)<;>refine gh ?_
  ·obtain⟨y,hy⟩:∃y,L[i]?=some y:=⟨_,bO ah⟩
   obtain⟨qb,rfl⟩:=hH.lR (el:=22) (sz:=1) (q:=q) (n:=n);have h2:=hx y (bF hy);have h3:=wm i;have h4:=we i y hy;refine gh ?_;refine GX.next rfl (GO.cG (hv:=show(oU L)[i]?=some (Cp y) by simp[oU,hy]) (h:=gh ?_));refine GQ.br (i+1) (by rw[h4,bJ];rfl) ⟨by omega,hH⟩ ah
  ·obtain rfl:n=i:=by omega
   rw[eO ah];refine gh ?_;refine GX.bS (hc:=fun _ hs=>aca (iJ L).length ah hs) (h:=?_);rintro⟨q1,c1⟩ w _ hH;replace hH:=SH.ap hH;refine gh ?_;refine GC.bP [25,26] (fun y:Nat×Option Nat×Nat=>[(6, .slice (ay y.2.1) (iJ (L.take y.1)).length y.2.2),(27,iV y.1)]) (fun y w'=>y.1≤n∧SH o w' [ao 9 1 y.2.1 (iJ (L.take y.1)).length y.2.2 (aM (iJ (L.take y.1))),fz (ao 22 1 q n c (oU L)),eo L]) (fun y=>n - y.1) (0,q1,c1) rfl rfl ⟨bh _,hH.to⟩ ?_;rintro⟨i,q2,c2⟩ w ⟨hi,hH⟩;dsimp only at hi hH ⊢;refine gh ?_;refine ifs (fun h2=>?_) (fun h2=>?_)<;>refine gh ?_
   ·obtain⟨y,hy⟩:∃y,L[i]?=some y:=⟨_,bO ah⟩
    obtain⟨qb,rfl⟩:=hH.lR (el:=22) (sz:=1) (q:=q) (n:=n);have h2:=hx y (bF hy);have h3:=wm i;have h4:=we i y hy;refine gh ?_;refine GX.next rfl (GO.cG (hv:=show(oU L)[i]?=some (Cp y) by simp[oU,hy]) (h:=gh ?_));replace hH:=hH.abK (bF hy);refine GX.nI (q:=q2) (m2:=y.l.length) (c2:=y.q.2) (news:=aM y.l) (hN:=SH.bR hH (x:=aF (ay y.q.1) (aM y.l)) (a:=ay y.q.1) (cs:=aM y.l) bL) (hnl:=by simp[aM]) (h1:=yW _) (h:=fun q' c' w' hH=>gh ?_);refine GQ.br (i+1,q',c') (by dsimp only;rw[h4,bJ];rfl) ⟨by dsimp only;omega,?_⟩ (by dsimp only;omega);dsimp only;rw[h4,bJ,show aM (iJ (L.take i)++y.l)=aM (iJ (L.take i))++aM y.l by simp[aM]];exact hH.to
   ·obtain rfl:i=n:=by omega
    rw[eO ah] at hH ⊢;refine gh ?_;exact⟨(q2,c2),rfl,trivial,hH.to⟩
end
end Go.Proofs.YtmlpbmgfmnmmmaaGreat.V.M
