/-
  Parts of the proof. No condition.
-/
import Derived.Test.YtoloaehmppcjoaaGreatW2bh
import Derived.Test.YtoloaehmppcjoaaGreatW2bb
import Derived.Test.YtoloaehmppcjoaaGreatW2bc
import Derived.Test.YtoloaehmppcjoaaGreatW2ax
set_option linter.unusedVariables false
set_option linter.unusedSimpArgs false
set_option maxRecDepth 8000
set_option maxHeartbeats 8000000
open Go.Proofs.Tryz
namespace Go.Proofs.YtoloaehmppcjoaaGreat.V.M
section
attribute [local irreducible] GX
section
variable {P:Program}{ops:Array Oper}{Q:Exit→Act→World→Prop}{S:World→Prop}{n:Nat}{k:Kd}{dst:Option Tmp}
variable {i:Nat}{e:Env}{w:World}{ty:TypeId}{pos:String}{an:Array Edge}{g:Option (Nat×Bool)}{p:b6}
theorem Gb [Fr](l:List UInt8){k2:IntKind}{b:Int}(hk:cC k=true){t:TypeId}[hu:bI P t .string]{x z:Operand}
  (hw:aI ops e ⟨dst, .slice t x (some z) none none,ty,pos,an,g⟩=some true) (hx:ev e x=some (str l)) (hz:ev e z=some (.int k2 b)) (hd:fits n dst=true)
  (h0:0≤b) (h2:b≤l.length) (h:GX P ops Q S n p (e.put dst (str (l.drop b.toNat))) w):GO P ops Q S n k i ⟨dst, .slice t x (some z) none none,ty,pos,an,g⟩ p e w:=by
 have jR:(⟨l.toArray⟩:ByteArray).size=l.length:=by simp[ByteArray.size]
 refine GO.XM hk (l:=b.toNat) (h:=l.length) hw hx hd (fun w=>?_) ⟨by rintro _ ⟨⟩;rw[hz];rfl,by rintro _ ⟨⟩⟩ (by rw[X6,fw (by rw[ml];omega)];exact h);have e1:((b.toNat:Nat):Int)=b:=Int.toNat_of_nonneg ah;rw[jR];simp[Instr.sliceBounds,run_sliceBound,hz,h0,h2,e1]
end
attribute [local irreducible] GO
attribute [local irreducible] aB aq aS aF fz star
theorem CX {o:Og}{w:World}{t r:Nat}{v:Value}(s:Bs)(hs:Start o w [fz (aB t [ak r,v])]):aj prog 233 [ak t,str s].toArray w (Po o (iV (if s.length≤250 then 0 else 2)) []):=by
 have hH:=hs.sh;refine aj.enter func233 rfl ntmps233 rfl (gh ?_);refine GX.da (Fq s _) rfl rfl rfl rfl rfl rfl (gh ?_)
 by_cases h:s.length≤250
 ·rw[b8 h,if_pos h];refine gh ?_;exact⟨rfl,hH.to⟩
 ·rw[bQ h,if_neg h];refine gh ?_;exact⟨rfl,hH.to⟩
theorem V9 {o:Og}{w:World}{T:cy}{s:Bs}{y:Tn}(hy:ay T s=some y)(aP:y.e≠[])(c:Nat)(hc:c<256)(hs:Start o w [fz (eU T)]) :
  aj prog 351 [ak y.b, .int .u8 c].toArray w (Po o (iV ((hd y.e:Int) - c)) []):=by
 have hH:=hs.sh.tM hy;obtain⟨u,l,he⟩:∃u l,y.e=u::l:=by
  cases h:y.e with
  |nil=>exact absurd h aP
  |cons u l=>exact⟨u,l,rfl⟩
 have hu:=UInt8.toNat_lt u;rw[he] at hH ⊢;refine aj.enter func351 rfl ntmps351 rfl (gh ?_);refine GX.next rfl (GO.Am rfl rfl rfl rfl ah (u:=u) (by simp) rfl (gh ?_));exact⟨rfl,hH.to⟩
theorem ZD {o:Og}{w:World}{T:cy}(hT:TT T){s:Bs}{x:Tn}(hx:ay T s=some x)(c:Nat)(hc:c<256)(hs:Start o w [fz (eU T)]) :
  aj prog 350 [.slice (aA x.q.1) x.ks.length x.q.2, .int .u8 c, .func (.func 351) #[] #[]].toArray w (aX o (fun y:Nat×Bool => .tuple #[iV y.1, .bool y.2]) (Gs x.ks c) (fun _=>[])):=by
 have cV:=hT.kl hx;have uN:=hT.ok.ord _ _ hx;have hH:=hs.sh.tM hx;have uF:=fun i e he=>hT.jz hx (i:=i) (e:=e) he
 obtain⟨xb,xe,xn,⟨q,d⟩,ks⟩:=x;dsimp only at hH cV uN uF ⊢;rw[sP] at uN;refine aj.enter func350 rfl ntmps350 rfl (gh ?_);refine GC.bR [0,1,2,8] (fun y:Nat×Nat=>[(9,iV y.1),(10,iV y.2)]) (fun y w'=>y.1≤y.2∧y.2≤ks.length∧(∀e∈ks.take y.1,hd e.1<c)∧(∀e∈ks.drop y.2,c≤hd e.1)∧SH o w' [fz (aq 279 1 q ks.length d (bq (ks.map (·.2)))),fz (eU T)]) (fun y=>y.2 - y.1) (0,ks.length) rfl rfl ⟨bh _,aY _,by simp,by simp,hH.to⟩ ?_;rintro⟨i,j⟩ w ⟨h1,h2,h3,h4,hH⟩;simp only at h1 h2 h3 h4;dsimp only at hH ⊢;refine gh ?_;refine ifs (fun h5=>?_) (fun h5=>?_)<;>refine gh ?_
 ·refine GX.next rfl (GO.shr (c:=(((i+j) / 2:Nat):Int)) rfl rfl rfl rfl rfl (by decide) (by simp[IntKind.bits]) (gh ?_));have aN:(i+j) / 2<ks.length:=by omega
  obtain⟨e,he⟩:∃e,ks[(i+j) / 2]?=some e:=⟨_,bO aN⟩
  have qS:=(aV.1 he).2;obtain⟨y,hy,fF,eT,aP,_⟩:=uF _ _ he;obtain⟨p,rfl⟩:=hH.l8 (el:=279) (sz:=1) (q:=q);refine gh ?_;refine GX.next rfl (GO.cT (hv:=show(bq (ks.map (·.2)))[(i+j) / 2]?=some (ak y.b) by simp[bq,he,eT]) (h:=gh ?_));refine GX.aM (hc:=fun _ hs=>V9 hy (by rw[fF];exact aP) c hc hs) (h:=fun w hE hH=>gh ?_);rw[fF];refine ifs (fun h6=>?_) (fun h6=>?_)<;>refine gh ?_
  ·refine GQ.bj ((i+j) / 2+1,j) rfl ⟨by simp only;omega,h2,fun m hm=>?_,h4,hH.to⟩ (by simp only;omega);dsimp only at hm;obtain⟨k,hk⟩:=ey hm;rw[vy] at hk;split at hk
   ·rename_i je
    obtain⟨rU,uD⟩:=aV.1 hk
    by_cases e1:k=(i+j) / 2
    ·subst e1;rw[←uD,qS];omega
    ·have:=uN k ((i+j) / 2) rU aN ah;rw[qS,uD] at this;omega
   ·cases hk
  ·refine GQ.bj (i,(i+j) / 2) rfl ⟨by simp only;omega,by simp only;omega,h3,fun m hm=>?_,hH.to⟩ (by simp only;omega);dsimp only at hm;obtain⟨k,hk⟩:=ey hm;rw[List.getElem?_drop] at hk;obtain⟨rU,uD⟩:=aV.1 hk
   by_cases e1:k=0
   ·subst e1;have:m=e:=by rw[←uD,←qS];rfl
    rw[this];omega
   ·have:=uN ((i+j) / 2) ((i+j) / 2+k) aN rU ah;rw[qS,uD] at this;omega
 ·obtain rfl:i=j:=by omega
  by_cases h6:i<ks.length
  ·obtain⟨e,he⟩:∃e,ks[i]?=some e:=⟨_,bO h6⟩
   have qS:=(aV.1 he).2;obtain⟨y,hy,fF,eT,aP,_⟩:=uF _ _ he;obtain⟨p,rfl⟩:=hH.l8 (el:=279) (sz:=1) (q:=q);rw[show decide ((i:Int)<(ks.length:Int))=true by simp;omega];refine gh ?_;refine GX.next rfl (GO.cT (hv:=show(bq (ks.map (·.2)))[i]?=some (ak y.b) by simp[bq,he,eT]) (h:=gh ?_));refine GX.aM (hc:=fun _ hs=>V9 hy (by rw[fF];exact aP) c hc hs) (h:=fun w hE hH=>gh ?_);rw[fF];have kQ:=h4 e (by rw[tV h6,qS];simp);refine⟨(i,decide (((hd e.1:Int) - c)=0)),rfl,⟨h2,h3,fun h=>⟨e,he,?_⟩,fun h m hm=>?_⟩,hH.to⟩
   ·have:=dM h;omega
   ·have hn:=xy h;obtain⟨k,hk⟩:=ey hm;rw[List.getElem?_drop] at hk;obtain⟨rU,uD⟩:=aV.1 hk
    by_cases e1:k=0
    ·subst e1;have:m=e:=by rw[←uD,←qS];rfl
     rw[this];omega
    ·have:=uN i (i+k) h6 rU ah;rw[qS,uD] at this;omega
  ·rw[show decide ((i:Int)<(ks.length:Int))=false by simp;omega];refine gh ?_;exact⟨(i,false),rfl,⟨h2,h3,(fun h=>by cases h),fun _ m hm=>by rw[mm ah] at hm;cases hm⟩,hH.to⟩
theorem On {o:Og}{w:World}{T:cy}(hT:TT T){s:Bs}{x:Tn}(hx:ay T s=some x)(c:Nat)(hc:c<256)(hs:Start o w [fz (eU T)]) :
  aj prog 308 [ak x.b, .int .u8 c].toArray w (aX o (fun y:Nat×Bool => .tuple #[iV y.1, .bool y.2]) (Gs x.ks c) (fun _=>[])):=by
 have hH:=hs.sh.tM hx;refine aj.enter func308 rfl ntmps308 rfl (gh ?_);refine GX.ef (hc:=fun _ hs=>ZD hT hx c hc hs) (h:=?_);rintro⟨i,b⟩ w hC hE hH;replace hH:=SH.ap hH;refine gh ?_;exact⟨(i,b),rfl,hC,hH.to⟩
def kM:Bs→Bs→Nat
 |x::a,y::b=>if x=y then kM a b+1 else 0
 |_,_=>0
theorem K7:∀{a b:Bs}{k:Nat},k≤a.length→k≤b.length→a.take k=b.take k→(k<a.length→k<b.length→a[k]?≠b[k]?)→kM a b=k
 | [],b,k,h1,_,_,_=>by
    have:k=0:=by simpa using h1
    subst this;cases b<;>rfl
 |x::a,[],k,_,h2,_,_=>by
   have:k=0:=by simpa using h2
   subst this;rfl
 |x::a,y::b,0,_,_,_,h4=>by
  have:=h4 (by simp) (by simp);simp only[List.getElem?_cons_zero,ne_eq,mU] at this;simp[kM,this]
 |x::a,y::b,k+1,h1,h2,h3,h4=>by
  simp only[List.take_succ_cons,List.cons.injEq] at h3;have:=K7 (a:=a) (b:=b) (k:=k) (by simpa using h1) (by simpa using h2) h3.2 (fun p q=>by
   have:=h4 (by simpa using p) (by simpa using q);simpa using this)
  simp[kM,h3.1,this]
theorem aax (a b:Bs)(ha:a.length<2^40)(hb:b.length<2^40)(w:World):aj prog 310 [str a,str b].toArray w fun v w'=>v=iV (kM a b:Nat)∧Ext w w':=by
 have hH:SH ⟨w,fun _=>False,fun _=>False⟩ w []:=⟨fun _=>False,fun _=>False,⟨Mod.refl _,fun _ h=>h.elim,fun _ h=>h,fun _ h=>h.elim⟩,rfl,fun _ h=>h.elim,fun _ h=>h.elim⟩
 refine aj.enter func310 rfl ntmps310 rfl (gh ?_);refine GC.bR [0,1,5,12] (fun k:Nat=>[(13,iV k)]) (fun k w'=>k≤a.length∧k≤b.length∧a.take k=b.take k∧Ext w w') (fun k=>a.length - k) 0 rfl rfl ⟨bh _,bh _,by simp,Mod.refl _⟩ ?_;rintro k w1 ⟨h1,h2,h3,hE⟩;refine gh ?_;refine ifs (fun h4=>?_) (fun h4=>?_)<;>refine gh ?_
 ·have uE:k<a.length:=by omega
  have mI:k<b.length:=by omega
  refine GC.pv (bg [0,3,6,9,12,15,18]) (fun _=>False) mixed ai ai (gh ?_);refine GX.pure rfl (GO.Am rfl rfl rfl rfl ah (u:=a[k]) (by simp[uE]) rfl (gh ?_));refine GX.pure rfl (GO.Am rfl rfl rfl rfl ah (u:=b[k]) (by simp[mI]) rfl (gh ?_))
  by_cases fg:a[k]=b[k]
  ·rw[show decide (((a[k].toNat:Nat):Int)≠((b[k].toNat:Nat):Int))=false by simp[fg]];refine gh ?_;exact GQ.bj (k+1) rfl ⟨uE,mI,by rw[lh uE,lh mI,h3,fg],hE.trans (Ext.drew _)⟩ ah
  ·have aP:((a[k].toNat:Nat):Int)≠((b[k].toNat:Nat):Int):=fun e=>fg (UInt8.toNat_inj.1 ah)
   rw[show decide (((a[k].toNat:Nat):Int)≠((b[k].toNat:Nat):Int))=true from b8 aP];refine gh ?_;refine⟨?_,hE.trans (Ext.drew _)⟩;rw[K7 h1 h2 h3 fun _ _=>by simp[uE,mI,fg]]
 ·refine gh ?_;refine⟨?_,hE⟩;rw[K7 (k:=k) h1 h2 h3 fun p q=>by omega];congr 1;omega
end
section
attribute [local irreducible] GO GX
section
variable {P:Program}{ops:Array Oper}{Q:Exit→Act→World→Prop}{S:World→Prop}{n:Nat}
variable {i m:Nat}{p:b6}{e:Env}{w:World}{k:Kd}{dst:Option Tmp}{ty:TypeId}{pos:String}{an:Array Edge}{g:Option (Nat×Bool)}
variable {og:Og}{l r l':List It}{b:Nat}
theorem ai2 {t el:TypeId}{aT:Nat}(hf:cr P t el 1 aT){N cap c j m c2:Nat}{a2:Option Addr}{cs:List Value}(hO:aH w el 1 (some b) (some ⟨b,0,none⟩) N cap cs)(Sp:c≤j)(hj:j+m=N)(h1:∀u∈cs,u.oneCell'=true)(hN:bN w a2 (cs.drop j))(hz:m=0∨∃y,a2=some y) :
  ∃w',(Builtin.append_ #[t,t] ty #[.slice (some ⟨b,0,none⟩) c cap, .slice a2 m c2]).run P w = .ok (.slice (some ⟨b,0,none⟩) (c+m) cap) w'∧aH w' el 1 (some b) (some ⟨b,0,none⟩) N cap (cs.take c++cs.drop j++cs.drop (c+m))∧Mod (· = b) w w':=by
 obtain⟨hu,ii,z,hi,kf,hs,mF,iR⟩:=hf.facts;have hlen:=hO.1;rw[mj] at hlen;obtain⟨cur,hg,q1,q2,q3,q4⟩:=rm hO;rw[mj] at q3;have hle:c+m≤cap:=by omega
 rcases Nat.eq_zero_or_pos m with hm|hm
 ·subst hm;have hd:cs.drop j=[]:=mm ah;refine⟨w,?_,by rw[hd,fB,qy,jW];exact hO,Mod.refl w⟩;have S4:c≤cap:=by omega
  have xX:(Builtin.firstCells ii.size 0 (.slice a2 0 c2)).run P w = .ok #[] w:=by
   cases a2 with
   |none=>simp[Builtin.firstCells]
   |some x=>simpa using run_firstCells_some (P:=P) w ii.size 0 x 0 c2 [] (by simp) (by simp)
  simp[Builtin.append_,run_underlying hu,Go.sizeOf,typeInfo,hi,Builtin.lenOf,S4,xX,storeCells]
 ·have mG:(cs.drop j).length=m:=by rw[ml];omega
  obtain⟨b2,o2,rfl,vX⟩:=hN.sC ah;have oo:∀k u,(cs.drop j)[k]?=some u→w.cell? ((⟨b2,o2,none⟩:Addr).add k)=some u:=fun k u hu=>by rw[iY];exact vX k u hu
  have gM:∀u∈cs.drop j,u.oneCell'=true:=fun u hu=>h1 u (xv hu)
  have dp:=run_storeCells_cells (P:=P) b c (cs.drop j) 0 w (fun k hk=>by
   rw[qy,cell_of_row w _ _ cur el _ hg];simp;omega) (fun k hk=>by simp[World.frozen?,hg]) gM
  have xX:=run_firstCells_some (P:=P) w 1 m ⟨b2,o2,none⟩ m c2 (cs.drop j) ah oo;have hp:=CJ b (cs.drop j) c w cur el (0,0) hg ah;have h2:=AD hO hp ah;rw[mG] at h2;refine⟨_,?_,h2,hp.mod⟩;simp only[qy] at dp;simp[Builtin.append_,run_underlying hu,Go.sizeOf,typeInfo,hi,hs,Builtin.lenOf,hle,xX,iY,dp]
theorem GX.Zg [Fr]{T:Nat→Prop}{w0:World}{x y:Operand}{t el:TypeId}{aT:Nat}{N cap c j m2 c2:Nat}{a2:Option Addr}{cs:List Value}(hH:SH og w l:=by assumption)(hA:bN w a2 (cs.drop j))(hT:T b)
  (ho:ops[i]?=some ⟨dst, .call ⟨.builtin .append,#[x,y],#[t,t]⟩,ty,pos,an,g⟩:=by rfl) (hf:cr P t el 1 aT:=by infer_instance) (hw:aI ops e ⟨dst, .call ⟨.builtin .append,#[x,y],#[t,t]⟩,ty,pos,an,g⟩=some true:=by rfl) (hx:ev e x=some (.slice (some ⟨b,0,none⟩) c cap):=by rfl) (hy:ev e y=some (.slice a2 m2 c2):=by rfl) (hd:fits n dst=true:=by rfl)
  (hr:bA (aq el 1 (some b) N cap cs) (aq el 1 (some b) N cap (cs.take c++cs.drop j++cs.drop (c+m2))) l l':=by repeat(first|exact bA.here|apply bA.there)) (Sp:c≤j:=by omega) (hj:j+m2=N:=by omega) (h1:∀u∈cs,u.oneCell'=true) (hz:m2=0∨∃y,a2=some y)
  (h:∀w',SH og w' l'→GX P ops Q (Mod T w0) n p (e.put dst (.slice (some ⟨b,0,none⟩) (c+m2) cap)) w'):GX P ops Q (Mod T w0) n (.aw i p) e w:=by
 obtain⟨_,hs,_⟩:=hr.perm;have hO:aH w el 1 (some b) (aA (some b)) N cap cs:=let⟨_,_,h,_⟩:=(hH.perm hs).head;h;obtain⟨w1,h2,h3,h4⟩:=ai2 (ty:=ty) (c2:=c2) hf hO Sp hj h1 hA hz;refine GX.aw ho (GO.run (R:=fun v w'=>v = .slice (some ⟨b,0,none⟩) (c+m2) cap∧w'=w1) hw hd (fun ac ha=>⟨_,_,w1,?_, .inl rfl,rfl,rfl⟩) ?_)
 ·simp[execOp,resolve,invoke,builtin,bE ha hx,bE ha hy,h2]
 ·rintro _ _ ⟨rfl,rfl⟩;exact⟨fun _ hS=>hS.trans (h4.weaken fun k _ hk=>by subst hk;exact hT),h _ (hH.lG hr (fun _=>h3) (h4.weaken fun k _ hk=>by rw[hk]) fun b hb => .inl hb)⟩
theorem Zu {len cap i j m:Nat}{kl kh km:IntKind}(h:i≤j)(h2:j≤m)(h3:m≤cap)(w:World):(Instr.sliceBounds true len cap (some (.int kl i)) (some (.int kh j)) (some (.int km m))).run P w = .ok (i,j,m) w:=by
 simp[Instr.sliceBounds,run_sliceBound,(by omega:((m:Nat):Int)≤cap),(by omega:((i:Nat):Int)≤j),(by omega:((j:Nat):Int)≤m)]
theorem Zv {len cap j m:Nat}{kh km:IntKind}(h2:j≤m)(h3:m≤cap)(w:World):(Instr.sliceBounds true len cap none (some (.int kh j)) (some (.int km m))).run P w = .ok (0,j,m) w:=by
 simp[Instr.sliceBounds,run_sliceBound,(by omega:((m:Nat):Int)≤cap),(by omega:((j:Nat):Int)≤m)]
theorem GO.sl3 [Fr](hk:cC k=true){t:TypeId}{x y z v:Operand}{a:Option Addr}{len cap j h c:Nat}{el:TypeId}{sz aT:Nat}{ki kj kc:IntKind}(hw:aI ops e ⟨dst, .slice t x (some y) (some z) (some v),ty,pos,an,g⟩=some true:=by rfl)(hf:cr P t el sz aT:=by infer_instance)(hx:ev e x=some (.slice a len cap):=by rfl)(hy:ev e y=some (.int ki (j:Nat)):=by rfl)(hz:ev e z=some (.int kj (h:Nat)):=by rfl)(hv:ev e v=some (.int kc (c:Nat)):=by rfl)(hd:fits n dst=true:=by rfl)(hj:j≤h:=by omega)(hc:h≤c:=by omega)(Eg:c≤cap:=by omega)
  (hh:GX P ops Q S n p (e.put dst (.slice (fi a j c sz) (h - j) (c - j))) w):GO P ops Q S n k i ⟨dst, .slice t x (some y) (some z) (some v),ty,pos,an,g⟩ p e w:=
 GO.xj hk hw hx hd (by intro w;simp only[jV,hy,hz,hv,oN];exact Zu hj hc Eg w) ⟨by rintro _ ⟨⟩;rw[hy];rfl,by rintro _ ⟨⟩;rw[hz];rfl,by rintro _ ⟨⟩;rw[hv];rfl⟩ hh
theorem GO.ajE [Fr](hk:cC k=true){t:TypeId}{x z v:Operand}{a:Option Addr}{len cap h c:Nat}{el:TypeId}{sz aT:Nat}{kj kc:IntKind}(hw:aI ops e ⟨dst, .slice t x none (some z) (some v),ty,pos,an,g⟩=some true:=by rfl)(hf:cr P t el sz aT:=by infer_instance)(hx:ev e x=some (.slice a len cap):=by rfl)(hz:ev e z=some (.int kj (h:Nat)):=by rfl)(hv:ev e v=some (.int kc (c:Nat)):=by rfl)(hd:fits n dst=true:=by rfl)(hc:h≤c:=by omega)(Eg:c≤cap:=by omega)
  (hh:GX P ops Q S n p (e.put dst (.slice (fi a 0 c sz) h c)) w):GO P ops Q S n k i ⟨dst, .slice t x none (some z) (some v),ty,pos,an,g⟩ p e w:=
 GO.xj hk hw hx hd (by intro w;simp only[Option.map_none,jV,hz,hv,oN];exact Zv hc Eg w) ⟨by rintro _ ⟨⟩,by rintro _ ⟨⟩;rw[hz];rfl,by rintro _ ⟨⟩;rw[hv];rfl⟩ hh
theorem ahY {w':World}{el:TypeId}{n' c k m:Nat}{cs:List Value}{z:Value}(h:aH w el 1 (some b) (some ⟨b,0,none⟩) n' c cs)(hp:mu w w' b k (List.replicate m z))(hk:k+m=n'):aH w' el 1 (some b) (some ⟨b,0,none⟩) k c (cs.take k):=by
 have hl:=h.1;rw[mj] at hl;have h2:=AD h hp (by rw[List.length_replicate];omega);have h3:=OJ (q:=some b) (k:=k) h2 ah;rw[mj,cS,vt (by rw[dI];omega),List.take_take,Nat.min_self] at h3;exact h3
end
attribute [local irreducible] aB aq aS aF fz star
theorem aeN {o:Og}{w:World}{q:Option Nat}{N c bv:Nat}{cs:List Value}{x:Value}(i:Nat)(hi:i≤N)(hN:N<2^40)(hx:x.oneCell'=true)(h1:∀u∈cs,u.oneCell'=true)(hs:Start o w [aq 279 1 q N c cs,aq 279 1 (some bv) 1 1 [x]]) :
  aj prog 309 [.slice (aA q) N c,iV i, .slice (some ⟨bv,0,none⟩) 1 1].toArray w (aX o (my (N+1)) (fun _=>True) (mw 279 1 (N+1) (cs.take i++x::cs.drop i))):=by
 have hH:=hs.sh;have hlen:=hH.len (el:=279) (sz:=1) (q:=q);rw[mj] at hlen;have H9:=hH.cap (q:=q);refine aj.enter func309 rfl ntmps309 rfl (gh ?_);refine GX.next rfl (GO.kX (j:=i) rfl (hh:=gh ?_))
 by_cases h2:i=N
 ·subst h2;rw[show decide ((i:Int)=(i:Int))=true by simp];refine gh ?_;refine GX.pQ (q:=q) (m2:=1) (c2:=1) (news:=[x]) (hN:=SH.bL hH (x:=aq 279 1 (some bv) 1 1 [x]) (a:=some ⟨bv,0,none⟩) bP) (hnl:=rfl) (h1:=fun u hu=>by simp at hu;subst hu;exact hx) (h:=fun q' c' w hH=>gh ?_);refine⟨(q',c'),rfl,trivial,?_⟩;rw[fw ah,mm ah];exact hH.to
 ·rw[show decide ((i:Int)=(N:Int))=false by simp;omega];refine gh ?_;obtain⟨b,rfl⟩:=hH.pos (q:=q);refine GX.next rfl (GO.GZ rfl rfl rfl rfl (gh ?_));refine ifs (fun h3=>?_) (fun h3=>?_)<;>refine gh ?_
  ·refine GX.next rfl (GO.AP (j:=i) rfl (hh:=?_));rw[xl];refine gh ?_;rw[show(N:Int)+((1:Nat):Int) - (i:Int)=((N+1 - i:Nat):Int) by omega];have hA:At w b 0 cs:=hH.es (b:=b) (cs:=cs) (by repeat(first|exact Es.sl|exact Es.lr|exact Es.lx|apply Es.there));refine GX.KS (c0:=N+1 - i) (olds:=cs.take i) (a:=aA (some b)) (hA:=At.left (m:=cs.drop i) (by rw[jW];exact hA)) (hl:=by rw[dI];omega) (h:=fun b' c' w zs hz hE hH=>?_);rw[show i+(N+1 - i)=N+1 by omega] at hH ⊢;have acW:=hH.cap (q:=some b');refine gh ?_;refine GX.next rfl (GO.kX (j:=i) rfl (hh:=?_));rw[mh b' i c' ah];refine gh ?_;refine GX.Dt (b:=b') (vs:=[x]) (hA:=SH.bL hH (x:=aq 279 1 (some bv) 1 1 [x]) (a:=some ⟨bv,0,none⟩) bP) (hl:=by simp[Nat.min_def];omega) (h1:=fun u hu=>by simp at hu;subst hu;exact hx) (hb:=by simp;omega) (hc:=rfl) (h:=fun w hH=>gh ?_);have hA:At w b 0 cs:=hH.es (b:=b) (cs:=cs) (by repeat(first|exact Es.sl|exact Es.lr|exact Es.lx|apply Es.there));have gy:bN w (some ⟨b,i,none⟩) (cs.drop i):=by
    have:=At.right (l:=cs.take i) (m:=cs.drop i) (by rw[jW];exact hA);rwa [dI,pC ah,dz] at this
   refine GC.br (pl:=(bg [0,3,6,9,12,15,18,21,26])) (T:=dt []) (hm:=mixed) (h:=fun w hE hH=>gh ?_);refine GX.pure rfl (GO.kX (j:=i+1) rfl (hh:=?_));rw[mh b' (i+1) c' ah];refine gh ?_;refine GX.pure rfl (GO.kX (j:=i) rfl (hh:=?_));rw[show fi (aA (some b)) i c 1=some ⟨b,i,none⟩ from mh b i c ah];refine gh ?_;refine GX.Du (b:=b') (vs:=cs.drop i) (hA:=bN.mod gy hE fun _ _ h=>h) (hl:=by simp[Nat.min_def];omega) (h1:=fun u hu=>h1 u (xv hu)) (hb:=by simp;omega) (hc:=rfl) (h:=fun w hH=>gh ?_);refine⟨(some b',c'),rfl,trivial,?_⟩;have:=Uh x (l:=cs) (i:=i) ah zs ah;simp only[gW] at hH;rw[this] at hH;exact hH.to
  ·refine GX.next rfl (GO.AP (j:=N+1) rfl (hh:=?_));rw[xl];refine gh ?_;obtain⟨u,hH⟩:=hH.more (el:=279) (b:=b) (n:=N) (c:=c) (cs:=cs) ah;refine GX.next rfl (GO.kX (j:=i+1) rfl (hh:=?_));rw[show fi (aA (some b)) (i+1) c 1=some ⟨b,i+1,none⟩ from mh b (i+1) c ah];refine GX.Ql (V := .bool false) (hr:=?_) (h:=gh ?_)
   ·have ES:=Xj (P:=prog) (tS:=280) (tR:=4) (aT:=8) (o:=i+1) (N:=N+1 - (i+1)) (C:=c - (i+1)) inferInstance (hH.own (el:=279) (q:=some bv) (n:=1) (c:=1) (cs:=[x]) bP) (hH.own (el:=279) (q:=some b) (n:=N+1) (c:=c) (cs:=cs++[u]) bP) (fun e=>by have:=hH.Wa (b:=bv) (q:=some b);exact this (congrArg some e)) ah;rw[run_callFunc_extern (fn:=Tryz.f352) ai ai ai ai (e:=Extern.SlicesOverlaps.overlaps #[280,280] #[4]) ai];exact congrArg (fun r:Result Value=>r.andThen fun v w'=>Result.ok (Next.value v) w') ES
   have hA:At w b 0 (cs++[u]):=hH.es (b:=b) (cs:=cs++[u]) (by repeat(first|exact Es.sl|exact Es.lr|exact Es.lx|apply Es.there));have gy:bN w (some ⟨b,i,none⟩) (cs.drop i):=by
    have:=At.right (l:=cs.take i) (m:=cs.drop i) (by rw[jW];exact hA.left);rwa [dI,pC ah,dz] at this
   refine GC.br (pl:=(bg [0,3,6,9,12,15,18,21,26])) (T:=dt []) (hm:=mixed) (h:=fun w hE hH=>gh ?_);refine GX.pure rfl (GO.kX (j:=i+1) rfl (hh:=?_));rw[show fi (aA (some b)) (i+1) c 1=some ⟨b,i+1,none⟩ from mh b (i+1) c ah];refine gh ?_;refine GX.pure rfl (GO.kX (j:=i) rfl (hh:=?_));rw[show fi (aA (some b)) i c 1=some ⟨b,i,none⟩ from mh b i c ah];refine gh ?_;refine GX.Du (b:=b) (vs:=cs.drop i) (hA:=bN.mod gy hE fun _ _ h=>h) (hl:=by rw[ml];show _=min (N+1 - i) (N+1 - (i+1));omega) (h1:=fun u hu=>h1 u (xv hu)) (hb:=by simp;omega) (hc:=rfl) (h:=fun w hH=>gh ?_);refine GX.next rfl (GO.kX (j:=i) rfl (hh:=?_));rw[show fi (aA (some b)) i c 1=some ⟨b,i,none⟩ from mh b i c ah];refine gh ?_;refine GX.Dt (b:=b) (vs:=[x]) (hA:=SH.bL hH (x:=aq 279 1 (some bv) 1 1 [x]) (a:=some ⟨bv,0,none⟩) bP) (hl:=by simp[Nat.min_def];omega) (h1:=fun u hu=>by simp at hu;subst hu;exact hx) (hb:=by simp;omega) (hc:=rfl) (h:=fun w hH=>gh ?_);refine⟨(some b,c),rfl,trivial,?_⟩;have:=Ui x u (l:=cs) (i:=i) ah;simp only[gW] at hH;rw[this] at hH;exact hH.to
theorem aaO {o:Og}{w:World}{b N c:Nat}{cs:List Value}(i:Nat)(hi:i<N)(hN:N<2^40)(h1:∀u∈cs,u.oneCell'=true)(hs:Start o w [aq 279 1 (some b) N c cs]) :
  aj prog 406 [.slice (aA (some b)) N c,iV i,iV (i+1:Nat)].toArray w (Po o (.slice (aA (some b)) (N - 1) c) [aq 279 1 (some b) (N - 1) c (cs.eraseIdx i)]):=by
 have hH:=hs.sh;have hlen:=hH.len (el:=279) (sz:=1) (q:=some b);rw[mj] at hlen;have H9:=hH.cap (q:=some b);refine aj.enter func406 rfl ntmps406 rfl (gh ?_);refine GX.next rfl (GO.sl3 (j:=i) (h:=i+1) (c:=N) rfl (hh:=gh ?_));rw[show decide ((i:Int)=((i+1:Nat):Int))=false by simp;omega];refine gh ?_;have hA:At w b 0 cs:=hH.es (b:=b) (cs:=cs) (by repeat(first|exact Es.sl|exact Es.lr|exact Es.lx|apply Es.there));refine GC.br (pl:=(bg [0,3,6,9,12,15,20,21])) (T:=dt []) (hm:=mixed) (h:=fun w hE hH=>gh ?_);refine GX.pure rfl (GO.AP (j:=i) rfl (hh:=?_));rw[xl];refine gh ?_;refine GX.pure rfl (GO.kX (j:=i+1) rfl (hh:=?_));refine gh ?_;refine GX.Zg (b:=b) (c:=i) (j:=i+1) (m2:=N - (i+1)) (cs:=cs) (hA:=?_) (hT:=fun h=>by cases h) (h1:=h1) (hz:=?_) (h:=fun w hH=>gh ?_)
 ·have hA:=hA.ext hE
  by_cases h2:i+1=N
  ·rw[mm ah];exact bN.empty _ _
  ·rw[show fi (aA (some b)) (i+1) c 1=some ⟨b,i+1,none⟩ from mh b (i+1) c ah];have:=At.right (l:=cs.take (i+1)) (m:=cs.drop (i+1)) (by rw[jW];exact hA);rwa [dI,pC ah,dz] at this
 ·by_cases h2:i+1=N
  ·exact .inl ah
  ·right;rw[show fi (aA (some b)) (i+1) c 1=some ⟨b,i+1,none⟩ from mh b (i+1) c ah];exact⟨_,rfl⟩
 rw[show i+(N - (i+1))=N - 1 by omega] at hH ⊢;refine GX.next rfl (GO.ajF (j:=N - 1) (h:=N) rfl (hh:=?_));rw[show fi (some ⟨b,0,none⟩) (N - 1) c 1=some ⟨b,N - 1,none⟩ from mh b (N - 1) c ah,show N - (N - 1)=1 by omega];have hO:=hH.own (el:=279) (sz:=1) (q:=some b) (n:=N) (c:=c) bP;have jf:=hO.1;refine GX.QF (FH hO ah) ah (by rfl) rfl rfl rfl rfl fun w2 hp=>gh ?_
 have jt:=ahY hO hp ah;have aQ:SH o w2 [aq 279 1 (some b) (N - 1) c ((cs.take i++cs.drop (i+1)++cs.drop (N - 1)).take (N - 1))]:=(hH.to (s:=[aq 279 1 (some b) N c (cs.take i++cs.drop (i+1)++cs.drop (N - 1))])).lG bA.here (fun _=>jt) (hp.mod.weaken fun k _ hk=>by rw[hk]) fun b hb => .inl hb
 refine⟨rfl,?_⟩;have e:(cs.take i++cs.drop (i+1)++cs.drop (N - 1)).take (N - 1)=cs.eraseIdx i:=by
  rw[vt (by simp;omega),fw (by simp;omega),List.eraseIdx_eq_take_drop_succ]
 rw[e] at aQ;exact aQ.to
end
end Go.Proofs.YtoloaehmppcjoaaGreat.V.M
