/-
  Parts of the proof. No condition.
-/
import Derived.Test.YtmlpbmgfmnmmmaaGreatW2bk
set_option linter.unusedVariables false
set_option linter.unusedSimpArgs false
set_option maxRecDepth 8000
set_option maxHeartbeats 8000000
open Go.Proofs.Tryz
namespace Go.Proofs.YtmlpbmgfmnmmmaaGreat.V.M
section
attribute [local irreducible] GO GX
section
variable {P:Program}{ops:Array Oper}{Q:Exit→Act→World→Prop}{S:World→Prop}{n:Nat}
variable {i m:Nat}{p:bZ}{e:Env}{w:World}{k:Kd}{dst:Option Tmp}{ty:TypeId}{pos:String}{an:Array Edge}{g:Option (Nat×Bool)}
variable {og:Og}{l r l':List It}{b:Nat}
theorem ai5 {t el:TypeId}{sz aS:Nat}(hf:cj P t el sz aS){b1 o1:Nat}{a2:Option Addr}{len m c2:Nat}{cs news:List Value}(hA:At w b1 o1 cs)(hl:cs.length=len*sz)(hN:bM w a2 news)(hnl:news.length=m*sz)
  (hb:(len+m)*aS≤140737488355328) (hm:len+m≤140737488355328) (hz:0<sz) (pM:0<m) :
  ∃b' c' w',(Builtin.append_ #[t,t] ty #[.slice (some ⟨b1,o1,none⟩) len len, .slice a2 m c2]).run P w = .ok (.slice (some ⟨b',0,none⟩) (len+m) c') w'∧aG w' el sz (some b') (some ⟨b',0,none⟩) (len+m) c' (cs++news)∧Ext w w'∧w.heap.size≤b':=by
 obtain⟨hu,ii,z,hi,jT,hs,mj,iE⟩:=hf.facts;have zZ:0<news.length:=by rw[hnl];exact Nat.mul_pos pM hz
 obtain⟨b2,o2,rfl,vQ⟩:=hN.rV zZ;have nU:∀j u,news[j]?=some u→w.cell? ((⟨b2,o2,none⟩:Addr).add j)=some u:=fun j u hu=>by rw[ir];exact vQ j u hu
 subst hs;subst mj;have hr:=run_append_grow (P:=P) w t ty el ii z hu hi jT ⟨b1,o1,none⟩ len len cs hl (fun j u hu=>by rw[ir];exact hA j u hu) ⟨b2,o2,none⟩ m c2 news hnl nU ah ah (growslice_fits ah hb);refine⟨w.heap.size,_,_,hr,aG.new ⟨by rw[bJ,hl,hnl,iP], .inr ⟨w.heap.size,_,_,rfl,bh _,heap_alloc_new w.drew _,grownCap_ge w (len+m) len el,grownCap_le_maxLen w (len+m) len el (by unfold maxLen;omega),?_,?_⟩⟩,(Ext.drew w).trans (Ext.alloc w.drew _),bj _⟩
 ·have kB:=grownCap_ge w (len+m) len el;simp only[Array.size_append,xh,size_zeroCells,iE,hl,hnl,←iP];congr 1;omega
 ·have hlen:(cs++news).length=(len+m)*ii.size:=by rw[bJ,hl,hnl,iP]
  simp only[Array.toList_append,cP];rw[←cP,←hlen];exact vk
theorem GX.Ze [Fr]{T:Nat→Prop}{w0:World}{b1 o1:Nat}{x y:Operand}{t el:TypeId}{sz aS:Nat}{len m2 c2:Nat}{a2:Option Addr}{cs news:List Value}(hH:SH og w l:=by assumption)(hA:At w b1 o1 cs)(hN:bM w a2 news)
  (ho:ops[i]?=some ⟨dst, .call ⟨.builtin .append,#[x,y],#[t,t]⟩,ty,pos,an,g⟩:=by rfl) (hf:cj P t el sz aS:=by infer_instance) (hw:aH ops e ⟨dst, .call ⟨.builtin .append,#[x,y],#[t,t]⟩,ty,pos,an,g⟩=some true:=by rfl) (hx:ev e x=some (.slice (some ⟨b1,o1,none⟩) len len):=by rfl) (hy:ev e y=some (.slice a2 m2 c2):=by rfl) (hd:fits n dst=true:=by rfl)
  (hl:cs.length=len*sz) (hnl:news.length=m2*sz) (hz:Nat.blt 0 sz=true:=by rfl) (pM:0<m2:=by decide) (hb:(len+m2)*aS≤140737488355328:=by omega) (hm:len+m2≤140737488355328:=by omega) (hT:Mod T w0 w:=by first|assumption|exact Ext.mod (by assumption))
  (h:∀b' c' w',Mod T w0 w'→SH og w' (ao el sz (some b') (len+m2) c' (cs++news)::l)→GX P ops Q (Mod T w0) n p (e.put dst (.slice (ay (some b')) (len+m2) c')) w'):GX P ops Q (Mod T w0) n (.ax i p) e w:=by
 obtain⟨b',c',w1,h1,h2,h3,h4⟩:=ai5 (ty:=ty) (c2:=c2) hf hA hl hN hnl hb hm (by simpa using hz) pM;refine GX.ax ho (GO.run (R:=fun v w'=>v = .slice (some ⟨b',0,none⟩) (len+m2) c'∧w'=w1) hw hd (fun ac ha=>⟨_,_,w1,?_, .inl rfl,rfl,rfl⟩) ?_)
 ·simp[execOp,resolve,invoke,builtin,bC ha hx,bC ha hy,h1]
 ·rintro _ _ ⟨rfl,rfl⟩;exact⟨fun _ hS=>hS.trans h3.mod,h b' c' _ (hT.trans h3.mod) (hH.cE h3 (fun k hk=>by cases hk;exact h4) h2)⟩
theorem GX.Zh [Fr]{T:Nat→Prop}{w0:World}{x y:Operand}{t el:TypeId}{sz aS:Nat}{a2:Option Addr}{len cap m2 c2:Nat}{cs news:List Value}{pS:Option Nat→Nat→List It}(hH:SH og w l:=by assumption)(hN:bM w a2 news)(hT:T b)
  (ho:ops[i]?=some ⟨dst, .call ⟨.builtin .append,#[x,y],#[t,t]⟩,ty,pos,an,g⟩:=by rfl) (hf:cj P t el sz aS:=by infer_instance) (hw:aH ops e ⟨dst, .call ⟨.builtin .append,#[x,y],#[t,t]⟩,ty,pos,an,g⟩=some true:=by rfl) (hx:ev e x=some (.slice (ay (some b)) len cap):=by rfl) (hy:ev e y=some (.slice a2 m2 c2):=by rfl) (hd:fits n dst=true:=by rfl)
  (hz:Nat.blt 0 sz=true:=by rfl) (hnl:news.length=m2*sz) (h1:∀u∈news,u.oneCell'=true) (pM:Mod T w0 w:=by first|assumption|exact Ext.mod (by assumption)) (hr:∀q' c',bA (ao el sz (some b) len cap cs) (ao el sz q' (len+m2) c' (cs++news)) l (pS q' c'):=by intro _ _;repeat(first|exact bA.here|apply bA.there)) (hb:(len+m2)*aS≤140737488355328:=by omega) (hm:len+m2≤140737488355328:=by omega)
  (h:∀q' c' w',Mod T w0 w'→SH og w' (pS q' c')→GX P ops Q (Mod T w0) n p (e.put dst (.slice (ay q') (len+m2) c')) w'):GX P ops Q (Mod T w0) n (.ax i p) e w:=by
 obtain⟨_,hs,_⟩:=(hr none 0).perm;have hO:aG w el sz (some b) (ay (some b)) len cap cs:=let⟨_,_,h,_⟩:=(hH.perm hs).head;h;have D4:∀k,some k=some b→T k:=fun k hk=>by cases hk;exact hT
 refine GX.Bh hO hN D4 ho hw hx hy hd hz hnl h1 hb hm fun cO a' c' w' jN i' hn ha=>?_
 have e:a'=ay cO:=wO jN fun h0=>by
  cases qu:a' with
  |none=>rfl
  |some x=>
   rcases ha x qu with h2|⟨h2,h3⟩
   ·rw[h0] at h2;cases h2
   ·rw[h0] at h3;cases h3
 subst e;exact h cO c' w' (pM.trans (i'.weaken fun k _ hk=>D4 k hk)) (hH.ly (hr cO c') (fun _=>jN) (i'.weaken fun k _ hk=>hk) hn)
end
attribute [local irreducible] aA ao aQ aF fz star
theorem wD (k:Bs)(v:Tn)(M:cz)(j:Bs):az ((k,v)::M) j=if j=k then some v else az M j:=rfl
theorem SH.wF {o:Og}{w:World}{l r:List It}{M:cz}(s:Bs)(x:Tn)(hH:SH o w l)(hp:Pk l [eH M,aA x.b [str x.e,uV x.n, .slice (ay x.q.1) x.ks.length x.q.2],ao 256 1 x.q.1 x.ks.length x.q.2 (bg (x.ks.map (·.2)))] r:=by repeat(first|exact Pk.nil|(apply Pk.cons;repeat(first|exact aB.here|apply aB.there)))) :
 SH o w (eH ((s,x)::M)::r):=hH.iu (jY (s,x)) _ hp (mC _)
theorem uM {M:cz}{k j:Bs}(h:(M.map (·.1)).Nodup):j∈(bD M k).map (·.1)↔j≠k∧j∈M.map (·.1):=by
 rw[agS h];simp only[bK,ib,mE];constructor
 ·rintro⟨x,⟨h1,h2⟩,rfl⟩;exact⟨h2,x,h1,rfl⟩
 ·rintro⟨h1,x,h2,rfl⟩;exact⟨x,⟨h2,h1⟩,rfl⟩
theorem tw {T:cz}{r:Tn}(h:az T []=some r):iN T=r.b:=by unfold iN;rw[h]
structure PK (T T':cz)(s e1:Bs)(bm:Nat):Prop where
 tt:TT T'
 num:∀t,bW (az T') t=bW (az T) t
 root:iN T'=iN T
 Jl:∃m,az T' (s++e1)=some m∧m.b=bm
theorem ak8 {T:cz}(hT:TT T){s:Bs}{x y:Tn}(hx:az T s=some x){i:Nat}{e1 e2:Bs}(he:x.ks[i]?=some (e1++e2,y.b))(h1:e1≠[])(h2:e2≠[])(hy:az T (s++(e1++e2))=some y){bm:Nat}{q q':Option Nat×Nat} :
  PK T ((s++(e1++e2),{ y with e:=e2})::(s,{ x with ks:=x.ks.set i (e1,bm),q:=q})::(s++e1,⟨bm,e1,0,q',[(e2,y.b)]⟩)::bD (bD T s) (s++(e1++e2))) s e1 bm:=by
 obtain⟨hn,aX⟩:=hT.ok.split hx he h1 h2 hy (bm:=bm) (q:=q) (q':=q');have hP:=fun t=>ab0 (g:=az T) (ks:=x.ks.set i (e1,bm)) (bm:=bm) (q:=q) (q':=q') (kk:=[(e2,y.b)]) hx hn hy t
 have oQ:s≠s++e1:=fun e=>h1 (by simpa using e)
 have pO:s≠s++(e1++e2):=fun e=>zo (b:=e2) h1 (by simpa using e)
 have tZ:s++e1≠s++(e1++e2):=fun e=>h2 (by simpa using List.append_cancel_left e)
 have qG:=wG hT.nd s;have uw:=wG qG (s++(e1++e2));have hg:az ((s++(e1++e2),{ y with e:=e2})::(s,{ x with ks:=x.ks.set i (e1,bm),q:=q})::(s++e1,(⟨bm,e1,0,q',[(e2,y.b)]⟩:Tn))::bD (bD T s) (s++(e1++e2)))=ef (ef (ef (az T) s (some { x with ks:=x.ks.set i (e1,bm),q:=q})) (s++e1) (some ⟨bm,e1,0,q',[(e2,y.b)]⟩)) (s++(e1++e2)) (some { y with e:=e2}):=by
  funext t;rw[wD,wD,wD,iF qG,iF hT.nd];unfold ef
  by_cases a1:t=s++(e1++e2)
  ·simp only[if_pos a1]
  ·by_cases a2:t=s
   ·subst a2;simp only[if_neg a1,if_neg oQ,eq_self,if_true]
   ·by_cases a3:t=s++e1
    ·simp only[if_neg a1,if_neg a2,if_pos a3]
    ·simp only[if_neg a1,if_neg a2,if_neg a3]
 have ea:∀t,t∈(bD (bD T s) (s++(e1++e2))).map (·.1)↔t≠s++(e1++e2)∧t≠s∧t∈T.map (·.1):=fun t=>by
  rw[uM qG,uM hT.nd]
 refine⟨⟨by rw[hg];exact aX,?_⟩,fun t=>by rw[hg];exact hP t,?_,⟨bm,e1,0,q',[(e2,y.b)]⟩,by rw[hg,dz tZ,gp],rfl⟩
 ·simp only[cK,eI,bY];refine⟨fun h=>?_,fun h=>?_,fun h=>?_,uw⟩
  ·rcases h with h|h|h
   ·exact pO h.symm
   ·exact tZ h.symm
   ·exact((ea _).1 h).1 rfl
  ·rcases h with h|h
   ·exact oQ h
   ·exact((ea _).1 h).2.1 rfl
  ·exact wE.1 hn ((ea _).1 h).2.2
 ·obtain⟨r,hr,_⟩:=hT.ok.root;rw[tw hr];have n1:([]:Bs)≠s++e1:=uP h1;have n2:([]:Bs)≠s++(e1++e2):=uP (zo h1)
  by_cases e:s=[]
  ·subst e;rw[hr] at hx;cases hx;rw[tw (r:={ x with ks:=x.ks.set i (e1,bm),q:=q}) (by rw[hg,dz n2,dz n1,gp])]
  ·rw[tw (r:=r) (by rw[hg,dz n2,dz n1,dz (Ne.symm e)];exact hr)]
theorem ajG {α:Type}(l:List α)(i:Nat)(x:α)(h:i<l.length):l.take i++[x]++l.drop (i+1)=l.set i x:=by
 rw[A0,if_pos h];simp
theorem ak9 {o:Og}{w:World}{T:cz}(hT:TT T){s:Bs}{x:Tn}(hx:az T s=some x){i:Nat}{e1 e2:Bs}{bk:Nat}(he:x.ks[i]?=some (e1++e2,bk))(h1:e1≠[])(h2:e2≠[])(hs:Start o w [eH T]) :
  aj prog 283 [ak x.b,iV i,iV (e1.length:Nat)].toArray w (aU o (fun y:Nat×cz=>ak y.1) (fun y=>PK T y.2 s e1 y.1) (fun y=>[eH y.2])):=by
 obtain⟨y,hy,fv,eG,aR,yc,_,hl⟩:=hT.jb hx he;have cQ:=hT.kl hx;have eL:=(aV.1 he).1;have hH:=hs.sh.uR hx;have yj:az (bD T s) (s++(e1++e2))=some y:=by rw[iF hT.nd,if_neg (Ne.symm yc)];exact hy
 replace hH:=hH.uR yj;have Er:=fun bm q q'=>ak8 hT hx (y:=y) (by rw[eG];exact he) h1 h2 hy (bm:=bm) (q:=q) (q':=q')
 obtain⟨xb,xe,xn,⟨q,d⟩,ks⟩:=x;obtain⟨yb,ye,yn,⟨yq,yd⟩,Kk⟩:=y;dsimp only at hH cQ eL he fv eG Er hl ⊢;subst fv eG;rw[bJ] at hl;obtain⟨b,rfl⟩:=hH.pos (el:=256) (sz:=1) (q:=q) (n:=ks.length);have HV:=hH.cap (el:=256) (sz:=1) (q:=some b) (n:=ks.length);refine aj.enter func283 rfl ntmps283 rfl (gh ?_);refine GX.next rfl (GO.cG (hv:=show(bg (ks.map (·.2)))[i]?=some (ak yb) by simp[bg,he]) (h:=gh ?_));refine GX.next rfl (X0 (e1++e2) rfl rfl rfl rfl rfl ah (by rw[bJ];omega) ?_);rw[show(e1++e2).take ((e1.length:Nat):Int).toNat=e1 by simp];refine gh ?_;refine GX.nk (h:=fun bd w hH=>gh ?_);refine GX.cw (h:=fun bm w hH=>gh ?_);refine GX.next rfl (F0 (e1++e2) rfl rfl rfl rfl rfl ah (by rw[bJ];omega) ?_);rw[show(e1++e2).drop ((e1.length:Nat):Int).toNat=e2 by simp];refine gh ?_;refine GX.dw (h:=fun w hH=>gh ?_);refine GC.bq (pl:=(aZ [0,3,6,9,15,18,24,33,36,39,45,48,13,21,43,51,29,32,56,57,60,65])) (T:=cS [xb]) (hm:=mixed) (h:=fun w hE hH=>gh ?_);refine GX.pure rfl (GO.ajM (h:=i) (c:=i) rfl (hh:=?_));rw[vd];refine gh ?_;refine GX.pure rfl (GO.kL (j:=i+1) rfl (hh:=gh ?_));refine GX.o8 (h:=fun bl w hS hH=>gh ?_);have hA:At w b 0 (bg (ks.map (·.2))):=hH.es (b:=b) (cs:=bg (ks.map (·.2))) (by repeat(first|exact Es.sl|exact Es.kV|exact Es.kW|apply Es.there));refine GX.Ze (b1:=b) (o1:=0) (cs:=(bg (ks.map (·.2))).take i) (news:=[ak bm]) (hA:=At.left (m:=(bg (ks.map (·.2))).drop i) (by rw[jE];exact hA)) (hN:=SH.bR hH (x:=ao 256 1 (some bl) 1 1 [ak bm]) (a:=some ⟨bl,0,none⟩) bL) (hl:=by simp;omega) (hnl:=rfl) (h:=fun b2 c2 w hS hH=>gh ?_);have D9:b2≠xb:=fun e=>by
  have:=hH.th (b:=xb) (q:=some b2) (el:=256) (sz:=1) (n:=i+1);exact this (by rw[e])
 have hA:At w b 0 (bg (ks.map (·.2))):=hH.es (b:=b) (cs:=bg (ks.map (·.2))) (by repeat(first|exact Es.sl|exact Es.kV|exact Es.kW|apply Es.there));refine GX.Zh (b:=b2) (news:=(bg (ks.map (·.2))).drop (i+1)) (hN:=?_) (hT:=fun h=>D9 (by simpa using h)) (hnl:=by simp) (h1:=fun u hu=>CL _ u (xj hu)) (h:=fun q3 c3 w hS hH=>gh ?_)
 ·by_cases h3:i+1=ks.length
  ·rw[l0 (by simp;omega)];exact bM.empty _ _
  ·rw[show eS (ay (some b)) (i+1) d 1=some ⟨b,i+1,none⟩ from lU b (i+1) d ah];have:=At.right (l:=(bg (ks.map (·.2))).take (i+1)) (m:=(bg (ks.map (·.2))).drop (i+1)) (by rw[jE];exact hA);rwa [dE,pc (by simp;omega),dA] at this
 refine GX.fH (h:=fun w hH=>gh ?_);rw[ajG _ _ _ (by simpa using eL),show i+1+(ks.length - (i+1))=(ks.set i (e1,bm)).length by simp;omega,show(bg (ks.map (·.2))).set i (ak bm)=bg ((ks.set i (e1,bm)).map (·.2)) by simp[bg,pf]] at hH;have aO:=hH.wF (s++e1) ⟨bm,e1,0,(some bd,1),[(e2,yb)]⟩;have cF:=aO.wF s ⟨xb,xe,xn,(q3,c3),ks.set i (e1,bm)⟩;have iU:=cF.wF (s++(e1++e2)) ⟨yb,e2,yn,(yq,yd),Kk⟩;exact⟨(bm,_),rfl,Er bm (q3,c3) (some bd,1),iU.to⟩
end
section
attribute [local irreducible] GO GX aA fz aF aQ ao star
structure zh (T T':cz)(s:Bs):Prop where
 tt:TT T'
 num:∀t,bW (az T') t=bW (az T) t
 root:iN T'=iN T
 out:∀t,¬s <+: t→az T' t=az T t
theorem zh.refl {T:cz}(h:TT T)(s:Bs):zh T T s:=⟨h,fun _=>rfl,rfl,fun _ _=>rfl⟩
theorem JQ {T T':cz}(h:TT T)(hr:∀r,az T []=some r→∃r',az T' []=some r'∧r'.b=r.b):iN T'=iN T:=by
 obtain⟨r,h1,_⟩:=h.ok.root;obtain⟨r',h2,h3⟩:=hr r h1;rw[tw h1,tw h2,h3]
theorem agl {T:cz}(hT:TT T){s:Bs}{x y:Tn}(hx:az T s=some x){i:Nat}{e:Bs×Nat}(he:x.ks[i]?=some e)(hy:az T (s++e.1)=some y)(hk:y.ks=[])(hn:y.n=0)(q:Option Nat×Nat) :
  zh T ((s,{ x with ks:=x.ks.eraseIdx i,q:=q})::bD (bD T s) (s++e.1)) s:=by
 have aX:=hT.ok.aaL hx he hy hk (q:=q);obtain⟨_,_,_,_,aR,hs,_⟩:=hT.jb hx he;have qG:=wG hT.nd s;have uw:=wG qG (s++e.1);have hg:az ((s,{ x with ks:=x.ks.eraseIdx i,q:=q})::bD (bD T s) (s++e.1))=ef (ef (az T) s (some { x with ks:=x.ks.eraseIdx i,q:=q})) (s++e.1) none:=by
  funext t;rw[wD,iF qG,iF hT.nd];unfold ef
  by_cases a1:t=s++e.1
  ·have a2:¬t=s:=fun h=>hs (h.symm.trans a1)
   simp only[if_pos a1,if_neg a2]
  ·by_cases a2:t=s
   ·subst a2;simp only[if_neg a1,eq_self,if_true]
   ·simp only[if_neg a1,if_neg a2]
 refine⟨⟨by rw[hg];exact aX,?_⟩,fun t=>?_,JQ hT fun r hr=>?_,fun t ht=>?_⟩
 ·rw[cK,eI];exact⟨fun h=>((uM hT.nd).1 ((uM qG).1 h).2).1 rfl,uw⟩
 ·rw[hg];unfold bW
  by_cases a1:t=s++e.1
  ·rw[a1,gp,hy];exact hn.symm
  ·rw[dz a1]
   by_cases a2:t=s
   ·rw[a2,gp,hx]
   ·rw[dz a2]
 ·rw[hg,dz (uP aR)]
  by_cases a2:s=[]
  ·subst a2;rw[hr] at hx;cases hx;exact⟨_,gp _ _ _,rfl⟩
  ·exact⟨r,by rw[dz (Ne.symm a2)];exact hr,rfl⟩
 ·rw[hg,dz (fun h=>ht (by rw[h];exact oh _ _)),dz (fun h=>ht (by rw[h];exact kP))]
theorem aeM {T:cz}(hT:TT T){s:Bs}{x y z:Tn}(hx:az T s=some x){i:Nat}{e:Bs×Nat}(he:x.ks[i]?=some e)(hy:az T (s++e.1)=some y){f:Bs×Nat}(hk:y.ks=[f])(hn:y.n=0)(hz:az T (s++(e.1++f.1))=some z)(q:Option Nat×Nat) :
  zh T ((s++(e.1++f.1),{ z with e:=e.1++f.1})::(s,{ x with ks:=x.ks.set i (e.1++f.1,z.b),q:=q})::bD (bD (bD T s) (s++e.1)) (s++(e.1++f.1))) s:=by
 have aX:=hT.ok.join hx he hy hk hz (q:=q);obtain⟨_,_,_,_,aR,hs,_⟩:=hT.jb hx he;have qH:=hT.ok.ne _ _ hy f (by rw[hk];simp);have pO:s≠s++(e.1++f.1):=fun h=>zo (b:=f.1) aR (by simpa using h)
 have tZ:s++e.1≠s++(e.1++f.1):=fun h=>qH (by simpa using List.append_cancel_left h)
 have qG:=wG hT.nd s;have uw:=wG qG (s++e.1);have zY:=wG uw (s++(e.1++f.1));have hg:az ((s++(e.1++f.1),{ z with e:=e.1++f.1})::(s,{ x with ks:=x.ks.set i (e.1++f.1,z.b),q:=q})::bD (bD (bD T s) (s++e.1)) (s++(e.1++f.1)))=ef (ef (ef (az T) s (some { x with ks:=x.ks.set i (e.1++f.1,z.b),q:=q})) (s++e.1) none) (s++(e.1++f.1)) (some { z with e:=e.1++f.1}):=by
  funext t;rw[wD,wD,iF uw,iF qG,iF hT.nd];unfold ef
  by_cases a1:t=s++(e.1++f.1)
  ·simp only[if_pos a1]
  ·by_cases a2:t=s
   ·subst a2;simp only[if_neg a1,if_neg hs,eq_self,if_true]
   ·by_cases a3:t=s++e.1
    ·simp only[if_neg a1,if_neg a2,if_pos a3]
    ·simp only[if_neg a1,if_neg a2,if_neg a3]
 refine⟨⟨by rw[hg];exact aX,?_⟩,fun t=>?_,JQ hT fun r hr=>?_,fun t ht=>?_⟩
 ·simp only[cK,eI,bY];refine⟨fun h=>?_,fun h=>?_,zY⟩
  ·rcases h with h|h
   ·exact pO h.symm
   ·exact((uM uw).1 h).1 rfl
  ·exact((uM hT.nd).1 ((uM qG).1 ((uM uw).1 h).2).2).1 rfl
 ·rw[hg];unfold bW
  by_cases a1:t=s++(e.1++f.1)
  ·rw[a1,gp,hz]
  ·rw[dz a1]
   by_cases a3:t=s++e.1
   ·rw[a3,gp,hy];exact hn.symm
   ·rw[dz a3]
    by_cases a2:t=s
    ·rw[a2,gp,hx]
    ·rw[dz a2]
 ·rw[hg,dz (uP (zo aR)),dz (uP aR)]
  by_cases a2:s=[]
  ·subst a2;rw[hr] at hx;cases hx;exact⟨_,gp _ _ _,rfl⟩
  ·exact⟨r,by rw[dz (Ne.symm a2)];exact hr,rfl⟩
 ·rw[hg,dz (fun h=>ht (by rw[h];exact oh _ _)),dz (fun h=>ht (by rw[h];exact oh _ _)),dz (fun h=>ht (by rw[h];exact kP))]
theorem Re {α β:Type}(f:α→β)(l:List α)(i:Nat):(l.map f).eraseIdx i=(l.eraseIdx i).map f:=by
 rw[List.eraseIdx_eq_take_drop_succ,List.eraseIdx_eq_take_drop_succ,eD,List.map_take,List.map_drop]
theorem ahs {o:Og}{w:World}{T:cz}(hT:TT T){s:Bs}{x:Tn}(hx:az T s=some x){i:Nat}{e:Bs×Nat}(he:x.ks[i]?=some e)(hs:Start o w [eH T]) :
  aj prog 349 [ak x.b,iV i].toArray w (aU o (fun _:cz => .tuple #[]) (fun T'=>zh T T' s) (fun T'=>[eH T'])):=by
 obtain⟨y,hy,fv,eG,aR,yc,_,hl⟩:=hT.jb hx he;have cQ:=hT.kl hx;have aed:=hT.kl hy;have eL:=(aV.1 he).1;have hH:=hs.sh.uR hx;have yj:az (bD T s) (s++e.1)=some y:=by rw[iF hT.nd,if_neg (Ne.symm yc)];exact hy
 replace hH:=hH.uR yj;have MF:=fun hk hn q=>agl hT hx he hy hk hn q
 have My:=fun(z:Tn) (f:Bs×Nat) hk hn hz q=>aeM hT (z:=z) (f:=f) hx he hy hk hn hz q
 have hyn:=hT.ok.num _ _ hy;have uo:=fun(f:Bs×Nat) (hf:y.ks[0]?=some f)=>hT.jb hy hf
 have qG:=wG hT.nd s;have back:∀{w:World},SH o w (aA y.b [str y.e,uV y.n, .slice (ay y.q.1) y.ks.length y.q.2]::ao 256 1 y.q.1 y.ks.length y.q.2 (bg (y.ks.map (·.2)))::eH (bD (bD T s) (s++e.1))::[aA x.b [str x.e,uV x.n, .slice (ay x.q.1) x.ks.length x.q.2],ao 256 1 x.q.1 x.ks.length x.q.2 (bg (x.ks.map (·.2)))])→SH o w [eH T]:=fun {w} hH=>by
  have h1:=hH.iu (m:=bT jY (bD T s)) (jY (s++e.1,y)) (bT jY (bD (bD T s) (s++e.1))) (by repeat(first|exact Pk.nil|(apply Pk.cons;repeat(first|exact aB.here|apply aB.there)))) (o0 yj);exact(h1.iu (m:=bT jY T) (jY (s,x)) (bT jY (bD T s)) (by repeat(first|exact Pk.nil|(apply Pk.cons;repeat(first|exact aB.here|apply aB.there)))) (o0 hx)).to
 obtain⟨xb,xe,xn,⟨q,d⟩,ks⟩:=x;obtain⟨yb,ye,yn,⟨yq,yd⟩,Kk⟩:=y;dsimp only at hH cQ aed eL he fv eG MF My hl hyn uo back ⊢;obtain⟨e1,e2⟩:=e;dsimp only at fv eG aR hl yc hy yj MF My uo hH back;subst fv eG;obtain⟨b,rfl⟩:=hH.pos (el:=256) (sz:=1) (q:=q) (n:=ks.length);refine aj.enter func349 rfl ntmps349 rfl (gh ?_);refine GX.next rfl (GO.cG (hv:=show(bg (ks.map (·.2)))[i]?=some (ak yb) by simp[bg,he]) (h:=gh ?_));refine ifs (fun h1=>?_) (fun h1=>?_)<;>refine gh ?_
 ·exact⟨T,rfl,zh.refl hT s,back hH⟩
 have BV:yn=0:=by omega
 refine gh ?_;refine ifs (fun h2=>?_) (fun h2=>?_)<;>refine gh ?_
 ·obtain rfl:Kk=[]:=ga ah;refine GX.bz (hc:=fun _ hs=>aaN i eL ah (CL _) hs) (h:=fun w hH=>gh ?_);refine GX.dw (h:=fun w hH=>gh ?_);rw[show(bg (ks.map (·.2))).eraseIdx i=bg ((ks.eraseIdx i).map (·.2)) by rw[bg,Re,Re];rfl,show ks.length - 1=(ks.eraseIdx i).length by rw[List.length_eraseIdx];simp[eL]] at hH;have aO:=hH.wF s ⟨xb,xe,xn,(some b,d),ks.eraseIdx i⟩;exact⟨_,rfl,MF rfl BV (some b,d),aO.to⟩
 refine ifs (fun h3=>?_) (fun h3=>?_)<;>refine gh ?_
 ·obtain⟨f,rfl⟩:∃f,Kk=[f]:=List.length_eq_one_iff.1 ah;obtain⟨z,hz,TY,wy,TZ,iE,_,oS⟩:=uo f rfl;rw[cP] at hz iE;have jw:s≠s++(ye++f.1):=fun h=>zo (b:=f.1) aR (by simpa using h)
  have rN:az (bD (bD T s) (s++ye)) (s++(ye++f.1))=some z:=by rw[iF qG,if_neg (Ne.symm iE),iF hT.nd,if_neg (Ne.symm jw)];exact hz
  have En:=My z f rfl BV hz;replace hH:=hH.uR rN;obtain⟨zb,ze,zn,⟨zq,zd⟩,zks⟩:=z;obtain⟨f1,f2⟩:=f;dsimp only at TY wy hH En oS;subst TY wy;obtain⟨b2,rfl⟩:=hH.pos (el:=256) (sz:=1) (q:=yq) (n:=1);refine gh ?_;refine GX.next rfl (GO.cG (hv:=show(bg [zb])[0]?=some (ak zb) from rfl) (h:=gh ?_));refine GC.bq (pl:=(aZ [0,3,6,9,15,18,21,13,25,27,30,33,38])) (T:=fun _=>False) (hm:=mixed) (h:=fun w hE hH=>gh ?_);refine GX.pure rfl (XZ ye ze rfl rfl rfl rfl rfl ah (gh ?_));refine GX.fH (h:=fun w hH=>gh ?_);refine GX.J4 (j:=0+((i:Nat):Int).toNat*1) (hj:=by simp;omega) (h:=fun w hH=>gh ?_);rw[show 0+((i:Nat):Int).toNat*1=i by simp,show(bg (ks.map (·.2))).set i (ak zb)=bg ((ks.set i (ye++ze,zb)).map (·.2)) by simp[bg,pf],show ks.length=(ks.set i (ye++ze,zb)).length by simp] at hH;have aO:=hH.wF s ⟨xb,xe,xn,(some b,d),ks.set i (ye++ze,zb)⟩;have cF:=aO.wF (s++(ye++ze)) ⟨zb,ye++ze,zn,(zq,zd),zks⟩;exact⟨_,rfl,En (some b,d),cF.to⟩
 ·exact⟨T,rfl,zh.refl hT s,back hH⟩
end
end Go.Proofs.YtmlpbmgfmnmmmaaGreat.V.M
