/- What the law leans on, part 5. -/
import Derived.Test.YtkbifkljlfmeiaaGreatCg4
import Derived.Deep.Matrix
set_option linter.unusedSimpArgs false
set_option linter.unusedVariables false
set_option linter.defProp false
open Bool renaming false_and -> KK, false_eq_true -> Z6
open Exists renaming intro -> Zk
open Int renaming cast_ofNat_Int -> Xo, natCast_one -> KR, natCast_zero -> Zx
open List renaming append_assoc -> Qx, append_nil -> QF, cons_append -> Qp, drop -> ZT, drop_append_of_le_length -> Jh, drop_drop -> Kp, drop_eq_getElem?_toList_append -> ZJ, drop_left -> gq, drop_left' -> XL, drop_of_length_le -> ZH, drop_zero -> Jt, ext_getElem? -> ZE, flatten_append -> Zz, flatten_cons -> QO, flatten_nil -> ZB, getD_eq_getElem?_getD -> Qy, getElem?_append_left -> Qb, getElem?_append_right -> Qd, getElem?_drop -> Zf, getElem?_eq_getElem -> Qg, getElem?_eq_none -> QE, getElem?_eq_some_iff -> Qf, getElem?_map -> J5, getElem?_set_ne -> Ql, getElem?_set_self -> Qu, getElem?_take -> QN, length_append -> Qh, length_cons -> Zt, length_drop -> QD, length_map -> XJ, length_nil -> Z9, length_replicate -> Q8, length_set -> Qr, length_take -> Q0, map_append -> XZ, map_cons -> J9, map_nil -> Xj, mem_append -> QB, mem_cons -> J8, mem_cons_of_mem -> KZ, mem_map -> JN, mem_of_getElem? -> Qw, mem_of_mem_drop -> Zq, mem_of_mem_take -> QG, mem_singleton -> Zu, nil_append -> Qn, not_mem_nil -> Xl, range -> Jn, reduceReplicate -> Qa, replicate -> Qc, set_append_left -> Xd, set_append_right -> Q1, take -> Q5, take_add_one -> Zh, take_append_drop -> Z7, take_append_of_le_length -> Jr, take_left' -> X4, take_of_length_le -> Qo, take_zero -> Js
open Nat renaming add_assoc -> QV, add_comm -> Xu, add_mul -> Zl, add_sub_cancel_left -> Qt, add_zero -> ZM, div_add_mod -> ZK, div_div_eq_div_mul -> Zc, div_eq_of_lt -> Xk, div_le_self -> Jp, div_one -> JQ, eq_zero_or_pos -> ZP, le_of_lt -> JH, le_of_not_lt -> Pk, le_refl -> Qj, le_trans -> JG, lt_of_le_of_lt -> Ja, lt_of_lt_of_le -> QJ, lt_or_ge -> ZA, lt_trans -> X9, min_eq_left -> Zg, mod_eq_of_lt -> Q6, mod_lt -> Q3, mod_mod -> Vu, mul_add -> VW, mul_assoc -> ZI, mul_comm -> Zw, mul_le_mul_right -> ZG, mul_one -> Xy, mul_zero -> UQ, not_lt_zero -> XY, one_mul -> Xa, pow_add -> JU, pow_mul -> Jj, pow_succ -> Zn, pow_zero -> Jg, sub_self -> Qs, sub_zero -> V8, succ_mul -> MA, zero_add -> QH, zero_mul -> KA
open Option renaming bind_some -> Qk, some -> YC
open Option.some renaming inj -> JJ
namespace Go.Ev.YtkbifkljlfmeiaaGreat
open Go Go.Ev
set_option maxRecDepth 100000
section
attribute [local congr] Jw JD Jv JE Jk
variable{nm key b k sg:List Nat}{e m off a id:Nat}{tl:List Value}{H:List Ob}{pv:Value}
def Hq:List Nat:=[115,105,103,110,101,116,32,112,111,115,116]
def UK(k:List Nat):List Nat:=(Uj k Hq 2).take 32
def UJ(k:List Nat):List Nat:=((Uj k Hq 2).drop 32).take 12
def cm{all B:List Nat}{n:Nat}(h:∀i,i<m->all[off+i]?=B[i]?)(hm:a+n<=m):Q5 n (ZT (off+a) (u8s all))=u8s ((B.drop a).take n):=by
 apply ZE
 intro j
 by_cases E:j<n
 ·rw[QN,if_pos E,Zf]
  simp only[u8s,J5,QN,if_pos E,Zf]
  rw[QV,h _ qr]
 ·rw[QE (by rw[Q0];omega),QE (by rw[Qq,Q0];omega)]
def oP{a z:List Nat}(E:a.length=32)(J:b.length=12)(I:z.length=44):fillL (u8s z) [(0,32,.agg (u8s a).toArray),(32,12,.agg (u8s b).toArray)]=some (u8s (a++b)):=by
 have c1:(Value.agg (u8s a).toArray).cells.size=32:=by show(u8s a).length=32;rw[Qq,E]
 have c2:(Value.agg (u8s b).toArray).cells.size=12:=by show(u8s b).length=12;rw[Qq,J]
 have k1:(Value.agg (u8s a).toArray).cells.toList=u8s a:=rfl
 have U:(Value.agg (u8s b).toArray).cells.toList=u8s b:=rfl
 have Z:splice (u8s z) 0 (u8s a)=u8s a++(u8s z).drop 32:=by
  rw[Xv _ _ _ (by rw[Qq,Qq,E,I];decide),Qq,E];rfl
 have O:(u8s a++(u8s z).drop 32).length=44:=by rw[Qh,QD,Qq,Qq,E,I]
 have Y:splice (u8s a++(u8s z).drop 32) 32 (u8s b)=u8s (a++b):=by
  rw[Xv _ _ _ (by rw[O,Qq,J];decide),X4 (by rw[Qq,E]),ZH (by rw[O,Qq,J];decide),QF,JS]
 rw[fillL,if_pos ⟨c1,by rw[Qq,I];decide,rfl⟩,k1,Z,fillL,if_pos ⟨c2,by rw[O];decide,rfl⟩,U,Y,fillL]
def OV(hk:B32 k):(UK k).length=32/\(UJ k).length=12/\Zo T 27 [.agg (u8s k).toArray]=some (.agg (u8s (UK k++UJ k)).toArray):=by
 obtain⟨I,U,O⟩:∃z:List Nat,Qc 44 (Value.int .u8 0)=u8s z/\z.length=44:=⟨Qc 44 0,rfl,rfl⟩
 obtain⟨H4,E⟩:∃G:List Ob,G=[{c:=u8s k},{c:=u8s I},{c:=u8s Hq},{c:=[.slice (2:Nat) 11 11]}]:=⟨_,rfl⟩
 have l4:H4.length=4:=by rw[E];rfl
 have hpart:HPart (LtN H4.length) H4 (.slice (2:Nat) 11 11) Hq:=HPart.whole (n:=H4.length) (c:=11) (b:=Hq) qr (by rw[E];rfl) ww ww
 obtain⟨l,id,off,all,hx,q1,q2,q3,Y⟩:=FR (H:=H4) (n:=44) (pv := .slice (3:Nat) 1 1) (key:=k) (xs:=[.slice (2:Nat) 11 11]) (ps:=[Hq]) hk.len hk.lt (.inr ⟨3,0,1,{c:=[.slice (2:Nat) 11 11]},rfl,show 3<H4.length by omega,by rw[E];rfl,rfl,fun i hi=>by rw[QH]⟩) (.cons hpart .nil) ww ww ww ww
 rw[show[Hq].flatten=Hq from rfl,show(44+31)/32=2 from rfl]at Y
 have ta:Q5 32 (ZT off (u8s all))=u8s (UK k):=cm (a:=0) Y ww
 have tb:Q5 12 (ZT (off+32) (u8s all))=u8s (UJ k):=cm (a:=32) Y ww
 have la:(UK k).length=32:=by
  rw[<-Qq,<-ta,Q0,QD,Qq];omega
 have lb:(UJ k).length=12:=by
  rw[<-Qq,<-tb,Q0,QD,Qq];omega
 refine⟨la,lb,?_⟩
 have fi:fillL (Qc 11 (Value.int .u8 0)) [(0,1,.int .u8 115),(1,1,.int .u8 105),(2,1,.int .u8 103),(3,1,.int .u8 110),(4,1,.int .u8 101),(5,1,.int .u8 116),(6,1,.int .u8 32),(7,1,.int .u8 112),(8,1,.int .u8 111),(9,1,.int .u8 115),(10,1,.int .u8 116)]=some (u8s Hq):=rfl
 have fl1:fillL [Value.slice none 0 0] [(0,1,.slice (2:Nat) 11 11)]=some [.slice (2:Nat) 11 11]:=rfl
 have b1:Jc 44 44 none (some (.int .i64 32)) none=some (0,32,44):=rfl
 have b2:Jc 44 44 (some (.int .i64 32)) none none=some (32,44,44):=rfl
 have o1:off+32<=all.length:=qr
 have o2:off+32+12<=all.length:=qr
 have o3:off+(32+12)<=all.length:=qr
 have o4:off+44<=all.length:=qr
 have ok1:∀L:List Value,(Value.agg L.toArray).cells.toList=L:=fun _=>rfl
 have ok2:∀L:List Value,(Value.agg L.toArray).cells.size=L.length:=fun _=>rfl
 have ok3:∀L:List Value,okVar (Value.agg L.toArray)=true:=fun _=>rfl
 have lk:=hk.len
 have hself:Q5 32 (u8s k)=u8s k:=Q7 (by rw[Qq,lk])
 have J:(UK k++UJ k).length=44:=by rw[Qh,la,lb]
 have Z:Q5 44 (u8s (UK k++UJ k))=u8s (UK k++UJ k):=Q7 (by rw[Qq,J])
 have sp:=QP (cs:=u8s I) (v:=u8s (UK k++UJ k)) (by rw[Qq,Qq,J,O])
 have h4:=E.symm
 have fb:=oP la lb O
 have qS:∀o,((H4++l).set 1 o)[1]?=some o:=fun o=>Qu (by rw[Qh,l4];omega)
 have im:∀L,Qz 0 L [1]=L:=fun L=>by simp[Qz]
 rw[show((44:Nat):Int)=44 from rfl]at hx
 have h40:(H4++l)[1]?=some {c:=u8s I}:=by rw[Qb qr,E];rfl
 clear hpart Y
 generalize Hq=P at *
 apply Zb (fn:=zb) rfl
 simp only[zb,Qv,quiet,cW,↓pW,reduceCtorEq,seval,-Qa,U,O,fi,fl1,b1,b2,o1,o2,ok1,ok2,ok3,lk,hself,J,Z,ta,tb,sp,h4,hx,q2,h40,fb,qS,im,Qq]
 rfl
def plc(nm:List Nat)(e m:Nat)(key:List Nat)(tl:List Value):List Value:=u8s nm++(.int .u32 e::.int .u32 m::(u8s key++tl))
def bQ:List Nat:=[115,105,103,110,101,116,32,99,104,97,105,110]
def nxK(nm key:List Nat):List Nat:=Oh nm key bQ 2
def JM(I:nm.length=32)(E:key.length=32):(plc nm e m key tl).length=66+tl.length:=by
 simp only[plc,Qh,Zt,Qq,I,E];omega
def Vw(E:nm.length=32):(plc nm e m key tl)[33]?=some (.int .u32 m):=by
 rw[plc,Qd (by rw[Qq,E];decide),Qq,E];rfl
def Ao{m':Nat}(E:nm.length=32):(plc nm e m key tl).set 33 (.int .u32 m')=plc nm e m' key tl:=by
 rw[plc,Q1 _ _ (by rw[Qq,E];decide),Qq,E];rfl
def HQ{E:List Nat}(I:nm.length=32)(O:key.length=32)(J:E.length=32):splice (plc nm e m key tl) 34 (u8s E)=plc nm e m E tl:=by
 have hp:plc nm e m key tl=(u8s nm++[.int .u32 e,.int .u32 m])++(u8s key++tl):=by simp[plc]
 rw[hp,Xv _ _ _ (by simp only[Qh,Qq,I,O,J,Zt,Z9];omega),X4 (by simp[Qq,I]),<-Kp,XL (by simp[Qq,I]),XL (by rw[Qq,Qq,O,J])]
 simp[plc]
def bD{cs:List Value}(E:H[id]?=some {c:=cs})(J:off+b.length<=cs.length)(ht:Q5 b.length (ZT off cs)=u8s b)(I:∀y∈b,y<256)(hb:b.length<=2^47-128):HPart (fun i=>i<H.length) H (.slice (some ⟨id,off,none⟩) b.length b.length) b :=
 ⟨⟨_,_,rfl⟩,fun G O=>by
  have U:liveAt G id=some {c:=cs}:=by rw[liveAt,O id (Qf.1 E).1,E];rfl
  simp[elemsOf,U,J,ht],I,hb⟩
def xG(E:nm.length=32):Q5 32 (ZT 0 (plc nm e m key tl))=u8s nm:=by
 rw[Jt,plc,X4 (by rw[Qq,E])]
def br(I:nm.length=32)(E:key.length=32):Q5 32 (ZT 34 (plc nm e m key tl))=u8s key:=by
 have hp:plc nm e m key tl=(u8s nm++[.int .u32 e,.int .u32 m])++(u8s key++tl):=by simp[plc]
 rw[hp,XL (by simp[Qq,I]),X4 (by rw[Qq,E])]
def Tv(ho:H[id]?=some {c:=plc nm e m key tl})(hn:B32 nm)(J:B32 key)(hm:m<16777216) :
  (nxK nm key).length=64/\∃H' M,Zp T 34 [.pointer id] H=some (.tuple #[.agg (u8s ((nxK nm key).take 32)).toArray,.int .i64 0],H',M)/\H'[id]?=some {c:=plc nm e (m+1) ((nxK nm key).drop 32) tl}/\(∀i,i<H.length->i≠id->H'[i]?=H[i]?)/\H.length<=H'.length/\∀i∈M,i=id:=by
 obtain⟨z,hz,lz⟩:∃z:List Nat,Qc 32 (Value.int .u8 0)=u8s z/\z.length=32:=⟨Qc 32 0,rfl,rfl⟩
 obtain⟨H1,E⟩:∃G,G=H++[{c:=u8s z}]:=⟨_,rfl⟩
 have hid:=(Qf.1 ho).1
 have l1:H1.length=H.length+1:=by rw[E];simp
 have I:H1[id]?=some {c:=plc nm e m key tl}:=by rw[E,Qb hid];exact ho
 have U:=JM (e:=e) (m:=m) (tl:=tl) hn.len J.len
 have p1:=bD (off:=0) (b:=nm) I (by rw[U,hn.len];omega) (by rw[hn.len];exact xG hn.len) hn.lt (by rw[hn.len];decide)
 have p2:=bD (off:=34) (b:=key) I (by rw[U,J.len];omega) (by rw[J.len];exact br hn.len J.len) J.lt (by rw[J.len];decide)
 obtain⟨l,kid,hkeys,q1,q2,O⟩:=ua (info:=bQ) (c:=2) p1 (by rw[hn.len];decide) p2 (by rw[J.len];decide) ww ww ww ww
 rw[show Oh nm key bQ 2=nxK nm key from rfl]at q2 O
 obtain⟨K,hK⟩:∃K,K=nxK nm key:=⟨_,rfl⟩
 rw[<-hK]at q2 O ⊢
 have lA:(K.take 32).length=32:=by rw[Q0,O];rfl
 have lB:(K.drop 32).length=32:=by rw[QD,O]
 obtain⟨G,Z⟩:∃G,G=H1++l:=⟨_,rfl⟩
 rw[<-Z]at q2 hkeys
 have lG:H1.length<=G.length:=by rw[Z,Qh];omega
 have gid:G[id]?=some {c:=plc nm e m key tl}:=by rw[Z,Qb qr];exact I
 have gz:G[H.length]?=some {c:=u8s z}:=by rw[Z,Qb qr,E,Qd (Qj _),Qs];rfl
 refine⟨O,(G.set id {c:=plc nm e (m+1) (K.drop 32) tl}).set H.length {c:=u8s (K.take 32)},Qz H.length (Qz H.length [] [id]) [id],?_,?_,fun i hi Y =>?_,?_,fun i hi =>?_⟩
 rotate_left
 ·rw[Ql qr,Qu qr]
 ·rw[Ql qr,Ql (Ne.symm Y),Z,Qb qr,E,Qb hi]
 ·rw[Qr,Qr];omega
 ·rcases Zv hi with h|h
  ·rcases Zv h with h|h
   ·simp at h
   ·exact Zu.1 h
  ·exact Zu.1 h
 have h1:=E.symm
 have num:=Vw (e:=e) (m:=m) (key:=key) (tl:=tl) hn.len
 have num2:=Vw (e:=e) (m:=m) (key:=K.drop 32) (tl:=tl) hn.len
 have sn:=Ao (e:=e) (m:=m) (m':=m+1) (key:=K.drop 32) (tl:=tl) hn.len
 have sk:=HQ (e:=e) (m:=m) (tl:=tl) hn.len J.len lB
 have hp2:=JM (e:=e) (m:=m) (tl:=tl) hn.len lB
 have e1:((16777216:Int)<=(m:Int))=False:=ut
 have e2:34+32<=66+tl.length:=qr
 have e3:(33<66+tl.length)=True:=wr
 have w1:IntKind.u32.wrap ((m:Int)+1)=((m+1:Nat):Int):=by rw[show(m:Int)+1=((m+1:Nat):Int) from rfl];exact HD qr
 have hstr:(Value.string (ByteArray.mk #[115,105,103,110,101,116,32,99,104,97,105,110]))=Jx bQ:=rfl
 have b1:Jc 32 32 none none none=some (0,32,32):=rfl
 have tA:Q5 32 (u8s K)=u8s (K.take 32):=by simp only[u8s,List.map_take]
 have tB:Q5 32 (ZT 32 (u8s K))=u8s (K.drop 32):=by
  rw[Qo (by rw[QD,Qq,O];exact Qj _)];simp only[u8s,List.map_drop]
 have Y:kid≠id:=qr
 have g1:∀o,(G.set id o)[id]?=some o:=fun o=>Qu qr
 have g2:∀o,(G.set id o)[kid]?=some ⟨u8s K,true,true,false,32⟩:=fun o=>by rw[Ql (Ne.symm Y)];exact q2
 have g3:∀o,(G.set id o)[H.length]?=some {c:=u8s z}:=fun o=>by rw[Ql qr];exact gz
 have g4:∀o o',((G.set id o).set H.length o')[H.length]?=some o':=fun o o'=>Qu (by rw[Qr];omega)
 have sp:=QP (cs:=u8s z) (v:=u8s (K.take 32)) (by rw[Qq,Qq,lA,lz])
 have tC:Q5 32 (u8s (K.take 32))=u8s (K.take 32):=Q7 (by rw[Qq,lA])
 have im:∀L,Qz H.length L [H.length]=L:=fun L=>by simp[Qz]
 rw[hn.len,J.len,show((2:Nat):Int)=2 from rfl]at hkeys
 clear E Z hK p1 p2
 rw[Q9 (fn:=qh) rfl]
 simp only[qh,Qv,quiet,cW,↓pW,reduceCtorEq,seval,-Qa,hz,lz,h1,I,num,num2,sn,sk,hp2,e1,e2,e3,w1,hstr,b1,U,hkeys,q2,gid,g1,g2,g3,g4,sp,tA,tB,tC,lA,lB,O,im,List.set_set,Nat.add_one_le_iff,Qq]
def Rc{a v b:List Value}(h:v.length=a.length):splice (a++b) 0 v=v++b:=by
 rw[Xv _ _ _ (by rw[Qh];omega),QH,h,XL rfl];rfl
def EK:T9=plc (Qc 32 0) 0 0 (Qc 32 0) []:=rfl
def gu:K0=plc (Qc 32 0) 0 0 (Qc 32 0) []++u8s (Qc 32 0):=rfl
def Fl{I:Nat}(E:nm.length=32):(plc nm e m key tl).set 32 (.int .u32 I)=plc nm I m key tl:=by
 rw[plc,Q1 _ _ (by rw[Qq,E];decide),Qq,E];rfl
def Fk{E:List Nat}(J:nm.length=32)(I:E.length=32):splice (plc nm e m key tl) 0 (u8s E)=plc E e m key tl:=by
 rw[plc,Rc (by rw[Qq,Qq,J,I])];rfl
def SR(I:nm.length=32)(J:key.length=32):fillL T9 [(0,32,.agg (u8s nm).toArray),(32,1,.int .u32 (e:Nat)),(34,32,.agg (u8s key).toArray)]=some (plc nm e 0 key []):=by
 have c1:(Value.agg (u8s nm).toArray).cells.size=32:=by show(u8s nm).length=32;rw[Qq,I]
 have c2:(Value.agg (u8s key).toArray).cells.size=32:=by show(u8s key).length=32;rw[Qq,J]
 have E:(Qc 32 0).length=32:=rfl
 have Y:=JM (e:=0) (m:=0) (tl:=[]) E E
 have U:=JM (e:=0) (m:=0) (tl:=[]) I E
 have O:=JM (e:=e) (m:=0) (tl:=[]) I E
 rw[EK,fillL,if_pos ⟨c1,by rw[Y];decide,rfl⟩,show(Value.agg (u8s nm).toArray).cells.toList=u8s nm from rfl,Fk E I,fillL,if_pos ⟨rfl,by rw[U];decide,rfl⟩,show(Value.int .u32 (e:Nat)).cells.toList=[.int .u32 (e:Nat)] from rfl,XP,Fl I,fillL,if_pos ⟨c2,by rw[O];decide,rfl⟩,show(Value.agg (u8s key).toArray).cells.toList=u8s key from rfl,HQ I E J,fillL]
def Bw(nm:List Nat)(e m:Nat)(key:List Nat)(tl:List Value):plc nm e m key tl=plc nm e m key []++tl:=by simp[plc]
def eX(Y:nm.length=32)(U:key.length=32)(I:sg.length=32):fillL K0 [(0,66,.agg (plc nm e 0 key []).toArray),(66,32,.agg (u8s sg).toArray)]=some (plc nm e 0 key (u8s sg)):=by
 have J:(Qc 32 0).length=32:=rfl
 have O:=JM (e:=0) (m:=0) (tl:=[]) J J
 have E:=JM (e:=e) (m:=0) (tl:=[]) Y U
 have c1:(Value.agg (plc nm e 0 key []).toArray).cells.size=66:=E
 have c2:(Value.agg (u8s sg).toArray).cells.size=32:=by show(u8s sg).length=32;rw[Qq,I]
 rw[gu,fillL,if_pos ⟨c1,by rw[Qh,O];decide,rfl⟩,show(Value.agg (plc nm e 0 key []).toArray).cells.toList=plc nm e 0 key [] from rfl,Rc (by rw[O,E]),fillL,if_pos ⟨c2,by rw[Qh,E];decide,rfl⟩,show(Value.agg (u8s sg).toArray).cells.toList=u8s sg from rfl,Xv _ _ _ (by rw[Qh,E,Qq,Qq,I];decide),X4 (show(plc nm e 0 key []).length=66 from E),ZH (by rw[Qh,E,Qq,Qq,I];decide),QF,fillL,Bw nm e 0 key (u8s sg)]
def re(J:nm.length=32)(I:key.length=32)(O:sg.length=32):Zo T 22 [.agg (u8s nm).toArray,.int .u32 (e:Nat),.agg (u8s key).toArray,.agg (u8s sg).toArray]=some (.agg (plc nm e 0 key (u8s sg)).toArray):=by
 have f1:=SR (e:=e) J I
 have f2:=eX (e:=e) J I O
 have lp:=JM (e:=e) (m:=0) (tl:=u8s sg) J I
 rw[Qq,O]at lp
 have lz:K0.length=98:=rfl
 have Z:∀L:List Value,(Value.agg L.toArray).cells.toList=L:=fun _=>rfl
 have Y:∀L:List Value,(Value.agg L.toArray).cells.size=L.length:=fun _=>rfl
 have U:∀L:List Value,okVar (Value.agg L.toArray)=true:=fun _=>rfl
 have t1:Q5 32 (u8s nm)=u8s nm:=Q7 (by rw[Qq,J])
 have t2:Q5 32 (u8s key)=u8s key:=Q7 (by rw[Qq,I])
 have t3:Q5 32 (u8s sg)=u8s sg:=Q7 (by rw[Qq,O])
 generalize plc nm e 0 key (u8s sg)=P,plc nm e 0 key []=P0 at *
 have tp:Q5 98 P=P:=Q7 qr
 have E:P.length=98:=qr
 have sp:=QP (cs:=K0) (v:=P) (by rw[E,lz])
 apply Zb (fn:=zf) rfl
 simp only[zf,Qv,quiet,cW,↓pW,reduceCtorEq,seval,-Qa,f1,f2,E,lz,Z,Y,U,t1,t2,t3,tp,sp,J,I,O,Qq]
 rfl
def rL(s m:List Nat):List Nat:=MZ (pfL s++m)
def frL(s m:List Nat):List Nat:=enc (J2 (num 256 (rL s m)) X5)
def chL(front pub m:List Nat):List Nat:=MZ (front++(pub++m))
def bkL(s m:List Nat):List Nat:=mA (chL (frL s m) (Kj s) m) (scL s) (rL s m)
def Dq(s m:List Nat):List Nat:=frL s m++bkL s m
def Lh(s m:List Nat):(frL s m).length=32:=Yz _
def SQ(s m:List Nat):∀y∈frL s m,y<256:=SY _
def Bv(s:List Nat):(Kj s).length=32:=Yz _
def ID(s:List Nat):∀y∈Kj s,y<256:=SY _
def Lt(s m:List Nat):(bkL s m).length=32:=yl
def pK(s m:List Nat):∀y∈bkL s m,y<256:=mA_lt
def LZ(s m:List Nat):(Dq s m).length=64:=by rw[Dq,Qh,Lh,Lt]
def ri(s m:List Nat):∀y∈Dq s m,y<256:=by
 intro y E
 rcases QB.1 E with h|h
 ·exact SQ s m y h
 ·exact pK s m y h
def gj{b n c:Nat}{E I:List Nat}{e:Bool}{s:Nat}(ha:H[a]?=some {c:=u8s E})(hb:H[b]?=some ⟨u8s I,true,true,e,s⟩)(hn:E.length=n)(hm:I.length=m)(h0:0<m)(hs:n+m<=1000) :
  ZV 1 1 H (.slice a n n) (.slice b m c)=some (.slice H.length (n+m) (n+m),H++[⟨u8s (E++I),true,true,false,1⟩],none,[]):=by
 have J:liveAt H a=some {c:=u8s E}:=Zs ha rfl
 have O:elemsOf H 1 m (.slice b m c)=some (u8s I):=by
  simp[elemsOf,Zs hb rfl,Qq,hm]
  exact Qo (by rw[Qq,hm];exact Qj _)
 have U:elemsOf H 1 n (.slice a n n)=some (u8s E):=by
  simp[elemsOf,J,Qq,hn]
  exact Qo (by rw[Qq,hn];exact Qj _)
 have h1:¬m=0:=qr
 have Z:(n+m)*1<=2^47:=qr
 have Y:¬(n+m<=n):=qr
 have k1:Go.Ev.lenV (.slice b m c)=some m:=rfl
 simp only[ZV,k1,O,Qk,if_neg h1,Z,Nat.lt_add_one,and_self,not_true_eq_false,if_false,if_true,J,U,if_neg Y,Ob.grown,<-JS]
def tN{s:List Nat}{ps:List (List Nat)}(ls:s.length=32)(xs:∀y∈s,y<256)(hp:Args H pv ps)(hn:ps.length<=1000)(hb:ps.flatten.length<2^48) :
  ∃l,Zp T 36 [.agg (u8s s).toArray,pv] H=some (.agg (u8s (Dq s ps.flatten)).toArray,H++l,[]):=by
 have hz:Qc 32 (Value.int .u8 0)=u8s (dig 256 32 0):=rfl
 have lz:(dig 256 32 0).length=32:=rfl
 have hz64:=YE
 have lz64:(Qc 64 0).length=64:=Q8
 have hh:=Ol ls xs
 have l1:=Gi s
 have l2:=Ts s
 have l3:(scL s++pfL s).length=64:=by rw[Qh,l1,l2]
 have x3:∀y∈scL s++pfL s,y<256:=fun y hy=>(QB.1 hy).elim (I3 s y) (xJ s y)
 obtain⟨B,hB,rB⟩:=aE
 obtain⟨P,hP,rP⟩:=Wj rB (Gi s) (I3 s)
 have hE:=DG rP
 rw[show enc (J2 (num 256 (scL s)) X5)=Kj s from rfl]at hE
 have lA:=Bv s
 obtain⟨G1,E⟩:∃X,X=H++[({c:=u8s s}:Ob),{c:=u8s (Qc 64 0)},{c:=u8s (scL s++pfL s)},{c:=u8s (Kj s)},{c:=[.slice (some ⟨H.length+2,32,none⟩) 32 32]}]:=⟨_,rfl⟩
 have lG1:G1.length=H.length+5:=by rw[E];simp
 have gz:G1[H.length+1]?=some {c:=u8s (Qc 64 0)}:=by rw[E,Qd qr,Qt];rfl
 have gh:G1[H.length+2]?=some {c:=u8s (scL s++pfL s)}:=by rw[E,Qd qr,Qt];rfl
 have gA:G1[H.length+3]?=some {c:=u8s (Kj s)}:=by rw[E,Qd qr,Qt];rfl
 have ga:G1[H.length+4]?=some {c:=[.slice (some ⟨H.length+2,32,none⟩) 32 32]}:=by rw[E,Qd qr,Qt];rfl
 have hp1:Args G1 pv ps:=by rw[E];exact hp.app
 have part1:HPart (LtN G1.length) G1 (.slice (some ⟨H.length+2,32,none⟩) 32 32) (pfL s):=by
  have:=HPart.arr (n:=G1.length) (off:=32) (m:=32) (c:=32) qr gh x3 (by rw[l3];decide) ww
  rwa[Jh qr,ZH qr,Qn,Qo qr]at this
 obtain⟨v1,k1,ha1,hA1⟩:=BS (n:=1) ga rfl (.cons part1 .nil) hp1 ww hn
 obtain⟨k2,hr⟩:=WN hA1 (by rw[Zz,QO,ZB,QF,Qh,l2];omega)
 rw[Zz,QO,ZB,QF,show MZ (pfL s++ps.flatten)=rL s ps.flatten from rfl]at hr
 have lr:(rL s ps.flatten).length=32:=Bu
 obtain⟨G2,hG2⟩:∃X,X=G1++(k1++k2):=⟨_,rfl⟩
 have lG2:G1.length<=G2.length:=by rw[hG2];simp
 obtain⟨P2,hP2,rP2⟩:=Wj rB lr Ds
 have hE2:=DG rP2
 rw[show enc (J2 (num 256 (rL s ps.flatten)) X5)=frL s ps.flatten from rfl]at hE2
 have lF:=Lh s ps.flatten
 obtain⟨G3,U⟩:∃X,X=G2++[({c:=u8s (rL s ps.flatten)}:Ob),{c:=u8s (frL s ps.flatten)},{c:=[.slice (G2.length+1:Nat) 32 32,.slice (H.length+3:Nat) 32 32]}]:=⟨_,rfl⟩
 have lG3:G3.length=G2.length+3:=by rw[U];simp
 have J:∀i,i<G1.length->G3[i]?=G1[i]? := fun i hi=>by rw[U,Qb qr,hG2,Qb hi]
 have hr3:G3[G2.length]?=some {c:=u8s (rL s ps.flatten)}:=by rw[U,Qd (Qj _),Qs];rfl
 have hf3:G3[G2.length+1]?=some {c:=u8s (frL s ps.flatten)}:=by rw[U,Qd qr,Qt];rfl
 have harr3:G3[G2.length+2]?=some {c:=[.slice (G2.length+1:Nat) 32 32,.slice (H.length+3:Nat) 32 32]}:=by rw[U,Qd qr,Qt];rfl
 have hp3:Args G3 pv ps:=hp1.ext J qr
 have partF:HPart (LtN G3.length) G3 (.slice (G2.length+1:Nat) 32 32) (frL s ps.flatten):=by
  have:=HPart.whole (n:=G3.length) (c:=32) qr hf3 (SQ s _) (by rw[lF];decide)
  rwa[lF]at this
 have partA:HPart (LtN G3.length) G3 (.slice (H.length+3:Nat) 32 32) (Kj s):=by
  have:=HPart.whole (n:=G3.length) (c:=32) qr ((J _ qr).trans gA) (ID s) (by rw[lA];decide)
  rwa[lA]at this
 obtain⟨v3,k3,ha3,hA3⟩:=BS (n:=2) harr3 rfl (.cons partF (.cons partA .nil)) hp3 ww hn
 obtain⟨k4,hk⟩:=WN hA3 (by rw[Zz,QO,QO,ZB,QF,Qh,Qh,lF,lA];omega)
 rw[Zz,QO,QO,ZB,QF,Qx,show MZ (frL s ps.flatten++(Kj s++ps.flatten))=chL (frL s ps.flatten) (Kj s) ps.flatten from rfl]at hk
 have lk:(chL (frL s ps.flatten) (Kj s) ps.flatten).length=32:=Bu
 obtain⟨G4,Y⟩:∃X,X=G3++(k3++k4):=⟨_,rfl⟩
 have lG4:G3.length<=G4.length:=by rw[Y];simp
 have I:∀i,i<G3.length->G4[i]?=G3[i]? := fun i hi=>by rw[Y,Qb hi]
 obtain⟨q,hm⟩:=dX lk l1 lr Ds (I3 s) Ds
 have hmv:=Ur hm
 rw[show mA (chL (frL s ps.flatten) (Kj s) ps.flatten) (scL s) (rL s ps.flatten)=bkL s ps.flatten from rfl]at hmv
 have lB:=Lt s ps.flatten
 obtain⟨G5,O⟩:∃X,X=G4++[({c:=u8s (chL (frL s ps.flatten) (Kj s) ps.flatten)}:Ob),{c:=u8s (bkL s ps.flatten)}]:=⟨_,rfl⟩
 have lG5:G5.length=G4.length+2:=by rw[O];simp
 have hf5:G5[G2.length+1]?=some {c:=u8s (frL s ps.flatten)}:=by rw[O,Qb qr,I _ qr];exact hf3
 have hb5:G5[G4.length+1]?=some {c:=u8s (bkL s ps.flatten)}:=by rw[O,Qd qr,Qt];rfl
 have hap:=gj (c:=32) hf5 hb5 lF lB ww ww
 rw[show frL s ps.flatten++bkL s ps.flatten=Dq s ps.flatten from rfl]at hap
 have lS:=LZ s ps.flatten
 have g4h:∀l:List Ob,(G4++l)[H.length+2]?=some {c:=u8s (scL s++pfL s)}:=fun l=>by rw[Qb qr,I _ qr,J _ qr];exact gh
 have g4r:∀l:List Ob,(G4++l)[G2.length]?=some {c:=u8s (rL s ps.flatten)}:=fun l=>by rw[Qb qr,I _ qr];exact hr3
 have g5z:∀l:List Ob,(G5++l)[H.length+1]?=some {c:=u8s (Qc 64 0)}:=fun l=>by rw[Qb qr,O,Qb qr,I _ qr,J _ qr];exact gz
 have hfr:∀i,i<H.length->((G5++[(⟨u8s (Dq s ps.flatten),true,true,false,1⟩:Ob)]).set (H.length+1) ({c:=u8s (Dq s ps.flatten)}:Ob))[i]?=H[i]? := fun i hi=>by
  rw[Ql qr,Qb qr,O,Qb qr,I _ qr,J _ qr,E,Qb hi]
 obtain⟨l,hl⟩:=XI (H:=H) (by rw[Qr,Qh];omega) hfr
 refine⟨l,?_⟩
 rw[<-hl]
 have g6:∀o:Ob,((G5++[(⟨u8s (Dq s ps.flatten),true,true,false,1⟩:Ob)]).set (H.length+1) o)[H.length+1]?=some o:=fun o=>Qu (by rw[Qh];omega)
 have f1:fillL [Value.slice none 0 0] [(0,1,.slice (some ⟨H.length+2,32,none⟩) 32 32)]=some [.slice (some ⟨H.length+2,32,none⟩) 32 32]:=rfl
 have f2:fillL [Value.slice none 0 0,.slice none 0 0] [(0,1,.slice (G2.length+1:Nat) 32 32),(1,1,.slice (H.length+3:Nat) 32 32)]=some [.slice (G2.length+1:Nat) 32 32,.slice (H.length+3:Nat) 32 32]:=rfl
 have t1:Q5 32 (u8s (scL s++pfL s))=u8s (scL s):=by rw[Ub,Jr qr,Qo qr]
 have F1:H++[({c:=u8s s}:Ob),{c:=u8s (Qc 64 0)},{c:=u8s (scL s++pfL s)},{c:=u8s (Kj s)},{c:=[.slice (some ⟨H.length+2,32,none⟩) 32 32]}]=G1:=E.symm
 have F2:G1++(k1++k2)=G2:=hG2.symm
 have F3:G2++[({c:=u8s (rL s ps.flatten)}:Ob),{c:=u8s (frL s ps.flatten)},{c:=[.slice (G2.length+1:Nat) 32 32,.slice (H.length+3:Nat) 32 32]}]=G3:=U.symm
 have F4:G3++(k3++k4)=G4:=Y.symm
 have F5:G4++[({c:=u8s (chL (frL s ps.flatten) (Kj s) ps.flatten)}:Ob),{c:=u8s (bkL s ps.flatten)}]=G5:=O.symm
 have im1:Qz H.length [] [G2.length]=[]:=QC (by simp;omega)
 have im2:Qz H.length [] [G2.length+1]=[]:=QC (by simp;omega)
 have im3:Qz H.length [] [G4.length]=[]:=QC (by simp;omega)
 have im4:Qz H.length [] [G4.length+1]=[]:=QC (by simp;omega)
 have ls1:[Value.slice (some ⟨H.length+2,32,none⟩) 32 32].length=1:=rfl
 clear E hG2 U Y O hl hfr hm hA1 hA3 partF partA part1
 rw[Qx]at hr hk
 generalize Dq s ps.flatten=S,bkL s ps.flatten=Bk,chL (frL s ps.flatten) (Kj s) ps.flatten=Ck at *
 generalize frL s ps.flatten=Fr,rL s ps.flatten=R,Kj s=A,scL s++pfL s=Hv at *
 generalize scL s=Sc,dig 256 32 0=Z,Qc 64 0=Z64 at *
 rw[Q9 (fn:=zS) rfl]
 simp only[zS,Qv,quiet,cW,↓pW,reduceCtorEq,seval,-Qa,hz,hz64,hh,hB,hP,hE,f1,F1,ha1,hr,F2,hP2,hE2,f2,F3,ha3,hk,F4,g4h,g4r,t1,hmv,F5,hap,g5z,g6,im1,im2,im3,im4,Qq,ls,lz,lz64,l3,lA,lr,lF,lk,lB,lS,Q7,ZY]
def T7(pub front back m:List Nat)(c:Int):Prop :=
 ((∀A,enc A≠pub)/\c=60)\/∃A,enc A=pub /\
  (((J2 8 A=Ki\/¬num 256 back<ell)/\c=70)\/(J2 8 A≠Ki/\num 256 back<ell /\
   (((∀R,enc R≠front)/\c=70)\/∃R,enc R=front/\c=if Xw (J2 (num 256 back) X5) (J2 (num 256 (chL front pub m)) A.neg)=R then 0 else 70)))
def ig{l:List Nat}(lk:k.length=32)(E:l.length=32):vEq (some (Qc 32 true)) true (.agg (u8s k).toArray) (.agg (u8s l).toArray)=some (.bool (!(k==l))):=by
 rw[Dh,KG lk E]
 rfl
def Cf{pub front back:List Nat}{ps:List (List Nat)}(lp:pub.length=32)(xp:∀y∈pub,y<256)(lf:front.length=32)(xf:∀y∈front,y<256)(lb:back.length=32)(xb:∀y∈back,y<256)(hp:Args H pv ps)(hn:ps.length<=1000)(hb:ps.flatten.length<2^48) :
  ∃l c,Zp T 14 [.agg (u8s pub).toArray,.agg (u8s (front++back)).toArray,pv] H=some (.int .i64 c,H++l,[])/\T7 pub front back ps.flatten c:=by
 have hz:Qc 32 (Value.int .u8 0)=u8s (dig 256 32 0):=rfl
 have lz:(dig 256 32 0).length=32:=rfl
 have I:∃O,Qc 20 (Value.int .u64 0)=ns .u64 O/\O.length=20:=⟨Qc 20 0,rfl,rfl⟩
 obtain⟨O,I,lO⟩:=I
 have rft:∀(r:List Nat) (c:Int),rf (Value.tuple #[eV r,.int .i64 c])=true:=fun r c=>Gl (a:=eV r) (b := .int .i64 c) (ZY r) rfl
 have lS:(front++back).length=64:=by rw[Qh,lf,lb]
 have t1:Q5 32 (u8s (front++back))=u8s front:=by rw[Ub,Jr qr,Qo qr]
 have t2:Q5 32 (ZT 32 (u8s (front++back)))=u8s back:=by rw[TJ,Jh qr,ZH qr,Qn,Ub,Qo qr]
 rcases OJ lp xp with⟨A,a,hA,rA,eA⟩|⟨A,hA,lA,hno⟩
 ·have p1:=rA.len
  have ht:=wQ rA
  obtain⟨qc,hcn⟩:=Lq lb xb
  have hcv:=Ur hcn
  unfold WU at hA
  by_cases htiny:J2 8 a=Ki
  ·rw[decide_eq_true htiny]at ht
   have J:∃l,Zp T 14 [.agg (u8s pub).toArray,.agg (u8s (front++back)).toArray,pv] H=some (.int .i64 70,H++l,[]):=by
    generalize front++back=S at *
    generalize dig 256 32 0=Z at *
    apply Zk
    rw[Q9 (fn:=R4) rfl]
    simp only[R4,Qv,quiet,cW,↓pW,reduceCtorEq,seval,-Qa,hz,I,hA,t1,t2,ht, QR,Zr,ZZ,Zi,QA,Qq,lp,lf,lb,lS,lz,lO,p1,Q7,rft,ZY]
    rfl
   obtain⟨l,J⟩:=J
   exact⟨l,70,J,.inr ⟨a,eA,.inl ⟨.inl htiny,rfl⟩⟩⟩
  ·rw[decide_eq_false htiny]at ht
   by_cases hc:num 256 back<ell
   ·rw[decide_eq_true hc]at hcv
    rcases OJ lf xf with⟨R,r,hR,rR,eR⟩|⟨R,hR,lR,hnR⟩
    ·have p2:=rR.len
     unfold WU at hR
     obtain⟨G1,U⟩:∃X,X=H++[({c:=u8s pub}:Ob),{c:=u8s (front++back)},{c:=ns .u64 A},{c:=u8s front},{c:=u8s back},{c:=ns .u64 R},{c:=[.slice (H.length+3:Nat) 32 32,.slice H.length 32 32]}]:=⟨_,rfl⟩
     have lG1:G1.length=H.length+7:=by rw[U];simp
     have gp:G1[H.length]?=some {c:=u8s pub}:=by rw[U,Qd qr,Qs];rfl
     have gA:G1[H.length+2]?=some {c:=ns .u64 A}:=by rw[U,Qd qr,Qt];rfl
     have gf:G1[H.length+3]?=some {c:=u8s front}:=by rw[U,Qd qr,Qt];rfl
     have gb:G1[H.length+4]?=some {c:=u8s back}:=by rw[U,Qd qr,Qt];rfl
     have ga:G1[H.length+6]?=some {c:=[.slice (H.length+3:Nat) 32 32,.slice H.length 32 32]}:=by rw[U,Qd qr,Qt];rfl
     have hp1:Args G1 pv ps:=by rw[U];exact hp.app
     have partF:HPart (LtN G1.length) G1 (.slice (H.length+3:Nat) 32 32) front:=by
      have:=HPart.whole (n:=G1.length) (c:=32) qr gf xf (by rw[lf];decide)
      rwa[lf]at this
     have partP:HPart (LtN G1.length) G1 (.slice H.length 32 32) pub:=by
      have:=HPart.whole (n:=G1.length) (c:=32) qr gp xp (by rw[lp];decide)
      rwa[lp]at this
     obtain⟨v1,k1,ha1,hA1⟩:=BS (n:=2) ga rfl (.cons partF (.cons partP .nil)) hp1 ww hn
     obtain⟨k2,hk⟩:=WN hA1 (by rw[Zz,QO,QO,ZB,QF,Qh,Qh,lf,lp];omega)
     rw[Zz,QO,QO,ZB,QF,Qx,show MZ (front++(pub++ps.flatten))=chL front pub ps.flatten from rfl,Qx]at hk
     have lk:(chL front pub ps.flatten).length=32:=Bu
     obtain⟨G2,hG2⟩:∃X,X=G1++(k1++k2):=⟨_,rfl⟩
     have lG2:G1.length<=G2.length:=by rw[hG2];simp
     have up:∀i,i<G1.length->∀l:List Ob,(G2++l)[i]?=G1[i]? := fun i hi l=>by rw[Qb qr,hG2,Qb hi]
     obtain⟨B,hB,rB⟩:=aE
     obtain⟨X,hX,rX⟩:=Wj rB lb xb
     obtain⟨NA,hNA,rNA⟩:=yc rA
     obtain⟨Y,hY,rY⟩:=Wj rNA lk Ds
     obtain⟨S,dS,hS,ES⟩:=vO (H:=G2++[({c:=u8s (chL front pub ps.flatten)}:Ob),{c:=ns .u64 [X,Y].flatten}]) (id:=G2.length+1) (n:=2) (xs:=[X,Y]) rfl ww (.cons rX (.cons rY .nil)) (by rw[Qd qr,Qt];rfl)
     simp only[J9,Xj,Qp,Qx,Qn]at hS
     rw[fold2]at ES
     have hE:=DG ES
     have lE:=Yz (Xw (J2 (num 256 back) X5) (J2 (num 256 (chL front pub ps.flatten)) a.neg))
     have g1:=y7 rX rY
     have q1:=rX.len
     have q2:=rY.len
     have q3:=ES.len
     have hq:=ig lE lf
     have hd:(enc (Xw (J2 (num 256 back) X5) (J2 (num 256 (chL front pub ps.flatten)) a.neg))==front)=decide (Xw (J2 (num 256 back) X5) (J2 (num 256 (chL front pub ps.flatten)) a.neg)=r):=by rw[<-eR,DH]
     rw[hd]at hq
     have uA:=fun l=>(up _ qr l).trans gA
     have uf:=fun l=>(up _ qr l).trans gf
     have ub:=fun l=>(up _ qr l).trans gb
     have f2:fillL [Value.slice none 0 0,.slice none 0 0] [(0,1,.slice (H.length+3:Nat) 32 32),(1,1,.slice H.length 32 32)]=some [.slice (H.length+3:Nat) 32 32,.slice H.length 32 32]:=rfl
     have F1:H++[({c:=u8s pub}:Ob),{c:=u8s (front++back)},{c:=ns .u64 A},{c:=u8s front},{c:=u8s back},{c:=ns .u64 R},{c:=[.slice (H.length+3:Nat) 32 32,.slice H.length 32 32]}]=G1:=U.symm
     have F2:G1++(k1++k2)=G2:=hG2.symm
     have im1:Qz H.length [] [G2.length]=[]:=QC (by simp;omega)
     have hfr:∀l:List Ob,∃l',G2++l=H++l':=fun l=>⟨_,by rw[hG2,U,Qx,Qx]⟩
     by_cases hfin:Xw (J2 (num 256 back) X5) (J2 (num 256 (chL front pub ps.flatten)) a.neg)=r
     ·rw[decide_eq_true hfin]at hq
      have J:∃l,Zp T 14 [.agg (u8s pub).toArray,.agg (u8s (front++back)).toArray,pv] H=some (.int .i64 0,G2++l,[]):=by
       clear U hG2 hd up hfr
       generalize front++back=SG at *
       generalize dig 256 32 0=Z,chL front pub ps.flatten=Ck at *
       generalize enc (Xw (J2 (num 256 back) X5) (J2 (num 256 Ck) a.neg))=E at *
       apply Zk
       rw[Q9 (fn:=R4) rfl]
       simp only[R4,Qv,quiet,cW,↓pW,reduceCtorEq,seval,-Qa,hz,I,hA,t1,t2,ht,hcv,hR,f2,F1,ha1,hk,F2,im1,hB,hX,hNA,hY,g1,hS,hE,hq,uA,uf,ub,QR,Zr,ZZ,Zi,QA,Qq,lp,lf,lb,lS,lz,lO,lk,p1,p2,Q7,rft,ZY]
       rfl
      obtain⟨l,J⟩:=J
      obtain⟨l',hl'⟩:=hfr l
      rw[hl']at J
      exact⟨l',0,J,.inr ⟨a,eA,.inr ⟨htiny,hc,.inr ⟨r,eR,by rw[if_pos hfin]⟩⟩⟩⟩
     ·rw[decide_eq_false hfin]at hq
      have J:∃l,Zp T 14 [.agg (u8s pub).toArray,.agg (u8s (front++back)).toArray,pv] H=some (.int .i64 70,G2++l,[]):=by
       clear U hG2 hd up hfr
       generalize front++back=SG at *
       generalize dig 256 32 0=Z,chL front pub ps.flatten=Ck at *
       generalize enc (Xw (J2 (num 256 back) X5) (J2 (num 256 Ck) a.neg))=E at *
       apply Zk
       rw[Q9 (fn:=R4) rfl]
       simp only[R4,Qv,quiet,cW,↓pW,reduceCtorEq,seval,-Qa,hz,I,hA,t1,t2,ht,hcv,hR,f2,F1,ha1,hk,F2,im1,hB,hX,hNA,hY,g1,hS,hE,hq,uA,uf,ub,QR,Zr,ZZ,Zi,QA,Qq,lp,lf,lb,lS,lz,lO,lk,p1,p2,Q7,rft,ZY]
       rfl
      obtain⟨l,J⟩:=J
      obtain⟨l',hl'⟩:=hfr l
      rw[hl']at J
      exact⟨l',70,J,.inr ⟨a,eA,.inr ⟨htiny,hc,.inr ⟨r,eR,by rw[if_neg hfin]⟩⟩⟩⟩
    ·unfold WU at hR
     have J:∃l,Zp T 14 [.agg (u8s pub).toArray,.agg (u8s (front++back)).toArray,pv] H=some (.int .i64 70,H++l,[]):=by
      generalize front++back=S at *
      generalize dig 256 32 0=Z at *
      apply Zk
      rw[Q9 (fn:=R4) rfl]
      simp only[R4,Qv,quiet,cW,↓pW,reduceCtorEq,seval,-Qa,hz,I,hA,t1,t2,ht,hcv,hR,lR,QR,Zr,ZZ,Zi,QA,Qq,lp,lf,lb,lS,lz,lO,p1,Q7,rft,ZY]
      rfl
     obtain⟨l,J⟩:=J
     exact⟨l,70,J,.inr ⟨a,eA,.inr ⟨htiny,hc,.inl ⟨hnR,rfl⟩⟩⟩⟩
   ·rw[decide_eq_false hc]at hcv
    have J:∃l,Zp T 14 [.agg (u8s pub).toArray,.agg (u8s (front++back)).toArray,pv] H=some (.int .i64 70,H++l,[]):=by
     generalize front++back=S at *
     generalize dig 256 32 0=Z at *
     apply Zk
     rw[Q9 (fn:=R4) rfl]
     simp only[R4,Qv,quiet,cW,↓pW,reduceCtorEq,seval,-Qa,hz,I,hA,t1,t2,ht,hcv,QR,Zr,ZZ,Zi,QA,Qq,lp,lf,lb,lS,lz,lO,p1,Q7,rft,ZY]
     rfl
    obtain⟨l,J⟩:=J
    exact⟨l,70,J,.inr ⟨a,eA,.inl ⟨.inr hc,rfl⟩⟩⟩
 ·unfold WU at hA
  have J:Zp T 14 [.agg (u8s pub).toArray,.agg (u8s (front++back)).toArray,pv] H=some (.int .i64 60,H++[{c:=u8s pub},{c:=u8s (front++back)},{c:=ns .u64 A}],[]):=by
   generalize front++back=S at *
   generalize dig 256 32 0=Z at *
   rw[Q9 (fn:=R4) rfl]
   simp only[R4,Qv,quiet,cW,↓pW,reduceCtorEq,seval,-Qa,hz,I,hA,QR,Zr,ZZ,QA,Qq,lp,lO,lA,Q7,rft]
  exact⟨_,60,J,.inl ⟨hno,rfl⟩⟩
end
section
open Go.NT (Pr)
def lp1:Pr 531581:=Go.NT.KQ (f:=729) ww ww (by decide +kernel)
def lp2:Pr 1224481:=Go.NT.KQ (f:=1106) ww ww (by decide +kernel)
def lp3:Pr 1257559732178653:=Go.NT.Uy (q:=531581) (k:=2365697292) (a:=2) (q2:=1224481) (k2:=1027014492) (a2:=2) (f:=51) lp1 lp2 (by decide +kernel)
def lp4:Pr 4434155615661930479:=Go.NT.Y6 (q:=1257559732178653) (k:=3526) (a:=2) (f:=62) lp3 (by decide +kernel)
def lp5:Pr 172054593956031949258510691:=Go.NT.Y6 (q:=4434155615661930479) (k:=38802110) (a:=2) (f:=88) lp4 (by decide +kernel)
def lp6:Pr 19757330305831588566944191468367130476339:=Go.NT.Y6 (q:=172054593956031949258510691) (k:=114831751082918) (a:=2) (f:=134) lp5 (by decide +kernel)
def lp7:Pr 276602624281642239937218680557139826668747:=Go.NT.Y6 (q:=19757330305831588566944191468367130476339) (k:=14) (a:=2) (f:=138) lp6 (by decide +kernel)
def FW:Pr ell:=Go.NT.Y6 (q:=276602624281642239937218680557139826668747) (k:=26163907866482859529727157400808004) (a:=2) (f:=253) lp7 (by decide +kernel)
def vK:X5≠Ki:=fun h=>SZ (by rw[h,Fg])
def d9(p:Go.Cv.Pt Go.Fp.P Go.Fp.d):J2 1 p=p:=Go.Cv.mul_one Go.Fp.fld p
def dI{n:Nat}(h:J2 n X5=Ki):ell∣n:=by
 refine Classical.byContradiction fun hn =>?_
 have I:=Go.NT.Rq FW hn
 apply vK
 have O:ell-1=(ell-2)+1:=by decide +kernel
 have J:n^(ell-1)=n^(ell-2)*n:=by rw[O,Zn]
 have E:J2 (n^(ell-1)) X5=Ki:=by rw[J,Am,h,Fg]
 rw[<-Ny OE,I,d9]at E
 exact E
def uT(n:Nat)(h:ell∣8*n):ell∣n:=by
 have hc:Nat.Coprime ell 8:=Go.NT.Pr.coprime FW (by decide +kernel)
 exact hc.dvd_of_dvd_mul_left h
def fO{a:List Nat}{x y:Nat}(la:a.length=32)(I:∀z∈a,z<256)(E:a[0]?=some x)(Y:a[31]?=some y):num 256 (Vh a x y)%8=0/\2^254<=num 256 (Vh a x y)/\num 256 (Vh a x y)<2^255:=by
 have Z:=I x (Qw E)
 have U:=I y (Qw Y)
 obtain⟨t,ht⟩:∃t,a=x::t:=by
  cases a with
  |nil=>simp at E
  |cons z t=>simp at E;subst E;exact⟨t,rfl⟩
 have e8:x&&&248=x/8*8:=(by decide +kernel:∀v,v<256->v&&&248=v/8*8) x Z
 have e64:(y&&&127)|||64=y%64+64:=(by decide +kernel:∀v,v<256->(v&&&127)|||64=v%64+64) y U
 have h1:=Vj (B:=256) (x&&&248) E
 have O:(a.set 0 (x&&&248))[31]?=some y:=by rw[Ql ww];exact Y
 have h2:=Vj (B:=256) ((y&&&127)|||64) O
 have hV:=num_lt I
 rw[la]at hV
 have hg:=KL (by decide:0<256) I Y
 have hm:num 256 a%256=x:=by
  have:=KL (by decide:0<256) I E
  rwa[Jg,JQ]at this
 unfold Vh
 rw[e8]at h1 h2 ⊢
 rw[e64]at h2 ⊢
 have e31:(256:Nat)^31=452312848583266388373324160190187140051835877600158453279131187530910662656:=ww
 have e32:(256:Nat)^32=115792089237316195423570985008687907853269984665640564039457584007913129639936:=ww
 have e254:(2:Nat)^254=28948022309329048855892746252171976963317496166410141009864396001978282409984:=ww
 have e255:(2:Nat)^255=57896044618658097711785492504343953926634992332820282019728792003956564819968:=ww
 rw[Jg,Xy,Xy]at h1
 rw[e31]at h2 hg
 rw[e32]at hV
 rw[e254,e255]
 generalize num 256 ((a.set 0 (x/8*8)).set 31 (y%64+64))=N2 at *
 generalize num 256 (a.set 0 (x/8*8))=N1 at *
 generalize num 256 a=N at *
 have J:N/452312848583266388373324160190187140051835877600158453279131187530910662656=y:=qr
 have hdm:=ZK N 452312848583266388373324160190187140051835877600158453279131187530910662656
 rw[J]at hdm
 have hmlt:=Q3 N (by decide:0<452312848583266388373324160190187140051835877600158453279131187530910662656)
 have hlow:N%452312848583266388373324160190187140051835877600158453279131187530910662656%256=x:=qr
 generalize N%452312848583266388373324160190187140051835877600158453279131187530910662656=M at *
 refine⟨?_,?_,?_⟩<;>omega
def rr(s:List Nat):num 256 (scL s)%8=0/\2^254<=num 256 (scL s)/\num 256 (scL s)<2^255:=by
 obtain⟨x,O,U,Z⟩:=MW s (i:=0) ww
 obtain⟨z,E,I,Y⟩:=MW s (i:=31) ww
 unfold scL
 rw[U,I]
 exact fO (by rw[Q0,Ye];rfl) (fun y J=>HK s y (QG J)) (by rw[QN,if_pos ww];exact O) (by rw[QN,if_pos ww];exact E)
def iO(s:List Nat):¬ell∣num 256 (scL s):=by
 obtain⟨J,E,I⟩:=rr s
 generalize num 256 (scL s)=a at *
 intro hd
 obtain⟨k,rfl⟩:=hd
 have O:k<8:=Nat.lt_of_mul_lt_mul_left (a:=ell) (X9 I (by decide +kernel))
 have U:0<k:=by
  rcases ZP k with h|h
  ·rw[h,UQ]at E
   exact absurd E ww
  ·exact h
 have hm:ell*k%8=(ell%8)*k%8:=by rw[Nat.mod_mul_mod]
 have he:ell%8=5:=by decide +kernel
 rw[hm,he]at J
 clear E I hm he
 omega
end
section
def OD{p q:Go.Cv.Pt Go.Fp.P Go.Fp.d}(h:enc p=enc q):p=q:=by
 have:=DH p q
 rw[h]at this
 simp at this
 exact this
def Nx(k:Nat)(p:Go.Cv.Pt Go.Fp.P Go.Fp.d):J2 k p.neg=(J2 k p).neg:=Go.Cv.mul_neg Go.Fp.fld k p
def qY{s m:List Nat}{c:Int}(h:T7 (Kj s) (frL s m) (bkL s m) m c):c=0:=by
 have O:enc (J2 (num 256 (scL s)) X5)=Kj s:=rfl
 have J:enc (J2 (num 256 (rL s m)) X5)=frL s m:=rfl
 have hb:num 256 (bkL s m)=(num 256 (chL (frL s m) (Kj s) m)*num 256 (scL s)+num 256 (rL s m))%ell:=xW _ _ _
 have I:J2 8 (J2 (num 256 (scL s)) X5)≠Ki:=fun h=>iO s (uT _ (dI (by rw[Am];exact h)))
 have E:num 256 (bkL s m)<ell:=by rw[hb];exact Q3 _ DJ
 rcases h with⟨h,-⟩|⟨A,Y,h⟩
 ·exact absurd O (h _)
 ·have e1:=OD (Y.trans O.symm)
  rw[e1]at h
  rcases h with h|h
  ·obtain⟨h,-⟩:=h
   cases h with
   |inl h=>exact absurd h I
   |inr h=>exact absurd E h
  ·have h:=h.2.2
   rcases h with⟨h,-⟩|⟨R,U,h⟩
   ·exact absurd J (h _)
   ·have Z:=OD (U.trans J.symm)
    rw[Z]at h
    rw[h,if_pos]
    rw[hb,Ny OE,kX,Am,Nx]
    generalize num 256 (chL (frL s m) (Kj s) m)=k
    generalize J2 k (J2 (num 256 (scL s)) X5)=X
    rw[Fs X,HT,As,Sf]
end
section
open Go.Fp
abbrev PtE:=Go.Cv.Pt Go.Fp.P Go.Fp.d
def Fr(X Z:Fe)(p:PtE):Prop:=∃l:Fe,l≠0/\X=l*(1+p.y)/\Z=l*(1-p.y)
end
section
attribute [local congr] Jw JD Jv JE Jk
variable{a b bs p q:List Nat}{l:List Ob}{B m n i x V:Nat}
def Grown.ob{k:IntKind}{B:Nat}{H:List Ob}{s:Value}{bs:List Nat}(h:Grown k B H s bs)(O:0<bs.length):∃id x,s=.slice (id:Nat) bs.length bs.length/\B<=id/\H[id]?=some ⟨ns k bs,true,true,x,1⟩:=by
 cases h with
 |nil=>exact absurd O ww
 |@own id _ I J E=>exact⟨id,false,rfl,I,E⟩
 |@new id _ I J E=>exact⟨id,true,rfl,I,E⟩
def Grown.weak{k:IntKind}{B N:Nat}{H:List Ob}{s:Value}{bs:List Nat}(h:Grown k N H s bs)(O:B<=N):Grown k B H s bs:=by
 cases h with
 |nil=>exact .nil
 |own J I E=>exact .own qr I E
 |new J I E=>exact .new qr I E
def rE{H:List Ob}{hid:Nat}{xe:Bool}(xb:∀y∈bs,y<256)(hb:bs.length<2^46)(hh:H[hid]?=some ⟨ns .u64 Yq,true,true,xe,1⟩) :
  ∃s l,Zp T 154 [Jx bs,.agg (shC (.slice hid 8 8)).toArray] H=some (s,H++l,[])/\Grown .u8 H.length (H++l) s (sha bs):=by
 obtain⟨sv,hsv⟩:∃v,v=Value.slice hid 8 8:=⟨_,rfl⟩
 rw[<-hsv]
 have hhl:=(Qf.1 hh).1
 have hok:okVar (.agg (shC sv).toArray)=true:=by rw[hsv];rfl
 obtain⟨G1,U⟩:∃X,X=H++[({c:=shC sv}:Ob)]:=⟨_,rfl⟩
 have l1:G1.length=H.length+1:=by rw[U];simp
 have gB:G1[H.length]?=some {c:=shC sv}:=by rw[U,Qd (Qj _),Qs];rfl
 have gh:G1[hid]?=some ⟨ns .u64 Yq,true,true,xe,1⟩:=by rw[U,Qb hhl];exact hh
 have h2b:=Ix (id:=G1.length) xb (by omega:bs.length<=2^47)
 have h80:=yM (G:=G1) hb
 obtain⟨H3,hH3⟩:∃X,X=G1++[Ob.dead,({c:=[.int .u8 128]}:Ob),Ob.grown 1 (u8s (bs++[128]))]:=⟨_,rfl⟩
 rw[<-hH3]at h80
 have hg3:Grown .u8 (H.length+1) H3 (.slice (G1.length+2:Nat) (bs.length+1) (bs.length+1)) (bs++[128]):=by
  have:=Grown.own (k := .u8) (B:=H.length+1) (H:=H3) (id:=G1.length+2) (bs:=bs++[128]) qr wd (by rw[hH3,Qd qr,Qt];rfl)
  rwa[Qh]at this
 have p3:∀i,i<H.length+1->H3[i]?=G1[i]? := fun i hi=>by rw[hH3,Qb qr]
 obtain⟨s4,H4,h4,hg4,l4,p4⟩:=iW (B:=H.length) (N:=H.length+1) (x:=Jx bs) qr gB hb hg3 (by rw[hH3];simp;omega) p3
 have h7:=kH (B:=H.length) (n:=bs.length) (s:=s4) (Hm:=H4) qr hb
 obtain⟨H5,O⟩:∃X,X=H4++[({c:=u8s ((Jn 16).map (Wi bs.length))}:Ob)]:=⟨_,rfl⟩
 have l5:H5.length=H4.length+1:=by rw[O];simp
 have hg5:Grown .u8 (H.length+1) H5 s4 (bs++128::Qc (Vd bs.length) 0):=by rw[O];exact hg4.app
 have lc:((Jn 16).map (Wi bs.length)).length=16:=by simp
 have he5:elemsOf H5 1 ((Jn 16).map (Wi bs.length)).length (.slice H4.length 16 16)=some (ns .u8 ((Jn 16).map (Wi bs.length))):=by
  rw[lc,O]
  have:Q5 16 (u8s ((Jn 16).map (Wi bs.length)))=ns .u8 ((Jn 16).map (Wi bs.length)):=Qo (by rw[Qq,lc];exact Qj _)
  simp[elemsOf,UT,Qq,this]
 have hz:=Dv bs.length
 obtain⟨s6,H6,M6,ha6,hg6,hM6,l6,p6⟩:=hg5.append (bytes:=1) (x := .slice H4.length 16 16) qr (by rw[lc];rfl) he5 (by rw[lc];simp;omega) ww
 have hall:bs++128::Qc (Vd bs.length) 0++(Jn 16).map (Wi bs.length)=bs++WR bs.length:=by rw[bF,Qx]
 rw[hall]at hg6
 have lall:(bs++WR bs.length).length=bs.length+(17+Vd bs.length):=by rw[Qh,Dw]
 obtain⟨tid,x4,rfl,htid,htx⟩:=Grown.ob hg6 qr
 have q6:∀i,i<H.length+1->H6[i]?=G1[i]? := fun i hi=>by rw[p6 i hi,O,Qb qr];exact p4 i hi
 have htb:=dh H6
 obtain⟨H7,J⟩:∃X,X=H6++[({c:=ns .u64 Vr}:Ob)]:=⟨_,rfl⟩
 have l7:H7.length=H6.length+1:=by rw[J];simp
 have u7:∀ {i:Nat} {o:Ob},H6[i]?=some o->H7[i]?=some o:=fun {i o} h=>by rw[J,Qb (Qf.1 h).1];exact h
 have k7:H7[H6.length]?=some {c:=ns .u64 Vr}:=by rw[J,Qd (Qj _),Qs];rfl
 have hap:=app8 (u7 ((q6 hid qr).trans gh)) cZ
 obtain⟨H8,I⟩:∃X,X=H7++[({c:=[]}:Ob),Ob.grown 1 (ns .u64 Yq)]:=⟨_,rfl⟩
 have l8:H8.length=H7.length+2:=by rw[I];simp
 have Y:∀ {i:Nat} {o:Ob},H7[i]?=some o->H8[i]?=some o:=fun {i o} h=>by rw[I,Qb (Qf.1 h).1];exact h
 have k8:H8[H7.length+1]?=some ⟨ns .u64 Yq,true,true,false,1⟩:=by rw[I,Qd qr,Qt];rfl
 rw[<-I]at hap
 obtain⟨H9,E⟩:∃X,X=H8++[({c:=tuC}:Ob)]:=⟨_,rfl⟩
 have l9:H9.length=H8.length+1:=by rw[E];simp
 have u9:∀ {i:Nat} {o:Ob},H8[i]?=some o->H9[i]?=some o:=fun {i o} h=>by rw[E,Qb (Qf.1 h).1];exact h
 have k9:H9[H8.length]?=some {c:=tuC}:=by rw[E,Qd (Qj _),Qs];rfl
 have htl:=(Qf.1 htx).1
 have xall:∀y∈bs++WR bs.length,y<256:=fun y hy=>(QB.1 hy).elim (xb y) (bE _ y)
 have hm:(bs++WR bs.length).length=128*((bs++WR bs.length).length/128):=by
  have:=Au bs.length
  rw[lall];omega
 obtain⟨H10,hre,hst,l10,p10⟩:=kF (B:=H.length) (tid:=tid) (kid:=H6.length) (sid:=H7.length+1) (u:=H8.length) qr qr qr qr (u9 (Y (u7 ((q6 _ qr).trans gB)))) k9 (u9 (Y k7)) (u9 (Y (u7 htx))) (u9 k8) qr xall hm
 obtain⟨s',H11,hro,Z,l11,p11⟩:=ko (B:=H.length) (N:=H9.length) qr qr hst l10 (Gg _ _) (Iy _ _)
 have hsha:GW (stK ((bs++WR bs.length).length/128) (bs++WR bs.length))=sha bs:=rfl
 rw[hsha]at Z
 have pH:∀i,i<H.length->H11[i]?=H[i]? := fun i hi=>by
  rw[p11 i qr,p10 i qr qr,E,Qb qr,I,Qb qr,J,Qb qr,q6 i qr,U,Qb hi]
 obtain⟨l,rfl⟩:=XI (H:=H) qr pH
 refine⟨s',l,?_,Grown.weak Z qr⟩
 have F1:H++[({c:=shC sv}:Ob)]=G1:=U.symm
 have F7:H6++[({c:=ns .u64 Vr}:Ob)]=H7:=J.symm
 have F9:H8++[({c:=tuC}:Ob)]=H9:=E.symm
 have B7:∀m:List Ob,(H7++m)[H.length]?=some {c:=shC sv}:=fun m=>by rw[Qb qr];exact u7 ((q6 _ qr).trans gB)
 have B8:H8[H.length]?=some {c:=shC sv}:=Y (u7 ((q6 _ qr).trans gB))
 have c0:=shC_0 sv
 have c3:=shC_3 sv
 have lsh:=bg sv
 have htu:((shC sv).drop 4).take 12=tuC:=rfl
 have hz16:(Qc 16 [Value.int .u8 0]).flatten=u8s (Qc 16 0):=rfl
 have f128:fillL [Value.int .u8 0] [(0,1,.int .u8 128)]=some [.int .u8 128]:=rfl
 have f0:fillL ([]:List Value) []=some []:=rfl
 have hlen:=Dj (bs:=bs)
 have w1:IntKind.u64.wrap (bs.length:Int)=(bs.length:Nat):=Wd qr
 have im1:Qz H.length [] [G1.length]=[]:=QC (by simp;omega)
 have im2:Qz H.length [] M6=[]:=QC fun i hi=>by have:=hM6 i hi;omega
 have im3:Qz H.length [] [H8.length]=[]:=QC (by simp;omega)
 have ltu:=aW
 rw[F7]at htb
 simp only[rzI,rcI,reI,I7,Qp,Qn,Zx,<-O]at h4 h7 hre hro
 rw[<-hsv]at hap
 clear U hH3 O J I E hg3 hg4 hg5 hg6 Z he5 p3 p4 p6 p10 p11 pH q6 u7 Y u9 gh hh k7 k8 k9 htx hst hsha xall hm hall
 generalize shC sv=sc at *
 generalize tuC=tc at *
 generalize u8s (Qc 16 0)=Z16 at *
 generalize hbl:bs.length=n at *
 generalize(bs++WR n).length=LL at *
 rw[Q9 (fn:=zD) rfl]
 simp only[zD,Qv,quiet,cW,↓pW,reduceCtorEq,seval,-Qa,hok,F1,gB,c0,c3,h2b,f128,h80,h4,hz16,hlen,w1,h7,ha6,htb,f0,hap,B7,B8,htu,lsh,ltu,F9,hre,hro,im1,im2,im3,Q8]
def rtI(tid:Nat)(Hm:List Ob)(X:List Nat)(i:Nat)(ex:Env):St:=⟨[(2,.pointer (0:Nat)),(4,.slice tid 64 64),(5,.pointer Hm.length),(6,.int .i64 i)]++ex,Hm++[{c:=u8s X}],[]⟩
def iY{tid:Nat}{Hm:List Ob}{S:List Nat}{x:Bool}(ht:Hm[tid]?=some ⟨u8s S,true,true,x,1⟩)(I:S.length=64) :
  Q4 T 0 (.block 0 (.loop Mw)) (rtI tid Hm (Qc 64 0) 0 [])=some (.normal,rtI tid Hm S 64 [(17,.bool false)]):=by
 have h:=JB (T:=T) (base:=0) (id:=0) (body:=Mw) (fun i=>rtI tid Hm (pf 64 S i) i []) (s':=rtI tid Hm S 64 [(17,.bool false)]) 64
  (fun i hi=>by
   obtain⟨w,hw⟩:∃w,S[i]?=some w:=⟨_,Qg qr⟩
   have hstep:=K7 I hi hw
   have E:=Xg (pf 64 S i) i w
   rw[hstep]at E
   have hle:i+1<=(u8s (pf 64 S i)).length:=by rw[Qq,Vm I qr];omega
   have Z:((i:Int)<64)=True:=wr
   have O:IntKind.i64.wrap ((i:Int)+1)=((i+1:Nat):Int):=Zm (b:=1) qr
   have gt:∀m:List Ob,(Hm++m)[tid]?=some ⟨u8s S,true,true,x,1⟩:=fun m=>by rw[Qb (Qf.1 ht).1];exact ht
   have Y:(u8s S)[i]?=some (.int .u8 (w:Nat)):=ZN hw
   have U:Qz 0 [] [Hm.length]=[]:=QC wd
   generalize pf 64 S i=O1,pf 64 S (i+1)=O2 at *
   generalize J:i+1=i1 at *
   simp only[rtI,Mw,Qv,quiet,cW,↓pW,reduceCtorEq,seval,-Qa,Z,O,gt,Y,E,hle,U,J])
  (by
   rw[Vy I]
   simp only[rtI,Mw,Qv,quiet,cW,↓pW,reduceCtorEq,seval,-Qa])
 rw[Vx]at h
 exact h
def EV(xb:∀y∈bs,y<256)(hb:bs.length<2^46):Zo T 111 [Jx bs]=some (.agg (u8s (sha bs)).toArray):=by
 have O:Qc 64 (Value.int .u8 0)=u8s (Qc 64 0):=rfl
 have J:(Qc 64 0).length=64:=Q8
 obtain⟨G,I⟩:∃X,X=[({c:=u8s (Qc 64 0)}:Ob),{c:=shC (.slice (2:Nat) 8 8)},{c:=ns .u64 Yq}]:=⟨_,rfl⟩
 obtain⟨s,l,U,hg⟩:=rE (H:=G) (hid:=2) (xe:=true) xb hb (by rw[I];rfl)
 have lS:=Ye bs
 obtain⟨tid,x,rfl,h2,h3⟩:=Grown.ob hg qr
 rw[lS]at U
 have h4:=iY (tid:=tid) h3 lS
 obtain⟨G2,E⟩:∃X,X=G++l:=⟨_,rfl⟩
 have g0:∀m:List Ob,(G2++m)[0]?=some {c:=u8s (Qc 64 0)}:=fun m=>by rw[E,I];rfl
 have s1:∀(m:List Ob) (o:Ob),(G2.set 0 o++m)[0]?=some o:=fun m o=>by rw[E,I];rfl
 have s0:∀(m:List Ob) (o:Ob),(G2++m).set 0 o=(G2.set 0 o)++m:=fun m o=>by rw[E,I];rfl
 rw[<-E]at U h4
 simp only[rtI,Qp,Qn,Zx]at h4
 have fI:fillL (Qc 8 (Value.int .u64 0)) [(0,1,.int .u64 7640891576956012808),(1,1,.int .u64 13503953896175478587),(2,1,.int .u64 4354685564936845355),(3,1,.int .u64 11912009170470909681),(4,1,.int .u64 5840696475078001361),(5,1,.int .u64 11170449401992604703),(6,1,.int .u64 2270897969802886507),(7,1,.int .u64 6620516959819538809)]=some (ns .u64 Yq):=rfl
 rw[I]at U
 clear hg h3 I E
 have fT:fillL [Value.int .i64 0,.int .i64 0,.int .i64 0,.slice none 0 0,.int .i64 0,.int .i64 0,.int .i64 0,.int .i64 0,.int .i64 0,.int .i64 0,.int .i64 0,.int .i64 0,.int .i64 0,.int .i64 0,.int .i64 0,.int .i64 0] [(0,1,.int .i64 64),(1,1,.int .i64 80),(2,1,.int .i64 128)]=some ([Value.int .i64 64,.int .i64 80,.int .i64 128,.slice none 0 0]++Qc 12 (.int .i64 0)):=rfl
 have f12:fillL (Qc 12 (Value.int .i64 0)) [(0,1,.int .i64 1),(1,1,.int .i64 8),(2,1,.int .i64 7),(3,1,.int .i64 19),(4,1,.int .i64 61),(5,1,.int .i64 6),(6,1,.int .i64 28),(7,1,.int .i64 34),(8,1,.int .i64 39),(9,1,.int .i64 14),(10,1,.int .i64 18),(11,1,.int .i64 41)]=some tuC:=rfl
 have hs3:([Value.int .i64 64,.int .i64 80,.int .i64 128,.slice none 0 0]++Qc 12 (Value.int .i64 0)).set 3 (Value.slice (2:Nat) 8 8)=[Value.int .i64 64,.int .i64 80,.int .i64 128,.slice (2:Nat) 8 8]++Qc 12 (Value.int .i64 0):=rfl
 have hs4:splice ([Value.int .i64 64,.int .i64 80,.int .i64 128,.slice (2:Nat) 8 8]++Qc 12 (Value.int .i64 0)) 4 tuC=shC (.slice (2:Nat) 8 8):=rfl
 have lc1:([Value.int .i64 64,.int .i64 80,.int .i64 128,.slice none 0 0]++Qc 12 (Value.int .i64 0)).length=16:=rfl
 have lc2:([Value.int .i64 64,.int .i64 80,.int .i64 128,.slice (2:Nat) 8 8]++Qc 12 (Value.int .i64 0)).length=16:=rfl
 have Z:=bg (.slice (2:Nat) 8 8)
 have Y:=aW
 have fz:fillL (u8s (Qc 64 0)) []=some (u8s (Qc 64 0)):=rfl
 generalize[Value.int .i64 64,.int .i64 80,.int .i64 128,.slice none 0 0]++Qc 12 (Value.int .i64 0)=C1 at *
 generalize[Value.int .i64 64,.int .i64 80,.int .i64 128,.slice (2:Nat) 8 8]++Qc 12 (Value.int .i64 0)=C2 at *
 generalize shC (.slice (2:Nat) 8 8)=C3 at *
 generalize tuC=TU at *
 generalize sha bs=S,Qc 64 0=Z64 at *
 apply Zb (fn:=zE) rfl
 simp only[zE,Qv,quiet,cW,↓pW,reduceCtorEq,seval,-Qa,O,fz,fI,fT,f12,hs3,hs4,lc1,lc2,Z,Y,U,h4,g0,s0,s1,Qq,J,lS,Q7]
 rfl
def A7(h:a[m]?=some x):num B a=num B (a.take m)+x*B^m+B^(m+1)*num B (a.drop (m+1)):=by
 have hm:m<a.length:=(Qf.1 h).1
 conv=>lhs;rw[<-Z7 (m+1) a,KV,JY h]
 rw[Q0,Zg qr]
def D1(ha:∀x∈a,x<B)(hm:m<=a.length):num B (a.take m)<B^m:=by
 have:=num_lt (B:=B) (l:=a.take m) fun x E=>ha x (QG E)
 rwa[Q0,Zg hm]at this
def nH{x y:Nat}(O:a.length=b.length)(ha:∀x∈a,x<B)(hb:∀x∈b,x<B)(E:a[m]?=some x)(I:b[m]?=some y)(J:x≠y)(hd:a.drop (m+1)=b.drop (m+1)):(num B a<num B b)↔x<y:=by
 have hm:m<a.length:=(Qf.1 E).1
 rw[A7 E,A7 I,hd]
 have Y:=D1 (m:=m) ha qr
 have U:=D1 (m:=m) hb qr
 rcases ZA x y with h|h
 ·have:(x+1)*B^m<=y*B^m:=ZG _ h
  rw[Zl,Xa]at this
  constructor<;>intro<;>omega
 ·have:(y+1)*B^m<=x*B^m:=ZG _ qr
  rw[Zl,Xa]at this
  constructor<;>intro<;>omega
def dq(a b:List Nat)(i:Int)(ex:Env):St:=⟨[(2,.pointer (0:Nat)),(3,.pointer (1:Nat)),(5,.int .i64 i)]++ex,[{c:=ns .u64 a},{c:=ns .u64 b}],[]⟩
def TY{a b:List Nat}(ha:Nm a)(hb:Nm b) :
  ∀m,m<=16->a.drop m=b.drop m->Q4 T 0 (.loop Cn) (dq a b ((m:Int)-1) []) =
   if a=b then some (.exit 0,dq a b (-1) [(7,.bool false)])else some (.ret,⟨[(4,.bool (decide (num 65536 a<num 65536 b)))],[{c:=ns .u64 a},{c:=ns .u64 b}],[]⟩)
 |0,_,hd=>by
  rw[Jt,Jt]at hd
  rw[if_pos hd,Jf]
  have e:((0:Int) <= -1)=False:=ww
  simp only[dq,Cn,Qv,quiet,cK,↓pQ,reduceCtorEq,seval,-Qa,cL,Int.zero_sub,e]
 |m+1,hm,hd=>by
  obtain⟨x,O⟩:∃x,a[m]?=some x:=⟨_,Qg (by rw[ha.len];omega)⟩
  obtain⟨y,I⟩:∃y,b[m]?=some y:=⟨_,Qg (by rw[hb.len];omega)⟩
  have c1:=Z4 (k := .u64) O
  have c2:=Z4 (k := .u64) I
  have l1:=ha.len
  have l2:=hb.len
  have e0:(((m+1:Nat):Int)-1)=(m:Int):=qr
  have e1:((0:Int)<=(m:Int))=True:=wr
  have e2:((m:Int)<16)=True:=wr
  have e3:IntKind.i64.wrap ((m:Int)-1)=(m:Int)-1:=Zd qr qr
  rw[e0,Jf]
  by_cases E:x=y
  ·subst E
   have Y:a.drop m=b.drop m:=by
    rw[ZJ,O,hd,<-I,<-ZJ]
   have ih:=TY ha hb m qr Y
   rw[<-ih]
   simp only[dq,Cn,Qv,quiet,cK,↓pQ,reduceCtorEq,seval,-Qa,cL,e1,e2,e3,c1,c2]
  ·have Z:¬a=b:=fun h=>by subst h;rw[O]at I;cases I;exact E rfl
   rw[if_neg Z]
   have U:((x:Int) != (y:Int))=true:=by simp;omega
   have hlt:=nH (by rw[l1,l2]) ha.lt hb.lt O I E hd
   have J:decide ((x:Int)<(y:Int))=decide (num 65536 a<num 65536 b):=by
    by_cases h:x<y
    ·rw[decide_eq_true (hlt.2 h),decide_eq_true qr]
    ·rw[decide_eq_false (fun k=>h (hlt.1 k)),decide_eq_false qr]
   simp only[dq,Cn,Qv,quiet,cK,↓pQ,reduceCtorEq,seval,-Qa,cL,e1,e2,c1,c2,U,J]
def bl{a b:List Nat}(ha:Nm a)(hb:Nm b):Zo T 176 [eV a,eV b]=some (.bool (decide (num 65536 a<num 65536 b))):=by
 have I:=TY ha hb 16 (Qj _) (by rw[ZH (by rw[ha.len];omega),ZH (by rw[hb.len];omega)])
 have U:=ha.len
 have O:=hb.len
 have J:(((16:Nat):Int)-1)=15:=ww
 rw[J]at I
 simp only[dq,Qp,Qn]at I
 by_cases E:a=b
 ·rw[if_pos E]at I
  subst E
  apply Zb (fn:=a93) rfl
  have hd:decide (num 65536 a<num 65536 a)=false:=by simp
  simp only[a93,Qv,quiet,cW,↓pW,reduceCtorEq,seval,-Qa,Jl,I,QR,ZZ]
  rfl
 ·rw[if_neg E]at I
  apply Zb (fn:=a93) rfl
  simp only[a93,Qv,quiet,cW,↓pW,reduceCtorEq,seval,-Qa,Jl,I,QR,ZZ]
  rfl
def dw(a:List Nat)(ex:Env):St:=⟨[(1,.pointer (0:Nat)),(2,.pointer (1:Nat))]++ex,[{c:=ns .u64 a},{c:=ns .u64 J1}],[]⟩
def Wg(ha:Nm a):Zo T 148 [eV a]=some (eV (dig 65536 16 (num 65536 a%Go.Fp.P))):=by
 have hp:=Bq
 have U:=VS
 have E:=Wh
 have hlt:=ha.num_lt
 obtain⟨V,hV⟩:∃V,V=num 65536 a:=⟨_,rfl⟩
 rw[<-hV]at hlt ⊢
 have haV:a=dig 65536 16 V:=by rw[hV];exact ha.eq
 have hdm:=ZK V Go.Fp.P
 have lP:=U.len
 obtain⟨st,hl,rfl⟩:=QM (T:=T) (base:=0) (id:=0) (body:=Ly)
  (fun i st=>st=dw (dig 65536 16 (V-i*Go.Fp.P)) [])
  (Q:=fun st=>st=dw (dig 65536 16 (V%Go.Fp.P)) [(6,.bool false)])
  (V/Go.Fp.P) (s:=dw a []) (by rw[KA,V8,<-haV])
  (fun i st hi hs=>by
   subst hs
   have h1:(i+1)*Go.Fp.P<=V:=JG (ZG _ hi) (Nat.div_mul_le_self V Go.Fp.P)
   rw[Zl,Xa]at h1
   have I:=Nm.dig (V-i*Go.Fp.P)
   have hn:=VD (v:=V-i*Go.Fp.P) qr
   have J:=bl I U
   have g2:=TX I U (by rw[hn,E];omega)
   rw[hn,E,decide_eq_false qr]at J
   rw[hn,E,show V-i*Go.Fp.P-Go.Fp.P=V-(i+1)*Go.Fp.P by rw[Zl,Xa];omega]at g2
   have O:=I.len
   have Y:=Ze 65536 16 (V-(i+1)*Go.Fp.P)
   generalize dig 65536 16 (V-i*Go.Fp.P)=A at *
   generalize dig 65536 16 (V-(i+1)*Go.Fp.P)=A' at *
   generalize KO=PL at *
   refine⟨_,?_,rfl⟩
   simp only[dw,Ly,Qv,quiet,cW,↓pW,reduceCtorEq,seval,-Qa,hp,J,g2,QR,Zr,ZZ,Zi,QA,O,Y,Q7,ZY])
  (fun st hs=>by
   subst hs
   have e:V-V/Go.Fp.P*Go.Fp.P=V%Go.Fp.P:=by rw[Zw];omega
   rw[e]
   have hm:=Q3 V (by decide:0<Go.Fp.P)
   have I:=Nm.dig (V%Go.Fp.P)
   have hn:=VD (v:=V%Go.Fp.P) (QJ hm ww)
   have J:=bl I U
   rw[hn,E,decide_eq_true hm]at J
   have O:=I.len
   generalize dig 65536 16 (V%Go.Fp.P)=A at *
   generalize KO=PL at *
   refine⟨_,?_,rfl⟩
   simp only[dw,Ly,Qv,quiet,cW,↓pW,reduceCtorEq,seval,-Qa,hp,J,Zi,QA,O,Q7,ZY])
 have hz:=Vf
 have lz:=Kw
 have O:=ha.len
 have Y:=Ze 65536 16 (V%Go.Fp.P)
 simp only[dw,Qp,Qn]at hl
 generalize J1=Z at *
 generalize dig 65536 16 (V%Go.Fp.P)=R at *
 apply Zb (fn:=a85) rfl
 simp only[a85,Qv,quiet,cW,↓pW,reduceCtorEq,seval,-Qa,hz,hl,Q7,QR,Zr,ZZ,Zi,QA,Y,lz]
 rfl
def gI:Qc 32 (Value.int .u8 0)=u8s (dig 256 32 0):=rfl
def L8:fillL (u8s (dig 256 32 0)) []=some (u8s (dig 256 32 0)):=rfl
def w8n(h:n<256):IntKind.u8.wrap (n:Int)=n:=by rw[Uk,Q6 h]
def PS(c o:List Nat)(i:Int)(ex:Env):St:=⟨[(1,.pointer (0:Nat)),(2,.pointer (1:Nat)),(3,.pointer (2:Nat)),(4,.int .i64 i)]++ex,[{c:=ns .u64 c},{c:=u8s (dig 256 32 0)},{c:=u8s o}],[]⟩
def kI(hi:i<16) :
  Q4 T 0 C6 (PS (dig 65536 16 V) (pf 32 (dig 256 32 V) (2*i)) i [])=some (.normal,PS (dig 65536 16 V) (pf 32 (dig 256 32 V) (2*(i+1))) ((i+1:Nat):Int) []):=by
 obtain⟨x,E⟩:∃x,x=V/65536^i%65536:=⟨_,rfl⟩
 have hx:(dig 65536 16 V)[i]?=some x:=by rw[Kc hi,E]
 have hx':x<65536:=by rw[E];exact Q3 _ ww
 have e:(65536:Nat)^i=256^(2*i):=by rw[show(65536:Nat)=256^2 from rfl,<-Jj]
 rw[e]at E
 have hd1:(dig 256 32 V)[2*i]?=some (x%256):=by rw[Kc qr,E];congr 1;omega
 have Z:(dig 256 32 V)[2*i+1]?=some (x/256):=by
  rw[Kc qr,E,Zn,<-Zc]
  congr 1;omega
 have O:=K7 (Ze 256 32 V) (by omega:2*i<32) hd1
 have J:=K7 (Ze 256 32 V) (by omega:2*i+1<32) Z
 have Y:=Vm (Ze 256 32 V) (by omega:2*i<=32)
 have U:=Vm (Ze 256 32 V) (by omega:2*i+1<=32)
 have hset1:=Xg (pf 32 (dig 256 32 V) (2*i)) (2*i) (x%256)
 have hset2:=Xg (pf 32 (dig 256 32 V) (2*i+1)) (2*i+1) (x/256)
 rw[O]at hset1
 rw[J]at hset2
 rw[show 2*(i+1)=2*i+1+1 by omega]
 have I:=Z4 (k := .u64) hx
 have w1:IntKind.i64.wrap ((i:Int)+1)=((i+1:Nat):Int):=Zm (b:=1) qr
 have w2:IntKind.i64.wrap (2*(i:Int))=((2*i:Nat):Int):=Yb (a:=2) qr
 have w3:IntKind.i64.wrap (((2*i:Nat):Int)+1)=((2*i+1:Nat):Int):=Zm (b:=1) qr
 have w4:(x:Int).tmod 256=((x%256:Nat):Int):=rfl
 have w5:IntKind.u8.wrap ((x%256:Nat):Int)=((x%256:Nat):Int):=w8n qr
 have w6:IntKind.u64.wrap ((x:Int).tdiv 256)=((x/256:Nat):Int):=Wd (n:=x/256) qr
 have w7:IntKind.u8.wrap ((x/256:Nat):Int)=((x/256:Nat):Int):=w8n qr
 have e1:((i:Int)<16)=True:=wr
 have e2:(((2*i:Nat):Int)<32)=True:=wr
 have e3:(((2*i+1:Nat):Int)<32)=True:=wr
 have e5:(2*i<=31)=True:=wr
 have e6:(2*i+1<=31)=True:=wr
 have l1:=Ze 65536 16 V
 generalize dig 65536 16 V=C,pf 32 (dig 256 32 V) (2*i)=o1,pf 32 (dig 256 32 V) (2*i+1)=o2,pf 32 (dig 256 32 V) (2*i+1+1)=o3 at *
 generalize hj1:2*i+1=j1 at *
 generalize hj:2*i=j at *
 simp only[PS,C6,Qv,quiet,cW,↓pW,reduceCtorEq,seval,-Qa,I,w1,w2,w3,w4,w5,w6,w7,e1,e2,e3,e5,e6,hset1,hset2,Qq,Y,U]
def Dt(ha:Nm a):Zo T 100 [eV a]=some (.agg (u8s (dig 256 32 (nf a).val)).toArray):=by
 have hc:=Wg ha
 have hv:(nf a).val=num 65536 a%Go.Fp.P:=rfl
 rw[hv]
 generalize num 65536 a%Go.Fp.P=V at *
 have hb:=JB (T:=T) (base:=0) (id:=0) (body:=C6) (fun i=>PS (dig 65536 16 V) (pf 32 (dig 256 32 V) (2*i)) i []) (s':=PS (dig 65536 16 V) (dig 256 32 V) 16 [(9,.bool false)]) 16
  (fun i hi=>kI hi) (by
   rw[show 2*16=32 from rfl,Vy (Ze _ _ _)]
   simp only[PS,C6,Qv,quiet,cK,↓pQ,reduceCtorEq,seval,-Qa,cL])
 rw[UQ,Vx,show Qc 32 0=dig 256 32 0 from rfl]at hb
 simp only[PS,Qp,Qn,Zx]at hb
 have hz:=gI
 have U:=L8
 have E:=Ze 256 32 0
 have O:=ha.len
 have J:=Ze 65536 16 V
 have I:=Ze 256 32 V
 generalize dig 65536 16 V=C,dig 256 32 V=R,dig 256 32 0=Z at *
 apply Zb (fn:=a66) rfl
 simp only[a66,Qv,quiet,cW,↓pW,reduceCtorEq,seval,-Qa,hz,U,hc,hb,Q7,QR,Zr,ZZ,Zi,QA,Qq,O,J,I,E,ZY]
 rfl
def fH(d:List Nat)(l:List Ob):List Ob:={c:=ns .u64 d}::{c:=ns .u64 J1}::l
def f2I(d:List Nat)(l:List Ob)(c:Nat)(i:Int)(ex:Env):St:=⟨[(1,.pointer (0:Nat)),(2,.pointer (1:Nat)),(3,.int .u64 c),(4,.int .i64 i)]++ex,fH d l,[]⟩
def oV{d:List Nat}(hd:d.length=32)(hM:∀x∈d,x<2^44)(hN:num 65536 d<65536^32) :
  ∃o c,Q4 T 0 (.block 2 (.loop Ct)) (f2I d l 0 0 [])=some (.normal,f2I o l c 32 [(11,.bool false)])/\o.length=32/\(∀x∈o,x<65536)/\num 65536 o=num 65536 d:=by
 obtain⟨st,hl,o,c,rfl,I,U,h3⟩:=QM (T:=T) (base:=0) (id:=2) (body:=Ct)
  (fun i st=>∃(o:List Nat) (c:Nat),st=f2I (o++d.drop i) l c i []/\o.length=i/\(∀x∈o,x<65536)/\c<2^30/\num 65536 (d.take i)=num 65536 o+65536^i*c)
  (Q:=fun st=>∃(o:List Nat) (c:Nat),st=f2I o l c 32 [(11,.bool false)]/\o.length=32/\(∀x∈o,x<65536)/\num 65536 d=num 65536 o+65536^32*c)
  32 (s:=f2I d l 0 0 []) ⟨[],0,by rw[Jt];rfl,rfl,by simp,by omega,by simp[num]⟩
  (fun i st hi hs=>by
   obtain⟨o,c,rfl,I,U,h3,Z⟩:=hs
   obtain⟨x,Y⟩:∃x,d[i]?=some x:=⟨_,Qg qr⟩
   have hx':=hM x (Qw Y)
   have hxo:(o++d.drop i)[i]?=some x:=by
    rw[Qd qr,I,Qs,Zf];exact Y
   have hstep:(o++d.drop i).set i ((x+c)%65536)=(o++[(x+c)%65536])++d.drop (i+1):=by
    rw[Q1 _ _ qr,I,Qs,ZJ (i:=i),Y]
    simp
   have E:=JL .u64 (o++d.drop i) i ((x+c)%65536)
   rw[hstep]at E
   have hlen:(o++d.drop i).length=32:=by simp;omega
   have hxc:=Z4 (k := .u64) hxo
   have w1:IntKind.i64.wrap ((i:Int)+1)=((i+1:Nat):Int):=Zm (b:=1) qr
   have w2:IntKind.u64.wrap ((x:Int)+(c:Int))=((x+c:Nat):Int):=Yw qr
   have w3:((x+c:Nat):Int).tmod 65536=(((x+c)%65536:Nat):Int):=rfl
   have w4:IntKind.u64.wrap (((x+c:Nat):Int).tdiv 65536)=(((x+c)/65536:Nat):Int):=Wd (n:=(x+c)/65536) qr
   have e1:((i:Int)<32)=True:=wr
   have e4:(i<=31)=True:=wr
   refine⟨f2I ((o++[(x+c)%65536])++d.drop (i+1)) l ((x+c)/65536) ((i+1:Nat):Int) [],?_,o++[(x+c)%65536],(x+c)/65536,rfl,by simp[I],?_,by omega,?_⟩
   ·generalize(o++[(x+c)%65536])++d.drop (i+1)=O' at *
    generalize o++d.drop i=O at *
    generalize(x+c)/65536=q at *
    generalize(x+c)%65536=m at *
    generalize x+c=v at *
    generalize i+1=i1 at *
    simp only[f2I,fH,Ct,Qv,quiet,cW,↓pW,reduceCtorEq,seval,-Qa,hxc,w1,w2,w3,w4,e1,e4,E,QA,hlen]
   ·intro y J
    rcases QB.1 J with J|J
    ·exact U y J
    ·rw[Zu.1 J];exact Q3 _ ww
   ·rw[JY Y,NP,I,Z,Zn]
    have h5:x+c=65536*((x+c)/65536)+(x+c)%65536:=(ZK _ _).symm
    generalize(x+c)/65536=q at *
    generalize(x+c)%65536=m at *
    generalize(65536:Nat)^i=p at *
    have h6:=congrArg (fun t=>t*p) h5
    simp only[Zl]at h6
    rw[ZI p,Zw p c,Zw p m,Zw p (65536*q)]
    omega)
  (fun st hs=>by
   obtain⟨o,c,rfl,I,U,h3,Z⟩:=hs
   rw[Qo qr]at Z
   refine⟨_,?_,o,c,rfl,I,U,Z⟩
   rw[ZH qr,QF]
   simp only[f2I,fH,Ct,Qv,quiet,cK,↓pQ,reduceCtorEq,seval,-Qa,cL])
 refine⟨o,c,hl,I,U,?_⟩
 rcases ZP c with h|h
 ·rw[h3,h];omega
 ·exfalso
  have:=Nat.mul_le_mul_left (65536^32) h
  generalize(65536:Nat)^32=M at *
  omega
def YL(l:List Nat):Bool := !(l.all (· == 0))
def aH(l:List Nat)(x:Nat):YL (l++[x])=(YL l || !(x==0)):=by simp[YL]
def f1I(d o:List Nat)(l:List Ob)(b:Bool)(i:Int)(ex:Env):St:=⟨[(1,.pointer (0:Nat)),(2,.pointer (1:Nat)),(6,.pointer (l.length+1+1:Nat)),(7,.bool b),(8,.int .i64 i)]++ex,fH d (l++[{c:=ns .u64 o}]),[]⟩
def uN{d:List Nat}{b:Bool}(hd:d.length=32)(hi:i<16)(hb:b=YL ((d.drop 16).take i)) :
  Q4 T 0 Dc (f1I d (pf 16 (d.take 16) i) l b i [])=some (.normal,f1I d (pf 16 (d.take 16) (i+1)) l (YL ((d.drop 16).take (i+1))) ((i+1:Nat):Int) []):=by
 obtain⟨x,hx⟩:∃x,d[i]?=some x:=⟨_,Qg qr⟩
 obtain⟨y,hy⟩:∃y,d[i+16]?=some y:=⟨_,Qg qr⟩
 have Y:(d.take 16)[i]?=some x:=by rw[QN,if_pos hi];exact hx
 have U:(d.drop 16)[i]?=some y:=by rw[Zf,Xu];exact hy
 have hL:(d.take 16).length=16:=by simp;omega
 have hstep:=K7 hL hi Y
 have hlen:=Vm hL (JH hi)
 have E:=JL .u64 (pf 16 (d.take 16) i) i x
 rw[hstep]at E
 have I:=Z4 (k := .u64) hx
 have O:=Z4 (k := .u64) hy
 have J:YL ((d.drop 16).take (i+1))=(b || !(y==0)):=by
  rw[Zh,U,hb];exact aH _ _
 rw[J]
 have Z:IntKind.i64.wrap ((i:Int)+1)=((i+1:Nat):Int):=Zm (b:=1) qr
 have w2:IntKind.i64.wrap ((i:Int)+16)=((i+16:Nat):Int):=Zm (b:=16) qr
 have e1:((i:Int)<16)=True:=wr
 have e2:((i:Int)<32)=True:=wr
 have e3:(((i+16:Nat):Int)<32)=True:=wr
 have e4:(i<=15)=True:=wr
 have e5:((y:Int) != 0) = !(y==0):=by
  by_cases h:y=0
  ·subst h;rfl
  ·have h':¬(y:Int)=0:=qr
   rw[beq_eq_false_iff_ne.2 h,bne_iff_ne.2 h'];rfl
 generalize pf 16 (d.take 16) i=o1 at *
 generalize pf 16 (d.take 16) (i+1)=o2 at *
 generalize i+16=j at *
 generalize(!(y==0))=nz at *
 clear hb J
 cases b with
 |false=>simp only[f1I,fH,Dc,Qv,quiet,cK,↓pQ,reduceCtorEq,seval,-Qa,cL,cJ,I,O,Z,w2,e1,e2,e3,e4,e5,E,QA,hlen,Bool.false_or]
 |true=>simp only[f1I,fH,Dc,Qv,quiet,cK,↓pQ,reduceCtorEq,seval,-Qa,cL,cJ,I,Z,e1,e2,e4,E,QA,hlen,Bool.true_or]
def oW{d:List Nat}(hd:d.length=32) :
  Q4 T 0 (.block 4 (.loop Dc)) (f1I d J1 l false 0 [])=some (.normal,f1I d (d.take 16) l (YL (d.drop 16)) 16 [(27,.bool false)]):=by
 have E:(d.take 16).length=16:=by simp;omega
 have hb:=JB (T:=T) (base:=0) (id:=4) (body:=Dc) (fun i=>f1I d (pf 16 (d.take 16) i) l (YL ((d.drop 16).take i)) i []) (s':=f1I d (d.take 16) l (YL (d.drop 16)) 16 [(27,.bool false)]) 16
  (fun i hi=>uN hd hi rfl) (by
   rw[Vy E,Qo (l:=d.drop 16) (by simp;omega)]
   simp only[f1I,Dc,Qv,quiet,cK,↓pQ,reduceCtorEq,seval,-Qa,cL])
 rw[Vx]at hb
 exact hb
def f0I(d:List Nat)(l:List Ob)(i:Int)(ex:Env):St:=⟨[(1,.pointer (0:Nat)),(2,.pointer (1:Nat)),(9,.int .i64 i)]++ex,fH d l,[]⟩
def oX{d:List Nat}(hd:d.length=32)(hM:∀x∈d,x<65536) :
  ∃o,Q4 T 0 (.block 6 (.loop Cu)) (f0I d l 0 [])=some (.normal,f0I o l 16 [(47,.bool false)])/\o.length=32/\(∀x∈o,x<2^44)/\num 65536 o+65536^16*num 65536 (d.drop 16)=num 65536 d+38*num 65536 (d.drop 16):=by
 obtain⟨st,hl,o,rfl,E,J,I⟩:=QM (T:=T) (base:=0) (id:=6) (body:=Cu)
  (fun i st=>∃o:List Nat,st=f0I o l i []/\o.length=32/\(∀x∈o,x<2^44)/\(∀j,i<=j->j<16->o[j]?=d[j]?/\o[j+16]?=d[j+16]?)/\num 65536 o+65536^16*num 65536 ((d.drop 16).take i)=num 65536 d+38*num 65536 ((d.drop 16).take i))
  (Q:=fun st=>∃o:List Nat,st=f0I o l 16 [(47,.bool false)]/\o.length=32/\(∀x∈o,x<2^44)/\num 65536 o+65536^16*num 65536 (d.drop 16)=num 65536 d+38*num 65536 (d.drop 16))
  16 (s:=f0I d l 0 []) ⟨d,rfl,hd,fun x O=>X9 (hM x O) ww,fun _ _ _=>⟨rfl,rfl⟩,by simp[num]⟩
  (fun i st hi hs=>by
   obtain⟨o,rfl,E,J,I,h4⟩:=hs
   obtain⟨x,O⟩:∃x,d[i]?=some x:=⟨_,Qg qr⟩
   obtain⟨y,hy⟩:∃y,d[i+16]?=some y:=⟨_,Qg qr⟩
   have hx':=hM x (Qw O)
   have hy':=hM y (Qw hy)
   obtain⟨Z,Y⟩:=I i (Qj _) hi
   rw[O]at Z
   rw[hy]at Y
   have U:(o.set i (x+38*y))[i+16]?=some y:=by rw[Ql qr];exact Y
   have n1:=Vj (B:=65536) (x+38*y) Z
   have n2:=Vj (B:=65536) 0 U
   have s1:=JL .u64 o i (x+38*y)
   have s2:(ns .u64 (o.set i (x+38*y))).set (i+16) (.int .u64 0)=ns .u64 ((o.set i (x+38*y)).set (i+16) 0):=JL .u64 (o.set i (x+38*y)) (i+16) 0
   have l2:(o.set i (x+38*y)).length=32:=by rw[Qr];exact E
   have hxc:=Z4 (k := .u64) Z
   have hyc:=Z4 (k := .u64) Y
   have hy2:(d.drop 16)[i]?=some y:=by rw[Zf,Xu];exact hy
   have w1:IntKind.i64.wrap ((i:Int)+1)=((i+1:Nat):Int):=Zm (b:=1) qr
   have w2:IntKind.i64.wrap ((i:Int)+16)=((i+16:Nat):Int):=Zm (b:=16) qr
   have w3:IntKind.u64.wrap (38*(y:Int))=((38*y:Nat):Int):=W1 (a:=38) qr
   have w4:IntKind.u64.wrap ((x:Int)+((38*y:Nat):Int))=((x+38*y:Nat):Int):=Yw qr
   have e1:((i:Int)<16)=True:=wr
   have e2:((i:Int)<32)=True:=wr
   have e3:(((i+16:Nat):Int)<32)=True:=wr
   have e4:(i<=31)=True:=wr
   have e5:(i+16<=31)=True:=wr
   refine⟨f0I ((o.set i (x+38*y)).set (i+16) 0) l ((i+1:Nat):Int) [],?_,_,rfl,by rw[Qr];exact l2,?_,?_,?_⟩
   ·generalize(o.set i (x+38*y)).set (i+16) 0=O2 at *
    generalize o.set i (x+38*y)=O1 at *
    generalize hj:i+16=j at *
    generalize x+38*y=v at *
    generalize 38*y=u at *
    generalize i+1=i1 at *
    simp only[f0I,fH,Cu,Qv,quiet,cW,↓pW,reduceCtorEq,seval,-Qa,hxc,hyc,w1,w2,w3,w4,e1,e2,e3,e4,e5,s1,s2,QA,E,l2]
   ·exact Yf (Yf J qr) ww
   ·intro j hj hj'
    obtain⟨g1,g2⟩:=I j qr hj'
    rw[Ql qr,Ql qr,Ql qr,Ql qr]
    exact⟨g1,g2⟩
   ·rw[JY hy2]
    rw[JU]at n2
    generalize num 65536 ((o.set i (x+38*y)).set (i+16) 0)=N2,num 65536 (o.set i (x+38*y))=N1,num 65536 (Q5 i (ZT 16 d))=S at *
    generalize(65536:Nat)^i=p at *
    have e16:(65536:Nat)^16=115792089237316195423570985008687907853269984665640564039457584007913129639936:=ww
    rw[e16]at *
    rw[Zl,ZI]at n1
    rw[<-ZI]at n2
    rw[VW,VW]
    generalize y*p=yp at *
    omega)
  (fun st hs=>by
   obtain⟨o,rfl,E,J,I,h4⟩:=hs
   rw[Qo (by simp;omega)]at h4
   refine⟨_,?_,o,rfl,E,J,h4⟩
   simp only[f0I,fH,Cu,Qv,quiet,cK,↓pQ,reduceCtorEq,seval,-Qa,cL])
 exact⟨o,hl,E,J,I⟩
def f3I(d:List Nat)(l:List Ob)(ex:Env):St:=⟨[(1,.pointer (0:Nat)),(2,.pointer (1:Nat))]++ex,fH d l,[]⟩
def DR:∀ {l:List Nat},YL l=false->num 65536 l=0
 |[],_=>rfl
 |x::l,h=>by
  have E:((x::l).all (· == 0))=true:=by simpa [YL]using h
  rw[List.all_cons,Bool.and_eq_true]at E
  have J:x=0:=by simpa using E.1
  have I:=DR (l:=l) (by unfold YL;rw[E.2];rfl)
  rw[num,I,J]
def mZ:∀ {l:List Nat},YL l=true->0<num 65536 l
 |[],h=>by cases h
 |x::l,h=>by
  rw[num]
  by_cases E:x=0
  ·have:=mZ (l:=l) (by
    subst E
    simpa [YL]using h)
   omega
  ·omega
def oL{W H:Nat}(h:W+65536^16*H=V+38*H):Go.Fp.fp W=Go.Fp.fp V:=by
 have I:=congrArg Go.Fp.fp h
 rw[Go.Fp.Vg,Go.Fp.Vg,Go.Fp.Kh,Go.Fp.Kh]at I
 have E:Go.Fp.fp (65536^16)=Go.Fp.fp 38:=by decide +kernel
 rw[E]at I
 generalize Go.Fp.fp W=a,Go.Fp.fp V=b,Go.Fp.fp 38*Go.Fp.fp H=c at *
 clear h E
 grobner
def PO:∀(v:Nat) (d:List Nat) (l:List Ob) (ex:Env),num 65536 d=v->d.length=32->(∀x∈d,x<2^44)->v<65536^32 ->
  ∃r d' l',Q4 T 0 (.loop Lx) (f3I d l ex)=some (.ret,⟨[(2,.pointer (1:Nat))],{c:=ns .u64 d'}::{c:=ns .u64 r}::l',[]⟩)/\Nm r/\nf r=Go.Fp.fp v:=by
 intro v
 induction v using Nat.strongRecOn with
 |ind v ih =>
  intro d l ex hv hd hM hN
  obtain⟨o,c,h2,lo,xo,no⟩:=oV (l:=l) hd hM (by rw[hv];exact hN)
  have U:=oW (d:=o) (l:=l) lo
  simp only[f2I,f1I,fH,Qp,Qn,Zx]at h2 U
  have hz:=Vf
  have lz:=Kw
  have hf:=WZ
  by_cases J:YL (o.drop 16)=true
  ·rw[J]at U
   obtain⟨o2,h0,lo2,Y,I⟩:=oX (l:=l++[{c:=ns .u64 (o.take 16)}]) lo xo
   simp only[f0I,fH,Qp,Qn]at h0
   have hpos:=mZ J
   rw[no,hv]at I
   have hlt:num 65536 o2<v:=by
    have e16:(65536:Nat)^16=115792089237316195423570985008687907853269984665640564039457584007913129639936:=ww
    rw[e16]at I
    omega
   obtain⟨r,d',l',hr,hr1,hr2⟩   := ih _ hlt o2 (l++[{c:=ns .u64 (o.take 16)}]) [(9,.int .i64 16),(47,.bool false)] rfl lo2 Y (X9 hlt hN)
   refine⟨r,d',l',?_,hr1,by rw[hr2];exact oL I⟩
   rw[<-hr,Jf]
   simp only[f3I,fH,Qp,Qn]
   generalize J1=Z at *
   simp only[Lx,Qv,quiet,cK,↓pQ,reduceCtorEq,seval,-Qa,cL,cJ,hz,hf,h2,U,h0,QA,lz,QR,Zr,ZZ,Zi]
  ·have E:YL (o.drop 16)=false:=by simpa using J
   rw[E]at U
   have hn0:=DR E
   have O:num 65536 (o.take 16)=v:=by
    have:=KV 65536 (o.take 16) (o.drop 16)
    rw[Z7,hn0,no,hv]at this
    omega
   have lt:(o.take 16).length=16:=by simp;omega
   refine⟨o.take 16,o,l++[{c:=ns .u64 (o.take 16)}],?_,⟨lt,fun x hx=>xo x (QG hx)⟩,by unfold nf;rw[O]⟩
   rw[Jf]
   simp only[f3I,fH,Qp,Qn]
   generalize Q5 16 o=R at *
   generalize J1=Z at *
   simp only[Lx,Qv,quiet,cK,↓pQ,reduceCtorEq,seval,-Qa,cL,cJ,hz,hf,h2,U,QA,lz,lt,Q7,QR,Zr,ZZ,Zi]
def bm{d:List Nat}(hd:d.length=32)(U:∀x∈d,x<2^44)(O:num 65536 d<65536^32):∃r,Zo T 149 [eV d]=some (eV r)/\Nm r/\nf r=Go.Fp.fp (num 65536 d):=by
 obtain⟨r,d',l',E,I,Y⟩:=PO _ d [] [] rfl hd U O
 refine⟨r,?_,I,Y⟩
 simp only[f3I,fH,Qp,Qn]at E
 have hz:=Vf
 have lz:=Kw
 have J:=I.len
 generalize J1=Z at *
 apply Zb (fn:=a86) rfl
 simp only[a86,Qv,quiet,cW,↓pW,reduceCtorEq,seval,-Qa,Jl,hz,E,Q7,QR,ZZ,Zi,QA,J]
 rfl
def Iq(hp:p.length=n)(E:q.length=n):vEq (some (Qc n true)) false (eV p) (eV q)=some (.bool (p==q)):=by
 unfold eV
 rw[aU,RV hp E]
 rfl
def qU(hp:p.length=n)(E:q.length=n):vEq (some (Qc n true)) true (eV p) (eV q)=some (.bool (!(p==q))):=by
 unfold eV
 rw[Dh,RV hp E]
 rfl
def SS(x y:Go.Fp.Fe):x + -y=x-y:=by grobner
def O5(x:Go.Fp.Fe):0-x = -x:=by grobner
def YZ:List Nat:=Qc 32 0
def aR:Qc 32 (Value.int .u64 0)=ns .u64 YZ:=rfl
def L7:YZ.length=32:=rfl
def abI(a b d:List Nat)(i:Int)(ex:Env):St:=⟨[(2,.pointer (0:Nat)),(3,.pointer (1:Nat)),(4,.pointer (2:Nat)),(5,.pointer (3:Nat)),(6,.int .i64 i)]++ex,[{c:=ns .u64 a},{c:=ns .u64 b},{c:=ns .u64 J1},{c:=ns .u64 d}],[]⟩
def PT(ha:Nm a)(hb:Nm b) :
  ∃d,Q4 T 0 (.block 0 (.loop Cy)) (abI a b YZ 0 [])=some (.normal,abI a b d 16 [(8,.bool false)])/\d.length=32/\(∀x∈d,x<2^44)/\num 65536 d=num 65536 a+num 65536 b:=by
 obtain⟨st,hl,o,rfl,E,J,I⟩:=QM (T:=T) (base:=0) (id:=0) (body:=Cy)
  (fun i st=>∃o:List Nat,st=abI a b o i []/\o.length=32/\(∀x∈o,x<2^44)/\(∀j,i<=j->j<16->o[j]?=some 0)/\num 65536 o=num 65536 (a.take i)+num 65536 (b.take i))
  (Q:=fun st=>∃o:List Nat,st=abI a b o 16 [(8,.bool false)]/\o.length=32/\(∀x∈o,x<2^44)/\num 65536 o=num 65536 a+num 65536 b)
  16 (s:=abI a b YZ 0 []) ⟨YZ,rfl,rfl,by decide,fun j _ hj=>by unfold YZ;rw[List.getElem?_replicate,if_pos qr],by simp[num];decide⟩
  (fun i st hi hs=>by
   obtain⟨o,rfl,E,J,I,h4⟩:=hs
   obtain⟨x,Z⟩:∃x,a[i]?=some x:=⟨_,Qg (by rw[ha.len];omega)⟩
   obtain⟨y,U⟩:∃y,b[i]?=some y:=⟨_,Qg (by rw[hb.len];omega)⟩
   have hx':=ha.lt x (Qw Z)
   have hy':=hb.lt y (Qw U)
   have n1:=Vj (B:=65536) (x+y) (I i (Qj _) hi)
   have s1:=JL .u64 o i (x+y)
   have Y:=Z4 (k := .u64) Z
   have O:=Z4 (k := .u64) U
   have l1:=ha.len
   have l2:=hb.len
   have w1:IntKind.i64.wrap ((i:Int)+1)=((i+1:Nat):Int):=Zm (b:=1) qr
   have w2:IntKind.u64.wrap ((x:Int)+(y:Int))=((x+y:Nat):Int):=Yw qr
   have e1:((i:Int)<16)=True:=wr
   have e2:((i:Int)<32)=True:=wr
   have e4:(i<=31)=True:=wr
   refine⟨abI a b (o.set i (x+y)) ((i+1:Nat):Int) [],?_,_,rfl,by rw[Qr];exact E,Yf J qr,?_,?_⟩
   ·generalize o.set i (x+y)=O1 at *
    generalize x+y=v at *
    generalize i+1=i1 at *
    simp only[abI,Cy,Qv,quiet,cW,↓pW,reduceCtorEq,seval,-Qa,Y,O,w1,w2,e1,e2,e4,s1,QA,E]
   ·intro j hj hj'
    rw[Ql qr]
    exact I j qr hj'
   ·rw[JY Z,JY U]
    rw[Zl]at n1
    omega)
  (fun st hs=>by
   obtain⟨o,rfl,E,J,I,h4⟩:=hs
   rw[Qo (by rw[ha.len];omega),Qo (by rw[hb.len];omega)]at h4
   refine⟨_,?_,o,rfl,E,J,h4⟩
   simp only[abI,Cy,Qv,quiet,cK,↓pQ,reduceCtorEq,seval,-Qa,cL])
 exact⟨o,hl,E,J,I⟩
def Rb(ha:Nm a)(hb:Nm b):∃r,Zo T 106 [eV a,eV b]=some (eV r)/\Nm r/\nf r=nf a+nf b:=by
 obtain⟨d,hd,I,h2,O⟩:=PT ha hb
 have hal:=ha.num_lt
 have hbl:=hb.num_lt
 obtain⟨r,hr,J,hf⟩:=bm I h2 (by
  rw[O]
  have e:(65536:Nat)^32=2^256*2^256:=ww
  rw[e]
  have:(2:Nat)<=2^256:=ww
  have:=ZG (2^256) this
  generalize(2:Nat)^256=M at *
  omega)
 refine⟨r,?_,J,by rw[hf,O,Go.Fp.Vg];rfl⟩
 simp only[abI,Qp,Qn]at hd
 have hz:=Vf
 have Y:=Kw
 have E:=aR
 have U:=L7
 have la:=ha.len
 have lb:=hb.len
 have lr:=J.len
 generalize J1=Z at *
 generalize YZ=Z2 at *
 apply Zb (fn:=a72) rfl
 simp only[a72,Qv,quiet,cW,↓pW,reduceCtorEq,seval,-Qa,hz,E,hd,hr,Q7,QR,Zr,ZZ,Zi,QA,I,lr,Y,ZY]
 rfl
def MI:Nm J1:=⟨rfl,by decide⟩
def Hz:num 65536 J1=0:=ww
def B0:nf a=0↔num 65536 a%Go.Fp.P=0:=by
 unfold nf
 rw[<-Go.Fp.bX,Go.Fp.RH,Nat.zero_mod]
def OI{v w:Nat}(hv:v<2^256)(hw:w<2^256):(dig 65536 16 v==dig 65536 16 w)=decide (v=w):=by
 by_cases h:v=w
 ·subst h;simp
 ·rw[decide_eq_false h,beq_eq_false_iff_ne.2]
  intro e
  have:=congrArg (num 65536) e
  rw[VD hv,VD hw]at this
  exact h this
def Pf:Go.Fp.P<2^256:=ww
def CW:0<Go.Fp.P:=ww
def EI(a:List Nat):(dig 65536 16 (num 65536 a%Go.Fp.P)==J1)=decide (nf a=0):=by
 have hz:J1=dig 65536 16 0:=ww
 have I:=Q3 (num 65536 a) CW
 have E:=Pf
 rw[hz,OI qr qr]
 by_cases h:nf a=0
 ·rw[decide_eq_true h,decide_eq_true (B0.1 h)]
 ·rw[decide_eq_false h,decide_eq_false (fun e=>h (B0.2 e))]
def PI{a:List Nat}(ha:Nm a):∃r,Zo T 107 [eV a]=some (eV r)/\Nm r/\nf r = -nf a:=by
 have hc:=Wg ha
 have hq:=EI a
 have h1:=Q3 (num 65536 a) CW
 have hPl:=Pf
 have Y:=Nm.dig (num 65536 a%Go.Fp.P)
 have I:=VD (v:=num 65536 a%Go.Fp.P) qr
 have hp:=Bq
 have hm:=TX VS Y (by rw[I,Wh];omega)
 have lP:=VS.len
 have O:=Y.len
 have la:=ha.len
 have hz:=Vf
 have J:=Kw
 have hf:=WZ
 rw[I,Wh]at hm
 have E:=Iq O J
 rw[hq]at E
 by_cases h:nf a=0
 ·rw[decide_eq_true h]at E
  refine⟨dig 65536 16 (num 65536 a%Go.Fp.P),?_,Y,?_⟩
  ·generalize dig 65536 16 (num 65536 a%Go.Fp.P)=C at *
   generalize J1=Z at *
   apply Zb (fn:=a73) rfl
   simp only[a73,Qv,quiet,cW,↓pW,reduceCtorEq,seval,-Qa,hz,hf,hc,E,Q7,QR,Zr,ZZ,Zi,QA,la,O,J,ZY]
   rfl
  ·unfold nf
   rw[I,Go.Fp.Yl]
   show nf a = - nf a
   rw[h];grobner
 ·rw[decide_eq_false h]at E
  have hR:=Nm.dig (Go.Fp.P-num 65536 a%Go.Fp.P)
  have U:=VD (v:=Go.Fp.P-num 65536 a%Go.Fp.P) qr
  refine⟨dig 65536 16 (Go.Fp.P-num 65536 a%Go.Fp.P),?_,hR,?_⟩
  ·have lR:=hR.len
   generalize dig 65536 16 (num 65536 a%Go.Fp.P)=C,dig 65536 16 (Go.Fp.P-num 65536 a%Go.Fp.P)=R at *
   generalize KO=PL at *
   generalize J1=Z at *
   apply Zb (fn:=a73) rfl
   simp only[a73,Qv,quiet,cW,↓pW,reduceCtorEq,seval,-Qa,hz,hf,hc,E,hp,hm,Q7,QR,Zr,ZZ,Zi,QA,la,O,lR,J,ZY]
   rfl
  ·show Go.Fp.fp (num 65536 _)=_
   rw[U,Go.Fp.oH qr,Go.Fp.Yl,Go.Fp.y5]
   exact O5 _
def I4(ha:Nm a)(hb:Nm b):∃r,Zo T 103 [eV a,eV b]=some (eV r)/\Nm r/\nf r=nf a-nf b:=by
 obtain⟨n,hn,hN,I⟩:=PI hb
 obtain⟨r,hr,J,E⟩:=Rb ha hN
 refine⟨r,?_,J,by rw[E,I,SS]⟩
 have hz:=Vf
 have O:=Kw
 have la:=ha.len
 have Y:=hb.len
 have U:=J.len
 generalize J1=Z at *
 apply Zb (fn:=a69) rfl
 simp only[a69,Qv,quiet,cW,↓pW,reduceCtorEq,seval,-Qa,hz,hn,hr,Q7,QR,Zr,ZZ,Zi,QA,la,Y,U,O,ZY]
 rfl
def Lw(a b d:List Nat)(i k:Int)(ex:Env):St:=⟨[(2,.pointer (0:Nat)),(3,.pointer (1:Nat)),(4,.pointer (2:Nat)),(5,.pointer (3:Nat)),(6,.int .i64 i),(7,.int .i64 k)]++ex,[{c:=ns .u64 a},{c:=ns .u64 b},{c:=ns .u64 J1},{c:=ns .u64 d}],[]⟩
def PJ{d:List Nat}{S:Nat}(ha:Nm a)(hb:Nm b)(hi:i<16)(hx:a[i]?=some x)(hd:d.length=32)(hM:∀x∈d,x<=S*4294967296)(hS:S<=256) :
  ∃E,Q4 T 0 (.block 2 (.loop C5)) (Lw a b d i 0 [])=some (.normal,Lw a b E i 16 [(13,.bool false)])/\E.length=32/\(∀x∈E,x<=(S+16)*4294967296)/\num 65536 E=num 65536 d+x*num 65536 b*65536^i:=by
 have hx':=ha.lt x (Qw hx)
 obtain⟨st,hl,E,rfl,J,I,U⟩:=QM (T:=T) (base:=0) (id:=2) (body:=C5)
  (fun k st=>∃E:List Nat,st=Lw a b E i k []/\E.length=32/\(∀x∈E,x<=(S+k)*4294967296)/\num 65536 E=num 65536 d+x*num 65536 (b.take k)*65536^i)
  (Q:=fun st=>∃E:List Nat,st=Lw a b E i 16 [(13,.bool false)]/\E.length=32/\(∀x∈E,x<=(S+16)*4294967296)/\num 65536 E=num 65536 d+x*num 65536 b*65536^i)
  16 (s:=Lw a b d i 0 []) ⟨d,rfl,hd,by simpa using hM,by simp[num]⟩
  (fun k st hk hs=>by
   obtain⟨E,rfl,J,I,U⟩:=hs
   obtain⟨y,Z⟩:∃y,b[k]?=some y:=⟨_,Qg (by rw[hb.len];omega)⟩
   obtain⟨v,hv⟩:∃y,E[i+k]?=some y:=⟨_,Qg qr⟩
   have hy':=hb.lt y (Qw Z)
   have hv':=I v (Qw hv)
   have hxy:x*y<=65535*65535:=Nat.mul_le_mul qr qr
   have hxc:=Z4 (k := .u64) hx
   have Y:=Z4 (k := .u64) Z
   have hvc:=Z4 (k := .u64) hv
   have l1:=ha.len
   have l2:=hb.len
   have e1:((k:Int)<16)=True:=wr
   have e3:((i:Int)<16)=True:=wr
   have w1:IntKind.i64.wrap ((k:Int)+1)=((k+1:Nat):Int):=Zm (b:=1) qr
   have w2:IntKind.i64.wrap ((i:Int)+(k:Int))=((i+k:Nat):Int):=Zm qr
   have w5:IntKind.u64.wrap ((x:Int)*(y:Int))=((x*y:Nat):Int):=W1 qr
   have w6:IntKind.u64.wrap ((v:Int)+((x*y:Nat):Int))=((v+x*y:Nat):Int):=Yw qr
   have O:=JL .u64 E (i+k) (v+x*y)
   have hn:=Vj (B:=65536) (v+x*y) hv
   refine⟨Lw a b (E.set (i+k) (v+x*y)) i ((k+1:Nat):Int) [],?_,E.set (i+k) (v+x*y),rfl,by rw[Qr];exact J,?_,?_⟩
   ·have e5:(((i+k:Nat):Int)<32)=True:=wr
    have e7:(i+k<=31)=True:=wr
    generalize E.set (i+k) (v+x*y)=D' at *
    generalize v+x*y=u at *
    generalize x*y=xy at *
    generalize i+k=j at *
    generalize k+1=k1 at *
    simp only[Lw,C5,Qv,quiet,cW,↓pW,reduceCtorEq,seval,-Qa,e1,e3,e5,e7,w1,w2,w5,w6,hxc,Y,hvc,O,QA,J]
   ·intro z hz
    rcases List.mem_or_eq_of_mem_set hz with h|h
    ·exact JG (I z h) (ZG _ (Nat.le_succ _))
    ·omega
   ·rw[JY Z]
    have e8:(v+x*y)*65536^(i+k)=v*65536^(i+k)+x*y*65536^k*65536^i:=by
     rw[Zl,ZI (x*y),<-JU,Xu k i]
    rw[VW,Zl,<-ZI x y]
    omega)
  (fun st hs=>by
   obtain⟨E,rfl,J,I,U⟩:=hs
   rw[Qo (by rw[hb.len];omega)]at U
   refine⟨_,?_,E,rfl,J,I,U⟩
   simp only[Lw,C5,Qv,quiet,cK,↓pQ,reduceCtorEq,seval,-Qa,cL])
 exact⟨E,hl,J,I,U⟩
def PN(ha:Nm a)(hb:Nm b) :
  ∃d,Q4 T 0 (.block 0 (.loop C4)) (abI a b YZ 0 [])=some (.normal,abI a b d 16 [(9,.bool false)])/\d.length=32/\(∀x∈d,x<2^44)/\num 65536 d=num 65536 a*num 65536 b:=by
 obtain⟨st,hl,o,rfl,O,J,E⟩:=QM (T:=T) (base:=0) (id:=0) (body:=C4)
  (fun i st=>∃(o:List Nat) (ex:Env),st=abI a b o i ex/\o.length=32/\(∀x∈o,x<=(i*16)*4294967296)/\num 65536 o=num 65536 (a.take i)*num 65536 b)
  (Q:=fun st=>∃o:List Nat,st=abI a b o 16 [(9,.bool false)]/\o.length=32/\(∀x∈o,x<2^44)/\num 65536 o=num 65536 a*num 65536 b)
  16 (s:=abI a b YZ 0 []) ⟨YZ,[],rfl,rfl,by decide,by simp[num];decide⟩
  (fun i st hi hs=>by
   obtain⟨o,ex,rfl,O,J,E⟩:=hs
   obtain⟨x,U⟩:∃x,a[i]?=some x:=⟨_,Qg (by rw[ha.len];omega)⟩
   obtain⟨Y,I,g1,g2,g3⟩:=PJ ha hb hi U O J qr
   simp only[Lw,Qp,Qn]at I
   have Z:IntKind.i64.wrap ((i:Int)+1)=((i+1:Nat):Int):=Zm (b:=1) qr
   have e1:((i:Int)<16)=True:=wr
   refine⟨abI a b Y ((i+1:Nat):Int) [],?_,Y,[],rfl,g1,?_,?_⟩
   ·simp only[abI,C4,Qv,quiet,cW,↓pW,reduceCtorEq,seval,-Qa,e1,Z,I]
   ·intro z hz
    exact JG (g2 z hz) (ZG _ qr)
   ·rw[g3,E,JY U,Zl,ZI,ZI,Zw (num 65536 b) (65536^i)])
  (fun st hs=>by
   obtain⟨o,ex,rfl,O,J,E⟩:=hs
   rw[Qo (by rw[ha.len];omega)]at E
   refine⟨_,?_,o,rfl,O,fun x U=>Ja (J x U) ww,E⟩
   simp only[abI,C4,Qv,quiet,cK,↓pQ,reduceCtorEq,seval,-Qa,cL])
 exact⟨o,hl,O,J,E⟩
def Ke(ha:Nm a)(hb:Nm b):∃r,Zo T 101 [eV a,eV b]=some (eV r)/\Nm r/\nf r=nf a*nf b:=by
 obtain⟨d,hd,O,h2,Y⟩:=PN ha hb
 have J:=ha.num_lt
 have I:=hb.num_lt
 obtain⟨r,hr,U,hf⟩:=bm O h2 (by
  rw[Y]
  have e:(65536:Nat)^32=2^256*2^256:=ww
  rw[e]
  exact Nat.mul_lt_mul'' J I)
 refine⟨r,?_,U,by rw[hf,Y,Go.Fp.Kh];rfl⟩
 simp only[abI,Qp,Qn]at hd
 have hz:=Vf
 have lz:=Kw
 have E:=aR
 have lz2:=L7
 have la:=ha.len
 have lb:=hb.len
 have lr:=U.len
 generalize J1=Z at *
 generalize YZ=Z2 at *
 apply Zb (fn:=a67) rfl
 simp only[a67,Qv,quiet,cW,↓pW,reduceCtorEq,seval,-Qa,hz,E,hd,hr,Q7,QR,Zr,ZZ,Zi,QA,O,lr,lz,ZY]
 rfl
end
section
attribute [local congr] Jw JD Jv JE Jk
variable{n a o y z k l x:List Nat}{p q:Go.Cv.Pt Go.Fp.P Go.Fp.d}{i w:Nat}{b m u s D N v:Go.Fp.Fe}{ex:Env}
def rpH(a n o:List Nat):List Ob:=[{c:=ns .u64 a},{c:=ns .u64 n},{c:=ns .u64 J1},{c:=ns .u64 o}]
def rpI(a n o:List Nat)(i:Int)(ex:Env):St:=⟨[(2,.pointer (0:Nat)),(3,.pointer (1:Nat)),(4,.pointer (2:Nat)),(5,.pointer (3:Nat)),(6,.int .i64 i)]++ex,rpH a n o,[]⟩
def rbI(a n o:List Nat)(i:Int)(w k:Nat)(ex:Env):St:=⟨[(2,.pointer (0:Nat)),(3,.pointer (1:Nat)),(4,.pointer (2:Nat)),(5,.pointer (3:Nat)),(6,.int .i64 i),(7,.int .u64 w),(8,.int .i64 k)]++ex,rpH a n o,[]⟩
def kJ(hi:i<256)(hw:w<65536) :
  Q4 T 0 (.block 2 (.loop Cr)) (rbI a n o i w 0 [])=some (.normal,rbI a n o i (w/2^(i%16)) (i%16) [(24,.bool false)]):=by
 have E:(i:Int).tmod 16=((i%16:Nat):Int):=rfl
 have h:=JB (T:=T) (base:=0) (id:=2) (body:=Cr) (fun k=>rbI a n o i (w/2^k) k []) (s':=rbI a n o i (w/2^(i%16)) (i%16) [(24,.bool false)]) (i%16)
  (fun k Y=>by
   have O:=Q3 i (by decide:0<16)
   have U:((k:Int)<((i%16:Nat):Int))=True:=wr
   have J:IntKind.i64.wrap ((k:Int)+1)=((k+1:Nat):Int):=Zm (b:=1) qr
   have hle:w/2^k<=w:=Jp _ _
   have I:IntKind.u64.wrap (((w/2^k:Nat):Int).tdiv 2)=((w/2^k/2:Nat):Int):=Wd (n:=w/2^k/2) qr
   rw[Zn,<-Zc]
   generalize w/2^k=v at *
   generalize v/2=u at *
   generalize i%16=m at *
   simp only[rbI,rpH,Cr,Qv,quiet,cW,↓pW,reduceCtorEq,seval,-Qa,U,E,J,I])
  (by
   generalize w/2^(i%16)=v at *
   generalize i%16=m at *
   simp only[rbI,rpH,Cr,Qv,quiet,cW,↓pW,reduceCtorEq,seval,-Qa,E])
 rw[Jg,JQ]at h
 exact h
def rH(ha:Nm a)(hn:Nm n)(hi:i<256)(ho:Nm o)(hp:nf o=Go.Fp.pow (nf a) (num 65536 n/2^(i+1))) :
  ∃r ex',Q4 T 0 Rx (rpI a n o i ex)=some (.normal,rpI a n r ((i:Int)-1) ex')/\Nm r/\nf r=Go.Fp.pow (nf a) (num 65536 n/2^i):=by
 obtain⟨w,hw⟩:∃w,n[i/16]?=some w:=⟨_,Qg (by rw[hn.len];omega)⟩
 have hw':=hn.lt w (Qw hw)
 have Z:=KL (B:=65536) ww hn.lt hw
 have J:=Z4 (k := .u64) hw
 have U:w/2^(i%16)%2=num 65536 n/2^i%2:=by
  rw[<-Z,show(65536:Nat)=2^16 from rfl,Ih (Q3 _ ww),ZK]
 obtain⟨r1,m1,g1,g2⟩:=Ke ho ho
 obtain⟨r2,m2,g3,g4⟩:=Ke g1 ha
 have hlt:=BQ (num 65536 n) i
 have O:num 65536 n/2^i=2*(num 65536 n/2^(i+1))+num 65536 n/2^i%2:=by
  rw[Zn,<-Zc]
  omega
 have hstep:=Nv (nf a) (num 65536 n/2^(i+1)) (num 65536 n/2^i%2) hlt
 rw[<-O,<-hp]at hstep
 have hb:=kJ (a:=a) (n:=n) (o:=r1) hi hw'
 simp only[rbI,rpH,Qp,Qn,Zx]at hb
 have w2:IntKind.i64.wrap ((i:Int).tdiv 16)=((i/16:Nat):Int):=wn (n:=i/16) qr
 have w3:IntKind.i64.wrap ((i:Int)-1)=(i:Int)-1:=Zd qr qr
 have Y:((w/2^(i%16):Nat):Int).tmod 2=((w/2^(i%16)%2:Nat):Int):=rfl
 have e1:((0:Int)<=(i:Int))=True:=wr
 have e3:(((i/16:Nat):Int)<16)=True:=wr
 have l0:=ha.len
 have l1:=hn.len
 have l2:=ho.len
 have l3:=g1.len
 have l4:=g3.len
 rw[U]at Y
 generalize hB:num 65536 n/2^i%2=B at *
 generalize w/2^(i%16)=wv at *
 by_cases I:B=1
 ·have E:((B:Int)==1)=true:=by rw[I];rfl
  rw[if_pos I]at hstep
  refine⟨r2,[],?_,g3,by rw[hstep,g4,g2]⟩
  simp only[rpI,rpH,Rx,Qv,quiet,cW,↓pW,reduceCtorEq,seval,-Qa,J,hb,w2,w3,Y,e1,e3,m1,m2,E,QR,Zr,ZZ,Zi,QA,Q7,l0,l2,l3,l4,ZY]
 ·have E:((B:Int)==1)=false:=by
   have:B=0:=qr
   rw[this];rfl
  rw[if_neg I]at hstep
  refine⟨r1,[],?_,g1,by rw[hstep,g2]⟩
  simp only[rpI,rpH,Rx,Qv,quiet,cW,↓pW,reduceCtorEq,seval,-Qa,J,hb,w2,w3,Y,e1,e3,m1,E,QR,Zr,ZZ,Zi,QA,Q7,l2,l3,ZY]
def I5:nf (Xn 1)=1:=by unfold nf;rw[Vk ww];rfl
def TW(ha:Nm a)(hn:Nm n):∃r,Zo T 151 [eV a,eV n]=some (eV r)/\Nm r/\nf r=Go.Fp.pow (nf a) (num 65536 n):=by
 have hK:=hn.num_lt
 obtain⟨st,hb,r,rfl,E,J⟩:=QM (T:=T) (base:=0) (id:=0) (body:=Rx)
  (fun j st=>∃(r:List Nat) (ex:Env),st=rpI a n r ((255:Int)-j) ex/\Nm r/\nf r=Go.Fp.pow (nf a) (num 65536 n/2^(256-j)))
  (Q:=fun st=>∃r:List Nat,st=rpI a n r (-1) [(11,.bool false)]/\Nm r/\nf r=Go.Fp.pow (nf a) (num 65536 n))
  256 (s:=rpI a n (Xn 1) 255 []) ⟨_,[],rfl,K6 1,by rw[I5,V8,Xk hK];rfl⟩
  (fun j st hj hs=>by
   obtain⟨r,ex,rfl,O,I⟩:=hs
   obtain⟨i,hi⟩:∃i,256-j=i+1:=⟨255-j,by omega⟩
   rw[hi]at I
   obtain⟨r',U,g1,g2,g3⟩:=rH (ex:=ex) ha hn (i:=i) qr O I
   rw[show(255:Int)-j=(i:Int) by omega]
   refine⟨_,g1,r',U,?_,g2,?_⟩
   ·rw[show(255:Int)-((j+1:Nat):Int)=(i:Int)-1 by omega]
   ·rw[show 256-(j+1)=i by omega];exact g3)
  (fun st hs=>by
   obtain⟨r,ex,rfl,O,I⟩:=hs
   rw[Qs,Jg,JQ]at I
   have e:((0:Int) <= -1)=False:=ww
   refine⟨_,?_,r,rfl,O,I⟩
   rw[show(255:Int)-((256:Nat):Int) = -1 by omega]
   simp only[rpI,rpH,Rx,Qv,quiet,cK,↓pQ,reduceCtorEq,seval,-Qa,cL,e])
 refine⟨r,?_,E,J⟩
 have hs:=Yg 1 ww
 have ls:=(K6 1).len
 have hz:=Vf
 have Y:=Kw
 have la:=ha.len
 have ln:=hn.len
 have lr:=E.len
 simp only[KR]at hs
 simp only[rpI,rpH,Qp,Qn]at hb
 generalize J1=Z at *
 generalize Xn 1=S at *
 apply Zb (fn:=a88) rfl
 simp only[a88,Qv,quiet,cW,↓pW,reduceCtorEq,seval,-Qa,hz,hs,hb,Q7,QR,Zr,ZZ,Zi,QA,lr,ls,Y,ZY]
 rfl
def Gk(ha:Nm a):∃r,Zo T 105 [eV a]=some (eV r)/\Nm r/\nf r=Go.Fp.iv (nf a):=by
 have hp:=Bq
 have hs:=Yg 2 ww
 have hm:=TX VS (K6 2) (by rw[Wh,Vk ww];decide)
 rw[Wh,Vk ww]at hm
 have I:=Nm.dig (Go.Fp.P-2)
 have hn:=VD (v:=Go.Fp.P-2) ww
 obtain⟨r,hr,O,J⟩:=TW ha I
 rw[hn]at J
 refine⟨r,?_,O,J⟩
 have hz:=Vf
 have U:=Kw
 have la:=ha.len
 have lp:=VS.len
 have ls:=(K6 2).len
 have lm:=I.len
 have Y:=O.len
 simp only[Xo]at hs
 generalize J1=Z at *
 generalize KO=PL at *
 generalize Xn 2=S,dig 65536 16 (Go.Fp.P-2)=E at *
 apply Zb (fn:=a71) rfl
 simp only[a71,Qv,quiet,cW,↓pW,reduceCtorEq,seval,-Qa,hz,hp,hs,hm,hr,Q7,QR,Zr,ZZ,Zi,QA,la,Y,U,ZY]
 rfl
def d_eq : -(Go.Fp.fp 121665)*Go.Fp.iv (Go.Fp.fp 121666)=Go.Fp.d:=by
 have E:Go.Fp.fp 121666≠0:=by decide +kernel
 have J:=Go.Fp.B4 E
 have I:Go.Fp.fp 121666*Go.Fp.d = - Go.Fp.fp 121665:=by decide +kernel
 refine Go.Fp.fld.cancel E ?_
 rw[I]
 generalize Go.Fp.iv (Go.Fp.fp 121666)=y at *
 generalize Go.Fp.fp 121666=x,Go.Fp.fp 121665=z at *
 clear E I
 grobner
def xj:∃r,Zo T 54 []=some (eV r)/\Nm r/\nf r=Go.Fp.d:=by
 have s1:=Yg 121665 ww
 have s2:=Yg 121666 ww
 obtain⟨n,hn,O,J⟩:=PI (K6 121665)
 obtain⟨v,hv,v1,v2⟩:=Gk (K6 121666)
 obtain⟨r,hr,E,I⟩:=Ke O v1
 refine⟨r,?_,E,?_⟩
 ·have hz:=Vf
  have U:=Kw
  have Y:=E.len
  simp only[Xo]at s1 s2
  generalize J1=Z at *
  generalize Xn 121665=S1,Xn 121666=S2 at *
  apply Zb (fn:=a36) rfl
  simp only[a36,Qv,quiet,cW,↓pW,reduceCtorEq,seval,-Qa,hz,s1,s2,hn,hv,hr,Q7,QR,Zr,ZZ,Zi,QA,Y,U,ZY]
  rfl
 ·have e1:nf (Xn 121665)=Go.Fp.fp 121665:=by unfold nf;rw[Vk ww]
  have e2:nf (Xn 121666)=Go.Fp.fp 121666:=by unfold nf;rw[Vk ww]
  rw[I,J,v2,e1,e2,d_eq]
def six(l:List Nat)(h:l.length=16):∃a0 a1 a2 a3 a4 a5 a6 a7 a8 Z Y U O J I E,l=[a0,a1,a2,a3,a4,a5,a6,a7,a8,Z,Y,U,O,J,I,E]:=by
 match l,h with
 |[a0,a1,a2,a3,a4,a5,a6,a7,a8,Z,Y,U,O,J,I,E],_=>exact⟨a0,a1,a2,a3,a4,a5,a6,a7,a8,Z,Y,U,O,J,I,E,rfl⟩
def tL(x y z:List Nat):List Nat:=x++(y++z)
def Bl(I:x.length=16)(E:y.length=16)(hz:z.length=16):(tL x y z).length=48:=by simp[tL,I,E,hz]
def tri(I:x.length=16)(E:y.length=16)(hz:z.length=16) :
  Q5 16 (ns .u64 (tL x y z))=ns .u64 x/\Q5 16 (ZT 16 (ns .u64 (tL x y z)))=ns .u64 y/\Q5 16 (ZT 32 (ns .u64 (tL x y z)))=ns .u64 z:=by
 obtain⟨a0,a1,a2,a3,a4,a5,a6,a7,a8,a9,a10,a11,a12,a13,a14,a15,rfl⟩:=six _ I
 obtain⟨b0,b1,b2,b3,b4,b5,b6,b7,b8,b9,b10,b11,b12,b13,b14,b15,rfl⟩:=six _ E
 obtain⟨c0,c1,c2,c3,c4,c5,c6,c7,c8,c9,c10,Z,Y,U,O,J,rfl⟩:=six _ hz
 exact⟨rfl,rfl,rfl⟩
def KS:List Nat:=Qc 48 0
def MJ:Qc 48 (Value.int .u64 0)=ns .u64 KS:=rfl
def BX:KS.length=48:=rfl
def oQ(I:x.length=16)(E:y.length=16)(hz:z.length=16):fillL (ns .u64 KS) [(0,16,eV x),(16,16,eV y),(32,16,eV z)]=some (ns .u64 (tL x y z)):=by
 obtain⟨a0,a1,a2,a3,a4,a5,a6,a7,a8,a9,a10,a11,a12,a13,a14,a15,rfl⟩:=six _ I
 obtain⟨b0,b1,b2,b3,b4,b5,b6,b7,b8,b9,b10,b11,b12,b13,b14,b15,rfl⟩:=six _ E
 obtain⟨c0,c1,c2,c3,c4,c5,c6,c7,c8,c9,c10,Z,Y,U,O,J,rfl⟩:=six _ hz
 rfl
def y6(E:y.length=16)(hz:z.length=16):fillL (ns .u64 KS) [(16,16,eV y),(32,16,eV z)]=some (ns .u64 (tL J1 y z)):=by
 obtain⟨b0,b1,b2,b3,b4,b5,b6,b7,b8,b9,b10,b11,b12,b13,b14,b15,rfl⟩:=six _ E
 obtain⟨c0,c1,c2,c3,c4,c5,c6,c7,c8,c9,Z,Y,U,O,J,I,rfl⟩:=six _ hz
 rfl
structure RRep(x y z:List Nat)(p:Go.Cv.Pt Go.Fp.P Go.Fp.d):Prop where
 nx:Nm x
 ny:Nm y
 nz:Nm z
 ne:nf z≠0
 x:nf x=p.x*nf z
 y:nf y=p.y*nf z
def RP(l:List Nat)(p:Go.Cv.Pt Go.Fp.P Go.Fp.d):Prop:=∃x y z,l=tL x y z/\RRep x y z p
def RP.len{l:List Nat}{p:Go.Cv.Pt Go.Fp.P Go.Fp.d}(h:RP l p):l.length=48:=by
 obtain⟨x,y,z,rfl,h⟩:=h
 exact Bl h.nx.len h.ny.len h.nz.len
def fe_m1(b D:Go.Fp.Fe):b-D*b=b*(1-D):=by grobner
def fe_m2(b D:Go.Fp.Fe):b+D*b=b*(1+D):=by grobner
def sum_x{a q w:Go.Fp.Fe}(hs:s*(1+D)=N)(hb:b=a*a)
 (hm:m=b-D*b) (E:q=b+D*b) (hw:w=N*a):a*m*w=s*(m*q):=by
  subst hw hm E hb
  rw[<-hs]
  clear hs
  grobner
def sum_y{a q:Go.Fp.Fe}(hs:s*(1-D)=N)(hb:b=a*a)
 (hm:m=b-D*b) (E:q=b+D*b):a*q*(N*a)=s*(m*q):=by
  subst hm E hb
  rw[<-hs]
  clear hs
  grobner
def kK{x1 y1 z1 x2 y2 z2:Go.Fp.Fe}(n1:z1≠0)(n2:z2≠0)(U:x1=p.x*z1)(J:y1=p.y*z1)(O:x2=q.x*z2)(I:y2=q.y*z2)
 {a c e g w:Go.Fp.Fe} (ha:a=z1*z2) (hb:b=a*a) (hc:c=x1*x2) (he:e=y1*y2) (hg:g=Go.Fp.d*(c*e)) (hm:m=b-g) (hu:u=b+g) (hw:w=(x1+y1)*(x2+y2)-c-e) :
    m*u≠0/\a*m*w=(Xw p q).x*(m*u)/\a*u*(e+c)=(Xw p q).y*(m*u):=by
  have F:=Go.Fp.fld
  have hP:=F.denP p.on q.on
  have hM:=F.denM p.on q.on
  have sx:=Go.Cv.Hy Go.Fp.fld p q
  have sy:=Go.Cv.Hx Go.Fp.fld p q
  have hx:(Xw p q).x*(1+Go.Fp.d*p.x*q.x*p.y*q.y)=p.x*q.y+q.x*p.y:=sx
  have hy:(Xw p q).y*(1-Go.Fp.d*p.x*q.x*p.y*q.y)=p.y*q.y+p.x*q.x:=sy
  clear sx sy
  generalize(Xw p q).x=s1,(Xw p q).y=s2 at *
  generalize p.x=px at *
  generalize p.y=py at *
  generalize q.x=qx at *
  generalize q.y=qy at *
  generalize Go.Fp.d=d at *
  have an:a≠0:=by rw[ha];exact F.mul_ne n1 n2
  have bn:b≠0:=by rw[hb];exact F.mul_ne an an
  have E:g=d*px*qx*py*qy*b:=by
    subst U J O I hc he hb ha
    rw[hg]
    clear hg hm hu hw hP hM hx hy n1 n2 an bn F
    grobner
  have hwa:w=(px*qy+qx*py)*a:=by
    subst U J O I hc he ha
    rw[hw]
    clear hg hm hu hw hP hM hx hy n1 n2 an bn F E hb
    grobner
  have hec:e+c=(py*qy+px*qx)*a:=by
    subst U J O I hc he ha
    clear hg hm hu hw hP hM hx hy n1 n2 an bn F E hb hwa
    grobner
  have Z:m=b-d*px*qx*py*qy*b:=by rw[hm,E]
  have Y:u=b+d*px*qx*py*qy*b:=by rw[hu,E]
  generalize hD:d*px*qx*py*qy=D at *
  refine⟨?_,?_,?_⟩
  · have e1:m=b*(1-D):=by rw[Z];exact fe_m1 _ _
    have e2:u=b*(1+D):=by rw[Y];exact fe_m2 _ _
    rw[e1,e2]
    exact F.mul_ne (F.mul_ne bn hM) (F.mul_ne bn hP)
  · exact sum_x hx hb Z Y hwa
  · rw[hec]
    exact sum_y hy hb Z Y
def IA{l1 l2 dl:List Nat}(I:RP l1 p)(E:RP l2 q)(Nd:Nm dl)(hd:nf dl=Go.Fp.d):∃r,Zo T 53 [eV l1,eV l2,eV dl]=some (eV r)/\RP r (Xw p q):=by
 obtain⟨x1,y1,z1,rfl,I⟩:=I
 obtain⟨x2,y2,z2,rfl,E⟩:=E
 obtain⟨a,va,Na,fa⟩:=Ke I.nz E.nz
 obtain⟨b,vb,Nb,fb⟩:=Ke Na Na
 obtain⟨c,vc,Nc,fc⟩:=Ke I.nx E.nx
 obtain⟨e,ve,Ne,fe'⟩:=Ke I.ny E.ny
 obtain⟨ce,vce,Nce,fce⟩:=Ke Nc Ne
 obtain⟨g,vg,Ng,fg⟩:=Ke Nd Nce
 obtain⟨m,vm,Nmm,fm⟩:=I4 Nb Ng
 obtain⟨u,vu,Nu,fu⟩:=Rb Nb Ng
 obtain⟨s1,vs1,Ns1,fs1⟩:=Rb I.nx I.ny
 obtain⟨s2,U,Ns2,fs2⟩:=Rb E.nx E.ny
 obtain⟨s3,O,Ns3,fs3⟩:=Ke Ns1 Ns2
 obtain⟨s4,J,Ns4,fs4⟩:=I4 Ns3 Nc
 obtain⟨w,vw,Nw,fw⟩:=I4 Ns4 Ne
 obtain⟨am,vam,Nam,fam⟩:=Ke Na Nmm
 obtain⟨X,vX,NX,fX⟩:=Ke Nam Nw
 obtain⟨au,vau,Nau,fau⟩:=Ke Na Nu
 obtain⟨ec,vec,Nec,fec⟩:=Rb Ne Nc
 obtain⟨Y,vY,NY,fY⟩:=Ke Nau Nec
 obtain⟨Z,vZ,NZ,fZ⟩:=Ke Nmm Nu
 obtain⟨g1,g2,g3⟩:=kK (w:=nf w) (g:=nf g) I.ne E.ne I.x I.y E.x E.y fa fb fc fe' (by rw[fg,hd,fce]) fm fu (by rw[fw,fs4,fs3,fs1,fs2])
 refine⟨tL X Y Z,?_,X,Y,Z,rfl,NX,NY,NZ,by rw[fZ];exact g1,by rw[fX,fam,fZ];exact g2,by rw[fY,fau,fec,fZ];exact g3⟩
 obtain⟨u0,u1,u2⟩:=tri I.nx.len I.ny.len I.nz.len
 obtain⟨v0,v1,v2⟩:=tri E.nx.len E.ny.len E.nz.len
 have L1:=Bl I.nx.len I.ny.len I.nz.len
 have L2:=Bl E.nx.len E.ny.len E.nz.len
 have L3:=Bl NX.len NY.len NZ.len
 have hf:=oQ NX.len NY.len NZ.len
 have hz:=Vf
 have lz:=Kw
 have hz2:=MJ
 have lz2:=BX
 have ld:=Nd.len
 have la:=Na.len
 have lb:=Nb.len
 have lc:=Nc.len
 have le:=Ne.len
 have lg:=Ng.len
 have lm:=Nmm.len
 have lu:=Nu.len
 have lw:=Nw.len
 generalize J1=Z16 at *
 generalize KS=Z48 at *
 generalize tL X Y Z=R,tL x1 y1 z1=P1,tL x2 y2 z2=P2 at *
 apply Zb (fn:=a35) rfl
 simp only[a35,Qv,quiet,cW,↓pW,reduceCtorEq,seval,-Qa,hz,hz2,u0,u1,u2,v0,v1,v2,hf,va,vb,vc,ve,vce,vg,vm,vu,vs1,U,O,J,vw,vam,vX,vau,vec,vY,vZ,Q7,QR,Zr,ZZ,Zi,QA,L1,L2,L3,lz,lz2,ld,la,lb,lc,le,lg,lm,lu,lw,ZY]
 rfl
def ru:∃r,Zo T 108 []=some (eV r)/\RP r Ki:=by
 have hs:=Yg 1 ww
 have E:=K6 1
 have O:=I5
 have Y:nf J1=0:=by unfold nf;rw[Hz];rfl
 refine⟨tL J1 (Xn 1) (Xn 1),?_,_,_,_,rfl,MI,E,E,by rw[O];exact Go.Fp.WS,by rw[Y,O];show(0:Go.Fp.Fe)=0*1;grobner,by rw[O];show(1:Go.Fp.Fe)=1*1;grobner⟩
 have U:=y6 E.len E.len
 have J:=MJ
 have I:=BX
 have L:=Bl MI.len E.len E.len
 simp only[KR]at hs
 generalize tL J1 (Xn 1) (Xn 1)=R at *
 generalize Xn 1=S at *
 generalize KS=Z at *
 apply Zb (fn:=a74) rfl
 simp only[a74,Qv,quiet,cW,↓pW,reduceCtorEq,seval,-Qa,J,hs,U,Q7,QR,Zr,ZZ,Zi,QA,L,I,ZY]
 rfl
def ruH(k P o D:List Nat):List Ob:=[{c:=u8s k},{c:=ns .u64 P},{c:=ns .u64 KS},{c:=ns .u64 o},{c:=ns .u64 D}]
def ruI(k P o D:List Nat)(i:Int)(ex:Env):St:=⟨[(2,.pointer (0:Nat)),(3,.pointer (1:Nat)),(4,.pointer (2:Nat)),(5,.pointer (3:Nat)),(6,.pointer (4:Nat)),(7,.int .i64 i)]++ex,ruH k P o D,[]⟩
def ruB(k P o D:List Nat)(i:Int)(w j:Nat)(ex:Env):St:=⟨[(2,.pointer (0:Nat)),(3,.pointer (1:Nat)),(4,.pointer (2:Nat)),(5,.pointer (3:Nat)),(6,.pointer (4:Nat)),(7,.int .i64 i),(8,.int .i64 w),(9,.int .i64 j)]++ex,ruH k P o D,[]⟩
def wX{P D:List Nat}(hi:i<256)(hw:w<256) :
  Q4 T 0 (.block 2 (.loop CP)) (ruB k P o D i w 0 [])=some (.normal,ruB k P o D i (w/2^(i%8)) (i%8) [(24,.bool false)]):=by
 have E:(i:Int).tmod 8=((i%8:Nat):Int):=rfl
 have h:=JB (T:=T) (base:=0) (id:=2) (body:=CP) (fun j=>ruB k P o D i (w/2^j) j []) (s':=ruB k P o D i (w/2^(i%8)) (i%8) [(24,.bool false)]) (i%8)
  (fun j Y=>by
   have O:=Q3 i (by decide:0<8)
   have U:((j:Int)<((i%8:Nat):Int))=True:=wr
   have J:IntKind.i64.wrap ((j:Int)+1)=((j+1:Nat):Int):=Zm (b:=1) qr
   have hle:w/2^j<=w:=Jp _ _
   have I:IntKind.i64.wrap (((w/2^j:Nat):Int).tdiv 2)=((w/2^j/2:Nat):Int):=wn (n:=w/2^j/2) qr
   rw[Zn,<-Zc]
   generalize w/2^j=v at *
   generalize v/2=u at *
   generalize i%8=m at *
   simp only[ruB,ruH,CP,Qv,quiet,cW,↓pW,reduceCtorEq,seval,-Qa,U,E,J,I])
  (by
   generalize w/2^(i%8)=v at *
   generalize i%8=m at *
   simp only[ruB,ruH,CP,Qv,quiet,cW,↓pW,reduceCtorEq,seval,-Qa,E])
 rw[Jg,JQ]at h
 exact h
def rD{P D:List Nat}(lk:k.length=32)(xk:∀x∈k,x<256)(hi:i<256)(U:RP P p)(ho:RP o q)(ND:Nm D)(hD:nf D=Go.Fp.d) :
  ∃P' o',Q4 T 0 R0 (ruI k P o D i ex)=some (.normal,ruI k P' o' D ((i+1:Nat):Int) [])/\RP P' (Xw p p)/\RP o' (if num 256 k/2^i%2=1 then Xw q p else q):=by
 obtain⟨w,hw⟩:∃w,k[i/8]?=some w:=⟨_,Qg qr⟩
 have hw':=xk w (Qw hw)
 have Z:=KL (B:=256) ww xk hw
 have J:=ZN hw
 have O:w/2^(i%8)%2=num 256 k/2^i%2:=by
  rw[<-Z,show(256:Nat)=2^8 from rfl,Ih (Q3 _ ww),ZK]
 obtain⟨r1,m1,g1⟩:=IA ho U ND hD
 obtain⟨r2,m2,g2⟩:=IA U U ND hD
 have hb:=wX (k:=k) (P:=P) (o:=o) (D:=D) hi hw'
 simp only[ruB,ruH,Qp,Qn,Zx]at hb
 have hlt:=BQ (num 256 k) i
 have w0:IntKind.i64.wrap (w:Int)=(w:Int):=wn qr
 have w2:IntKind.i64.wrap ((i:Int).tdiv 8)=((i/8:Nat):Int):=wn (n:=i/8) qr
 have w3:IntKind.i64.wrap ((i:Int)+1)=((i+1:Nat):Int):=Zm (b:=1) qr
 have Y:((w/2^(i%8):Nat):Int).tmod 2=((w/2^(i%8)%2:Nat):Int):=rfl
 have e1:((i:Int)<256)=True:=wr
 have e3:(((i/8:Nat):Int)<32)=True:=wr
 have l1:=U.len
 have l2:=ho.len
 have l3:=g1.len
 have l4:=g2.len
 have l5:=ND.len
 rw[O]at Y
 generalize hB:num 256 k/2^i%2=B at *
 generalize w/2^(i%8)=wv at *
 by_cases I:B=1
 ·have E:((B:Int)==1)=true:=by rw[I];rfl
  rw[if_pos I]
  refine⟨r2,r1,?_,g2,g1⟩
  simp only[ruI,ruH,R0,Qv,quiet,cW,↓pW,reduceCtorEq,seval,-Qa,J,hb,w0,w2,w3,Y,e1,e3,m1,m2,E,QR,Zr,ZZ,Zi,QA,Q7,l1,l2,l3,l4,l5,ZY]
 ·have E:((B:Int)==1)=false:=by
   have:B=0:=qr
   rw[this];rfl
  rw[if_neg I]
  refine⟨r2,o,?_,g2,ho⟩
  simp only[ruI,ruH,R0,Qv,quiet,cW,↓pW,reduceCtorEq,seval,-Qa,J,hb,w0,w2,w3,Y,e1,e3,m2,E,QR,Zr,ZZ,Zi,QA,Q7,l1,l4,l5,ZY]
def dA(p:Go.Cv.Pt Go.Fp.P Go.Fp.d):J2 1 p=p:=Go.Cv.mul_one Go.Fp.fld p
def Fi(a b:Nat)(p:Go.Cv.Pt Go.Fp.P Go.Fp.d):J2 (a+b) p=Xw (J2 a p) (J2 b p):=Go.Cv.mul_add Go.Fp.fld a b p
def Bs{k:List Nat}(hl:RP l p)(lk:k.length=32)(Z:∀x∈k,x<256):∃r,Zo T 48 [.agg (u8s k).toArray,eV l]=some (eV r)/\RP r (J2 (num 256 k) p):=by
 have hK:=num_lt Z
 rw[lk,show(256:Nat)^32=2^256 from by rw[show(256:Nat)=2^8 from rfl,<-Jj]]at hK
 obtain⟨z,hz,rz⟩:=ru
 obtain⟨D,hD,ND,fD⟩:=xj
 obtain⟨st,hb,P',r,rfl,hP',hr⟩:=QM (T:=T) (base:=0) (id:=0) (body:=R0)
  (fun i st=>∃(P o:List Nat) (ex:Env),st=ruI k P o D i ex/\RP P (J2 (2^i) p)/\RP o (J2 (num 256 k%2^i) p))
  (Q:=fun st=>∃P o:List Nat,st=ruI k P o D 256 [(13,.bool false)]/\P.length=48/\RP o (J2 (num 256 k) p))
  256 (s:=ruI k l z D 0 []) ⟨l,z,[],rfl,by rw[Jg,dA];exact hl,by rw[Jg,Nat.mod_one];exact rz⟩
  (fun i st hi hs=>by
   obtain⟨P,o,ex,rfl,Y,E⟩:=hs
   obtain⟨P',o',g1,g2,I⟩:=rD (ex:=ex) lk Z hi Y E ND fD
   refine⟨_,g1,P',o',[],rfl,?_,?_⟩
   ·rw[Zn,Nat.mul_two,Fi];exact g2
   ·have hm:num 256 k%2^(i+1)=num 256 k%2^i+2^i*(num 256 k/2^i%2):=Nat.mod_pow_succ
    have hlt:=BQ (num 256 k) i
    rw[hm]
    by_cases U:num 256 k/2^i%2=1
    ·rw[if_pos U]at I
     rw[U,Xy,Fi];exact I
    ·rw[if_neg U]at I
     rw[show num 256 k/2^i%2=0 by omega,UQ,ZM];exact I)
  (fun st hs=>by
   obtain⟨P,o,ex,rfl,Y,E⟩:=hs
   rw[Q6 hK]at E
   refine⟨_,?_,P,o,rfl,Y.len,E⟩
   simp only[ruI,ruH,R0,Qv,quiet,cK,↓pQ,reduceCtorEq,seval,-Qa,cL])
 refine⟨r,?_,hr⟩
 have O:=MJ
 have J:=BX
 have l1:=hl.len
 have l2:=rz.len
 have l3:=ND.len
 have l4:=hr.len
 simp only[ruI,ruH,Qp,Qn]at hb
 generalize KS=Z48 at *
 apply Zb (fn:=a38) rfl
 simp only[a38,Qv,quiet,cW,↓pW,reduceCtorEq,seval,-Qa,O,hz,hD,hb,Q8,Q7,QR,Zr,ZZ,Zi,QA,l2,l3,l4,J,ZY]
 rfl
def nM(E:l.length=32)(h:∀x∈l,x<256):l=dig 256 32 (num 256 l):=by
 have:=YN (B:=256) ww h
 rw[E]at this
 exact this.symm
def qX{v:Nat}(hv:v<2^255):∃w,(dig 256 32 v)[31]?=some w/\w<128/\(dig 256 32 v).set 31 (w+128)=dig 256 32 (v+2^255):=by
 obtain⟨w,hw⟩:∃w,(dig 256 32 v)[31]?=some w:=⟨_,Qg (by rw[Ze];decide)⟩
 have I:w=v/256^31%256:=by rw[Kc ww]at hw;exact(JJ hw).symm
 have E:(256:Nat)^31=452312848583266388373324160190187140051835877600158453279131187530910662656:=ww
 have J:(256:Nat)^32=115792089237316195423570985008687907853269984665640564039457584007913129639936:=ww
 have e255:(2:Nat)^255=57896044618658097711785492504343953926634992332820282019728792003956564819968:=ww
 have hw128:w<128:=by
  rw[E]at I
  rw[e255]at hv
  omega
 refine⟨w,hw,hw128,?_⟩
 have hlt:∀x∈(dig 256 32 v).set 31 (w+128),x<256:=Yf (fun x O=>Vt ww O) qr
 refine(nM (by rw[Qr,Ze]) hlt).trans (congrArg (dig 256 32) ?_)
 have hs:=Vj (B:=256) (w+128) hw
 have hn:num 256 (dig 256 32 v)=v:=by
  rw[Kf ww]
  refine Q6 ?_
  rw[J]
  rw[e255]at hv
  omega
 rw[hn,E]at hs
 rw[e255]
 omega
def MY{p:Go.Cv.Pt Go.Fp.P Go.Fp.d}(h:RP l p):Zo T 47 [eV l]=some (.agg (u8s (enc p)).toArray):=by
 obtain⟨x,y,z,rfl,h⟩:=h
 obtain⟨i,vi,Ni,fi⟩:=Gk h.nz
 obtain⟨a,va,Na,fa⟩:=Ke h.ny Ni
 obtain⟨b,vb,Nb,fb⟩:=Ke h.nx Ni
 have hinv:=Go.Fp.B4 h.ne
 have fa':nf a=p.y:=by rw[fa,fi,h.y];grobner
 have fb':nf b=p.x:=by rw[fb,fi,h.x];grobner
 have k1:=Dt Na
 have k2:=Dt Nb
 rw[fa']at k1
 rw[fb']at k2
 obtain⟨u0,u1,u2⟩:=tri h.nx.len h.ny.len h.nz.len
 have L1:=Bl h.nx.len h.ny.len h.nz.len
 have li:=Ni.len
 have lk:(dig 256 32 p.y.val).length=32:=Ze _ _ _
 have lj:(dig 256 32 p.x.val).length=32:=Ze _ _ _
 have lz:=Ze 256 32 0
 have hz:=gI
 have h0:(dig 256 32 p.x.val)[0]?=some (p.x.val%256):=by rw[Kc ww,Jg,JQ]
 have U:=ZN h0
 have e0:((p.x.val%256:Nat):Int).tmod 2=((p.x.val%2:Nat):Int):=by
  have:p.x.val%256%2=p.x.val%2:=qr
  rw[<-this];rfl
 obtain⟨w,hw,hw',AM⟩:=qX (MP p.y)
 have hwc:=ZN hw
 have J:=Xg (dig 256 32 p.y.val) 31 (w+128)
 rw[AM]at J
 have O:IntKind.u8.wrap ((w:Int)+128)=((w+128:Nat):Int):=w8n (n:=w+128) qr
 have lE:=Ze 256 32 (p.y.val+2^255)
 generalize tL x y z=P1,dig 256 32 0=Z at *
 by_cases ho:p.x.val%2=1
 ·have hbq:((p.x.val%2:Nat):Int)==1:=by rw[ho];rfl
  have I:(((p.x.val%2:Nat):Int)==1)=true:=hbq
  have he:enc p=dig 256 32 (p.y.val+2^255):=by rw[enc,DI,ho,Xa]
  rw[he]
  generalize dig 256 32 (p.y.val+2^255)=E,dig 256 32 p.y.val=Y,dig 256 32 p.x.val=X at *
  generalize p.x.val%2=par at *
  generalize p.x.val%256=x0 at *
  apply Zb (fn:=a33) rfl
  simp only[a33,Qv,quiet,cW,↓pW,reduceCtorEq,seval,-Qa,hz,u0,u1,u2,vi,va,vb,k1,k2,U,e0,I,hwc,O,J,Q8,Q7,QR,Zr,ZZ,Zi,QA,Qq,lk,lj,li,lz,lE,L1,ZY]
  rfl
 ·have I:(((p.x.val%2:Nat):Int)==1)=false:=by
   rw[show p.x.val%2=0 by omega];rfl
  have he:enc p=dig 256 32 p.y.val:=by rw[enc,DI,show p.x.val%2=0 by omega,KA,ZM]
  rw[he]
  generalize dig 256 32 p.y.val=Y,dig 256 32 p.x.val=X at *
  generalize p.x.val%2=par at *
  generalize p.x.val%256=x0 at *
  apply Zb (fn:=a33) rfl
  simp only[a33,Qv,quiet,cW,↓pW,reduceCtorEq,seval,-Qa,hz,u0,u1,u2,vi,va,vb,k1,k2,U,e0,I,Q8,Q7,QR,Zr,ZZ,Zi,QA,Qq,lk,lj,li,lz,L1,ZY]
  rfl
def hmI(n:List Nat)(i:Int)(c:Nat)(j:Int)(ex:Env):St:=⟨[(0,.pointer (0:Nat)),(1,.pointer (1:Nat)),(2,.int .i64 i),(3,.int .u64 c),(4,.int .i64 j)]++ex,[{c:=ns .u64 J1},{c:=ns .u64 n}],[]⟩
def nY{i:Int}(hn:Nm n) :
  Q4 T 0 (.block 2 (.loop Cq)) (hmI n i 0 15 [])=some (.normal,hmI (dig 65536 16 (num 65536 n/2)) i (num 65536 n%2) (-1) [(16,.bool false)]):=by
 have hD:Nm (dig 65536 16 (num 65536 n/2)):=Nm.dig _
 obtain⟨D,O⟩:∃D,D=dig 65536 16 (num 65536 n/2):=⟨_,rfl⟩
 rw[<-O]at hD ⊢
 have hlt:=hn.num_lt
 obtain⟨st,hb,rfl⟩:=QM (T:=T) (base:=0) (id:=2) (body:=Cq)
  (fun j st=>st=hmI (n.take (16-j)++D.drop (16-j)) i (num 65536 n/65536^(16-j)%2) ((15:Int)-j) [])
  (Q:=fun st=>st=hmI D i (num 65536 n%2) (-1) [(16,.bool false)])
  16 (s:=hmI n i 0 15 []) (by
   rw[V8,Qo (by rw[hn.len];omega),ZH (by rw[hD.len];omega),QF,Xk hlt];rfl)
  (fun j st hj hs=>by
   subst hs
   obtain⟨m,hm⟩:∃m,16-j=m+1:=⟨15-j,by omega⟩
   rw[hm,show(15:Int)-j=(m:Int) by omega,show 16-(j+1)=m by omega,show(15:Int)-((j+1:Nat):Int)=(m:Int)-1 by omega]
   refine⟨_,?_,rfl⟩
   obtain⟨x,Z⟩:∃x,n[m]?=some x:=⟨_,Qg (by rw[hn.len];omega)⟩
   have hxv:=KL (B:=65536) ww hn.lt Z
   obtain⟨c,hc⟩:∃c,c=num 65536 n/65536^(m+1)%2:=⟨_,rfl⟩
   rw[<-hc]
   have hc2:num 65536 n/65536^m/65536%2=c:=by rw[hc,Zn,Zc]
   have U:(n.take (m+1)++D.drop (m+1))[m]?=some x:=by
    rw[Qb (by rw[Q0,hn.len];omega),QN,if_pos qr];exact Z
   have I:D[m]?=some ((x+c*65536)/2):=by
    rw[O,Kc qr]
    congr 1
    rw[Zc,Zw 2,<-Zc]
    generalize num 65536 n/65536^m=q at *
    omega
   have J:num 65536 n/65536^m%2=(x+c*65536)%2:=by
    generalize num 65536 n/65536^m=q at *
    omega
   rw[J]
   have hstep:(n.take (m+1)++D.drop (m+1)).set m ((x+c*65536)/2)=n.take m++D.drop m:=by
    rw[Xd _ _ (by rw[Q0,hn.len];omega),Zh,Z]
    rw[Q1 _ _ (by rw[Q0];omega)]
    have e:(n.take m).length=m:=by rw[Q0,hn.len];omega
    rw[e,Qs,ZJ (i:=m),I]
    simp
   have E:=JL .u64 (n.take (m+1)++D.drop (m+1)) m ((x+c*65536)/2)
   rw[hstep]at E
   have hlen:(n.take (m+1)++D.drop (m+1)).length=16:=by rw[Qh,Q0,QD,hn.len,hD.len];omega
   have Y:=Z4 (k := .u64) U
   have hcb:c<2:=by rw[hc];exact Q3 _ ww
   have w1:IntKind.i64.wrap ((m:Int)-1)=(m:Int)-1:=Zd qr qr
   have w2:IntKind.u64.wrap ((c:Int)*65536)=((c*65536:Nat):Int):=W1 (b:=65536) qr
   have w3:IntKind.u64.wrap ((x:Int)+((c*65536:Nat):Int))=((x+c*65536:Nat):Int):=Yw qr
   have w4:IntKind.u64.wrap (((x+c*65536:Nat):Int).tdiv 2)=(((x+c*65536)/2:Nat):Int):=Wd (n:=(x+c*65536)/2) qr
   have w5:((x+c*65536:Nat):Int).tmod 2=(((x+c*65536)%2:Nat):Int):=rfl
   have e1:((0:Int)<=(m:Int))=True:=wr
   have e2:((m:Int)<16)=True:=wr
   have e4:(m<=15)=True:=wr
   clear hc hc2 J I hstep
   generalize n.take (m+1)++D.drop (m+1)=A1,n.take m++D.drop m=A2 at *
   generalize(x+c*65536)/2=u at *
   generalize(x+c*65536)%2=u2 at *
   generalize x+c*65536=v at *
   generalize c*65536=v2 at *
   simp only[hmI,Cq,Qv,quiet,cW,↓pW,reduceCtorEq,seval,-Qa,Y,w1,w2,w3,w4,w5,e1,e2,e4,E,QA,hlen])
  (fun st hs=>by
   subst hs
   have e:((0:Int) <= -1)=False:=ww
   refine⟨_,?_,rfl⟩
   rw[show(15:Int)-((16:Nat):Int) = -1 by omega,Qs,Js,Jt,Qn,Jg,JQ]
   simp only[hmI,Cq,Qv,quiet,cK,↓pQ,reduceCtorEq,seval,-Qa,cL,e])
 exact hb
def hmO(n:List Nat)(i:Int)(ex:Env):St:=⟨[(0,.pointer (0:Nat)),(1,.pointer (1:Nat)),(2,.int .i64 i)]++ex,[{c:=ns .u64 J1},{c:=ns .u64 n}],[]⟩
def nX(hn:Nm n) :
  Q4 T 0 (.block 0 (.loop Cp)) (hmO n 0 [])=some (.normal,hmO (dig 65536 16 (num 65536 n/2^2)) 2 [(12,.bool false)]):=by
 obtain⟨st,hb,rfl⟩:=QM (T:=T) (base:=0) (id:=0) (body:=Cp)
  (fun i st=>∃ex,st=hmO (dig 65536 16 (num 65536 n/2^i)) i ex)
  (Q:=fun st=>st=hmO (dig 65536 16 (num 65536 n/2^2)) 2 [(12,.bool false)])
  2 (s:=hmO n 0 []) ⟨[],by rw[Jg,JQ,<-hn.eq];rfl⟩
  (fun i st hi hs=>by
   obtain⟨ex,rfl⟩:=hs
   have I:=Nm.dig (num 65536 n/2^i)
   have hlt:num 65536 n/2^i<2^256:=Ja (Jp _ _) hn.num_lt
   have hb:=nY (i:=(i:Int)) I
   rw[VD hlt,Zc,<-Zn]at hb
   simp only[hmI,Qp,Qn,Zx]at hb
   have E:IntKind.i64.wrap ((i:Int)+1)=((i+1:Nat):Int):=Zm (b:=1) qr
   have J:((i:Int)<2)=True:=wr
   refine⟨_,?_,[],rfl⟩
   generalize dig 65536 16 (num 65536 n/2^i)=A at *
   generalize dig 65536 16 (num 65536 n/2^(i+1))=O at *
   simp only[hmO,Cp,Qv,quiet,cW,↓pW,reduceCtorEq,seval,-Qa,hb,E,J])
  (fun st hs=>by
   obtain⟨ex,rfl⟩:=hs
   refine⟨_,?_,rfl⟩
   generalize dig 65536 16 (num 65536 n/2^2)=A at *
   simp only[hmO,Cp,Qv,quiet,cW,↓pW,reduceCtorEq,seval,-Qa])
 exact hb
def hrI(a n:List Nat)(i:Int)(c:Nat)(j:Int)(ex:Env):St:=⟨[(1,.pointer (0:Nat)),(2,.pointer (1:Nat)),(4,.pointer (2:Nat)),(5,.int .i64 i),(6,.int .u64 c),(7,.int .i64 j)]++ex,[{c:=ns .u64 a},{c:=ns .u64 J1},{c:=ns .u64 n}],[]⟩
def nV{i:Int}(hn:Nm n) :
  Q4 T 0 (.block 2 (.loop C0)) (hrI a n i 0 15 [])=some (.normal,hrI a (dig 65536 16 (num 65536 n/2)) i (num 65536 n%2) (-1) [(20,.bool false)]):=by
 have hD:Nm (dig 65536 16 (num 65536 n/2)):=Nm.dig _
 obtain⟨D,O⟩:∃D,D=dig 65536 16 (num 65536 n/2):=⟨_,rfl⟩
 rw[<-O]at hD ⊢
 have hlt:=hn.num_lt
 obtain⟨st,hb,rfl⟩:=QM (T:=T) (base:=0) (id:=2) (body:=C0)
  (fun j st=>st=hrI a (n.take (16-j)++D.drop (16-j)) i (num 65536 n/65536^(16-j)%2) ((15:Int)-j) [])
  (Q:=fun st=>st=hrI a D i (num 65536 n%2) (-1) [(20,.bool false)])
  16 (s:=hrI a n i 0 15 []) (by
   rw[V8,Qo (by rw[hn.len];omega),ZH (by rw[hD.len];omega),QF,Xk hlt];rfl)
  (fun j st hj hs=>by
   subst hs
   obtain⟨m,hm⟩:∃m,16-j=m+1:=⟨15-j,by omega⟩
   rw[hm,show(15:Int)-j=(m:Int) by omega,show 16-(j+1)=m by omega,show(15:Int)-((j+1:Nat):Int)=(m:Int)-1 by omega]
   refine⟨_,?_,rfl⟩
   obtain⟨x,Z⟩:∃x,n[m]?=some x:=⟨_,Qg (by rw[hn.len];omega)⟩
   have hxv:=KL (B:=65536) ww hn.lt Z
   obtain⟨c,hc⟩:∃c,c=num 65536 n/65536^(m+1)%2:=⟨_,rfl⟩
   rw[<-hc]
   have hc2:num 65536 n/65536^m/65536%2=c:=by rw[hc,Zn,Zc]
   have U:(n.take (m+1)++D.drop (m+1))[m]?=some x:=by
    rw[Qb (by rw[Q0,hn.len];omega),QN,if_pos qr];exact Z
   have I:D[m]?=some ((x+c*65536)/2):=by
    rw[O,Kc qr]
    congr 1
    rw[Zc,Zw 2,<-Zc]
    generalize num 65536 n/65536^m=q at *
    omega
   have J:num 65536 n/65536^m%2=(x+c*65536)%2:=by
    generalize num 65536 n/65536^m=q at *
    omega
   rw[J]
   have hstep:(n.take (m+1)++D.drop (m+1)).set m ((x+c*65536)/2)=n.take m++D.drop m:=by
    rw[Xd _ _ (by rw[Q0,hn.len];omega),Zh,Z]
    rw[Q1 _ _ (by rw[Q0];omega)]
    have e:(n.take m).length=m:=by rw[Q0,hn.len];omega
    rw[e,Qs,ZJ (i:=m),I]
    simp
   have E:=JL .u64 (n.take (m+1)++D.drop (m+1)) m ((x+c*65536)/2)
   rw[hstep]at E
   have hlen:(n.take (m+1)++D.drop (m+1)).length=16:=by rw[Qh,Q0,QD,hn.len,hD.len];omega
   have Y:=Z4 (k := .u64) U
   have hcb:c<2:=by rw[hc];exact Q3 _ ww
   have w1:IntKind.i64.wrap ((m:Int)-1)=(m:Int)-1:=Zd qr qr
   have w2:IntKind.u64.wrap ((c:Int)*65536)=((c*65536:Nat):Int):=W1 (b:=65536) qr
   have w3:IntKind.u64.wrap ((x:Int)+((c*65536:Nat):Int))=((x+c*65536:Nat):Int):=Yw qr
   have w4:IntKind.u64.wrap (((x+c*65536:Nat):Int).tdiv 2)=(((x+c*65536)/2:Nat):Int):=Wd (n:=(x+c*65536)/2) qr
   have w5:((x+c*65536:Nat):Int).tmod 2=(((x+c*65536)%2:Nat):Int):=rfl
   have e1:((0:Int)<=(m:Int))=True:=wr
   have e2:((m:Int)<16)=True:=wr
   have e4:(m<=15)=True:=wr
   clear hc hc2 J I hstep
   generalize n.take (m+1)++D.drop (m+1)=A1,n.take m++D.drop m=A2 at *
   generalize(x+c*65536)/2=u at *
   generalize(x+c*65536)%2=u2 at *
   generalize x+c*65536=v at *
   generalize c*65536=v2 at *
   simp only[hrI,C0,Qv,quiet,cW,↓pW,reduceCtorEq,seval,-Qa,Y,w1,w2,w3,w4,w5,e1,e2,e4,E,QA,hlen])
  (fun st hs=>by
   subst hs
   have e:((0:Int) <= -1)=False:=ww
   refine⟨_,?_,rfl⟩
   rw[show(15:Int)-((16:Nat):Int) = -1 by omega,Qs,Js,Jt,Qn,Jg,JQ]
   simp only[hrI,C0,Qv,quiet,cK,↓pQ,reduceCtorEq,seval,-Qa,cL,e])
 exact hb
def hrO(a n:List Nat)(i:Int)(ex:Env):St:=⟨[(1,.pointer (0:Nat)),(2,.pointer (1:Nat)),(4,.pointer (2:Nat)),(5,.int .i64 i)]++ex,[{c:=ns .u64 a},{c:=ns .u64 J1},{c:=ns .u64 n}],[]⟩
def nU(hn:Nm n) :
  Q4 T 0 (.block 0 (.loop Cz)) (hrO a n 0 [])=some (.normal,hrO a (dig 65536 16 (num 65536 n/2^3)) 3 [(16,.bool false)]):=by
 obtain⟨st,hb,rfl⟩:=QM (T:=T) (base:=0) (id:=0) (body:=Cz)
  (fun i st=>∃ex,st=hrO a (dig 65536 16 (num 65536 n/2^i)) i ex)
  (Q:=fun st=>st=hrO a (dig 65536 16 (num 65536 n/2^3)) 3 [(16,.bool false)])
  3 (s:=hrO a n 0 []) ⟨[],by rw[Jg,JQ,<-hn.eq];rfl⟩
  (fun i st hi hs=>by
   obtain⟨ex,rfl⟩:=hs
   have I:=Nm.dig (num 65536 n/2^i)
   have hlt:num 65536 n/2^i<2^256:=Ja (Jp _ _) hn.num_lt
   have hb:=nV (a:=a) (i:=(i:Int)) I
   rw[VD hlt,Zc,<-Zn]at hb
   simp only[hrI,Qp,Qn,Zx]at hb
   have E:IntKind.i64.wrap ((i:Int)+1)=((i+1:Nat):Int):=Zm (b:=1) qr
   have J:((i:Int)<3)=True:=wr
   refine⟨_,?_,[],rfl⟩
   generalize dig 65536 16 (num 65536 n/2^i)=A at *
   generalize dig 65536 16 (num 65536 n/2^(i+1))=O at *
   simp only[hrO,Cz,Qv,quiet,cW,↓pW,reduceCtorEq,seval,-Qa,hb,E,J])
  (fun st hs=>by
   obtain⟨ex,rfl⟩:=hs
   refine⟨_,?_,rfl⟩
   generalize dig 65536 16 (num 65536 n/2^3)=A at *
   simp only[hrO,Cz,Qv,quiet,cW,↓pW,reduceCtorEq,seval,-Qa])
 exact hb
def Ah:List Nat:=dig 65536 16 (Go.Fp.P-1)
def Re:List Nat:=dig 65536 16 (Go.Fp.P+3)
def Ff:Nm Ah:=Nm.dig _
def Fc:Nm Re:=Nm.dig _
def Fb:KO[0]?=some 65517:=by decide +kernel
def PZ:(ns .u64 KO).set 0 (.int .u64 65516)=ns .u64 Ah:=by
 have h:KO.set 0 65516=Ah:=by decide +kernel
 have:=JL .u64 KO 0 65516
 rw[h]at this;exact this
def PY:(ns .u64 KO).set 0 (.int .u64 65520)=ns .u64 Re:=by
 have h:KO.set 0 65520=Re:=by decide +kernel
 have:=JL .u64 KO 0 65520
 rw[h]at this;exact this
def wO:nf (Xn 2)=Go.Fp.fp 2:=by unfold nf;rw[Vk ww]
def od:Go.Fp.pow (Go.Fp.fp 2) ((Go.Fp.P-1)/2)=Go.Fp.fp (Go.Fp.P-1):=Go.Fp.Ai (f:=256) (by decide +kernel) (by decide +kernel)
def fp_m1:Go.Fp.fp (Go.Fp.P-1) = -1:=by decide +kernel
def Nq:(Go.Fp.P-1)/2=(Go.Fp.P-1)/4+(Go.Fp.P-1)/4:=by decide +kernel
def Nl:∃r,Zo T 152 []=some (eV r)/\Nm r/\nf r*nf r = -1:=by
 have hp:=Bq
 have h2:=Yg 2 ww
 have I:=nX Ff
 have hn:num 65536 Ah/2^2=(Go.Fp.P-1)/4:=by decide +kernel
 rw[hn]at I
 have Y:=Nm.dig ((Go.Fp.P-1)/4)
 have J:=VD (v:=(Go.Fp.P-1)/4) (by decide +kernel)
 obtain⟨r,hr,U,O⟩:=TW (K6 2) Y
 rw[J,wO]at O
 refine⟨r,?_,U,by rw[O,<-Go.Fp.pow_add,<-Nq,od,fp_m1]⟩
 have g0:=Z4 (k := .u64) Fb
 have s0:=PZ
 have lp:=VS.len
 have lm:=Ff.len
 have ls:=(K6 2).len
 have lE:=Y.len
 have lr:=U.len
 have hz:=Vf
 have lz:=Kw
 have w1:IntKind.u64.wrap 65516=65516:=ww
 simp only[Xo]at h2 g0
 simp only[hmO,Qp,Qn]at I
 generalize KO=PL at *
 generalize Ah=PM at *
 generalize Xn 2=S,dig 65536 16 ((Go.Fp.P-1)/4)=E at *
 generalize J1=Z at *
 apply Zb (fn:=a89) rfl
 simp only[a89,Qv,quiet,cW,↓pW,reduceCtorEq,seval,-Qa,hz,hp,h2,g0,w1,s0,I,hr,Q7,QR,Zr,ZZ,Zi,QA,lp,lE,lr,lz,ZY]
 rfl
def Ie(a b:List Nat):(dig 65536 16 (num 65536 a%Go.Fp.P)==dig 65536 16 (num 65536 b%Go.Fp.P))=decide (nf a=nf b):=by
 have J:=Q3 (num 65536 a) CW
 have I:=Q3 (num 65536 b) CW
 have E:=Pf
 rw[OI qr qr]
 by_cases h:nf a=nf b
 ·rw[decide_eq_true h,decide_eq_true (Go.Fp.RH.1 h)]
 ·rw[decide_eq_false h,decide_eq_false (fun e=>h (Go.Fp.RH.2 e))]
def OS(a:List Nat):nf (dig 65536 16 (num 65536 a%Go.Fp.P))=nf a:=by
 have I:=Q3 (num 65536 a) CW
 have E:=Pf
 unfold nf
 rw[VD qr,Go.Fp.Yl]
def mz:(Go.Fp.P+3)/8+(Go.Fp.P+3)/8=(Go.Fp.P-1)/4+1:=by decide +kernel
def SU(a:Go.Fp.Fe) : -1*a = -a:=by grobner
def AR(a:Go.Fp.Fe):1*a=a:=by grobner
def uI(x m:Go.Fp.Fe):x*m*(x*m)=x*x*(m*m):=by grobner
def fk(a:Go.Fp.Fe) : -a * -1=a:=by grobner
def OF{a s:Go.Fp.Fe}(h:s*s=a):Go.Fp.pow a ((Go.Fp.P+3)/8)*Go.Fp.pow a ((Go.Fp.P+3)/8)=a\/Go.Fp.pow a ((Go.Fp.P+3)/8)*Go.Fp.pow a ((Go.Fp.P+3)/8) = -a:=by
 have e:Go.Fp.pow a ((Go.Fp.P+3)/8)*Go.Fp.pow a ((Go.Fp.P+3)/8)=Go.Fp.pow a ((Go.Fp.P-1)/4)*a:=by
  rw[<-Go.Fp.pow_add,mz,Go.Fp.pow]
 rcases Go.Fp.Aj s with E|E
 ·rw[h,Nq,Go.Fp.pow_add]at E
  have J:Go.Fp.pow a ((Go.Fp.P-1)/4)*Go.Fp.pow a ((Go.Fp.P-1)/4)=1*1:=by rw[E];exact(AR 1).symm
  rw[e]
  rcases bd J with I|I
  ·left;rw[I,AR]
  ·right;rw[I,SU]
 ·have ha:a=0:=by rw[<-h,E];grobner
  left
  rw[e,ha];grobner
def rG{a:List Nat}(ha:Nm a):∃r ok,Zo T 102 [eV a]=some (.tuple #[eV r,.bool ok])/\Nm r/\num 65536 r<Go.Fp.P/\(ok=true->nf r*nf r=nf a)/\(ok=false->∀x:Go.Fp.Fe,x*x≠nf a):=by
 have hp:=Bq
 have J:=nU (a:=a) Fc
 have hn:num 65536 Re/2^3=(Go.Fp.P+3)/8:=by decide +kernel
 rw[hn]at J
 have hE:=Nm.dig ((Go.Fp.P+3)/8)
 have hEn:=VD (v:=(Go.Fp.P+3)/8) (by decide +kernel)
 obtain⟨x,hx,x1,x2⟩:=TW ha hE
 rw[hEn]at x2
 obtain⟨q,hq,q1,q2⟩:=Ke x1 x1
 obtain⟨m,hm,m1,m2⟩:=Nl
 obtain⟨y,hy,y1,y2⟩:=Ke x1 m1
 obtain⟨t,ht,t1,t2⟩:=Ke y1 y1
 have cq:=Wg q1
 have ca:=Wg ha
 have cx:=Wg x1
 have cy:=Wg y1
 have ct:=Wg t1
 have b1:=Ie q a
 have b2:=Ie t a
 have nq:=Nm.dig (num 65536 q%Go.Fp.P)
 have na:=Nm.dig (num 65536 a%Go.Fp.P)
 have nx:=Nm.dig (num 65536 x%Go.Fp.P)
 have ny:=Nm.dig (num 65536 y%Go.Fp.P)
 have nt:=Nm.dig (num 65536 t%Go.Fp.P)
 have v1:=qU nq.len na.len
 have v2:=Iq nq.len na.len
 have v3:=Iq nt.len na.len
 rw[b1]at v1 v2
 rw[b2]at v3
 have g0:=Z4 (k := .u64) Fb
 have s0:=PY
 have lp:=VS.len
 have lm:=Fc.len
 have lE:=hE.len
 have la:=ha.len
 have lx:=x1.len
 have ly:=y1.len
 have lq:=nx.len
 have O:=ny.len
 have hz:=Vf
 have lz:=Kw
 have w1:IntKind.u64.wrap 65520=65520:=ww
 simp only[Xo]at g0
 simp only[hrO,Qp,Qn]at J
 have hPl:=Pf
 have Y:num 65536 (dig 65536 16 (num 65536 x%Go.Fp.P))<Go.Fp.P:=by
  have:=Q3 (num 65536 x) CW
  rw[VD qr];exact this
 have U:num 65536 (dig 65536 16 (num 65536 y%Go.Fp.P))<Go.Fp.P:=by
  have:=Q3 (num 65536 y) CW
  rw[VD qr];exact this
 have fx:=OS x
 have fy:=OS y
 by_cases h:nf q=nf a
 ·rw[decide_eq_true h]at v1 v2
  refine⟨dig 65536 16 (num 65536 x%Go.Fp.P),true,?_,nx,Y,fun _=>by rw[fx,<-q2,h],fun h=>absurd h ww⟩
  generalize dig 65536 16 (num 65536 q%Go.Fp.P)=CQ,dig 65536 16 (num 65536 a%Go.Fp.P)=CA,dig 65536 16 (num 65536 x%Go.Fp.P)=CX at *
  generalize KO=PL at *
  generalize Re=PM at *
  generalize dig 65536 16 ((Go.Fp.P+3)/8)=E at *
  generalize J1=Z at *
  apply Zb (fn:=a68) rfl
  simp only[a68,Qv,quiet,cW,↓pW,reduceCtorEq,seval,-Qa,hz,hp,g0,w1,s0,J,hx,hq,cq,ca,cx,v1,v2,Q7,QR,Zr,ZZ,Zi,QA,lp,lE,la,lx,lq,lz,ZY]
  rfl
 ·rw[decide_eq_false h]at v1 v2
  refine⟨dig 65536 16 (num 65536 y%Go.Fp.P),decide (nf t=nf a),?_,ny,U,?_,?_⟩
  ·generalize decide (nf t=nf a)=ok,dig 65536 16 (num 65536 q%Go.Fp.P)=CQ,dig 65536 16 (num 65536 a%Go.Fp.P)=CA,dig 65536 16 (num 65536 y%Go.Fp.P)=CY,dig 65536 16 (num 65536 t%Go.Fp.P)=CT at *
   generalize KO=PL at *
   generalize Re=PM at *
   generalize dig 65536 16 ((Go.Fp.P+3)/8)=E at *
   generalize J1=Z at *
   apply Zb (fn:=a68) rfl
   simp only[a68,Qv,quiet,cW,↓pW,reduceCtorEq,seval,-Qa,hz,hp,g0,w1,s0,J,hx,hq,hm,hy,ht,cq,ca,cy,ct,v1,v3,Q7,QR,Zr,ZZ,Zi,QA,lp,lE,la,lx,ly,O,lz,ZY]
   rfl
  ·intro I
   rw[fy,<-t2]
   exact of_decide_eq_true I
  ·intro I s hs
   have ht'':=of_decide_eq_false I
   rcases OF hs with h1|h1
   ·exact h (by rw[q2,x2,h1])
   ·apply ht''
    rw[t2,y2,uI,m2,x2,h1,fk]
def qT(lk:k.length=32)(E:l.length=32):vEq (some (Qc 32 true)) true (.agg (u8s k).toArray) (.agg (u8s l).toArray)=some (.bool (!(k==l))):=by
 rw[Dh,KG lk E]
 rfl
def gG:fillL (ns .u64 KS) []=some (ns .u64 KS):=rfl
def ya{r:List Nat}(h:num 65536 r<Go.Fp.P):(nf r).val=num 65536 r:=Q6 h
def AS(a:Go.Fp.Fe):a*1=a:=by grobner
def oS(a:Go.Fp.Fe) : -a * -a=a*a:=by grobner
def eo(hv:v≠0){x:Go.Fp.Fe}(h:x*x=u*Go.Fp.iv v):v*(x*x)=u:=by
 have:=Go.Fp.B4 hv
 rw[h]
 generalize Go.Fp.iv v=w at *
 clear h hv
 grobner
def uj(hv:v≠0){x:Go.Fp.Fe}(h:v*(x*x)=u):x*x=u*Go.Fp.iv v:=by
 have:=Go.Fp.B4 hv
 rw[<-h]
 generalize Go.Fp.iv v=w at *
 clear h hv
 grobner
def Ra(lk:k.length=32)(xk:∀x∈k,x<256) :
  (∃l p,Zo T 46 [.agg (u8s k).toArray]=some (WU l 0)/\RP l p/\enc p=k)\/(∃l,Zo T 46 [.agg (u8s k).toArray]=some (WU l 60)/\l.length=48/\∀p,enc p≠k):=by
 obtain⟨w,hw,hw',ht,hm,xm,lm⟩:=bS lk xk
 have ha:w&&&127=w%128:=Nat.and_two_pow_sub_one_eq_mod w 7
 rw[ha]at hm xm lm
 have hwc:=ZN hw
 have E:=Xg k 31 (w%128)
 have I:(w:Int).tmod 128=((w%128:Nat):Int):=rfl
 have U:=rof_v lm xm
 rw[hm]at U
 rw[Vu]at U
 have hkey:∀p:Go.Cv.Pt Go.Fp.P Go.Fp.d,enc p=k↔p.y.val=num 256 k%2^255/\p.x.val%2=num 256 k/2^255:=fun p=>by rw[cf lk xk,FV]
 rw[<-ht]at hkey
 have hVlt:num 256 k%2^255<2^255:=Q3 _ ww
 have hkm:=nM lm xm
 rw[hm]at hkm
 generalize k.set 31 (w%128)=km at *
 generalize num 256 k%2^255=V at *
 have NY:=Nm.dig V
 have hYn:=VD (v:=V) (X9 hVlt ww)
 have fy:nf (dig 65536 16 V)=Go.Fp.fp V:=by unfold nf;rw[hYn]
 have hby:=Dt NY
 rw[fy]at hby
 have lB:=Ze 256 32 (Go.Fp.fp V).val
 have heq:=qT lB lm
 have hbk:(dig 256 32 (Go.Fp.fp V).val==km)=decide (V<Go.Fp.P):=by
  rw[hkm,key_inj (X9 (Go.Fp.fp V).isLt ww) (X9 hVlt ww)]
  by_cases h:V<Go.Fp.P
  ·rw[decide_eq_true h,decide_eq_true (show(Go.Fp.fp V).val=V from Q6 h)]
  ·have:¬(Go.Fp.fp V).val=V:=fun e=>h (by rw[<-e];exact(Go.Fp.fp V).isLt)
   rw[decide_eq_false h,decide_eq_false this]
 rw[hbk]at heq
 have hz:=Vf
 have lz:=Kw
 have hf:=WZ
 have hz2:=MJ
 have J:=BX
 have hf2:=gG
 have lY:=NY.len
 have hge:decide ((128:Int)<=(w:Int))=decide (w/128=1):=by
  by_cases h:w/128=1
  ·rw[decide_eq_true h,decide_eq_true qr]
  ·rw[decide_eq_false h,decide_eq_false qr]
 generalize dig 65536 16 V=Y at *
 generalize dig 256 32 (Go.Fp.fp V).val=BY at *
 clear hbk hkm
 by_cases hV:V<Go.Fp.P
 ·rw[decide_eq_true hV]at heq
  have hYv:(Go.Fp.fp V).val=V:=Q6 hV
  have s1:=Yg 1 ww
  have N1:=K6 1
  have f1:=I5
  have l1:=N1.len
  simp only[KR]at s1
  obtain⟨yy,hyy,Nyy,fyy⟩:=Ke NY NY
  obtain⟨D,hD,ND,fD⟩:=xj
  obtain⟨uu,huu,Nuu,fuu⟩:=I4 Nyy N1
  obtain⟨dy,hdy,Ndy,fdy⟩:=Ke ND Nyy
  obtain⟨vv,hvv,Nvv,fvv⟩:=Rb Ndy N1
  obtain⟨iw,hiw,Niw,fiw⟩:=Gk Nvv
  obtain⟨aa,haa,Naa,faa⟩:=Ke Nuu Niw
  obtain⟨r,ok,hr,Nr,ltr,hok,hno⟩:=rG Naa
  obtain⟨nr,hnr,Nnr,fnr⟩:=PI Nr
  have hu:nf uu=Go.Fp.fp V*Go.Fp.fp V-1:=by rw[fuu,fyy,fy,f1]
  have hv:nf vv=Go.Fp.d*(Go.Fp.fp V*Go.Fp.fp V)+1:=by rw[fvv,fdy,fD,fyy,fy,f1]
  have hvn:nf vv≠0:=by rw[hv];exact ae _
  have hyp:∀p:Go.Cv.Pt Go.Fp.P Go.Fp.d,enc p=k->p.y=Go.Fp.fp V:=fun p hp=>Fin.ext (by rw[hYv];exact((hkey p).1 hp).1)
  have hxx:∀p:Go.Cv.Pt Go.Fp.P Go.Fp.d,enc p=k->p.x*p.x=nf aa:=fun p hp=>by
   have:=qF p
   rw[hyp p hp]at this
   rw[faa,fiw]
   exact uj hvn (by rw[hu,hv];exact this)
  have rft:∀b:Bool,rf (Value.tuple #[eV r,.bool b])=true:=fun b=>Gl (a:=eV r) (b := .bool b) (ZY r) rfl
  have lyy:=Nyy.len
  have lr:=Nr.len
  have lnr:=Nnr.len
  have O:=Iq lr lz
  have hq0':(r==J1)=decide (nf r=0):=by
   by_cases h:nf r=0
   ·have h2:=B0.1 h
    rw[Q6 ltr]at h2
    have:r=J1:=Nr.inj MI (by rw[h2,Hz])
    rw[decide_eq_true h,this];simp
   ·have:¬r=J1:=fun e=>h (by rw[e];unfold nf;rw[Hz];rfl)
    rw[decide_eq_false h,beq_eq_false_iff_ne.2 this]
  rw[hq0']at O
  obtain⟨r0,hr0⟩:∃r0,r[0]?=some r0:=⟨_,Qg (by rw[lr];decide)⟩
  have hr0c:=Z4 (k := .u64) hr0
  have hr0v:=KL (B:=65536) ww Nr.lt hr0
  rw[Jg,JQ]at hr0v
  have hpar:r0%2=(nf r).val%2:=by rw[ya ltr,<-hr0v];omega
  have hr2:(r0:Int).tmod 2=(((nf r).val%2:Nat):Int):=by rw[<-hpar];rfl
  generalize J1=Z at *
  obtain⟨Z48,hz48⟩:∃Z,KS=Z:=⟨_,rfl⟩
  rw[hz48]at hz2 J hf2
  cases ok with
  |false =>
   refine .inr ⟨Z48,?_,J,fun p hp=>hno rfl p.x (hxx p hp)⟩
   generalize Xn 1=S1 at *
   apply X6
   apply Zk
   rw[Q9 (fn:=a32) rfl]
   simp only[a32,Qv,quiet,cW,↓pW,reduceCtorEq,seval,-Qa,WU,hz,hz2,hf2,hwc,E,I,hge,U,hby,heq,s1,hyy,hD,huu,hdy,hvv,hiw,haa,hr,Q7,QR,Zr,ZZ,Zi,QA,Qq,lk,lm,lz,J,lY,lyy,lr,rft,ZY]
   rfl
  |true =>
   have hroot:=hok rfl
   rw[faa,fiw]at hroot
   have hroot1:=eo hvn hroot
   have h255:(nf r).val%2<2:=Q3 _ ww
   have hbq:((((nf r).val%2:Nat):Int)==1)=decide ((nf r).val%2=1):=by
    by_cases h:(nf r).val%2=1
    ·rw[h];rfl
    ·rw[show(nf r).val%2=0 by omega];rfl
   have bft:(false==true)=false:=rfl
   have btf:(true==false)=false:=rfl
   have fin:∀X:List Nat,Nm X->nf X*nf X=nf r*nf r->(nf X).val%2=w/128->∃p,RP (tL X Y (Xn 1)) p/\enc p=k:=fun X NX hX hp =>
    ⟨⟨nf X,Go.Fp.fp V,mL hu hv (by rw[hX];exact hroot1)⟩,⟨X,Y,_,rfl,NX,NY,N1,by rw[f1];exact Go.Fp.WS,by rw[f1];exact(AS _).symm,by rw[f1,fy];exact(AS _).symm⟩,(hkey _).2 ⟨hYv,hp⟩⟩
   have hfr:=oQ lr lY l1
   have hfn:=oQ lnr lY l1
   have lTr:=Bl lr lY l1
   have lTn:=Bl lnr lY l1
   rw[hz48]at hfr hfn
   have hneg:nf nr*nf nr=nf r*nf r:=by rw[fnr];exact oS _
   have hnpar:nf r≠0->(nf nr).val%2≠(nf r).val%2:=fun h=>by rw[fnr];exact IH h
   have hnl:=Q3 (nf nr).val (by decide:0<2)
   have hw2:w/128<2:=qr
   by_cases hb:w/128=1
   ·rw[decide_eq_true hb]at hge
    by_cases h0:nf r=0
    ·rw[decide_eq_true h0]at O
     refine .inr ⟨Z48,?_,J,fun p hp =>?_⟩
     ·generalize Xn 1=S1 at *
      apply X6
      apply Zk
      rw[Q9 (fn:=a32) rfl]
      simp only[a32,Qv,quiet,cW,↓pW,reduceCtorEq,seval,-Qa,WU,hz,hf,hz2,hf2,hwc,E,I,hge,U,hby,heq,s1,hyy,hD,huu,hdy,hvv,hiw,haa,hr,O, Q8,Q7,QR,Zr,ZZ,Zi,QA,Qq,lk,lm,lz,J,lY,lyy,lr, rft,ZY]
      rfl
     ·have h2:=((hkey p).1 hp).2
      have h3:=hxx p hp
      rw[faa,fiw,<-hroot,h0]at h3
      rcases bd h3 with h5|h5
      ·rw[h5,hb]at h2;exact absurd h2 ww
      ·rw[h5,hb]at h2;exact absurd h2 ww
    ·rw[decide_eq_false h0]at O
     by_cases hp1:(nf r).val%2=1
     ·rw[decide_eq_true hp1]at hbq
      obtain⟨p,rp,he⟩:=fin r Nr rfl (by rw[hb];exact hp1)
      refine .inl ⟨_,p,?_,rp,he⟩
      generalize tL r Y (Xn 1)=R at *
      generalize Xn 1=S1 at *
      apply X6
      apply Zk
      rw[Q9 (fn:=a32) rfl]
      simp only[a32,Qv,quiet,cW,↓pW,reduceCtorEq,seval,-Qa,WU,hz,hf,hz2,hwc,E,I,hge,U,hby,heq,s1,hyy,hD,huu,hdy,hvv,hiw,haa,hr,O,hr0c,hr2,hbq,hfr,Q7,QR,Zr,ZZ,Zi,QA,Qq,lk,lm,lz,J,lY,lyy,lr,lTr,rft,ZY]
      rfl
     ·rw[decide_eq_false hp1]at hbq
      obtain⟨p,rp,he⟩:=fin nr Nnr hneg (by have:=hnpar h0;omega)
      refine .inl ⟨_,p,?_,rp,he⟩
      generalize tL nr Y (Xn 1)=R at *
      generalize Xn 1=S1 at *
      apply X6
      apply Zk
      rw[Q9 (fn:=a32) rfl]
      simp only[a32,Qv,quiet,cW,↓pW,reduceCtorEq,seval,-Qa,WU,hz,hf,hz2,hwc,E,I,hge,U,hby,heq,s1,hyy,hD,huu,hdy,hvv,hiw,haa,hr,O,bft,hr0c,hr2,hbq,hnr,hfn,Q7,QR,Zr,ZZ,Zi,QA,Qq,lk,lm,lz,J,lY,lyy,lr,lnr,lTn,rft,ZY]
      rfl
   ·rw[decide_eq_false hb]at hge
    by_cases hp1:(nf r).val%2=1
    ·rw[decide_eq_true hp1]at hbq
     have h0:nf r≠0:=fun h=>by rw[h]at hp1;exact absurd hp1 ww
     rw[decide_eq_false h0]at O
     obtain⟨p,rp,he⟩:=fin nr Nnr hneg (by have:=hnpar h0;omega)
     refine .inl ⟨_,p,?_,rp,he⟩
     generalize tL nr Y (Xn 1)=R at *
     generalize Xn 1=S1 at *
     apply X6
     apply Zk
     rw[Q9 (fn:=a32) rfl]
     simp only[a32,Qv,quiet,cW,↓pW,reduceCtorEq,seval,-Qa,WU,hz,hf,hz2,hwc,E,I,hge,U,hby,heq,s1,hyy,hD,huu,hdy,hvv,hiw,haa,hr,O,btf,hr0c,hr2,hbq,hnr,hfn,Q7,QR,Zr,ZZ,Zi,QA,Qq,lk,lm,lz,J,lY,lyy,lr,lnr,lTn,rft,ZY]
     rfl
    ·rw[decide_eq_false hp1]at hbq
     obtain⟨p,rp,he⟩:=fin r Nr rfl qr
     refine .inl ⟨_,p,?_,rp,he⟩
     generalize tL r Y (Xn 1)=R at *
     generalize decide (nf r=0)=zq at *
     cases zq with
     |false =>
      generalize Xn 1=S1 at *
      apply X6
      apply Zk
      rw[Q9 (fn:=a32) rfl]
      simp only[a32,Qv,quiet,cW,↓pW,reduceCtorEq,seval,-Qa,WU,hz,hf,hz2,hwc,E,I,hge,U,hby,heq,s1,hyy,hD,huu,hdy,hvv,hiw,haa,hr,O,hr0c,hr2,hbq,hfr,Q7,QR,Zr,ZZ,Zi,QA,Qq,lk,lm,lz,J,lY,lyy,lr,lTr,rft,ZY]
      rfl
     |true =>
      generalize Xn 1=S1 at *
      apply X6
      apply Zk
      rw[Q9 (fn:=a32) rfl]
      simp only[a32,Qv,quiet,cW,↓pW,reduceCtorEq,seval,-Qa,WU,hz,hf,hz2,hwc,E,I,hge,U,hby,heq,s1,hyy,hD,huu,hdy,hvv,hiw,haa,hr,O,hr0c,hr2,hbq,hfr,Q7,QR,Zr,ZZ,Zi,QA,Qq,lk,lm,lz,J,lY,lyy,lr,lTr,rft,ZY]
      rfl
 ·rw[decide_eq_false hV]at heq
  generalize J1=Z at *
  generalize KS=Z48 at *
  refine .inr ⟨Z48,?_,J,fun p hp=>hV ?_⟩
  ·apply X6
   apply Zk
   rw[Q9 (fn:=a32) rfl]
   simp only[a32,Qv,quiet,cW,↓pW,reduceCtorEq,seval,-Qa,WU,hz,hz2,hf2,hwc,E,I,hge,U,hby,heq,Q7,QR,Zr,ZZ,Zi,QA,Qq,lk,lm,lz,J,lY,ZY]
   rfl
  ·rw[<-((hkey p).1 hp).1];exact p.y.isLt
def yJ:Go.Fp.fp 4*Go.Fp.iv (Go.Fp.fp 5)=Go.Fp.fp byN:=by
 have E:Go.Fp.fp 5≠0:=by decide +kernel
 have J:=Go.Fp.B4 E
 have I:Go.Fp.fp 5*Go.Fp.fp byN=Go.Fp.fp 4:=by decide +kernel
 refine Go.Fp.fld.cancel E ?_
 rw[I]
 generalize Go.Fp.iv (Go.Fp.fp 5)=y at *
 generalize Go.Fp.fp 5=x,Go.Fp.fp 4=z at *
 clear E I
 grobner
def fK:enc X5=dig 256 32 (Go.Fp.fp byN).val:=by decide +kernel
def Lj(h:enc p=enc q):p=q:=by
 have:=DH p q
 rw[h]at this
 simp at this
 exact this
def si:∃r,Zo T 52 []=some (eV r)/\RP r X5:=by
 have s4:=Yg 4 ww
 have Z:=Yg 5 ww
 obtain⟨v,hv,v1,v2⟩:=Gk (K6 5)
 obtain⟨m,hm,m1,m2⟩:=Ke (K6 4) v1
 have e4:nf (Xn 4)=Go.Fp.fp 4:=by unfold nf;rw[Vk ww]
 have e5:nf (Xn 5)=Go.Fp.fp 5:=by unfold nf;rw[Vk ww]
 rw[v2,e4,e5,yJ]at m2
 have hb:=Dt m1
 rw[m2,<-fK]at hb
 have hl:=Yz X5
 rcases Ra (Yz X5) (SY X5)with⟨l,p,hd,E,he⟩|⟨l,hd,ll,Y⟩
 ·have U:=Lj he
  rw[U]at E
  refine⟨l,?_,E⟩
  have lr:=E.len
  have O:=MJ
  have J:=BX
  have I:∀(r:List Nat) (c:Int),rf (Value.tuple #[eV r,.int .i64 c])=true:=fun r c=>Gl (a:=eV r) (b := .int .i64 c) (ZY r) rfl
  simp only[Xo]at s4 Z
  unfold WU at hd
  generalize enc X5=K,Xn 4=S4,Xn 5=S5 at *
  generalize KS=Z48 at *
  apply Zb (fn:=a37) rfl
  simp only[a37,Qv,quiet,cW,↓pW,reduceCtorEq,seval,-Qa,O,s4,Z,hv,hm,hb,hd,Q7,QR,Zr,ZZ,Zi,QA,lr,J,I,ZY]
  rfl
 ·exact absurd rfl (Y X5)
end
section
attribute [local congr] Jw JD Jv JE Jk
variable{S b:List Nat}{G:List Ob}{e x:Bool}{s i w:Nat}{a v:List Value}
def VF{a:List Nat}(h:a.length+b.length<=2^47):JC .add (Jx a) (Jx b)=some (Jx (a++b)):=by
 unfold Jx
 rw[OX]
 have:(⟨(a.map UInt8.ofNat).toArray⟩:ByteArray).size+(⟨(b.map UInt8.ofNat).toArray⟩:ByteArray).size<=2^47:=by simpa [ByteArray.size]using h
 rw[gate,if_pos this]
 congr 2
 apply ByteArray.ext
 simp
def byO(x:Nat):Ob:={c:=[.int .u8 x]}
def UH(S:List Nat)(i:Nat):List Ob:=(S.take i).map byO
def Ig(h:S[i]?=some w):UH S (i+1)=UH S i++[{c:=[.int .u8 w]}]:=by
 rw[UH,Zh,h,XZ]
 rfl
def BP(m:List Ob)(w:Nat):elemsOf (m++[{c:=[.int .u8 (w:Int)]}]) 1 1 (.slice m.length 1 1)=some (u8s [w]):=by
 have E:liveAt (m++[{c:=[.int .u8 (w:Int)]}]) m.length=some {c:=[.int .u8 (w:Int)]}:=Zs (by rw[Qd (Qj _),Qs];rfl) rfl
 simp[elemsOf,E,u8s]
def txI(G:List Ob)(S:List Nat)(i:Nat)(ex:Env):St:=⟨[(1,.pointer (0:Nat)),(3,Jx (S.take i)),(4,.int .i64 i)]++ex,G++UH S i,[]⟩
def iq(h0:G[0]?=some ⟨u8s S,true,x,e,s⟩)(lS:S.length=32)(xS:∀y∈S,y<256) :
  Q4 T 0 (.block 0 (.loop GO)) (txI G S 0 [])=some (.normal,txI G S 32 [(6,.bool false)]) :=
 JB (T:=T) (base:=0) (id:=0) (body:=GO) (fun i=>txI G S i []) (s':=txI G S 32 [(6,.bool false)]) 32
  (fun i hi=>by
   obtain⟨w,hw⟩:∃w,S[i]?=some w:=⟨_,Qg qr⟩
   have e1:((i:Int)<32)=True:=wr
   have w3:IntKind.i64.wrap ((i:Int)+1)=((i+1:Nat):Int):=Zm (b:=1) qr
   have I:JC .add (Jx (S.take i)) (Jx [w])=some (Jx (S.take (i+1))):=by
    rw[VF (by rw[Q0];simp;omega),Zh,hw];rfl
   have U:=Ig hw
   have gt:∀m:List Ob,(G++m)[0]?=some ⟨u8s S,true,x,e,s⟩:=fun m=>by rw[Qb (Qf.1 h0).1];exact h0
   have J:=BP (G++UH S i) w
   have Y:=Ym [w]
   have O:=gt (UH S i)
   have gw:(u8s S)[i]?=some (.int .u8 (w:Nat)):=ZN hw
   have fB:fillL [Value.int .u8 0] [(0,1,.int .u8 w)]=some [.int .u8 w]:=rfl
   have hii:i<32:=hi
   obtain⟨G1,E⟩:∃X,X=G++UH S i:=⟨_,rfl⟩
   have Z:G++UH S (i+1)=G1++[{c:=[.int .u8 w]}]:=by rw[U,<-Qx,E]
   rw[<-E]at J O
   show Q4 T 0 GO ⟨_,G++UH S i,[]⟩=some (.normal,⟨_,G++UH S (i+1),[]⟩)
   rw[<-E,Z]
   generalize S.take i=S1,S.take (i+1)=S2 at *
   generalize hi1:i+1=i1 at *
   generalize Jx S1=V1,Jx S2=V2 at *
   rw[show Jx [w]=.string ⟨([w].map UInt8.ofNat).toArray⟩ from rfl]at I
   generalize u8s [w]=C3,[w].map UInt8.ofNat=L3 at *
   simp only[GO,Qv,quiet,cW,↓pW,reduceCtorEq,seval,-Qa,e1,w3,O,gw,fB,J,Y,I])
  (by
   simp only[txI,GO,Qv,quiet,cW,↓pW,reduceCtorEq,seval,-Qa])
def bh(O:S.length=32)(J:∀y∈S,y<256):Zo T 51 [.agg (u8s S).toArray]=some (Jx S):=by
 have I:=iq (G:=[{c:=u8s S}]) (S:=S) rfl O J
 rw[show txI [{c:=u8s S}] S 0 []=⟨[(1,.pointer (0:Nat)),(3,.string (ByteArray.mk #[])),(4,.int .i64 0)],[{c:=u8s S}],[]⟩ from rfl]at I
 unfold txI at I
 rw[Qo qr]at I
 obtain⟨Y,E⟩:∃X,X=[({c:=u8s S}:Ob)]++UH S 32:=⟨_,rfl⟩
 rw[<-E]at I
 have U:rf (Jx S)=true:=rfl
 generalize Jx S=V at *
 clear E
 apply Zb (fn:=zF) rfl
 simp only[zF,Qv,quiet,cW,↓pW,reduceCtorEq,seval,-Qa,I]
 rfl
def tnI(G:List Ob)(S:List Nat)(i:Nat)(ex:Env):St:=⟨[(2,.pointer (0:Nat)),(3,.pointer (1:Nat)),(4,Jx (S.take i)),(5,.int .i64 i)]++ex,G++UH S i,[]⟩
def iy(h0:G[1]?=some ⟨u8s S,true,x,e,s⟩)(lS:S.length=64)(xS:∀y∈S,y<256) :
  Q4 T 0 (.block 0 (.loop GP)) (tnI G S 0 [])=some (.normal,tnI G S 64 [(9,.bool false)]) :=
 JB (T:=T) (base:=0) (id:=0) (body:=GP) (fun i=>tnI G S i []) (s':=tnI G S 64 [(9,.bool false)]) 64
  (fun i hi=>by
   obtain⟨w,hw⟩:∃w,S[i]?=some w:=⟨_,Qg qr⟩
   have e1:((i:Int)<64)=True:=wr
   have w3:IntKind.i64.wrap ((i:Int)+1)=((i+1:Nat):Int):=Zm (b:=1) qr
   have I:JC .add (Jx (S.take i)) (Jx [w])=some (Jx (S.take (i+1))):=by
    rw[VF (by rw[Q0];simp;omega),Zh,hw];rfl
   have U:=Ig hw
   have gt:∀m:List Ob,(G++m)[1]?=some ⟨u8s S,true,x,e,s⟩:=fun m=>by rw[Qb (Qf.1 h0).1];exact h0
   have J:=BP (G++UH S i) w
   have Y:=Ym [w]
   have O:=gt (UH S i)
   have gw:(u8s S)[i]?=some (.int .u8 (w:Nat)):=ZN hw
   have fB:fillL [Value.int .u8 0] [(0,1,.int .u8 w)]=some [.int .u8 w]:=rfl
   have hii:i<64:=hi
   obtain⟨G1,E⟩:∃X,X=G++UH S i:=⟨_,rfl⟩
   have Z:G++UH S (i+1)=G1++[{c:=[.int .u8 w]}]:=by rw[U,<-Qx,E]
   rw[<-E]at J O
   show Q4 T 0 GP ⟨_,G++UH S i,[]⟩=some (.normal,⟨_,G++UH S (i+1),[]⟩)
   rw[<-E,Z]
   generalize S.take i=S1,S.take (i+1)=S2 at *
   generalize hi1:i+1=i1 at *
   generalize Jx S1=V1,Jx S2=V2 at *
   rw[show Jx [w]=.string ⟨([w].map UInt8.ofNat).toArray⟩ from rfl]at I
   generalize u8s [w]=C3,[w].map UInt8.ofNat=L3 at *
   simp only[GP,Qv,quiet,cW,↓pW,reduceCtorEq,seval,-Qa,e1,w3,O,gw,fB,J,Y,I])
  (by
   simp only[tnI,GP,Qv,quiet,cW,↓pW,reduceCtorEq,seval,-Qa])
def dp{bs:List Nat}(Y:∀y∈bs,y<256)(hb:bs.length<2^46):Zo T 50 [Jx bs]=some (.agg (u8s (MZ bs)).toArray):=by
 have hz:Qc 32 (Value.int .u8 0)=u8s (dig 256 32 0):=rfl
 have lz:(dig 256 32 0).length=32:=rfl
 have J:=YE
 have I:(Qc 64 0).length=64:=Q8
 have hs:=EV Y hb
 have O:=Ye bs
 have E:=iy (G:=[{c:=u8s (dig 256 32 0)},{c:=u8s (sha bs)}]) (S:=sha bs) rfl O (HK bs)
 rw[show tnI [{c:=u8s (dig 256 32 0)},{c:=u8s (sha bs)}] (sha bs) 0 []=⟨[(2,.pointer (0:Nat)),(3,.pointer (1:Nat)),(4,.string (ByteArray.mk #[])),(5,.int .i64 0)],[{c:=u8s (dig 256 32 0)},{c:=u8s (sha bs)}],[]⟩ from rfl]at E
 unfold tnI at E
 rw[Qo qr]at E
 obtain⟨l,hr⟩:=I8 (bs:=sha bs) rfl (by rw[O];decide) (HK bs)
 have U:=Ur hr
 obtain⟨X,hX⟩:∃X,X=UH (sha bs) 64:=⟨_,rfl⟩
 rw[<-hX]at E
 have lr:(rd (sha bs)).length=32:=PR
 clear hX hs hr
 have hs:=EV Y hb
 unfold MZ
 have r1:rf (Jx bs)=true:=rfl
 have r2:rf (Jx (sha bs))=true:=rfl
 generalize rd (sha bs)=R,Jx bs=V0,Jx (sha bs)=V at *
 generalize sha bs=S,Qc 64 0=Z64,dig 256 32 0=Z at *
 simp only[Qp,Qn]at E
 apply Zb (fn:=zG) rfl
 simp only[zG,Qv,quiet,cW,↓pW,reduceCtorEq,seval,-Qa,hz,J,hs,E,U,Qq,O,lz,I,lr,Q7,r1,r2]
 rfl
def PW{α:Type}{y:Option α}:RB none y=y:=rfl
def take_set{X Y:List Nat}(I:X.length=5)(E:Y.length=5)(hi:i<5)(hw:Y[i]?=some w):(Y.take i++X.drop i).set i w=Y.take (i+1)++X.drop (i+1):=by
 have lt:(Y.take i).length=i:=by rw[Q0];omega
 obtain⟨v,hv⟩:∃v,X[i]?=some v:=⟨_,Qg qr⟩
 rw[Q1 _ _ qr,lt,Qs,ZJ (i:=i),hv,Zh,hw]
 simp
abbrev LSt:=(Go.Fp.Fe×Go.Fp.Fe)×(Go.Fp.Fe×Go.Fp.Fe)
structure LRp(s:LSt)(ax az bx bz:List Nat):Prop where
 eax:El ax (2^52)
 eaz:El az (2^52)
 ebx:El bx (2^52)
 ebz:El bz (2^52)
 fax:fe ax=s.1.1
 faz:fe az=s.1.2
 fbx:fe bx=s.2.1
 fbz:fe bz=s.2.2
def Args.one{H:List Ob}{a b n c:Nat}{t:List Nat}{e:Bool}{s:Nat}(ha:H[a]?=some ⟨[.slice b n n],true,true,e,s⟩){J:Bool}{s':Nat}(hb:H[b]?=some ⟨u8s t,true,true,J,s'⟩)(hn:t.length=n)(E:∀y∈t,y<256)(I:n<=2^47-4096):Args H (.slice a 1 c) [t]:=by
 have hp:HPart (LtN H.length) H (.slice b n n) t:=by
  have:=HPart.whole (n:=H.length) (c:=n) (Qf.1 hb).1 hb E qr
  rwa[hn]at this
 exact Args.arr ha rfl (.cons hp .nil) ww
structure BA(H0:List Ob)(bv:Value)(l:List Nat):Prop where
 len:vLen false bv=some (.int .i64 l.length)
 lt:∀y∈l,y<256
 le:l.length<=2^47-4096
 fill:fillL [Value.slice none 0 0] [(0,1,bv)]=some [bv]
 whole:HPart (LtN H0.length) H0 bv l
 cut:∀k,k<=l.length->∃s1 s2,(∀G:List Ob,(∀i,i<H0.length->G[i]?=H0[i]?)->vSliceSl G 1 none (some (.int .i64 (k:Nat))) none bv=some s1/\vSliceSl G 1 (some (.int .i64 (k:Nat))) none none bv=some s2) /\
  HPart (LtN H0.length) H0 s1 (l.take k)/\HPart (LtN H0.length) H0 s2 (l.drop k)
def BA.nil:BA [] (.slice none 0 0) [] :=
 ⟨rfl,by simp,by decide,rfl,⟨⟨_,_,rfl⟩,fun _ _=>rfl,by simp,by decide⟩,fun k E=>by
  have:k=0:=by simpa using E
  subst this
  exact⟨.slice none 0 0,.slice none 0 0,fun G _=>⟨rfl,rfl⟩,⟨⟨_,_,rfl⟩,fun _ _=>rfl,by simp,by decide⟩,⟨⟨_,_,rfl⟩,fun _ _=>rfl,by simp,by decide⟩⟩⟩
def BA.some{l:List Nat}{n:Nat}(O:l.length=n)(E:∀x∈l,x<256)(hm:n<=2^47-4096):BA [⟨u8s l,true,false,false,1⟩] (.slice (0:Nat) n n) l:=by
 subst O
 refine⟨rfl,E,hm,rfl,HPart.whole (w:=false) (e:=false) (s:=1) (n:=1) (Nat.zero_lt_one) rfl E hm,fun k J =>?_⟩
 refine⟨.slice (YC ⟨0,0,none⟩) k l.length,.slice (YC ⟨0,0+k,none⟩) (l.length-k) (l.length-k),fun G Y =>?_,?_,?_⟩
 ·have U:G[0]?=YC ⟨u8s l,true,false,false,1⟩:=(Y 0 Nat.zero_lt_one).trans rfl
  have I:liveAt G 0=YC ⟨u8s l,true,false,false,1⟩:=Zs U rfl
  have b1:Jc l.length l.length none (YC (.int .i64 (k:Nat))) none=YC (0,k,l.length):=by
   rw[Xh,XD J,Qk];rfl
  have Z:Jc l.length l.length (YC (.int .i64 (k:Nat))) none none=YC (k,l.length,l.length):=by
   rw[Xh,Ks,Qk,XD J,Qk]
  rw[Yr,Yr,b1,Z,Qk,Qk,I,Qk,Qk]
  simp[gate]
 ·have:=HPart.arr (n:=1) (H:=[(⟨u8s l,true,false,false,1⟩:Ob)]) (id:=0) (off:=0) (m:=k) (c:=l.length) ww rfl E qr qr
  rwa[Jt]at this
 ·have:=HPart.arr (n:=1) (H:=[(⟨u8s l,true,false,false,1⟩:Ob)]) (id:=0) (off:=0+k) (m:=l.length-k) (c:=l.length-k) ww rfl E qr qr
  rw[QH,Qo (by rw[QD];exact Qj _)]at this
  rw[QH]
  exact this
def Grown.set{k:IntKind}{B n:Nat}{H:List Ob}{s:Value}{xs:List Nat}{o:Ob}(h:Grown k B H s xs)(hn:n<B):Grown k B (H.set n o) s xs:=by
 cases h with
 |nil=>exact .nil
 |own J I E=>exact .own J I (by rw[Ql qr];exact E)
 |new J I E=>exact .new J I (by rw[Ql qr];exact E)
structure SoInv(bk:List Nat)(j:Nat)(b:List Nat)(c:Nat):Prop where
 len:b.length=32
 lt:∀y∈b,y<256
 cle:c<=1
 eq:num 256 (b.take j)+c*256^j=num 256 (bk.take j)+num 256 (ordL.take j)
 rest:∀i,j<=i->b[i]?=bk[i]?
def SoInv.step{bk b:List Nat}{j c x y:Nat}(h:SoInv bk j b c)(U:j<32)(O:b[j]?=some x)(J:x<256)(I:ordL[j]?=some y)(E:y<256):SoInv bk (j+1) (b.set j ((c+(x+y))%256)) ((c+(x+y))/256):=by
 have hc:=h.cle
 have hb:=h.rest j (Qj _)
 rw[O]at hb
 refine⟨by rw[Qr];exact h.len,Yf h.lt (Q3 _ ww),by omega,?_,fun i hi=>by rw[Ql qr];exact h.rest i qr⟩
 have e1:(b.set j ((c+(x+y))%256))[j]?=some ((c+(x+y))%256):=by rw[Qu (by rw[h.len];exact U)]
 have e2:(b.set j ((c+(x+y))%256)).take j=b.take j:=by
  rw[List.take_set,List.set_eq_of_length_le (by rw[Q0];omega)]
 rw[JY e1,JY hb.symm,JY I,e2]
 have h2:=h.eq
 have Y:=ZK (c+(x+y)) 256
 generalize(c+(x+y))/256=q at *
 generalize(c+(x+y))%256=r at *
 have e3:(256*q+r)*256^j=(c+(x+y))*256^j:=by rw[Y]
 have Z:q*256^(j+1)=256*q*256^j:=by rw[Zn];simp only[ZI,Zw]
 rw[Z]
 rw[Zl,Zl,Zl]at e3
 omega
structure OffL(w p o g:List Nat):Prop where
 lw:w.length=64
 lp:p.length=32
 lo:o.length=32
 lg:g.length=64
def EP{b:List Value}(h:v.length=a.length):splice (a++b) 0 v=v++b:=by
 rw[Xv _ _ _ (by rw[Qh];omega),Js,Qn,QH,h,gq]
def EO{b:List Value}{n k:Nat}(h:a.length=n)(E:k+v.length<=b.length):splice (a++b) (n+k) v=a++splice b k v:=by
 rw[Xv _ _ _ (by rw[Qh];omega),Xv _ _ _ E,<-h,List.take_append,Qo qr,Qt,Qx]
 congr 3
 rw[QV,<-Kp,gq]
def id4(i:Nat):List Nat:=[i/2^24%256,i/2^16%256,i/2^8%256,i%256]
def SF(i:Nat):∀y∈id4 i,y<256:=by
 intro y E
 simp only[id4,J8,Xl,or_false]at E
 rcases E with rfl|rfl|rfl|rfl<;>exact Q3 _ ww
def zK:List Nat:=dig 256 32 0
def gD:zK.length=32:=rfl
def BI{id c:Nat}{w:Bool}(h:G[id]?=some ⟨u8s b,true,w,e,s⟩):elemsOf G 1 b.length (.slice id b.length c)=some (u8s b):=by
 simp[elemsOf,Zs h rfl,Qq]
 exact Qo (by rw[Qq];exact Qj _)
def AllS(B:Nat)(G:List Ob)(v:Value)(t:List Nat):Prop:=(∃id,B<id/\v=.slice (id:Nat) 32 32/\t.length=32/\G[id]?=some {c:=u8s t})\/Rst (fun i=>i<=B) G v t
def AllS.shape{B:Nat}{G:List Ob}{v:Value}{t:List Nat}(h:AllS B G v t):∃a c,v=.slice a t.length c:=by
 rcases h with⟨id,J,rfl,E,I⟩|h
 ·rw[E];exact⟨_,_,rfl⟩
 ·exact h.shape
def AllS.part{B:Nat}{G:List Ob}{v:Value}{t:List Nat}(h:AllS B G v t)(I:∀y∈t,y<256)(lt:t.length<=1000):HPart (LtN G.length) G v t:=by
 rcases h with⟨id,Y,rfl,O,J⟩|h
 ·have:=HPart.whole (n:=G.length) (c:=32) (Qf.1 J).1 J I qr
  rwa[O]at this
 ·refine⟨h.shape,fun G' E =>?_,I,by omega⟩
  have U:Rst (fun i=>i<=B) G' v t:=h.ext fun i hi=>E i hi
  exact U.elems
def AllS.ext{B:Nat}{G G':List Ob}{v:Value}{t:List Nat}(h:AllS B G v t)(E:∀i,i<G.length->G'[i]?=G[i]?):AllS B G' v t:=by
 rcases h with⟨id,O,U,J,I⟩|h
 ·exact .inl ⟨id,O,U,J,(E id (Qf.1 I).1).trans I⟩
 ·exact .inr (h.ext E)
end
section
open Go.Fp
def frc{α:Type}(n:Nat)(k:Nat->α):α:=match n with
 |0=>k 0
 |m+1=>k (m+1)
def stN(u X Z U O:Nat)(k:Nat->Nat->Nat->Nat->Bool):Bool :=
 frc ((X+Z)%P) fun s=>frc ((P-Z+X)%P) fun m=>frc (s*s%P) fun E=>frc (m*m%P) fun I=>frc ((P-I+E)%P) fun e =>
 frc ((P-O+U)%P*s%P) fun l=>frc ((U+O)%P*m%P) fun r=>frc ((l+r)%P) fun J=>frc ((P-r+l)%P) fun lm =>
 frc (E*I%P) fun Y=>frc (e*((E+121665*e%P)%P)%P) fun dz=>frc (J*J%P) fun ax=>frc (u*(lm*lm%P)%P) fun az=>k Y dz ax az
def lT(K u:Nat):Nat->Nat->Nat->Nat->Nat->(Nat->Nat->Bool)->Bool
 |0,a,b,_,_,f=>f a b
 |n+1,a,b,c,d,f=>if K/2^n%2==1 then stN u c d a b fun E dz ax az=>lT K u n ax az E dz f else stN u a b c d fun E dz ax az=>lT K u n E dz ax az f
def kE(n:Nat):List Nat:=dig 256 32 n
end
section
attribute [local congr] Jw JD Jv JE Jk
variable{n:Nat}
def Km{C:List Value}{o:Nat}{v:Value}{r:List (Nat×Nat×Value)}(J:v.cells.size=n)(I:o+n<=C.length)(E:okVar v=true):fillL C ((o,n,v)::r)=fillL (splice C o v.cells.toList) r:=by
 conv=>lhs;unfold fillL
 rw[if_pos ⟨J,I,E⟩]
def Y8{l:List Nat}(h:l.length=n):(Value.agg (u8s l).toArray).cells.size=n:=by show(u8s l).length=n;rw[Qq,h]
def D9{a:List Nat}(E:a.length=64):fillL (Qc 64 (Value.int .u8 0)) [(0,64,.agg (u8s a).toArray)]=some (u8s a):=by
 unfold fillL
 rw[if_pos ⟨by show(u8s a).length=64;rw[Qq,E],by rw[Q8];decide,rfl⟩,show(Value.agg (u8s a).toArray).cells.toList=u8s a from rfl,QP (by rw[Qq,E,Q8])]
 rfl
end
section
structure K5(A B F pre once:List Nat):Prop where
 lA:A.length=64
 xA:∀y∈A,y<256
 lB:B.length=64
 xB:∀y∈B,y<256
 lF:F.length=32
 xF:∀y∈F,y<256
 lp:pre.length=32
 xp:∀y∈pre,y<256
 lo:once.length=32
 xo:∀y∈once,y<256
end
section
attribute [local congr] Jw JD Jv JE Jk
variable{n e m B i x:Nat}{nm t key sg pub k s:List Nat}{G G0 H:List Ob}{pv ka na sa da:Value}{L:List (List Nat)}{tl:List Value}
def kE_lt(n:Nat):∀y∈kE n,y<256:=Uw
def IZ(n:Nat):(kE n).length=32:=Ze _ _ _
def OutS(K:Nat->Prop)(G:List Ob)(v:Value)(t:List Nat):Prop:=(∃id,¬K id/\v=.slice (id:Nat) t.length t.length/\G[id]?=some {c:=u8s t})\/Rst K G v t
def OutS.append{K:Nat->Prop}{G:List Ob}{v x:Value}{t p:List Nat}(h:OutS K G v t)(O:∀i,K i->i<G.length)(I:Go.Ev.lenV x=some p.length)(he:elemsOf G 1 p.length x=some (u8s p))(hb:t.length+p.length<=2^47) :
  ∃v' G' M,ZV 1 1 G v x=some (v',G',none,M)/\OutS K G' v' (t++p)/\(∀i∈M,¬K i)/\G.length<=G'.length/\∀i,K i->G'[i]?=G[i]? := by
 rcases h with⟨id,h1,rfl,U⟩|h
 ·rcases ZP p.length with hn|hn
  ·have:p=[]:=List.eq_nil_of_length_eq_zero hn
   subst this
   refine⟨_,G,[],?_,.inl ⟨id,h1,by rw[QF],by rw[QF];exact U⟩,by simp,Qj _,fun _ _=>rfl⟩
   have J:elemsOf G 1 0 x=some []:=he
   have E:Go.Ev.lenV x=some 0:=I
   simp only[ZV,E,J,Qk,if_true]
  ·have h8:elemsOf G 1 t.length (.slice id t.length t.length)=some (u8s t):=by
    simp[elemsOf,Zs U rfl,Qq]
    exact Qo (by rw[Qq];exact Qj _)
   have hz:¬p.length=0:=qr
   have h3:(t.length+p.length)*1<=2^47/\0<1/\0<1:=⟨by omega,by decide,by decide⟩
   have h4:¬(t.length+p.length<=t.length):=qr
   refine⟨.slice G.length (t++p).length (t++p).length,G++[⟨u8s (t++p),true,true,false,1⟩],[],?_,.inr (.own (fun hk=>by have:=O _ hk;omega) (by rw[Qd (Qj _),Qs];rfl) qr (fun i _=>by rw[QH])),by simp,by simp,fun i hi=>by rw[Qb (O i hi)]⟩
   simp only[ZV,I,he,h8,Zs U rfl,Qk,if_neg hz,h3,h4,and_self,not_true_eq_false,if_false,if_true,Ob.grown,JS,Qh]
 ·obtain⟨v',G',M,k1,k2,k3,Z,Y,-⟩:=h.append O I he hb
  exact⟨v',G',M,k1,.inr k2,k3,Z,Y⟩
def OutS.setK{K:Nat->Prop}{G:List Ob}{v:Value}{t:List Nat}(h:OutS K G v t){j:Nat}(O:K j)(o:Ob):OutS K (G.set j o) v t:=by
 have I:∀id,¬K id->(G.set j o)[id]?=G[id]? := fun id hid=>Ql (by rintro rfl;exact hid O)
 rcases h with⟨id,E,Z,J⟩|h
 ·exact .inl ⟨id,E,Z,by rw[I id E];exact J⟩
 ·refine .inr ?_
  cases h with
  |nil=>exact .nil
  |empty E J=>exact .empty E (by rw[I _ E];exact J)
  |own E J U Y=>exact .own E (by rw[I _ E];exact J) U Y
def OutS.app{K:Nat->Prop}{G m:List Ob}{v:Value}{t:List Nat}(h:OutS K G v t):OutS K (G++m) v t:=by
 rcases h with⟨id,I,J,E⟩|h
 ·exact .inl ⟨id,I,J,by rw[Qb (Qf.1 E).1];exact E⟩
 ·exact .inr h.app
def OutS.shape{K:Nat->Prop}{G:List Ob}{v:Value}{t:List Nat}(h:OutS K G v t):∃a c,v=.slice a t.length c:=by
 rcases h with⟨id,-,rfl,-⟩|h
 ·exact⟨_,_,rfl⟩
 ·exact h.shape
def OutS.okVar{K:Nat->Prop}{G:List Ob}{v:Value}{t:List Nat}(h:OutS K G v t):okVar v=true:=by
 obtain⟨a,c,rfl⟩:=h.shape;rfl
def OutS.cells{K:Nat->Prop}{G:List Ob}{v:Value}{t:List Nat}(h:OutS K G v t):v.cells.toList=[v]/\v.cells.size=1:=by
 obtain⟨a,c,rfl⟩:=h.shape;exact⟨rfl,rfl⟩
def wob(v:Value):Ob:={c:=[v]}
structure Wr(K:Nat->Prop)(G:List Ob)(wid:Nat)(v:Value)(t:List Nat):Prop where
 ob:G[wid]?=some (wob v)
 kw:K wid
 kl:∀i,K i->i<G.length
 out:OutS K G v t
def Wr.put{K:Nat->Prop}{G:List Ob}{wid:Nat}{v x:Value}{t p:List Nat}(h:Wr K G wid v t)(Y:Go.Ev.lenV x=some p.length)(he:elemsOf G 1 p.length x=some (u8s p))(hb:t.length+p.length<=2^47) :
  ∃v' G' M,ZV 1 1 G v x=some (v',G',none,M)/\G'[wid]?=some (wob v)/\v'.cells.toList=[v']/\v'.cells.size=1/\okVar v'=true/\Wr K (G'.set wid (wob v')) wid v' (t++p)/\(∀i∈M,¬K i)/\G.length<=G'.length/\∀i,K i->i≠wid->(G'.set wid (wob v'))[i]?=G[i]? := by
 obtain⟨v',G',M,k1,E,U,O,J⟩:=h.out.append h.kl Y he hb
 have hw:=(J wid h.kw).trans h.ob
 refine⟨v',G',M,k1,hw,E.cells.1,E.cells.2,E.okVar,⟨by rw[Qu (Qf.1 hw).1],h.kw,fun i hi=>by rw[Qr];exact QJ (h.kl i hi) O,E.setK h.kw _⟩,U,O,fun i hi I =>?_⟩
 rw[Ql (fun e=>I e.symm)]
 exact J i hi
def Wr.app{K:Nat->Prop}{G m:List Ob}{wid:Nat}{v:Value}{t:List Nat}(h:Wr K G wid v t):Wr K (G++m) wid v t :=
 ⟨by rw[Qb (Qf.1 h.ob).1];exact h.ob,h.kw,fun i hi=>by rw[Qh];exact QJ (h.kl i hi) (Nat.le_add_right _ _),h.out.app⟩
def Fz{K:Nat->Prop}{wid:Nat}{v:Value}(h:Wr K G wid v t)(hb:t.length<=2^46) :
  ∃v' G' M,Zp T 60 [.pointer wid,.int .u32 n] G=some (.tuple #[],G',M)/\Wr K G' wid v' (t++id4 n)/\G.length<=G'.length/\(∀i∈M,i=wid\/¬K i)/\∀i,K i->i≠wid->G'[i]?=G[i]? := by
 have s1:(n:Int).fdiv (2^min 24 IntKind.u32.bits)=((n/2^24:Nat):Int):=RA (r:=24) ww
 have s2:(n:Int).fdiv (2^min 16 IntKind.u32.bits)=((n/2^16:Nat):Int):=RA (r:=16) ww
 have Z:(n:Int).fdiv (2^min 8 IntKind.u32.bits)=((n/2^8:Nat):Int):=RA (r:=8) ww
 have Y:=Uk (n/2^24)
 have U:=Uk (n/2^16)
 have O:=Uk (n/2^8)
 have J:=Uk n
 have f2:∀x0 x1 x2 x3:Nat,fillL [Value.int .u8 0,.int .u8 0,.int .u8 0,.int .u8 0] [(0,1,.int .u8 (x0:Int)),(1,1,.int .u8 (x1:Int)),(2,1,.int .u8 (x2:Int)),(3,1,.int .u8 (x3:Int))]=some (u8s [x0,x1,x2,x3]):=fun _ _ _ _=>rfl
 have hx:(G++[({c:=u8s (id4 n)}:Ob)])[G.length]?=some {c:=u8s (id4 n)}:=by rw[Qd (Qj _),Qs];rfl
 have he:elemsOf (G++[({c:=u8s (id4 n)}:Ob)]) 1 (id4 n).length (.slice G.length 4 4)=some (u8s (id4 n)):=by
  exact BI (c:=4) hx
 obtain⟨v',G',M,k1,k2,k3,k4,k5,k6,k7,k8,k9⟩:=(h.app (m:=[({c:=u8s (id4 n)}:Ob)])).put (p:=id4 n) (x := .slice G.length 4 4) rfl he (by show _+4<=_;omega)
 rw[Qh]at k8
 refine⟨v',_,Qz G.length (Qz G.length [] M) [wid],?_,k6,by rw[Qr];omega,?_,fun i hi I =>?_⟩
 ·have o1:=h.ob
  unfold wob id4 at *
  generalize n/2^24%256=x0 at *
  generalize n/2^16%256=x1 at *
  generalize n/2^8%256=x2 at *
  generalize n%256=x3 at *
  generalize n/2^24=y0 at *
  generalize n/2^16=y1 at *
  generalize n/2^8=y2 at *
  have sp:∀a b:Value,splice [a] 0 [b]=[b]:=fun _ _=>rfl
  rw[Q9 (fn:=zx) rfl]
  simp only[zx,Qv,quiet,cW,↓pW,reduceCtorEq,seval,-Qa,f2,s1,s2,Z,Y,U,O,J,o1,k1,k2,k3,k4,k5,sp]
  rfl
 ·intro i hi
  rcases Zv hi with E|E
  ·rcases Zv E with E|E
   ·cases E
   ·exact .inr (k7 i E)
  ·exact .inl (Zu.1 E)
 ·rw[k9 i hi I,Qb (h.kl i hi)]
def shp(k:Int):Option (Nat×Nat×Nat×Bool) :=
 if k=1 then some (4,2,1,false)else if k=2 then some (3,2,0,true)else if k=3 then some (1,2,0,true)else if k=4 then some (3,2,0,false)else if k=5 then some (1,2,1,true)else if k=6 then some (3,3,1,true)else if k=7 then some (1,1,0,true)else none
def shV(a b c:Nat)(d:Bool):List Value:=[.int .i64 a,.int .i64 b,.int .i64 c,.bool d]
def rk(k:Int):Zo T 59 [.int .i64 k]=some (match shp k with|some (a,b,c,d)=>.tuple #[.agg (shV a b c d).toArray,.int .i64 0]|none=>.tuple #[.agg (shV 0 0 0 false).toArray,.int .i64 110]):=by
 have hf:∀(a b c:Int) (d:Bool),fillL [Value.int .i64 0,.int .i64 0,.int .i64 0,.bool false] [(0,1,.int .i64 a),(1,1,.int .i64 b),(2,1,.int .i64 c),(3,1,.bool d)]=some [Value.int .i64 a,.int .i64 b,.int .i64 c,.bool d]:=fun _ _ _ _=>rfl
 have f0:fillL [Value.int .i64 0,.int .i64 0,.int .i64 0,.bool false] []=some [Value.int .i64 0,.int .i64 0,.int .i64 0,.bool false]:=rfl
 have E:∀k,Qz 0 [] [k]=[]:=fun k=>QC wd
 have sp:∀(a b c d e f g h:Value),splice [a,b,c,d] 0 [e,f,g,h]=[e,f,g,h]:=fun _ _ _ _ _ _ _ _=>rfl
 apply X6
 by_cases h:k=1\/k=2\/k=3\/k=4\/k=5\/k=6\/k=7
 ·rcases h with rfl|rfl|rfl|rfl|rfl|rfl|rfl <;>
  ·apply Zk
   rw[Q9 (fn:=qj) rfl]
   simp only[qj,Qv,quiet,cW,↓pW,reduceCtorEq,seval,-Qa,hf,E,sp]
   rfl
 simp only[not_or]at h
 obtain⟨h1,Z,Y,U,O,J,I⟩:=h
 have e:shp k=none:=by unfold shp;simp only[h1,Z,Y,U,O,J,I,if_false]
 rw[e]
 apply Zk
 rw[Q9 (fn:=qj) rfl]
 simp only[qj,Qv,quiet,cW,↓pW,reduceCtorEq,seval,-Qa,f0,E,sp,beq_eq_false_iff_ne.2 h1,beq_eq_false_iff_ne.2 Z,beq_eq_false_iff_ne.2 Y,beq_eq_false_iff_ne.2 U,beq_eq_false_iff_ne.2 O,beq_eq_false_iff_ne.2 J,beq_eq_false_iff_ne.2 I]
 rfl
def Kd{L:List (List Nat)}(E:∀x∈L,x.length=n):L.flatten.length=L.length*n:=by
 induction L with
 |nil=>simp
 |cons a M I=>rw[QO,Qh,I (fun x J=>E x (KZ _ J)),E a wd,Zt,MA,Xu]
def YY{P:List Nat}(I:∀x∈L,x.length=n)(hi:L[i]?=some P):Q5 n (ZT (i*n) (u8s L.flatten))=u8s P/\i*n+n<=(u8s L.flatten).length:=by
 have E:=Qf.1 hi
 have J:=I P (Qw hi)
 have Y:L.flatten=(L.take i).flatten++(P++(L.drop (i+1)).flatten):=by
  rw[<-QO,<-Zz]
  congr 1
  conv=>lhs;rw[<-Z7 i L,List.drop_eq_getElem_cons E.1,E.2]
 have U:(L.take i).flatten.length=i*n:=by
  rw[Kd (n:=n) fun x O=>I x (QG O),Q0,Zg (JH E.1)]
 constructor
 ·rw[Y,JS,JS,<-U,<-Qq,gq,<-J,<-Qq P,List.take_left]
 ·rw[Qq,Kd I]
  have:=ZG n (Nat.succ_le_of_lt E.1)
  rwa[MA]at this
def Sq(G:List Ob)(es:Nat)(cs:List Value)(n:Nat)(v:Value):Prop:=(v=.slice none 0 0/\n=0/\cs=[])\/∃id c w e s,v=.slice (id:Nat) n c/\G[id]?=some ⟨cs,true,w,e,s⟩/\cs.length=n*es
def Sq.app{G m:List Ob}{es:Nat}{cs:List Value}{n:Nat}{v:Value}(h:Sq G es cs n v):Sq (G++m) es cs n v:=by
 rcases h with h|⟨id,c,w,e,s,J,E,I⟩
 ·exact .inl h
 ·exact .inr ⟨id,c,w,e,s,J,by rw[Qb (Qf.1 E).1];exact E,I⟩
def Sq.shape{G:List Ob}{es:Nat}{cs:List Value}{n:Nat}{v:Value}(h:Sq G es cs n v):∃a c,v=.slice a n c:=by
 rcases h with⟨rfl,rfl,-⟩|⟨id,c,w,e,s,rfl,-⟩
 ·exact⟨_,_,rfl⟩
 ·exact⟨_,_,rfl⟩
def KE(B i:Nat):Prop:=i<B+4/\i≠B+2
def U2(B:Nat)(G0 G:List Ob)(t:List Nat):Prop:=∃v,Wr (KE B) G (B+3) v t/\∀i,KE B i->i≠B+3->G[i]?=G0[i]?
def Un{B:Nat}{M:List Nat}(h:∀i∈M,i=B+3\/¬KE B i):Qz B [] M=[]:=QC fun i hi=>by
 rcases h i hi with h|h
 ·omega
 ·rcases ZA i B with E|E
  ·exact absurd ⟨by omega,by omega⟩ h
  ·exact E
def _root_.Go.Value.slBlock(v:Value)(id:Nat):Prop:=match v with | .slice (some a) _ _=>a.block=id|_=>False
def EC(B n:Nat)(pv:Value)(i:Nat)(G:List Ob)(ex:Env):St:=⟨[(1,.pointer B),(4,.pointer (B+1:Nat)),(6,.pointer (B+3:Nat)),(68,pv),(69,.int .i64 n),(70,.int .i64 i)]++ex,G,[]⟩
def oD{P:List Nat}(hs:Sq G0 32 (u8s L.flatten) n pv)(hB:∀id,(∃o,G0[id]?=some o)->pv.slBlock id->id<B)(hL:∀x∈L,x.length=32)(hi:L[i]?=some P)(hin:i<n)(hn:n<=1000)(lt:t.length<=2^40)(h:U2 B G0 G t) :
  ∃G',Q4 T B GH (EC B n pv i G [])=some (.normal,EC B n pv (i+1) G' [])/\U2 B G0 G' (t++P):=by
 rcases hs with⟨-,rfl,-⟩|⟨id,c,w,e,s,rfl,h2,h3⟩
 ·omega
 obtain⟨v,hw,hf⟩:=h
 have E:=hL P (Qw hi)
 obtain⟨c1,c2⟩:=YY hL hi
 have hid:id<B:=hB id ⟨_,h2⟩ rfl
 have g0:∀m,(G++m)[id]?=some ⟨u8s L.flatten,true,w,e,s⟩:=fun m=>by
  have:=(hf id ⟨by omega,by omega⟩ qr).trans h2
  rw[Qb (Qf.1 this).1];exact this
 have O:=g0 []
 rw[QF]at O
 have hx:(G++[({c:=u8s P}:Ob)])[G.length]?=some {c:=u8s P}:=by rw[Qd (Qj _),Qs];rfl
 have he:=BI (c:=32) hx
 rw[E]at he
 obtain⟨v',G',M,k1,k2,k3,k4,k5,k6,k7,k8,k9⟩:=(hw.app (m:=[({c:=u8s P}:Ob)])).put (p:=P) (x := .slice G.length 32 32) (by rw[E];rfl) (by rw[E];exact he) (by rw[E];omega)
 refine⟨_,?_,v',k6,fun j J I=>by rw[k9 j J I,Qb (hw.kl j J)];exact hf j J I⟩
 have o1:=hw.ob
 have o2:(G++[({c:=u8s P}:Ob)])[B+3]?=some (wob v):=hw.app.ob
 have hz:Qc 32 (Value.int .u8 0)=u8s (Qc 32 0):=by simp[u8s]
 have lz:(Qc 32 0).length=32:=Q8
 have sp:∀a b:Value,splice [a] 0 [b]=[b]:=fun _ _=>rfl
 have b3:Jc 32 32 none none none=some (0,32,32):=rfl
 have e1:((i:Int)<(n:Int))=True:=wr
 have w3:IntKind.i64.wrap ((i:Int)+1)=((i+1:Nat):Int):=Zm (b:=1) qr
 have im:Qz B [] M=[]:=Un fun j J=>.inr (k7 j J)
 have Y:Qz B [] [B+3]=[]:=QC wd
 have U:Qz B [] [G.length]=[]:=QC (by have:=hw.kl (B+3) ⟨by omega,by omega⟩;simp;omega)
 unfold wob at *
 clear h3 hf hL hB hw hi k6 k9 he hx
 generalize Qc 32 0=Z,u8s L.flatten=LF at *
 generalize hik:i*32=ik at *
 generalize hi1:i+1=i1 at *
 simp only[EC,GH,Qv,quiet,cW,↓pW,reduceCtorEq,seval,-Qa,hz,hik,e1,w3,O,c1,c2,o2,k1,k2,k3,k4,k5,sp,b3,im,Y,U,E,lz,Qq]
def eS(hs:Sq G0 32 (u8s L.flatten) n pv)(hB:∀id,(∃o,G0[id]?=some o)->pv.slBlock id->id<B)(O:∀x∈L,x.length=32)(hn:L.length=n)(hm:n<=1000)(lt:t.length<=2^30)(h:U2 B G0 G t) :
  ∃G',Q4 T B (.block 1 (.loop GH)) (EC B n pv 0 G [])=some (.normal,EC B n pv n G' [(71,.bool false)])/\U2 B G0 G' (t++L.flatten):=by
 obtain⟨st,hloop,G',rfl,r⟩:=QM (T:=T) (base:=B) (id:=1) (body:=GH)
  (fun k st=>∃G,st=EC B n pv k G []/\U2 B G0 G (t++(L.take k).flatten))
  (Q:=fun st=>∃G,st=EC B n pv n G [(71,.bool false)]/\U2 B G0 G (t++L.flatten))
  n (s:=EC B n pv 0 G []) ⟨G,rfl,by rw[Js,ZB,QF];exact h⟩
  (fun k st Z E=>by
   obtain⟨U,rfl,I⟩:=E
   obtain⟨P,J⟩:∃P,L[k]?=some P:=⟨_,Qg qr⟩
   have lk:(L.take k).flatten.length=k*32:=by rw[Kd (n:=32) fun x Y=>O x (QG Y),Q0,Zg qr]
   obtain⟨G2,b0,b1⟩:=oD hs hB O J Z hm (by rw[Qh,lk];omega) I
   refine⟨_,b0,G2,rfl,?_⟩
   rw[Zh,J,Zz,<-Qx]
   simpa using b1)
  (fun st E=>by
   obtain⟨U,rfl,I⟩:=E
   refine⟨_,?_,U,rfl,by rwa[Qo qr]at I⟩
   simp only[EC,GH,Qv,quiet,cW,↓pW,reduceCtorEq,seval,-Qa])
 exact⟨G',hloop,r⟩
def EA(B n:Nat)(pv:Value)(i:Nat)(G:List Ob)(ex:Env):St:=⟨[(1,.pointer B),(4,.pointer (B+1:Nat)),(6,.pointer (B+3:Nat)),(91,pv),(92,.int .i64 n),(93,.int .i64 i)]++ex,G,[]⟩
def oB{P:List Nat}(hs:Sq G0 64 (u8s L.flatten) n pv)(hB:∀id,(∃o,G0[id]?=some o)->pv.slBlock id->id<B)(hL:∀x∈L,x.length=64)(hi:L[i]?=some P)(hin:i<n)(hn:n<=1000)(lt:t.length<=2^40)(h:U2 B G0 G t) :
  ∃G',Q4 T B GJ (EA B n pv i G [])=some (.normal,EA B n pv (i+1) G' [])/\U2 B G0 G' (t++P):=by
 rcases hs with⟨-,rfl,-⟩|⟨id,c,w,e,s,rfl,h2,h3⟩
 ·omega
 obtain⟨v,hw,hf⟩:=h
 have E:=hL P (Qw hi)
 obtain⟨c1,c2⟩:=YY hL hi
 have hid:id<B:=hB id ⟨_,h2⟩ rfl
 have g0:∀m,(G++m)[id]?=some ⟨u8s L.flatten,true,w,e,s⟩:=fun m=>by
  have:=(hf id ⟨by omega,by omega⟩ qr).trans h2
  rw[Qb (Qf.1 this).1];exact this
 have O:=g0 []
 rw[QF]at O
 have hx:(G++[({c:=u8s P}:Ob)])[G.length]?=some {c:=u8s P}:=by rw[Qd (Qj _),Qs];rfl
 have he:=BI (c:=64) hx
 rw[E]at he
 obtain⟨v',G',M,k1,k2,k3,k4,k5,k6,k7,k8,k9⟩:=(hw.app (m:=[({c:=u8s P}:Ob)])).put (p:=P) (x := .slice G.length 64 64) (by rw[E];rfl) (by rw[E];exact he) (by rw[E];omega)
 refine⟨_,?_,v',k6,fun j J I=>by rw[k9 j J I,Qb (hw.kl j J)];exact hf j J I⟩
 have o1:=hw.ob
 have o2:(G++[({c:=u8s P}:Ob)])[B+3]?=some (wob v):=hw.app.ob
 have hz:Qc 64 (Value.int .u8 0)=u8s (Qc 64 0):=by simp[u8s]
 have lz:(Qc 64 0).length=64:=Q8
 have sp:∀a b:Value,splice [a] 0 [b]=[b]:=fun _ _=>rfl
 have b3:Jc 64 64 none none none=some (0,64,64):=rfl
 have e1:((i:Int)<(n:Int))=True:=wr
 have w3:IntKind.i64.wrap ((i:Int)+1)=((i+1:Nat):Int):=Zm (b:=1) qr
 have im:Qz B [] M=[]:=Un fun j J=>.inr (k7 j J)
 have Y:Qz B [] [B+3]=[]:=QC wd
 have U:Qz B [] [G.length]=[]:=QC (by have:=hw.kl (B+3) ⟨by omega,by omega⟩;simp;omega)
 unfold wob at *
 clear h3 hf hL hB hw hi k6 k9 he hx
 generalize Qc 64 0=Z,u8s L.flatten=LF at *
 generalize hik:i*64=ik at *
 generalize hi1:i+1=i1 at *
 simp only[EA,GJ,Qv,quiet,cW,↓pW,reduceCtorEq,seval,-Qa,hz,hik,e1,w3,O,c1,c2,o2,k1,k2,k3,k4,k5,sp,b3,im,Y,U,E,lz,Qq]
def eO(hs:Sq G0 64 (u8s L.flatten) n pv)(hB:∀id,(∃o,G0[id]?=some o)->pv.slBlock id->id<B)(O:∀x∈L,x.length=64)(hn:L.length=n)(hm:n<=1000)(lt:t.length<=2^30)(h:U2 B G0 G t) :
  ∃G',Q4 T B (.block 5 (.loop GJ)) (EA B n pv 0 G [])=some (.normal,EA B n pv n G' [(94,.bool false)])/\U2 B G0 G' (t++L.flatten):=by
 obtain⟨st,hloop,G',rfl,r⟩:=QM (T:=T) (base:=B) (id:=5) (body:=GJ)
  (fun k st=>∃G,st=EA B n pv k G []/\U2 B G0 G (t++(L.take k).flatten))
  (Q:=fun st=>∃G,st=EA B n pv n G [(94,.bool false)]/\U2 B G0 G (t++L.flatten))
  n (s:=EA B n pv 0 G []) ⟨G,rfl,by rw[Js,ZB,QF];exact h⟩
  (fun k st Z E=>by
   obtain⟨U,rfl,I⟩:=E
   obtain⟨P,J⟩:∃P,L[k]?=some P:=⟨_,Qg qr⟩
   have lk:(L.take k).flatten.length=k*64:=by rw[Kd (n:=64) fun x Y=>O x (QG Y),Q0,Zg qr]
   obtain⟨G2,b0,b1⟩:=oB hs hB O J Z hm (by rw[Qh,lk];omega) I
   refine⟨_,b0,G2,rfl,?_⟩
   rw[Zh,J,Zz,<-Qx]
   simpa using b1)
  (fun st E=>by
   obtain⟨U,rfl,I⟩:=E
   refine⟨_,?_,U,rfl,by rwa[Qo qr]at I⟩
   simp only[EA,GJ,Qv,quiet,cW,↓pW,reduceCtorEq,seval,-Qa])
 exact⟨G',hloop,r⟩
def EB(B n:Nat)(pv:Value)(i:Nat)(G:List Ob)(ex:Env):St:=⟨[(1,.pointer B),(4,.pointer (B+1:Nat)),(6,.pointer (B+3:Nat)),(81,pv),(82,.int .i64 n),(83,.int .i64 i)]++ex,G,[]⟩
def ns32(L:List Nat):List Value:=L.map fun n=>.int .u32 (n:Nat)
def oC{L:List Nat}(hs:Sq G0 1 (ns32 L) n pv)(Z:∀id,(∃o,G0[id]?=some o)->pv.slBlock id->id<B)(hi:L[i]?=some x)(hin:i<n)(hn:n<=1000)(lt:t.length<=2^40)(h:U2 B G0 G t) :
  ∃G',Q4 T B GI (EB B n pv i G [])=some (.normal,EB B n pv (i+1) G' [])/\U2 B G0 G' (t++id4 x):=by
 rcases hs with⟨-,rfl,-⟩|⟨id,c,w,e,s,rfl,h2,h3⟩
 ·omega
 obtain⟨v,hw,I⟩:=h
 have hid:id<B:=Z id ⟨_,h2⟩ rfl
 have g0:G[id]?=some ⟨ns32 L,true,w,e,s⟩:=(I id ⟨by omega,by omega⟩ qr).trans h2
 have c1:(ns32 L)[i]?=some (.int .u32 (x:Nat)):=by rw[ns32,J5,hi];rfl
 obtain⟨v',G',M,k1,U,k3,O,J⟩:=Fz (n:=x) hw qr
 refine⟨_,?_,v',U,fun j Y E=>by rw[J j Y E];exact I j Y E⟩
 have e1:((i:Int)<(n:Int))=True:=wr
 have w3:IntKind.i64.wrap ((i:Int)+1)=((i+1:Nat):Int):=Zm (b:=1) qr
 have im:Qz B [] M=[]:=Un O
 have j1:i*1=i:=Xy i
 clear h3 I Z hw hi U O J
 generalize ns32 L=LF at *
 generalize hi1:i+1=i1 at *
 simp only[EB,GI,Qv,quiet,cW,↓pW,reduceCtorEq,seval,-Qa,j1,e1,w3,g0,c1,k1,im]
def eQ{L:List Nat}(hs:Sq G0 1 (ns32 L) n pv)(Y:∀id,(∃o,G0[id]?=some o)->pv.slBlock id->id<B)(hn:L.length=n)(hm:n<=1000)(lt:t.length<=2^30)(h:U2 B G0 G t) :
  ∃G',Q4 T B (.block 3 (.loop GI)) (EB B n pv 0 G [])=some (.normal,EB B n pv n G' [(84,.bool false)])/\U2 B G0 G' (t++(L.map id4).flatten):=by
 obtain⟨st,hloop,G',rfl,r⟩:=QM (T:=T) (base:=B) (id:=3) (body:=GI)
  (fun k st=>∃G,st=EB B n pv k G []/\U2 B G0 G (t++((L.take k).map id4).flatten))
  (Q:=fun st=>∃G,st=EB B n pv n G [(84,.bool false)]/\U2 B G0 G (t++(L.map id4).flatten))
  n (s:=EB B n pv 0 G []) ⟨G,rfl,by rw[Js,Xj,ZB,QF];exact h⟩
  (fun k st U E=>by
   obtain⟨O,rfl,J⟩:=E
   obtain⟨x,I⟩:∃x,L[k]?=some x:=⟨_,Qg qr⟩
   have lk:((L.take k).map id4).flatten.length=k*4:=by
    rw[Kd (n:=4) fun x I=>by obtain⟨y,-,rfl⟩:=JN.1 I;rfl,XJ,Q0,Zg qr]
   obtain⟨G2,b0,Z⟩:=oC hs Y I U hm (by rw[Qh,lk];omega) J
   refine⟨_,b0,G2,rfl,?_⟩
   rw[Zh,I,XZ,Zz,<-Qx]
   simpa using Z)
  (fun st E=>by
   obtain⟨O,rfl,J⟩:=E
   refine⟨_,?_,O,rfl,by rwa[Qo qr]at J⟩
   simp only[EB,GI,Qv,quiet,cW,↓pW,reduceCtorEq,seval,-Qa])
 exact⟨G',hloop,r⟩
def OutS.toK{K K':Nat->Prop}{G:List Ob}{v:Value}{t:List Nat}(h:OutS K G v t)(E:∀i,¬K i->¬K' i):OutS K' G v t:=by
 rcases h with⟨id,J,O,I⟩|h
 ·exact .inl ⟨id,E _ J,O,I⟩
 ·exact .inr (h.toK E)
def Sq.lt{G:List Ob}{es:Nat}{cs:List Value}{n:Nat}{v:Value}(h:Sq G es cs n v)(id:Nat)(hb:v.slBlock id):id<G.length:=by
 rcases h with⟨rfl,-⟩|⟨j,c,w,e,s,rfl,E,-⟩
 ·exact hb.elim
 ·have:j=id:=hb
  subst this
  exact(Qf.1 E).1
structure DPart(H:List Ob)(v:Value)(l:List Nat):Prop where
 shape:∃(a:Option Addr) (c:Nat),v=.slice a l.length c
 reads:∀G:List Ob,(∀i,i<H.length->G[i]?=H[i]?)->elemsOf G 1 l.length v=some (u8s l)
def DPart.app{H m:List Ob}{v:Value}{l:List Nat}(h:DPart H v l):DPart (H++m) v l :=
 ⟨h.shape,fun G E=>h.reads G fun i hi=>(E i (by rw[Qh];omega)).trans (Qb hi)⟩
structure FrV(H:List Ob)(ka na sa da:Value)(kl:List (List Nat))(nl:List Nat)(sl:List (List Nat))(dl:List Nat):Prop where
 kz:Sq H 32 (u8s kl.flatten) kl.length ka
 kx:∀x∈kl,x.length=32
 nz:Sq H 1 (ns32 nl) nl.length na
 sz:Sq H 64 (u8s sl.flatten) sl.length sa
 sx:∀x∈sl,x.length=64
 dz:DPart H da dl
def frB(k:Int)(kl:List (List Nat))(nl:List Nat)(sl:List (List Nat))(dl:List Nat)(d:Bool):List Nat:=[k.toNat]++kl.flatten++(nl.map id4).flatten++sl.flatten++(if d then id4 dl.length++dl else[])
def frE(k:Int)(a b c n:Nat):Int:=match shp k with
 |none=>110
 |some (x,y,z,d)=>if a=x/\b=y/\c=z/\(d=true\/n=0)then(if 16384<n then 2 else 0)else 110
def iH{k:Int}{y z:Nat}{d:Bool}(h:shp k=some (x,y,z,d)):IntKind.u8.wrap k=((k.toNat:Nat):Int)/\k.toNat<256/\x<=4/\y<=3/\z<=1:=by
 unfold shp at h
 repeat' split at h
 all_goals first|(cases h;subst_vars;decide)|cases h
def Gs{k:Int}{kl:List (List Nat)}{nl:List Nat}{sl:List (List Nat)}{dl:List Nat}(h:FrV H ka na sa da kl nl sl dl) :
  ∃v l,Zp T 23 [.agg #[.int .i64 k,ka,na,sa,da]] H=some (.tuple #[v,.int .i64 (frE k kl.length nl.length sl.length dl.length)],H++l,[]) /\
   ((∀x y z d,shp k=some (x,y,z,d)->frE k kl.length nl.length sl.length dl.length=0->OutS (LtN H.length) (H++l) v (frB k kl nl sl dl d))/\(frE k kl.length nl.length sl.length dl.length≠0->v=.slice none 0 0)):=by
 have E:=rk k
 obtain⟨_,_,sk⟩:=h.kz.shape
 obtain⟨_,_,sn⟩:=h.nz.shape
 obtain⟨_,_,ss⟩:=h.sz.shape
 obtain⟨_,_,sd⟩:=h.dz.shape
 have n1:vLen false ka=some (.int .i64 kl.length):=by rw[sk];rfl
 have n2:vLen false na=some (.int .i64 nl.length):=by rw[sn];rfl
 have n3:vLen false sa=some (.int .i64 sl.length):=by rw[ss];rfl
 have n4:vLen false da=some (.int .i64 dl.length):=by rw[sd];rfl
 have hd4:Go.Ev.lenV da=some dl.length:=by rw[sd];rfl
 clear sk sn ss sd
 have U:∀(a b c d e f g h:Value),splice [a,b,c,d] 0 [e,f,g,h]=[e,f,g,h]:=fun _ _ _ _ _ _ _ _=>rfl
 have g0:∀o1:Ob,(H++[o1])[H.length]?=some o1:=fun _=>by rw[Qd (Qj _),Qs];rfl
 have g00:∀o1 o2:Ob,(H++[o1,o2])[H.length]?=some o1:=fun _ _=>by rw[Qd (Qj _),Qs];rfl
 have g01:∀o1 o2:Ob,(H++[o1,o2])[H.length+1]?=some o2:=fun _ _=>by rw[Qd qr,Qt];rfl
 have O:∀o1 o2 o:Ob,(H++[o1,o2]).set (H.length+1) o=H++[o1,o]:=fun _ _ _=>by rw[Q1 _ _ qr,Qt];rfl
 have im1:∀i,Qz H.length [] [H.length+i]=[]:=fun i=>QC wd
 have ok1:∀L:List Value,(Value.agg L.toArray).cells.toList=L:=fun _=>rfl
 have Z:∀L:List Value,(Value.agg L.toArray).cells.size=L.length:=fun _=>rfl
 have Y:∀L:List Value,okVar (Value.agg L.toArray)=true:=fun _=>rfl
 have bad:∀c:Int,c≠0->frE k kl.length nl.length sl.length dl.length=c->(∃l,Zp T 23 [.agg #[.int .i64 k,ka,na,sa,da]] H=some (.tuple #[.slice none 0 0,.int .i64 c],H++l,[])) ->
   ∃v l,Zp T 23 [.agg #[.int .i64 k,ka,na,sa,da]] H=some (.tuple #[v,.int .i64 (frE k kl.length nl.length sl.length dl.length)],H++l,[]) /\
    ((∀x y z d,shp k=some (x,y,z,d)->frE k kl.length nl.length sl.length dl.length=0->OutS (LtN H.length) (H++l) v (frB k kl nl sl dl d))/\(frE k kl.length nl.length sl.length dl.length≠0->v=.slice none 0 0)):=by
  rintro c hc he ⟨l,hl⟩
  exact⟨_,l,by rw[he];exact hl,fun _ _ _ _ _ h0=>absurd (he.symm.trans h0) hc,fun _=>rfl⟩
 obtain hsh|⟨x,y,z,d,hsh⟩:shp k=none\/∃x y z d,shp k=some (x,y,z,d):=by
  rcases shp k with _|⟨x,y,z,d⟩
  ·exact .inl rfl
  ·exact .inr ⟨x,y,z,d,rfl⟩
 ·have I:rf (.tuple #[.agg #[Value.int .i64 0,.int .i64 0,.int .i64 0,.bool false],.int .i64 110])=true:=rfl
  rw[hsh]at E
  have hv:shV 0 0 0 false=[Value.int .i64 0,.int .i64 0,.int .i64 0,.bool false]:=rfl
  simp only[hv]at E
  refine bad 110 ww (by unfold frE;rw[hsh]) (Zk ?_ ?_)
  rotate_left
  ·rw[Q9 (fn:=BU) rfl]
   simp only[BU,Qv,quiet,cW,↓pW,reduceCtorEq,seval,-Qa,E,I,g0,g01,O,im1,ok1,Z,Y,U]
   rfl
 ·rw[hsh]at E
  simp only[shV]at E
  have I:rf (.tuple #[.agg #[Value.int .i64 x,.int .i64 y,.int .i64 z,.bool d],.int .i64 0])=true:=rfl
  obtain⟨wk,kb,lx,ly,lz⟩:=iH hsh
  by_cases q1:kl.length=x
  ·have b1:(((kl.length:Nat):Int) != (x:Int))=false:=by simp;omega
   by_cases q2:nl.length=y
   ·have b2:(((nl.length:Nat):Int) != (y:Int))=false:=by simp;omega
    by_cases q3:sl.length=z
    ·have b3:(((sl.length:Nat):Int) != (z:Int))=false:=by simp;omega
     obtain⟨G0,hG0⟩:∃X,X=H++[({c:=[.int .i64 k,ka,na,sa,da]}:Ob),{c:=[.int .i64 x,.int .i64 y,.int .i64 z,.bool d]},{c:=u8s [k.toNat]},wob (.slice (H.length+2:Nat) 1 1)]:=⟨_,rfl⟩
     have lG0:G0.length=H.length+4:=by rw[hG0];simp
     have gi:∀j o,[({c:=[.int .i64 k,ka,na,sa,da]}:Ob),{c:=[.int .i64 x,.int .i64 y,.int .i64 z,.bool d]},{c:=u8s [k.toNat]},wob (.slice (H.length+2:Nat) 1 1)][j]?=some o->G0[H.length+j]?=some o:=fun j o hj=>by rw[hG0,Qd qr,Qt];exact hj
     have inv0:U2 H.length G0 G0 [k.toNat]:=⟨_,⟨gi 3 _ rfl,⟨by omega,by omega⟩,fun i hi=>by rw[lG0];exact hi.1,.inl ⟨H.length+2,fun J=>J.2 rfl,rfl,gi 2 _ rfl⟩⟩,fun _ _ _=>rfl⟩
     have hap:∀ {es cs n v},Sq H es cs n v->Sq G0 es cs n v:=fun J=>by rw[hG0];exact J.app
     have lkf:kl.flatten.length<=1000:=by rw[Kd h.kx];omega
     have lnf:(nl.map id4).flatten.length<=1000:=by rw[Kd (n:=4) fun x hx=>by obtain⟨y,-,rfl⟩:=JN.1 hx;rfl,XJ];omega
     have lsf:sl.flatten.length<=1000:=by rw[Kd h.sx];omega
     obtain⟨G1,m1,i1⟩:=eS (hap h.kz) (fun id _ hb=>h.kz.lt id hb) h.kx rfl qr (by show 1<=_;decide) inv0
     obtain⟨G2,m2,i2⟩:=eQ (hap h.nz) (fun id _ hb=>h.nz.lt id hb) rfl qr (by simp only[Qh,Zt,Z9];omega) i1
     obtain⟨G3,m3,i3⟩:=eO (hap h.sz) (fun id _ hb=>h.sz.lt id hb) h.sx rfl qr (by simp only[Qh,Zt,Z9];omega) i2
     have fr:∀ {G t},U2 H.length G0 G t->G[H.length]?=some {c:=[.int .i64 k,ka,na,sa,da]}/\G[H.length+1]?=some {c:=[.int .i64 x,.int .i64 y,.int .i64 z,.bool d]}/\(∀i,i<H.length->G[i]?=H[i]?):=fun⟨_,_,hf⟩ =>
      ⟨(hf _ ⟨by omega,by omega⟩ qr).trans (gi 0 _ rfl),(hf _ ⟨by omega,by omega⟩ qr).trans (gi 1 _ rfl),fun i hi=>by rw[hf i ⟨by omega,by omega⟩ qr,hG0,Qb hi]⟩
     obtain⟨p10,p11,-⟩:=fr i1
     obtain⟨p20,p21,-⟩:=fr i2
     obtain⟨p30,p31,p32⟩:=fr i3
     have F0:H++[({c:=[.int .i64 k,ka,na,sa,da]}:Ob),{c:=[.int .i64 x,.int .i64 y,.int .i64 z,.bool d]},{c:=u8s [k.toNat]},{c:=[.slice (H.length+2:Nat) 1 1]}]=G0:=hG0.symm
     have p00:G0[H.length]?=_:=gi 0 _ rfl
     have p01:G0[H.length+1]?=_:=gi 1 _ rfl
     have fk1:fillL [Value.int .u8 0] [(0,1,.int .u8 (k.toNat:Nat))]=some (u8s [k.toNat]):=rfl
     have fw1:∀a:Addr,fillL [Value.slice none 0 0] [(0,1,.slice (some a) 1 1)]=some [.slice (some a) 1 1]:=fun _=>rfl
     have s1:∀a b:Value,splice [a] 0 [b]=[b]:=fun _ _=>rfl
     have e4:∀o1 o2 o3 o4:Ob,(H++[o1,o2,o3,o4])[H.length+3]?=some o4:=fun _ _ _ _=>by rw[Qd qr,Qt];rfl
     have e5:∀o1 o2 o3 o4 o:Ob,(H++[o1,o2,o3,o4]).set (H.length+3) o=H++[o1,o2,o3,o]:=fun _ _ _ _ _=>by rw[Q1 _ _ qr,Qt];rfl
     simp only[EC,EB,EA,Qp,Qn,show((0:Nat):Int)=0 from rfl]at m1 m2 m3
     obtain⟨v3,w3,f3⟩:=i3
     have lt3:([k.toNat]++kl.flatten++(nl.map id4).flatten++sl.flatten).length<=4000:=by simp only[Qh,Zt,Z9];omega
     cases d
     ·by_cases q4:dl.length=0
      ·have c1:((0:Int)<(dl.length:Int))=False:=ut
       have c2:((16384:Int)<(dl.length:Int))=False:=ut
       have hE:frE k kl.length nl.length sl.length dl.length=0:=by
        unfold frE;rw[hsh];simp only[q1,q2,q3,q4,and_self,or_true,if_true];rfl
       obtain⟨l,hl⟩:=XI (by have:=w3.kl (H.length+3) ⟨by omega,by omega⟩;omega) p32
       have ow:=w3.ob
       unfold wob at ow
       refine⟨v3,l,?_,fun _ _ _ _ e _ =>?_,fun J=>absurd hE J⟩
       ·rw[hE,<-hl]
        clear i1 i2 inv0 gi fr hG0 hap f3 w3 p32 lt3
        rw[Q9 (fn:=BU) rfl]
        simp only[BU,Qv,quiet,cW,↓pW,reduceCtorEq,seval,-Qa,E,I,g0,g00,g01,O,im1,ok1,Z,Y,n1,n2,n3,n4,U,b1,b2,b3,c1,c2,wk,fk1,fw1,s1,e4,e5,F0,p00,m1,p10,m2,p20,m3,p31,ow]
       ·rw[hsh]at e
        cases e
        rw[<-hl]
        refine OutS.toK (K:=KE H.length) ?_ (fun i hi h'=>hi ⟨by have:i<H.length:=h';omega,by have:i<H.length:=h';omega⟩)
        have:=w3.out
        simpa [frB]using this
      ·have c1:((0:Int)<(dl.length:Int))=True:=wr
       refine bad 110 ww (by unfold frE;rw[hsh];exact if_neg fun J=>by rcases J.2.2.2 with J|J;cases J;exact q4 J) (Zk ?_ ?_)
       rotate_left
       ·rw[Q9 (fn:=BU) rfl]
        simp only[BU,Qv,quiet,cW,↓pW,reduceCtorEq,seval,-Qa,E,I,g0,g00,g01,O,im1,ok1,Z,Y,n1,n2,n3,n4,U,b1,b2,b3,c1]
        rfl
     ·by_cases q4:16384<dl.length
      ·have c2:((16384:Int)<(dl.length:Int))=True:=wr
       refine bad 2 ww (by unfold frE;rw[hsh];simp only[q1,q2,q3,q4,and_self,true_or,if_true]) (Zk ?_ ?_)
       rotate_left
       ·rw[Q9 (fn:=BU) rfl]
        simp only[BU,Qv,quiet,cW,↓pW,reduceCtorEq,seval,-Qa,E,I,g0,g00,g01,O,im1,ok1,Z,Y,n1,n2,n3,n4,U,b1,b2,b3,c2]
        rfl
      ·have c2:((16384:Int)<(dl.length:Int))=False:=ut
       have hE:frE k kl.length nl.length sl.length dl.length=0:=by
        unfold frE;rw[hsh];simp only[q1,q2,q3,q4,and_self,true_or,if_true,if_false]
       obtain⟨v4,G4,M4,k1,k2,k3,k4,k5⟩:=Fz (n:=dl.length) w3 qr
       have im4:Qz H.length [] M4=[]:=Un k4
       have p42:∀i,i<H.length->G4[i]?=H[i]? := fun i hi=>(k5 i ⟨by omega,by omega⟩ qr).trans (p32 i hi)
       have p40:=(k5 H.length ⟨by omega,by omega⟩ qr).trans p30
       obtain⟨v5,G5,M5,j1,j2,j3,j4,j5,j6,j7,j8,j9⟩:=k2.put hd4 (h.dz.reads G4 p42) (by rw[Qh];show _+4+_<=_;omega)
       have im5:Qz H.length [] M5=[]:=Un fun i hi=>.inr (j7 i hi)
       obtain⟨l,hl⟩:∃l,G5.set (H.length+3) (wob v5)=H++l:=XI (by have:=k2.kl (H.length+3) ⟨by omega,by omega⟩;rw[Qr];omega) fun i hi=>(j9 i ⟨by omega,by omega⟩ qr).trans (p42 i hi)
       have ow4:=k2.ob
       have ow5:=j6.ob
       have wu:IntKind.u32.wrap (dl.length:Int)=(dl.length:Nat):=by
        have:=HD (n:=dl.length) qr
        exact this
       refine⟨v5,l,?_,fun _ _ _ _ e _ =>?_,fun J=>absurd hE J⟩
       ·rw[hE,<-hl]
        unfold wob at *
        clear i1 i2 inv0 gi fr hG0 hap f3 w3 p32 lt3 k2 j6 k4 k5 j7 j9 p42
        rw[Q9 (fn:=BU) rfl]
        simp only[BU,Qv,quiet,cW,↓pW,reduceCtorEq,seval,-Qa,E,I,g0,g00,g01,O,im1,im4,im5,ok1,Z,Y,n1,n2,n3,n4,U,b1,b2,b3,c2,wk,wu,fk1,fw1,s1,e4,e5,F0,p00,m1,p10,m2,p20,m3,p30,p31,k1,p40,ow4,j1,j2,j3,j4,j5,ow5]
       ·rw[hsh]at e
        cases e
        rw[<-hl]
        refine OutS.toK (K:=KE H.length) ?_ (fun i hi h'=>hi ⟨by have:i<H.length:=h';omega,by have:i<H.length:=h';omega⟩)
        have:=j6.out
        simpa [frB]using this
    ·have b3:(((sl.length:Nat):Int) != (z:Int))=true:=by simp;omega
     refine bad 110 ww (by unfold frE;rw[hsh];exact if_neg fun J=>q3 J.2.2.1) (Zk ?_ ?_)
     rotate_left
     ·rw[Q9 (fn:=BU) rfl]
      simp only[BU,Qv,quiet,cW,↓pW,reduceCtorEq,seval,-Qa,E,I,g0,g00,g01,O,im1,ok1,Z,Y,n1,n2,n3,U,b1,b2,b3]
      rfl
   ·have b2:(((nl.length:Nat):Int) != (y:Int))=true:=by simp;omega
    refine bad 110 ww (by unfold frE;rw[hsh];exact if_neg fun J=>q2 J.2.1) (Zk ?_ ?_)
    rotate_left
    ·rw[Q9 (fn:=BU) rfl]
     simp only[BU,Qv,quiet,cW,↓pW,reduceCtorEq,seval,-Qa,E,I,g0,g00,g01,O,im1,ok1,Z,Y,n1,n2,U,b1,b2]
     rfl
  ·have b1:(((kl.length:Nat):Int) != (x:Int))=true:=by simp;omega
   refine bad 110 ww (by unfold frE;rw[hsh];exact if_neg fun J=>q1 J.1) (Zk ?_ ?_)
   rotate_left
   ·rw[Q9 (fn:=BU) rfl]
    simp only[BU,Qv,quiet,cW,↓pW,reduceCtorEq,seval,-Qa,E,I,g0,g00,g01,O,im1,ok1,Z,Y,n1,U,b1]
    rfl
def FrV.app{H m:List Ob}{ka na sa da:Value}{kl:List (List Nat)}{nl:List Nat}{sl:List (List Nat)}{dl:List Nat}(h:FrV H ka na sa da kl nl sl dl):FrV (H++m) ka na sa da kl nl sl dl :=
 ⟨h.kz.app,h.kx,h.nz.app,h.sz.app,h.sx,h.dz.app⟩
def Sq.some_of{G:List Ob}{es:Nat}{cs:List Value}{n:Nat}{v:Value}(h:Sq G es cs n v)(hn:0<n):∃id c w e s,v=.slice (id:Nat) n c/\G[id]?=some ⟨cs,true,w,e,s⟩/\cs.length=n*es:=by
 rcases h with⟨-,h,-⟩|h
 ·omega
 ·exact h
def HH{p q r v:List Nat}(h:v.length=q.length)(hp:p.length=n):splice (u8s (p++(q++r))) n (u8s v)=u8s (p++(v++r)):=by
 have:=EO (a:=u8s p) (b:=u8s (q++r)) (v:=u8s v) (n:=n) (k:=0) (by rw[Qq,hp]) (by rw[Qq,Qq,Qh];omega)
 rw[ZM]at this
 rw[JS,this,JS q,EP (by rw[Qq,Qq,h]),<-JS,<-JS]
def JF(nm:List Nat)(e m:Nat):List Nat:=frB 5 [nm] [e,m] [Qc 64 0] [] true
def AO(hk:Sq H 32 (u8s nm) 1 ka)(hn:Sq H 1 (ns32 [e,m]) 2 na)(lk:nm.length=32) :
  ∃v l,Zp T 24 [.agg #[.int .i64 5,ka,na,sa,da]] H=some (v,H++l,[])/\OutS (LtN H.length) (H++l) v (JF nm e m):=by
 have I:=YE
 have lz:(Qc 64 0).length=64:=Q8
 obtain⟨J,E⟩:∃X,X=[({c:=[.int .i64 5,ka,na,.slice (H.length+1:Nat) 1 1,.slice none 0 0]}:Ob),{c:=u8s (Qc 64 0)}]:=⟨_,rfl⟩
 have g1:(H++J)[H.length+1]?=some {c:=u8s (Qc 64 0)}:=by rw[E,Qd qr,Qt];rfl
 have F:FrV (H++J) ka na (.slice (H.length+1:Nat) 1 1) (.slice none 0 0) [nm] [e,m] [Qc 64 0] [] :=
  ⟨by rw[show[nm].flatten=nm by simp];exact hk.app,fun x hx=>by rw[Zu.1 hx];exact lk,hn.app,.inr ⟨_,1,_,_,_,rfl,by rw[show[Qc 64 0].flatten=Qc 64 0 by simp];exact g1,by rw[Qq];simp⟩,fun x hx=>by rw[Zu.1 hx];exact lz,⟨⟨_,_,rfl⟩,fun _ _=>rfl⟩⟩
 obtain⟨v,l,he,q1,-⟩:=Gs (k:=5) F
 have hE:frE 5 [nm].length [e,m].length [Qc 64 0].length ([]:List Nat).length=0:=rfl
 have Y:=q1 1 2 1 true rfl hE
 rw[hE,Qx]at he
 rw[Qx]at Y
 refine⟨v,J++l,?_,Y.toK fun i hi h=>hi (by have:i<H.length:=h;show i<(H++J).length;rw[Qh];omega)⟩
 have g00:J[0]?=some {c:=[.int .i64 5,ka,na,.slice (H.length+1:Nat) 1 1,.slice none 0 0]}:=by rw[E];rfl
 have h1:=E.symm
 have f64:=D9 lz
 rw[I]at f64
 have fz:∀L:List Value,fillL L []=some L:=fun _=>rfl
 have ok1:∀L:List Value,(Value.agg L.toArray).cells.toList=L:=fun _=>rfl
 have Z:∀L:List Value,okVar (Value.agg L.toArray)=true:=fun _=>rfl
 have e3:∀U O:Ob,(H++[U,O])[H.length]?=some U:=fun _ _=>by rw[Qd (Qj _),Qs];rfl
 have t3:∀U O o:Ob,(H++[U,O]).set H.length o=H++[o,O]:=fun _ _ _=>by rw[Q1 _ _ (Qj _),Qs];rfl
 have cl5:∀a b c d e:Value,Q5 5 [a,b,c,d,e]=[a,b,c,d,e]:=fun _ _ _ _ _=>rfl
 clear E F q1 Y hE
 generalize Qc 64 0=Z64 at *
 rw[Q9 (fn:=ze) rfl]
 simp only[ze,Qv,quiet,cW,↓pW,reduceCtorEq,seval,-Qa,he,g00,h1,f64,fz,I,e3,t3,cl5,ok1,Z]
def IF(E:nm.length=32):(plc nm e m key tl)[32]?=some (.int .u32 e):=by
 rw[plc,Qd (by rw[Qq,E];decide),Qq,E];rfl
def Tr(E:nm.length=32):Q5 32 (plc nm e m key tl)=u8s nm:=by
 rw[plc,X4 (by rw[Qq,E])]
def Du(I:nm.length=32)(E:key.length=32):ZT 66 (plc nm e m key tl)=tl:=by
 rw[Bw]
 exact XL (JM (tl:=[]) I E)
def eY{a b c:List Nat}(I:a.length=32)(J:b.length=32)(lc:c.length=32):fillL (Qc 96 (Value.int .u8 0)) [(0,32,.agg (u8s a).toArray),(32,32,.agg (u8s b).toArray),(64,32,.agg (u8s c).toArray)]=some (u8s [a,b,c].flatten):=by
 have hz:Qc 96 (Value.int .u8 0)=u8s (zK++(zK++(zK++[]))):=rfl
 have O:∀l:List Nat,(Value.agg (u8s l).toArray).cells.toList=u8s l:=fun _=>rfl
 have E:=gD
 have L:∀ {w x y:List Nat},w.length=32->x.length=32->y.length=32->(u8s (w++(x++(y++[])))).length=96:=fun hw hx hy=>by simp[Qq,hw,hx,hy]
 have Z:=HH (p:=[]) (q:=zK) (v:=a) (r:=zK++(zK++[])) (I.trans E.symm) (n:=0) rfl
 have Y:=HH (p:=a) (q:=zK) (v:=b) (r:=zK++[]) (J.trans E.symm) I
 have U:=HH (p:=a++b) (q:=zK) (v:=c) (r:=[]) (lc.trans E.symm) (n:=64) (by rw[Qh,I,J])
 simp only[Qx,Qn]at Z Y U
 rw[hz,Km (Y8 I) (by rw[L E E E];decide) rfl,O,Z,Km (Y8 J) (by rw[L I E E];decide) rfl,O,Y,
  Km (Y8 lc) (by rw[L I J E];decide) rfl,O,U]
 rfl
def I1(nm key sg pub:List Nat)(e m B:Nat):List Ob:=[{c:=plc nm e m key (u8s sg)},{c:=[.int .i64 4,.slice (B+2:Nat) 3 3,.slice (B+3:Nat) 2 2,.slice none 0 0,.slice none 0 0]},{c:=u8s [nm,key,pub].flatten},{c:=ns32 [e,m]}]
def Nf(J:nm.length=32)(Z:key.length=32)(U:B32 sg) :
  Zp T 12 [.agg (plc nm e m key (u8s sg)).toArray] H=some (.agg #[.int .i64 4,.slice (H.length+2:Nat) 3 3,.slice (H.length+3:Nat) 2 2,.slice none 0 0,.slice none 0 0],H++I1 nm key sg (Kj sg) e m H.length,[]):=by
 have n0:=JM (e:=e) (m:=m) (tl:=u8s sg) J Z
 rw[Qq,U.len]at n0
 have r1:=Tr (e:=e) (m:=m) (key:=key) (tl:=u8s sg) J
 have r2:=br (e:=e) (m:=m) (tl:=u8s sg) J Z
 have r3:Q5 32 (ZT 66 (plc nm e m key (u8s sg)))=u8s sg:=by rw[Du J Z];exact Q7 (by rw[Qq,U.len])
 have r4:=IF (e:=e) (m:=m) (key:=key) (tl:=u8s sg) J
 have r5:=Vw (e:=e) (m:=m) (key:=key) (tl:=u8s sg) J
 have hp:=kR U.len U.lt
 have lp:=Bv sg
 have f3:=eY J Z lp
 have f2:fillL [Value.int .u32 0,.int .u32 0] [(0,1,.int .u32 (e:Int)),(1,1,.int .u32 (m:Int))]=some [.int .u32 (e:Int),.int .u32 (m:Int)]:=rfl
 have f5:∀a b:Addr,fillL [Value.int .i64 0,.slice none 0 0,.slice none 0 0,.slice none 0 0,.slice none 0 0] [(0,1,.int .i64 4),(1,1,.slice (some a) 3 3),(2,1,.slice (some b) 2 2)]=some [.int .i64 4,.slice (some a) 3 3,.slice (some b) 2 2,.slice none 0 0,.slice none 0 0]:=fun _ _=>rfl
 have sp5:∀(a b c d e a' b' c' d' e':Value),splice [a,b,c,d,e] 0 [a',b',c',d',e']=[a',b',c',d',e']:=fun _ _ _ _ _ _ _ _ _ _=>rfl
 have cl5:∀a b c d e:Value,Q5 5 [a,b,c,d,e]=[a,b,c,d,e]:=fun _ _ _ _ _=>rfl
 have e2:∀E I:Ob,(H++[E,I])[H.length]?=some E:=fun _ _=>by rw[Qd (Qj _),Qs];rfl
 have e3:∀E I O:Ob,(H++[E,I,O])[H.length]?=some E:=fun _ _ _=>by rw[Qd (Qj _),Qs];rfl
 have e4:∀E I O Y:Ob,(H++[E,I,O,Y])[H.length+1]?=some I:=fun _ _ _ _=>by rw[Qd qr,Qt];rfl
 have t4:∀E I O Y o:Ob,(H++[E,I,O,Y]).set (H.length+1) o=H++[E,o,O,Y]:=fun _ _ _ _ _=>by rw[Q1 _ _ qr,Qt];rfl
 have im1:Qz H.length [] [H.length+1]=[]:=QC wd
 have ok1:∀L:List Value,(Value.agg L.toArray).cells.toList=L:=fun _=>rfl
 have ok2:∀L:List Value,(Value.agg L.toArray).cells.size=L.length:=fun _=>rfl
 have ok3:∀L:List Value,okVar (Value.agg L.toArray)=true:=fun _=>rfl
 have an:ns32 [e,m]=[.int .u32 e,.int .u32 m]:=rfl
 have hzf:Xs=[Value.int .i64 0,.slice none 0 0,.slice none 0 0,.slice none 0 0,.slice none 0 0]:=rfl
 have l3:=U.len
 unfold I1
 rw[an]
 clear U
 generalize u8s [nm,key,Kj sg].flatten=KF at *
 generalize plc nm e m key (u8s sg)=S,Kj sg=pub at *
 rw[Q9 (fn:=zh) rfl]
 simp only[zh,Qv,quiet,cW,↓pW,reduceCtorEq,seval,-Qa,r1,r2,r3,r4,r5,hp,f3,f2,f5,sp5,cl5,e2,e3,e4,t4,im1,ok1,ok2,ok3,n0,hzf]
def iG(Y:nm.length=32)(U:key.length=32)(O:pub.length=32):FrV (H++I1 nm key sg pub e m H.length) (.slice (H.length+2:Nat) 3 3) (.slice (H.length+3:Nat) 2 2) (.slice none 0 0) (.slice none 0 0) [nm,key,pub] [e,m] [] []:=by
 have I:∀x∈[nm,key,pub],x.length=32:=fun x E=>by
  simp only[J8,Xl,or_false]at E
  rcases E with rfl|rfl|rfl
  ·exact Y
  ·exact U
  ·exact O
 have J:∀i ob,(I1 nm key sg pub e m H.length)[i]?=some ob->(H++I1 nm key sg pub e m H.length)[H.length+i]?=some ob:=fun i ob hm=>by rw[Qd qr,Qt];exact hm
 exact⟨.inr ⟨_,3,_,_,_,rfl,J 2 _ rfl,by rw[Qq,Kd I]⟩,I,.inr ⟨_,2,_,_,_,rfl,J 3 _ rfl,rfl⟩,.inl ⟨rfl,rfl,rfl⟩,fun x E=>absurd E wd,⟨⟨_,_,rfl⟩,fun _ _=>rfl⟩⟩
def Oz(E:nm.length=32)(J:key.length=32):fillL T9 [(0,32,.agg (u8s nm).toArray),(32,1,.int .u32 (e:Nat)),(33,1,.int .u32 (m:Nat)),(34,32,.agg (u8s key).toArray)]=some (plc nm e m key []):=by
 have O:∀l:List Nat,(Value.agg (u8s l).toArray).cells.toList=u8s l:=fun _=>rfl
 have I:(Qc 32 0).length=32:=rfl
 have l0:=JM (e:=0) (m:=0) (tl:=[]) I I
 have Z:=JM (e:=0) (m:=0) (tl:=[]) E I
 have Y:=JM (e:=e) (m:=0) (tl:=[]) E I
 have U:=JM (e:=e) (m:=m) (tl:=[]) E I
 rw[EK,Km (Y8 E) (by rw[l0];decide) rfl,O,Fk I E,Km (n:=1) rfl (by rw[Z];decide) rfl,show(Value.int .u32 (e:Nat)).cells.toList=[.int .u32 (e:Nat)] from rfl,XP,Fl E,
  Km (n:=1) rfl (by rw[Y];decide) rfl,show(Value.int .u32 (m:Nat)).cells.toList=[.int .u32 (m:Nat)] from rfl,XP,Ao E,Km (Y8 J) (by rw[U];decide) rfl,O,HQ E I J,fillL]
def gE:XG=plc (Qc 32 0) 0 0 (Qc 32 0) []++(u8s (Qc 32 0)++[.slice none 0 0]):=rfl
def ff(Z:nm.length=32)(Y:key.length=32)(J:pub.length=32):fillL XG [(0,66,.agg (plc nm e m key []).toArray),(66,32,.agg (u8s pub).toArray)]=some (plc nm e m key (u8s pub++[.slice none 0 0])):=by
 have U:∀l:List Value,(Value.agg l.toArray).cells.toList=l:=fun _=>rfl
 have I:(Qc 32 0).length=32:=rfl
 have O:=JM (e:=0) (m:=0) (tl:=[]) I I
 have E:=JM (e:=e) (m:=m) (tl:=[]) Z Y
 have c1:(Value.agg (plc nm e m key []).toArray).cells.size=66:=E
 rw[gE,Km c1 (by simp only[Qh,O];decide) rfl,U,Rc (by rw[O,E]),Km (Y8 J) (by simp only[Qh,E,Qq];decide) rfl,U,
  EO (n:=66) (k:=0) E (by simp only[Qh,Qq,J];decide),EP (by rw[Qq,Qq,J,I]),fillL,<-Bw]
def FP{E k1 k2:List Nat}{j:Nat}(h:FrV H ka na sa da [E,k1,k2] [i,j] [] []) :
  ∃l,Zp T 11 [.agg #[.int .i64 4,ka,na,sa,da]] H=some (.tuple #[.agg (plc E i j k1 (u8s k2++[.slice none 0 0])).toArray,.int .i64 0],H++l,[]):=by
 obtain⟨v,l,he,-⟩:=Gs (k:=4) (h.app (m:=[({c:=[.int .i64 4,ka,na,sa,da]}:Ob),{c:=XG}]))
 rw[show frE 4 [E,k1,k2].length [i,j].length ([]:List (List Nat)).length ([]:List Nat).length=0 from rfl]at he
 obtain⟨G,I⟩:∃X,X=H++[({c:=[.int .i64 4,ka,na,sa,da]}:Ob),{c:=XG}]++l:=⟨_,rfl⟩
 rw[<-I]at he
 have l0:E.length=32:=h.kx _ wd
 have Z:k1.length=32:=h.kx _ wd
 have l2:k2.length=32:=h.kx _ wd
 have Y:(plc E i j k1 (u8s k2++[.slice none 0 0])).length=99:=by rw[JM l0 Z,Qh,Qq,l2];rfl
 have nP:=JM (e:=i) (m:=j) (tl:=[]) l0 Z
 rw[Z9]at nP
 have nz:XG.length=99:=rfl
 have f1:=Oz (e:=i) (m:=j) l0 Z
 have f2:=ff (e:=i) (m:=j) l0 Z l2
 obtain⟨O,hO⟩:∃X,X=plc E i j k1 (u8s k2++[.slice none 0 0]):=⟨_,rfl⟩
 rw[<-hO]at Y f2 ⊢
 have sz:splice XG 0 O=O:=QP (by rw[Y,nz])
 have tO:Q5 99 O=O:=Qo (by rw[Y];decide)
 have g0:G[H.length]?=some {c:=[.int .i64 4,ka,na,sa,da]}:=by rw[I,Qx,Qd (Qj _),Qs,Qp,List.getElem?_cons_zero]
 have g1:G[H.length+1]?=some {c:=XG}:=by rw[I,Qx,Qd qr,Qt];rfl
 have g2:(G.set (H.length+1) {c:=O})[H.length+1]?=some {c:=O}:=by rw[Qu (Qf.1 g1).1]
 have gH:∀id o,H[id]?=some o->G[id]?=some o:=fun id o ho=>by rw[I,Qx,Qb (Qf.1 ho).1];exact ho
 obtain⟨l',U⟩:∃l',G.set (H.length+1) {c:=O}=H++l':=XI (by rw[Qr,I];simp) fun i hi=>by
  rw[Ql qr,I,Qx,Qb hi]
 refine⟨l',?_⟩
 rw[<-U]
 obtain⟨kid,kc,kw,ke,ks,rfl,hk,-⟩:=h.kz.some_of wd
 obtain⟨nid,nc,nw,ne,ns',rfl,hn,-⟩:=h.nz.some_of wd
 have hk':=gH _ _ hk
 have J:=gH _ _ hn
 have a0:Q5 32 (u8s [E,k1,k2].flatten)=u8s E:=(YY h.kx (i:=0) rfl).1
 have a1:Q5 32 (ZT 32 (u8s [E,k1,k2].flatten))=u8s k1:=(YY h.kx (i:=1) rfl).1
 have a2:Q5 32 (ZT 64 (u8s [E,k1,k2].flatten))=u8s k2:=(YY h.kx (i:=2) rfl).1
 have lk:(u8s [E,k1,k2].flatten).length=96:=by rw[Qq,Kd h.kx];rfl
 have an:ns32 [i,j]=[.int .u32 i,.int .u32 j]:=rfl
 rw[an]at J
 have ok1:∀L:List Value,(Value.agg L.toArray).cells.toList=L:=fun _=>rfl
 have ok2:∀L:List Value,(Value.agg L.toArray).cells.size=L.length:=fun _=>rfl
 have ok3:∀L:List Value,okVar (Value.agg L.toArray)=true:=fun _=>rfl
 have e0:∀o1 o2:Ob,(H++[o1,o2])[H.length]?=some o1:=fun _ _=>by rw[Qd (Qj _),Qs];rfl
 have im1:Qz H.length [] [H.length+1]=[]:=QC wd
 have cl5:∀a b c d e:Value,Q5 5 [a,b,c,d,e]=[a,b,c,d,e]:=fun _ _ _ _ _=>rfl
 have hlen:([E,k1,k2]:List (List Nat)).length=3:=rfl
 have hlen2:([i,j]:List Nat).length=2:=rfl
 rw[hlen,hlen2]at he g0
 clear I U hk hn h hO gH an
 generalize u8s [E,k1,k2].flatten=KF at *
 generalize plc E i j k1 []=P at *
 rw[Q9 (fn:=zi) rfl]
 simp only[zi,hlen,hlen2,Qv,quiet,cW,↓pW,reduceCtorEq,seval,-Qa,he,e0,g0,g1,g2,hk',J,a0,a1,a2,lk,f1,f2,sz,tO,nz,Y,im1,cl5,ok1,ok2,ok3]
def OutS.part{K:Nat->Prop}{G:List Ob}{v:Value}{t:List Nat}(h:OutS K G v t)(E:∀y∈t,y<256)(J:t.length<=2^47-4096):HPart (LtN G.length) G v t:=by
 rcases h with⟨id,-,rfl,I⟩|h
 ·exact HPart.whole (Qf.1 I).1 I E J
 ·exact h.part E qr
def YX(e m:Nat)(hn:B32 nm):∀y∈JF nm e m,y<256:=fun y E=>by
 simp only[JF,frB,QO,ZB,J9,Xj,QF,QB,Zu,if_true]at E
 rcases E with(((h|h)|h|h)|h)|h
 ·subst h;decide
 ·exact hn.lt y h
 ·exact SF e y h
 ·exact SF m y h
 ·rw[List.eq_of_mem_replicate h];decide
 ·exact SF 0 y h
def VO(e m:Nat)(hn:nm.length=32):(JF nm e m).length=109:=by
 simp[JF,frB,id4,hn]
def wR{n d:List Nat}(Y:B32 k)(O:n.length=12)(I:∀y∈n,y<256)(J:∀y∈d,y<256)(xs:∀y∈s,y<256)(ld:d.length<=2^40)(ls:s.length<=2^40):B16 (HG k n d s):=by
 obtain⟨G,E⟩:∃G:List Ob,G=[{c:=u8s d},{c:=u8s s},{c:=[.slice (1:Nat) s.length s.length]}]:=⟨_,rfl⟩
 have U:G.length=3:=by rw[E];rfl
 have h:=(TM (H:=G) (dv := .slice (0:Nat) d.length d.length) (pv := .slice (2:Nat) 1 1) (xs:=[.slice (1:Nat) s.length s.length]) (ps:=[s]) Y O I (HPart.whole qr (by rw[E];rfl) J qr) (.inr ⟨2,0,1,{c:=[.slice (1:Nat) s.length s.length]},rfl,by rw[U];decide,by rw[E];rfl,rfl,fun i hi=>by rw[QH]⟩) (.cons (HPart.whole qr (by rw[E];rfl) xs qr) .nil) (by show 1<2^50;decide) (by simp;omega)).1
 rwa[show[s].flatten=s by simp]at h
def rq{n d:List Nat}(U:B32 k)(O:n.length=12)(I:∀y∈n,y<256)(Y:∀y∈d,y<256)(xs:∀y∈s,y<256)(ld:d.length<=2^40)(ls:s.length<=2^40):(Ud k n d s).length=d.length+16/\∀y∈Ud k n d s,y<256:=by
 have J:=IX (c:=1) U O I Y
 have h:=wR U O I J xs (by rw[KP];exact ld) ls
 refine⟨by rw[Ud,Qh,KP,h.len],fun y Z =>?_⟩
 rcases QB.1 Z with E|E
 ·exact J y E
 ·exact h.lt y E
def Dat(B:Nat)(G:List Ob)(v:Value)(dl:List Nat):Prop:=∃id off c o,v=.slice (some ⟨id,off,none⟩) dl.length c/\Rd G id off dl/\dl.length<=c/\G[id]?=some o/\o.es=1/\B<=id
def Dat.keep{B:Nat}{H G:List Ob}{v:Value}{dl:List Nat}(h:Dat B H v dl)(U:∀i o,B<=i->H[i]?=some o->o.es=1->G[i]?=some o):Dat B G v dl:=by
 obtain⟨id,off,c,o,Z,⟨⟨E,a1,a2,a3⟩,a4⟩,Y,I,O,J⟩:=h
 have e:E=o:=by rw[a1]at I;exact JJ I
 subst e
 exact⟨id,off,c,E,Z,⟨⟨E,U id E J I O,a2,a3⟩,a4⟩,Y,U id E J I O,O,J⟩
def Rst.rd{B:Nat}{G:List Ob}{v:Value}{l:List Nat}(h:Rst (fun i=>i<B) G v l)(O:0<l.length)(I:∀y∈l,y<256):Dat B G v l:=by
 obtain⟨id,off,all,rfl,hb,E,U,hi⟩:=h.own_of O
 refine⟨id,off,_,_,rfl,⟨⟨_,E,rfl,fun i hlt =>?_⟩,I⟩,Qj _,E,rfl,Pk hb⟩
 have J:all[off+i]?=some (l.getD i 0):=by rw[hi i hlt,Qy,Qg hlt];rfl
 exact ZN J
def Rd.part{H:List Ob}{id off c:Nat}{a:List Nat}(h:Rd H id off a)(h0:0<a.length)(O:a.length<=2^47-128):HPart (fun i=>i<H.length) H (.slice (some ⟨id,off,none⟩) a.length c) a:=by
 obtain⟨⟨o,J,h2,I⟩,h4⟩:=h
 refine⟨⟨_,_,rfl⟩,fun G U =>?_,h4,O⟩
 have Y:liveAt G id=some o:=by rw[liveAt,U id (Qf.1 J).1,J];simp[h2]
 have hlen:off+(a.length-1)<o.c.length:=(Qf.1 (I (a.length-1) qr)).1
 have h5:Q5 a.length (ZT off o.c)=u8s a:=by
  apply ZE
  intro j
  by_cases E:j<a.length
  ·rw[QN,if_pos E,Zf,I j E,Qy,Qg E]
   exact(ZN (Qg E)).symm
  ·rw[QE (by rw[Q0];omega),QE (by rw[Qq];omega)]
 have Z:off+a.length<=o.c.length:=qr
 simp[elemsOf,Y,h5,Z]
def Dat.part{B:Nat}{H:List Ob}{v:Value}{dl:List Nat}(h:Dat B H v dl)(J:0<dl.length)(E:dl.length<=2^47-128):HPart (fun i=>i<H.length) H v dl:=by
 obtain⟨id,off,c,o,rfl,I,-⟩:=h
 exact I.part J E
def OutS.ext{K:Nat->Prop}{G G':List Ob}{v:Value}{t:List Nat}(h:OutS K G v t)(E:∀i,i<G.length->G'[i]?=G[i]?):OutS K G' v t:=by
 rcases h with⟨id,J,O,I⟩|h
 ·exact .inl ⟨id,J,O,(E id (Qf.1 I).1).trans I⟩
 ·exact .inr (h.ext E)
def OutS.dat{B:Nat}{G:List Ob}{v:Value}{t:List Nat}(h:OutS (fun i=>i<B) G v t)(O:0<t.length)(E:∀y∈t,y<256):Dat B G v t:=by
 rcases h with⟨id,hb,rfl,I⟩|h
 ·refine⟨id,0,_,_,rfl,⟨⟨_,I,rfl,fun i hlt =>?_⟩,E⟩,Qj _,I,rfl,Pk hb⟩
  have J:t[i]?=some (t.getD i 0):=by rw[Qy,Qg hlt];rfl
  rw[QH]
  exact ZN J
 ·exact h.rd O E
def D3(ik ina is:Nat)(v:Value):Value := .agg #[.int .i64 5,.slice ik 1 1,.slice ina 2 2,.slice is 1 1,v]
structure Msg(B:Nat)(G:List Ob)(ik ina is:Nat)(v:Value)(nm:List Nat)(e m:Nat)(sig dl:List Nat):Prop where
 k:G[ik]?=some {c:=u8s nm}
 n:G[ina]?=some {c:=[.int .u32 e,.int .u32 m]}
 s:G[is]?=some {c:=u8s sig}
 d:Dat B G v dl
 bk:B<=ik/\B<=ina/\B<=is
 lk:B32 nm
 ls:sig.length=64
 xs:∀y∈sig,y<256
 ld:0<dl.length
def Msg.keep{B:Nat}{H G:List Ob}{ik ina is:Nat}{v:Value}{nm:List Nat}{e m:Nat}{sig dl:List Nat}(h:Msg B H ik ina is v nm e m sig dl)(E:∀i o,B<=i->H[i]?=some o->o.es=1->G[i]?=some o):Msg B G ik ina is v nm e m sig dl :=
 ⟨E _ _ h.bk.1 h.k rfl,E _ _ h.bk.2.1 h.n rfl,E _ _ h.bk.2.2 h.s rfl,h.d.keep E,h.bk,h.lk,h.ls,h.xs,h.ld⟩
def Msg.ext{B:Nat}{H G:List Ob}{ik ina is:Nat}{v:Value}{nm:List Nat}{e m:Nat}{sig dl:List Nat}(h:Msg B H ik ina is v nm e m sig dl)(I:∀i,i<H.length->G[i]?=H[i]?):Msg B G ik ina is v nm e m sig dl :=
 h.keep fun i o _ E _=>(I i (Qf.1 E).1).trans E
def Msg.fr{B:Nat}{G:List Ob}{ik ina is:Nat}{v:Value}{nm:List Nat}{e m:Nat}{sig dl:List Nat}(h:Msg B G ik ina is v nm e m sig dl)(J:dl.length<=16384):FrV G (.slice ik 1 1) (.slice ina 2 2) (.slice is 1 1) v [nm] [e,m] [sig] dl:=by
 have p:=h.d.part h.ld qr
 exact⟨.inr ⟨_,1,_,_,_,rfl,by rw[show[nm].flatten=nm by simp];exact h.k,by rw[Qq];simp[h.lk.len]⟩,fun x E=>by rw[Zu.1 E];exact h.lk.len,.inr ⟨_,2,_,_,_,rfl,h.n,rfl⟩,.inr ⟨_,1,_,_,_,rfl,by rw[show[sig].flatten=sig by simp];exact h.s,by rw[Qq];simp[h.ls]⟩,fun x E=>by rw[Zu.1 E];exact h.ls,⟨p.shape,fun G' I=>p.reads G' I⟩⟩
end
section
variable{c:Nat}
def nE{T:Tab}{n:Option Nat}{e:Env}{H:List Ob}{a:Addr}{x:Value×List Ob×Option (List Nat)×List Nat}(h:Ju T (.load n (.tmp c)) e H=some x)(hc:e.get c=some (.pointer (some a))):x.2=(H,some [a.block],[]):=by
 rw[BD]at h
 simp only[Q2,opd,hc,Qk]at h
 cases I:liveAt H a.block with
 |none=>rw[I]at h;cases h
 |some o =>
  rw[I]at h
  simp only[Qk]at h
  split at h
  ·cases E:Jq n o.c a.off with
   |none=>rw[E]at h;cases h
   |some v=>rw[E]at h;cases h;rfl
  ·cases h
def cY{T:Tab}{n:Nat}{v:Operand}{e:Env}{H:List Ob}{a:Addr}{x:Value×List Ob×Option (List Nat)×List Nat}(h:Ju T (.store n (.tmp c) v) e H=some x)(hc:e.get c=some (.pointer (some a))):x.2.2=(some [a.block],[a.block]):=by
 rw[UF]at h
 simp only[Q2,opd,hc,Qk]at h
 cases E:opd e v with
 |none=>simp only[opd]at E;rw[E]at h;cases h
 |some w =>
  simp only[opd]at E
  rw[E]at h
  simp only[Qk]at h
  split at h
  ·cases I:storeAt H a w.cells.toList with
   |none=>rw[I]at h;cases h
   |some G=>rw[I]at h;cases h;rfl
  ·cases h
def SE{T:Tab}{b a c p q x y:Nat}{n k:Option Nat}{n':Nat}{r:List AOper}{keep:Option (List Nat)}{e:Env}{H:List Ob}{l:List Nat}{ac ap:Addr}(h1:Env.get e c=some (.pointer (some ac)))(h2:Env.get e p=some (.pointer (some ap)))(O:(ac.block=ap.block)=False)(U:(c=x)=False)(Z:(p=x)=False)(Y:(p=y)=False) :
  La T b (.region (⟨some x,.load n (.tmp a),none⟩::⟨some y,.load k (.tmp c),none⟩::⟨none,.store n' (.tmp p) (.tmp q),none⟩::r) keep [(1,2)]) ⟨e,H,l⟩ =
   (steps T b false (⟨some x,.load n (.tmp a),none⟩::⟨some y,.load k (.tmp c),none⟩::⟨none,.store n' (.tmp p) (.tmp q),none⟩::r) ⟨e,H,l⟩).bind fun s'=>some (.normal,s'.after keep):=by
 unfold La
 rw[VH]
 have hm:=W7 (T:=T) (b:=b) (⟨some x,.load n (.tmp a),none⟩::⟨some y,.load k (.tmp c),none⟩::⟨none,.store n' (.tmp p) (.tmp q),none⟩::r) ⟨e,H,l⟩ []
 cases hs:steps T b false (⟨some x,.load n (.tmp a),none⟩::⟨some y,.load k (.tmp c),none⟩::⟨none,.store n' (.tmp p) (.tmp q),none⟩::r) ⟨e,H,l⟩with
 |none =>
  rw[hs]at hm
  rw[Option.map_eq_none_iff.1 hm];rfl
 |some s' =>
  have g:∀e:Env,guardOf e none=some true:=fun _=>rfl
  rw[KX,g]
  unfold steps at hs
  simp only[g]at hs
  dsimp only
  cases J:Ju T (.load n (.tmp a)) e H with
  |none=>rw[J]at hs;cases hs
  |some x1 =>
   rw[J]at hs
   simp only[Qk,KK,Z6,if_false]at hs ⊢
   rw[KX,g]
   unfold steps at hs
   simp only[g]at hs
   dsimp only
   cases I:Ju T (.load k (.tmp c)) (e.put (some x) x1.1) x1.2.1 with
   |none=>rw[I]at hs;cases hs
   |some x2 =>
    rw[I]at hs
    simp only[Qk,KK,Z6,if_false]at hs ⊢
    have r2:=nE I (a:=ac) (by show Env.get ((x,x1.1)::e) c=_;rw[D6 U];exact h1)
    rw[KX,g]
    unfold steps at hs
    simp only[g]at hs
    dsimp only
    cases E:Ju T (.store n' (.tmp p) (.tmp q)) ((e.put (some x) x1.1).put (some y) x2.1) x2.2.1 with
    |none=>rw[E]at hs;cases hs
    |some x3 =>
     rw[E]at hs
     simp only[Qk,KK,Z6,if_false]at hs ⊢
     have r3:=cY E (a:=ap) (by show Env.get ((y,x2.1)::(x,x1.1)::e) p=_;rw[D6 Y,D6 Z];exact h2)
     obtain⟨m,hm'⟩:=UD r _ ([]++[(x1.2.2.1,x1.2.2.2)]++[(x2.2.2.1,x2.2.2.2)]++[(x3.2.2.1,x3.2.2.2)]) s' hs
     rw[hm']
     simp only[Qk,r2,r3]
     have:ap.block≠ac.block:=fun h=>by rw[h]at O;simp at O
     simp[ZO,DQ,this]
def uw{α:Type}{x:Option α}:gate False x=none:=by simp[gate]
end
section
attribute [local congr] Jw JD Jv JE Jk
variable{nm key pub t tx sg:List Nat}{e m n B i id:Nat}{H X0 X:List Ob}{L:List (List Nat)}{k:Int}{ka na sa da hv:Value}
def YM(nm key:List Nat):List Nat:=(nxK nm key).take 32
def msgD(nm key tx:List Nat)(e m:Nat):List Nat:=Ud (UK (YM nm key)) (UJ (YM nm key)) tx (JF nm e m)
def msgS(nm key sg tx:List Nat)(e m:Nat):List Nat:=Dq sg (JF nm e m++msgD nm key tx e m)
def nd(nm key:List Nat):∀y∈nxK nm key,y<256:=Tt _ _ _
def bK(nm key:List Nat):(nxK nm key).length=64:=by rw[nxK,Oh,Y4]
def B2(nm key:List Nat):B32 (YM nm key):=⟨by rw[YM,Q0,bK];rfl,fun y E=>nd nm key y (QG E)⟩
def A6(nm key:List Nat):B32 ((nxK nm key).drop 32):=⟨by rw[QD,bK],fun y E=>nd nm key y (Zq E)⟩
def Ls{k:List Nat}(I:B32 k):B32 (UK k):=⟨(OV I).1,fun y E=>Tt _ _ _ y (QG E)⟩
def T2(k:List Nat):∀y∈UJ k,y<256:=fun y E=>Tt _ _ _ y (Zq (QG E))
def Sx(e m:Nat)(hn:B32 nm)(E:∀y∈tx,y<256)(lt:tx.length<=2^40):(msgD nm key tx e m).length=tx.length+16/\∀y∈msgD nm key tx e m,y<256 :=
 rq (Ls (B2 _ _)) (OV (B2 _ _)).2.1 (T2 _) E (YX e m hn) lt (by rw[VO e m hn.len];decide)
def Cd{tv:Value}(hn:B32 nm)(hk:B32 key)(hs:B32 sg)(hm:m<16777216)(ht:HPart (fun i=>i<H.length) H tv tx)(htl:tx.length<=16368) :
  ∃ik ina is v H',Zp T 13 [.agg (plc nm e m key (u8s sg)).toArray,tv] H=some (.tuple #[.agg (plc nm e (m+1) ((nxK nm key).drop 32) (u8s sg)).toArray,D3 ik ina is v,.int .i64 0],H',[])/\Msg H.length H' ik ina is v nm e m (msgS nm key sg tx e m) (msgD nm key tx e m)/\(∀i,i<H.length->H'[i]?=H[i]?)/\H.length<=H'.length:=by
 have n0:=JM (e:=e) (m:=m) (tl:=u8s sg) hn.len hk.len
 rw[Qq,hs.len]at n0
 have hKb:=B2 nm key
 have hX:=A6 nm key
 have n1:=JM (e:=e) (m:=m+1) (tl:=u8s sg) hn.len hX.len
 rw[Qq,hs.len]at n1
 obtain⟨S,hS⟩:∃X,X=plc nm e m key (u8s sg):=⟨_,rfl⟩
 obtain⟨S',hS'⟩:∃X,X=plc nm e (m+1) ((nxK nm key).drop 32) (u8s sg):=⟨_,rfl⟩
 have r1:Q5 32 S=u8s nm:=by rw[hS];exact Tr hn.len
 have r3:Q5 32 (ZT 66 S)=u8s sg:=by rw[hS,Du hn.len hk.len];exact Q7 (by rw[Qq,hs.len])
 have r4:S[32]?=some (.int .u32 e):=by rw[hS];exact IF hn.len
 have r5:S[33]?=some (.int .u32 m):=by rw[hS];exact Vw hn.len
 rw[<-hS]at n0
 rw[<-hS']at n1
 rw[<-hS,<-hS']
 obtain⟨H1,hH1⟩:∃G,G=H++[({c:=S}:Ob),{c:=K0},{c:=Xs},{c:=S}]:=⟨_,rfl⟩
 have l1:H1.length=H.length+4:=by rw[hH1];simp
 have old1:∀i,i<H.length->H1[i]?=H[i]? := fun i hi=>by rw[hH1,Qb hi]
 have at1:∀j o,[({c:=S}:Ob),{c:=K0},{c:=Xs},{c:=S}][j]?=some o->H1[H.length+j]?=some o:=fun j o hj=>by rw[hH1,Qd qr,Qt];exact hj
 obtain⟨-,H2,M2,hnx,q1,q2,q3,q4⟩:=Tv (e:=e) (m:=m) (tl:=u8s sg) ((at1 3 _ rfl).trans (by rw[hS])) hn hk hm
 rw[<-hS']at q1
 rw[show(nxK nm key).take 32=YM nm key from rfl]at hnx
 obtain⟨K,hK⟩:∃X,X=YM nm key:=⟨_,rfl⟩
 rw[<-hK]at hnx hKb
 have O:∀i,i<H1.length->i≠H.length+3->H2[i]?=H1[i]? := q2
 obtain⟨H3,hH3⟩:∃G,G=H2++[({c:=u8s K}:Ob),{c:=u8s nm},{c:=[.int .u32 e,.int .u32 m]},{c:=u8s (Qc 64 0)},{c:=[.int .i64 5,.slice (H2.length+1:Nat) 1 1,.slice (H2.length+2:Nat) 2 2,.slice (H2.length+3:Nat) 1 1,.slice none 0 0]}]:=⟨_,rfl⟩
 have l3:H3.length=H2.length+5:=by rw[hH3];simp
 have J:∀i,i<H2.length->H3[i]?=H2[i]? := fun i hi=>by rw[hH3,Qb hi]
 have at3:∀j o,[({c:=u8s K}:Ob),{c:=u8s nm},{c:=[.int .u32 e,.int .u32 m]},{c:=u8s (Qc 64 0)},{c:=[.int .i64 5,.slice (H2.length+1:Nat) 1 1,.slice (H2.length+2:Nat) 2 2,.slice (H2.length+3:Nat) 1 1,.slice none 0 0]}][j]?=some o->H3[H2.length+j]?=some o:=fun j o hj=>by rw[hH3,Qd qr,Qt];exact hj
 obtain⟨v1,k1,hfr,o1⟩:=AO (H:=H3) (ka := .slice (H2.length+1:Nat) 1 1) (na := .slice (H2.length+2:Nat) 2 2) (sa := .slice (H2.length+3:Nat) 1 1) (da := .slice none 0 0) (nm:=nm) (e:=e) (m:=m) (.inr ⟨_,1,_,_,_,rfl,at3 1 _ rfl,by rw[Qq,hn.len]⟩) (.inr ⟨_,2,_,_,_,rfl,at3 2 _ rfl,rfl⟩) hn.len
 have lfr:=VO e m hn.len
 have xfr:=YX e m hn
 obtain⟨H4,hH4⟩:∃G,G=H3++k1:=⟨_,rfl⟩
 rw[<-hH4]at hfr o1
 have l4:H3.length<=H4.length:=by rw[hH4,Qh];omega
 have old4:∀i,i<H3.length->H4[i]?=H3[i]? := fun i hi=>by rw[hH4,Qb hi]
 have p1:=o1.part xfr (by rw[lfr];decide)
 obtain⟨H5,hH5⟩:∃G,G=H4++[({c:=[v1]}:Ob)]:=⟨_,rfl⟩
 have l5:H5.length=H4.length+1:=by rw[hH5];simp
 have I:∀i,i<H4.length->H5[i]?=H4[i]? := fun i hi=>by rw[hH5,Qb hi]
 have at5:H5[H4.length]?=some {c:=[v1]}:=by rw[hH5,Qd (Qj _),Qs];rfl
 have up5:∀i,i<H.length->H5[i]?=H[i]? := fun i hi=>by rw[I i qr,old4 i qr,J i qr,O i qr qr,old1 i hi]
 have hb:=OV hKb
 obtain⟨v2,H6,M6,hse,s1,s2,s3,s4⟩:=rn (H:=H5) (d:=tx) (dv:=tv) (pv := .slice H4.length 1 1) (xs:=[v1]) (ps:=[JF nm e m]) (Ls hKb) hb.2.1 (T2 K) (ht.extK (fun i hi=>by omega) up5) qr (.inr ⟨_,0,1,_,rfl,by omega,at5,rfl,fun i hi=>by rw[QH]⟩) (.cons (p1.extK (fun i hi=>by have:i<H4.length:=hi;omega) I) .nil) (by show 1<2^50;decide) (by simp[lfr])
 have hD:=Sx (key:=key) e m hn ht.lt qr
 rw[show[JF nm e m].flatten=JF nm e m by simp,hK,show Ud (UK (YM nm key)) (UJ (YM nm key)) tx (JF nm e m)=msgD nm key tx e m from rfl]at s1
 obtain⟨D,hDD⟩:∃X,X=msgD nm key tx e m:=⟨_,rfl⟩
 rw[<-hDD]at s1 hD
 have o2:OutS (fun i=>i<H5.length) H6 v2 D := .inr s1
 obtain⟨Z,hfr2⟩:∃o:Ob,o={c:=[.int .i64 5,.slice (H2.length+1:Nat) 1 1,.slice (H2.length+2:Nat) 2 2,.slice (H2.length+3:Nat) 1 1,v2]}:=⟨_,rfl⟩
 obtain⟨H8,hH8⟩:∃G,G=H6.set (H2.length+4) Z++[({c:=[v1,v2]}:Ob)]:=⟨_,rfl⟩
 have l8:H8.length=H6.length+1:=by rw[hH8];simp
 have old8:∀i,i<H6.length->i≠H2.length+4->H8[i]?=H6[i]? := fun i hi hne=>by rw[hH8,Qb (by rw[Qr];exact hi),Ql (Ne.symm hne)]
 have at8:H8[H6.length]?=some {c:=[v1,v2]}:=by rw[hH8,Qd (by rw[Qr];exact Qj _),Qr,Qs];rfl
 have up8:∀i,i<H3.length->i≠H2.length+4->H8[i]?=H3[i]? := fun i hi hne=>by rw[old8 i qr hne,s2 i qr,I i qr,old4 i hi]
 have o2':OutS (fun i=>i<H5.length) H8 v2 D:=by rw[hH8];exact(o2.setK qr Z).app
 have o1':OutS (LtN H3.length) H8 v1 (JF nm e m):=by
  rw[hH8]
  refine OutS.app (OutS.setK ?_ (by show _<_;omega) Z)
  exact(o1.ext I).ext s2
 obtain⟨k9,hmk⟩:=tN (H:=H8) (pv := .slice H6.length 2 2) (ps:=[JF nm e m,D]) hs.len hs.lt (Args.arr at8 rfl (.cons (o1'.part xfr (by rw[lfr];decide)) (.cons (o2'.part hD.2 qr) .nil)) ww) (by show 2<=1000;decide) (by simp[lfr];omega)
 have hsg:Dq sg [JF nm e m,D].flatten=msgS nm key sg tx e m:=by rw[hDD];simp[msgS]
 have ls:=LZ sg [JF nm e m,D].flatten
 have xs:=ri sg [JF nm e m,D].flatten
 rw[hsg]at hmk ls xs
 obtain⟨sig,hsig⟩:∃X,X=msgS nm key sg tx e m:=⟨_,rfl⟩
 rw[<-hsig]at hmk ls xs ⊢
 rw[<-hDD]
 obtain⟨H9,hH9⟩:∃G,G=(H8++k9).set (H2.length+3) ({c:=u8s sig}:Ob):=⟨_,rfl⟩
 have l9:H8.length<=H9.length:=by rw[hH9,Qr,Qh];omega
 have old9:∀i,i<H8.length->i≠H2.length+3->H9[i]?=H8[i]? := fun i hi hne=>by rw[hH9,Ql (Ne.symm hne),Qb hi]
 have at9:H9[H2.length+3]?=some {c:=u8s sig}:=by rw[hH9,Qu (by rw[Qh];omega)]
 have o29:OutS (fun i=>i<H5.length) H9 v2 D:=by rw[hH9];exact o2'.app.setK qr _
 obtain⟨H10,Y⟩:∃G,G=(H9.set (H.length+1) ({c:=S'}:Ob)).set (H.length+2) Z:=⟨_,rfl⟩
 have U:∀i,i≠H.length+1->i≠H.length+2->H10[i]?=H9[i]? := fun i h1 h2=>by rw[Y,Ql (Ne.symm h2),Ql (Ne.symm h1)]
 have o210:OutS (fun i=>i<H5.length) H10 v2 D:=by rw[Y];exact(o29.setK qr _).setK qr _
 have E:∀i,i<H3.length->i≠H2.length+4->i≠H2.length+3->H9[i]?=H3[i]? := fun i hi h1 h2=>by rw[old9 i qr h2,up8 i hi h1]
 refine⟨H2.length+1,H2.length+2,H2.length+3,v2,H10,?_,⟨?_,?_,?_,(o210.toK fun i hi h'=>hi (show i<H5.length by have:i<H.length:=h';omega)).dat qr hD.2,⟨by omega,by omega,by omega⟩,hn,ls,xs,by omega⟩,fun i hi =>?_,?_⟩
 rotate_left
 ·rw[U _ qr qr,E _ qr qr qr];exact at3 1 _ rfl
 ·rw[U _ qr qr,E _ qr qr qr];exact at3 2 _ rfl
 ·rw[U _ qr qr];exact at9
 ·rw[U _ qr qr,E _ qr qr qr,J i qr,O i qr qr,old1 i hi]
 ·rw[Y,Qr,Qr];omega
 have g2:∀L:List Ob,(H2++L)[H.length]?=some {c:=S}:=fun L=>by rw[Qb qr,O _ qr qr];exact at1 0 _ rfl
 have g4:H4[H2.length]?=some {c:=u8s K}:=(old4 _ qr).trans (at3 0 _ rfl)
 have g3:H3[H2.length+4]?=some _:=at3 4 _ rfl
 have g6:H6[H2.length+4]?=some {c:=[.int .i64 5,.slice (H2.length+1:Nat) 1 1,.slice (H2.length+2:Nat) 2 2,.slice (H2.length+3:Nat) 1 1,.slice none 0 0]}:=by rw[s2 _ qr,I _ qr,old4 _ qr];exact g3
 have g6a:(H6.set (H2.length+4) Z)[H2.length+4]?=some Z:=Qu qr
 have g6b:(H6.set (H2.length+4) Z)[H.length]?=some {c:=S}:=by rw[Ql qr,s2 _ qr,I _ qr,old4 _ qr,J _ qr,O _ qr qr];exact at1 0 _ rfl
 have g8:(H8++k9)[H2.length+3]?=some {c:=u8s (Qc 64 0)}:=by rw[Qb qr,up8 _ qr qr];exact at3 3 _ rfl
 have g9a:H9[H.length+3]?=some {c:=S'}:=by rw[E _ qr qr qr,J _ qr];exact q1
 have g9b:H9[H2.length+4]?=some Z:=by rw[old9 _ qr qr,hH8,Qb (by rw[Qr];omega)];exact g6a
 have g9c:H9[H.length+1]?=some {c:=K0}:=by rw[E _ qr qr qr,J _ qr,O _ qr qr];exact at1 1 _ rfl
 have g9d:∀o,(H9.set (H.length+1) o)[H.length+2]?=some {c:=Xs}:=fun o=>by rw[Ql qr,E _ qr qr qr,J _ qr,O _ qr qr];exact at1 2 _ rfl
 have g10a:H10[H.length+1]?=some {c:=S'}:=by rw[Y,Ql qr,Qu qr]
 have g10b:H10[H.length+2]?=some Z:=by rw[Y,Qu (by rw[Qr];omega)]
 have nb:(H2.length+4=H.length+1)=False:=ut
 have hbk:=@SE T H.length 7 10 4 69 69 70 (some 98) (some 5) 98 [⟨none,.store 5 (.tmp 5) (.tmp 70),none⟩,⟨some 6,.move (.const (.int .i64 0)),none⟩] (some [4,5,6]) [(4,.pointer (H.length+1:Nat)),(5,.pointer (H.length+2:Nat)),(7,.pointer (H.length+3:Nat)),(10,.pointer (H2.length+4:Nat))] H9 [] ⟨H2.length+4,0,none⟩ ⟨H.length+1,0,none⟩ rfl rfl nb (eq_false ww) (eq_false ww) (eq_false ww)
 have hz64:=YE
 have lz:(Qc 64 0).length=64:=Q8
 obtain⟨z32,hz32,lz32⟩:∃z:List Nat,Qc 32 (Value.int .u8 0)=u8s z/\z.length=32:=⟨Qc 32 0,rfl,rfl⟩
 have f64:=D9 lz
 have fz:fillL (u8s (Qc 64 0)) []=some (u8s (Qc 64 0)):=rfl
 rw[hz64]at f64
 have f32:fillL (u8s z32) [(0,32,.agg (u8s nm).toArray)]=some (u8s nm):=by
  have ln:=hn.len
  rw[Km (Y8 ln) (by rw[Qq,lz32];decide) rfl,show(Value.agg (u8s nm).toArray).cells.toList=u8s nm from rfl,QP (by rw[Qq,Qq,lz32,ln])]
  rfl
 have f2:fillL [Value.int .u32 0,.int .u32 0] [(0,1,.int .u32 (e:Int)),(1,1,.int .u32 (m:Int))]=some [.int .u32 (e:Int),.int .u32 (m:Int)]:=rfl
 have f5:∀a b c:Addr,fillL Xs [(0,1,.int .i64 5),(1,1,.slice (some a) 1 1),(2,1,.slice (some b) 2 2),(3,1,.slice (some c) 1 1)]=some [.int .i64 5,.slice (some a) 1 1,.slice (some b) 2 2,.slice (some c) 1 1,.slice none 0 0]:=fun _ _ _=>rfl
 obtain⟨a1,c1,hv1⟩:=o1.shape
 obtain⟨a2,c2,hv2⟩:=o2.shape
 rw[lfr]at hv1
 have w1:fillL [Value.slice none 0 0] [(0,1,v1)]=some [v1]:=by rw[hv1];rfl
 have w2:fillL [Value.slice none 0 0,.slice none 0 0] [(0,1,v1),(1,1,v2)]=some [v1,v2]:=by rw[hv1,hv2];rfl
 have c1v:v2.cells.toList=[v2]:=by rw[hv2];rfl
 have c2v:v2.cells.size=1:=by rw[hv2];rfl
 have c3v:okVar v2=true:=by rw[hv2];rfl
 have sp4:∀(a b c d e' f':Value),splice [a,b,c,d,e'] 4 [f']=[a,b,c,d,f']:=fun _ _ _ _ _ _=>rfl
 have sp5:∀(a b c d e':Value),splice Xs 0 [a,b,c,d,e']=[a,b,c,d,e']:=fun _ _ _ _ _=>rfl
 have cl5:∀a b c d e':Value,Q5 5 [a,b,c,d,e']=[a,b,c,d,e']:=fun _ _ _ _ _=>rfl
 have lzs:K0.length=98:=rfl
 have lzf:Xs.length=5:=rfl
 have spS:splice K0 0 S=S:=QP (by rw[n0,lzs])
 have spS':splice K0 0 S'=S':=QP (by rw[n1,lzs])
 have tS:Q5 98 S=S:=Q7 n0
 have tS':Q5 98 S'=S':=Q7 n1
 have spK:=QP (cs:=u8s z32) (v:=u8s K) (by rw[Qq,Qq,hKb.len,lz32])
 have spG:=QP (cs:=u8s (Qc 64 0)) (v:=u8s sig) (by rw[Qq,Qq,ls,lz])
 have tK:Q5 32 (u8s K)=u8s K:=Q7 (by rw[Qq,hKb.len])
 have e1:((16368:Int)<(tx.length:Int))=False:=ut
 have hlen:vLen false tv=some (.int .i64 tx.length):=by obtain⟨a,c,rfl⟩:=ht.shape;rfl
 have ok1:∀L:List Value,(Value.agg L.toArray).cells.toList=L:=fun _=>rfl
 have ok2:∀L:List Value,(Value.agg L.toArray).cells.size=L.length:=fun _=>rfl
 have ok3:∀L:List Value,okVar (Value.agg L.toArray)=true:=fun _=>rfl
 have im1:Qz H.length [] M2=[]:=QC fun i hi=>by have:=q4 i hi;omega
 have im2:Qz H.length [] M6=[]:=QC fun i hi=>by have:=s4 i hi;omega
 have im3:∀j,Qz H.length [] [H2.length+j]=[]:=fun j=>QC (by simp;omega)
 have im4:∀j,Qz H.length [] [H.length+j]=[]:=fun j=>QC wd
 have im5:Qz H.length [] [H2.length]=[]:=QC (by simp;omega)
 have h1:=hH1.symm
 have h3:=hH3.symm
 have h5:=hH5.symm
 have h8:=hH8.symm
 have h9:=hH9.symm
 have h10:=Y.symm
 have hfr2':=hfr2.symm
 have fc:Z.c=[.int .i64 5,.slice (H2.length+1:Nat) 1 1,.slice (H2.length+2:Nat) 2 2,.slice (H2.length+3:Nat) 1 1,v2]:=by rw[hfr2]
 have fl:Z.live=true:=by rw[hfr2]
 have hbv:=hb.2.2
 have lAB:(UK K++UJ K).length=44:=by rw[Qh,hb.1,hb.2.1]
 have lsg:=hs.len
 have lnm:=hn.len
 have lK:=hKb.len
 clear hH1 hH3 hH4 hH5 hH8 hH9 Y hS hS' hK hDD hsig hsg o1 o2 o1' o2' o29 o210 p1 s1 at1 at3 at5 at8 at9 q1 q2 q3 q4 s2 s3 s4 old1 O J old4 I old8 old9 U up5 up8 E hb hD ht hX xs xfr hn hk hs
 generalize Qc 64 0=Z64,UK K++UJ K=AB at *
 rw[Q9 (fn:=qi) rfl]
 simp only[qi,Qv,quiet,cW,↓pW,reduceCtorEq,seval,-Qa,r1,r3,r4,r5,hnx,hfr,hbv,hse,hmk,g2,g3,g4,g6,g6a,g6b,g8,g9a,g9b,g9c,g9d,g10a,g10b,f64,fz,f32,f2,f5,w1,w2,hz64,hz32,lz32,c1v,c2v,c3v,sp4,sp5,cl5,lzs,lzf,spS,spS',tS,tS',spK,spG,tK,e1,hlen,ok1,ok2,ok3,im1,im2,im3,im4,im5,h1,h3,h5,h8,h9,h10,hfr2',fc,fl,lz,lK,ls,n0,n1,Qq,Qr,D3,uw,PW,Option.bind_none,hbk]
def fol(nm:List Nat)(e m:Nat)(key pub:List Nat)(hv:Value):List Value:=plc nm e m key (u8s pub++[hv])
def VK(J:nm.length=32)(I:key.length=32)(E:pub.length=32):(fol nm e m key pub hv).length=99:=by
 rw[fol,JM J I,Qh,Qq,E];rfl
def Tx(J:nm.length=32)(I:key.length=32)(E:pub.length=32):Q5 32 (ZT 66 (fol nm e m key pub hv))=u8s pub:=by
 rw[fol,Du J I]
 exact X4 (by rw[Qq,E])
def Up(J:nm.length=32)(I:key.length=32)(E:pub.length=32):(fol nm e m key pub hv)[98]?=some hv:=by
 rw[fol,Bw,Qd (by rw[JM J I];decide),JM J I,Qd (by rw[Qq,E];decide),Qq,E];rfl
def Uo{hv':Value}(J:nm.length=32)(I:key.length=32)(E:pub.length=32):(fol nm e m key pub hv).set 98 hv'=fol nm e m key pub hv':=by
 rw[fol,Bw,Q1 _ _ (by rw[JM J I];decide),JM J I,Q1 _ _ (by rw[Qq,E];decide),Qq,E,fol,Bw nm e m key (u8s pub++[hv'])];rfl
def uk{fv:Value}:Zp T 61 [.slice none 0 0,fv] H=some (.int .i64 (-1),H,[]):=by
 obtain⟨st,E,rfl⟩:=QM (T:=T) (base:=H.length) (id:=0) (body:=L0)
  (fun i st=>st=⟨[(0,.slice none 0 0),(1,fv),(7,.int .i64 0),(8,.int .i64 0)],H,[]⟩) (Q:=fun st=>st=⟨[(0,.slice none 0 0),(1,fv),(7,.int .i64 0),(8,.int .i64 0),(9,.bool false)],H,[]⟩)
  0 (s:=⟨[(0,.slice none 0 0),(1,fv),(7,.int .i64 0),(8,.int .i64 0)],H,[]⟩) rfl (fun i st hi=>absurd hi (XY _))
  (fun st hs=>by
   subst hs
   refine⟨_,?_,rfl⟩
   have I:((0:Int)<0)=False:=eq_false ww
   simp only[L0,Qv,quiet,cW,↓pW,reduceCtorEq,seval,-Qa,I])
 have hlen:vLen false (.slice none 0 0)=some (.int .i64 0):=rfl
 rw[Q9 (fn:=yZ) rfl]
 simp only[yZ,Qv,quiet,cW,↓pW,reduceCtorEq,seval,-Qa,hlen,E]
def Ia:Zp T 25 [.slice none 0 0] H=some (.slice none 0 0,H,[]):=by
 have E:Ys 1 (.slice none 0 0)=some true:=rfl
 rw[Q9 (fn:=zd) rfl]
 simp only[zd,Qv,quiet,cW,↓pW,reduceCtorEq,seval,-Qa,E]
def ud{mi:Nat}(ho:H[id]?=some {c:=fol nm e m key pub (.slice none 0 0)})(hn:B32 nm)(hk:B32 key)(hp:pub.length=32)(hm:mi<m) :
  ∃l,Zp T 26 [.pointer id,.int .u32 mi] H=some (.tuple #[.agg (u8s (Qc 32 0)).toArray,.int .i64 151],H++l,[]):=by
 have hid:=(Qf.1 ho).1
 obtain⟨z,hz,Z⟩:∃z:List Nat,Qc 32 (Value.int .u8 0)=u8s z/\z=Qc 32 0:=⟨Qc 32 0,rfl,rfl⟩
 have J:z.length=32:=by rw[Z];rfl
 have g1:∀L:List Ob,(H++L)[id]?=some {c:=fol nm e m key pub (.slice none 0 0)}:=fun L=>by rw[Qb hid];exact ho
 have num:(fol nm e m key pub (.slice none 0 0))[33]?=some (.int .u32 m):=Vw hn.len
 have hv:=Up (e:=e) (m:=m) (hv := .slice none 0 0) hn.len hk.len hp
 have hl:=VK (e:=e) (m:=m) (hv := .slice none 0 0) hn.len hk.len hp
 have e1:((mi:Int)<(m:Int))=True:=wr
 have g2:∀E I:Ob,(H++[E,I])[H.length]?=some E:=fun _ _=>by rw[Qd (Qj _),Qs];rfl
 have g3:∀E I:Ob,(H++[E,I])[H.length+1]?=some I:=fun _ _=>by rw[Qd qr,Qt];rfl
 have t3:∀E I o:Ob,(H++[E,I]).set (H.length+1) o=H++[E,o]:=fun _ _ _=>by rw[Q1 _ _ qr,Qt];rfl
 have hi:=@uk
 have im:∀L,Qz H.length L [H.length+1]=L:=fun L=>QC wd
 have fz:fillL (u8s z) []=some (u8s z):=rfl
 have sp:=QP (cs:=u8s z) (v:=u8s z) rfl
 have tz:Q5 32 (u8s z)=u8s z:=Q7 (by rw[Qq,J])
 have e2:((-1:Int)<0)=True:=eq_true ww
 have Y:∀L:List Value,(Value.agg L.toArray).cells.toList=L:=fun _=>rfl
 have U:∀L:List Value,(Value.agg L.toArray).cells.size=L.length:=fun _=>rfl
 have O:∀L:List Value,okVar (Value.agg L.toArray)=true:=fun _=>rfl
 rw[<-Z]
 clear Z ho
 generalize fol nm e m key pub (.slice none 0 0)=F at *
 refine⟨[{c:=[.int .u32 mi]},{c:=u8s z}],?_⟩
 rw[Q9 (fn:=aK) rfl]
 simp only[aK,Qv,quiet,cW,↓pW,reduceCtorEq,seval,-Qa,hz,J,g1,g2,g3,t3,num,hv,e1,e2,hi,im,fz,sp,tz,Y,U,O,Qq]
def kyS(id a b:Nat)(H:List Ob)(L:List Nat)(ex:Env):St:=⟨[(0,.pointer id),(3,.pointer a),(4,.pointer b)]++ex,H,L⟩
def ue(ho:H[id]?=some {c:=fol nm e m key pub (.slice none 0 0)})(hn:B32 nm)(U:B32 key)(hp:pub.length=32)(hm:m<16777216) :
  ∃H' M,Zp T 26 [.pointer id,.int .u32 m] H=some (.tuple #[.agg (u8s (YM nm key)).toArray,.int .i64 0],H',M)/\H'[id]?=some {c:=fol nm e (m+1) ((nxK nm key).drop 32) pub (.slice none 0 0)}/\(∀i,i<H.length->i≠id->H'[i]?=H[i]?)/\H.length<=H'.length/\∀i∈M,i=id:=by
 have hid:=(Qf.1 ho).1
 obtain⟨z,hz,lz⟩:∃z:List Nat,Qc 32 (Value.int .u8 0)=u8s z/\z.length=32:=⟨Qc 32 0,rfl,rfl⟩
 obtain⟨H1,E⟩:∃G,G=H++[({c:=[.int .u32 m]}:Ob),{c:=u8s z}]:=⟨_,rfl⟩
 have l1:H1.length=H.length+2:=by rw[E];simp
 have Y:H1[id]?=some {c:=fol nm e m key pub (.slice none 0 0)}:=by rw[E,Qb hid];exact ho
 have O:H1[H.length]?=some {c:=[.int .u32 m]}:=by rw[E,Qd (Qj _),Qs];rfl
 obtain⟨-,H2,M2,J,q1,Z,q3,q4⟩:=Tv (e:=e) (m:=m) (tl:=u8s pub++[.slice none 0 0]) Y hn U hm
 rw[show(nxK nm key).take 32=YM nm key from rfl]at J
 have I:=B2 nm key
 generalize YM nm key=K at *
 have num:(fol nm e m key pub (.slice none 0 0))[33]?=some (.int .u32 m):=Vw hn.len
 have hv:=Up (e:=e) (m:=m) (hv := .slice none 0 0) hn.len U.len hp
 have hl:=VK (e:=e) (m:=m) (hv := .slice none 0 0) hn.len U.len hp
 have hsv:=Uo (e:=e) (m:=m) (hv := .slice none 0 0) (hv' := .slice none 0 0) hn.len U.len hp
 have hq:∀k tl,plc nm e (m+1) k (u8s pub++[tl])=fol nm e (m+1) k pub tl:=fun _ _=>rfl
 rw[hq]at q1
 generalize fol nm e m key pub (.slice none 0 0)=F at *
 generalize fol nm e (m+1) ((nxK nm key).drop 32) pub (.slice none 0 0)=F' at *
 have e1:((m:Int)<(m:Int))=False:=ut
 obtain⟨st,hA,rfl⟩:=QM (T:=T) (base:=H.length) (id:=0) (body:=YO)
  (fun i st=>st=kyS id H.length (H.length+1) H1 [] [(54,.bool false)]) (Q:=fun st=>st=kyS id H.length (H.length+1) H1 [] [(62,.bool false)])
  0 (s:=kyS id H.length (H.length+1) H1 [] [(54,.bool false)]) rfl (fun i st hi=>absurd hi (XY _))
  (fun st hs=>by
   subst hs
   refine⟨_,?_,rfl⟩
   simp only[kyS,YO,Qv,quiet,cW,↓pW,reduceCtorEq,seval,-Qa,e1,Y,O,num])
 refine⟨H2.set (H.length+1) {c:=u8s K},Qz H.length (Qz H.length [] [id]) M2,?_,?_,fun i hi hne =>?_,?_,fun i hi =>?_⟩
 rotate_left
 ·rw[Ql qr];exact q1
 ·rw[Ql qr,Z i qr hne,E,Qb hi]
 ·rw[Qr];omega
 ·rcases Zv hi with h|h
  ·rcases Zv h with h|h
   ·simp at h
   ·exact Zu.1 h
  ·exact q4 i h
 have h1:=E.symm
 have w1:IntKind.u32.wrap ((m:Int)-(m:Int))=0:=by rw[Int.sub_self];rfl
 have e2:((1000:Int)<0)=False:=eq_false ww
 have hlen:vLen false (.slice none 0 0)=some (.int .i64 0):=rfl
 have mx:Gd true (.int .i64 0) (.int .i64 (-1000))=some (.int .i64 0):=rfl
 have b1:Jc 0 0 (some (.int .i64 0)) none none=some (0,0,0):=rfl
 have ss:=VR Y
 have g3:H2[H.length+1]?=some {c:=u8s z}:=by rw[Z _ qr qr,E,Qd qr,Qt];rfl
 have g4:∀o,(H2.set (H.length+1) o)[H.length+1]?=some o:=fun o=>Qu qr
 have im:∀L,Qz H.length L [H.length+1]=L:=fun L=>QC wd
 have sp:=QP (cs:=u8s z) (v:=u8s K) (by rw[Qq,Qq,lz,I.len])
 have tK:Q5 32 (u8s K)=u8s K:=Q7 (by rw[Qq,I.len])
 have lK:=I.len
 have ok1:∀L:List Value,(Value.agg L.toArray).cells.toList=L:=fun _=>rfl
 have ok2:∀L:List Value,(Value.agg L.toArray).cells.size=L.length:=fun _=>rfl
 have ok3:∀L:List Value,okVar (Value.agg L.toArray)=true:=fun _=>rfl
 simp only[kyS,Qp,Qn]at hA
 clear E q1 Z q3 q4 I ho
 rw[Q9 (fn:=aK) rfl]
 simp only[aK,Qv,quiet,cW,↓pW,reduceCtorEq,seval,-Qa,hz,lz,h1,Y,O,g3,g4,num,hv,hl,hsv,e1,e2,w1,hlen,mx,b1,ss,im,sp,tK,lK,J,hA,ok1,ok2,ok3,Qq]
def OL{ik ina is m mi:Nat}{v:Value}{dl:List Nat}(h:Msg B H ik ina is v nm e mi (Dq sg (JF nm e mi++dl)) dl)(hk:B32 key)(hs:B32 sg)(hdl:dl.length<=16384)(xd:∀y∈dl,y<256)(hm:m<16777216)(hle:mi<=m)(hd:mi=m->dl=msgD nm key tx e m/\tx.length<=16368/\∀y∈tx,y<256) :
  ∃H' r v' c,Zp T 8 [.agg (fol nm e m key (Kj sg) (.slice none 0 0)).toArray,D3 ik ina is v] H=some (.tuple #[.agg r.toArray,v',.int .i64 c],H',[])/\(∀i,i<H.length->H'[i]?=H[i]?)/\H.length<=H'.length /\
   ((mi<m/\r=fol nm e m key (Kj sg) (.slice none 0 0)/\v'=.slice none 0 0/\c=151)\/(mi=m/\r=fol nm e (m+1) ((nxK nm key).drop 32) (Kj sg) (.slice none 0 0)/\c=0/\OutS (fun i=>i<H.length) H' v' tx)):=by
 have hn:=h.lk
 have Y:=Bv sg
 have xpu:=ID sg
 have hX:=A6 nm key
 have hKb:=B2 nm key
 obtain⟨F,hF⟩:∃X,X=fol nm e m key (Kj sg) (.slice none 0 0):=⟨_,rfl⟩
 have n0:=VK (e:=e) (m:=m) (hv := .slice none 0 0) hn.len hk.len Y
 have r1:Q5 32 F=u8s nm:=by rw[hF];exact Tr hn.len
 have r3:Q5 32 (ZT 66 F)=u8s (Kj sg):=by rw[hF];exact Tx hn.len hk.len Y
 have r4:F[32]?=some (.int .u32 e):=by rw[hF];exact IF hn.len
 have r6:F[98]?=some (.slice none 0 0):=by rw[hF];exact Up hn.len hk.len Y
 have r7:F.set 98 (.slice none 0 0)=F:=by rw[hF];exact Uo hn.len hk.len Y
 rw[<-hF]at n0 ⊢
 obtain⟨sg1,Z⟩:∃X,X=Dq sg (JF nm e mi++dl):=⟨_,rfl⟩
 obtain⟨fo,hfo⟩:∃o:Ob,o={c:=[.int .i64 5,.slice ik 1 1,.slice ina 2 2,.slice is 1 1,v]}:=⟨_,rfl⟩
 obtain⟨H1,hH1⟩:∃G,G=H++[({c:=F}:Ob),fo,{c:=XG}]:=⟨_,rfl⟩
 have l1:H1.length=H.length+3:=by rw[hH1];simp
 have at1:∀j o,[({c:=F}:Ob),fo,{c:=XG}][j]?=some o->H1[H.length+j]?=some o:=fun j o hj=>by rw[hH1,Qd qr,Qt];exact hj
 have U:∀i,i<H.length->H1[i]?=H[i]? := fun i hi=>by rw[hH1,Qb hi]
 have m1:=h.ext U
 obtain⟨v0,k1,hen,-⟩:=Gs (k:=5) (m1.fr hdl)
 have hE:frE 5 [nm].length [e,mi].length [Dq sg (JF nm e mi++dl)].length dl.length=0:=by
  show(if(1=1/\2=2/\1=1/\(true=true\/dl.length=0))then(if 16384<dl.length then(2:Int)else 0)else 110)=0
  rw[if_pos wd,if_neg qr]
 rw[hE]at hen
 obtain⟨H2,hH2⟩:∃G,G=H1++k1:=⟨_,rfl⟩
 rw[<-hH2]at hen
 have l2:H1.length<=H2.length:=by rw[hH2,Qh];omega
 have J:∀i,i<H1.length->H2[i]?=H1[i]? := fun i hi=>by rw[hH2,Qb hi]
 have m2:=m1.ext J
 obtain⟨v1,k2,hfr,o1⟩:=AO (H:=H2) (ka := .slice ik 1 1) (na := .slice ina 2 2) (sa := .slice is 1 1) (da:=v) (nm:=nm) (e:=e) (m:=mi) (.inr ⟨_,1,_,_,_,rfl,m2.k,by rw[Qq,hn.len]⟩) (.inr ⟨_,2,_,_,_,rfl,m2.n,rfl⟩) hn.len
 have lfr:=VO e mi hn.len
 have xfr:=YX e mi hn
 obtain⟨H3,hH3⟩:∃G,G=H2++k2:=⟨_,rfl⟩
 rw[<-hH3]at hfr o1
 have l3:H2.length<=H3.length:=by rw[hH3,Qh];omega
 have I:∀i,i<H2.length->H3[i]?=H2[i]? := fun i hi=>by rw[hH3,Qb hi]
 have m3:=m2.ext I
 have p1:=o1.part xfr (by rw[lfr];decide)
 obtain⟨H4,hH4⟩:∃G,G=H3++[({c:=[v1,v]}:Ob)]:=⟨_,rfl⟩
 have l4:H4.length=H3.length+1:=by rw[hH4];simp
 have E:∀i,i<H3.length->H4[i]?=H3[i]? := fun i hi=>by rw[hH4,Qb hi]
 have at4:H4[H3.length]?=some {c:=[v1,v]}:=by rw[hH4,Qd (Qj _),Qs];rfl
 have m4:=m3.ext E
 have p2:=m3.d.part h.ld qr
 obtain⟨k3,c,hck,hsp⟩:=Cf (H:=H4) (pub:=Kj sg) (front:=frL sg (JF nm e mi++dl)) (back:=bkL sg (JF nm e mi++dl)) (pv := .slice H3.length 2 2) (ps:=[JF nm e mi,dl]) Y xpu (Lh _ _) (SQ _ _) (Lt _ _) (pK _ _) (Args.arr at4 rfl (.cons (p1.extK (fun i hi=>by have:i<H3.length:=hi;show i<_;omega) E) (.cons (p2.extK (fun i hi=>by show i<_;omega) E) .nil)) ww) (by show 2<=1000;decide) (by simp[lfr];omega)
 rw[show[JF nm e mi,dl].flatten=JF nm e mi++dl by simp]at hsp
 have hc:=qY hsp
 subst hc
 rw[show frL sg (JF nm e mi++dl)++bkL sg (JF nm e mi++dl)=sg1 by rw[Z];rfl]at hck
 obtain⟨H5,hH5⟩:∃G,G=H4++k3:=⟨_,rfl⟩
 rw[<-hH5]at hck
 have l5:H4.length<=H5.length:=by rw[hH5,Qh];omega
 have old5:∀i,i<H4.length->H5[i]?=H4[i]? := fun i hi=>by rw[hH5,Qb hi]
 obtain⟨H6,hH6⟩:∃G,G=H5++[({c:=F}:Ob)]:=⟨_,rfl⟩
 have l6:H6.length=H5.length+1:=by rw[hH6];simp
 have old6:∀i,i<H5.length->H6[i]?=H5[i]? := fun i hi=>by rw[hH6,Qb hi]
 have at6:H6[H5.length]?=some {c:=F}:=by rw[hH6,Qd (Qj _),Qs];rfl
 have up6:∀i,i<H3.length->H6[i]?=H3[i]? := fun i hi=>by rw[old6 i qr,old5 i qr,E i hi]
 have O:∀i,i<H1.length->H6[i]?=H1[i]? := fun i hi=>by rw[up6 i qr,I i qr,J i hi]
 have m6:Msg B H6 ik ina is v nm e mi _ dl:=m3.ext up6
 obtain⟨z,hz,lz⟩:∃z:List Nat,Qc 32 (Value.int .u8 0)=u8s z/\z.length=32:=⟨Qc 32 0,rfl,rfl⟩
 have mk':=m2.k
 have mn':=m2.n
 have ms3:=m3.s
 have mn6:=m6.n
 rw[<-Z]at ms3
 have lsg:sg1.length=64:=by rw[Z];exact h.ls
 obtain⟨av,cv,hvs⟩:=p2.shape
 obtain⟨a1,c1,hv1⟩:=o1.shape
 rw[lfr]at hv1
 have w1:fillL [Value.slice none 0 0] [(0,1,v1)]=some [v1]:=by rw[hv1];rfl
 have w2:fillL [Value.slice none 0 0,.slice none 0 0] [(0,1,v1),(1,1,v)]=some [v1,v]:=by rw[hv1,hvs];rfl
 have cl5:∀a b c d e':Value,Q5 5 [a,b,c,d,e']=[a,b,c,d,e']:=fun _ _ _ _ _=>rfl
 have tnm:Q5 32 (u8s nm)=u8s nm:=Q7 (by rw[Qq,hn.len])
 have tsg:Q5 64 (u8s sg1)=u8s sg1:=Q7 (by rw[Qq,lsg])
 have hq:=KG hn.len hn.len
 have q1:H1[H.length]?=some {c:=F}:=at1 0 _ rfl
 have q1f:H1[H.length+1]?=some fo:=at1 1 _ rfl
 have q2:H2[H.length]?=some {c:=F}:=(J _ qr).trans q1
 have q2f:H2[H.length+1]?=some fo:=(J _ qr).trans q1f
 have q3:H3[H.length]?=some {c:=F}:=(I _ qr).trans q2
 have q3f:H3[H.length+1]?=some fo:=(I _ qr).trans q2f
 have q5:H5[H.length]?=some {c:=F}:=by rw[old5 _ qr,E _ qr];exact q3
 have q6:H6[H.length]?=some {c:=F}:=(old6 _ qr).trans q5
 have q6f:H6[H.length+1]?=some fo:=(O _ qr).trans q1f
 have lzF:XG.length=99:=rfl
 have tF:Q5 99 F=F:=Q7 n0
 have spF:splice XG 0 F=F:=QP (by rw[n0,lzF])
 have a5:∀o1 o:Ob,(H5++[o1]).set H5.length o=H5++[o]:=fun _ _=>by rw[Q1 _ _ (Qj _),Qs];rfl
 have ss:=VR at6
 have a6:=at6
 have hcl:=@Ia
 have ok1:∀L:List Value,(Value.agg L.toArray).cells.toList=L:=fun _=>rfl
 have ok2:∀L:List Value,(Value.agg L.toArray).cells.size=L.length:=fun _=>rfl
 have ok3:∀L:List Value,okVar (Value.agg L.toArray)=true:=fun _=>rfl
 have im0:Qz H.length [] [H5.length]=[]:=QC (by simp;omega)
 have im2:∀j,Qz H.length [] [H.length+j]=[]:=fun j=>QC wd
 have h1:=hH1.symm
 have h4:=hH4.symm
 have h6:=hH6.symm
 have hfoc:fo.c=[.int .i64 5,.slice ik 1 1,.slice ina 2 2,.slice is 1 1,v]:=by rw[hfo]
 have hfol:fo.live=true:=by rw[hfo]
 have hfo':=hfo.symm
 have lnm:=hn.len
 have lfs:=hfo
 have cls:okVar v=true/\v.cells.toList=[v]/\v.cells.size=1:=by rw[hvs];exact⟨rfl,rfl,rfl⟩
 obtain⟨cv1,cv2,cv3⟩:=cls
 rcases ZA mi m with hlt|hge
 ·obtain⟨k7,hky⟩:=ud (H:=H6) (id:=H5.length) (e:=e) (m:=m) (mi:=mi) (nm:=nm) (key:=key) (pub:=Kj sg) (at6.trans (by rw[hF])) hn hk Y hlt
  obtain⟨H8,hH8⟩:∃G,G=H6++k7++[({c:=u8s (Qc 32 0)}:Ob)]:=⟨_,rfl⟩
  have up8:∀i,i<H6.length->H8[i]?=H6[i]? := fun i hi=>by rw[hH8,Qx,Qb hi]
  have l8:H6.length<=H8.length:=by rw[hH8,Qx,Qh];omega
  refine⟨H8.set (H.length+2) {c:=F},F,.slice none 0 0,151,?_,fun i hi =>?_,?_,.inl ⟨hlt,rfl,rfl,rfl⟩⟩
  rotate_left
  ·rw[Ql qr,up8 i qr,O i qr,U i hi]
  ·rw[Qr];omega
  have e8:H8[H.length]?=some {c:=F}:=(up8 _ qr).trans q6
  have e8z:H8[H.length+2]?=some {c:=XG}:=by rw[up8 _ qr,O _ qr];exact at1 2 _ rfl
  have e8s:∀o,(H8.set (H.length+2) o)[H.length+2]?=some o:=fun o=>Qu qr
  have a8:∀o1 o:Ob,(H6++k7++[o1]).set (H6++k7).length o=H6++k7++[o]:=fun _ _=>by rw[Q1 _ _ (Qj _),Qs];rfl
  have a8g:∀o1:Ob,(H6++k7++[o1])[(H6++k7).length]?=some o1:=fun _=>by rw[Qd (Qj _),Qs];rfl
  have h8:=hH8.symm
  obtain⟨zz,hzz⟩:∃x,x=Qc 32 0:=⟨_,rfl⟩
  have lzz:zz.length=32:=by rw[hzz];rfl
  rw[<-hzz]at hky h8
  have sz:=QP (cs:=u8s z) (v:=u8s zz) (by rw[Qq,Qq,lz,lzz])
  have im9:Qz H.length [] [(H6++k7).length]=[]:=QC (by simp;omega)
  generalize hG7:H6++k7=G7 at *
  clear hH1 hH2 hH3 hH4 hH5 hH6 hH8 hE hF hd hzz o1 p1 p2 m1 m2 m3 m4 m6 h hsp at1 at4 at6 U J I E old5 old6 up6 O up8 Z hn hk hs hX hKb xpu xfr xd hfo
  generalize Kj sg=pub at *
  rw[Q9 (fn:=R1) rfl]
  simp only[R1,Qv,quiet,cW,↓pW,reduceCtorEq,seval,-Qa,r1,r3,r4,r6,r7,hen,hfr,hck,hky,hcl,hz,lz,mk',mn',ms3,mn6,w2,cl5,tnm,tsg,hq,q1f,q2,q2f,q3,q3f,q5,q6,q6f,lzF,tF,spF,a5,a6,ss,ok1,ok2,ok3,im0,im2,h1,h4,h6,hfoc,hfol,hfo',lnm,lsg,e8,e8z,e8s,a8,a8g,h8,lzz,sz,im9,n0,Qq,D3]
 ·obtain rfl:mi=m:=qr
  obtain⟨hdd,htl,xt⟩:=hd rfl
  obtain⟨H7,M7,hky,b1,b2,b3,b4⟩:=ue (H:=H6) (id:=H5.length) (e:=e) (m:=mi) (nm:=nm) (key:=key) (pub:=Kj sg) (at6.trans (by rw[hF])) hn hk Y hm
  obtain⟨F',hF'⟩:∃X,X=fol nm e (mi+1) ((nxK nm key).drop 32) (Kj sg) (.slice none 0 0):=⟨_,rfl⟩
  have n1:=VK (e:=e) (m:=mi+1) (hv := .slice none 0 0) hn.len hX.len Y
  rw[<-hF']at b1 n1 ⊢
  have tF':Q5 99 F'=F':=Q7 n1
  have spF':splice XG 0 F'=F':=QP (by rw[n1,lzF])
  have hbx:=OV hKb
  have xA:=Ls hKb
  have xB:=T2 (YM nm key)
  obtain⟨H9,hH9⟩:∃G,G=H7++[({c:=u8s (YM nm key)}:Ob),{c:=[v1]}]:=⟨_,rfl⟩
  have l9:H9.length=H7.length+2:=by rw[hH9];simp
  have up9:∀i,i<H7.length->H9[i]?=H7[i]? := fun i hi=>by rw[hH9,Qb hi]
  have up96:∀i,i<H5.length->H9[i]?=H6[i]? := fun i hi=>by rw[up9 i qr,b2 i qr qr]
  have up93:∀i,i<H3.length->H9[i]?=H3[i]? := fun i hi=>by rw[up96 i qr,up6 i hi]
  have e9v:H9[H7.length+1]?=some {c:=[v1]}:=by rw[hH9,Qd qr,Qt];rfl
  obtain⟨di,dof,dc,dob,rfl,d1,d2,d3,d4,-⟩:=(m3.ext up93).d
  have hdd2:dl=Ud (UK (YM nm key)) (UJ (YM nm key)) tx [JF nm e mi].flatten:=by rw[hdd];simp[msgD]
  obtain⟨v2,H10,M10,hop,c1',c2',c3',c4'⟩:=sP (H:=H9) (id:=di) (off:=dof) (c:=dc) (d:=tx) (pv := .slice (H7.length+1:Nat) 1 1) (xs:=[v1]) (ps:=[JF nm e mi]) xA hbx.2.1 xB (by rw[<-hdd2];exact d1) xt qr (.inr ⟨_,0,1,_,rfl,by omega,e9v,rfl,fun i hi=>by rw[QH]⟩) (.cons (p1.extK (fun i hi=>by have:i<H3.length:=hi;omega) up93) .nil) (by show 1<2^50;decide) (by simp[lfr]) (by rw[<-hdd2];exact d2) (fun o ho=>by rw[d3]at ho;cases ho;exact .inr (.inr (Nat.le_of_eq d4.symm)))
  rw[<-hdd2]at hop
  have u10:∀i,i<H.length->H10[i]?=H[i]? := fun i hi=>by rw[c2' i qr,up93 i qr,I i qr,J i qr,U i hi]
  refine⟨H10.set (H.length+2) {c:=F'},F',v2,0,?_,fun i hi =>?_,?_,.inr ⟨rfl,rfl,rfl,?_⟩⟩
  rotate_left
  ·rw[Ql qr,u10 i hi]
  ·rw[Qr];omega
  ·have ho:OutS (fun i=>i<H9.length) (H10.set (H.length+2) {c:=F'}) v2 tx:=OutS.setK (.inr c1') (by show _<_;omega) _
   exact ho.toK fun i hi h'=>hi (show i<H9.length by have:i<H.length:=h';omega)
  have e9a:H7[H.length+1]?=some fo:=by rw[b2 _ qr qr];exact q6f
  have e9b:∀L:List Ob,(H7++L)[H.length+1]?=some fo:=fun L=>by rw[Qb qr];exact e9a
  have e9c:∀o:Ob,(H7++[o])[H7.length]?=some o:=fun o=>by rw[Qd (Qj _),Qs];rfl
  have a9:∀o1 o:Ob,(H7++[o1]).set H7.length o=H7++[o]:=fun _ _=>by rw[Q1 _ _ (Qj _),Qs];rfl
  have e10:H10[H5.length]?=some {c:=F'}:=by rw[c2' _ qr,up9 _ qr];exact b1
  have e10z:H10[H.length+2]?=some {c:=XG}:=by rw[c2' _ qr,up96 _ qr,O _ qr];exact at1 2 _ rfl
  have e10s:∀o,(H10.set (H.length+2) o)[H.length+2]?=some o:=fun o=>Qu qr
  have im7:Qz H.length [] M7=[]:=QC fun i hi=>by have:=b4 i hi;omega
  have im10:Qz H.length [] M10=[]:=QC fun i hi=>by have:=c4' i hi;omega
  have im9:Qz H.length [] [H7.length]=[]:=QC (by simp;omega)
  have h9:=hH9.symm
  have hbv:=hbx.2.2
  have lAB:(UK (YM nm key)++UJ (YM nm key)).length=44:=by rw[Qh,hbx.1,hbx.2.1]
  have lK:=hKb.len
  generalize UK (YM nm key)++UJ (YM nm key)=AB at *
  generalize YM nm key=K at *
  have sK:=QP (cs:=u8s z) (v:=u8s K) (by rw[Qq,Qq,lz,lK])
  have tK:Q5 32 (u8s K)=u8s K:=Q7 (by rw[Qq,lK])
  clear hH1 hH2 hH3 hH4 hH5 hH6 hH9 hE hF hF' hd hdd hdd2 o1 p1 p2 m1 m2 m3 m4 m6 h hsp at1 at4 at6 U J I E old5 old6 up6 O up9 up96 up93 Z hn hk hs hX hKb xpu xfr xd hfo b1 b2 b3 b4 c1' c2' c3' c4' d1 d2 d3 d4 xA xB hbx xt u10 e9v e9a hle hge
  generalize Kj sg=pub at *
  rw[Q9 (fn:=R1) rfl]
  simp only[R1,Qv,quiet,cW,↓pW,reduceCtorEq,seval,-Qa,r1,r3,r4,r6,r7,hen,hfr,hck,hky,hop,hbv,hcl,hz,lz,mk',mn',ms3,mn6,w1,w2,cl5,tnm,tsg,hq,q1f,q2,q2f,q3,q3f,q5,q6,q6f,lzF,tF,spF,tF',spF',a5,a6,ss,ok1,ok2,ok3,im0,im2,im7,im9,im10,h1,h4,h6,h9,hfoc,hfol,hfo',lnm,lsg,e9b,e9c,a9,e10,e10z,e10s,lK,sK,tK,n0,n1,Qq,D3]
def rm(a b c:Nat)(d:Bool):List Value:=[.int .i64 a,.int .i64 b,.int .i64 c,.int .i64 (if d then 1 else 0)]
def iI(k:Int):Zo T 69 [.int .i64 k]=some (match shp k with|some (a,b,c,d)=>.tuple #[.agg (rm a b c d).toArray,.bool true]|none=>.tuple #[.agg (rm 0 0 0 false).toArray,.bool false]):=by
 have hf:∀(a b c d:Int),fillL [Value.int .i64 0,.int .i64 0,.int .i64 0,.int .i64 0] [(0,1,.int .i64 a),(1,1,.int .i64 b),(2,1,.int .i64 c),(3,1,.int .i64 d)]=some [Value.int .i64 a,.int .i64 b,.int .i64 c,.int .i64 d]:=fun _ _ _ _=>rfl
 have f0:fillL [Value.int .i64 0,.int .i64 0,.int .i64 0,.int .i64 0] []=some [Value.int .i64 0,.int .i64 0,.int .i64 0,.int .i64 0]:=rfl
 have Y:∀k,Qz 0 [] [k]=[]:=fun k=>QC wd
 have sp:∀(a b c d e f g h:Value),splice [a,b,c,d] 0 [e,f,g,h]=[e,f,g,h]:=fun _ _ _ _ _ _ _ _=>rfl
 obtain⟨TB,E⟩:∃X:List Value,X=[.int .i64 0,.int .i64 0,.int .i64 0,.int .i64 0,.int .i64 4,.int .i64 2,.int .i64 1,.int .i64 0,.int .i64 3,.int .i64 2,.int .i64 0,.int .i64 1,.int .i64 1,.int .i64 2,.int .i64 0,.int .i64 1,.int .i64 3,.int .i64 2,.int .i64 0,.int .i64 0,.int .i64 1,.int .i64 2,.int .i64 1,.int .i64 1,.int .i64 3,.int .i64 3,.int .i64 1,.int .i64 1,.int .i64 1,.int .i64 1,.int .i64 0,.int .i64 1]:=⟨_,rfl⟩
 have hft:∀a b c d e f g h:List Value,a=[.int .i64 0,.int .i64 0,.int .i64 0,.int .i64 0]->b=[.int .i64 4,.int .i64 2,.int .i64 1,.int .i64 0]->c=[.int .i64 3,.int .i64 2,.int .i64 0,.int .i64 1]->d=[.int .i64 1,.int .i64 2,.int .i64 0,.int .i64 1]->e=[.int .i64 3,.int .i64 2,.int .i64 0,.int .i64 0]->f=[.int .i64 1,.int .i64 2,.int .i64 1,.int .i64 1]->g=[.int .i64 3,.int .i64 3,.int .i64 1,.int .i64 1]->h=[.int .i64 1,.int .i64 1,.int .i64 0,.int .i64 1] ->
   fillL (Qc 32 (Value.int .i64 0)) [(0,4,.agg a.toArray),(4,4,.agg b.toArray),(8,4,.agg c.toArray),(12,4,.agg d.toArray),(16,4,.agg e.toArray),(20,4,.agg f.toArray),(24,4,.agg g.toArray),(28,4,.agg h.toArray)]=some TB:=by
  rintro _ _ _ _ _ _ _ _ rfl rfl rfl rfl rfl rfl rfl rfl
  rw[E];rfl
 have I:=hft _ _ _ _ _ _ _ _ rfl rfl rfl rfl rfl rfl rfl rfl
 have lT:TB.length=32:=by rw[E];rfl
 have O:splice (Qc 32 (Value.int .i64 0)) 0 TB=TB:=QP (by rw[lT];rfl)
 have U:(Qc 32 (Value.int .i64 0)).length=32:=Q8
 have J:∀j:Nat,j<8->0<j->∀v:List Value,v.length=4->Q5 4 (ZT (j*4) TB)=v->∃l,Zp T 69 [.int .i64 (j:Nat)] []=some (.tuple #[.agg v.toArray,.bool true],l,[]):=by
  intro j hj h0 v hv ht
  have c1:((j:Int)<1)=False:=ut
  have c2:((7:Int)<(j:Int))=False:=ut
  have c3:((j:Int)<8)=True:=wr
  have c4:(j*4<=28)=True:=wr
  have sv:splice [Value.int .i64 0,.int .i64 0,.int .i64 0,.int .i64 0] 0 v=v:=QP hv
  have tv:Q5 4 v=v:=Qo qr
  generalize Z:j*4=j4 at *
  apply Zk
  rw[Q9 (fn:=aM) rfl]
  simp only[aM,Qv,quiet,cW,↓pW,reduceCtorEq,seval,-Qa,hf,f0,I,Y,lT,U,O,c1,c2,c3,c4,Z,ht,hv,sv,tv]
  rfl
 apply X6
 by_cases h:k=1\/k=2\/k=3\/k=4\/k=5\/k=6\/k=7
 ·rcases h with rfl|rfl|rfl|rfl|rfl|rfl|rfl
  ·exact J 1 ww ww _ rfl (by rw[E];rfl)
  ·exact J 2 ww ww _ rfl (by rw[E];rfl)
  ·exact J 3 ww ww _ rfl (by rw[E];rfl)
  ·exact J 4 ww ww _ rfl (by rw[E];rfl)
  ·exact J 5 ww ww _ rfl (by rw[E];rfl)
  ·exact J 6 ww ww _ rfl (by rw[E];rfl)
  ·exact J 7 ww ww _ rfl (by rw[E];rfl)
 simp only[not_or]at h
 obtain⟨h1,h2,h3,h4,h5,h6,h7⟩:=h
 have e:shp k=none:=by unfold shp;simp only[h1,h2,h3,h4,h5,h6,h7,if_false]
 rw[e]
 by_cases c0:k<1
 ·have c1:(k<1)=True:=eq_true c0
  apply Zk
  rw[Q9 (fn:=aM) rfl]
  simp only[aM,Qv,quiet,cW,↓pW,reduceCtorEq,seval,-Qa,hf,f0,I,Y,sp,lT,U,O,c1]
  rfl
 ·have c1:(k<1)=False:=eq_false c0
  have c2:((7:Int)<k)=True:=wr
  apply Zk
  rw[Q9 (fn:=aM) rfl]
  simp only[aM,Qv,quiet,cW,↓pW,reduceCtorEq,seval,-Qa,hf,f0,I,Y,sp,lT,U,O,c1,c2]
  rfl
def NQ(hn:n<2^32):Zo T 70 [.int .i64 n]=some (Jx (id4 n)):=by
 have d1:IntKind.i64.wrap ((n:Int).tdiv 16777216)=((n/16777216:Nat):Int):=by rw[show((n:Int).tdiv 16777216)=((n/16777216:Nat):Int) from rfl];exact ZC qr
 have d2:IntKind.i64.wrap ((n:Int).tdiv 65536)=((n/65536:Nat):Int):=by rw[show((n:Int).tdiv 65536)=((n/65536:Nat):Int) from rfl];exact ZC qr
 have d3:IntKind.i64.wrap ((n:Int).tdiv 256)=((n/256:Nat):Int):=by rw[show((n:Int).tdiv 256)=((n/256:Nat):Int) from rfl];exact ZC qr
 have r0:∀m:Nat,(m:Int).tmod 256=((m%256:Nat):Int):=fun _=>rfl
 have E:∀m:Nat,IntKind.u8.wrap ((m%256:Nat):Int)=((m%256:Nat):Int):=fun m=>by rw[Uk,Vu]
 have f2:∀x0 x1 x2 x3:Nat,fillL [Value.int .u8 0,.int .u8 0,.int .u8 0,.int .u8 0] [(0,1,.int .u8 (x0:Int)),(1,1,.int .u8 (x1:Int)),(2,1,.int .u8 (x2:Int)),(3,1,.int .u8 (x3:Int))]=some (u8s [x0,x1,x2,x3]):=fun _ _ _ _=>rfl
 have hb:=pY (H:=[({c:=u8s (id4 n)}:Ob)]) (v := .slice (0:Nat) 4 4) (bs:=id4 n) (.mk (off:=0) (c:=4) (o:={c:=u8s (id4 n)}) (l:=id4 n) rfl (by rw[Qq,QH];exact Qj _) (fun i x hx=>by rw[QH];exact ZN hx))
 have I:rf (Jx (id4 n))=true:=rfl
 unfold id4 at *
 simp only[Nat.reducePow]at hb I ⊢
 generalize Jx [n/16777216%256,n/65536%256,n/256%256,n%256]=V at *
 have Z:=r0 (n/16777216)
 have Y:=r0 (n/65536)
 have U:=r0 (n/256)
 have O:=r0 n
 have v1:=E (n/16777216)
 have v2:=E (n/65536)
 have J:=E (n/256)
 have v4:=E n
 clear r0 E
 generalize n/16777216%256=x0 at *
 generalize n/65536%256=x1 at *
 generalize n/256%256=x2 at *
 generalize n%256=x3 at *
 generalize n/16777216=y0 at *
 generalize n/65536=y1 at *
 generalize n/256=y2 at *
 rw[Ir]at hb
 apply Zb (fn:=z7) rfl
 simp only[z7,Qv,quiet,cW,↓pW,reduceCtorEq,seval,-Qa,d1,d2,d3,Z,Y,U,O,v1,v2,J,v4,f2,hb]
 rfl
def Ox{j x:Nat}{P:List Nat}(I:∀x∈L,x.length=n)(hi:L[i]?=some P)(E:P[j]?=some x):(u8s L.flatten)[i*n+j]?=some (.int .u8 (x:Nat)):=by
 have U:=(YY I hi).1
 have Y:=I P (Qw hi)
 have O:=(Qf.1 E).1
 have J:=ZN E
 rw[<-U,QN,if_pos qr,Zf]at J
 exact J
def InvD(X0 X:List Ob):Prop:=X0.length<=X.length/\∀i,i<X0.length->X[i]?=X0[i]?
def InvD.refl(X:List Ob):InvD X X:=⟨Qj _,fun _ _=>rfl⟩
def InvD.app{X0 X m:List Ob}(h:InvD X0 X):InvD X0 (X++m):=⟨by rw[Qh];have:=h.1;omega,fun i hi=>by rw[Qb (by have:=h.1;omega)];exact h.2 i hi⟩
def InvD.get{X0 X:List Ob}(h:InvD X0 X){i:Nat}{o:Ob}(E:X0[i]?=some o):X[i]?=some o:=(h.2 i (Qf.1 E).1).trans E
structure Bx(B:Nat)(X0:List Ob)(k:Int)(ka na sa da:Value):Prop where
 ob:X0[B]?=some {c:=[.int .i64 k,ka,na,sa,da]}
def OA(B:Nat)(t:List Nat)(i j:Nat)(X:List Ob)(ex:Env):St:=⟨[(1,.pointer B),(4,.pointer (B+1:Nat)),(6,Jx t),(7,.int .i64 i),(8,.int .i64 j)]++ex,X,[]⟩
def yA{P:List Nat}(hb:Bx B X0 k ka na sa da)(hs:Sq X0 32 (u8s L.flatten) n ka)(hL:∀x∈L,x.length=32)(hi:L[i]?=some P)(hin:i<n)(hn:n<=1000)(lt:t.length<=2^40)(h:InvD X0 X) :
  ∃Y,Q4 T B (.block 2 (.loop Mo)) (OA B t i 0 X [])=some (.normal,OA B (t++P) i 32 Y [(72,.bool false)])/\InvD X0 Y:=by
 rcases hs with⟨-,rfl,-⟩|⟨id,c,w,e,s,rfl,h2,h3⟩
 ·omega
 have lP:=hL P (Qw hi)
 obtain⟨st,hloop,Y,rfl,r⟩:=QM (T:=T) (base:=B) (id:=2) (body:=Mo)
  (fun j st=>∃X,st=OA B (t++P.take j) i j X []/\InvD X0 X)
  (Q:=fun st=>∃X,st=OA B (t++P) i 32 X [(72,.bool false)]/\InvD X0 X)
  32 (s:=OA B t i 0 X []) ⟨X,by rw[Js,QF],h⟩
  (fun j st hj E=>by
   obtain⟨U,rfl,O⟩:=E
   obtain⟨x,hx⟩:∃x,P[j]?=some x:=⟨_,Qg qr⟩
   refine⟨_,?_,U++[byO x],rfl,O.app⟩
   have gx:=Ox hL hi hx
   have g0:=O.get hb.ob
   have g1:=O.get h2
   have I:JC .add (Jx (t++P.take j)) (Jx [x])=some (Jx (t++P.take (j+1))):=by
    rw[VF (by rw[Qh,Q0];simp;omega),Zh,hx,Qx];rfl
   have e1:((j:Int)<32)=True:=wr
   have w3:IntKind.i64.wrap ((j:Int)+1)=((j+1:Nat):Int):=Zm (b:=1) qr
   have J:((i:Int)<(n:Int))=True:=wr
   have fB:fillL [Value.int .u8 0] [(0,1,.int .u8 x)]=some [.int .u8 x]:=rfl
   have hb2:=BP U x
   have hby:=Ym [x]
   have j1:j*1=j:=Xy j
   unfold byO
   clear h3 h hb hL hi
   rw[show Jx [x]=.string ⟨([x].map UInt8.ofNat).toArray⟩ from rfl]at I
   generalize u8s [x]=C3,[x].map UInt8.ofNat=L3,u8s L.flatten=LF at *
   generalize Z:i*32=ik at *
   generalize hj1:j+1=jj at *
   simp only[OA,Mo,Qv,quiet,cW,↓pW,reduceCtorEq,seval,-Qa,e1,w3,g0,g1,gx,J,Z,j1,fB,hb2,hby,I])
  (fun st E=>by
   obtain⟨U,rfl,O⟩:=E
   refine⟨_,?_,U,rfl,O⟩
   rw[Qo qr]
   simp only[OA,Mo,Qv,quiet,cW,↓pW,reduceCtorEq,seval,-Qa])
 exact⟨Y,hloop,r⟩
def O9(B:Nat)(t:List Nat)(i:Nat)(X:List Ob)(ex:Env):St:=⟨[(1,.pointer B),(4,.pointer (B+1:Nat)),(6,Jx t),(7,.int .i64 i)]++ex,X,[]⟩
def uL(hb:Bx B X0 k ka na sa da)(hs:Sq X0 32 (u8s L.flatten) n ka)(O:∀x∈L,x.length=32)(hln:L.length=n)(hn:n<=1000)(lt:t.length<=2^30)(h:InvD X0 X) :
  ∃J,Q4 T B (.block 0 (.loop Mn)) (O9 B t 0 X [])=some (.normal,O9 B (t++L.flatten) n J [(68,.bool false)])/\InvD X0 J:=by
 have hlen:vLen false ka=some (.int .i64 n):=by obtain⟨_,_,e⟩:=hs.shape;rw[e];rfl
 obtain⟨st,hloop,J,rfl,r⟩:=QM (T:=T) (base:=B) (id:=0) (body:=Mn)
  (fun i st=>∃X,st=O9 B (t++(L.take i).flatten) i X []/\InvD X0 X)
  (Q:=fun st=>∃X,st=O9 B (t++L.flatten) n X [(68,.bool false)]/\InvD X0 X)
  n (s:=O9 B t 0 X []) ⟨X,by rw[Js,ZB,QF],h⟩
  (fun i st hi E=>by
   obtain⟨X1,rfl,I⟩:=E
   obtain⟨P,Z⟩:∃P,L[i]?=some P:=⟨_,Qg qr⟩
   have lk:(L.take i).flatten.length=i*32:=by rw[Kd (n:=32) fun x hx=>O x (QG hx),Q0,Zg qr]
   obtain⟨X2,Y,i2⟩:=yA hb hs O Z hi hn (t:=t++(L.take i).flatten) (by rw[Qh,lk];omega) I
   refine⟨_,?_,X2,rfl,i2⟩
   have U:=I.get hb.ob
   have e1:((i:Int)<(n:Int))=True:=wr
   have w3:IntKind.i64.wrap ((i:Int)+1)=((i+1:Nat):Int):=Zm (b:=1) qr
   have ht:t++(L.take (i+1)).flatten=t++(L.take i).flatten++P:=by
    rw[Zh,Z,Zz,<-Qx];simp
   simp only[OA,Qp,Qn,show((0:Nat):Int)=0 from rfl]at Y
   rw[ht]
   clear ht lk hs O hb h
   generalize t++(L.take i).flatten++P=t2 at *
   generalize t++(L.take i).flatten=t1 at *
   generalize hi1:i+1=ii at *
   simp only[O9,Mn,Qv,quiet,cW,↓pW,reduceCtorEq,seval,-Qa,U,hlen,e1,Y,w3])
  (fun st E=>by
   obtain⟨X1,rfl,I⟩:=E
   have U:=I.get hb.ob
   refine⟨_,?_,X1,rfl,I⟩
   rw[Qo qr]
   simp only[O9,Mn,Qv,quiet,cW,↓pW,reduceCtorEq,seval,-Qa,U,hlen])
 exact⟨J,hloop,r⟩
def O7(B:Nat)(t:List Nat)(i j:Nat)(X:List Ob)(ex:Env):St:=⟨[(1,.pointer B),(4,.pointer (B+1:Nat)),(6,Jx t),(10,.int .i64 i),(11,.int .i64 j)]++ex,X,[]⟩
def y9{P:List Nat}(hb:Bx B X0 k ka na sa da)(hs:Sq X0 64 (u8s L.flatten) n sa)(hL:∀x∈L,x.length=64)(hi:L[i]?=some P)(hin:i<n)(hn:n<=1000)(lt:t.length<=2^40)(h:InvD X0 X) :
  ∃Y,Q4 T B (.block 8 (.loop Mr)) (O7 B t i 0 X [])=some (.normal,O7 B (t++P) i 64 Y [(110,.bool false)])/\InvD X0 Y:=by
 rcases hs with⟨-,rfl,-⟩|⟨id,c,w,e,s,rfl,h2,h3⟩
 ·omega
 have lP:=hL P (Qw hi)
 obtain⟨st,hloop,Y,rfl,r⟩:=QM (T:=T) (base:=B) (id:=8) (body:=Mr)
  (fun j st=>∃X,st=O7 B (t++P.take j) i j X []/\InvD X0 X)
  (Q:=fun st=>∃X,st=O7 B (t++P) i 64 X [(110,.bool false)]/\InvD X0 X)
  64 (s:=O7 B t i 0 X []) ⟨X,by rw[Js,QF],h⟩
  (fun j st hj E=>by
   obtain⟨U,rfl,O⟩:=E
   obtain⟨x,hx⟩:∃x,P[j]?=some x:=⟨_,Qg qr⟩
   refine⟨_,?_,U++[byO x],rfl,O.app⟩
   have gx:=Ox hL hi hx
   have g0:=O.get hb.ob
   have g1:=O.get h2
   have I:JC .add (Jx (t++P.take j)) (Jx [x])=some (Jx (t++P.take (j+1))):=by
    rw[VF (by rw[Qh,Q0];simp;omega),Zh,hx,Qx];rfl
   have e1:((j:Int)<64)=True:=wr
   have w3:IntKind.i64.wrap ((j:Int)+1)=((j+1:Nat):Int):=Zm (b:=1) qr
   have J:((i:Int)<(n:Int))=True:=wr
   have fB:fillL [Value.int .u8 0] [(0,1,.int .u8 x)]=some [.int .u8 x]:=rfl
   have hb2:=BP U x
   have hby:=Ym [x]
   have j1:j*1=j:=Xy j
   unfold byO
   clear h3 h hb hL hi
   rw[show Jx [x]=.string ⟨([x].map UInt8.ofNat).toArray⟩ from rfl]at I
   generalize u8s [x]=C3,[x].map UInt8.ofNat=L3,u8s L.flatten=LF at *
   generalize Z:i*64=ik at *
   generalize hj1:j+1=jj at *
   simp only[O7,Mr,Qv,quiet,cW,↓pW,reduceCtorEq,seval,-Qa,e1,w3,g0,g1,gx,J,Z,j1,fB,hb2,hby,I])
  (fun st E=>by
   obtain⟨U,rfl,O⟩:=E
   refine⟨_,?_,U,rfl,O⟩
   rw[Qo qr]
   simp only[O7,Mr,Qv,quiet,cW,↓pW,reduceCtorEq,seval,-Qa])
 exact⟨Y,hloop,r⟩
def O6(B:Nat)(t:List Nat)(i:Nat)(X:List Ob)(ex:Env):St:=⟨[(1,.pointer B),(4,.pointer (B+1:Nat)),(6,Jx t),(10,.int .i64 i)]++ex,X,[]⟩
def uJ(hb:Bx B X0 k ka na sa da)(hs:Sq X0 64 (u8s L.flatten) n sa)(O:∀x∈L,x.length=64)(hln:L.length=n)(hn:n<=1000)(lt:t.length<=2^30)(h:InvD X0 X) :
  ∃J,Q4 T B (.block 6 (.loop Mq)) (O6 B t 0 X [])=some (.normal,O6 B (t++L.flatten) n J [(106,.bool false)])/\InvD X0 J:=by
 have hlen:vLen false sa=some (.int .i64 n):=by obtain⟨_,_,e⟩:=hs.shape;rw[e];rfl
 obtain⟨st,hloop,J,rfl,r⟩:=QM (T:=T) (base:=B) (id:=6) (body:=Mq)
  (fun i st=>∃X,st=O6 B (t++(L.take i).flatten) i X []/\InvD X0 X)
  (Q:=fun st=>∃X,st=O6 B (t++L.flatten) n X [(106,.bool false)]/\InvD X0 X)
  n (s:=O6 B t 0 X []) ⟨X,by rw[Js,ZB,QF],h⟩
  (fun i st hi E=>by
   obtain⟨X1,rfl,I⟩:=E
   obtain⟨P,Z⟩:∃P,L[i]?=some P:=⟨_,Qg qr⟩
   have lk:(L.take i).flatten.length=i*64:=by rw[Kd (n:=64) fun x hx=>O x (QG hx),Q0,Zg qr]
   obtain⟨X2,Y,i2⟩:=y9 hb hs O Z hi hn (t:=t++(L.take i).flatten) (by rw[Qh,lk];omega) I
   refine⟨_,?_,X2,rfl,i2⟩
   have U:=I.get hb.ob
   have e1:((i:Int)<(n:Int))=True:=wr
   have w3:IntKind.i64.wrap ((i:Int)+1)=((i+1:Nat):Int):=Zm (b:=1) qr
   have ht:t++(L.take (i+1)).flatten=t++(L.take i).flatten++P:=by
    rw[Zh,Z,Zz,<-Qx];simp
   simp only[O7,Qp,Qn,show((0:Nat):Int)=0 from rfl]at Y
   rw[ht]
   clear ht lk hs O hb h
   generalize t++(L.take i).flatten++P=t2 at *
   generalize t++(L.take i).flatten=t1 at *
   generalize hi1:i+1=ii at *
   simp only[O6,Mq,Qv,quiet,cW,↓pW,reduceCtorEq,seval,-Qa,U,hlen,e1,Y,w3])
  (fun st E=>by
   obtain⟨X1,rfl,I⟩:=E
   have U:=I.get hb.ob
   refine⟨_,?_,X1,rfl,I⟩
   rw[Qo qr]
   simp only[O6,Mq,Qv,quiet,cW,↓pW,reduceCtorEq,seval,-Qa,U,hlen])
 exact⟨J,hloop,r⟩
def O8(B:Nat)(t:List Nat)(i:Nat)(X:List Ob)(ex:Env):St:=⟨[(1,.pointer B),(4,.pointer (B+1:Nat)),(6,Jx t),(9,.int .i64 i)]++ex,X,[]⟩
def uK{L:List Nat}(hb:Bx B X0 k ka na sa da)(hs:Sq X0 1 (ns32 L) n na)(hL:∀x∈L,x<2^32)(hln:L.length=n)(hn:n<=1000)(lt:t.length<=2^30)(h:InvD X0 X) :
  ∃O,Q4 T B (.block 4 (.loop Mp)) (O8 B t 0 X [])=some (.normal,O8 B (t++(L.map id4).flatten) n O [(90,.bool false)])/\InvD X0 O:=by
 have hlen:vLen false na=some (.int .i64 n):=by obtain⟨_,_,e⟩:=hs.shape;rw[e];rfl
 obtain⟨st,hloop,O,rfl,r⟩:=QM (T:=T) (base:=B) (id:=4) (body:=Mp)
  (fun i st=>∃X,st=O8 B (t++((L.take i).map id4).flatten) i X []/\InvD X0 X)
  (Q:=fun st=>∃X,st=O8 B (t++(L.map id4).flatten) n X [(90,.bool false)]/\InvD X0 X)
  n (s:=O8 B t 0 X []) ⟨X,by rw[Js,Xj,ZB,QF],h⟩
  (fun i st hi E=>by
   obtain⟨X1,rfl,I⟩:=E
   obtain⟨x,J⟩:∃x,L[i]?=some x:=⟨_,Qg qr⟩
   refine⟨_,?_,X1,rfl,I⟩
   rcases hs with⟨-,rfl,-⟩|⟨id,c,w,e,s,rfl,h2,h3⟩
   ·omega
   have lx:=hL x (Qw J)
   have lk:((L.take i).map id4).flatten.length=i*4:=by
    rw[Kd (n:=4) fun x J=>by obtain⟨y,-,rfl⟩:=JN.1 J;rfl,XJ,Q0,Zg qr]
   have hm:=NQ lx
   have U:JC .add (Jx (t++((L.take i).map id4).flatten)) (Jx (id4 x))=some (Jx (t++((L.take (i+1)).map id4).flatten)):=by
    rw[VF (by rw[Qh,lk];show _+4<=_;omega),Zh,J,XZ,Zz,Qx];simp
   have Z:=I.get hb.ob
   have g1:=I.get h2
   have c1:(ns32 L)[i]?=some (.int .u32 (x:Nat)):=by rw[ns32,J5,J];rfl
   have wx:IntKind.i64.wrap (x:Int)=(x:Nat):=ZC qr
   have e1:((i:Int)<(n:Int))=True:=wr
   have w3:IntKind.i64.wrap ((i:Int)+1)=((i+1:Nat):Int):=Zm (b:=1) qr
   have j1:i*1=i:=Xy i
   have Y:rf (Jx (id4 x))=true:=rfl
   clear h3 hb hL lk h
   generalize Jx (id4 x)=VX,ns32 L=LF at *
   generalize hi1:i+1=ii at *
   simp only[O8,Mp,Qv,quiet,cW,↓pW,reduceCtorEq,seval,-Qa,Z,g1,c1,hlen,e1,wx,hm,Y,U,w3,j1])
  (fun st E=>by
   obtain⟨X1,rfl,I⟩:=E
   have Z:=I.get hb.ob
   refine⟨_,?_,X1,rfl,I⟩
   rw[Qo qr]
   simp only[O8,Mp,Qv,quiet,cW,↓pW,reduceCtorEq,seval,-Qa,Z,hlen])
 exact⟨O,hloop,r⟩
end
section
attribute [local congr] Jw JD Jv JE Jk
variable{H:List Ob}
def SX{k:Int}{ka na sa da:Value}{kl:List (List Nat)}{nl:List Nat}{sl:List (List Nat)}{dl:List Nat}(h:FrV H ka na sa da kl nl sl dl)(hnl:∀x∈nl,x<2^32) :
  ∃v l,Zp T 29 [.agg #[.int .i64 k,ka,na,sa,da]] H=some (.tuple #[v,.int .i64 (frE k kl.length nl.length sl.length dl.length)],H++l,[]) /\
   ((∀x y z d,shp k=some (x,y,z,d)->frE k kl.length nl.length sl.length dl.length=0->v=Jx (frB k kl nl sl dl d))/\(frE k kl.length nl.length sl.length dl.length≠0->v=.string (ByteArray.mk #[]))):=by
 have E:=iI k
 obtain⟨_,_,sk⟩:=h.kz.shape
 obtain⟨_,_,sn⟩:=h.nz.shape
 obtain⟨_,_,ss⟩:=h.sz.shape
 obtain⟨_,_,sd⟩:=h.dz.shape
 have n1:vLen false ka=some (.int .i64 kl.length):=by rw[sk];rfl
 have n2:vLen false na=some (.int .i64 nl.length):=by rw[sn];rfl
 have n3:vLen false sa=some (.int .i64 sl.length):=by rw[ss];rfl
 have n4:vLen false da=some (.int .i64 dl.length):=by rw[sd];rfl
 have U:∀(a b c d e f g h:Value),splice [a,b,c,d] 0 [e,f,g,h]=[e,f,g,h]:=fun _ _ _ _ _ _ _ _=>rfl
 have g0:∀o1:Ob,(H++[o1])[H.length]?=some o1:=fun _=>by rw[Qd (Qj _),Qs];rfl
 have g00:∀o1 o2:Ob,(H++[o1,o2])[H.length]?=some o1:=fun _ _=>by rw[Qd (Qj _),Qs];rfl
 have J:∀o1 o2:Ob,(H++[o1,o2])[H.length+1]?=some o2:=fun _ _=>by rw[Qd qr,Qt];rfl
 have O:∀o1 o2 o:Ob,(H++[o1,o2]).set (H.length+1) o=H++[o1,o]:=fun _ _ _=>by rw[Q1 _ _ qr,Qt];rfl
 have im1:∀i,Qz H.length [] [H.length+i]=[]:=fun i=>QC wd
 have ok1:∀L:List Value,(Value.agg L.toArray).cells.toList=L:=fun _=>rfl
 have Z:∀L:List Value,(Value.agg L.toArray).cells.size=L.length:=fun _=>rfl
 have Y:∀L:List Value,okVar (Value.agg L.toArray)=true:=fun _=>rfl
 have bad:∀c:Int,c≠0->frE k kl.length nl.length sl.length dl.length=c->(∃l,Zp T 29 [.agg #[.int .i64 k,ka,na,sa,da]] H=some (.tuple #[.string (ByteArray.mk #[]),.int .i64 c],H++l,[])) ->
   ∃v l,Zp T 29 [.agg #[.int .i64 k,ka,na,sa,da]] H=some (.tuple #[v,.int .i64 (frE k kl.length nl.length sl.length dl.length)],H++l,[]) /\
    ((∀x y z d,shp k=some (x,y,z,d)->frE k kl.length nl.length sl.length dl.length=0->v=Jx (frB k kl nl sl dl d))/\(frE k kl.length nl.length sl.length dl.length≠0->v=.string (ByteArray.mk #[]))):=by
  rintro c hc he ⟨l,hl⟩
  exact⟨_,l,by rw[he];exact hl,fun _ _ _ _ _ h0=>absurd (he.symm.trans h0) hc,fun _=>rfl⟩
 obtain hsh|⟨x,y,z,d,hsh⟩:shp k=none\/∃x y z d,shp k=some (x,y,z,d):=by
  rcases shp k with _|⟨x,y,z,d⟩
  ·exact .inl rfl
  ·exact .inr ⟨x,y,z,d,rfl⟩
 ·have I:rf (.tuple #[.agg #[Value.int .i64 0,.int .i64 0,.int .i64 0,.int .i64 0],.bool false])=true:=rfl
  rw[hsh]at E
  have hv:rm 0 0 0 false=[Value.int .i64 0,.int .i64 0,.int .i64 0,.int .i64 0]:=rfl
  simp only[hv]at E
  refine bad 110 ww (by unfold frE;rw[hsh]) (Zk ?_ ?_)
  rotate_left
  ·rw[Q9 (fn:=BV) rfl]
   simp only[BV,Qv,quiet,cW,↓pW,reduceCtorEq,seval,-Qa,E,I,g0,J,O,im1,ok1,Z,Y,U]
   rfl
 ·rw[hsh]at E
  obtain⟨wk,kb,lx,ly,lz⟩:=iH hsh
  obtain⟨dn,hdn⟩:∃dn:Int,dn=if d then 1 else 0:=⟨_,rfl⟩
  simp only[rm,<-hdn]at E
  have I:rf (.tuple #[.agg #[Value.int .i64 x,.int .i64 y,.int .i64 z,.int .i64 dn],.bool true])=true:=rfl
  by_cases q1:kl.length=x
  ·have b1:(((kl.length:Nat):Int) != (x:Int))=false:=by simp;omega
   by_cases q2:nl.length=y
   ·have b2:(((nl.length:Nat):Int) != (y:Int))=false:=by simp;omega
    by_cases q3:sl.length=z
    ·have b3:(((sl.length:Nat):Int) != (z:Int))=false:=by simp;omega
     obtain⟨X0,hX0⟩:∃X,X=H++[({c:=[.int .i64 k,ka,na,sa,da]}:Ob),{c:=[.int .i64 x,.int .i64 y,.int .i64 z,.int .i64 dn]}]:=⟨_,rfl⟩
     have lX0:X0.length=H.length+2:=by rw[hX0];simp
     have hb:Bx H.length X0 k ka na sa da:=⟨by rw[hX0];exact g00 _ _⟩
     have hb1:X0[H.length+1]?=some {c:=[.int .i64 x,.int .i64 y,.int .i64 z,.int .i64 dn]}:=by rw[hX0];exact J _ _
     have hap:∀ {es cs n v},Sq H es cs n v->Sq X0 es cs n v:=fun hh=>by rw[hX0];exact hh.app
     have lkf:kl.flatten.length<=1000:=by rw[Kd h.kx];omega
     have lnf:(nl.map id4).flatten.length<=1000:=by rw[Kd (n:=4) fun x hx=>by obtain⟨y,-,rfl⟩:=JN.1 hx;rfl,XJ];omega
     have lsf:sl.flatten.length<=1000:=by rw[Kd h.sx];omega
     obtain⟨X1,m1,i1⟩:=uL hb (hap h.kz) h.kx rfl qr (t:=[k.toNat]) (by show 1<=_;decide) ((InvD.refl X0).app (m:=[byO k.toNat]))
     obtain⟨X2,m2,i2⟩:=uK (t:=[k.toNat]++kl.flatten) hb (hap h.nz) hnl rfl qr (by simp only[Qh,Zt,Z9];omega) i1
     obtain⟨X3,m3,i3⟩:=uJ (t:=[k.toNat]++kl.flatten++(nl.map id4).flatten) hb (hap h.sz) h.sx rfl qr (by simp only[Qh,Zt,Z9];omega) i2
     have p10:=i1.get hb.ob
     have p11:=i1.get hb1
     have p20:=i2.get hb.ob
     have p21:=i2.get hb1
     have p30:=i3.get hb.ob
     have p31:=i3.get hb1
     have p32:∀i,i<H.length->X3[i]?=H[i]? := fun i hi=>by rw[i3.2 i qr,hX0,Qb hi]
     have F1:H++[({c:=[.int .i64 k,ka,na,sa,da]}:Ob),{c:=[.int .i64 x,.int .i64 y,.int .i64 z,.int .i64 dn]},{c:=[.int .u8 (k.toNat:Nat)]}]=X0++[byO k.toNat]:=by rw[hX0,Qx];rfl
     have fB:fillL [Value.int .u8 0] [(0,1,.int .u8 (k.toNat:Nat))]=some [.int .u8 (k.toNat:Nat)]:=rfl
     have hb2:=BP X0 k.toNat
     have hby:=Ym [k.toNat]
     have F1':X0++[({c:=[.int .u8 (k.toNat:Nat)]}:Ob)]=X0++[byO k.toNat]:=rfl
     rw[F1',lX0]at hb2
     have hst:(Value.string ⟨([k.toNat].map UInt8.ofNat).toArray⟩)=Jx [k.toNat]:=rfl
     simp only[O9,O8,O6,Qp,Qn,show((0:Nat):Int)=0 from rfl]at m1 m2 m3
     obtain⟨l,hl⟩:=XI (by have:=i3.1;omega) p32
     have lt3:([k.toNat]++kl.flatten++(nl.map id4).flatten++sl.flatten).length<=4000:=by simp only[Qh,Zt,Z9];omega
     have hS:Jx [k.toNat]=Jx [k.toNat]:=rfl
     cases d
     ·obtain rfl:dn=0:=hdn
      by_cases q4:dl.length=0
      ·have c1:((0:Int)<(dl.length:Int))=False:=ut
       have c2:((16384:Int)<(dl.length:Int))=False:=ut
       have hE:frE k kl.length nl.length sl.length dl.length=0:=by
        unfold frE;rw[hsh];simp only[q1,q2,q3,q4,and_self,or_true,if_true];rfl
       refine⟨Jx ([k.toNat]++kl.flatten++(nl.map id4).flatten++sl.flatten),l,?_,fun _ _ _ _ e _ =>?_,fun hh=>absurd hE hh⟩
       ·rw[hE,<-hl]
        clear i1 i2 i3 hX0 hap p32 lt3 hl bad hb hb1
        generalize[k.toNat].map UInt8.ofNat=L3,u8s [k.toNat]=C3,X0++[byO k.toNat]=X01 at *
        rw[Q9 (fn:=BV) rfl]
        simp only[BV,Qv,quiet,cW,↓pW,reduceCtorEq,seval,-Qa,E,I,g0,g00,J,O,im1,ok1,Z,Y,n1,n2,n3,n4,U,b1,b2,b3,c1,c2,wk,fB,hb2,hby,hst,F1,m1,m2,m3,p31]
       ·rw[hsh]at e
        cases e
        simp[frB]
      ·have c1:((0:Int)<(dl.length:Int))=True:=wr
       refine bad 110 ww (by unfold frE;rw[hsh];exact if_neg fun hh=>by rcases hh.2.2.2 with hh|hh;cases hh;exact q4 hh) (Zk ?_ ?_)
       rotate_left
       ·rw[Q9 (fn:=BV) rfl]
        simp only[BV,Qv,quiet,cW,↓pW,reduceCtorEq,seval,-Qa,E,I,g0,g00,J,O,im1,ok1,Z,Y,n1,n2,n3,n4,U,b1,b2,b3,c1]
        rfl
     ·obtain rfl:dn=1:=hdn
      by_cases q4:16384<dl.length
      ·have c2:((16384:Int)<(dl.length:Int))=True:=wr
       refine bad 2 ww (by unfold frE;rw[hsh];simp only[q1,q2,q3,q4,and_self,true_or,if_true]) (Zk ?_ ?_)
       rotate_left
       ·rw[Q9 (fn:=BV) rfl]
        simp only[BV,Qv,quiet,cW,↓pW,reduceCtorEq,seval,-Qa,E,I,g0,g00,J,O,im1,ok1,Z,Y,n1,n2,n3,n4,U,b1,b2,b3,c2]
        rfl
      ·have c2:((16384:Int)<(dl.length:Int))=False:=ut
       have hE:frE k kl.length nl.length sl.length dl.length=0:=by
        unfold frE;rw[hsh];simp only[q1,q2,q3,q4,and_self,true_or,if_true,if_false]
       have hnum:=NQ (n:=dl.length) qr
       have hrf:rf (Jx (id4 dl.length))=true:=rfl
       have hde:=h.dz.reads X3 p32
       have hdb:=Ym dl
       have hvb:LN X3 da=some (Jx dl):=by
        rw[sd,Ir,<-sd,hde,Qk,hdb,Qk];rfl
       have ha1:JC .add (Jx (id4 dl.length)) (Jx dl)=some (Jx (id4 dl.length++dl)):=VF (by show 4+_<=_;omega)
       have ha2:JC .add (Jx ([k.toNat]++kl.flatten++(nl.map id4).flatten++sl.flatten)) (Jx (id4 dl.length++dl))=some (Jx ([k.toNat]++kl.flatten++(nl.map id4).flatten++sl.flatten++(id4 dl.length++dl))):=VF (by rw[@Qh _ (id4 dl.length)];show _+(4+_)<=_;omega)
       refine⟨Jx ([k.toNat]++kl.flatten++(nl.map id4).flatten++sl.flatten++(id4 dl.length++dl)),l,?_,fun _ _ _ _ e _ =>?_,fun hh=>absurd hE hh⟩
       ·rw[hE,<-hl]
        clear i1 i2 i3 hX0 hap p32 lt3 hl bad hb hb1 hde hdb
        generalize[k.toNat].map UInt8.ofNat=L3,u8s [k.toNat]=C3,X0++[byO k.toNat]=X01 at *
        simp only[Qp,Qn,Qx]at ha2
        generalize Jx (id4 dl.length++dl)=SV1,Jx (id4 dl.length)=SV2 at *
        rw[Q9 (fn:=BV) rfl]
        simp only[BV,Qv,quiet,cW,↓pW,reduceCtorEq,seval,-Qa,E,I,g0,g00,J,O,im1,ok1,Z,Y,n1,n2,n3,n4,U,b1,b2,b3,c2,wk,fB,hb2,hby,hst,F1,m1,m2,m3,p30,p31,hnum,hrf,hvb,ha1,ha2]
       ·rw[hsh]at e
        cases e
        simp[frB]
    ·have b3:(((sl.length:Nat):Int) != (z:Int))=true:=by simp;omega
     refine bad 110 ww (by unfold frE;rw[hsh];exact if_neg fun hh=>q3 hh.2.2.1) (Zk ?_ ?_)
     rotate_left
     ·rw[Q9 (fn:=BV) rfl]
      simp only[BV,Qv,quiet,cW,↓pW,reduceCtorEq,seval,-Qa,E,I,g0,g00,J,O,im1,ok1,Z,Y,n1,n2,n3,U,b1,b2,b3]
      rfl
   ·have b2:(((nl.length:Nat):Int) != (y:Int))=true:=by simp;omega
    refine bad 110 ww (by unfold frE;rw[hsh];exact if_neg fun hh=>q2 hh.2.1) (Zk ?_ ?_)
    rotate_left
    ·rw[Q9 (fn:=BV) rfl]
     simp only[BV,Qv,quiet,cW,↓pW,reduceCtorEq,seval,-Qa,E,I,g0,g00,J,O,im1,ok1,Z,Y,n1,n2,U,b1,b2]
     rfl
  ·have b1:(((kl.length:Nat):Int) != (x:Int))=true:=by simp;omega
   refine bad 110 ww (by unfold frE;rw[hsh];exact if_neg fun hh=>q1 hh.1) (Zk ?_ ?_)
   rotate_left
   ·rw[Q9 (fn:=BV) rfl]
    simp only[BV,Qv,quiet,cW,↓pW,reduceCtorEq,seval,-Qa,E,I,g0,g00,J,O,im1,ok1,Z,Y,n1,U,b1]
    rfl
structure Two(X:List Ob)(B:Nat)(k:Int)(ka na sa da kb nb sb db:Value):Prop where
 a:X[B]?=some {c:=[.int .i64 k,ka,na,sa,da]}
 b:X[B+1]?=some {c:=[.int .i64 k,kb,nb,sb,db]}
def OZ{X:List Ob}{v:Value}{l:List Nat}(h:DPart H v l)(E:∀i,i<H.length->X[i]?=H[i]?):LN X v=some (Jx l):=by
 have I:=h.reads X E
 obtain⟨a,c,e⟩:=h.shape
 rw[e,Ir,<-e,I,Qk,Ym,Qk];rfl
def TL:List Nat:=[116,101,120,116]
def ym(n:Nat):B32 (kE n):=⟨IZ n,kE_lt n⟩
def xh{nm:List Nat}{e m:Nat}{key tl:List Nat}:rf (.agg (plc nm e m key (u8s tl)).toArray)=true:=by
 simp[rf,Wv,plc,u8s,ZD]
def sA:Zo T 6 []=some (.bool true):=by
 have hn:=ym 1
 have hk:=ym 3
 have hs:=ym 4
 have hz:Qc 32 (Value.int .u8 0)=u8s zK:=rfl
 have lz:=gD
 have f1:fillL (u8s zK) [(0,1,.int .u8 1)]=some (u8s (kE 1)):=rfl
 have f3:fillL (u8s zK) [(0,1,.int .u8 3)]=some (u8s (kE 3)):=rfl
 have f4:fillL (u8s zK) [(0,1,.int .u8 4)]=some (u8s (kE 4)):=rfl
 have ft:fillL [Value.int .u8 0,.int .u8 0,.int .u8 0,.int .u8 0] [(0,1,.int .u8 116),(1,1,.int .u8 101),(2,1,.int .u8 120),(3,1,.int .u8 116)]=some (u8s TL):=rfl
 have hst:Zo T 22 [.agg (u8s (kE 1)).toArray,.int .u32 2,.agg (u8s (kE 3)).toArray,.agg (u8s (kE 4)).toArray]=_:=re (e:=2) hn.len hk.len hs.len
 have lpu:=Bv (kE 4)
 have hX:=A6 (kE 1) (kE 3)
 obtain⟨S,hS⟩:∃X,X=plc (kE 1) 2 0 (kE 3) (u8s (kE 4)):=⟨_,rfl⟩
 have n0:=JM (e:=2) (m:=0) (tl:=u8s (kE 4)) hn.len hk.len
 rw[Qq,hs.len,<-hS]at n0
 rw[<-hS]at hst
 obtain⟨H1,hH1⟩:∃G,G=[({c:=S}:Ob)]:=⟨_,rfl⟩
 have hsh:=Nf (H:=H1) (e:=2) (m:=0) hn.len hk.len hs
 rw[<-hS]at hsh
 have F:=iG (H:=H1) (nm:=kE 1) (key:=kE 3) (sg:=kE 4) (pub:=Kj (kE 4)) (e:=2) (m:=0) hn.len hk.len lpu
 obtain⟨P1,hP1⟩:∃G,G=H1++I1 (kE 1) (kE 3) (kE 4) (Kj (kE 4)) 2 0 H1.length:=⟨_,rfl⟩
 rw[<-hP1]at hsh F
 obtain⟨k1,hfo⟩:=FP F
 obtain⟨W,hW⟩:∃X,X=fol (kE 1) 2 0 (kE 3) (Kj (kE 4)) (.slice none 0 0):=⟨_,rfl⟩
 rw[show plc (kE 1) 2 0 (kE 3) (u8s (Kj (kE 4))++[.slice none 0 0])=fol (kE 1) 2 0 (kE 3) (Kj (kE 4)) (.slice none 0 0) from rfl,<-hW]at hfo
 have w0:=VK (e:=2) (m:=0) (hv := .slice none 0 0) hn.len hk.len lpu
 rw[<-hW]at w0
 obtain⟨P2,hP2⟩:∃G,G=P1++k1:=⟨_,rfl⟩
 rw[<-hP2]at hfo
 have lP2:1<=P2.length:=by rw[hP2,hP1,hH1];simp[I1]
 have p2s:P2[0]?=some {c:=S}:=by rw[hP2,hP1,hH1];rfl
 obtain⟨H3,O⟩:∃G,G=P2++[({c:=W}:Ob),{c:=u8s TL}]:=⟨_,rfl⟩
 have l3:H3.length=P2.length+2:=by rw[O];simp
 have h3t:H3[P2.length+1]?=some {c:=u8s TL}:=by rw[O,Qd qr,Qt];rfl
 have h3w:H3[P2.length]?=some {c:=W}:=by rw[O,Qd (Qj _),Qs];rfl
 have h3s:H3[0]?=some {c:=S}:=by rw[O,Qb qr];exact p2s
 obtain⟨ik,ina,is,v,H4,hse,m4,o4,l4⟩:=Cd (H:=H3) (e:=2) (m:=0) (tv := .slice (P2.length+1:Nat) 4 4) hn hk hs ww (HPart.whole qr h3t ww ww) ww
 obtain⟨S',hS'⟩:∃X,X=plc (kE 1) 2 (0+1) ((nxK (kE 1) (kE 3)).drop 32) (u8s (kE 4)):=⟨_,rfl⟩
 have n1:=JM (e:=2) (m:=0+1) (tl:=u8s (kE 4)) hn.len hX.len
 rw[Qq,hs.len,<-hS']at n1
 rw[<-hS,<-hS']at hse
 have hnum1:S'[33]?=some (.int .u32 1):=by rw[hS'];exact Vw hn.len
 obtain⟨fo,I⟩:∃o:Ob,o={c:=[.int .i64 5,.slice ik 1 1,.slice ina 2 2,.slice is 1 1,v]}:=⟨_,rfl⟩
 obtain⟨H5,J⟩:∃G,G=(H4.set 0 ({c:=S'}:Ob))++[fo]:=⟨_,rfl⟩
 have l5:H5.length=H4.length+1:=by rw[J];simp
 have o5:∀i,i<H4.length->i≠0->H5[i]?=H4[i]? := fun i hi hne=>by rw[J,Qb (by rw[Qr];exact hi),Ql (Ne.symm hne)]
 have m5:=m4.keep (G:=H5) fun i o hb ho _=>(o5 i (Qf.1 ho).1 qr).trans ho
 have hD:=Sx (nm:=kE 1) (key:=kE 3) (tx:=TL) 2 0 hn ww ww
 have ltx:TL.length=4:=rfl
 obtain⟨H6,r6,v6,c6,hop,o6,l6,q6⟩:=OL (H:=H5) (key:=kE 3) (m:=0) (tx:=TL) m5 hk hs qr hD.2 ww (Qj _) (fun _=>⟨rfl,by decide,by decide⟩)
 rcases q6 with⟨h,-⟩|⟨-,rfl,rfl,q6⟩
 ·exact absurd h (Nat.lt_irrefl _)
 rw[<-hW]at hop
 obtain⟨W',hW'⟩:∃X,X=fol (kE 1) 2 (0+1) ((nxK (kE 1) (kE 3)).drop 32) (Kj (kE 4)) (.slice none 0 0):=⟨_,rfl⟩
 have w1:=VK (e:=2) (m:=0+1) (hv := .slice none 0 0) hn.len hX.len lpu
 rw[<-hW']at w1 hop
 obtain⟨H7,hH7⟩:∃G,G=H6++[({c:=W'}:Ob)]:=⟨_,rfl⟩
 have l7:H7.length=H6.length+1:=by rw[hH7];simp
 have o7:∀i,i<H6.length->H7[i]?=H6[i]? := fun i hi=>by rw[hH7,Qb hi]
 have m7:=(m5.ext o6).ext o7
 obtain⟨H8,r8,v8,c8,Z,o8,l8,q8⟩:=OL (H:=H7) (key:=(nxK (kE 1) (kE 3)).drop 32) (m:=1) (tx:=[]) m7 hX hs qr hD.2 ww ww (fun h=>absurd h ww)
 rcases q8 with⟨-,rfl,rfl,rfl⟩|⟨h,-⟩
 rotate_left
 ·exact absurd h ww
 rw[show fol (kE 1) 2 1 ((nxK (kE 1) (kE 3)).drop 32) (Kj (kE 4)) (.slice none 0 0)=W' from hW'.symm]at Z
 have Y:∀i,i<H7.length->(H8++[({c:=W'}:Ob)])[i]?=H7[i]? := fun i hi=>by rw[Qb qr,o8 i hi]
 have t6:=(((q6.ext o7).ext Y).part ww ww)
 have hb2:LN (H8++[({c:=W'}:Ob)]) v6=some (.string (ByteArray.mk #[116,101,120,116])):=OZ ⟨t6.shape,t6.reads⟩ fun i hi=>rfl
 obtain⟨H9,hH9⟩:∃G,G=H8++[({c:=W'}:Ob)]:=⟨_,rfl⟩
 rw[<-hH9]at hb2 Y
 have U:∀i,i<H5.length->H9[i]?=H5[i]? := fun i hi=>by rw[Y i qr,o7 i qr,o6 i hi]
 have g1:H1[0]?=some {c:=S}:=by rw[hH1];rfl
 have a1:∀o E:Ob,[o].set 0 E=[E]:=fun _ _=>rfl
 have g2:∀L:List Ob,(P2++L)[0]?=some {c:=S}:=fun L=>by rw[Qb qr];exact p2s
 have a2:∀o E:Ob,(P2++[o]).set P2.length E=P2++[E]:=fun _ _=>by rw[Q1 _ _ (Qj _),Qs];rfl
 have a2g:∀o:Ob,(P2++[o])[P2.length]?=some o:=fun _=>by rw[Qd (Qj _),Qs];rfl
 have g4:∀o:Ob,(H4++[o])[0]?=some {c:=S}:=fun o=>by rw[Qb qr,o4 _ qr];exact h3s
 have a4:∀o E:Ob,(H4++[o]).set 0 E=H4.set 0 E++[o]:=fun _ _=>Xd _ _ qr
 have a4g:∀o E:Ob,(H4.set 0 o++[E])[H4.length]?=some E:=fun _ _=>by rw[Qd (by rw[Qr];exact Qj _),Qr,Qs];rfl
 have a4s:∀o E o2:Ob,(H4.set 0 o++[E]).set H4.length o2=H4.set 0 o++[o2]:=fun _ _ _=>by rw[Q1 _ _ (by rw[Qr];exact Qj _),Qr,Qs];rfl
 have g5w:H5[P2.length]?=some {c:=W}:=by rw[o5 _ qr qr,o4 _ qr];exact h3w
 have g5f:H5[H4.length]?=some fo:=by rw[J,Qd (by rw[Qr];exact Qj _),Qr,Qs];rfl
 have g5s:H5[0]?=some {c:=S'}:=by rw[J,Qb (by rw[Qr];omega),Qu qr]
 have a6:∀o E:Ob,(H6++[o]).set H6.length E=H6++[E]:=fun _ _=>by rw[Q1 _ _ (Qj _),Qs];rfl
 have a6g:∀o:Ob,(H6++[o])[H6.length]?=some o:=fun _=>by rw[Qd (Qj _),Qs];rfl
 have g7w:H7[H6.length]?=some {c:=W'}:=by rw[hH7,Qd (Qj _),Qs];rfl
 have g7f:H7[H4.length]?=some fo:=by rw[o7 _ qr,o6 _ qr];exact g5f
 have a8:∀o E:Ob,(H8++[o]).set H8.length E=H8++[E]:=fun _ _=>by rw[Q1 _ _ (Qj _),Qs];rfl
 have a8g:∀o:Ob,(H8++[o])[H8.length]?=some o:=fun _=>by rw[Qd (Qj _),Qs];rfl
 have g9s:H9[0]?=some {c:=S'}:=(U 0 qr).trans g5s
 have g9w:H9[P2.length]?=some {c:=W}:=(U _ qr).trans g5w
 have g9v:H9[H6.length]?=some {c:=W'}:=(Y _ qr).trans g7w
 have nW:W[33]?=some (.int .u32 0):=by rw[hW];exact Vw hn.len
 have nW':W'[33]?=some (.int .u32 1):=by rw[hW'];exact Vw hn.len
 have lzs:K0.length=98:=rfl
 have lzf:Xs.length=5:=rfl
 have lzo:XG.length=99:=rfl
 have s1:splice K0 0 S=S:=QP (by rw[n0,lzs])
 have s2:splice XG 0 W=W:=QP (by rw[w0,lzo])
 have s3:splice S 0 S'=S':=QP (by rw[n0,n1])
 have s4:splice XG 0 W'=W':=QP (by rw[w1,lzo])
 have sp5:∀(a b c d e':Value),splice Xs 0 [a,b,c,d,e']=[a,b,c,d,e']:=fun _ _ _ _ _=>rfl
 have cl5:∀a b c d e':Value,Q5 5 [a,b,c,d,e']=[a,b,c,d,e']:=fun _ _ _ _ _=>rfl
 have t1:Q5 98 S=S:=Q7 n0
 have t2:Q5 99 W=W:=Q7 w0
 have t4:Q5 99 W'=W':=Q7 w1
 have hfc:fo.c=[.int .i64 5,.slice ik 1 1,.slice ina 2 2,.slice is 1 1,v]:=by rw[I]
 have hfl:fo.live=true:=by rw[I]
 have hfo2:=I.symm
 have ok1:∀L:List Value,(Value.agg L.toArray).cells.toList=L:=fun _=>rfl
 have ok2:∀L:List Value,(Value.agg L.toArray).cells.size=L.length:=fun _=>rfl
 have ok3:∀L:List Value,okVar (Value.agg L.toArray)=true:=fun _=>rfl
 have l1:=IZ 1
 have l2:=IZ 3
 have l3':=IZ 4
 have r1:rf (.agg S.toArray)=true:=by rw[hS];exact xh
 have h1:=hH1.symm
 have h3:=O.symm
 have h5:=J.symm
 have h7:=hH7.symm
 have h9:=hH9.symm
 clear hH1 hP1 hP2 O J hH7 hH9 hS hW hS' hW' F m4 m5 m7 o4 o5 o6 o7 o8 Y U q6 t6 I hn hk hs hX hD h3w h3s p2s
 simp only[D3]at hse hop Z
 generalize kE 1=K1,kE 3=K3,kE 4=K4 at *
 generalize TL=tx at *
 apply Zb (fn:=zj) rfl
 simp only[zj,Qv,quiet,cW,↓pW,reduceCtorEq,seval,-Qa,hz,f1,f3,f4,ft,hst,hsh,hfo,hse,hop,Z,hb2,h3t,g1,a1,g2,a2,a2g,g4,a4,a4g,a4s,g5w,g5f,a6,a6g,g7w,g7f,a8,a8g,g9s,g9w,g9v,nW,nW',hnum1,lzs,lzf,lzo,s1,s2,s3,s4,sp5,cl5,t1,t2,t4,hfc,hfl,hfo2,ok1,ok2,ok3,n0,n1,w0,w1,h1,h3,h5,h7,h9,r1]
 rfl
end
end Go.Ev.YtkbifkljlfmeiaaGreat
namespace Go.Ev
open Go.RowKit Go.WideShapes Go.ChangeShapes
structure Rows8(w:World)(a:Addr)(len cap:Nat)(A:Nat->Option Addr)(L C:Nat->Nat)(B:Nat->List Nat):Prop where
 spot:a.spot=none
 at_:∃cs e fr,w.heap[a.block]?=some (.cells cs e fr)/\(cap=0\/a.off+cap<=cs.size)
 le:len<=cap
 max:cap<=maxLen
 cell:∀r,r<len->w.cell? (a.add r)=some (.slice (A r) (L r) (C r))
 row:∀r,r<len->L r<=C r/\C r<=maxLen/\(B r).length=L r/\(∀x∈B r,x<256)/\(A r=none->C r=0) /\
  ∀a',A r=some a'->(∀c,c<C r->∃v,w.cell? (a'.add c)=some v)/\∀(c x:Nat),(B r)[c]?=some x->w.cell? (a'.add c)=some (.int .u8 (x:Nat))
section
variable{P:Program}
end
end Go.Ev
namespace Go.Ev.YtkbifkljlfmeiaaGreat
open Go Go.Ev
set_option maxRecDepth 100000
def keyN(nm key:List Nat):Nat->List Nat
 |0=>key
 |i+1=>(nxK nm (keyN nm key i)).drop 32
def SB{nm key:List Nat}(E:B32 key):∀i,B32 (keyN nm key i)
 |0=>E
 |i+1=>A6 _ _
def Frs(B:Nat)(G:List Ob)(v:Value)(k:Nat)(t:List Value):Prop:=(k=0/\v=.slice none 0 0/\t=[])\/∃id,v=.slice (id:Nat) k k/\B<=id/\G[id]?=some ⟨t,true,true,false,5⟩/\t.length=5*k/\0<k
def Frs.keep{B k:Nat}{G G':List Ob}{v:Value}{t:List Value}(h:Frs B G v k t)(I:∀i o,B<=i->G[i]?=some o->o.es=5->G'[i]?=some o):Frs B G' v k t:=by
 rcases h with h|⟨id,U,E,O,J⟩
 ·exact .inl h
 ·exact .inr ⟨id,U,E,I id _ E O rfl,J⟩
def Ow{α:Type}{n:Nat}:∀ {L:List (List α)} {i:Nat} {P:List α},(∀x∈L,x.length=n)->L[i]?=some P->Q5 n (ZT (i*n) L.flatten)=P/\i*n+n<=L.flatten.length
 |[],i,P,_,h=>by simp at h
 |x::L,0,P,E,h=>by
  simp at h
  subst h
  have:=E x wd
  exact⟨by rw[KA,Jt,QO,X4 this],by rw[QO,Qh];omega⟩
 |x::L,i+1,P,E,h=>by
  have I:=E x wd
  obtain⟨O,U⟩:=Ow (fun y J=>E y (KZ _ J)) (L:=L) (i:=i) (P:=P) (by simpa using h)
  refine⟨?_,by rw[QO,Qh,MA];omega⟩
  rw[QO,MA,Xu,<-Kp,XL I,O]
end Go.Ev.YtkbifkljlfmeiaaGreat
